/- The walks: each function computes its plain function. -/
import Derived.Test.YtgijeiamflmkeaaGreatDoorXWc
namespace Go.Proofs.YtgijeiamflmkeaaGreatDoor
open Go.RowKit
set_option maxRecDepth 100000
set_option maxHeartbeats 1000000
theorem zO(N:Nat){w:Bs}(p0:(List bW))(d:Option Addr)(f:Nat)(i:Sl w.R w.W fe d f p0)(r:Int)(H:og N p0=some r)(hE:HF w w.W E0):Calls Tryz.prog 48 [sL d p0 f].toArray w.W fun e W'=>e= .returned (iv r)∧HF w W' E0:=by
 unfold og at H
 have leB:=Bs.Le.refl w
 refine aX (n:=46) Tryz.func48 Z Z Z hE (aj (Tr.k Z (ae (aa (az (aj (aA Z (aD (bA Ov) Z (av dE Z Z (ae (aa (aN Z H (fun H=>?_) (fun H=>?_)))))))))))))
 ·refine aj (Tr.k Z (ae (aa (aJ (ai ?_)))))
  obtain rfl:=oI H
  exact bD leB
 ·refine aM (aa (az (aj (aA Z (aD (bA Ov) Z (aA Z (ae (aa (Tr.block (cO (σ:=(List bW)×Nat) (fun m w s=>m=s.1.length+1∧s.1=List.drop s.2 p0∧s.2≤p0.length∧ib N p0 s.1 s.2=some r) (fun s=>[(0,sL d p0 f),(8,sL d p0 f),(9,iv (p0.length:Int)),(10,iv (s.2:Int))]) (fun s=>[]) (p0.length+1) (p0,0) ⟨Z,Z,Nat.zero_le _,H⟩ (.r Z) .nil (fun _ _ h=>absurd h.1 (by simp)) ?_))))))))))
  intro w u m s hs
  obtain⟨g,p⟩:=s
  obtain⟨v,j,M,H⟩:=hs
  replace j:g=List.drop p p0:=j
  replace H:ib N p0 g p=some r:=H
  replace v:m+1=g.length+1:=v
  replace i:=i.iR u
  replace leB:=leB.trans u
  obtain rfl:m=g.length:=by omega
  clear v
  dsimp only
  cases g with
  |nil=>
   rw[ib.eq_1] at H
   refine aj (av bi Z Z (ae (aa (az (dn Z (cz j) (bZ (aF (aF (bg (aa (aj (Tr.k Z (ae (aa (aJ ?_)))))))))))))))
   obtain rfl:=oI H
   exact bD leB
  | cons b g=>
   rw[ib.eq_2] at H
   refine aj (av bi Z Z (ae (aa (az (dm Z (dz j) (aM (aa (az (Tr.block (aj (aA Z (aC Z (fun _ _ a c=>aB JR (a.ev Z) i.form (a.ev Z) (Int.natCast_nonneg _) (bq j)) (aC Z (fun _ _ a c=>aL (cs:=[sv b.Name,iv b.W,iv b.H]) FW wY (a.ev Z) (aI.take (pq o6 i (dA j) c) 3) Z) (Tr.alloc 2 (wn Z) Z Lb fun t=>(Tr.k Z (bv 2 (cs:=[sv b.Name,iv b.W,iv b.H]) [sv b.Name,iv b.W,iv b.H] (wn Z) Z Z Z Z wY Z Z Z (ae (aa (Tr.block (aj (aD (ag Dx) Z (aC Z (fun _ _ a c=>ah jD (a.ev Z) (bN c (vs:=[sv b.Name,iv b.W,iv b.H]) (k:=2) Z 0) Z) ?_))))))))))))))))))))))
   obtain⟨A,G,H⟩:=bnd H
   refine aS (r:=(bV A)) (wn Z) Z Tryz.call96 (ak Z aH) (fun W hW=>yH N b.Name A G (HF.start _)) (aD bT Z (Tr.k Z (ae (aa (aN Z H (fun H=>?_) (fun H=>?_))))))
   ·refine aj (Tr.k Z (ae (aa (aJ (au (au (ai (ai (au (ai ?_))))))))))
    obtain rfl:=oI H
    exact bD leB
   ·refine aj (aD (ag y5) Z (aC Z (fun _ _ a c=>ah bF (a.ev Z) (bN c (vs:=[sv b.Name,iv b.W,iv b.H]) (k:=2) Z 1) Z) ?_))
    obtain⟨y,I,H⟩:=bnd H
    refine aS (r:=(bV y)) (wn Z) Z Tryz.call22 (ak Z (ak Z (ak Z aH))) (fun W hW=>fI b.W 1 1000000 y I (HF.start _)) (aD bT Z (aA Z ?_))
    obtain⟨B,l,H⟩:=bnd H
    refine bM 5 [(0,sL d p0 f),(3,iv (p:Int)),(4,pV t),(8,sL d p0 f),(9,iv (p0.length:Int)),(10,iv (p:Int)),(30,bV B)] [(2,bx t #[sv b.Name,iv b.W,iv b.H] 67)] ?_ ?_
    ·cases q:(!y)
     ·rw[q] at l
      rw[if_neg (by decide)] at l
      have H:=l
      refine bC (ag yZ) Z (Tr.x (fun _ _ a c=>ah bF (a.ev Z) (bN c (vs:=[sv b.Name,iv b.W,iv b.H]) (k:=2) Z 2) Z) ?_)
      obtain⟨C,J,H⟩:=bnd H
      refine aS (r:=(bV C)) (wg Z Z Z) Z Tryz.call22 (ak Z (ak Z (ak Z aH))) (fun W hW=>fI b.H 1 1000000 C J (HF.start _)) (bC bT Z (av aU Z Z ?_))
      obtain rfl:=oI H
      exact ae (aR (.r Z) (.r Z))
     ·rw[q] at l
      rw[if_pos Z] at l
      have H:=l
      obtain rfl:=oI H
      exact aG Z (aG Z (aG Z (aG Z (av aT Z Z (ae (aR (.r Z) (.r Z)))))))
    ·show Tr _ _ (LF [(0,sL d p0 f),(3,iv (p:Int)),(4,pV t),(8,sL d p0 f),(9,iv (p0.length:Int)),(10,iv (p:Int)),(30,bV B)]) (LE [(2,bx t #[sv b.Name,iv b.W,iv b.H] 67)]) _
     refine Tr.k Z (ae (aa (aN Z H (fun H=>?_) (fun H=>?_))))
     ·refine aj (Tr.k Z (ae (aa (aJ (au (au (ai (ai (au (ai ?_))))))))))
      obtain rfl:=oI H
      exact bD leB
     ·refine az (fZ (by kernel_rfl) (by kernel_rfl) (dY Z (dL dE Z Z (dY Z ?_))))
      obtain⟨L,o,H⟩:=bnd H
      refine mi 10 [(0,sL d p0 f),(8,sL d p0 f),(9,iv (p0.length:Int)),(10,iv (p:Int)),(44,bV L)] ?_ ?_
      ·cases q:(decide (0<(p:Int)))
       ·rw[q] at o
        rw[if_neg (by decide)] at o
        have H:=o
        obtain rfl:=oI H
        exact bB Z (bB Z (bB Z (bB Z (bB Z (bB Z (bB Z (bB Z (bB Z (dL aU Z Z (bK (.r Z)))))))))))
       ·rw[q] at o
        rw[if_pos Z] at o
        have H:=o
        refine dJ (ag Dx) Z (Tq.x (fun _ _ a c=>ah jD (a.ev Z) (bN c (vs:=[sv b.Name,iv b.W,iv b.H]) (k:=2) Z 0) Z) (dJ run_move Z (dJ run_move Z (lg gH Z Z ?_))))
        obtain⟨O,K,H⟩:=bnd H
        obtain⟨D,E,F⟩:=bJ K
        refine Tq.x (fun _ _ a c=>aB JR (a.ev Z) i.form (a.ev Z) D E) (dJ (ag Dx) Z (Tq.x (fun _ _ a c=>ah jD (a.ev Z) (aI.drop (pq o6 i F c) 0) Z) (lg pI Z Z (dL aT Z Z ?_))))
        obtain rfl:=oI H
        exact bK (.r Z)
      ·refine jB Z Z (gz (aa (aN Z H (fun H=>?_) (fun H=>?_))))
       ·refine aj (Tr.k Z (ae (aa (aJ (au (au (ai (ai (au (ai ?_))))))))))
        obtain rfl:=oI H
        exact bD leB
       ·exact aM (aQ (aQ (aa (aV (av bE Z Z (aA Z (ae (aP u (g,(p+1)) ⟨Z,df j,bq j,H⟩ (.cons Z (.cons Z (.cons Z (.cons (congrArg (fun z=>some (Value.int .i64 z)) (cZ j i.form)) .nil)))) .nil))))))))

theorem BK{w:Bs}(p0:bW)(q0:ByteArray)(xI:Nat)(hb0:w.R xI)(hc0:aI w.W xI 0 [sv q0])(r:Bool)(H:qf p0 q0=some r)(hE:HF w w.W E0):Calls Tryz.prog 104 [.agg #[sv p0.Name,iv p0.W,iv p0.H],pV xI].toArray w.W fun e W'=>e= .returned (bV r)∧HF w W' E0:=by
 unfold qf at H
 have leB:=Bs.Le.refl w
 refine aX (n:=8) Tryz.func104 Z Z Z hE (aj (dh 1 (cs:=[sv p0.Name,iv p0.W,iv p0.H]) (wn Z) Z Z Z fun b=>(Tr.k Z (ae (aa (aj (aD (ag Dx) Z (aC Z (fun _ _ a c=>ah jD (a.ev Z) (bN c (vs:=[sv p0.Name,iv p0.W,iv p0.H]) (k:=1) Z 0) Z) (aC Z (fun _ _ a c=>ah jD (a.ev Z) (tY hb0 hc0 c) Z) (av GN Z Z (Tr.k Z (ae (aa (aJ ?_))))))))))))))
 obtain rfl:=oI H
 exact bD leB

theorem uG{w:Bs}(p0:(List bW))(g:Option Addr)(i:Nat)(f:Sl w.R w.W fe g i p0)(p1:bW→Option Bool)(fid1:Nat)(j:List Value)(hg1:∀args W,(callFunc fid1 args).run Tryz.prog W= .ok (.enter fid1 args) W)(hf1:∀(w':Bs),w.Ext w'→∀(z0:bW),∀y,p1 z0=some y→Calls Tryz.prog fid1 (([.agg #[sv z0.Name,iv z0.W,iv z0.H]]:List Value)++j).toArray w'.W fun e W''=>e= .returned (bV y)∧HF w' W'' E0)(r:Int)(H:kW p0 p1=some r)(hE:HF w w.W E0):Calls Tryz.prog 103 [sL g p0 i,.func (.func fid1) #[] j.toArray].toArray w.W fun e W'=>e= .returned (iv r)∧HF w W' E0:=by
 unfold kW at H
 have leB:=Bs.Le.refl w
 refine aX (n:=19) Tryz.func103 Z Z Z hE (aj (Tr.k Z (ae (aa (az (aj (aA Z (aD (bA Ov) Z (aA Z (ae (aa (Tr.block (cO (σ:=(List bW)×Nat) (fun m w s=>m=s.1.length+1∧s.1=List.drop s.2 p0∧s.2≤p0.length∧eF p1 s.1 s.2=some r) (fun s=>[(0,sL g p0 i),(1,.func (.func fid1) #[] j.toArray),(7,iv (p0.length:Int)),(8,iv (s.2:Int))]) (fun s=>[]) (p0.length+1) (p0,0) ⟨Z,Z,Nat.zero_le _,H⟩ (.r Z) .nil (fun _ _ h=>absurd h.1 (by simp)) ?_)))))))))))))
 intro w l m s hs
 obtain⟨b,p⟩:=s
 obtain⟨o,d,v,H⟩:=hs
 replace d:b=List.drop p p0:=d
 replace H:eF p1 b p=some r:=H
 replace o:m+1=b.length+1:=o
 replace f:=f.iR l
 replace hf1:=fun w' he=>hf1 w' (l.ext.trans he)
 replace leB:=leB.trans l
 obtain rfl:m=b.length:=by omega
 clear o
 dsimp only
 cases b with
 |nil=>
  rw[eF.eq_1] at H
  refine aj (av bi Z Z (ae (aa (az (dn Z (cz d) (bZ (aF (aF (bg (aa (aj (Tr.k Z (ae (aa (aJ ?_)))))))))))))))
  obtain rfl:=oI H
  exact bD leB
 | cons q b=>
  rw[eF.eq_2] at H
  refine aj (av bi Z Z (ae (aa (az (dm Z (dz d) (aM (aa (az (Tr.block (aj (aA Z (Tr.k Z (ae (aa (aj (aA Z (aA Z (aA Z (aC Z (fun _ _ a c=>aB JR (a.ev Z) f.form (a.ev Z) (Int.natCast_nonneg _) (bq d)) (aC Z (fun _ _ a c=>aL (cs:=[sv q.Name,iv q.W,iv q.H]) FW wY (a.ev Z) (aI.take (pq o6 f (dA d) c) 3) Z) ?_))))))))))))))))))))
  obtain⟨u,t,H⟩:=bnd H
  refine kC (r:=(bV u)) (wn Z) Z Z hg1 (ak Z aH) (fun W hW=>hf1 hW.all hW.aY q _ t) (ae (aa (aN Z H (fun H=>?_) (fun H=>?_))))
  ·refine aj (aA Z (Tr.k Z (ae (aa (aJ (au (ai (ai (au (ai ?_))))))))))
   obtain rfl:=oI H
   exact bD leB
  ·exact aM (aQ (aa (aV (av bE Z Z (aA Z (ae (aP l (b,(p+1)) ⟨Z,df d,bq d,H⟩ (.cons Z (.cons Z (.cons Z (.cons (congrArg (fun z=>some (Value.int .i64 z)) (cZ d f.form)) .nil)))) .nil)))))))

theorem uB{w:Bs}(p0:dw)(b:Option Addr)(d:Nat)(o:Sl w.R w.W fe b d p0.Kinds)(f:Option Addr)(g:Nat)(q:Sl w.R w.W lG f g p0.Slots)(h:Option Addr)(i:Nat)(s:Sl w.R w.W dP h i p0.Marks)(p1:ByteArray)(r:Int)(H:mQ p0 p1=some r)(hE:HF w w.W E0):Calls Tryz.prog 55 [.agg #[iv p0.W,iv p0.H,iv p0.Rail,iv p0.Gap,sL b p0.Kinds d,sL f p0.Slots g,sL h p0.Marks i],sv p1].toArray w.W fun e W'=>e= .returned (iv r)∧HF w W' E0:=by
 unfold mQ at H
 have leB:=Bs.Le.refl w
 refine aX (n:=9) Tryz.func55 Z Z Z hE (aj (dh 1 (cs:=[iv p0.W,iv p0.H,iv p0.Rail,iv p0.Gap,sL b p0.Kinds d,sL f p0.Slots g,sL h p0.Marks i]) (wn Z) Z Z Z fun t=>(dh 2 (cs:=[sv p1]) (wn Z) Z Z Z fun j=>(Tr.k Z (ae (aa (aj (aD (ag Dz) Z (aC Z (fun _ _ a c=>ah MU (a.ev Z) (bN c (vs:=[iv p0.W,iv p0.H,iv p0.Rail,iv p0.Gap,sL b p0.Kinds d,sL f p0.Slots g,sL h p0.Marks i]) (k:=1) Z 4) Z) (rO (vs:=[pV j]) (wn Z) Z (ak Z aH) ?_))))))))))
 obtain⟨l,p,H⟩:=bnd H
 refine aS (r:=(iv l)) (wn Z) Z Tryz.call103 (ak Z (ak Z aH)) (fun W hW=>uG p0.Kinds b d (o.ext hW.aY) (fun z0=>qf z0 p1) 104 [pV j] Tryz.call104 (fun w' he z0 y hy=>BK z0 p1 j (he.r _ (hW.AC (k:=2) Z)) (he.cells (hW.AC (k:=2) Z) (hW.Jd (k:=2) Z)) y hy (HF.start _)) l p (HF.start _)) (Tr.k Z (ae (aa (aJ ?_))))
 obtain rfl:=oI H
 exact bD leB

theorem Ev{w:Bs}(p0:bW)(p1:Int)(r:(Int×Int))(H:rE p0 p1=some r)(hE:HF w w.W E0):Calls Tryz.prog 151 [.agg #[sv p0.Name,iv p0.W,iv p0.H],iv p1].toArray w.W fun e W'=>e= .returned (.tuple #[iv r.1,iv r.2])∧HF w W' E0:=by
 unfold rE at H
 have leB:=Bs.Le.refl w
 refine aX (n:=17) Tryz.func151 Z Z Z hE (aj (dh 1 (cs:=[sv p0.Name,iv p0.W,iv p0.H]) (wn Z) Z Z Z fun b=>(Tr.k Z (Tr.k Z (ae (aa (az (aj (aA Z (aC Z (fun _ _ a c=>Kn (a.ev Z) (a.ev Z) (by decide)) (av dM Z Z (ae (aa (aN Z H (fun H=>?_) (fun H=>?_)))))))))))))))
 ·refine az (fZ (by kernel_rfl) (by kernel_rfl) (dD (ag yZ) Z (bL Z (fun _ _ a c=>ah bF (a.ev Z) (bN c (vs:=[sv p0.Name,iv p0.W,iv p0.H]) (k:=1) Z 2) Z) (dD (ag y5) Z (bL Z (fun _ _ a c=>ah bF (a.ev Z) (bN c (vs:=[sv p0.Name,iv p0.W,iv p0.H]) (k:=1) Z 1) Z) (jB Z Z (jB Z Z (gz (aa (aJ (ai ?_)))))))))))
  obtain rfl:=oI H
  exact bR (m:=[iv p0.H,iv p0.W]) [] (bu Z (bu Z bG)) (fun W hW=>⟨Z,hW.low leB⟩)
 ·refine aM (aa (az (fZ (by kernel_rfl) (by kernel_rfl) (dD (ag y5) Z (bL Z (fun _ _ a c=>ah bF (a.ev Z) (bN c (vs:=[sv p0.Name,iv p0.W,iv p0.H]) (k:=1) Z 1) Z) (dD (ag yZ) Z (bL Z (fun _ _ a c=>ah bF (a.ev Z) (bN c (vs:=[sv p0.Name,iv p0.W,iv p0.H]) (k:=1) Z 2) Z) (jB Z Z (jB Z Z (gz (aa (aJ ?_))))))))))))
  obtain rfl:=oI H
  exact bR (m:=[iv p0.W,iv p0.H]) [] (bu Z (bu Z bG)) (fun W hW=>⟨Z,hW.low leB⟩)

theorem Ex{w:Bs}(p0:dw)(d:Option Addr)(f:Nat)(l:Sl w.R w.W fe d f p0.Kinds)(g:Option Addr)(h:Nat)(u:Sl w.R w.W lG g h p0.Slots)(i:Option Addr)(j:Nat)(v:Sl w.R w.W dP i j p0.Marks)(p1:jH)(r:aO)(H:qg p0 p1=some r)(hE:HF w w.W E0):Calls Tryz.prog 97 [.agg #[iv p0.W,iv p0.H,iv p0.Rail,iv p0.Gap,sL d p0.Kinds f,sL g p0.Slots h,sL i p0.Marks j],.agg #[sv p1.Board,iv p1.Quarters,iv p1.At.X,iv p1.At.Y]].toArray w.W fun e W'=>e= .returned (.agg #[iv r.X0,iv r.Y0,iv r.X1,iv r.Y1])∧HF w W' E0:=by
 unfold qg at H
 have leB:=Bs.Le.refl w
 refine aX (n:=38) Tryz.func97 Z Z Z hE (aj (dh 1 (cs:=[iv p0.W,iv p0.H,iv p0.Rail,iv p0.Gap,sL d p0.Kinds f,sL g p0.Slots h,sL i p0.Marks j]) (wn Z) Z Z Z fun B=>(dh 2 (cs:=[sv p1.Board,iv p1.Quarters,iv p1.At.X,iv p1.At.Y]) (wn Z) Z Z Z fun C=>(Tr.alloc 3 (wn Z) Z tQ fun D=>(ae (aa (az (fZ (by kernel_rfl) (by kernel_rfl) (dD (ag Dz) Z (bL Z (fun _ _ a c=>ah MU (a.ev Z) (bN c (vs:=[iv p0.W,iv p0.H,iv p0.Rail,iv p0.Gap,sL d p0.Kinds f,sL g p0.Slots h,sL i p0.Marks j]) (k:=1) Z 4) Z) (bL Z (fun _ _ a c=>aL (cs:=[iv p0.W,iv p0.H,iv p0.Rail,iv p0.Gap,sL d p0.Kinds f,sL g p0.Slots h,sL i p0.Marks j]) uJ uI (a.ev Z) (aI.take (bN c (vs:=[iv p0.W,iv p0.H,iv p0.Rail,iv p0.Gap,sL d p0.Kinds f,sL g p0.Slots h,sL i p0.Marks j]) (k:=1) Z 0) 7) Z) ?_)))))))))))
 refine dD (ag Dy) Z (bL Z (fun _ _ a c=>ah jD (a.ev Z) (bN c (vs:=[sv p1.Board,iv p1.Quarters,iv p1.At.X,iv p1.At.Y]) (k:=2) Z 0) Z) ?_)
 obtain⟨p,y,H⟩:=bnd H
 refine lH (r:=(iv p)) (wn Z) Z Tryz.call55 (ak Z (ak Z aH)) (fun W hW=>uB p0 d f (l.ext hW.aY) g h (u.ext hW.aY) i j (v.ext hW.aY) p1.Board p y (HF.start _)) ?_
 obtain⟨o,z,H⟩:=bnd H
 obtain⟨q,s,t⟩:=bJ z
 refine bL Z (fun _ _ a c=>aB JR (a.ev Z) l.form (a.ev Z) q s) (bL Z (fun _ _ a c=>aL (cs:=[sv o.Name,iv o.W,iv o.H]) FW wY (a.ev Z) (aI.take (pq o6 l t c) 3) Z) (dD (ag Gj) Z (bL Z (fun _ _ a c=>ah bF (a.ev Z) (bN c (vs:=[sv p1.Board,iv p1.Quarters,iv p1.At.X,iv p1.At.Y]) (k:=2) Z 1) Z) ?_)))
 obtain⟨b,A,H⟩:=bnd H
 refine lH (r:=(.tuple #[iv b.1,iv b.2])) (wn Z) Z Tryz.call151 (ak Z (ak Z aH)) (fun W hW=>Ev o p1.Quarters b A (HF.start _)) (dY Z (bL Z (fun _ _ a c=>bX (a.ev Z) Z) (bL Z (fun _ _ a c=>bX (a.ev Z) Z) (jB Z Z (jB Z Z (gz (aa (aj (aD (ag y7) Z (aD (ag fU) Z (aC Z (fun _ _ a c=>ah bF (a.ev Z) (bN c (vs:=[sv p1.Board,iv p1.Quarters,iv p1.At.X,iv p1.At.Y]) (k:=2) Z 2) Z) (aD (ag y7) Z (aD (ag fT) Z (aC Z (fun _ _ a c=>ah bF (a.ev Z) (bN c (vs:=[sv p1.Board,iv p1.Quarters,iv p1.At.X,iv p1.At.Y]) (k:=2) Z 3) Z) (aD (ag y7) Z (aD (ag fU) Z (aC Z (fun _ _ a c=>ah bF (a.ev Z) (bN c (vs:=[sv p1.Board,iv p1.Quarters,iv p1.At.X,iv p1.At.Y]) (k:=2) Z 2) Z) (aA Z (av bE Z Z (aD (ag y7) Z (aD (ag fT) Z (aC Z (fun _ _ a c=>ah bF (a.ev Z) (bN c (vs:=[sv p1.Board,iv p1.Quarters,iv p1.At.X,iv p1.At.Y]) (k:=2) Z 3) Z) ?_))))))))))))))))))))))
 refine aA Z (av bE Z Z (gV (vs:=[(0,iv p1.At.X),(1,iv p1.At.Y),(2,iv (bP (p1.At.X+b.1))),(3,iv (bP (p1.At.Y+b.2)))]) (cs:=[iv p1.At.X,iv p1.At.Y,iv (bP (p1.At.X+b.1)),iv (bP (p1.At.Y+b.2))]) (wn Z) Z (bQ Z (bQ Z (bQ Z (bQ Z dR)))) (by kernel_rfl) (bv 3 (cs:=[iv p1.At.X,iv p1.At.Y,iv (bP (p1.At.X+b.1)),iv (bP (p1.At.Y+b.2))]) [iv p1.At.X,iv p1.At.Y,iv (bP (p1.At.X+b.1)),iv (bP (p1.At.Y+b.2))] (wn Z) Z Z Z Z jy Z Z Z (ae (aa (aJ ?_))))))
 obtain rfl:=oI H
 exact bR (m:=[.agg #[iv p1.At.X,iv p1.At.Y,iv (bP (p1.At.X+b.1)),iv (bP (p1.At.Y+b.2))]]) [3] (fJ Z Z o9 jy bG) (fun W hW=>⟨Z,hW.low leB⟩)

theorem Ga{w:Bs}(p0:dw)(b:Option Addr)(d:Nat)(p:Sl w.R w.W fe b d p0.Kinds)(f:Option Addr)(g:Nat)(q:Sl w.R w.W lG f g p0.Slots)(h:Option Addr)(i:Nat)(s:Sl w.R w.W dP h i p0.Marks)(p1:aO)(r:Bool)(H:uC p0 p1=some r)(hE:HF w w.W E0):Calls Tryz.prog 98 [.agg #[iv p0.W,iv p0.H,iv p0.Rail,iv p0.Gap,sL b p0.Kinds d,sL f p0.Slots g,sL h p0.Marks i],.agg #[iv p1.X0,iv p1.Y0,iv p1.X1,iv p1.Y1]].toArray w.W fun e W'=>e= .returned (bV r)∧HF w W' E0:=by
 unfold uC at H
 have leB:=Bs.Le.refl w
 refine aX (n:=51) Tryz.func98 Z Z Z hE (aj (dh 1 (cs:=[iv p0.W,iv p0.H,iv p0.Rail,iv p0.Gap,sL b p0.Kinds d,sL f p0.Slots g,sL h p0.Marks i]) (wn Z) Z Z Z fun j=>(dh 2 (cs:=[iv p1.X0,iv p1.Y0,iv p1.X1,iv p1.Y1]) (wn Z) Z Z Z fun l=>(Tr.k Z (ae (aa (aj (aD (ag kU) Z (aC Z (fun _ _ a c=>ah bF (a.ev Z) (bN c (vs:=[iv p1.X0,iv p1.Y0,iv p1.X1,iv p1.Y1]) (k:=2) Z 0) Z) (aD (ag DC) Z (aC Z (fun _ _ a c=>ah bF (a.ev Z) (bN c (vs:=[iv p0.W,iv p0.H,iv p0.Rail,iv p0.Gap,sL b p0.Kinds d,sL f p0.Slots g,sL h p0.Marks i]) (k:=1) Z 2) Z) (av kG Z Z (aA Z (bM 6 [(2,pV j),(3,pV l),(16,bV ((decide (p0.Rail≤p1.X0))&&(decide (p0.Rail≤p1.Y0))))] [(1,bx j #[iv p0.W,iv p0.H,iv p0.Rail,iv p0.Gap,sL b p0.Kinds d,sL f p0.Slots g,sL h p0.Marks i] 48),(2,bx l #[iv p1.X0,iv p1.Y0,iv p1.X1,iv p1.Y1] 77)] ?_ ?_))))))))))))))
 ·cases o:(decide (p0.Rail≤p1.X0))
  ·exact aG Z (aG Z (aG Z (aG Z (aG Z (av aU Z Z (ae (aR (.r Z) (.r Z))))))))
  ·exact bC (ag lW) Z (Tr.x (fun _ _ a c=>ah bF (a.ev Z) (bN c (vs:=[iv p1.X0,iv p1.Y0,iv p1.X1,iv p1.Y1]) (k:=2) Z 1) Z) (bC (ag DC) Z (Tr.x (fun _ _ a c=>ah bF (a.ev Z) (bN c (vs:=[iv p0.W,iv p0.H,iv p0.Rail,iv p0.Gap,sL b p0.Kinds d,sL f p0.Slots g,sL h p0.Marks i]) (k:=1) Z 2) Z) (dI kG Z Z (av aT Z Z (ae (aR (.r Z) (.r Z))))))))
 ·show Tr _ _ (LF [(2,pV j),(3,pV l),(16,bV ((decide (p0.Rail≤p1.X0))&&(decide (p0.Rail≤p1.Y0))))]) (LE [(1,bx j #[iv p0.W,iv p0.H,iv p0.Rail,iv p0.Gap,sL b p0.Kinds d,sL f p0.Slots g,sL h p0.Marks i] 48),(2,bx l #[iv p1.X0,iv p1.Y0,iv p1.X1,iv p1.Y1] 77)]) _
  refine aA Z (bM 6 [(2,pV j),(3,pV l),(23,bV (((decide (p0.Rail≤p1.X0))&&(decide (p0.Rail≤p1.Y0)))&&(decide (p1.X0≤p0.W))))] [(1,bx j #[iv p0.W,iv p0.H,iv p0.Rail,iv p0.Gap,sL b p0.Kinds d,sL f p0.Slots g,sL h p0.Marks i] 48),(2,bx l #[iv p1.X0,iv p1.Y0,iv p1.X1,iv p1.Y1] 77)] ?_ ?_)
  ·cases o:((decide (p0.Rail≤p1.X0))&&(decide (p0.Rail≤p1.Y0)))
   ·exact aG Z (aG Z (aG Z (aG Z (aG Z (av aU Z Z (ae (aR (.r Z) (.r Z))))))))
   ·exact bC (ag kU) Z (Tr.x (fun _ _ a c=>ah bF (a.ev Z) (bN c (vs:=[iv p1.X0,iv p1.Y0,iv p1.X1,iv p1.Y1]) (k:=2) Z 0) Z) (bC (ag DF) Z (Tr.x (fun _ _ a c=>ah bF (a.ev Z) (bN c (vs:=[iv p0.W,iv p0.H,iv p0.Rail,iv p0.Gap,sL b p0.Kinds d,sL f p0.Slots g,sL h p0.Marks i]) (k:=1) Z 0) Z) (dI iT Z Z (av aT Z Z (ae (aR (.r Z) (.r Z))))))))
  ·show Tr _ _ (LF [(2,pV j),(3,pV l),(23,bV (((decide (p0.Rail≤p1.X0))&&(decide (p0.Rail≤p1.Y0)))&&(decide (p1.X0≤p0.W))))]) (LE [(1,bx j #[iv p0.W,iv p0.H,iv p0.Rail,iv p0.Gap,sL b p0.Kinds d,sL f p0.Slots g,sL h p0.Marks i] 48),(2,bx l #[iv p1.X0,iv p1.Y0,iv p1.X1,iv p1.Y1] 77)]) _
   refine aA Z (bM 6 [(2,pV j),(3,pV l),(30,bV ((((decide (p0.Rail≤p1.X0))&&(decide (p0.Rail≤p1.Y0)))&&(decide (p1.X0≤p0.W)))&&(decide (p1.Y0≤p0.H))))] [(1,bx j #[iv p0.W,iv p0.H,iv p0.Rail,iv p0.Gap,sL b p0.Kinds d,sL f p0.Slots g,sL h p0.Marks i] 48),(2,bx l #[iv p1.X0,iv p1.Y0,iv p1.X1,iv p1.Y1] 77)] ?_ ?_)
   ·cases o:(((decide (p0.Rail≤p1.X0))&&(decide (p0.Rail≤p1.Y0)))&&(decide (p1.X0≤p0.W)))
    ·exact aG Z (aG Z (aG Z (aG Z (aG Z (av aU Z Z (ae (aR (.r Z) (.r Z))))))))
    ·exact bC (ag lW) Z (Tr.x (fun _ _ a c=>ah bF (a.ev Z) (bN c (vs:=[iv p1.X0,iv p1.Y0,iv p1.X1,iv p1.Y1]) (k:=2) Z 1) Z) (bC (ag DD) Z (Tr.x (fun _ _ a c=>ah bF (a.ev Z) (bN c (vs:=[iv p0.W,iv p0.H,iv p0.Rail,iv p0.Gap,sL b p0.Kinds d,sL f p0.Slots g,sL h p0.Marks i]) (k:=1) Z 1) Z) (dI iT Z Z (av aT Z Z (ae (aR (.r Z) (.r Z))))))))
   ·show Tr _ _ (LF [(2,pV j),(3,pV l),(30,bV ((((decide (p0.Rail≤p1.X0))&&(decide (p0.Rail≤p1.Y0)))&&(decide (p1.X0≤p0.W)))&&(decide (p1.Y0≤p0.H))))]) (LE [(1,bx j #[iv p0.W,iv p0.H,iv p0.Rail,iv p0.Gap,sL b p0.Kinds d,sL f p0.Slots g,sL h p0.Marks i] 48),(2,bx l #[iv p1.X0,iv p1.Y0,iv p1.X1,iv p1.Y1] 77)]) _
    refine aA Z (bM 9 [(2,pV j),(3,pV l),(40,bV (((((decide (p0.Rail≤p1.X0))&&(decide (p0.Rail≤p1.Y0)))&&(decide (p1.X0≤p0.W)))&&(decide (p1.Y0≤p0.H)))&&(decide (p1.X1≤(bP (p0.W-p0.Rail))))))] [(1,bx j #[iv p0.W,iv p0.H,iv p0.Rail,iv p0.Gap,sL b p0.Kinds d,sL f p0.Slots g,sL h p0.Marks i] 48),(2,bx l #[iv p1.X0,iv p1.Y0,iv p1.X1,iv p1.Y1] 77)] ?_ ?_)
    ·cases o:((((decide (p0.Rail≤p1.X0))&&(decide (p0.Rail≤p1.Y0)))&&(decide (p1.X0≤p0.W)))&&(decide (p1.Y0≤p0.H)))
     ·exact aG Z (aG Z (aG Z (aG Z (aG Z (aG Z (aG Z (aG Z (av aU Z Z (ae (aR (.r Z) (.r Z)))))))))))
     ·refine bC (ag pu) Z (Tr.x (fun _ _ a c=>ah bF (a.ev Z) (bN c (vs:=[iv p1.X0,iv p1.Y0,iv p1.X1,iv p1.Y1]) (k:=2) Z 2) Z) (bC (ag DF) Z (Tr.x (fun _ _ a c=>ah bF (a.ev Z) (bN c (vs:=[iv p0.W,iv p0.H,iv p0.Rail,iv p0.Gap,sL b p0.Kinds d,sL f p0.Slots g,sL h p0.Marks i]) (k:=1) Z 0) Z) (bC (ag DC) Z (Tr.x (fun _ _ a c=>ah bF (a.ev Z) (bN c (vs:=[iv p0.W,iv p0.H,iv p0.Rail,iv p0.Gap,sL b p0.Kinds d,sL f p0.Slots g,sL h p0.Marks i]) (k:=1) Z 2) Z) (dI gH Z Z ?_))))))
      exact dI iT Z Z (av aT Z Z (ae (aR (.r Z) (.r Z))))
    ·show Tr _ _ (LF [(2,pV j),(3,pV l),(40,bV (((((decide (p0.Rail≤p1.X0))&&(decide (p0.Rail≤p1.Y0)))&&(decide (p1.X0≤p0.W)))&&(decide (p1.Y0≤p0.H)))&&(decide (p1.X1≤(bP (p0.W-p0.Rail))))))]) (LE [(1,bx j #[iv p0.W,iv p0.H,iv p0.Rail,iv p0.Gap,sL b p0.Kinds d,sL f p0.Slots g,sL h p0.Marks i] 48),(2,bx l #[iv p1.X0,iv p1.Y0,iv p1.X1,iv p1.Y1] 77)]) _
     refine aA Z (bM 9 [(50,bV ((((((decide (p0.Rail≤p1.X0))&&(decide (p0.Rail≤p1.Y0)))&&(decide (p1.X0≤p0.W)))&&(decide (p1.Y0≤p0.H)))&&(decide (p1.X1≤(bP (p0.W-p0.Rail)))))&&(decide (p1.Y1≤(bP (p0.H-p0.Rail))))))] [(1,bx j #[iv p0.W,iv p0.H,iv p0.Rail,iv p0.Gap,sL b p0.Kinds d,sL f p0.Slots g,sL h p0.Marks i] 48),(2,bx l #[iv p1.X0,iv p1.Y0,iv p1.X1,iv p1.Y1] 77)] ?_ ?_)
     ·cases o:(((((decide (p0.Rail≤p1.X0))&&(decide (p0.Rail≤p1.Y0)))&&(decide (p1.X0≤p0.W)))&&(decide (p1.Y0≤p0.H)))&&(decide (p1.X1≤(bP (p0.W-p0.Rail)))))
      ·exact aG Z (aG Z (aG Z (aG Z (aG Z (aG Z (aG Z (aG Z (av aU Z Z (ae (aR (.r Z) (.r Z)))))))))))
      ·refine bC (ag qw) Z (Tr.x (fun _ _ a c=>ah bF (a.ev Z) (bN c (vs:=[iv p1.X0,iv p1.Y0,iv p1.X1,iv p1.Y1]) (k:=2) Z 3) Z) (bC (ag DD) Z (Tr.x (fun _ _ a c=>ah bF (a.ev Z) (bN c (vs:=[iv p0.W,iv p0.H,iv p0.Rail,iv p0.Gap,sL b p0.Kinds d,sL f p0.Slots g,sL h p0.Marks i]) (k:=1) Z 1) Z) (bC (ag DC) Z (Tr.x (fun _ _ a c=>ah bF (a.ev Z) (bN c (vs:=[iv p0.W,iv p0.H,iv p0.Rail,iv p0.Gap,sL b p0.Kinds d,sL f p0.Slots g,sL h p0.Marks i]) (k:=1) Z 2) Z) (dI gH Z Z ?_))))))
       exact dI iT Z Z (av aT Z Z (ae (aR (.r Z) (.r Z))))
     ·show Tr _ _ (LF [(50,bV ((((((decide (p0.Rail≤p1.X0))&&(decide (p0.Rail≤p1.Y0)))&&(decide (p1.X0≤p0.W)))&&(decide (p1.Y0≤p0.H)))&&(decide (p1.X1≤(bP (p0.W-p0.Rail)))))&&(decide (p1.Y1≤(bP (p0.H-p0.Rail))))))]) (LE [(1,bx j #[iv p0.W,iv p0.H,iv p0.Rail,iv p0.Gap,sL b p0.Kinds d,sL f p0.Slots g,sL h p0.Marks i] 48),(2,bx l #[iv p1.X0,iv p1.Y0,iv p1.X1,iv p1.Y1] 77)]) _
      refine Tr.k Z (ae (aa (aJ ?_)))
      obtain rfl:=oI H
      exact bD leB

theorem CP{w:Bs}(p0:aO)(p1:aO)(p2:Int)(r:Bool)(H:qH p0 p1 p2=some r)(hE:HF w w.W E0):Calls Tryz.prog 100 [.agg #[iv p0.X0,iv p0.Y0,iv p0.X1,iv p0.Y1],.agg #[iv p1.X0,iv p1.Y0,iv p1.X1,iv p1.Y1],iv p2].toArray w.W fun e W'=>e= .returned (bV r)∧HF w W' E0:=by
 unfold qH at H
 have leB:=Bs.Le.refl w
 refine aX (n:=41) Tryz.func100 Z Z Z hE (aj (dh 1 (cs:=[iv p0.X0,iv p0.Y0,iv p0.X1,iv p0.Y1]) (wn Z) Z Z Z fun b=>(dh 2 (cs:=[iv p1.X0,iv p1.Y0,iv p1.X1,iv p1.Y1]) (wn Z) Z Z Z fun d=>(Tr.k Z (ae (aa (aj (aD (ag pu) Z (aC Z (fun _ _ a c=>ah bF (a.ev Z) (bN c (vs:=[iv p0.X0,iv p0.Y0,iv p0.X1,iv p0.Y1]) (k:=1) Z 2) Z) (aA Z (av bE Z Z (aD (ag kU) Z (aC Z (fun _ _ a c=>ah bF (a.ev Z) (bN c (vs:=[iv p1.X0,iv p1.Y0,iv p1.X1,iv p1.Y1]) (k:=2) Z 0) Z) (av iT Z Z (aA Z (bM 8 [(2,iv p2),(3,pV b),(4,pV d),(22,bV ((decide ((bP (p0.X1+p2))≤p1.X0))||(decide ((bP (p1.X1+p2))≤p0.X0))))] [(1,bx b #[iv p0.X0,iv p0.Y0,iv p0.X1,iv p0.Y1] 77),(2,bx d #[iv p1.X0,iv p1.Y0,iv p1.X1,iv p1.Y1] 77)] ?_ ?_))))))))))))))))
 ·cases f:(decide ((bP (p0.X1+p2))≤p1.X0))
  ·refine bC (ag pu) Z (Tr.x (fun _ _ a c=>ah bF (a.ev Z) (bN c (vs:=[iv p1.X0,iv p1.Y0,iv p1.X1,iv p1.Y1]) (k:=2) Z 2) Z) (bC run_move Z (dI bE Z Z (bC (ag kU) Z (Tr.x (fun _ _ a c=>ah bF (a.ev Z) (bN c (vs:=[iv p0.X0,iv p0.Y0,iv p0.X1,iv p0.Y1]) (k:=1) Z 0) Z) (dI iT Z Z ?_))))))
   exact av aU Z Z (ae (aR (.r Z) (.r Z)))
  ·exact aG Z (aG Z (aG Z (aG Z (aG Z (aG Z (aG Z (av aT Z Z (ae (aR (.r Z) (.r Z))))))))))
 ·show Tr _ _ (LF [(2,iv p2),(3,pV b),(4,pV d),(22,bV ((decide ((bP (p0.X1+p2))≤p1.X0))||(decide ((bP (p1.X1+p2))≤p0.X0))))]) (LE [(1,bx b #[iv p0.X0,iv p0.Y0,iv p0.X1,iv p0.Y1] 77),(2,bx d #[iv p1.X0,iv p1.Y0,iv p1.X1,iv p1.Y1] 77)]) _
  refine aA Z (bM 8 [(2,iv p2),(3,pV b),(4,pV d),(31,bV (((decide ((bP (p0.X1+p2))≤p1.X0))||(decide ((bP (p1.X1+p2))≤p0.X0)))||(decide ((bP (p0.Y1+p2))≤p1.Y0))))] [(1,bx b #[iv p0.X0,iv p0.Y0,iv p0.X1,iv p0.Y1] 77),(2,bx d #[iv p1.X0,iv p1.Y0,iv p1.X1,iv p1.Y1] 77)] ?_ ?_)
  ·cases f:((decide ((bP (p0.X1+p2))≤p1.X0))||(decide ((bP (p1.X1+p2))≤p0.X0)))
   ·refine bC (ag qw) Z (Tr.x (fun _ _ a c=>ah bF (a.ev Z) (bN c (vs:=[iv p0.X0,iv p0.Y0,iv p0.X1,iv p0.Y1]) (k:=1) Z 3) Z) (bC run_move Z (dI bE Z Z (bC (ag lW) Z (Tr.x (fun _ _ a c=>ah bF (a.ev Z) (bN c (vs:=[iv p1.X0,iv p1.Y0,iv p1.X1,iv p1.Y1]) (k:=2) Z 1) Z) (dI iT Z Z ?_))))))
    exact av aU Z Z (ae (aR (.r Z) (.r Z)))
   ·exact aG Z (aG Z (aG Z (aG Z (aG Z (aG Z (aG Z (av aT Z Z (ae (aR (.r Z) (.r Z))))))))))
  ·show Tr _ _ (LF [(2,iv p2),(3,pV b),(4,pV d),(31,bV (((decide ((bP (p0.X1+p2))≤p1.X0))||(decide ((bP (p1.X1+p2))≤p0.X0)))||(decide ((bP (p0.Y1+p2))≤p1.Y0))))]) (LE [(1,bx b #[iv p0.X0,iv p0.Y0,iv p0.X1,iv p0.Y1] 77),(2,bx d #[iv p1.X0,iv p1.Y0,iv p1.X1,iv p1.Y1] 77)]) _
   refine aA Z (bM 8 [(40,bV ((((decide ((bP (p0.X1+p2))≤p1.X0))||(decide ((bP (p1.X1+p2))≤p0.X0)))||(decide ((bP (p0.Y1+p2))≤p1.Y0)))||(decide ((bP (p1.Y1+p2))≤p0.Y0))))] [(1,bx b #[iv p0.X0,iv p0.Y0,iv p0.X1,iv p0.Y1] 77),(2,bx d #[iv p1.X0,iv p1.Y0,iv p1.X1,iv p1.Y1] 77)] ?_ ?_)
   ·cases f:(((decide ((bP (p0.X1+p2))≤p1.X0))||(decide ((bP (p1.X1+p2))≤p0.X0)))||(decide ((bP (p0.Y1+p2))≤p1.Y0)))
    ·refine bC (ag qw) Z (Tr.x (fun _ _ a c=>ah bF (a.ev Z) (bN c (vs:=[iv p1.X0,iv p1.Y0,iv p1.X1,iv p1.Y1]) (k:=2) Z 3) Z) (bC run_move Z (dI bE Z Z (bC (ag lW) Z (Tr.x (fun _ _ a c=>ah bF (a.ev Z) (bN c (vs:=[iv p0.X0,iv p0.Y0,iv p0.X1,iv p0.Y1]) (k:=1) Z 1) Z) (dI iT Z Z ?_))))))
     exact av aU Z Z (ae (aR (.r Z) (.r Z)))
    ·exact aG Z (aG Z (aG Z (aG Z (aG Z (aG Z (aG Z (av aT Z Z (ae (aR (.r Z) (.r Z))))))))))
   ·show Tr _ _ (LF [(40,bV ((((decide ((bP (p0.X1+p2))≤p1.X0))||(decide ((bP (p1.X1+p2))≤p0.X0)))||(decide ((bP (p0.Y1+p2))≤p1.Y0)))||(decide ((bP (p1.Y1+p2))≤p0.Y0))))]) (LE [(1,bx b #[iv p0.X0,iv p0.Y0,iv p0.X1,iv p0.Y1] 77),(2,bx d #[iv p1.X0,iv p1.Y0,iv p1.X1,iv p1.Y1] 77)]) _
    refine Tr.k Z (ae (aa (aJ ?_)))
    obtain rfl:=oI H
    exact bD leB

theorem CQ{w:Bs}(p0:aO)(q0:aO)(xI:Nat)(hb0:w.R xI)(hc0:aI w.W xI 0 [iv q0.X0,iv q0.Y0,iv q0.X1,iv q0.Y1])(q1:dw)(Aq1_0:Option Addr)(cq1_0:Nat)(Vz:Sl w.R w.W fe Aq1_0 cq1_0 q1.Kinds)(Aq1_1:Option Addr)(cq1_1:Nat)(XL:Sl w.R w.W lG Aq1_1 cq1_1 q1.Slots)(Aq1_2:Option Addr)(cq1_2:Nat)(YC:Sl w.R w.W dP Aq1_2 cq1_2 q1.Marks)(SX:Nat)(hb1:w.R SX)(hc1:aI w.W SX 0 [iv q1.W,iv q1.H,iv q1.Rail,iv q1.Gap,sL Aq1_0 q1.Kinds cq1_0,sL Aq1_1 q1.Slots cq1_1,sL Aq1_2 q1.Marks cq1_2])(r:Bool)(H:oH p0 q0 q1=some r)(hE:HF w w.W E0):Calls Tryz.prog 99 [.agg #[iv p0.X0,iv p0.Y0,iv p0.X1,iv p0.Y1],pV xI,pV SX].toArray w.W fun e W'=>e= .returned (bV r)∧HF w W' E0:=by
 unfold oH at H
 have leB:=Bs.Le.refl w
 refine aX (n:=11) Tryz.func99 Z Z Z hE (aj (dh 1 (cs:=[iv p0.X0,iv p0.Y0,iv p0.X1,iv p0.Y1]) (wn Z) Z Z Z fun f=>(Tr.k Z (ae (aa (aj (aC Z (fun _ _ a c=>aL (cs:=[iv q0.X0,iv q0.Y0,iv q0.X1,iv q0.Y1]) o9 jy (a.ev Z) (aI.take (tY hb0 hc0 c) 4) Z) (aC Z (fun _ _ a c=>aL (cs:=[iv p0.X0,iv p0.Y0,iv p0.X1,iv p0.Y1]) o9 jy (a.ev Z) (aI.take (bN c (vs:=[iv p0.X0,iv p0.Y0,iv p0.X1,iv p0.Y1]) (k:=1) Z 0) 4) Z) (aD (ag O7) Z (aC Z (fun _ _ a c=>ah bF (a.ev Z) (aI.drop (tY hb1 hc1 c) 3) Z) ?_))))))))))
 obtain⟨b,d,H⟩:=bnd H
 refine aS (r:=(bV b)) (wn Z) Z Tryz.call100 (ak Z (ak Z (ak Z aH))) (fun W hW=>CP q0 p0 q1.Gap b d (HF.start _)) (aD bT Z (Tr.k Z (ae (aa (aJ ?_)))))
 obtain rfl:=oI H
 exact bD leB

theorem qo{w:Bs}(p0:(List aO))(a:Option Addr)(b:Nat)(f:Sl w.R w.W bf a b p0)(p1:aO→Option Bool)(fid1:Nat)(c:List Value)(hg1:∀args W,(callFunc fid1 args).run Tryz.prog W= .ok (.enter fid1 args) W)(hf1:∀(w':Bs),w.Ext w'→∀(z0:aO),∀y,p1 z0=some y→Calls Tryz.prog fid1 (([.agg #[iv z0.X0,iv z0.Y0,iv z0.X1,iv z0.Y1]]:List Value)++c).toArray w'.W fun e W''=>e= .returned (bV y)∧HF w' W'' E0)(r:Bool)(H:fO p0 p1=some r)(hE:HF w w.W E0):Calls Tryz.prog 50 [sL a p0 b,.func (.func fid1) #[] c.toArray].toArray w.W fun e W'=>e= .returned (bV r)∧HF w W' E0:=by
 unfold fO at H
 have leB:=Bs.Le.refl w
 refine aX (n:=9) Tryz.func50 Z Z Z hE (aj (Tr.k Z (ae (aa (aj (aA Z (aA Z ?_)))))))
 obtain⟨d,g,H⟩:=bnd H
 refine aS (r:=(iv d)) (wn Z) Z Tryz.call90 (ak Z (ak Z aH)) (fun W hW=>ry p0 a b (f.ext hW.aY) p1 fid1 c hg1 (fun w' he=>hf1 w' (hW.aY.trans he)) d g (HF.start _)) (av kG Z Z (Tr.k Z (ae (aa (aJ ?_)))))
 obtain rfl:=oI H
 exact bD leB

theorem Fw{w:Bs}(p0:dw)(i:Option Addr)(j:Nat)(G:Sl w.R w.W fe i j p0.Kinds)(f:Option Addr)(g:Nat)(C:Sl w.R w.W lG f g p0.Slots)(o:Option Addr)(p:Nat)(I:Sl w.R w.W dP o p p0.Marks)(r:((List aO)×Int))(H:sK p0=some r)(hE:HF w w.W (mF [emp])):Calls Tryz.prog 49 [.agg #[iv p0.W,iv p0.H,iv p0.Rail,iv p0.Gap,sL i p0.Kinds j,sL f p0.Slots g,sL o p0.Marks p]].toArray w.W fun e W'=>∃u:(Option Addr×Nat),e= .returned (.tuple #[sL u.1 r.1 u.2,iv r.2])∧(fQ u.1 r.1.length u.2)∧HF w W' (mF [ow u.1 u.2 77 bf r.1]):=by
 unfold sK at H
 have leB:=Bs.Le.refl w
 refine aX (n:=62) Tryz.func49 Z Z Z hE (aj (dh 1 (cs:=[iv p0.W,iv p0.H,iv p0.Rail,iv p0.Gap,sL i p0.Kinds j,sL f p0.Slots g,sL o p0.Marks p]) (wn Z) Z Z Z fun A=>(Tr.k Z (bY 2 77 bf ?_))))
 show Tr _ _ (uf _ 2 (sL none (([]:List aO)) 0)) _ _
 refine Tr.k Z (ae (aa (az (aj (aD (ag y8) Z (aC Z (fun _ _ a c=>ah Iy (a.ev Z) (bN c (vs:=[iv p0.W,iv p0.H,iv p0.Rail,iv p0.Gap,sL i p0.Kinds j,sL f p0.Slots g,sL o p0.Marks p]) (k:=1) Z 5) Z) (aD (bA Lf) Z (av dE Z Z (ae (aa (aN Z H (fun H=>?_) (fun H=>?_))))))))))))
 ·refine aj (Tr.k Z (bY 3 77 bf ?_))
  show Tr _ _ (uf _ 2 (sL none (([]:List aO)) 0)) _ _
  refine Tr.k Z (ae (aa (aJ (ai ?_))))
  obtain rfl:=oI H
  exact bR (m:=[sL none (([]:List aO)) 0,iv 2]) [] (bu Z (bu Z bG)) (fun W hW=>⟨(none,0),Z,fP,HF.qC leB (hW.pick (ks:=[3]) (by decide) (bn Z bO)) ⟨lD _ _ _ _ jA,trivial⟩⟩)
 ·refine aM (aa (aj (Tr.k Z (bY 4 77 bf ?_))))
  show Tr _ _ (uf _ 4 (sL none (([]:List aO)) 0)) _ _
  refine ae (aa (az (aj (aD (ag y8) Z (aC Z (fun _ _ a c=>ah Iy (a.ev Z) (bN c (vs:=[iv p0.W,iv p0.H,iv p0.Rail,iv p0.Gap,sL i p0.Kinds j,sL f p0.Slots g,sL o p0.Marks p]) (k:=1) Z 5) Z) (aD (bA Lf) Z (aA Z (ae (aa (Tr.block (cO (σ:=(List jH)×Nat×(List aO)×(Option Addr)×Nat) (fun m w s=>m=s.1.length+1∧s.1=List.drop s.2.1 p0.Slots∧s.2.1≤p0.Slots.length∧kr p0 s.1 s.2.1 s.2.2.1=some r∧fQ s.2.2.2.1 s.2.2.1.length s.2.2.2.2) (fun s=>[(1,pV A),(4,sL s.2.2.2.1 s.2.2.1 s.2.2.2.2),(13,sL f p0.Slots g),(14,iv (p0.Slots.length:Int)),(15,iv (s.2.1:Int))]) (fun s=>[(1,bx A #[iv p0.W,iv p0.H,iv p0.Rail,iv p0.Gap,sL i p0.Kinds j,sL f p0.Slots g,sL o p0.Marks p] 48),(4,ow s.2.2.2.1 s.2.2.2.2 77 bf s.2.2.1)]) (p0.Slots.length+1) (p0.Slots,0,([]:List aO),none,0) ⟨Z,Z,Nat.zero_le _,H,fP⟩ (.r Z) (.r Z) (fun _ _ h=>absurd h.1 (by simp)) ?_)))))))))))
  intro w N m s hs
  obtain⟨D,M,B,q,v⟩:=s
  obtain⟨P,E,b5,H,O⟩:=hs
  replace E:D=List.drop M p0.Slots:=E
  replace H:kr p0 D M B=some r:=H
  replace P:m+1=D.length+1:=P
  replace G:=G.iR N
  replace C:=C.iR N
  replace I:=I.iR N
  replace leB:=leB.trans N
  replace O:fQ q B.length v:=O
  obtain rfl:m=D.length:=by omega
  clear P
  dsimp only
  cases D with
  |nil=>
   rw[kr.eq_1] at H
   refine aj (av bi Z Z (ae (aa (az (dn Z (cz E) (bZ (aF (aF (bg (aa (aj (aA Z (Tr.k Z (Tr.k Z (ae (aa (aJ ?_)))))))))))))))))
   obtain rfl:=oI H
   exact bR (m:=[sL q B v,iv 0]) [] (bu Z (bu Z bG)) (fun W hW=>⟨(q,v),Z,O,HF.qC leB (hW.pick (ks:=[4]) (by decide) (bn Z bO)) ⟨lD _ _ _ _ jA,trivial⟩⟩)
  | cons d D=>
   rw[kr.eq_2] at H
   refine aj (av bi Z Z (ae (aa (az (dm Z (dz E) (aM (aa (az (Tr.block (aj (aC Z (fun _ _ a c=>aB Mw (a.ev Z) C.form (a.ev Z) (Int.natCast_nonneg _) (bq E)) (aC Z (fun _ _ a c=>aL (cs:=[sv d.Board,iv d.Quarters,iv d.At.X,iv d.At.Y]) J3 C8 (a.ev Z) (aI.take (pq yn C (dA E) c) 4) Z) (Tr.alloc 19 (wn Z) Z Qv fun F=>(bv 19 (cs:=[sv d.Board,iv d.Quarters,iv d.At.X,iv d.At.Y]) [sv d.Board,iv d.Quarters,iv d.At.X,iv d.At.Y] (wn Z) Z Z Z Z C8 Z Z Z (ae (aa (az (aj (aC Z (fun _ _ a c=>aL (cs:=[iv p0.W,iv p0.H,iv p0.Rail,iv p0.Gap,sL i p0.Kinds j,sL f p0.Slots g,sL o p0.Marks p]) uJ uI (a.ev Z) (aI.take (bN c (vs:=[iv p0.W,iv p0.H,iv p0.Rail,iv p0.Gap,sL i p0.Kinds j,sL f p0.Slots g,sL o p0.Marks p]) (k:=1) Z 0) 7) Z) (aD (ag Dy) Z (aC Z (fun _ _ a c=>ah jD (a.ev Z) (bN c (vs:=[sv d.Board,iv d.Quarters,iv d.At.X,iv d.At.Y]) (k:=19) Z 0) Z) ?_)))))))))))))))))))))
   obtain⟨U,a4,H⟩:=bnd H
   refine aS (r:=(iv U)) (wn Z) Z Tryz.call55 (ak Z (ak Z aH)) (fun W hW=>uB p0 i j (G.ext hW.aY) f g (C.ext hW.aY) o p (I.ext hW.aY) d.Board U a4 (HF.start _)) (av bi Z Z (ae (aa (aN Z H (fun H=>?_) (fun H=>?_)))))
   ·refine aj (Tr.k Z (bY 20 77 bf ?_))
    show Tr _ _ (uf _ 2 (sL none (([]:List aO)) 0)) _ _
    refine Tr.k Z (ae (aa (aJ (ai (au (ai (ai (au (ai ?_)))))))))
    obtain rfl:=oI H
    exact bR (m:=[sL none (([]:List aO)) 0,iv 5]) [] (bu Z (bu Z bG)) (fun W hW=>⟨(none,0),Z,fP,HF.qC leB (hW.pick (ks:=[20]) (by decide) (bn Z bO)) ⟨lD _ _ _ _ jA,trivial⟩⟩)
   ·refine aM (aa (az (aj (aD (ag Gj) Z (aC Z (fun _ _ a c=>ah bF (a.ev Z) (bN c (vs:=[sv d.Board,iv d.Quarters,iv d.At.X,iv d.At.Y]) (k:=19) Z 1) Z) ?_)))))
    obtain⟨Q,a5,H⟩:=bnd H
    refine aS (r:=(bV Q)) (wn Z) Z Tryz.call22 (ak Z (ak Z (ak Z aH))) (fun W hW=>fI d.Quarters 0 3 Q a5 (HF.start _)) (aD bT Z (aA Z ?_))
    obtain⟨S,J,H⟩:=bnd H
    refine bM 8 [(1,pV A),(4,sL q B v),(6,pV F),(13,sL f p0.Slots g),(14,iv (p0.Slots.length:Int)),(15,iv (M:Int)),(36,bV S)] [(1,bx A #[iv p0.W,iv p0.H,iv p0.Rail,iv p0.Gap,sL i p0.Kinds j,sL f p0.Slots g,sL o p0.Marks p] 48),(4,ow q v 77 bf B),(19,bx F #[sv d.Board,iv d.Quarters,iv d.At.X,iv d.At.Y] 56)] ?_ ?_
    ·cases L:(!Q)
     ·rw[L] at J
      rw[if_neg (by decide)] at J
      have H:=J
      refine bC (ag y7) Z (bC (ag fU) Z (Tr.x (fun _ _ a c=>ah bF (a.ev Z) (bN c (vs:=[sv d.Board,iv d.Quarters,iv d.At.X,iv d.At.Y]) (k:=19) Z 2) Z) (bC (ag DF) Z (Tr.x (fun _ _ a c=>ah bF (a.ev Z) (bN c (vs:=[iv p0.W,iv p0.H,iv p0.Rail,iv p0.Gap,sL i p0.Kinds j,sL f p0.Slots g,sL o p0.Marks p]) (k:=1) Z 0) Z) ?_))))
      obtain⟨V,a6,H⟩:=bnd H
      refine aS (r:=(bV V)) (wg Z Z Z) Z Tryz.call22 (ak Z (ak Z (ak Z aH))) (fun W hW=>fI d.At.X 0 p0.W V a6 (HF.start _)) (bC bT Z (av aU Z Z ?_))
      obtain rfl:=oI H
      exact ae (aR (.r Z) (.r Z))
     ·rw[L] at J
      rw[if_pos Z] at J
      have H:=J
      obtain rfl:=oI H
      exact aG Z (aG Z (aG Z (aG Z (aG Z (aG Z (aG Z (av aT Z Z (ae (aR (.r Z) (.r Z))))))))))
    ·show Tr _ _ (LF [(1,pV A),(4,sL q B v),(6,pV F),(13,sL f p0.Slots g),(14,iv (p0.Slots.length:Int)),(15,iv (M:Int)),(36,bV S)]) (LE [(1,bx A #[iv p0.W,iv p0.H,iv p0.Rail,iv p0.Gap,sL i p0.Kinds j,sL f p0.Slots g,sL o p0.Marks p] 48),(4,ow q v 77 bf B),(19,bx F #[sv d.Board,iv d.Quarters,iv d.At.X,iv d.At.Y] 56)]) _
     refine aA Z ?_
     obtain⟨a',K,H⟩:=bnd H
     refine bM 8 [(1,pV A),(4,sL q B v),(6,pV F),(13,sL f p0.Slots g),(14,iv (p0.Slots.length:Int)),(15,iv (M:Int)),(45,bV a')] [(1,bx A #[iv p0.W,iv p0.H,iv p0.Rail,iv p0.Gap,sL i p0.Kinds j,sL f p0.Slots g,sL o p0.Marks p] 48),(4,ow q v 77 bf B),(19,bx F #[sv d.Board,iv d.Quarters,iv d.At.X,iv d.At.Y] 56)] ?_ ?_
     ·cases L:S
      ·rw[L] at K
       rw[if_neg (by decide)] at K
       have H:=K
       refine bC (ag y7) Z (bC (ag fT) Z (Tr.x (fun _ _ a c=>ah bF (a.ev Z) (bN c (vs:=[sv d.Board,iv d.Quarters,iv d.At.X,iv d.At.Y]) (k:=19) Z 3) Z) (bC (ag DD) Z (Tr.x (fun _ _ a c=>ah bF (a.ev Z) (bN c (vs:=[iv p0.W,iv p0.H,iv p0.Rail,iv p0.Gap,sL i p0.Kinds j,sL f p0.Slots g,sL o p0.Marks p]) (k:=1) Z 1) Z) ?_))))
       obtain⟨a0,a7,H⟩:=bnd H
       refine aS (r:=(bV a0)) (wg Z Z Z) Z Tryz.call22 (ak Z (ak Z (ak Z aH))) (fun W hW=>fI d.At.Y 0 p0.H a0 a7 (HF.start _)) (bC bT Z (av aU Z Z ?_))
       obtain rfl:=oI H
       exact ae (aR (.r Z) (.r Z))
      ·rw[L] at K
       rw[if_pos Z] at K
       have H:=K
       obtain rfl:=oI H
       exact aG Z (aG Z (aG Z (aG Z (aG Z (aG Z (aG Z (av aT Z Z (ae (aR (.r Z) (.r Z))))))))))
     ·show Tr _ _ (LF [(1,pV A),(4,sL q B v),(6,pV F),(13,sL f p0.Slots g),(14,iv (p0.Slots.length:Int)),(15,iv (M:Int)),(45,bV a')]) (LE [(1,bx A #[iv p0.W,iv p0.H,iv p0.Rail,iv p0.Gap,sL i p0.Kinds j,sL f p0.Slots g,sL o p0.Marks p] 48),(4,ow q v 77 bf B),(19,bx F #[sv d.Board,iv d.Quarters,iv d.At.X,iv d.At.Y] 56)]) _
      refine ae (aa (aN Z H (fun H=>?_) (fun H=>?_)))
      ·refine aj (Tr.k Z (bY 21 77 bf ?_))
       show Tr _ _ (uf _ 2 (sL none (([]:List aO)) 0)) _ _
       refine Tr.k Z (ae (aa (aJ (ai (au (ai (ai (au (ai ?_)))))))))
       obtain rfl:=oI H
       exact bR (m:=[sL none (([]:List aO)) 0,iv 1]) [] (bu Z (bu Z bG)) (fun W hW=>⟨(none,0),Z,fP,HF.qC leB (hW.pick (ks:=[21]) (by decide) (bn Z bO)) ⟨lD _ _ _ _ jA,trivial⟩⟩)
      ·refine aM (aa (aj (aC Z (fun _ _ a c=>aL (cs:=[iv p0.W,iv p0.H,iv p0.Rail,iv p0.Gap,sL i p0.Kinds j,sL f p0.Slots g,sL o p0.Marks p]) uJ uI (a.ev Z) (aI.take (bN c (vs:=[iv p0.W,iv p0.H,iv p0.Rail,iv p0.Gap,sL i p0.Kinds j,sL f p0.Slots g,sL o p0.Marks p]) (k:=1) Z 0) 7) Z) (aC Z (fun _ _ a c=>aL (cs:=[sv d.Board,iv d.Quarters,iv d.At.X,iv d.At.Y]) J3 C8 (a.ev Z) (aI.take (bN c (vs:=[sv d.Board,iv d.Quarters,iv d.At.X,iv d.At.Y]) (k:=19) Z 0) 4) Z) ?_))))
       obtain⟨b,a8,H⟩:=bnd H
       refine aS (r:=(.agg #[iv b.X0,iv b.Y0,iv b.X1,iv b.Y1])) (wn Z) Z Tryz.call97 (ak Z (ak Z aH)) (fun W hW=>Ex p0 i j (G.ext hW.aY) f g (C.ext hW.aY) o p (I.ext hW.aY) d b a8 (HF.start _)) (Tr.alloc 22 (wn Z) Z tQ fun T=>(bv 22 (cs:=[iv b.X0,iv b.Y0,iv b.X1,iv b.Y1]) [iv b.X0,iv b.Y0,iv b.X1,iv b.Y1] (wn Z) Z Z Z Z jy Z Z Z (ae (aa (az (aj (aC Z (fun _ _ a c=>aL (cs:=[iv p0.W,iv p0.H,iv p0.Rail,iv p0.Gap,sL i p0.Kinds j,sL f p0.Slots g,sL o p0.Marks p]) uJ uI (a.ev Z) (aI.take (bN c (vs:=[iv p0.W,iv p0.H,iv p0.Rail,iv p0.Gap,sL i p0.Kinds j,sL f p0.Slots g,sL o p0.Marks p]) (k:=1) Z 0) 7) Z) (aC Z (fun _ _ a c=>aL (cs:=[iv b.X0,iv b.Y0,iv b.X1,iv b.Y1]) o9 jy (a.ev Z) (aI.take (bN c (vs:=[iv b.X0,iv b.Y0,iv b.X1,iv b.Y1]) (k:=22) Z 0) 4) Z) ?_))))))))
       obtain⟨a1,a9,H⟩:=bnd H
       refine aS (r:=(bV a1)) (wn Z) Z Tryz.call98 (ak Z (ak Z aH)) (fun W hW=>Ga p0 i j (G.ext hW.aY) f g (C.ext hW.aY) o p (I.ext hW.aY) b a1 a9 (HF.start _)) (aD bT Z (ae (aa (aN Z H (fun H=>?_) (fun H=>?_)))))
       ·refine aj (Tr.k Z (bY 23 77 bf ?_))
        show Tr _ _ (uf _ 2 (sL none (([]:List aO)) 0)) _ _
        refine Tr.k Z (ae (aa (aJ (ai (au (ai (ai (au (ai ?_)))))))))
        obtain rfl:=oI H
        exact bR (m:=[sL none (([]:List aO)) 0,iv 1]) [] (bu Z (bu Z bG)) (fun W hW=>⟨(none,0),Z,fP,HF.qC leB (hW.pick (ks:=[23]) (by decide) (bn Z bO)) ⟨lD _ _ _ _ jA,trivial⟩⟩)
       ·refine aM (aa (az (aj (aA Z (rO (vs:=[pV T,pV A]) (wn Z) Z (ak Z (ak Z aH)) ?_)))))
        obtain⟨a2,b0,H⟩:=bnd H
        refine aS (r:=(bV a2)) (wn Z) Z Tryz.call50 (ak Z (ak Z aH)) (fun W hW=>qo B q v (hW.wo (k:=4) Z) (fun z0=>oH z0 b p0) 99 [pV T,pV A] Tryz.call99 (fun w' he z0 y hy=>CQ z0 b T (he.r _ (hW.AC (k:=22) Z)) (he.cells (hW.AC (k:=22) Z) (hW.Jd (k:=22) Z)) p0 i j (G.ext (hW.aY.trans he)) f g (C.ext (hW.aY.trans he)) o p (I.ext (hW.aY.trans he)) A (he.r _ (hW.AC (k:=1) Z)) (he.cells (hW.AC (k:=1) Z) (hW.Jd (k:=1) Z)) y hy (HF.start _)) a2 b0 (HF.start _)) (ae (aa (aN Z H (fun H=>?_) (fun H=>?_))))
        ·refine aj (Tr.k Z (bY 24 77 bf ?_))
         show Tr _ _ (uf _ 2 (sL none (([]:List aO)) 0)) _ _
         refine Tr.k Z (ae (aa (aJ (ai (au (ai (ai (au (ai ?_)))))))))
         obtain rfl:=oI H
         exact bR (m:=[sL none (([]:List aO)) 0,iv 12]) [] (bu Z (bu Z bG)) (fun W hW=>⟨(none,0),Z,fP,HF.qC leB (hW.pick (ks:=[24]) (by decide) (bn Z bO)) ⟨lD _ _ _ _ jA,trivial⟩⟩)
        ·refine aM (aa (aV (aA Z (aC Z (fun _ _ a c=>aL (cs:=[iv b.X0,iv b.Y0,iv b.X1,iv b.Y1]) o9 jy (a.ev Z) (aI.take (bN c (vs:=[iv b.X0,iv b.Y0,iv b.X1,iv b.Y1]) (k:=22) Z 0) 4) Z) (fK 25 (e:=77) (vs:=[(0,.agg #[iv b.X0,iv b.Y0,iv b.X1,iv b.Y1])]) (cs:=[iv b.X0,iv b.Y0,iv b.X1,iv b.Y1]) (wn Z) Z (bQ Z dR) (by kernel_rfl) fun b6=>?_)))))
         obtain⟨b4,b1,H⟩:=bnd H
         exact Tr.append 4 (t:=bf) (l:=B) (l2:=[b]) (wn Z) Z Z Z Z (fun W hW=>⟨[[iv b.X0,iv b.Y0,iv b.X1,iv b.Y1]],(.cons ⟨(),trivial,Z⟩ .nil),bN hW (vs:=[iv b.X0,iv b.Y0,iv b.X1,iv b.Y1]) (k:=25) Z 0⟩) o8 jy Jk (by decide) JX Z b1 fun b2 b3 a3=>(Tr.k Z (ae (aQ (aa (aV (av bE Z Z (aA Z (ae (aP N (D,(M+1),b4,b2,b3) ⟨Z,df E,bq E,H,a3⟩ (.cons Z (.cons Z (.cons Z (.cons Z (.cons (congrArg (fun z=>some (Value.int .i64 z)) (cZ E C.form)) .nil))))) (.r Z))))))))))

theorem vI{w:Bs}(p0:dw)(b:Option Addr)(d:Nat)(y:Sl w.R w.W fe b d p0.Kinds)(f:Option Addr)(g:Nat)(z:Sl w.R w.W lG f g p0.Slots)(h:Option Addr)(i:Nat)(A:Sl w.R w.W dP h i p0.Marks)(p1:aK)(r:Bool)(H:ng p0 p1=some r)(hE:HF w w.W E0):Calls Tryz.prog 21 [.agg #[iv p0.W,iv p0.H,iv p0.Rail,iv p0.Gap,sL b p0.Kinds d,sL f p0.Slots g,sL h p0.Marks i],.agg #[iv p1.X,iv p1.Y]].toArray w.W fun e W'=>e= .returned (bV r)∧HF w W' E0:=by
 unfold ng at H
 have leB:=Bs.Le.refl w
 refine aX (n:=17) Tryz.func21 Z Z Z hE (aj (dh 1 (cs:=[iv p0.W,iv p0.H,iv p0.Rail,iv p0.Gap,sL b p0.Kinds d,sL f p0.Slots g,sL h p0.Marks i]) (wn Z) Z Z Z fun p=>(dh 2 (cs:=[iv p1.X,iv p1.Y]) (wn Z) Z Z Z fun q=>(Tr.k Z (ae (aa (aj (aD (ag fU) Z (aC Z (fun _ _ a c=>ah bF (a.ev Z) (bN c (vs:=[iv p1.X,iv p1.Y]) (k:=2) Z 0) Z) (aD (ag DF) Z (aC Z (fun _ _ a c=>ah bF (a.ev Z) (bN c (vs:=[iv p0.W,iv p0.H,iv p0.Rail,iv p0.Gap,sL b p0.Kinds d,sL f p0.Slots g,sL h p0.Marks i]) (k:=1) Z 0) Z) ?_)))))))))))
 obtain⟨l,u,H⟩:=bnd H
 refine aS (r:=(bV l)) (wn Z) Z Tryz.call22 (ak Z (ak Z (ak Z aH))) (fun W hW=>fI p1.X 0 p0.W l u (HF.start _)) (aA Z ?_)
 obtain⟨s,j,H⟩:=bnd H
 refine bM 6 [(16,bV s)] [(1,bx p #[iv p0.W,iv p0.H,iv p0.Rail,iv p0.Gap,sL b p0.Kinds d,sL f p0.Slots g,sL h p0.Marks i] 48),(2,bx q #[iv p1.X,iv p1.Y] 54)] ?_ ?_
 ·cases o:l
  ·rw[o] at j
   rw[if_neg (by decide)] at j
   have H:=j
   obtain rfl:=oI H
   exact aG Z (aG Z (aG Z (aG Z (aG Z (av aU Z Z (ae (aR (.r Z) (.r Z))))))))
  ·rw[o] at j
   rw[if_pos Z] at j
   have H:=j
   refine bC (ag fT) Z (Tr.x (fun _ _ a c=>ah bF (a.ev Z) (bN c (vs:=[iv p1.X,iv p1.Y]) (k:=2) Z 1) Z) (bC (ag DD) Z (Tr.x (fun _ _ a c=>ah bF (a.ev Z) (bN c (vs:=[iv p0.W,iv p0.H,iv p0.Rail,iv p0.Gap,sL b p0.Kinds d,sL f p0.Slots g,sL h p0.Marks i]) (k:=1) Z 1) Z) ?_)))
   obtain⟨t,v,H⟩:=bnd H
   refine aS (r:=(bV t)) (wg Z Z Z) Z Tryz.call22 (ak Z (ak Z (ak Z aH))) (fun W hW=>fI p1.Y 0 p0.H t v (HF.start _)) (av aT Z Z ?_)
   obtain rfl:=oI H
   exact ae (aR (.r Z) (.r Z))
 ·show Tr _ _ (LF [(16,bV s)]) (LE [(1,bx p #[iv p0.W,iv p0.H,iv p0.Rail,iv p0.Gap,sL b p0.Kinds d,sL f p0.Slots g,sL h p0.Marks i] 48),(2,bx q #[iv p1.X,iv p1.Y] 54)]) _
  refine Tr.k Z (ae (aa (aJ ?_)))
  obtain rfl:=oI H
  exact bD leB

theorem BL{w:Bs}(p0:aO)(p1:aK)(r:Bool)(H:uY p0 p1=some r)(hE:HF w w.W E0):Calls Tryz.prog 52 [.agg #[iv p0.X0,iv p0.Y0,iv p0.X1,iv p0.Y1],.agg #[iv p1.X,iv p1.Y]].toArray w.W fun e W'=>e= .returned (bV r)∧HF w W' E0:=by
 unfold uY at H
 have leB:=Bs.Le.refl w
 refine aX (n:=31) Tryz.func52 Z Z Z hE (aj (dh 1 (cs:=[iv p0.X0,iv p0.Y0,iv p0.X1,iv p0.Y1]) (wn Z) Z Z Z fun b=>(dh 2 (cs:=[iv p1.X,iv p1.Y]) (wn Z) Z Z Z fun d=>(Tr.k Z (ae (aa (aj (aD (ag fU) Z (aC Z (fun _ _ a c=>ah bF (a.ev Z) (bN c (vs:=[iv p1.X,iv p1.Y]) (k:=2) Z 0) Z) (aD (ag kU) Z (aC Z (fun _ _ a c=>ah bF (a.ev Z) (bN c (vs:=[iv p0.X0,iv p0.Y0,iv p0.X1,iv p0.Y1]) (k:=1) Z 0) Z) (av dE Z Z (aA Z (bM 6 [(2,pV b),(3,pV d),(16,bV ((decide (p0.X0<p1.X))&&(decide (p1.X<p0.X1))))] [(1,bx b #[iv p0.X0,iv p0.Y0,iv p0.X1,iv p0.Y1] 77),(2,bx d #[iv p1.X,iv p1.Y] 54)] ?_ ?_))))))))))))))
 ·cases f:(decide (p0.X0<p1.X))
  ·exact aG Z (aG Z (aG Z (aG Z (aG Z (av aU Z Z (ae (aR (.r Z) (.r Z))))))))
  ·exact bC (ag fU) Z (Tr.x (fun _ _ a c=>ah bF (a.ev Z) (bN c (vs:=[iv p1.X,iv p1.Y]) (k:=2) Z 0) Z) (bC (ag pu) Z (Tr.x (fun _ _ a c=>ah bF (a.ev Z) (bN c (vs:=[iv p0.X0,iv p0.Y0,iv p0.X1,iv p0.Y1]) (k:=1) Z 2) Z) (dI bi Z Z (av aT Z Z (ae (aR (.r Z) (.r Z))))))))
 ·show Tr _ _ (LF [(2,pV b),(3,pV d),(16,bV ((decide (p0.X0<p1.X))&&(decide (p1.X<p0.X1))))]) (LE [(1,bx b #[iv p0.X0,iv p0.Y0,iv p0.X1,iv p0.Y1] 77),(2,bx d #[iv p1.X,iv p1.Y] 54)]) _
  refine aA Z (bM 6 [(2,pV b),(3,pV d),(23,bV (((decide (p0.X0<p1.X))&&(decide (p1.X<p0.X1)))&&(decide (p0.Y0<p1.Y))))] [(1,bx b #[iv p0.X0,iv p0.Y0,iv p0.X1,iv p0.Y1] 77),(2,bx d #[iv p1.X,iv p1.Y] 54)] ?_ ?_)
  ·cases f:((decide (p0.X0<p1.X))&&(decide (p1.X<p0.X1)))
   ·exact aG Z (aG Z (aG Z (aG Z (aG Z (av aU Z Z (ae (aR (.r Z) (.r Z))))))))
   ·exact bC (ag fT) Z (Tr.x (fun _ _ a c=>ah bF (a.ev Z) (bN c (vs:=[iv p1.X,iv p1.Y]) (k:=2) Z 1) Z) (bC (ag lW) Z (Tr.x (fun _ _ a c=>ah bF (a.ev Z) (bN c (vs:=[iv p0.X0,iv p0.Y0,iv p0.X1,iv p0.Y1]) (k:=1) Z 1) Z) (dI dE Z Z (av aT Z Z (ae (aR (.r Z) (.r Z))))))))
  ·show Tr _ _ (LF [(2,pV b),(3,pV d),(23,bV (((decide (p0.X0<p1.X))&&(decide (p1.X<p0.X1)))&&(decide (p0.Y0<p1.Y))))]) (LE [(1,bx b #[iv p0.X0,iv p0.Y0,iv p0.X1,iv p0.Y1] 77),(2,bx d #[iv p1.X,iv p1.Y] 54)]) _
   refine aA Z (bM 6 [(30,bV ((((decide (p0.X0<p1.X))&&(decide (p1.X<p0.X1)))&&(decide (p0.Y0<p1.Y)))&&(decide (p1.Y<p0.Y1))))] [(1,bx b #[iv p0.X0,iv p0.Y0,iv p0.X1,iv p0.Y1] 77),(2,bx d #[iv p1.X,iv p1.Y] 54)] ?_ ?_)
   ·cases f:(((decide (p0.X0<p1.X))&&(decide (p1.X<p0.X1)))&&(decide (p0.Y0<p1.Y)))
    ·exact aG Z (aG Z (aG Z (aG Z (aG Z (av aU Z Z (ae (aR (.r Z) (.r Z))))))))
    ·exact bC (ag fT) Z (Tr.x (fun _ _ a c=>ah bF (a.ev Z) (bN c (vs:=[iv p1.X,iv p1.Y]) (k:=2) Z 1) Z) (bC (ag qw) Z (Tr.x (fun _ _ a c=>ah bF (a.ev Z) (bN c (vs:=[iv p0.X0,iv p0.Y0,iv p0.X1,iv p0.Y1]) (k:=1) Z 3) Z) (dI bi Z Z (av aT Z Z (ae (aR (.r Z) (.r Z))))))))
   ·show Tr _ _ (LF [(30,bV ((((decide (p0.X0<p1.X))&&(decide (p1.X<p0.X1)))&&(decide (p0.Y0<p1.Y)))&&(decide (p1.Y<p0.Y1))))]) (LE [(1,bx b #[iv p0.X0,iv p0.Y0,iv p0.X1,iv p0.Y1] 77),(2,bx d #[iv p1.X,iv p1.Y] 54)]) _
    refine Tr.k Z (ae (aa (aJ ?_)))
    obtain rfl:=oI H
    exact bD leB

theorem Ew{w:Bs}(p0:aO)(q0:aK)(xI:Nat)(hb0:w.R xI)(hc0:aI w.W xI 0 [iv q0.X,iv q0.Y])(r:Bool)(H:rF p0 q0=some r)(hE:HF w w.W E0):Calls Tryz.prog 51 [.agg #[iv p0.X0,iv p0.Y0,iv p0.X1,iv p0.Y1],pV xI].toArray w.W fun e W'=>e= .returned (bV r)∧HF w W' E0:=by
 unfold rF at H
 have leB:=Bs.Le.refl w
 refine aX (n:=7) Tryz.func51 Z Z Z hE (aj (dh 1 (cs:=[iv p0.X0,iv p0.Y0,iv p0.X1,iv p0.Y1]) (wn Z) Z Z Z fun f=>(Tr.k Z (ae (aa (aj (aC Z (fun _ _ a c=>aL (cs:=[iv p0.X0,iv p0.Y0,iv p0.X1,iv p0.Y1]) o9 jy (a.ev Z) (aI.take (bN c (vs:=[iv p0.X0,iv p0.Y0,iv p0.X1,iv p0.Y1]) (k:=1) Z 0) 4) Z) (aC Z (fun _ _ a c=>aL (cs:=[iv q0.X,iv q0.Y]) iC eU (a.ev Z) (aI.take (tY hb0 hc0 c) 2) Z) ?_))))))))
 obtain⟨b,d,H⟩:=bnd H
 refine aS (r:=(bV b)) (wn Z) Z Tryz.call52 (ak Z (ak Z aH)) (fun W hW=>BL p0 q0 b d (HF.start _)) (Tr.k Z (ae (aa (aJ ?_))))
 obtain rfl:=oI H
 exact bD leB

theorem yz{w:Bs}(p0:(List aK))(g:Option Addr)(i:Nat)(f:Sl w.R w.W dP g i p0)(p1:aK)(r:Int)(H:oN p0 p1=some r)(hE:HF w w.W E0):Calls Tryz.prog 101 [sL g p0 i,.agg #[iv p1.X,iv p1.Y]].toArray w.W fun e W'=>e= .returned (iv r)∧HF w W' E0:=by
 unfold oN at H
 have leB:=Bs.Le.refl w
 refine aX (n:=19) Tryz.func101 Z Z Z hE (aj (dh 1 (cs:=[iv p1.X,iv p1.Y]) (wn Z) Z Z Z fun j=>(Tr.k Z (ae (aa (az (aj (aA Z (aD (bA xO) Z (aA Z (ae (aa (Tr.block (cO (σ:=(List aK)×Nat) (fun m w s=>m=s.1.length+1∧s.1=List.drop s.2 p0∧s.2≤p0.length∧ic p1 s.1 s.2=some r) (fun s=>[(0,sL g p0 i),(3,pV j),(7,iv (p0.length:Int)),(8,iv (s.2:Int))]) (fun s=>[(1,bx j #[iv p1.X,iv p1.Y] 54)]) (p0.length+1) (p0,0) ⟨Z,Z,Nat.zero_le _,H⟩ (.r Z) (.r Z) (fun _ _ h=>absurd h.1 (by simp)) ?_))))))))))))))
 intro w l m s hs
 obtain⟨b,p⟩:=s
 obtain⟨o,d,t,H⟩:=hs
 replace d:b=List.drop p p0:=d
 replace H:ic p1 b p=some r:=H
 replace o:m+1=b.length+1:=o
 replace f:=f.iR l
 replace leB:=leB.trans l
 obtain rfl:m=b.length:=by omega
 clear o
 dsimp only
 cases b with
 |nil=>
  rw[ic.eq_1] at H
  refine aj (av bi Z Z (ae (aa (az (dn Z (cz d) (bZ (aF (aF (bg (aa (aj (Tr.k Z (ae (aa (aJ ?_)))))))))))))))
  obtain rfl:=oI H
  exact bD leB
 | cons q b=>
  rw[ic.eq_2] at H
  refine aj (av bi Z Z (ae (aa (az (dm Z (dz d) (aM (aa (az (Tr.block (aj (aA Z (Tr.k Z (ae (aa (az (fZ (by kernel_rfl) (by kernel_rfl) (bL Z (fun _ _ a c=>aL (cs:=[iv p1.X,iv p1.Y]) iC eU (a.ev Z) (aI.take (bN c (vs:=[iv p1.X,iv p1.Y]) (k:=1) Z 0) 2) Z) (dY Z (dY Z (bL Z (fun _ _ a c=>aB D9 (a.ev Z) f.form (a.ev Z) (Int.natCast_nonneg _) (bq d)) (bL Z (fun _ _ a c=>aL (cs:=[iv q.X,iv q.Y]) iC eU (a.ev Z) (aI.take (pq qK f (dA d) c) 2) Z) (dL (NF p1 q) Z Z (gz (aa (aN Z H (fun H=>?_) (fun H=>?_))))))))))))))))))))))))))
  ·refine aj (aA Z (Tr.k Z (ae (aa (aJ (au (ai (ai (au (ai ?_))))))))))
   obtain rfl:=oI H
   exact bD leB
  ·exact aM (aQ (aa (aV (av bE Z Z (aA Z (ae (aP l (b,(p+1)) ⟨Z,df d,bq d,H⟩ (.cons Z (.cons Z (.cons Z (.cons (congrArg (fun z=>some (Value.int .i64 z)) (cZ d f.form)) .nil)))) (.r Z))))))))

theorem wN{w:Bs}(p0:(List aK))(b:Option Addr)(d:Nat)(g:Sl w.R w.W dP b d p0)(p1:aK)(r:Bool)(H:lq p0 p1=some r)(hE:HF w w.W E0):Calls Tryz.prog 53 [sL b p0 d,.agg #[iv p1.X,iv p1.Y]].toArray w.W fun e W'=>e= .returned (bV r)∧HF w W' E0:=by
 unfold lq at H
 have leB:=Bs.Le.refl w
 refine aX (n:=9) Tryz.func53 Z Z Z hE (aj (dh 1 (cs:=[iv p1.X,iv p1.Y]) (wn Z) Z Z Z fun i=>(Tr.k Z (ae (aa (aj (aA Z (aC Z (fun _ _ a c=>aL (cs:=[iv p1.X,iv p1.Y]) iC eU (a.ev Z) (aI.take (bN c (vs:=[iv p1.X,iv p1.Y]) (k:=1) Z 0) 2) Z) ?_))))))))
 obtain⟨f,h,H⟩:=bnd H
 refine aS (r:=(iv f)) (wn Z) Z Tryz.call101 (ak Z (ak Z aH)) (fun W hW=>yz p0 b d (g.ext hW.aY) p1 f h (HF.start _)) (av kG Z Z (Tr.k Z (ae (aa (aJ ?_)))))
 obtain rfl:=oI H
 exact bD leB

theorem zH(N:Nat){w:Bs}(p0:dw)(f:Option Addr)(g:Nat)(G:Sl w.R w.W fe f g p0.Kinds)(i:Option Addr)(j:Nat)(I:Sl w.R w.W lG i j p0.Slots)(b:Option Addr)(d:Nat)(v:Sl w.R w.W dP b d p0.Marks)(r:((List aO)×Int))(H:rT N p0=some r)(hE:HF w w.W (mF [emp])):Calls Tryz.prog 20 [.agg #[iv p0.W,iv p0.H,iv p0.Rail,iv p0.Gap,sL f p0.Kinds g,sL i p0.Slots j,sL b p0.Marks d]].toArray w.W fun e W'=>∃u:(Option Addr×Nat),e= .returned (.tuple #[sL u.1 r.1 u.2,iv r.2])∧(fQ u.1 r.1.length u.2)∧HF w W' (mF [ow u.1 u.2 77 bf r.1]):=by
 unfold rT at H
 have leB:=Bs.Le.refl w
 refine aX (n:=75) Tryz.func20 Z Z Z hE (aj (dh 1 (cs:=[iv p0.W,iv p0.H,iv p0.Rail,iv p0.Gap,sL f p0.Kinds g,sL i p0.Slots j,sL b p0.Marks d]) (wn Z) Z Z Z fun q=>(Tr.k Z (bY 2 77 bf ?_))))
 show Tr _ _ (uf _ 2 (sL none (([]:List aO)) 0)) _ _
 refine Tr.k Z (ae (aa (az (aj (aD (ag DF) Z (aC Z (fun _ _ a c=>ah bF (a.ev Z) (bN c (vs:=[iv p0.W,iv p0.H,iv p0.Rail,iv p0.Gap,sL f p0.Kinds g,sL i p0.Slots j,sL b p0.Marks d]) (k:=1) Z 0) Z) ?_))))))
 obtain⟨K,a7,H⟩:=bnd H
 refine aS (r:=(bV K)) (wn Z) Z Tryz.call22 (ak Z (ak Z (ak Z aH))) (fun W hW=>fI p0.W 1 1000000 K a7 (HF.start _)) (aD bT Z (aA Z ?_))
 obtain⟨L,D,H⟩:=bnd H
 refine bM 5 [(1,pV q),(18,bV L)] [(1,bx q #[iv p0.W,iv p0.H,iv p0.Rail,iv p0.Gap,sL f p0.Kinds g,sL i p0.Slots j,sL b p0.Marks d] 48),(2,ow none 0 77 bf ([]:List aO))] ?_ ?_
 ·cases B:(!K)
  ·rw[B] at D
   rw[if_neg (by decide)] at D
   have H:=D
   refine bC (ag DD) Z (Tr.x (fun _ _ a c=>ah bF (a.ev Z) (bN c (vs:=[iv p0.W,iv p0.H,iv p0.Rail,iv p0.Gap,sL f p0.Kinds g,sL i p0.Slots j,sL b p0.Marks d]) (k:=1) Z 1) Z) ?_)
   obtain⟨a0,a8,H⟩:=bnd H
   refine aS (r:=(bV a0)) (wg Z Z Z) Z Tryz.call22 (ak Z (ak Z (ak Z aH))) (fun W hW=>fI p0.H 1 1000000 a0 a8 (HF.start _)) (bC bT Z (av aU Z Z ?_))
   obtain rfl:=oI H
   exact ae (aR (.r Z) (.r Z))
  ·rw[B] at D
   rw[if_pos Z] at D
   have H:=D
   obtain rfl:=oI H
   exact aG Z (aG Z (aG Z (aG Z (av aT Z Z (ae (aR (.r Z) (.r Z)))))))
 ·show Tr _ _ (LF [(1,pV q),(18,bV L)]) (LE [(1,bx q #[iv p0.W,iv p0.H,iv p0.Rail,iv p0.Gap,sL f p0.Kinds g,sL i p0.Slots j,sL b p0.Marks d] 48),(2,ow none 0 77 bf ([]:List aO))]) _
  refine aA Z ?_
  obtain⟨M,E,H⟩:=bnd H
  refine bM 5 [(1,pV q),(24,bV M)] [(1,bx q #[iv p0.W,iv p0.H,iv p0.Rail,iv p0.Gap,sL f p0.Kinds g,sL i p0.Slots j,sL b p0.Marks d] 48),(2,ow none 0 77 bf ([]:List aO))] ?_ ?_
  ·cases B:L
   ·rw[B] at E
    rw[if_neg (by decide)] at E
    have H:=E
    refine bC (ag DC) Z (Tr.x (fun _ _ a c=>ah bF (a.ev Z) (bN c (vs:=[iv p0.W,iv p0.H,iv p0.Rail,iv p0.Gap,sL f p0.Kinds g,sL i p0.Slots j,sL b p0.Marks d]) (k:=1) Z 2) Z) ?_)
    obtain⟨a1,a9,H⟩:=bnd H
    refine aS (r:=(bV a1)) (wg Z Z Z) Z Tryz.call22 (ak Z (ak Z (ak Z aH))) (fun W hW=>fI p0.Rail 0 1000000 a1 a9 (HF.start _)) (bC bT Z (av aU Z Z ?_))
    obtain rfl:=oI H
    exact ae (aR (.r Z) (.r Z))
   ·rw[B] at E
    rw[if_pos Z] at E
    have H:=E
    obtain rfl:=oI H
    exact aG Z (aG Z (aG Z (aG Z (av aT Z Z (ae (aR (.r Z) (.r Z)))))))
  ·show Tr _ _ (LF [(1,pV q),(24,bV M)]) (LE [(1,bx q #[iv p0.W,iv p0.H,iv p0.Rail,iv p0.Gap,sL f p0.Kinds g,sL i p0.Slots j,sL b p0.Marks d] 48),(2,ow none 0 77 bf ([]:List aO))]) _
   refine aA Z ?_
   obtain⟨a2,F,H⟩:=bnd H
   refine bM 5 [(1,pV q),(30,bV a2)] [(1,bx q #[iv p0.W,iv p0.H,iv p0.Rail,iv p0.Gap,sL f p0.Kinds g,sL i p0.Slots j,sL b p0.Marks d] 48),(2,ow none 0 77 bf ([]:List aO))] ?_ ?_
   ·cases B:M
    ·rw[B] at F
     rw[if_neg (by decide)] at F
     have H:=F
     refine bC (ag O7) Z (Tr.x (fun _ _ a c=>ah bF (a.ev Z) (bN c (vs:=[iv p0.W,iv p0.H,iv p0.Rail,iv p0.Gap,sL f p0.Kinds g,sL i p0.Slots j,sL b p0.Marks d]) (k:=1) Z 3) Z) ?_)
     obtain⟨a3,b0,H⟩:=bnd H
     refine aS (r:=(bV a3)) (wg Z Z Z) Z Tryz.call22 (ak Z (ak Z (ak Z aH))) (fun W hW=>fI p0.Gap 0 1000000 a3 b0 (HF.start _)) (bC bT Z (av aU Z Z ?_))
     obtain rfl:=oI H
     exact ae (aR (.r Z) (.r Z))
    ·rw[B] at F
     rw[if_pos Z] at F
     have H:=F
     obtain rfl:=oI H
     exact aG Z (aG Z (aG Z (aG Z (av aT Z Z (ae (aR (.r Z) (.r Z)))))))
   ·show Tr _ _ (LF [(1,pV q),(30,bV a2)]) (LE [(1,bx q #[iv p0.W,iv p0.H,iv p0.Rail,iv p0.Gap,sL f p0.Kinds g,sL i p0.Slots j,sL b p0.Marks d] 48),(2,ow none 0 77 bf ([]:List aO))]) _
    refine ae (aa (aN Z H (fun H=>?_) (fun H=>?_)))
    ·refine aj (Tr.k Z (bY 3 77 bf ?_))
     show Tr _ _ (uf _ 2 (sL none (([]:List aO)) 0)) _ _
     refine Tr.k Z (ae (aa (aJ (ai ?_))))
     obtain rfl:=oI H
     exact bR (m:=[sL none (([]:List aO)) 0,iv 1]) [] (bu Z (bu Z bG)) (fun W hW=>⟨(none,0),Z,fP,HF.qC leB (hW.pick (ks:=[3]) (by decide) (bn Z bO)) ⟨lD _ _ _ _ jA,trivial⟩⟩)
    ·refine aM (aa (az (aj (aD (ag Dz) Z (aC Z (fun _ _ a c=>ah MU (a.ev Z) (bN c (vs:=[iv p0.W,iv p0.H,iv p0.Rail,iv p0.Gap,sL f p0.Kinds g,sL i p0.Slots j,sL b p0.Marks d]) (k:=1) Z 4) Z) ?_)))))
     obtain⟨O,b1,H⟩:=bnd H
     refine aS (r:=(iv O)) (wn Z) Z Tryz.call48 (ak Z aH) (fun W hW=>zO N p0.Kinds f g (G.ext hW.aY) O b1 (HF.start _)) (Tr.k Z (ae (aa (aj (aA Z (av dW Z Z (ae (aa (aN Z H (fun H=>?_) (fun H=>?_))))))))))
     ·refine aj (aA Z (Tr.k Z (bY 4 77 bf ?_)))
      show Tr _ _ (uf _ 2 (sL none (([]:List aO)) 0)) _ _
      refine Tr.k Z (ae (aa (aJ (ai ?_))))
      obtain rfl:=oI H
      exact bR (m:=[sL none (([]:List aO)) 0,iv O]) [] (bu Z (bu Z bG)) (fun W hW=>⟨(none,0),Z,fP,HF.qC leB (hW.pick (ks:=[4]) (by decide) (bn Z bO)) ⟨lD _ _ _ _ jA,trivial⟩⟩)
     ·refine aM (aa (aj (aC Z (fun _ _ a c=>aL (cs:=[iv p0.W,iv p0.H,iv p0.Rail,iv p0.Gap,sL f p0.Kinds g,sL i p0.Slots j,sL b p0.Marks d]) uJ uI (a.ev Z) (aI.take (bN c (vs:=[iv p0.W,iv p0.H,iv p0.Rail,iv p0.Gap,sL f p0.Kinds g,sL i p0.Slots j,sL b p0.Marks d]) (k:=1) Z 0) 7) Z) ?_)))
      obtain⟨p,b2,H⟩:=bnd H
      refine kz [5] [emp] (U:=(Option Addr×Nat)) (fun u=>(.tuple #[sL u.1 p.1 u.2,iv p.2])) (fun u=>fQ u.1 p.1.length u.2) (fun u=>[ow u.1 u.2 77 bf p.1]) Z (bn Z bO) (fun _=>Z) (wn Z) Z Tryz.call49 (ak Z aH) (fun W hW hp hE=>Fw p0 f g (G.ext (hW.fM hp)) i j (I.ext (hW.fM hp)) b d (v.ext (hW.fM hp)) p b2 hE) ?_
      intro u hu
      obtain⟨l,o⟩:=u
      have a':=hu
      have P:fQ l p.1.length o:=a' --@phi
      dsimp only
      refine aA Z (aC Z (fun _ _ a c=>bX (a.ev Z) Z) (aC Z (fun _ _ a c=>bX (a.ev Z) Z) (Tr.k Z (Tr.k Z (ae (aa (az (aj (aA Z (av dW Z Z (ae (aa (aN Z H (fun H=>?_) (fun H=>?_))))))))))))))
      ·refine aj (aA Z (Tr.k Z (bY 6 77 bf ?_)))
       show Tr _ _ (uf _ 2 (sL none (([]:List aO)) 0)) _ _
       refine Tr.k Z (ae (aa (aJ (ai ?_))))
       obtain rfl:=oI H
       exact bR (m:=[sL none (([]:List aO)) 0,iv p.2]) [] (bu Z (bu Z bG)) (fun W hW=>⟨(none,0),Z,fP,HF.qC leB (hW.pick (ks:=[6]) (by decide) (bn Z bO)) ⟨lD _ _ _ _ jA,trivial⟩⟩)
      ·refine aM (aa (az (aj (aD (ag KI) Z (aC Z (fun _ _ a c=>ah Ef (a.ev Z) (bN c (vs:=[iv p0.W,iv p0.H,iv p0.Rail,iv p0.Gap,sL f p0.Kinds g,sL i p0.Slots j,sL b p0.Marks d]) (k:=1) Z 6) Z) (aD (bA xO) Z (av dE Z Z (ae (aa (aN Z H (fun H=>?_) (fun H=>?_)))))))))))
       ·refine aj (Tr.k Z (bY 7 77 bf ?_))
        show Tr _ _ (uf _ 2 (sL none (([]:List aO)) 0)) _ _
        refine Tr.k Z (ae (aa (aJ (ai ?_))))
        obtain rfl:=oI H
        exact bR (m:=[sL none (([]:List aO)) 0,iv 2]) [] (bu Z (bu Z bG)) (fun W hW=>⟨(none,0),Z,fP,HF.qC leB (hW.pick (ks:=[7]) (by decide) (bn Z bO)) ⟨lD _ _ _ _ jA,trivial⟩⟩)
       ·refine aM (aa (az (aj (aD (ag KI) Z (aC Z (fun _ _ a c=>ah Ef (a.ev Z) (bN c (vs:=[iv p0.W,iv p0.H,iv p0.Rail,iv p0.Gap,sL f p0.Kinds g,sL i p0.Slots j,sL b p0.Marks d]) (k:=1) Z 6) Z) (aD (bA xO) Z (aA Z (ae (aa (Tr.block (cO (σ:=(List aK)×Nat) (fun m w s=>m=s.1.length+1∧s.1=List.drop s.2 p0.Marks∧s.2≤p0.Marks.length∧lc p0 p s.1 s.2=some r) (fun s=>[(1,pV q),(5,sL l p.1 o),(50,sL b p0.Marks d),(51,iv (p0.Marks.length:Int)),(52,iv (s.2:Int))]) (fun s=>[(1,bx q #[iv p0.W,iv p0.H,iv p0.Rail,iv p0.Gap,sL f p0.Kinds g,sL i p0.Slots j,sL b p0.Marks d] 48),(5,ow l o 77 bf p.1)]) (p0.Marks.length+1) (p0.Marks,0) ⟨Z,Z,Nat.zero_le _,H⟩ (.r Z) (.r Z) (fun _ _ h=>absurd h.1 (by simp)) ?_)))))))))))
        intro w J m s hs
        obtain⟨A,T⟩:=s
        obtain⟨Q,C,b7,H⟩:=hs
        replace C:A=List.drop T p0.Marks:=C
        replace H:lc p0 p A T=some r:=H
        replace Q:m+1=A.length+1:=Q
        replace G:=G.iR J
        replace I:=I.iR J
        replace v:=v.iR J
        replace leB:=leB.trans J
        obtain rfl:m=A.length:=by omega
        clear Q
        dsimp only
        cases A with
        |nil=>
         rw[lc.eq_1] at H
         refine aj (av bi Z Z (ae (aa (az (dn Z (cz C) (bZ (aF (aF (bg (aa (aj (aA Z (Tr.k Z (Tr.k Z (ae (aa (aJ ?_)))))))))))))))))
         obtain rfl:=oI H
         exact bR (m:=[sL l p.1 o,iv 0]) [] (bu Z (bu Z bG)) (fun W hW=>⟨(l,o),Z,P,HF.qC leB (hW.pick (ks:=[5]) (by decide) (bn Z bO)) ⟨lD _ _ _ _ jA,trivial⟩⟩)
        | cons t A=>
         rw[lc.eq_2] at H
         refine aj (av bi Z Z (ae (aa (az (dm Z (dz C) (aM (aa (az (Tr.block (aj (aA Z (aC Z (fun _ _ a c=>aB D9 (a.ev Z) v.form (a.ev Z) (Int.natCast_nonneg _) (bq C)) (aC Z (fun _ _ a c=>aL (cs:=[iv t.X,iv t.Y]) iC eU (a.ev Z) (aI.take (pq qK v (dA C) c) 2) Z) (Tr.alloc 12 (wn Z) Z vY fun S=>(Tr.k Z (bv 12 (cs:=[iv t.X,iv t.Y]) [iv t.X,iv t.Y] (wn Z) Z Z Z Z eU Z Z Z (ae (aa (Tr.block (aj (aC Z (fun _ _ a c=>aL (cs:=[iv p0.W,iv p0.H,iv p0.Rail,iv p0.Gap,sL f p0.Kinds g,sL i p0.Slots j,sL b p0.Marks d]) uJ uI (a.ev Z) (aI.take (bN c (vs:=[iv p0.W,iv p0.H,iv p0.Rail,iv p0.Gap,sL f p0.Kinds g,sL i p0.Slots j,sL b p0.Marks d]) (k:=1) Z 0) 7) Z) (aC Z (fun _ _ a c=>aL (cs:=[iv t.X,iv t.Y]) iC eU (a.ev Z) (aI.take (bN c (vs:=[iv t.X,iv t.Y]) (k:=12) Z 0) 2) Z) ?_))))))))))))))))))))))
         obtain⟨a4,b3,H⟩:=bnd H
         refine aS (r:=(bV a4)) (wn Z) Z Tryz.call21 (ak Z (ak Z aH)) (fun W hW=>vI p0 f g (G.ext hW.aY) i j (I.ext hW.aY) b d (v.ext hW.aY) t a4 b3 (HF.start _)) (aD bT Z (Tr.k Z (ae (aa (aN Z H (fun H=>?_) (fun H=>?_))))))
         ·refine aj (Tr.k Z (bY 13 77 bf ?_))
          show Tr _ _ (uf _ 2 (sL none (([]:List aO)) 0)) _ _
          refine Tr.k Z (ae (aa (aJ (au (au (ai (ai (au (ai ?_)))))))))
          obtain rfl:=oI H
          exact bR (m:=[sL none (([]:List aO)) 0,iv 1]) [] (bu Z (bu Z bG)) (fun W hW=>⟨(none,0),Z,fP,HF.qC leB (hW.pick (ks:=[13]) (by decide) (bn Z bO)) ⟨lD _ _ _ _ jA,trivial⟩⟩)
         ·refine aj (aA Z (rO (vs:=[pV S]) (wn Z) Z (ak Z aH) ?_))
          obtain⟨a5,b4,H⟩:=bnd H
          refine aS (r:=(bV a5)) (wn Z) Z Tryz.call50 (ak Z (ak Z aH)) (fun W hW=>qo p.1 l o (hW.wo (k:=5) Z) (fun z0=>rF z0 t) 51 [pV S] Tryz.call51 (fun w' he z0 y hy=>Ew z0 t S (he.r _ (hW.AC (k:=12) Z)) (he.cells (hW.AC (k:=12) Z) (hW.Jd (k:=12) Z)) y hy (HF.start _)) a5 b4 (HF.start _)) (Tr.k Z (ae (aa (aN Z H (fun H=>?_) (fun H=>?_)))))
          ·refine aj (Tr.k Z (bY 14 77 bf ?_))
           show Tr _ _ (uf _ 2 (sL none (([]:List aO)) 0)) _ _
           refine Tr.k Z (ae (aa (aJ (au (au (ai (ai (au (ai ?_)))))))))
           obtain rfl:=oI H
           exact bR (m:=[sL none (([]:List aO)) 0,iv 12]) [] (bu Z (bu Z bG)) (fun W hW=>⟨(none,0),Z,fP,HF.qC leB (hW.pick (ks:=[14]) (by decide) (bn Z bO)) ⟨lD _ _ _ _ jA,trivial⟩⟩)
          ·refine az (fZ (by kernel_rfl) (by kernel_rfl) (dD (ag KI) Z (bL Z (fun _ _ a c=>ah Ef (a.ev Z) (bN c (vs:=[iv p0.W,iv p0.H,iv p0.Rail,iv p0.Gap,sL f p0.Kinds g,sL i p0.Slots j,sL b p0.Marks d]) (k:=1) Z 6) Z) (dY Z ?_))))
           obtain⟨b6,V,H⟩:=bnd H
           refine bL Z (fun _ _ a c=>Gd D9 (a.ev Z) v.form (a.ev Z) V) (bL Z (fun _ _ a c=>aL (cs:=[iv t.X,iv t.Y]) iC eU (a.ev Z) (aI.take (bN c (vs:=[iv t.X,iv t.Y]) (k:=12) Z 0) 2) Z) ?_)
           obtain⟨a6,b5,H⟩:=bnd H
           refine lH (r:=(bV a6)) (wn Z) Z Tryz.call53 (ak Z (ak Z aH)) (fun W hW=>wN b6 b d (Sl.pre (v.ext hW.aY) V) t a6 b5 (HF.start _)) (jB Z Z (gz (aa (aN Z H (fun H=>?_) (fun H=>?_)))))
           ·refine aj (Tr.k Z (bY 15 77 bf ?_))
            show Tr _ _ (uf _ 2 (sL none (([]:List aO)) 0)) _ _
            refine Tr.k Z (ae (aa (aJ (au (au (ai (ai (au (ai ?_)))))))))
            obtain rfl:=oI H
            exact bR (m:=[sL none (([]:List aO)) 0,iv 7]) [] (bu Z (bu Z bG)) (fun W hW=>⟨(none,0),Z,fP,HF.qC leB (hW.pick (ks:=[15]) (by decide) (bn Z bO)) ⟨lD _ _ _ _ jA,trivial⟩⟩)
           ·exact aM (aQ (aQ (aa (aV (av bE Z Z (aA Z (ae (aP J (A,(T+1)) ⟨Z,df C,bq C,H⟩ (.cons Z (.cons Z (.cons Z (.cons Z (.cons (congrArg (fun z=>some (Value.int .i64 z)) (cZ C v.form)) .nil))))) (.r Z)))))))))

theorem uN(N:Nat){w:Bs}(p0:dw)(d:Option Addr)(f:Nat)(q:Sl w.R w.W fe d f p0.Kinds)(g:Option Addr)(h:Nat)(s:Sl w.R w.W lG g h p0.Slots)(i:Option Addr)(j:Nat)(t:Sl w.R w.W dP i j p0.Marks)(r:Int)(H:mE N p0=some r)(hE:HF w w.W E0):Calls Tryz.prog 9 [.agg #[iv p0.W,iv p0.H,iv p0.Rail,iv p0.Gap,sL d p0.Kinds f,sL g p0.Slots h,sL i p0.Marks j]].toArray w.W fun e W'=>e= .returned (iv r)∧HF w W' E0:=by
 unfold mE at H
 have leB:=Bs.Le.refl w
 refine aX (n:=11) Tryz.func9 Z Z Z hE (aj (dh 1 (cs:=[iv p0.W,iv p0.H,iv p0.Rail,iv p0.Gap,sL d p0.Kinds f,sL g p0.Slots h,sL i p0.Marks j]) (wn Z) Z Z Z fun z=>(Tr.k Z (ae (aa (aj (aC Z (fun _ _ a c=>aL (cs:=[iv p0.W,iv p0.H,iv p0.Rail,iv p0.Gap,sL d p0.Kinds f,sL g p0.Slots h,sL i p0.Marks j]) uJ uI (a.ev Z) (aI.take (bN c (vs:=[iv p0.W,iv p0.H,iv p0.Rail,iv p0.Gap,sL d p0.Kinds f,sL g p0.Slots h,sL i p0.Marks j]) (k:=1) Z 0) 7) Z) ?_)))))))
 obtain⟨b,v,H⟩:=bnd H
 refine kz [2] [emp] (U:=(Option Addr×Nat)) (fun u=>(.tuple #[sL u.1 b.1 u.2,iv b.2])) (fun u=>fQ u.1 b.1.length u.2) (fun u=>[ow u.1 u.2 77 bf b.1]) Z (bn Z bO) (fun _=>Z) (wn Z) Z Tryz.call20 (ak Z aH) (fun W hW hp hE=>zH N p0 d f (q.ext (hW.fM hp)) g h (s.ext (hW.fM hp)) i j (t.ext (hW.fM hp)) b v hE) ?_
 intro u hu
 obtain⟨l,o⟩:=u
 have p:=hu
 have y:fQ l b.1.length o:=p --@phi
 dsimp only
 refine aA Z (aC Z (fun _ _ a c=>bX (a.ev Z) Z) (aC Z (fun _ _ a c=>bX (a.ev Z) Z) (Tr.k Z (Tr.k Z (ae (aa (aj (aA Z (Tr.k Z (ae (aa (aJ ?_))))))))))))
 obtain rfl:=oI H
 exact bD leB

theorem Ez{w:Bs}(p0:dw)(g:Option Addr)(i:Nat)(j:Sl w.R w.W fe g i p0.Kinds)(l:Option Addr)(o:Nat)(A:Sl w.R w.W lG l o p0.Slots)(p:Option Addr)(q:Nat)(B:Sl w.R w.W dP p q p0.Marks)(p1:ByteArray)(r:(bW×Bool))(H:uE p0 p1=some r)(hE:HF w w.W E0):Calls Tryz.prog 10 [.agg #[iv p0.W,iv p0.H,iv p0.Rail,iv p0.Gap,sL g p0.Kinds i,sL l p0.Slots o,sL p p0.Marks q],sv p1].toArray w.W fun e W'=>e= .returned (.tuple #[.agg #[sv r.1.Name,iv r.1.W,iv r.1.H],bV r.2])∧HF w W' E0:=by
 unfold uE at H
 have leB:=Bs.Le.refl w
 refine aX (n:=22) Tryz.func10 Z Z Z hE (aj (dh 1 (cs:=[iv p0.W,iv p0.H,iv p0.Rail,iv p0.Gap,sL g p0.Kinds i,sL l p0.Slots o,sL p p0.Marks q]) (wn Z) Z Z Z fun C=>(Tr.alloc 2 (wn Z) Z Lb fun t=>(Tr.k Z (ae (aa (az (aj (aD (ag Dz) Z (aC Z (fun _ _ a c=>ah MU (a.ev Z) (bN c (vs:=[iv p0.W,iv p0.H,iv p0.Rail,iv p0.Gap,sL g p0.Kinds i,sL l p0.Slots o,sL p p0.Marks q]) (k:=1) Z 4) Z) (aD (bA Ov) Z (aA Z (ae (aa (Tr.block (cO (σ:=(List bW)×Nat) (fun m w s=>m=s.1.length+1∧s.1=List.drop s.2 p0.Kinds∧s.2≤p0.Kinds.length∧kM p1 s.1 s.2=some r) (fun s=>[(1,sv p1),(4,pV t),(9,sL g p0.Kinds i),(10,iv (p0.Kinds.length:Int)),(11,iv (s.2:Int))]) (fun s=>[(2,bx t #[sv ⟨#[]⟩,iv 0,iv 0] 67)]) (p0.Kinds.length+1) (p0.Kinds,0) ⟨Z,Z,Nat.zero_le _,H⟩ (.r Z) (.r Z) (fun _ _ h=>absurd h.1 (by simp)) ?_))))))))))))))))
 intro w u m s hs
 obtain⟨d,y⟩:=s
 obtain⟨v,f,D,H⟩:=hs
 replace f:d=List.drop y p0.Kinds:=f
 replace H:kM p1 d y=some r:=H
 replace v:m+1=d.length+1:=v
 replace j:=j.iR u
 replace leB:=leB.trans u
 obtain rfl:m=d.length:=by omega
 clear v
 dsimp only
 cases d with
 |nil=>
  rw[kM.eq_1] at H
  refine aj (av bi Z Z (ae (aa (az (dn Z (cz f) (bZ (aF (aF (bg (aa (aj (gV (vs:=[]) (cs:=[sv ⟨#[]⟩,iv 0,iv 0]) (wn Z) Z dR (by kernel_rfl) (bv 2 (cs:=[sv ⟨#[]⟩,iv 0,iv 0]) [sv ⟨#[]⟩,iv 0,iv 0] (wn Z) Z Z Z Z wY Z Z Z (Tr.k Z (ae (aa (aJ ?_)))))))))))))))))
  obtain rfl:=oI H
  exact bR (m:=[.agg #[sv ⟨#[]⟩,iv 0,iv 0],bV false]) [2] (fJ Z Z FW wY (bu Z bG)) (fun W hW=>⟨Z,hW.low leB⟩)
 | cons b d=>
  rw[kM.eq_2] at H
  refine aj (av bi Z Z (ae (aa (az (dm Z (dz f) (aM (aa (az (Tr.block (aj (aC Z (fun _ _ a c=>aB JR (a.ev Z) j.form (a.ev Z) (Int.natCast_nonneg _) (bq f)) (aC Z (fun _ _ a c=>aL (cs:=[sv b.Name,iv b.W,iv b.H]) FW wY (a.ev Z) (aI.take (pq o6 j (dA f) c) 3) Z) (Tr.alloc 4 (wn Z) Z Lb fun E=>(bv 4 (cs:=[sv b.Name,iv b.W,iv b.H]) [sv b.Name,iv b.W,iv b.H] (wn Z) Z Z Z Z wY Z Z Z (ae (aa (aj (aD (ag Dx) Z (aC Z (fun _ _ a c=>ah jD (a.ev Z) (bN c (vs:=[sv b.Name,iv b.W,iv b.H]) (k:=4) Z 0) Z) (aA Z (av GN Z Z (ae (aa (aN Z H (fun H=>?_) (fun H=>?_)))))))))))))))))))))))))
  ·refine aj (aC Z (fun _ _ a c=>aL (cs:=[sv b.Name,iv b.W,iv b.H]) FW wY (a.ev Z) (aI.take (bN c (vs:=[sv b.Name,iv b.W,iv b.H]) (k:=4) Z 0) 3) Z) (bv 2 (cs:=[sv b.Name,iv b.W,iv b.H]) [sv b.Name,iv b.W,iv b.H] (wn Z) Z Z Z Z wY Z Z Z (Tr.k Z (ae (aa (aJ (au (ai (ai (au (ai ?_)))))))))))
   obtain rfl:=oI H
   exact bR (m:=[.agg #[sv b.Name,iv b.W,iv b.H],bV true]) [2] (fJ Z Z FW wY (bu Z bG)) (fun W hW=>⟨Z,hW.low leB⟩)
  ·exact aM (aQ (aa (aV (av bE Z Z (aA Z (ae (aP u (d,(y+1)) ⟨Z,df f,bq f,H⟩ (.cons Z (.cons Z (.cons Z (.cons Z (.cons (congrArg (fun z=>some (Value.int .i64 z)) (cZ f j.form)) .nil))))) (.r Z))))))))

theorem Bb(N:Nat){w:Bs}(p0:eX)(f:Option Addr)(g:Nat)(q:Sl w.O w.W cB f g p0.Tools)(i:Option Addr)(j:Nat)(a0:Sl w.O w.W bH i j p0.Steps)(r:di)(H:oV N p0=some r)(hE:HF w w.W (mF [emp,emp,emp])):Calls Tryz.prog 83 [.agg #[iv p0.Unit,sL f p0.Tools g,sL i p0.Steps j]].toArray w.W fun e W'=>∃(w':Bs) (u:(Option Addr×Nat)×(Option Addr×Nat)×(Option Addr×Nat)×(Option Addr×Nat)×(Option Addr×Nat)),w.Le w'∧e= .returned (.pointer (some ⟨u.2.2.2.2.2,0,none⟩))∧(Sl w'.O w'.W cB u.1.1 u.1.2 r.p.Tools∧Sl w'.O w'.W bH u.2.1.1 u.2.1.2 r.p.Steps∧fQ u.2.2.1.1 r.tools.length u.2.2.1.2∧fQ u.2.2.2.1.1 r.image.length u.2.2.2.1.2∧True)∧HF w' W' (mF [ow u.2.2.1.1 u.2.2.1.2 71 fV r.tools,ow u.2.2.2.1.1 u.2.2.2.1.2 121 aW r.image,bx u.2.2.2.2.2 #[iv r.p.Unit,sL u.1.1 r.p.Tools u.1.2,sL u.2.1.1 r.p.Steps u.2.1.2,sL u.2.2.1.1 r.tools u.2.2.1.2,sL u.2.2.2.1.1 r.image u.2.2.2.1.2,bV r.clear,iv r.tool,iv r.place.X,iv r.place.Y,bV r.placed,iv r.off,iv r.on] 108]):=by
 unfold oV at H
 have leB:=Bs.Le.refl w
 refine aX (n:=64) Tryz.func83 Z Z Z hE (aj (dh 1 (cs:=[iv p0.Unit,sL f p0.Tools g,sL i p0.Steps j]) (wn Z) Z Z Z fun Q=>(Tr.k Z (ae (aa (aj (aC Z (fun _ _ a c=>aL (cs:=[iv p0.Unit,sL f p0.Tools g,sL i p0.Steps j]) yw wZ (a.ev Z) (aI.take (bN c (vs:=[iv p0.Unit,sL f p0.Tools g,sL i p0.Steps j]) (k:=1) Z 0) 3) Z) (gV (vs:=[(0,.agg #[iv p0.Unit,sL f p0.Tools g,sL i p0.Steps j]),(4,iv (-1))]) (cs:=[iv p0.Unit,sL f p0.Tools g,sL i p0.Steps j,.slice none 0 0,.slice none 0 0,bV false,iv (-1),iv 0,iv 0,bV false,iv 0,iv 0]) (wn Z) Z (bQ Z (bQ Z dR)) (by kernel_rfl) (dh 2 (cs:=[iv p0.Unit,sL f p0.Tools g,sL i p0.Steps j,.slice none 0 0,.slice none 0 0,bV false,iv (-1),iv 0,iv 0,bV false,iv 0,iv 0]) (wn Z) Z Z Z fun K=>(Tr.k Z (ae (aa (az (aj (aD (ag DJ) Z (aC Z (fun _ _ a c=>ah MW (a.ev Z) (bN c (vs:=[iv p0.Unit,sL f p0.Tools g,sL i p0.Steps j]) (k:=1) Z 1) Z) (aD (bA Ow) Z (aA Z (ae (aa (Tr.block (bY 27 71 fV ?_))))))))))))))))))))))
 refine cO (σ:=(List eH)×Nat×(List (List bz))×(Option Addr)×Nat) (fun m w s=>m=s.1.length+1∧s.1=List.drop s.2.1 p0.Tools∧s.2.1≤p0.Tools.length∧fB N p0 s.1 s.2.1 s.2.2.1=some r∧fQ s.2.2.2.1 s.2.2.1.length s.2.2.2.2) (fun s=>[(1,pV Q),(3,pV K),(13,sL f p0.Tools g),(14,iv (p0.Tools.length:Int)),(15,iv (s.2.1:Int))]) (fun s=>[(1,bx Q #[iv p0.Unit,sL f p0.Tools g,sL i p0.Steps j] 33),(2,bx K #[iv p0.Unit,sL f p0.Tools g,sL i p0.Steps j,sL s.2.2.2.1 s.2.2.1 s.2.2.2.2,.slice none 0 0,bV false,iv (-1),iv 0,iv 0,bV false,iv 0,iv 0] 108),(27,ow s.2.2.2.1 s.2.2.2.2 71 fV s.2.2.1)]) (p0.Tools.length+1) (p0.Tools,0,([]:List (List bz)),none,0) ⟨Z,Z,Nat.zero_le _,H,fP⟩ (.r Z) (.r Z) (fun _ _ h=>absurd h.1 (by simp)) ?_
 intro w L m s hs
 obtain⟨A,T,B,C,D⟩:=s
 obtain⟨a7,M,d5,H,a1⟩:=hs
 replace M:A=List.drop T p0.Tools:=M
 replace H:fB N p0 A T B=some r:=H
 replace a7:m+1=A.length+1:=a7
 replace q:=q.le L
 replace a0:=a0.le L
 replace leB:=leB.trans L
 replace a1:fQ C B.length D:=a1
 obtain rfl:m=A.length:=by omega
 clear a7
 dsimp only
 cases A with
 |nil=>
  rw[fB.eq_1] at H
  refine aj (av bi Z Z (ae (aa (az (dn Z (cz M) (bZ (aF (aF (bg (aa (aj (aA Z (Tr.k Z (ae (aa (aJ ?_))))))))))))))))
  obtain rfl:=oI H
  exact bY 28 121 aW (bR (m:=[pV K]) [] (bu Z bG) (fun W hW=>⟨w,((f,g),(i,j),(C,D),(none,0),(none,K)),leB,Z,⟨q,a0,a1,fP,trivial⟩,hW.pick (ks:=[27,28,2]) (by decide) (bn Z (bn Z (bn Z bO)))⟩))
 | cons E A=>
  rw[fB.eq_2] at H
  refine aj (av bi Z Z (ae (aa (az (dm Z (dz M) (aM (aa (az (Tr.block (aj ?_))))))))))
  obtain⟨c6,V,b3,b5⟩:=(q).el (dA M)
  obtain⟨F,G⟩:=c6
  have o:=b3
  replace o:Sl w.O w.W bf F G E.Rects:=o
  replace V:w.R (rM f):=Or.inl V
  refine aC Z (fun _ _ a c=>aB Po (a.ev Z) q.form (a.ev Z) (Int.natCast_nonneg _) (bq M)) (aC Z (fun _ _ a c=>aL (cs:=[sv E.Name,sL F E.Rects G]) KZ EH (a.ev Z) (aI.take (tY V b5 c) 2) Z) (Tr.alloc 29 (wn Z) Z Qy fun d6=>(bv 29 (cs:=[sv E.Name,sL F E.Rects G]) [sv E.Name,sL F E.Rects G] (wn Z) Z Z Z Z EH Z Z Z (ae (aa (aj (Tr.k Z (bY 30 77 bf ?_))))))))
  show Tr _ _ (uf _ 6 (sL none (([]:List aO)) 0)) _ _
  refine ae (aa (az (aj (aD (ag DY) Z (aC Z (fun _ _ a c=>ah J2 (a.ev Z) (bN c (vs:=[sv E.Name,sL F E.Rects G]) (k:=29) Z 1) Z) (aD (bA o8) Z (aA Z (ae (aa (Tr.block (cO (σ:=(List aO)×Nat×(List aO)×(Option Addr)×Nat) (fun m w s=>m=s.1.length+1∧s.1=List.drop s.2.1 E.Rects∧s.2.1≤E.Rects.length∧iK N p0 B (fB N p0 A (T+1)) s.1 s.2.1 s.2.2.1=some r∧fQ s.2.2.2.1 s.2.2.1.length s.2.2.2.2) (fun s=>[(1,pV Q),(3,pV K),(6,sL s.2.2.2.1 s.2.2.1 s.2.2.2.2),(13,sL f p0.Tools g),(14,iv (p0.Tools.length:Int)),(15,iv (T:Int)),(20,sL F E.Rects G),(21,iv (E.Rects.length:Int)),(22,iv (s.2.1:Int))]) (fun s=>[(1,bx Q #[iv p0.Unit,sL f p0.Tools g,sL i p0.Steps j] 33),(2,bx K #[iv p0.Unit,sL f p0.Tools g,sL i p0.Steps j,sL C B D,.slice none 0 0,bV false,iv (-1),iv 0,iv 0,bV false,iv 0,iv 0] 108),(27,ow C D 71 fV B),(30,ow s.2.2.2.1 s.2.2.2.2 77 bf s.2.2.1)]) (E.Rects.length+1) (E.Rects,0,([]:List aO),none,0) ⟨Z,Z,Nat.zero_le _,H,fP⟩ (.r Z) (.r Z) (fun _ _ h=>absurd h.1 (by simp)) ?_)))))))))))
  intro w a2 m s hs
  obtain⟨J,b0,a',a3,a4⟩:=s
  obtain⟨a8,P,d7,H,d2⟩:=hs
  replace P:J=List.drop b0 E.Rects:=P
  replace H:iK N p0 B (fB N p0 A (T+1)) J b0 a'=some r:=H
  replace a8:m+1=J.length+1:=a8
  replace q:=q.le a2
  replace o:=o.le a2
  replace L:=L.trans a2
  obtain rfl:m=J.length:=by omega
  clear a8
  dsimp only
  cases J with
  |nil=>
   rw[iK.eq_1] at H
   refine aj (av bi Z Z (ae (aa (az (dn Z (cz P) (bZ (aF (aF (bg (aa (ui 9 [(8,(ow C D 71 fV B).S)] [] (by kernel_rfl) (by kernel_rfl) fun d3 c7 d0=>(jk 0 (by kernel_rfl) Z (wn Z) Z (by kernel_rfl) (fun _ _ a=>run_move (a.ev Z)) Z (jk 1 (by kernel_rfl) Z (wn Z) Z (by kernel_rfl) (fun _ _ a=>run_move (a.ev Z)) Z (jk 2 (by kernel_rfl) Z (wn Z) Z (by kernel_rfl) (fun _ _ a=>cu (a.ev Z)) Z (jk 3 (by kernel_rfl) Z (wn Z) Z (by kernel_rfl) (fun _ _ a=>ag D6 (a.ev Z)) Z (bU 4 [(55,sL C B D)] (by kernel_rfl) Z Z (by kernel_rfl) ?_ Z Z ?_))))))))))))))))
   ·exact bL Z (fun _ _ a c=>ah Oh (a.ev Z) (bN c (vs:=[iv p0.Unit,sL f p0.Tools g,sL i p0.Steps j,sL C B D,.slice none 0 0,bV false,iv (-1),iv 0,iv 0,bV false,iv 0,iv 0]) (k:=2) Z 3) Z) (bK (.r Z))
   refine jk 5 (by kernel_rfl) Z (wn Z) Z (by kernel_rfl) (fun _ _ a=>run_move (a.ev Z)) Z ?_
   obtain⟨I,b8,H⟩:=bnd H
   refine Dr.one 6 (by kernel_rfl) (IM 6 [35] [emp] (U:=(Option Addr×Nat)) (fun u=>(sL u.1 I u.2)) (fun O W u=>fQ u.1 I.length u.2) (fun u=>[ow u.1 u.2 121 aW I]) Z (bn Z bO) (fun _=>Z) (KF Z) Z (wn Z) Z Tryz.call13 (ak Z aH) (fun W hW hp hE=>rQ N a' a3 a4 (hW.TJ (k:=30) Z hp Z) I b8 hE) ?_)
   intro w u b1 hu d1
   obtain⟨v,y⟩:=u
   have b4:=hu
   replace q:=q.le b1
   replace L:=L.trans b1
   have c8:fQ v I.length y:=b4
   dsimp only
   refine Dr.one 7 (by kernel_rfl) (St.freeze 35 Z fun w b2 b9=>?_)
   replace q:=q.le b2
   replace L:=L.trans b2
   refine Jf 7 36 (e:=71) (vs:=[(0,sL v I y)]) (cs:=[sL v I y]) Z (wn Z) Z (bQ Z dR) (by kernel_rfl) fun d8 d4=>?_
   obtain⟨a9,c0,H⟩:=bnd H
   exact Dr.one 8 (by kernel_rfl) (St.append 8 27 (t':=fV) (ll:=B) (l2:=[I]) (fun b hb=>.inl ⟨_,List.mem_cons_self,Z,hb⟩) Z (wn Z) Z Z Z Z (fun W hW=>⟨[[sL v I y]],(.cons ⟨(v,y),b9,Z⟩ .nil),bN hW (vs:=[sL v I y]) (k:=36) Z 0⟩) QI QO Xb (by decide) XT Z c0 fun a5 a6 b6=>(vT (by kernel_rfl) (aD cu Z (aD (ag D6) Z (bv 2 (cs:=[sL a5 a9 a6]) [iv p0.Unit,sL f p0.Tools g,sL i p0.Steps j,sL a5 a9 a6,.slice none 0 0,bV false,iv (-1),iv 0,iv 0,bV false,iv 0,iv 0] (wn Z) Z Z Z Z V6 Z Z Z (ae (aQ (aa (aV (av bE Z Z (aA Z (ae (aP L (A,(T+1),a9,a5,a6) ⟨Z,df M,bq M,H,b6⟩ (.cons Z (.cons Z (.cons Z (.cons Z (.cons (congrArg (fun z=>some (Value.int .i64 z)) (cZ M q.form)) .nil))))) (.r Z))))))))))))))
  |cons d J=>
   rw[iK.eq_2] at H
   refine aj (av bi Z Z (ae (aa (az (dm Z (dz P) (aM (aa (az (Tr.block (aj (aC Z (fun _ _ a c=>aB sH (a.ev Z) o.form (a.ev Z) (Int.natCast_nonneg _) (bq P)) (aC Z (fun _ _ a c=>aL (cs:=[iv d.X0,iv d.Y0,iv d.X1,iv d.Y1]) o9 jy (a.ev Z) (aI.take (pq kQ (o.rl) (dA P) c) 4) Z) (Tr.alloc 37 (wn Z) Z tQ fun d9=>(bv 37 (cs:=[iv d.X0,iv d.Y0,iv d.X1,iv d.Y1]) [iv d.X0,iv d.Y0,iv d.X1,iv d.Y1] (wn Z) Z Z Z Z jy Z Z Z (ae (aa (aV (aA Z (aD (ag kU) Z (aC Z (fun _ _ a c=>ah bF (a.ev Z) (bN c (vs:=[iv d.X0,iv d.Y0,iv d.X1,iv d.Y1]) (k:=37) Z 0) Z) (aD (ag sN) Z (aC Z (fun _ _ a c=>ah bF (a.ev Z) (bN c (vs:=[iv p0.Unit,sL f p0.Tools g,sL i p0.Steps j]) (k:=1) Z 0) Z) ?_))))))))))))))))))))))
   refine av rG Z Z (aD (ag lW) Z (aC Z (fun _ _ a c=>ah bF (a.ev Z) (bN c (vs:=[iv d.X0,iv d.Y0,iv d.X1,iv d.Y1]) (k:=37) Z 1) Z) (aD (ag sN) Z (aC Z (fun _ _ a c=>ah bF (a.ev Z) (bN c (vs:=[iv p0.Unit,sL f p0.Tools g,sL i p0.Steps j]) (k:=1) Z 0) Z) (av rG Z Z (aD (ag pu) Z (aC Z (fun _ _ a c=>ah bF (a.ev Z) (bN c (vs:=[iv d.X0,iv d.Y0,iv d.X1,iv d.Y1]) (k:=37) Z 2) Z) (aD (ag sN) Z (aC Z (fun _ _ a c=>ah bF (a.ev Z) (bN c (vs:=[iv p0.Unit,sL f p0.Tools g,sL i p0.Steps j]) (k:=1) Z 0) Z) (av rG Z Z (aD (ag qw) Z (aC Z (fun _ _ a c=>ah bF (a.ev Z) (bN c (vs:=[iv d.X0,iv d.Y0,iv d.X1,iv d.Y1]) (k:=37) Z 3) Z) (aD (ag sN) Z (aC Z (fun _ _ a c=>ah bF (a.ev Z) (bN c (vs:=[iv p0.Unit,sL f p0.Tools g,sL i p0.Steps j]) (k:=1) Z 0) Z) (av rG Z Z (gV (vs:=[(0,iv (bP (d.X0*p0.Unit))),(1,iv (bP (d.Y0*p0.Unit))),(2,iv (bP (d.X1*p0.Unit))),(3,iv (bP (d.Y1*p0.Unit)))]) (cs:=[iv (bP (d.X0*p0.Unit)),iv (bP (d.Y0*p0.Unit)),iv (bP (d.X1*p0.Unit)),iv (bP (d.Y1*p0.Unit))]) (wn Z) Z (bQ Z (bQ Z (bQ Z (bQ Z dR)))) (by kernel_rfl) ?_))))))))))))))))
   refine fK 38 (e:=77) (vs:=[(0,.agg #[iv (bP (d.X0*p0.Unit)),iv (bP (d.Y0*p0.Unit)),iv (bP (d.X1*p0.Unit)),iv (bP (d.Y1*p0.Unit))])]) (cs:=[iv (bP (d.X0*p0.Unit)),iv (bP (d.Y0*p0.Unit)),iv (bP (d.X1*p0.Unit)),iv (bP (d.Y1*p0.Unit))]) (wn Z) Z (bQ Z dR) (by kernel_rfl) fun e0=>?_
   obtain⟨c9,c3,H⟩:=bnd H
   exact Tr.append 30 (t:=bf) (l:=a') (l2:=[(aO.mk (bP (d.X0*p0.Unit)) (bP (d.Y0*p0.Unit)) (bP (d.X1*p0.Unit)) (bP (d.Y1*p0.Unit)))]) (wn Z) Z Z Z Z (fun W hW=>⟨[[iv (bP (d.X0*p0.Unit)),iv (bP (d.Y0*p0.Unit)),iv (bP (d.X1*p0.Unit)),iv (bP (d.Y1*p0.Unit))]],(.cons ⟨(),trivial,Z⟩ .nil),bN hW (vs:=[iv (bP (d.X0*p0.Unit)),iv (bP (d.Y0*p0.Unit)),iv (bP (d.X1*p0.Unit)),iv (bP (d.Y1*p0.Unit))]) (k:=38) Z 0⟩) o8 jy Jk (by decide) JX Z c3 fun c4 c5 b7=>(Tr.k Z (ae (aQ (aa (aV (av bE Z Z (aA Z (ae (aP a2 (J,(b0+1),c9,c4,c5) ⟨Z,df P,bq P,H,b7⟩ (.cons Z (.cons Z (.cons Z (.cons Z (.cons Z (.cons Z (.cons Z (.cons Z (.cons (congrArg (fun z=>some (Value.int .i64 z)) (cZ P o.form)) .nil))))))))) (.r Z))))))))))

theorem sJ{w:Bs}(p0:di)(b:Option Addr)(d:Nat)(t:Sl w.R w.W cB b d p0.p.Tools)(f:Option Addr)(g:Nat)(u:Sl w.R w.W bH f g p0.p.Steps)(h:Option Addr)(i:Nat)(v:Sl w.R w.W fV h i p0.tools)(j:Option Addr)(l:Nat)(y:Sl w.R w.W aW j l p0.image)(o:Nat)(q:w.R o)(s:aI w.W o 0 [iv p0.p.Unit,sL b p0.p.Tools d,sL f p0.p.Steps g,sL h p0.tools i,sL j p0.image l,bV p0.clear,iv p0.tool,iv p0.place.X,iv p0.place.Y,bV p0.placed,iv p0.off,iv p0.on])(p1:aK)(p2:aK)(r:aK)(H:ma p0 p1 p2=some r)(hE:HF w w.W E0):Calls Tryz.prog 171 [pV o,.agg #[iv p1.X,iv p1.Y],.agg #[iv p2.X,iv p2.Y]].toArray w.W fun e W'=>e= .returned (.agg #[iv r.X,iv r.Y])∧HF w W' E0:=by
 unfold ma at H
 have leB:=Bs.Le.refl w
 refine aX (n:=30) Tryz.func171 Z Z Z hE (aj (dh 1 (cs:=[iv p1.X,iv p1.Y]) (wn Z) Z Z Z fun z=>(dh 2 (cs:=[iv p2.X,iv p2.Y]) (wn Z) Z Z Z fun A=>(Tr.alloc 3 (wn Z) Z vY fun B=>(ae (aa (az (nP 22 (by kernel_rfl) (by kernel_rfl) (dD (ag fU) Z (bL Z (fun _ _ a c=>ah bF (a.ev Z) (bN c (vs:=[iv p1.X,iv p1.Y]) (k:=1) Z 0) Z) (dY Z (dD cu Z (dD (ag Ap) Z (dD (ag sN) Z (bL Z (fun _ _ a c=>ah bF (a.ev Z) (aI.drop (aI.drop (tY q s c) 0) 0) Z) ?_)))))))))))))))
 refine dL rG Z Z (dD (ag fU) Z (bL Z (fun _ _ a c=>ah bF (a.ev Z) (bN c (vs:=[iv p2.X,iv p2.Y]) (k:=2) Z 0) Z) (dL bE Z Z (dD (ag fT) Z (bL Z (fun _ _ a c=>ah bF (a.ev Z) (bN c (vs:=[iv p1.X,iv p1.Y]) (k:=1) Z 1) Z) (dY Z (dD cu Z (dD (ag Ap) Z (dD (ag sN) Z (bL Z (fun _ _ a c=>ah bF (a.ev Z) (aI.drop (aI.drop (tY q s c) 0) 0) Z) (dL rG Z Z (dD (ag fT) Z (bL Z (fun _ _ a c=>ah bF (a.ev Z) (bN c (vs:=[iv p2.X,iv p2.Y]) (k:=2) Z 1) Z) (dL bE Z Z (gz (gV (vs:=[(0,iv (bP ((bP (p1.X*p0.p.Unit))+p2.X))),(1,iv (bP ((bP (p1.Y*p0.p.Unit))+p2.Y)))]) (cs:=[iv (bP ((bP (p1.X*p0.p.Unit))+p2.X)),iv (bP ((bP (p1.Y*p0.p.Unit))+p2.Y))]) (wn Z) Z (bQ Z (bQ Z dR)) (by kernel_rfl) (bv 3 (cs:=[iv (bP ((bP (p1.X*p0.p.Unit))+p2.X)),iv (bP ((bP (p1.Y*p0.p.Unit))+p2.Y))]) [iv (bP ((bP (p1.X*p0.p.Unit))+p2.X)),iv (bP ((bP (p1.Y*p0.p.Unit))+p2.Y))] (wn Z) Z Z Z Z eU Z Z Z (ae (aa (aJ ?_))))))))))))))))))))
 obtain rfl:=oI H
 exact bR (m:=[.agg #[iv (bP ((bP (p1.X*p0.p.Unit))+p2.X)),iv (bP ((bP (p1.Y*p0.p.Unit))+p2.Y))]]) [3] (fJ Z Z iC eU bG) (fun W hW=>⟨Z,hW.low leB⟩)

theorem Cc{w:Bs}(p0:aK)(p1:aK)(r:Int)(H:zq p0 p1=some r)(hE:HF w w.W E0):Calls Tryz.prog 198 [.agg #[iv p0.X,iv p0.Y],.agg #[iv p1.X,iv p1.Y]].toArray w.W fun e W'=>e= .returned (iv r)∧HF w W' E0:=by
 unfold zq at H
 have leB:=Bs.Le.refl w
 refine aX (n:=28) Tryz.func198 Z Z Z hE (aj (dh 1 (cs:=[iv p0.X,iv p0.Y]) (wn Z) Z Z Z fun b=>(dh 2 (cs:=[iv p1.X,iv p1.Y]) (wn Z) Z Z Z fun d=>(Tr.k Z (ae (aa (aj (aD (ag fU) Z (aC Z (fun _ _ a c=>ah bF (a.ev Z) (bN c (vs:=[iv p0.X,iv p0.Y]) (k:=1) Z 0) Z) (aD (ag fU) Z (aC Z (fun _ _ a c=>ah bF (a.ev Z) (bN c (vs:=[iv p1.X,iv p1.Y]) (k:=2) Z 0) Z) (av gH Z Z (aD (ag fU) Z (aC Z (fun _ _ a c=>ah bF (a.ev Z) (bN c (vs:=[iv p1.X,iv p1.Y]) (k:=2) Z 0) Z) (aD (ag fU) Z (aC Z (fun _ _ a c=>ah bF (a.ev Z) (bN c (vs:=[iv p0.X,iv p0.Y]) (k:=1) Z 0) Z) ?_))))))))))))))))
 refine av gH Z Z (aC Z (fun _ _ a c=>xg (a.ev Z) (a.ev Z) _) (aD (ag fT) Z (aC Z (fun _ _ a c=>ah bF (a.ev Z) (bN c (vs:=[iv p0.X,iv p0.Y]) (k:=1) Z 1) Z) (aD (ag fT) Z (aC Z (fun _ _ a c=>ah bF (a.ev Z) (bN c (vs:=[iv p1.X,iv p1.Y]) (k:=2) Z 1) Z) (av gH Z Z (aD (ag fT) Z (aC Z (fun _ _ a c=>ah bF (a.ev Z) (bN c (vs:=[iv p1.X,iv p1.Y]) (k:=2) Z 1) Z) (aD (ag fT) Z (aC Z (fun _ _ a c=>ah bF (a.ev Z) (bN c (vs:=[iv p0.X,iv p0.Y]) (k:=1) Z 1) Z) (av gH Z Z (aC Z (fun _ _ a c=>xg (a.ev Z) (a.ev Z) _) (av bE Z Z (Tr.k Z (ae (aa (aJ ?_)))))))))))))))))
 obtain rfl:=oI H
 exact bD leB

theorem zm(N:Nat){w:Bs}(p0:(List bz))(E:Option Addr)(F:Nat)(a0:Sl w.R w.W aW E F p0)(p1:Int)(p2:Int)(p3:Int)(p4:Int)(r:(List bz))(H:nH N p0 p1 p2 p3 p4=some r)(hE:HF w w.W (mF [emp])):Calls Tryz.prog 214 [sL E p0 F,iv p1,iv p2,iv p3,iv p4].toArray w.W fun e W'=>∃(w':Bs) (u:(Option Addr×Nat)),w.Le w'∧e= .returned (sL u.1 r u.2)∧(fQ u.1 r.length u.2)∧HF w' W' (mF [ow u.1 u.2 121 aW r]):=by
 unfold nH at H
 have leB:=Bs.Le.refl w
 refine aX (n:=46) Tryz.func214 Z Z Z hE (aj (Tr.k Z (bY 1 121 aW ?_)))
 show Tr _ _ (uf _ 10 (sL none (([]:List bz)) 0)) _ _
 refine ae (aa (aj (aA Z ?_)))
 obtain⟨d,a1,H⟩:=bnd H
 refine kz [2] [emp] (U:=(Option Addr×Nat)) (fun u=>(sL u.1 d u.2)) (fun u=>fQ u.1 d.length u.2) (fun u=>[ow u.1 u.2 77 bf d]) Z (bn Z bO) (fun _=>Z) (wn Z) Z Tryz.call95 (ak Z aH) (fun W hW hp hE=>uM N p0 E F (a0.ext (hW.fM hp)) d a1 hE) ?_
 intro u hu
 obtain⟨v,y⟩:=u
 have K:=hu
 have G:fQ v d.length y:=K --@phi
 dsimp only
 refine Tr.k Z (ae (aa (az (aj (aA Z (aD (bA o8) Z (aA Z (ae (aa (Tr.block (cO (σ:=(List aO)×Int×(Option Addr)×Nat) (fun m w s=>iE N p1 p2 p3 p4 d m s.1 s.2.1=some r∧fQ s.2.2.1 s.1.length s.2.2.2) (fun s=>[(1,iv p1),(2,iv p2),(3,iv p3),(4,iv p4),(11,sL s.2.2.1 s.1 s.2.2.2),(16,sL s.2.2.1 s.1 s.2.2.2),(17,iv (d.length:Int)),(18,iv s.2.1)]) (fun s=>[(2,ow s.2.2.1 s.2.2.2 77 bf s.1)]) N (d,0,v,y) ⟨H,G⟩ (.r Z) (.r Z) (fun _ _ h=>oq (h.1)) ?_)))))))))))
 intro w M a6 s hs
 obtain⟨z,p,f,g⟩:=s
 obtain⟨H,A⟩:=hs
 replace H:iE N p1 p2 p3 p4 d (a6+1) z p=some r:=H
 replace leB:=leB.trans M
 replace A:fQ f z.length g:=A
 rw[iE.eq_2] at H
 dsimp only
 refine aj (av bi Z Z (ae (aa (az (aN Z H (fun H=>?_) (fun H=>?_))))))
 ·refine aM (aa (az (Tr.block (aj (aA Z ?_)))))
  obtain⟨b,a2,H⟩:=bnd H
  obtain⟨P,Q,S⟩:=bJ a2
  refine aC Z (fun _ _ a c=>aB sH (a.ev Z) A (a.ev Z) P Q) (aC Z (fun _ _ a c=>aL (cs:=[iv b.X0,iv b.Y0,iv b.X1,iv b.Y1]) o9 jy (a.ev Z) (aI.take (GY kQ (k:=2) c Z S) 4) Z) (Tr.alloc 5 (wn Z) Z tQ fun C=>(Tr.k Z (bv 5 (cs:=[iv b.X0,iv b.Y0,iv b.X1,iv b.Y1]) [iv b.X0,iv b.Y0,iv b.X1,iv b.Y1] (wn Z) Z Z Z Z jy Z Z Z (ae (aa (aV (aA Z (aA Z (aD (ag kU) Z (aC Z (fun _ _ a c=>ah bF (a.ev Z) (bN c (vs:=[iv b.X0,iv b.Y0,iv b.X1,iv b.Y1]) (k:=5) Z 0) Z) (aA Z (av gH Z Z (aD (ag lW) Z (aC Z (fun _ _ a c=>ah bF (a.ev Z) (bN c (vs:=[iv b.X0,iv b.Y0,iv b.X1,iv b.Y1]) (k:=5) Z 1) Z) (aA Z (av gH Z Z (aD (ag pu) Z (aC Z (fun _ _ a c=>ah bF (a.ev Z) (bN c (vs:=[iv b.X0,iv b.Y0,iv b.X1,iv b.Y1]) (k:=5) Z 2) Z) ?_)))))))))))))))))))
  refine aA Z (av bE Z Z (aD (ag qw) Z (aC Z (fun _ _ a c=>ah bF (a.ev Z) (bN c (vs:=[iv b.X0,iv b.Y0,iv b.X1,iv b.Y1]) (k:=5) Z 3) Z) (aA Z (av bE Z Z (gV (vs:=[(0,iv (bP (b.X0-p1))),(1,iv (bP (b.Y0-p3))),(2,iv (bP (b.X1+p2))),(3,iv (bP (b.Y1+p4)))]) (cs:=[iv (bP (b.X0-p1)),iv (bP (b.Y0-p3)),iv (bP (b.X1+p2)),iv (bP (b.Y1+p4))]) (wn Z) Z (bQ Z (bQ Z (bQ Z (bQ Z dR)))) (by kernel_rfl) ?_))))))
  obtain⟨a7,a3,H⟩:=bnd H
  obtain⟨T,V,X⟩:=bJ a3
  refine aC Z (fun _ _ a c=>aB sH (a.ev Z) A (a.ev Z) T V) ?_
  obtain⟨D,J,H⟩:=bnd H
  have B:=Dh J
  refine zf 2 (t:=bf) (l:=z) (i:=p) (fo:=0) (cs:=[iv (bP (b.X0-p1)),iv (bP (b.Y0-p3)),iv (bP (b.X1+p2)),iv (bP (b.Y1+p4))]) (aO.mk (bP (b.X0-p1)) (bP (b.Y0-p3)) (bP (b.X1+p2)) (bP (b.Y1+p4))) (wn Z) Z Z Z Z Z X jy Z (fun u _=>⟨u,trivial,Z⟩) Z J ?_
  have a8:fQ f D.length g:=by rw[B];exact A
  exact Tr.EM (lf:=[(1,iv p1),(2,iv p2),(3,iv p3),(4,iv p4),(11,sL f D g),(12,iv p),(13,pV C),(16,sL f D g),(17,iv (d.length:Int)),(18,iv p),(19,bV (decide (p<(d.length:Int)))),(20,iv p),(22,.agg #[iv b.X0,iv b.Y0,iv b.X1,iv b.Y1]),(23,sL f D g),(24,iv p),(25,pV C),(26,iv b.X0),(27,iv p1),(28,iv (bP (b.X0-p1))),(29,.pointer (some ⟨C,1,none⟩)),(30,iv b.Y0),(31,iv p3),(32,iv (bP (b.Y0-p3))),(33,.pointer (some ⟨C,2,none⟩)),(34,iv b.X1),(35,iv p2),(36,iv (bP (b.X1+p2))),(37,.pointer (some ⟨C,3,none⟩)),(38,iv b.Y1),(39,iv p4),(40,iv (bP (b.Y1+p4))),(41,.agg #[iv (bP (b.X0-p1)),iv (bP (b.Y0-p3)),iv (bP (b.X1+p2)),iv (bP (b.Y1+p4))])]) (le:=[(2,ow f g 77 bf D),(5,bx C #[iv b.X0,iv b.Y0,iv b.X1,iv b.Y1] 77)]) (.cons Z (.cons Z (.cons Z (.cons Z (.cons (pG Z (by unfold sL;rw[B])) (.cons Z (.cons Z (.cons (pG Z (by unfold sL;rw[B])) (.cons Z (.cons Z (.cons Z (.cons Z (.cons Z (.cons (pG Z (by unfold sL;rw[B])) (.r Z))))))))))))))) (.r Z) (ae (aQ (aa (aV (av bE Z Z (aA Z (ae (aP M (D,(bP (p+1)),f,g) ⟨H,a8⟩ (.r Z) (.r Z)))))))))
 ·refine bZ (aF (aF (bg (aa (aj (aA Z ?_))))))
  obtain⟨q,a4,H⟩:=bnd H
  refine jc [6] [emp] (U:=(Option Addr×Nat)) (fun u=>(sL u.1 q u.2)) (fun O W u=>fQ u.1 q.length u.2) (fun u=>[ow u.1 u.2 121 aW q]) Z (bn Z bO) (fun _=>Z) (wn Z) Z Tryz.call13 (ak Z aH) (fun W hW hp hE=>rQ N z f g (hW.TJ (k:=2) Z hp Z) q a4 hE) ?_
  intro w u a5 hu
  obtain⟨j,o⟩:=u
  have L:=hu
  replace leB:=leB.trans a5
  have I:fQ j q.length o:=L --@phi
  dsimp only
  refine Tr.k Z (ae (aa (aJ ?_)))
  obtain rfl:=oI H
  exact bR (m:=[sL j q o]) [] (bu Z bG) (fun W hW=>⟨w,(j,o),leB,Z,I,hW.pick (ks:=[6]) (by decide) (bn Z bO)⟩)

theorem zF(N:Nat){w:Bs}(p0:(List bz))(g:Option Addr)(h:Nat)(l:Sl w.R w.W aW g h p0)(p1:aK)(p2:aK)(r:(List bz))(H:qz N p0 p1 p2=some r)(hE:HF w w.W (mF [emp])):Calls Tryz.prog 200 [sL g p0 h,.agg #[iv p1.X,iv p1.Y],.agg #[iv p2.X,iv p2.Y]].toArray w.W fun e W'=>∃(w':Bs) (u:(Option Addr×Nat)),w.Le w'∧e= .returned (sL u.1 r u.2)∧(fQ u.1 r.length u.2)∧HF w' W' (mF [ow u.1 u.2 121 aW r]):=by
 unfold qz at H
 have leB:=Bs.Le.refl w
 refine aX (n:=39) Tryz.func200 Z Z Z hE (aj (dh 1 (cs:=[iv p1.X,iv p1.Y]) (wn Z) Z Z Z fun q=>(dh 2 (cs:=[iv p2.X,iv p2.Y]) (wn Z) Z Z Z fun s=>(Tr.k Z (bY 3 121 aW ?_)))))
 show Tr _ _ (uf _ 6 (sL none (([]:List bz)) 0)) _ _
 refine ae (aa (az (fZ (by kernel_rfl) (by kernel_rfl) (dD (ag fU) Z (bL Z (fun _ _ a c=>ah bF (a.ev Z) (bN c (vs:=[iv p1.X,iv p1.Y]) (k:=1) Z 0) Z) (dD (ag fU) Z (bL Z (fun _ _ a c=>ah bF (a.ev Z) (bN c (vs:=[iv p2.X,iv p2.Y]) (k:=2) Z 0) Z) (bL Z (fun _ _ a c=>xe (a.ev Z) (a.ev Z) _) (dD (ag fT) Z (bL Z (fun _ _ a c=>ah bF (a.ev Z) (bN c (vs:=[iv p1.X,iv p1.Y]) (k:=1) Z 1) Z) (dD (ag fT) Z (bL Z (fun _ _ a c=>ah bF (a.ev Z) (bN c (vs:=[iv p2.X,iv p2.Y]) (k:=2) Z 1) Z) (bL Z (fun _ _ a c=>xe (a.ev Z) (a.ev Z) _) ?_)))))))))))))
 refine dD (ag fU) Z (bL Z (fun _ _ a c=>ah bF (a.ev Z) (bN c (vs:=[iv p1.X,iv p1.Y]) (k:=1) Z 0) Z) (dD (ag fU) Z (bL Z (fun _ _ a c=>ah bF (a.ev Z) (bN c (vs:=[iv p2.X,iv p2.Y]) (k:=2) Z 0) Z) (bL Z (fun _ _ a c=>xg (a.ev Z) (a.ev Z) _) (dD (ag fT) Z (bL Z (fun _ _ a c=>ah bF (a.ev Z) (bN c (vs:=[iv p1.X,iv p1.Y]) (k:=1) Z 1) Z) (dD (ag fT) Z (bL Z (fun _ _ a c=>ah bF (a.ev Z) (bN c (vs:=[iv p2.X,iv p2.Y]) (k:=2) Z 1) Z) (bL Z (fun _ _ a c=>xg (a.ev Z) (a.ev Z) _) (jB Z Z (jB Z Z (jB Z Z (jB Z Z (gz (aa (aj (aA Z (aA Z (aD Bo Z ?_)))))))))))))))))))
 refine aA Z (aA Z (aD Bo Z (aA Z ?_)))
 obtain⟨f,o,H⟩:=bnd H
 refine jc [4] [emp] (U:=(Option Addr×Nat)) (fun u=>(sL u.1 f u.2)) (fun O W u=>fQ u.1 f.length u.2) (fun u=>[ow u.1 u.2 121 aW f]) Z (bn Z bO) (fun _=>Z) (wn Z) Z Tryz.call214 (ak Z (ak Z (ak Z (ak Z (ak Z aH))))) (fun W hW hp hE=>zm N p0 g h (l.ext (hW.fM hp)) (bP (0-(min p1.X p2.X))) (max p1.X p2.X) (bP (0-(min p1.Y p2.Y))) (max p1.Y p2.Y) f o hE) ?_
 intro w u p hu
 obtain⟨b,d⟩:=u
 have j:=hu
 replace leB:=leB.trans p
 have i:fQ b f.length d:=j --@phi
 dsimp only
 refine Tr.k Z (ae (aa (aJ ?_)))
 obtain rfl:=oI H
 exact bR (m:=[sL b f d]) [] (bu Z bG) (fun W hW=>⟨w,(b,d),leB,Z,i,hW.pick (ks:=[4]) (by decide) (bn Z bO)⟩)

theorem zo{w:Bs}(p0:(List bz))(d:Option Addr)(v:Nat)(o:Sl w.R w.W aW d v p0)(r:aO)(H:nJ p0=some r)(hE:HF w w.W E0):Calls Tryz.prog 220 [sL d p0 v].toArray w.W fun e W'=>e= .returned (.agg #[iv r.X0,iv r.Y0,iv r.X1,iv r.Y1])∧HF w W' E0:=by
 unfold nJ at H
 have leB:=Bs.Le.refl w
 refine aX (n:=58) Tryz.func220 Z Z Z hE (aj (Tr.alloc 1 (wn Z) Z tQ fun J=>(ae (aa (az ?_)))))
 obtain⟨a1,d9,H⟩:=bnd H
 obtain⟨a2,a3,a4⟩:=bJ d9
 obtain⟨f2,a5,U,a6⟩:=(o).el a4
 obtain⟨G,L⟩:=f2
 have B:=U
 replace B:Sl w.R w.W cK G L a1.Xs:=B
 obtain⟨E,e0,H⟩:=bnd H
 obtain⟨a7,a8,a9⟩:=bJ e0
 obtain⟨j,e3,H⟩:=bnd H
 obtain⟨b0,b1,b2⟩:=bJ e3
 obtain⟨f3,b3,V,b4⟩:=(o).el b2
 obtain⟨f8,f9⟩:=f3
 have e9:=V
 obtain⟨b5,e4,H⟩:=bnd H
 obtain⟨b6,b7,b8⟩:=bJ e4
 obtain⟨f4,b9,X,c0⟩:=(o).el b8
 obtain⟨I,M⟩:=f4
 have C:=X
 replace C:Sl w.R w.W cK I M b5.Xs:=C
 obtain⟨F,e5,H⟩:=bnd H
 obtain⟨c3,c4,c5⟩:=bJ e5
 obtain⟨l,e6,H⟩:=bnd H
 obtain⟨c6,c7,c8⟩:=bJ e6
 obtain⟨f5,c9,a',d0⟩:=(o).el c8
 obtain⟨g0,g1⟩:=f5
 have f1:=a'
 refine Ej 25 [(24,.makeFunc (.func 0) #[] #[])] [(24,⟨3,2,.func (.func 0) #[] #[],fun b=>pV b,fun b=>bx b #[iv 0,iv 0,iv 0,iv 0] 77⟩)] [(0,sL d p0 v),(2,pV J),(3,.func (.func 0) #[] #[]),(6,sL d p0 v),(7,.pointer (some ⟨rM d,vJ d+((0:Int)).toNat*3,none⟩)),(8,.pointer (some ⟨rM d,vJ d+((0:Int)).toNat*3+2,none⟩)),(9,sL G a1.Xs L),(10,.pointer (some ⟨rM G,vJ G+((0:Int)).toNat*1,none⟩)),(11,iv E),(12,sL d p0 v),(13,.pointer (some ⟨rM d,vJ d+((0:Int)).toNat*3,none⟩)),(14,.pointer (some ⟨rM d,vJ d+((0:Int)).toNat*3+0,none⟩)),(15,iv j.Y0),(16,sL d p0 v),(17,.pointer (some ⟨rM d,vJ d+((0:Int)).toNat*3,none⟩)),(18,.pointer (some ⟨rM d,vJ d+((0:Int)).toNat*3+2,none⟩)),(19,sL I b5.Xs M),(20,.pointer (some ⟨rM I,vJ I+((1:Int)).toNat*1,none⟩)),(21,iv F),(22,sL d p0 v),(23,sL d p0 v),(24,iv (p0.length:Int)),(25,iv (bP ((p0.length:Int)-1))),(26,.pointer (some ⟨rM d,vJ d+((bP ((p0.length:Int)-1))).toNat*3,none⟩)),(27,.pointer (some ⟨rM d,vJ d+((bP ((p0.length:Int)-1))).toNat*3+1,none⟩)),(28,iv l.Y1),(29,.agg #[iv E,iv j.Y0,iv F,iv l.Y1])] (by kernel_rfl) (by kernel_rfl) (by kernel_rfl) (by kernel_rfl) (by kernel_rfl) (by kernel_rfl) (by kernel_rfl) (oz (Hw Z Z tQ) qF) (oz Z qF) (oz Z qF) ?_ ?_
 ·refine dY Z (bL Z (fun _ _ a c=>aB rY (a.ev Z) o.form (a.ev Z) a2 a3) (dD (ag pJ) Z (bL Z (fun _ _ a c=>ah o7 (a.ev Z) (aI.drop (tY a5 a6 c) 2) Z) (bL Z (fun _ _ a c=>aB lF (a.ev Z) B.form (a.ev Z) a7 a8) (bL Z (fun _ _ a c=>ah bF (a.ev Z) (pq lT B a9 c) Z) (dY Z (bL Z (fun _ _ a c=>aB rY (a.ev Z) o.form (a.ev Z) b0 b1) (dD (ag vw) Z (bL Z (fun _ _ a c=>ah bF (a.ev Z) (aI.drop (tY b3 b4 c) 0) Z) (dY Z (bL Z (fun _ _ a c=>aB rY (a.ev Z) o.form (a.ev Z) b6 b7) ?_)))))))))))
  refine dD (ag pJ) Z (bL Z (fun _ _ a c=>ah o7 (a.ev Z) (aI.drop (tY b9 c0 c) 2) Z) (bL Z (fun _ _ a c=>aB lF (a.ev Z) C.form (a.ev Z) c3 c4) (bL Z (fun _ _ a c=>ah bF (a.ev Z) (pq lT C c5 c) Z) (dY Z (dY Z (dD (bA ve) Z (dL gH Z Z (bL Z (fun _ _ a c=>aB rY (a.ev Z) o.form (a.ev Z) c6 c7) (dD (ag q9) Z (bL Z (fun _ _ a c=>ah bF (a.ev Z) (aI.drop (tY c9 d0 c) 1) Z) (AP (vs:=[(0,iv E),(1,iv j.Y0),(2,iv F),(3,iv l.Y1)]) (cs:=[iv E,iv j.Y0,iv F,iv l.Y1]) (wn Z) Z (bQ Z (bQ Z (bQ Z (bQ Z dR)))) (by kernel_rfl) (BB (vs:=[]) (wn Z) Z aH ?_))))))))))))
  exact bK (.r Z)
 ·intro q
  refine Tr.EM (lf:=[(0,sL d p0 v),(2,pV J),(3,.pointer (some ⟨(q 24),0,none⟩)),(29,.agg #[iv E,iv j.Y0,iv F,iv l.Y1])]) (le:=[(1,bx J #[iv 0,iv 0,iv 0,iv 0] 77),(2,bx (q 24) #[iv 0,iv 0,iv 0,iv 0] 77)]) (.r Z) (.r Z) (bv 2 (cs:=[iv E,iv j.Y0,iv F,iv l.Y1]) [iv E,iv j.Y0,iv F,iv l.Y1] (wn Z) Z Z Z Z jy Z Z Z (ae (aa (az (aj (aA Z (aD (bA ve) Z (aA Z (ae (aa (Tr.block (cO (σ:=(List bz)×Nat×Int×Int) (fun m w s=>m=s.1.length+1∧s.1=List.drop s.2.1 p0∧s.2.1≤p0.length∧iG j l s.1 s.2.1 s.2.2.1 s.2.2.2=some r) (fun s=>[(2,pV J),(3,.pointer (some ⟨(q 24),0,none⟩)),(30,sL d p0 v),(31,iv (p0.length:Int)),(32,iv (s.2.1:Int))]) (fun s=>[(1,bx J #[iv 0,iv 0,iv 0,iv 0] 77),(2,bx (q 24) #[iv s.2.2.1,iv j.Y0,iv s.2.2.2,iv l.Y1] 77)]) (p0.length+1) (p0,0,E,F) ⟨Z,Z,Nat.zero_le _,H⟩ (.r Z) (.r Z) (fun _ _ h=>absurd h.1 (by simp)) ?_))))))))))))
  intro w P m s hs
  obtain⟨A,T,t,y⟩:=s
  obtain⟨Q,D,g3,H⟩:=hs
  replace D:A=List.drop T p0:=D
  replace H:iG j l A T t y=some r:=H
  replace Q:m+1=A.length+1:=Q
  replace o:=o.iR P
  replace leB:=leB.trans P
  obtain rfl:m=A.length:=by omega
  clear Q
  dsimp only
  cases A with
  |nil=>
   rw[iG.eq_1] at H
   refine aj (av bi Z Z (ae (aa (az (dn Z (cz D) (bZ (aF (aF (bg (aa (aj (aC Z (fun _ _ a c=>aL (cs:=[iv t,iv j.Y0,iv y,iv l.Y1]) o9 jy (a.ev Z) (aI.take (bN c (vs:=[iv t,iv j.Y0,iv y,iv l.Y1]) (k:=2) Z 0) 4) Z) (bv 1 (cs:=[iv t,iv j.Y0,iv y,iv l.Y1]) [iv t,iv j.Y0,iv y,iv l.Y1] (wn Z) Z Z Z Z jy Z Z Z (ae (aa (aJ ?_))))))))))))))))
   obtain rfl:=oI H
   exact bR (m:=[.agg #[iv t,iv j.Y0,iv y,iv l.Y1]]) [1] (fJ Z Z o9 jy bG) (fun W hW=>⟨Z,hW.low leB⟩)
  |cons i A=>
   rw[iG.eq_2] at H
   refine aj (av bi Z Z (ae (aa (az (dm Z (dz D) (aM (aa (az (Tr.block (aj ?_))))))))))
   obtain⟨f6,d1,a0,d2⟩:=(o).el (dA D)
   obtain⟨f,g⟩:=f6
   have u:=a0
   replace u:Sl w.R w.W cK f g i.Xs:=u
   refine aC Z (fun _ _ a c=>aB rY (a.ev Z) o.form (a.ev Z) (Int.natCast_nonneg _) (bq D)) (aC Z (fun _ _ a c=>aL (cs:=[iv i.Y0,iv i.Y1,sL f i.Xs g]) K3 zV (a.ev Z) (aI.take (tY d1 d2 c) 3) Z) (Tr.alloc 5 (wn Z) Z Nq fun S=>(bv 5 (cs:=[iv i.Y0,iv i.Y1,sL f i.Xs g]) [iv i.Y0,iv i.Y1,sL f i.Xs g] (wn Z) Z Z Z Z zV Z Z Z (ae (aa (ui 20 [(19,fun x=>x=(q 24))] [] (by kernel_rfl) (by kernel_rfl) fun N f7 g2=>(bU 0 [(36,.pointer (some ⟨(q 24),0,none⟩))] (by kernel_rfl) Z Z (by kernel_rfl) ?_ Z Z ?_)))))))
   ·exact dD (ag kU) Z (bK (.r Z))
   refine bU 1 [(37,iv t)] (by kernel_rfl) Z Z (by kernel_rfl) ?_ Z Z ?_
   ·exact bL Z (fun _ _ a c=>ah bF (a.ev Z) (bN c (vs:=[iv t,iv j.Y0,iv y,iv l.Y1]) (k:=2) Z 0) Z) (bK (.r Z))
   refine bU 2 [(38,.pointer (some ⟨S,2,none⟩))] (by kernel_rfl) Z Z (by kernel_rfl) ?_ Z Z ?_
   ·exact dD (ag pJ) Z (bK (.r Z))
   refine bU 3 [(39,sL f i.Xs g)] (by kernel_rfl) Z Z (by kernel_rfl) ?_ Z Z ?_
   ·exact bL Z (fun _ _ a c=>ah o7 (a.ev Z) (bN c (vs:=[iv i.Y0,iv i.Y1,sL f i.Xs g]) (k:=5) Z 2) Z) (bK (.r Z))
   obtain⟨K,e7,H⟩:=bnd H
   obtain⟨d3,d4,d5⟩:=bJ e7
   refine bU 4 [(40,.pointer (some ⟨rM f,vJ f+((0:Int)).toNat*1,none⟩))] (by kernel_rfl) Z Z (by kernel_rfl) ?_ Z Z ?_
   ·exact bL Z (fun _ _ a c=>aB lF (a.ev Z) u.form (a.ev Z) d3 d4) (bK (.r Z))
   refine bU 5 [(41,iv K)] (by kernel_rfl) Z Z (by kernel_rfl) ?_ Z Z ?_
   ·exact bL Z (fun _ _ a c=>ah bF (a.ev Z) (pq lT u d5 c) Z) (bK (.r Z))
   refine bU 6 [(42,iv (min t K))] (by kernel_rfl) Z Z (by kernel_rfl) ?_ Z Z ?_
   ·exact bL Z (fun _ _ a c=>xe (a.ev Z) (a.ev Z) _) (bK (.r Z))
   refine bU 7 [(43,.pointer (some ⟨(q 24),2,none⟩))] (by kernel_rfl) Z Z (by kernel_rfl) ?_ Z Z ?_
   ·exact dD (ag pu) Z (bK (.r Z))
   refine bU 8 [(44,iv y)] (by kernel_rfl) Z Z (by kernel_rfl) ?_ Z Z ?_
   ·exact bL Z (fun _ _ a c=>ah bF (a.ev Z) (bN c (vs:=[iv t,iv j.Y0,iv y,iv l.Y1]) (k:=2) Z 2) Z) (bK (.r Z))
   refine jk 9 (by kernel_rfl) Z (wn Z) Z (by kernel_rfl) (fun _ _ a=>ag pJ (a.ev Z)) Z (oJ 10 [(46,sL f i.Xs g)] [19] false (by kernel_rfl) Z Z (by kernel_rfl) (fun W W' c hsW hk=>HF.Ac (le:=[(5,bx S #[iv i.Y0,iv i.Y1,sL f i.Xs g] 121)]) (ks:=[(2,fun x=>x=(q 24))]) (s0:=N) false c hk (fun h=>absurd h (by decide)) (.r Z) (fun b hb=>hb.elim (fun⟨p,hp,hf,hb⟩=>by simp only[List.mem_cons,List.not_mem_nil,or_false] at hp;rcases hp with rfl;exact .inl ⟨_,List.mem_cons_self,hb⟩) (fun hb=>absurd hb.1 (by decide))) (List.forall_mem_cons.2 ⟨fun b hb=>hb,(fun _ h=>nomatch h)⟩) rfl) ?_ rfl rfl ?_)
   ·exact bL Z (fun _ _ a c=>ah o7 (a.ev Z) (bN c (vs:=[iv i.Y0,iv i.Y1,sL f i.Xs g]) (k:=5) Z 2) Z) (bK (.r Z))
   refine jk 11 (by kernel_rfl) Z (wn Z) Z (by kernel_rfl) (fun _ _ a=>ag pJ (a.ev Z)) Z (oJ 12 [(48,sL f i.Xs g)] [19] false (by kernel_rfl) Z Z (by kernel_rfl) (fun W W' c hsW hk=>HF.Ac (le:=[(5,bx S #[iv i.Y0,iv i.Y1,sL f i.Xs g] 121)]) (ks:=[(2,fun x=>x=(q 24))]) (s0:=N) false c hk (fun h=>absurd h (by decide)) (.r Z) (fun b hb=>hb.elim (fun⟨p,hp,hf,hb⟩=>by simp only[List.mem_cons,List.not_mem_nil,or_false] at hp;rcases hp with rfl;exact .inl ⟨_,List.mem_cons_self,hb⟩) (fun hb=>absurd hb.1 (by decide))) (List.forall_mem_cons.2 ⟨fun b hb=>hb,(fun _ h=>nomatch h)⟩) rfl) ?_ rfl rfl ?_)
   ·exact bL Z (fun _ _ a c=>ah o7 (a.ev Z) (bN c (vs:=[iv i.Y0,iv i.Y1,sL f i.Xs g]) (k:=5) Z 2) Z) (bK (.r Z))
   refine jk 13 (by kernel_rfl) Z (wn Z) Z (by kernel_rfl) (fun _ _ a=>bA ni (a.ev Z)) Z (jk 14 (by kernel_rfl) Z (wn Z) Z (by kernel_rfl) (fun _ _ a=>gH (a.ev Z) (a.ev Z)) Z ?_)
   obtain⟨O,e8,H⟩:=bnd H
   obtain⟨d6,d7,d8⟩:=bJ e8
   refine jk 15 (by kernel_rfl) Z (wn Z) Z (by kernel_rfl) (fun _ _ a=>aB lF (a.ev Z) u.form (a.ev Z) d6 d7) Z (oJ 16 [(52,iv O)] [19] false (by kernel_rfl) Z Z (by kernel_rfl) (fun W W' c hsW hk=>HF.Ac (le:=[]) (ks:=[(2,fun x=>x=(q 24))]) (s0:=N) false c hk (fun h=>absurd h (by decide)) .nil (fun b hb=>hb.elim (fun⟨p,hp,hf,hb⟩=>by simp only[List.mem_cons,List.not_mem_nil,or_false] at hp;rcases hp with rfl;exact .inl ⟨_,List.mem_cons_self,hb⟩) (fun hb=>absurd hb.1 (by decide))) (List.forall_mem_cons.2 ⟨fun b hb=>hb,(fun _ h=>nomatch h)⟩) rfl) ?_ rfl rfl ?_)
   ·exact bL Z (fun _ _ a c=>ah bF (a.ev Z) (pq lT u d8 c) Z) (bK (.r Z))
   refine jk 17 (by kernel_rfl) Z (wn Z) Z (by kernel_rfl) (fun _ _ a=>xg (a.ev Z) (a.ev Z) _) Z (bU 18 [(54,.pointer (some ⟨(q 24),0,none⟩))] (by kernel_rfl) Z Z (by kernel_rfl) ?_ Z Z ?_)
   ·exact dD (ag kU) Z (bK (.r Z))
   exact Dr.one 19 (by kernel_rfl) (AR 19 2 (cs:=[iv (min t K)]) [iv (min t K),iv j.Y0,iv y,iv l.Y1] Z (wn Z) (.inl ⟨_,List.mem_cons_self,Z,Z⟩) Z Z Z Z vM Z Z Z (vT (by kernel_rfl) (aD (ag pu) Z (bv 2 (cs:=[iv (max y O)]) [iv (min t K),iv j.Y0,iv (max y O),iv l.Y1] (wn Z) Z Z Z Z vM Z Z Z (ae (aQ (aa (aV (av bE Z Z (aA Z (ae (aP P (A,(T+1),(min t K),(max y O)) ⟨Z,df D,bq D,H⟩ (.cons Z (.cons Z (.cons Z (.cons Z (.cons (congrArg (fun z=>some (Value.int .i64 z)) (cZ D o.form)) .nil))))) (.r Z)))))))))))))

theorem AZ{w:Bs}(p0:(List bz))(c:Option Addr)(d:Nat)(i:Sl w.R w.W aW c d p0)(r:Bool)(H:oQ p0=some r)(hE:HF w w.W E0):Calls Tryz.prog 212 [sL c p0 d].toArray w.W fun e W'=>e= .returned (bV r)∧HF w W' E0:=by
 unfold oQ at H
 have leB:=Bs.Le.refl w
 refine aX (n:=11) Tryz.func212 Z Z Z hE (aj (Tr.k Z (ae (aa (aj (aA Z (aD (bA ve) Z (av dM Z Z (aA Z ?_)))))))))
 obtain⟨g,a,H⟩:=bnd H
 refine bM 4 [(10,bV g)] [] ?_ ?_
 ·cases f:((p0.length:Int)==0)
  ·rw[f] at a
   rw[if_neg (by decide)] at a
   have H:=a
   refine bC run_move Z ?_
   obtain⟨b,j,H⟩:=bnd H
   refine aS (r:=(.agg #[iv b.X0,iv b.Y0,iv b.X1,iv b.Y1])) (wg Z Z Z) Z Tryz.call220 (ak Z aH) (fun W hW=>zo p0 c d (i.ext hW.aY) b j (HF.start _)) ?_
   obtain⟨h,l,H⟩:=bnd H
   refine aS (r:=(bV h)) (wg Z Z Z) Z Tryz.call150 (ak Z aH) (fun W hW=>xu b h l (HF.start _)) (av aU Z Z ?_)
   obtain rfl:=oI H
   exact ae (aR (.r Z) .nil)
  ·rw[f] at a
   rw[if_pos Z] at a
   have H:=a
   obtain rfl:=oI H
   exact aG Z (aG Z (aG Z (av aT Z Z (ae (aR (.r Z) .nil)))))
 ·show Tr _ _ (LF [(10,bV g)]) (LE []) _
  refine Tr.k Z (ae (aa (aJ ?_)))
  obtain rfl:=oI H
  exact bD leB

theorem wO{w:Bs}(p0:(List bz))(f:Option Addr)(p:Nat)(b:Sl w.O w.W aW f p p0)(p1:Int)(p2:Int)(r:((List Int)×Int))(H:oC p0 p1 p2=some r)(hE:HF w w.W (mF [])):Calls Tryz.prog 129 [sL f p0 p,iv p1,iv p2].toArray w.W fun e W'=>∃(w':Bs) (u:(Option Addr×Nat)),w.Le w'∧e= .returned (.tuple #[sL u.1 r.1 u.2,iv r.2])∧(Sl w'.O w'.W cK u.1 u.2 r.1)∧HF w' W' (mF []):=by
 unfold oC at H
 have leB:=Bs.Le.refl w
 refine aX (n:=36) Tryz.func129 Z Z Z hE (aj (Tr.k Z (bY 1 3 cK ?_)))
 show Tr _ _ (uf _ 6 (sL none (([]:List Int)) 0)) _ _
 refine Tr.k Z (ae (aa (az (Tr.block (aj (aA Z (aD (bA ve) Z (av dM Z Z (Tr.k Z (ae (aa (aN Z H (fun H=>?_) (fun H=>?_)))))))))))))
 ·refine aj (aA Z (Tr.k Z (bY 2 3 cK ?_)))
  show Tr _ _ (uf _ 6 (sL none (([]:List Int)) 0)) _ _
  refine Tr.k Z (ae (aa (aJ (au (ai ?_)))))
  obtain rfl:=oI H
  refine Tr.freeze 2 Z fun w S T=>?_
  replace leB:=leB.trans S
  exact bR (m:=[sL none (([]:List Int)) 0,iv p2]) [] (bu Z (bu Z bG)) (fun W hW=>⟨w,(none,0),leB,Z,T,hW.pick (ks:=[]) (by decide) bO⟩)
 ·refine aj (aA Z (aA Z ?_))
  obtain⟨b5,U,H⟩:=bnd H
  obtain⟨y,z,A⟩:=bJ U
  obtain⟨a3,i,q,B⟩:=(b).el A
  obtain⟨a9,b0⟩:=a3
  have a0:=q
  replace i:w.R (rM f):=Or.inl i
  refine aC Z (fun _ _ a c=>aB rY (a.ev Z) b.form (a.ev Z) y z) (aD (ag vw) Z (aC Z (fun _ _ a c=>ah bF (a.ev Z) (aI.drop (tY i B c) 0) Z) (av bi Z Z (Tr.k Z (ae (aa (aN Z H (fun H=>?_) (fun H=>?_))))))))
  ·refine az (fZ (by kernel_rfl) (by kernel_rfl) (dY Z (dY Z ?_)))
   obtain⟨a4,V,H⟩:=bnd H
   obtain⟨C,D,E⟩:=bJ V
   obtain⟨a5,j,s,F⟩:=(b).el E
   obtain⟨b1,b2⟩:=a5
   have a1:=s
   replace j:w.R (rM f):=Or.inl j
   refine bL Z (fun _ _ a c=>aB rY (a.ev Z) b.form (a.ev Z) C D) (dD (ag vw) Z (bL Z (fun _ _ a c=>ah bF (a.ev Z) (aI.drop (tY j F c) 0) Z) (bL Z (fun _ _ a c=>xe (a.ev Z) (a.ev Z) _) (jB Z Z (jB Z Z (gz (aa (aJ (au (ai ?_))))))))))
   obtain rfl:=oI H
   exact bR (m:=[.slice none 0 0,iv (min p2 a4.Y0)]) [] (bu Z (bu Z bG)) (fun W hW=>⟨w,(none,0),leB,Z,(Sl.nil _ _ _),hW.pick (ks:=[]) (by decide) bO⟩)
  ·refine aM (aQ (aa (az (fZ (by kernel_rfl) (by kernel_rfl) (dY Z ?_)))))
   obtain⟨G,X,H⟩:=bnd H
   obtain⟨I,J,K⟩:=bJ X
   obtain⟨a6,l,t,L⟩:=(b).el K
   obtain⟨g,h⟩:=a6
   have d:=t
   replace d:Sl w.O w.W cK g h G.Xs:=d
   replace l:w.R (rM f):=Or.inl l
   refine bL Z (fun _ _ a c=>aB rY (a.ev Z) b.form (a.ev Z) I J) (dD (ag pJ) Z (bL Z (fun _ _ a c=>ah o7 (a.ev Z) (aI.drop (tY l L c) 2) Z) (dY Z (dY Z ?_))))
   obtain⟨a7,a',H⟩:=bnd H
   obtain⟨M,N,P⟩:=bJ a'
   obtain⟨a8,o,v,Q⟩:=(b).el P
   obtain⟨b3,b4⟩:=a8
   have a2:=v
   replace o:w.R (rM f):=Or.inl o
   refine bL Z (fun _ _ a c=>aB rY (a.ev Z) b.form (a.ev Z) M N) (dD (ag q9) Z (bL Z (fun _ _ a c=>ah bF (a.ev Z) (aI.drop (tY o Q c) 1) Z) (bL Z (fun _ _ a c=>xe (a.ev Z) (a.ev Z) _) (jB Z Z (jB Z Z (gz (aa (aJ ?_))))))))
   obtain rfl:=oI H
   exact bR (m:=[sL g G.Xs h,iv (min p2 a7.Y1)]) [] (bu Z (bu Z bG)) (fun W hW=>⟨w,(g,h),leB,Z,d,hW.pick (ks:=[]) (by decide) bO⟩)

theorem F5(N:Nat){w:Bs}(p0:(List Int))(a4:Option Addr)(a5:Nat)(e3:Sl w.R w.W cK a4 a5 p0)(p1:(List Int))(a6:Option Addr)(a7:Nat)(e4:Sl w.R w.W cK a6 a7 p1)(p2:Bool→Bool→Option Bool)(fid2:Nat)(A:List Value)(hg2:∀args W,(callFunc fid2 args).run Tryz.prog W= .ok (.enter fid2 args) W)(hf2:∀(w':Bs),w.Ext w'→∀(z0:Bool) (z1:Bool),∀y,p2 z0 z1=some y→Calls Tryz.prog fid2 (([bV z0,bV z1]:List Value)++A).toArray w'.W fun e W''=>e= .returned (bV y)∧HF w' W'' E0)(r:(List Int))(H:ut N p0 p1 p2=some r)(hE:HF w w.W (mF [emp])):Calls Tryz.prog 130 [sL a4 p0 a5,sL a6 p1 a7,.func (.func fid2) #[] A.toArray].toArray w.W fun e W'=>∃u:(Option Addr×Nat),e= .returned (sL u.1 r u.2)∧(fQ u.1 r.length u.2)∧HF w W' (mF [ow u.1 u.2 3 cK r]):=by
 unfold ut at H
 have leB:=Bs.Le.refl w
 refine aX (n:=85) Tryz.func130 Z Z Z hE (aj (Tr.k Z (bY 1 3 cK ?_)))
 show Tr _ _ (uf _ 6 (sL none (([]:List Int)) 0)) _ _
 refine ae (aa (aj (Tr.k Z (bY 2 3 cK ?_))))
 show Tr _ _ (uf _ 7 (sL none (([]:List Int)) 0)) _ _
 refine ae (aa (aj (Tr.k Z (Tr.k Z (Tr.k Z (ae (aa (az (Tr.block (cO (σ:=(List Int)×(List Int)×(List Int)×Bool×Bool×Bool×(Option Addr)×Nat×(Option Addr)×Nat×(Option Addr)×Nat) (fun m w s=>eG p2 m s.1 s.2.1 s.2.2.1 s.2.2.2.1 s.2.2.2.2.1 s.2.2.2.2.2.1=some r∧Sl w.R w.W cK s.2.2.2.2.2.2.1 s.2.2.2.2.2.2.2.1 s.1∧Sl w.R w.W cK s.2.2.2.2.2.2.2.2.1 s.2.2.2.2.2.2.2.2.2.1 s.2.1∧fQ s.2.2.2.2.2.2.2.2.2.2.1 s.2.2.1.length s.2.2.2.2.2.2.2.2.2.2.2) (fun s=>[(0,sL s.2.2.2.2.2.2.1 s.1 s.2.2.2.2.2.2.2.1),(1,sL s.2.2.2.2.2.2.2.2.1 s.2.1 s.2.2.2.2.2.2.2.2.2.1),(2,.func (.func fid2) #[] A.toArray),(7,sL s.2.2.2.2.2.2.2.2.2.2.1 s.2.2.1 s.2.2.2.2.2.2.2.2.2.2.2),(8,bV s.2.2.2.1),(9,bV s.2.2.2.2.1),(10,bV s.2.2.2.2.2.1)]) (fun s=>[(2,ow s.2.2.2.2.2.2.2.2.2.2.1 s.2.2.2.2.2.2.2.2.2.2.2 3 cK s.2.2.1)]) N (p0,p1,([]:List Int),false,false,false,a4,a5,a6,a7,none,0) ⟨H,e3,e4,fP⟩ (.r Z) (.r Z) (fun _ _ h=>oq (h.1)) ?_))))))))))
 intro w K a' s hs
 obtain⟨q,g,f,E,p,i,D,B,o,j,b,d⟩:=s
 obtain⟨H,C,v,T⟩:=hs
 replace H:eG p2 (a'+1) q g f E p i=some r:=H
 replace hf2:=fun w' he=>hf2 w' (K.ext.trans he)
 replace leB:=leB.trans K
 replace C:Sl w.R w.W cK D B q:=C
 replace v:Sl w.R w.W cK o j g:=v
 replace T:fQ b f.length d:=T
 rw[eG.eq_2] at H
 dsimp only
 refine az (aj (aA Z (aD (bA ni) Z (av dE Z Z (aA Z (bM 4 [(0,sL D q B),(1,sL o g j),(2,.func (.func fid2) #[] A.toArray),(7,sL b f d),(8,bV E),(9,bV p),(10,bV i),(20,bV ((decide (0<(q.length:Int)))||(decide (0<(g.length:Int)))))] [(2,ow b d 3 cK f)] ?_ ?_))))))
 ·cases a8:(decide (0<(q.length:Int)))
  ·exact bC run_move Z (bC (bA ni) Z (dI dE Z Z (av aU Z Z (ae (aR (.r Z) (.r Z))))))
  ·exact aG Z (aG Z (aG Z (av aT Z Z (ae (aR (.r Z) (.r Z))))))
 ·show Tr _ _ (LF [(0,sL D q B),(1,sL o g j),(2,.func (.func fid2) #[] A.toArray),(7,sL b f d),(8,bV E),(9,bV p),(10,bV i),(20,bV ((decide (0<(q.length:Int)))||(decide (0<(g.length:Int)))))]) (LE [(2,ow b d 3 cK f)]) _
  refine ae (aa (aN Z H (fun H=>?_) (fun H=>?_)))
  ·refine aM (aa (Tr.block (aj (Tr.k Z (ae (aa ?_))))))
   have a9:=Bs.Le.refl w
   refine pz (σ:=Int) (fun w s=>ko p2 q g f E p i (eG p2 a') s=some r) (fun s=>[(0,sL D q B),(1,sL o g j),(2,.func (.func fid2) #[] A.toArray),(7,sL b f d),(8,bV E),(9,bV p),(10,bV i),(11,iv s)]) (fun s=>[(2,ow b d 3 cK f)]) ?_ ?_
   ·refine az (fZ (by kernel_rfl) (by kernel_rfl) (dY Z (dD (bA ni) Z (dL dM Z Z (dY Z ?_)))))
    obtain⟨f6,L,H⟩:=bnd H
    refine mi 13 [(0,sL D q B),(1,sL o g j),(2,.func (.func fid2) #[] A.toArray),(7,sL b f d),(8,bV E),(9,bV p),(10,bV i),(37,bV f6)] ?_ ?_
    ·cases a8:((g.length:Int)==0)
     ·rw[a8] at L
      rw[if_neg (by decide)] at L
      have H:=L
      refine dJ run_move Z (dJ (bA ni) Z (lg dE Z Z (dJ run_move Z ?_)))
      obtain⟨f7,M,H⟩:=bnd H
      refine mi 8 [(0,sL D q B),(1,sL o g j),(2,.func (.func fid2) #[] A.toArray),(7,sL b f d),(8,bV E),(9,bV p),(10,bV i),(24,bV false),(36,bV f7)] ?_ ?_
      ·cases b2:(decide (0<(q.length:Int)))
       ·rw[b2] at M
        rw[if_neg (by decide)] at M
        have H:=M
        obtain rfl:=oI H
        exact bB Z (bB Z (bB Z (bB Z (bB Z (bB Z (bB Z (lg aU Z Z (bK (.r Z)))))))))
       ·rw[b2] at M
        rw[if_pos Z] at M
        have H:=M
        refine dJ run_move Z ?_
        obtain⟨g3,e5,H⟩:=bnd H
        obtain⟨b7,b8,b9⟩:=bJ e5
        refine Tq.x (fun _ _ a c=>aB lF (a.ev Z) C.form (a.ev Z) b7 b8) (Tq.x (fun _ _ a c=>ah bF (a.ev Z) (pq lT C b9 c) Z) (dJ run_move Z ?_))
        obtain⟨g4,e6,H⟩:=bnd H
        obtain⟨c0,c3,c4⟩:=bJ e6
        refine Tq.x (fun _ _ a c=>aB lF (a.ev Z) v.form (a.ev Z) c0 c3) (Tq.x (fun _ _ a c=>ah bF (a.ev Z) (pq lT v c4 c) Z) (lg iT Z Z (lg aT Z Z ?_)))
        obtain rfl:=oI H
        exact bK (.r Z)
      ·refine dL aU Z Z ?_
       obtain rfl:=oI H
       exact bK (.r Z)
     ·rw[a8] at L
      rw[if_pos Z] at L
      have H:=L
      obtain rfl:=oI H
      exact bB Z (bB Z (bB Z (bB Z (IJ Z (IJ Z (IJ Z (IJ Z (IJ Z (IJ Z (IJ Z (bB Z (dL aT Z Z (bK (.r Z))))))))))))))
    ·refine gz (aa (aN Z H (fun H=>?_) (fun H=>?_)))
     ·refine aV (aA Z ?_)
      obtain⟨f8,e7,H⟩:=bnd H
      obtain⟨c5,c6,c7⟩:=bJ e7
      exact aC Z (fun _ _ a c=>aB lF (a.ev Z) C.form (a.ev Z) c5 c6) (aC Z (fun _ _ a c=>ah bF (a.ev Z) (pq lT C c7 c) Z) (Tr.k Z (ae (aP a9 f8 H (.r Z) (.r Z)))))
     ·refine aV (aA Z ?_)
      obtain⟨f9,e8,H⟩:=bnd H
      obtain⟨c8,c9,d0⟩:=bJ e8
      exact aC Z (fun _ _ a c=>aB lF (a.ev Z) v.form (a.ev Z) c8 c9) (aC Z (fun _ _ a c=>ah bF (a.ev Z) (pq lT v d0 c) Z) (Tr.k Z (ae (aP a9 f9 H (.r Z) (.r Z)))))
   ·intro w z S hs
    have H:=hs
    replace H:ko p2 q g f E p i (eG p2 a') z=some r:=H
    replace C:=C.iR S
    replace v:=v.iR S
    replace hf2:=fun w' he=>hf2 w' (S.ext.trans he)
    replace K:=K.trans S
    unfold ko at H
    show Tr _ _ (LF [(0,sL D q B),(1,sL o g j),(2,.func (.func fid2) #[] A.toArray),(7,sL b f d),(8,bV E),(9,bV p),(10,bV i),(11,iv z)]) (LE [(2,ow b d 3 cK f)]) _
    have b0:=Bs.Le.refl w
    refine pz (σ:=(List Int)×Bool×(Option Addr)×Nat) (fun w s=>kY p2 g f p i (eG p2 a') z s.1 s.2.1=some r∧Sl w.R w.W cK s.2.2.1 s.2.2.2 s.1) (fun s=>[(0,sL s.2.2.1 s.1 s.2.2.2),(1,sL o g j),(2,.func (.func fid2) #[] A.toArray),(7,sL b f d),(8,bV s.2.1),(9,bV p),(10,bV i),(11,iv z)]) (fun s=>[(2,ow b d 3 cK f)]) ?_ ?_
    ·refine aj (aA Z (aD (bA ni) Z (av dE Z Z (aA Z ?_))))
     obtain⟨d1,O,H⟩:=bnd H
     refine bM 6 [(0,sL D q B),(1,sL o g j),(2,.func (.func fid2) #[] A.toArray),(7,sL b f d),(8,bV E),(9,bV p),(10,bV i),(11,iv z),(53,bV d1)] [(2,ow b d 3 cK f)] ?_ ?_
     ·cases b3:(decide (0<(q.length:Int)))
      ·rw[b3] at O
       rw[if_neg (by decide)] at O
       have H:=O
       obtain rfl:=oI H
       exact aG Z (aG Z (aG Z (aG Z (aG Z (av aU Z Z (ae (aR (.r Z) (.r Z))))))))
      ·rw[b3] at O
       rw[if_pos Z] at O
       have H:=O
       refine bC run_move Z ?_
       obtain⟨g5,e9,H⟩:=bnd H
       obtain⟨d2,d3,d4⟩:=bJ e9
       refine Tr.x (fun _ _ a c=>aB lF (a.ev Z) C.form (a.ev Z) d2 d3) (Tr.x (fun _ _ a c=>ah bF (a.ev Z) (pq lT C d4 c) Z) (bC run_move Z (dI dM Z Z (av aT Z Z ?_))))
       obtain rfl:=oI H
       exact ae (aR (.r Z) (.r Z))
     ·show Tr _ _ (LF [(0,sL D q B),(1,sL o g j),(2,.func (.func fid2) #[] A.toArray),(7,sL b f d),(8,bV E),(9,bV p),(10,bV i),(11,iv z),(53,bV d1)]) (LE [(2,ow b d 3 cK f)]) _
      refine ae (aa (aN Z H (fun H=>?_) (fun H=>?_)))
      ·refine aV (aA Z ?_)
       obtain⟨g0,b4,H⟩:=bnd H
       exact aC Z (fun _ _ a c=>Aa lF (a.ev Z) C.form (a.ev Z) b4) (aA Z (aD bT Z (Tr.k Z (Tr.k Z (ae (aP b0 (g0,(!E),(zb D (1:Int).toNat 1 B),(B-(1:Int).toNat)) ⟨H,(Sl.cut C b4)⟩ (.r Z) (.r Z)))))))
      ·exact aM (aP b0 (q,E,D,B) ⟨H,C⟩ (.r Z) (.r Z))
    ·intro w s a0 hs
     obtain⟨F,G,I,J⟩:=s
     obtain⟨H,P⟩:=hs
     replace H:kY p2 g f p i (eG p2 a') z F G=some r:=H
     replace v:=v.iR a0
     replace hf2:=fun w' he=>hf2 w' (a0.ext.trans he)
     replace K:=K.trans a0
     replace P:Sl w.R w.W cK I J F:=P
     unfold kY at H
     dsimp only
     have b1:=Bs.Le.refl w
     refine pz (σ:=(List Int)×Bool×(Option Addr)×Nat) (fun w s=>nu p2 f i (eG p2 a') z F G s.1 s.2.1=some r∧Sl w.R w.W cK s.2.2.1 s.2.2.2 s.1) (fun s=>[(0,sL I F J),(1,sL s.2.2.1 s.1 s.2.2.2),(2,.func (.func fid2) #[] A.toArray),(7,sL b f d),(8,bV G),(9,bV s.2.1),(10,bV i),(11,iv z)]) (fun s=>[(2,ow b d 3 cK f)]) ?_ ?_
     ·refine aj (aA Z (aD (bA ni) Z (av dE Z Z (aA Z ?_))))
      obtain⟨d5,Q,H⟩:=bnd H
      refine bM 6 [(0,sL I F J),(1,sL o g j),(2,.func (.func fid2) #[] A.toArray),(7,sL b f d),(8,bV G),(9,bV p),(10,bV i),(11,iv z),(67,bV d5)] [(2,ow b d 3 cK f)] ?_ ?_
      ·cases b5:(decide (0<(g.length:Int)))
       ·rw[b5] at Q
        rw[if_neg (by decide)] at Q
        have H:=Q
        obtain rfl:=oI H
        exact aG Z (aG Z (aG Z (aG Z (aG Z (av aU Z Z (ae (aR (.r Z) (.r Z))))))))
       ·rw[b5] at Q
        rw[if_pos Z] at Q
        have H:=Q
        refine bC run_move Z ?_
        obtain⟨g6,f1,H⟩:=bnd H
        obtain⟨d6,d7,d8⟩:=bJ f1
        refine Tr.x (fun _ _ a c=>aB lF (a.ev Z) v.form (a.ev Z) d6 d7) (Tr.x (fun _ _ a c=>ah bF (a.ev Z) (pq lT v d8 c) Z) (bC run_move Z (dI dM Z Z (av aT Z Z ?_))))
        obtain rfl:=oI H
        exact ae (aR (.r Z) (.r Z))
      ·show Tr _ _ (LF [(0,sL I F J),(1,sL o g j),(2,.func (.func fid2) #[] A.toArray),(7,sL b f d),(8,bV G),(9,bV p),(10,bV i),(11,iv z),(67,bV d5)]) (LE [(2,ow b d 3 cK f)]) _
       refine ae (aa (aN Z H (fun H=>?_) (fun H=>?_)))
       ·refine aV (aA Z ?_)
        obtain⟨g1,b6,H⟩:=bnd H
        exact aC Z (fun _ _ a c=>Aa lF (a.ev Z) v.form (a.ev Z) b6) (aA Z (aD bT Z (Tr.k Z (Tr.k Z (ae (aP b1 (g1,(!p),(zb o (1:Int).toNat 1 j),(j-(1:Int).toNat)) ⟨H,(Sl.cut v b6)⟩ (.r Z) (.r Z)))))))
       ·exact aM (aP b1 (g,p,o,j) ⟨H,v⟩ (.r Z) (.r Z))
     ·intro w s a1 hs
      obtain⟨a2,a3,U,V⟩:=s
      obtain⟨H,X⟩:=hs
      replace H:nu p2 f i (eG p2 a') z F G a2 a3=some r:=H
      replace P:=P.iR a1
      replace hf2:=fun w' he=>hf2 w' (a1.ext.trans he)
      replace K:=K.trans a1
      replace X:Sl w.R w.W cK U V a2:=X
      unfold nu at H
      dsimp only
      refine aj (aA Z (aA Z (aA Z ?_)))
      obtain⟨d9,f2,H⟩:=bnd H
      refine kC (r:=(bV d9)) (wn Z) Z Z hg2 (ak Z (ak Z aH)) (fun W hW=>hf2 hW.all hW.aY G a3 _ f2) (Tr.k Z (ae (aa (aj (aA Z (aA Z (av (LA VZ) Z Z (ae (aa (aN Z H (fun H=>?_) (fun H=>?_)))))))))))
      ·refine aV (aA Z (aA Z (fK 5 (e:=3) (vs:=[(0,iv z)]) (cs:=[iv z]) (wn Z) Z (bQ Z dR) (by kernel_rfl) fun g7=>?_)))
       obtain⟨g2,f3,H⟩:=bnd H
       exact Tr.append 2 (t:=cK) (l:=f) (l2:=[z]) (wn Z) Z Z Z Z (fun W hW=>⟨[[iv z]],(.cons ⟨(),trivial,Z⟩ .nil),bN hW (vs:=[iv z]) (k:=5) Z 0⟩) ni vM PL (by decide) Qi Z f3 fun f4 f5 e0=>(aA Z (Tr.k Z (Tr.k Z (ae (aQ (aP K (F,a2,g2,G,a3,d9,I,J,U,V,f4,f5) ⟨H,P,X,e0⟩ (.r Z) (.r Z)))))))
      ·exact aM (aQ (aP K (F,a2,f,G,a3,i,I,J,U,V,b,d) ⟨H,P,X,T⟩ (.r Z) (.r Z)))
  ·refine bZ (aF (aF (bg (aa (aj (aA Z (Tr.k Z (ae (aa (aJ ?_))))))))))
   obtain rfl:=oI H
   exact bR (m:=[sL b f d]) [] (bu Z bG) (fun W hW=>⟨(b,d),Z,T,HF.qC leB (hW.pick (ks:=[2]) (by decide) (bn Z bO)) ⟨lD _ _ _ _ Gu,trivial⟩⟩)

end Go.Proofs.YtgijeiamflmkeaaGreatDoor
