/- The walks: each function computes its plain function. -/
import Derived.Test.YtgijeiamflmkeaaGreatDoorXWe
namespace Go.Proofs.YtgijeiamflmkeaaGreatDoor
open Go.RowKit
set_option maxRecDepth 100000
set_option maxHeartbeats 1000000
theorem F9(N:Nat){w:Bs}(p0:eX)(y:Option Addr)(z:Nat)(T:Sl w.O w.W cB y z p0.Tools)(t:Option Addr)(v:Nat)(E:Sl w.O w.W bH t v p0.Steps)(r:(di×Int))(H:uA N p0=some r)(hE:HF w w.W (mF [emp,emp,emp])):Calls Tryz.prog 34 [.agg #[iv p0.Unit,sL y p0.Tools z,sL t p0.Steps v]].toArray w.W fun e W'=>∃(w':Bs) (u:(Option Addr×Nat)×(Option Addr×Nat)×(Option Addr×Nat)×(Option Addr×Nat)×(Option Addr×Nat)),w.Le w'∧e= .returned (.tuple #[.pointer (some ⟨u.2.2.2.2.2,0,none⟩),iv r.2])∧(Sl w'.O w'.W cB u.1.1 u.1.2 r.1.p.Tools∧Sl w'.O w'.W bH u.2.1.1 u.2.1.2 r.1.p.Steps∧fQ u.2.2.1.1 r.1.tools.length u.2.2.1.2∧fQ u.2.2.2.1.1 r.1.image.length u.2.2.2.1.2∧True)∧HF w' W' (mF [ow u.2.2.1.1 u.2.2.1.2 71 fV r.1.tools,ow u.2.2.2.1.1 u.2.2.2.1.2 121 aW r.1.image,bx u.2.2.2.2.2 #[iv r.1.p.Unit,sL u.1.1 r.1.p.Tools u.1.2,sL u.2.1.1 r.1.p.Steps u.2.1.2,sL u.2.2.1.1 r.1.tools u.2.2.1.2,sL u.2.2.2.1.1 r.1.image u.2.2.2.1.2,bV r.1.clear,iv r.1.tool,iv r.1.place.X,iv r.1.place.Y,bV r.1.placed,iv r.1.off,iv r.1.on] 108]):=by
 unfold uA at H
 have leB:=Bs.Le.refl w
 refine aX (n:=13) Tryz.func34 Z Z Z hE (aj (dh 1 (cs:=[iv p0.Unit,sL y p0.Tools z,sL t p0.Steps v]) (wn Z) Z Z Z fun a3=>(Tr.k Z (Tr.k Z (ae (aa (aj (aC Z (fun _ _ a c=>aL (cs:=[iv p0.Unit,sL y p0.Tools z,sL t p0.Steps v]) yw wZ (a.ev Z) (aI.take (bN c (vs:=[iv p0.Unit,sL y p0.Tools z,sL t p0.Steps v]) (k:=1) Z 0) 3) Z) ?_))))))))
 obtain⟨b,V,H⟩:=bnd H
 refine jc [2,3,4] [emp,emp,emp] (U:=(Option Addr×Nat)×(Option Addr×Nat)×(Option Addr×Nat)×(Option Addr×Nat)×(Option Addr×Nat)) (fun u=>(.pointer (some ⟨u.2.2.2.2.2,0,none⟩))) (fun O W u=>Sl O W cB u.1.1 u.1.2 b.p.Tools∧Sl O W bH u.2.1.1 u.2.1.2 b.p.Steps∧fQ u.2.2.1.1 b.tools.length u.2.2.1.2∧fQ u.2.2.2.1.1 b.image.length u.2.2.2.1.2∧True) (fun u=>[ow u.2.2.1.1 u.2.2.1.2 71 fV b.tools,ow u.2.2.2.1.1 u.2.2.2.1.2 121 aW b.image,bx u.2.2.2.2.2 #[iv b.p.Unit,sL u.1.1 b.p.Tools u.1.2,sL u.2.1.1 b.p.Steps u.2.1.2,sL u.2.2.1.1 b.tools u.2.2.1.2,sL u.2.2.2.1.1 b.image u.2.2.2.1.2,bV b.clear,iv b.tool,iv b.place.X,iv b.place.Y,bV b.placed,iv b.off,iv b.on] 108]) Z (bn Z (bn Z (bn Z bO))) (fun _=>Z) (wn Z) Z Tryz.call83 (ak Z aH) (fun W hW hp hE=>Bb N p0 y z (T.uF (hW.fM hp)) t v (E.uF (hW.fM hp)) b V hE) ?_
 intro w u J hu
 obtain⟨⟨i,j⟩,⟨l,o⟩,⟨f,g⟩,⟨q,s⟩,⟨a2,h⟩⟩:=u
 obtain⟨K,L,M,P,Q⟩:=hu
 replace E:=E.le J
 replace leB:=leB.trans J
 have A:Sl w.O w.W cB i j b.p.Tools:=K --@phi
 have B:Sl w.O w.W bH l o b.p.Steps:=L --@phi
 have G:fQ f b.tools.length g:=M --@phi
 have a0:fQ q b.image.length s:=P --@phi
 have a1:True:=Q --@phi
 dsimp only
 refine Tr.k Z (ae (aa (aj (aA Z (aA Z (aD (ag KM) Z (aC Z (fun _ _ a c=>ah Eg (a.ev Z) (bN c (vs:=[iv p0.Unit,sL y p0.Tools z,sL t p0.Steps v]) (k:=1) Z 2) Z) (gV (vs:=[]) (cs:=[iv 0,iv 0]) (wn Z) Z dR (by kernel_rfl) ?_))))))))
 obtain⟨d,a4,H⟩:=bnd H
 refine jc [4,3] [bx h #[iv b.p.Unit,sL i b.p.Tools j,sL l b.p.Steps o,sL f b.tools g,sL q b.image s,bV b.clear,iv b.tool,iv b.place.X,iv b.place.Y,bV b.placed,iv b.off,iv b.on] 108,ow q s 121 aW b.image] (U:=(Option Addr×Nat)) (fun u=>(iv d.1)) (fun O W u=>fQ u.1 d.2.2.2.2.2.2.2.2.length u.2) (fun u=>[bx h #[iv b.p.Unit,sL i b.p.Tools j,sL l b.p.Steps o,sL f b.tools g,sL u.1 d.2.2.2.2.2.2.2.2 u.2,bV d.2.1,iv d.2.2.1,iv d.2.2.2.1,iv d.2.2.2.2.1,bV d.2.2.2.2.2.1,iv d.2.2.2.2.2.2.1,iv d.2.2.2.2.2.2.2.1] 108,ow u.1 u.2 121 aW d.2.2.2.2.2.2.2.2]) Z (bn Z (bn Z bO)) (fun _=>Z) (wn Z) Z Tryz.call84 (ak Z (ak Z (ak Z aH))) (fun W hW hp hE=>uz N b i j (A.rl.ext (hW.fM hp)) l o (B.rl.ext (hW.fM hp)) f g (hW.TJ (k:=2) Z hp Z) q s h p0.Steps t v (E.rl.ext (hW.fM hp)) (aK.mk 0 0) d a4 hE) ?_
 intro w u F hu
 obtain⟨C,D⟩:=u
 have S:=hu
 replace A:=A.le F
 replace B:=B.le F
 replace leB:=leB.trans F
 have I:fQ C d.2.2.2.2.2.2.2.2.length D:=S --@phi
 dsimp only
 refine Tr.k Z (Tr.k Z (ae (aa (aJ ?_))))
 obtain rfl:=oI H
 exact bR (m:=[pV h,iv d.1]) [] (bu Z (bu Z bG)) (fun W hW=>⟨w,((i,j),(l,o),(f,g),(C,D),(none,h)),leB,Z,⟨A,B,G,I,trivial⟩,hW.pick (ks:=[2,3,4]) (by decide) (bn Z (bn Z (bn Z bO)))⟩)

theorem Eu(N:Nat){w:Bs}(p0:eX)(d:Option Addr)(f:Nat)(B:Sl w.O w.W cB d f p0.Tools)(g:Option Addr)(h:Nat)(C:Sl w.O w.W bH g h p0.Steps)(r:((List bz)×Int))(H:rD N p0=some r)(hE:HF w w.W (mF [emp])):Calls Tryz.prog 11 [.agg #[iv p0.Unit,sL d p0.Tools f,sL g p0.Steps h]].toArray w.W fun e W'=>∃(w':Bs) (u:(Option Addr×Nat)),w.Le w'∧e= .returned (.tuple #[sL u.1 r.1 u.2,iv r.2])∧(fQ u.1 r.1.length u.2)∧HF w' W' (mF [ow u.1 u.2 121 aW r.1]):=by
 unfold rD at H
 have leB:=Bs.Le.refl w
 refine aX (n:=24) Tryz.func11 Z Z Z hE (aj (dh 1 (cs:=[iv p0.Unit,sL d p0.Tools f,sL g p0.Steps h]) (wn Z) Z Z Z fun V=>(Tr.k Z (bY 2 121 aW ?_))))
 show Tr _ _ (uf _ 2 (sL none (([]:List bz)) 0)) _ _
 refine Tr.k Z (ae (aa (az (aj (aC Z (fun _ _ a c=>aL (cs:=[iv p0.Unit,sL d p0.Tools f,sL g p0.Steps h]) yw wZ (a.ev Z) (aI.take (bN c (vs:=[iv p0.Unit,sL d p0.Tools f,sL g p0.Steps h]) (k:=1) Z 0) 3) Z) ?_)))))
 obtain⟨z,J,H⟩:=bnd H
 refine aS (r:=(iv z)) (wn Z) Z Tryz.call29 (ak Z aH) (fun W hW=>sj N p0 d f (B.rl.ext hW.aY) g h (C.rl.ext hW.aY) z J (HF.start _)) (Tr.k Z (ae (aa (aj (aA Z (av dW Z Z (ae (aa (aN Z H (fun H=>?_) (fun H=>?_))))))))))
 ·refine aj (aA Z (Tr.k Z (bY 3 121 aW ?_)))
  show Tr _ _ (uf _ 2 (sL none (([]:List bz)) 0)) _ _
  refine Tr.k Z (ae (aa (aJ (ai ?_))))
  obtain rfl:=oI H
  exact bR (m:=[sL none (([]:List bz)) 0,iv z]) [] (bu Z (bu Z bG)) (fun W hW=>⟨w,(none,0),leB,Z,fP,hW.pick (ks:=[3]) (by decide) (bn Z bO)⟩)
 ·refine aM (aa (aj (aC Z (fun _ _ a c=>aL (cs:=[iv p0.Unit,sL d p0.Tools f,sL g p0.Steps h]) yw wZ (a.ev Z) (aI.take (bN c (vs:=[iv p0.Unit,sL d p0.Tools f,sL g p0.Steps h]) (k:=1) Z 0) 3) Z) ?_)))
  obtain⟨b,K,H⟩:=bnd H
  refine jc [4,5,6] [emp,emp,emp] (U:=(Option Addr×Nat)×(Option Addr×Nat)×(Option Addr×Nat)×(Option Addr×Nat)×(Option Addr×Nat)) (fun u=>(.tuple #[.pointer (some ⟨u.2.2.2.2.2,0,none⟩),iv b.2])) (fun O W u=>Sl O W cB u.1.1 u.1.2 b.1.p.Tools∧Sl O W bH u.2.1.1 u.2.1.2 b.1.p.Steps∧fQ u.2.2.1.1 b.1.tools.length u.2.2.1.2∧fQ u.2.2.2.1.1 b.1.image.length u.2.2.2.1.2∧True) (fun u=>[ow u.2.2.1.1 u.2.2.1.2 71 fV b.1.tools,ow u.2.2.2.1.1 u.2.2.2.1.2 121 aW b.1.image,bx u.2.2.2.2.2 #[iv b.1.p.Unit,sL u.1.1 b.1.p.Tools u.1.2,sL u.2.1.1 b.1.p.Steps u.2.1.2,sL u.2.2.1.1 b.1.tools u.2.2.1.2,sL u.2.2.2.1.1 b.1.image u.2.2.2.1.2,bV b.1.clear,iv b.1.tool,iv b.1.place.X,iv b.1.place.Y,bV b.1.placed,iv b.1.off,iv b.1.on] 108]) Z (bn Z (bn Z (bn Z bO))) (fun _=>Z) (wn Z) Z Tryz.call34 (ak Z aH) (fun W hW hp hE=>F9 N p0 d f (B.uF (hW.fM hp)) g h (C.uF (hW.fM hp)) b K hE) ?_
  intro w u L hu
  obtain⟨⟨q,s⟩,⟨t,v⟩,⟨l,o⟩,⟨i,j⟩,⟨T,y⟩⟩:=u
  obtain⟨D,E,F,G,I⟩:=hu
  replace leB:=leB.trans L
  have M:Sl w.O w.W cB q s b.1.p.Tools:=D --@phi
  have P:Sl w.O w.W bH t v b.1.p.Steps:=E --@phi
  have Q:fQ l b.1.tools.length o:=F --@phi
  have A:fQ i b.1.image.length j:=G --@phi
  have S:True:=I --@phi
  dsimp only
  refine aA Z (aC Z (fun _ _ a c=>bX (a.ev Z) Z) (aC Z (fun _ _ a c=>bX (a.ev Z) Z) (Tr.k Z (Tr.k Z (ae (aa (az (aj (aA Z (av dW Z Z (ae (aa (aN Z H (fun H=>?_) (fun H=>?_))))))))))))))
  ·refine aj (aA Z (Tr.k Z (bY 7 121 aW ?_)))
   show Tr _ _ (uf _ 2 (sL none (([]:List bz)) 0)) _ _
   refine Tr.k Z (ae (aa (aJ (ai ?_))))
   obtain rfl:=oI H
   exact bR (m:=[sL none (([]:List bz)) 0,iv b.2]) [] (bu Z (bu Z bG)) (fun W hW=>⟨w,(none,0),leB,Z,fP,hW.pick (ks:=[7]) (by decide) (bn Z bO)⟩)
  ·refine aM (aa (aj (aA Z (aD cu Z (aD (ag yj) Z (aC Z (fun _ _ a c=>ah Iw (a.ev Z) (bN c (vs:=[iv b.1.p.Unit,sL q b.1.p.Tools s,sL t b.1.p.Steps v,sL l b.1.tools o,sL i b.1.image j,bV b.1.clear,iv b.1.tool,iv b.1.place.X,iv b.1.place.Y,bV b.1.placed,iv b.1.off,iv b.1.on]) (k:=6) Z 4) Z) (Tr.k Z (Tr.k Z (ae (aa (aJ ?_)))))))))))
   obtain rfl:=oI H
   exact bR (m:=[sL i b.1.image j,iv 0]) [] (bu Z (bu Z bG)) (fun W hW=>⟨w,(i,j),leB,Z,A,hW.pick (ks:=[5]) (by decide) (bn Z bO)⟩)

theorem CG(N:Nat){w:Bs}(p0:(List bz))(d:Option Addr)(f:Nat)(j:Sl w.O w.W aW d f p0)(p1:(List bz))(g:Option Addr)(h:Nat)(l:Sl w.O w.W aW g h p1)(r:Bool)(H:oF N p0 p1=some r)(hE:HF w w.W E0):Calls Tryz.prog 12 [sL d p0 f,sL g p1 h].toArray w.W fun e W'=>e= .returned (bV r)∧HF w W' E0:=by
 unfold oF at H
 have leB:=Bs.Le.refl w
 refine aX (n:=10) Tryz.func12 Z Z Z hE (aj (Tr.k Z (ae (aa (aj (aA Z (aA Z ?_)))))))
 obtain⟨a,o,H⟩:=bnd H
 refine jc [1] [emp] (U:=(Option Addr×Nat)) (fun u=>(sL u.1 a u.2)) (fun O W u=>fQ u.1 a.length u.2) (fun u=>[ow u.1 u.2 121 aW a]) Z (bn Z bO) (fun _=>Z) (wn Z) Z Tryz.call35 (ak Z (ak Z aH)) (fun W hW hp hE=>vF N p0 d f (j.uF (hW.fM hp)) p1 g h (l.uF (hW.fM hp)) a o hE) ?_
 intro w u p hu
 obtain⟨b,c⟩:=u
 have i:=hu
 replace leB:=leB.trans p
 have q:fQ b a.length c:=i --@phi
 dsimp only
 refine aD (bA ve) Z (av dM Z Z (Tr.k Z (ae (aa (aJ ?_)))))
 obtain rfl:=oI H
 exact bD leB

theorem Bg{w:Bs}(p0:fq)(q0:bW)(xI:Nat)(hb0:w.R xI)(hc0:aI w.W xI 0 [sv q0.Name,iv q0.W,iv q0.H])(r:Bool)(H:kN p0 q0=some r)(hE:HF w w.W E0):Calls Tryz.prog 15 [.agg #[iv p0.At.X,iv p0.At.Y,iv p0.Size,iv p0.From,iv p0.To,bV p0.Plated],pV xI].toArray w.W fun e W'=>e= .returned (bV r)∧HF w W' E0:=by
 unfold kN at H
 have leB:=Bs.Le.refl w
 refine aX (n:=20) Tryz.func15 Z Z Z hE (aj (dh 1 (cs:=[iv p0.At.X,iv p0.At.Y,iv p0.Size,iv p0.From,iv p0.To,bV p0.Plated]) (wn Z) Z Z Z fun g=>(Tr.k Z (ae (aa (aj (aD (ag Bz) Z (aD (ag fU) Z (aC Z (fun _ _ a c=>ah bF (a.ev Z) (bN c (vs:=[iv p0.At.X,iv p0.At.Y,iv p0.Size,iv p0.From,iv p0.To,bV p0.Plated]) (k:=1) Z 0) Z) (aD (ag y5) Z (aC Z (fun _ _ a c=>ah bF (a.ev Z) (aI.drop (tY hb0 hc0 c) 1) Z) ?_)))))))))))
 obtain⟨d,j,H⟩:=bnd H
 refine aS (r:=(bV d)) (wn Z) Z Tryz.call16 (ak Z (ak Z (ak Z aH))) (fun W hW=>qZ p0.At.X 0 q0.W d j (HF.start _)) (aD bT Z (aA Z ?_))
 obtain⟨h,b,H⟩:=bnd H
 refine bM 8 [(19,bV h)] [(1,bx g #[iv p0.At.X,iv p0.At.Y,iv p0.Size,iv p0.From,iv p0.To,bV p0.Plated] 58)] ?_ ?_
 ·cases f:(!d)
  ·rw[f] at b
   rw[if_neg (by decide)] at b
   have H:=b
   refine bC (ag Bz) Z (bC (ag fT) Z (Tr.x (fun _ _ a c=>ah bF (a.ev Z) (bN c (vs:=[iv p0.At.X,iv p0.At.Y,iv p0.Size,iv p0.From,iv p0.To,bV p0.Plated]) (k:=1) Z 1) Z) (bC (ag yZ) Z (Tr.x (fun _ _ a c=>ah bF (a.ev Z) (aI.drop (tY hb0 hc0 c) 2) Z) ?_))))
   obtain⟨i,l,H⟩:=bnd H
   refine aS (r:=(bV i)) (wg Z Z Z) Z Tryz.call16 (ak Z (ak Z (ak Z aH))) (fun W hW=>qZ p0.At.Y 0 q0.H i l (HF.start _)) (bC bT Z (av aU Z Z ?_))
   obtain rfl:=oI H
   exact ae (aR (.r Z) (.r Z))
  ·rw[f] at b
   rw[if_pos Z] at b
   have H:=b
   obtain rfl:=oI H
   exact aG Z (aG Z (aG Z (aG Z (aG Z (aG Z (aG Z (av aT Z Z (ae (aR (.r Z) (.r Z))))))))))
 ·show Tr _ _ (LF [(19,bV h)]) (LE [(1,bx g #[iv p0.At.X,iv p0.At.Y,iv p0.Size,iv p0.From,iv p0.To,bV p0.Plated] 58)]) _
  refine Tr.k Z (ae (aa (aJ ?_)))
  obtain rfl:=oI H
  exact bD leB

theorem wM{w:Bs}(p0:(List fq))(g:Option Addr)(i:Nat)(f:Sl w.R w.W eZ g i p0)(p1:fq→Option Bool)(fid1:Nat)(l:List Value)(hg1:∀args W,(callFunc fid1 args).run Tryz.prog W= .ok (.enter fid1 args) W)(hf1:∀(w':Bs),w.Ext w'→∀(z0:fq),∀y,p1 z0=some y→Calls Tryz.prog fid1 (([.agg #[iv z0.At.X,iv z0.At.Y,iv z0.Size,iv z0.From,iv z0.To,bV z0.Plated]]:List Value)++l).toArray w'.W fun e W''=>e= .returned (bV y)∧HF w' W'' E0)(r:Int)(H:mX p0 p1=some r)(hE:HF w w.W E0):Calls Tryz.prog 45 [sL g p0 i,.func (.func fid1) #[] l.toArray].toArray w.W fun e W'=>e= .returned (iv r)∧HF w W' E0:=by
 unfold mX at H
 have leB:=Bs.Le.refl w
 refine aX (n:=19) Tryz.func45 Z Z Z hE (aj (Tr.k Z (ae (aa (az (aj (aA Z (aD (bA BQ) Z (aA Z (ae (aa (Tr.block (cO (σ:=(List fq)×Nat) (fun m w s=>m=s.1.length+1∧s.1=List.drop s.2 p0∧s.2≤p0.length∧jd p1 s.1 s.2=some r) (fun s=>[(0,sL g p0 i),(1,.func (.func fid1) #[] l.toArray),(7,iv (p0.length:Int)),(8,iv (s.2:Int))]) (fun s=>[]) (p0.length+1) (p0,0) ⟨Z,Z,Nat.zero_le _,H⟩ (.r Z) .nil (fun _ _ h=>absurd h.1 (by simp)) ?_)))))))))))))
 intro w o m s hs
 obtain⟨b,q⟩:=s
 obtain⟨p,d,v,H⟩:=hs
 replace d:b=List.drop q p0:=d
 replace H:jd p1 b q=some r:=H
 replace p:m+1=b.length+1:=p
 replace f:=f.iR o
 replace hf1:=fun w' he=>hf1 w' (o.ext.trans he)
 replace leB:=leB.trans o
 obtain rfl:m=b.length:=by omega
 clear p
 dsimp only
 cases b with
 |nil=>
  rw[jd.eq_1] at H
  refine aj (av bi Z Z (ae (aa (az (dn Z (cz d) (bZ (aF (aF (bg (aa (aj (Tr.k Z (ae (aa (aJ ?_)))))))))))))))
  obtain rfl:=oI H
  exact bD leB
 | cons j b=>
  rw[jd.eq_2] at H
  refine aj (av bi Z Z (ae (aa (az (dm Z (dz d) (aM (aa (az (Tr.block (aj (aA Z (Tr.k Z (ae (aa (aj (aA Z (aA Z (aA Z (aC Z (fun _ _ a c=>aB FO (a.ev Z) f.form (a.ev Z) (Int.natCast_nonneg _) (bq d)) (aC Z (fun _ _ a c=>aL (cs:=[iv j.At.X,iv j.At.Y,iv j.Size,iv j.From,iv j.To,bV j.Plated]) PD Gw (a.ev Z) (aI.take (pq uh f (dA d) c) 6) Z) ?_))))))))))))))))))))
  obtain⟨u,t,H⟩:=bnd H
  refine kC (r:=(bV u)) (wn Z) Z Z hg1 (ak Z aH) (fun W hW=>hf1 hW.all hW.aY j _ t) (ae (aa (aN Z H (fun H=>?_) (fun H=>?_))))
  ·refine aj (aA Z (Tr.k Z (ae (aa (aJ (au (ai (ai (au (ai ?_))))))))))
   obtain rfl:=oI H
   exact bD leB
  ·exact aM (aQ (aa (aV (av bE Z Z (aA Z (ae (aP o (b,(q+1)) ⟨Z,df d,bq d,H⟩ (.cons Z (.cons Z (.cons Z (.cons (congrArg (fun z=>some (Value.int .i64 z)) (cZ d f.form)) .nil)))) .nil)))))))

theorem vD{w:Bs}(p0:(List fq))(a:Option Addr)(b:Nat)(f:Sl w.R w.W eZ a b p0)(p1:fq→Option Bool)(fid1:Nat)(c:List Value)(hg1:∀args W,(callFunc fid1 args).run Tryz.prog W= .ok (.enter fid1 args) W)(hf1:∀(w':Bs),w.Ext w'→∀(z0:fq),∀y,p1 z0=some y→Calls Tryz.prog fid1 (([.agg #[iv z0.At.X,iv z0.At.Y,iv z0.Size,iv z0.From,iv z0.To,bV z0.Plated]]:List Value)++c).toArray w'.W fun e W''=>e= .returned (bV y)∧HF w' W'' E0)(r:Bool)(H:jP p0 p1=some r)(hE:HF w w.W E0):Calls Tryz.prog 14 [sL a p0 b,.func (.func fid1) #[] c.toArray].toArray w.W fun e W'=>e= .returned (bV r)∧HF w W' E0:=by
 unfold jP at H
 have leB:=Bs.Le.refl w
 refine aX (n:=9) Tryz.func14 Z Z Z hE (aj (Tr.k Z (ae (aa (aj (aA Z (aA Z ?_)))))))
 obtain⟨d,g,H⟩:=bnd H
 refine aS (r:=(iv d)) (wn Z) Z Tryz.call45 (ak Z (ak Z aH)) (fun W hW=>wM p0 a b (f.ext hW.aY) p1 fid1 c hg1 (fun w' he=>hf1 w' (hW.aY.trans he)) d g (HF.start _)) (av kG Z Z (Tr.k Z (ae (aa (aJ ?_)))))
 obtain rfl:=oI H
 exact bD leB

theorem xz{w:Bs}(p0:dw)(f:Option Addr)(g:Nat)(B:Sl w.R w.W fe f g p0.Kinds)(i:Option Addr)(j:Nat)(J:Sl w.R w.W lG i j p0.Slots)(l:Option Addr)(o:Nat)(K:Sl w.R w.W dP l o p0.Marks)(p1:jH)(r:oM)(H:qd p0 p1=some r)(hE:HF w w.W E0):Calls Tryz.prog 24 [.agg #[iv p0.W,iv p0.H,iv p0.Rail,iv p0.Gap,sL f p0.Kinds g,sL i p0.Slots j,sL l p0.Marks o],.agg #[sv p1.Board,iv p1.Quarters,iv p1.At.X,iv p1.At.Y]].toArray w.W fun e W'=>e= .returned (.agg #[bV r.Flip,iv r.Quarters,iv r.At.X,iv r.At.Y])∧HF w W' E0:=by
 unfold qd at H
 have leB:=Bs.Le.refl w
 refine aX (n:=53) Tryz.func24 Z Z Z hE (aj (dh 1 (cs:=[iv p0.W,iv p0.H,iv p0.Rail,iv p0.Gap,sL f p0.Kinds g,sL i p0.Slots j,sL l p0.Marks o]) (wn Z) Z Z Z fun D=>(dh 2 (cs:=[sv p1.Board,iv p1.Quarters,iv p1.At.X,iv p1.At.Y]) (wn Z) Z Z Z fun v=>(Tr.alloc 3 (wn Z) Z Jl fun y=>(ae (aa (az ?_)))))))
 obtain⟨C,L,H⟩:=bnd H
 obtain⟨d,M,H⟩:=bnd H
 obtain⟨E,F,G⟩:=bJ M
 refine Ej 9 [(8,.makeFunc (.func 0) #[] #[])] [(8,⟨5,4,.func (.func 0) #[] #[],fun b=>pV b,fun b=>bx b #[sv ⟨#[]⟩,iv 0,iv 0] 67⟩)] [(0,.agg #[iv p0.W,iv p0.H,iv p0.Rail,iv p0.Gap,sL f p0.Kinds g,sL i p0.Slots j,sL l p0.Marks o]),(1,.agg #[sv p1.Board,iv p1.Quarters,iv p1.At.X,iv p1.At.Y]),(2,pV D),(3,pV v),(4,pV y),(5,.func (.func 0) #[] #[]),(7,.pointer (some ⟨D,4,none⟩)),(8,sL f p0.Kinds g),(9,.agg #[iv p0.W,iv p0.H,iv p0.Rail,iv p0.Gap,sL f p0.Kinds g,sL i p0.Slots j,sL l p0.Marks o]),(10,pV v),(11,sv p1.Board),(12,iv C),(13,.pointer (some ⟨rM f,vJ f+(C).toNat*3,none⟩)),(14,.agg #[sv d.Name,iv d.W,iv d.H])] (by kernel_rfl) (by kernel_rfl) (by kernel_rfl) (by kernel_rfl) (by kernel_rfl) (by kernel_rfl) (by kernel_rfl) (oz (Hw Z Z Lb) qF) (oz Z qF) (oz Z qF) ?_ ?_
 ·refine dD (ag Dz) Z (bL Z (fun _ _ a c=>ah MU (a.ev Z) (bN c (vs:=[iv p0.W,iv p0.H,iv p0.Rail,iv p0.Gap,sL f p0.Kinds g,sL i p0.Slots j,sL l p0.Marks o]) (k:=1) Z 4) Z) (bL Z (fun _ _ a c=>aL (cs:=[iv p0.W,iv p0.H,iv p0.Rail,iv p0.Gap,sL f p0.Kinds g,sL i p0.Slots j,sL l p0.Marks o]) uJ uI (a.ev Z) (aI.take (bN c (vs:=[iv p0.W,iv p0.H,iv p0.Rail,iv p0.Gap,sL f p0.Kinds g,sL i p0.Slots j,sL l p0.Marks o]) (k:=1) Z 0) 7) Z) (dD (ag Dy) Z (bL Z (fun _ _ a c=>ah jD (a.ev Z) (bN c (vs:=[sv p1.Board,iv p1.Quarters,iv p1.At.X,iv p1.At.Y]) (k:=2) Z 0) Z) (lH (r:=(iv C)) (wn Z) Z Tryz.call55 (ak Z (ak Z aH)) (fun W hW=>uB p0 f g (B.ext hW.aY) i j (J.ext hW.aY) l o (K.ext hW.aY) p1.Board C L (HF.start _)) (bL Z (fun _ _ a c=>aB JR (a.ev Z) B.form (a.ev Z) E F) (bL Z (fun _ _ a c=>aL (cs:=[sv d.Name,iv d.W,iv d.H]) FW wY (a.ev Z) (aI.take (pq o6 B G c) 3) Z) (BB (vs:=[]) (wn Z) Z aH ?_))))))))
  exact bK (.r Z)
 ·intro A
  refine Tr.EM (lf:=[(3,pV v),(4,pV y),(5,.pointer (some ⟨(A 8),0,none⟩)),(14,.agg #[sv d.Name,iv d.W,iv d.H])]) (le:=[(1,bx D #[iv p0.W,iv p0.H,iv p0.Rail,iv p0.Gap,sL f p0.Kinds g,sL i p0.Slots j,sL l p0.Marks o] 48),(2,bx v #[sv p1.Board,iv p1.Quarters,iv p1.At.X,iv p1.At.Y] 56),(3,bx y #[bV false,iv 0,iv 0,iv 0] 83),(4,bx (A 8) #[sv ⟨#[]⟩,iv 0,iv 0] 67)]) (.r Z) (.r Z) (bv 4 (cs:=[sv d.Name,iv d.W,iv d.H]) [sv d.Name,iv d.W,iv d.H] (wn Z) Z Z Z Z wY Z Z Z (ae (aa (aj (aD (ag y7) Z (aC Z (fun _ _ a c=>aL (cs:=[iv p1.At.X,iv p1.At.Y]) iC eU (a.ev Z) (aI.take (bN c (vs:=[sv p1.Board,iv p1.Quarters,iv p1.At.X,iv p1.At.Y]) (k:=2) Z 2) 2) Z) (Tr.alloc 5 (wn Z) Z vY fun q=>(bv 5 (cs:=[iv p1.At.X,iv p1.At.Y]) [iv p1.At.X,iv p1.At.Y] (wn Z) Z Z Z Z eU Z Z Z (ae (aa ?_))))))))))
  have z:=Bs.Le.refl w
  refine pz (σ:=Int×Int) (fun w s=>kL p1 s.1 s.2=some r) (fun s=>[(3,pV v),(4,pV y),(6,pV q)]) (fun s=>[(2,bx v #[sv p1.Board,iv p1.Quarters,iv p1.At.X,iv p1.At.Y] 56),(3,bx y #[bV false,iv 0,iv 0,iv 0] 83),(5,bx q #[iv s.1,iv s.2] 54)]) ?_ ?_
  ·refine aj (aD (ag Gj) Z (aC Z (fun _ _ a c=>ah bF (a.ev Z) (bN c (vs:=[sv p1.Board,iv p1.Quarters,iv p1.At.X,iv p1.At.Y]) (k:=2) Z 1) Z) (ae (aa (Tr.block (aj (av dM Z Z (Tr.k Z (ae (aa (aN Z H (fun H=>?_) (fun H=>?_))))))))))))
   ·exact aV (aD (ag fU) Z (aC Z (fun _ _ a c=>ah bF (a.ev Z) (bN c (vs:=[iv p1.At.X,iv p1.At.Y]) (k:=5) Z 0) Z) (aD (ag yZ) Z (aC Z (fun _ _ a c=>ah bF (a.ev Z) (bN c (vs:=[sv d.Name,iv d.W,iv d.H]) (k:=4) Z 2) Z) (av bE Z Z (aD (ag fU) Z (bv 5 (cs:=[iv (bP (p1.At.X+d.H))]) [iv (bP (p1.At.X+d.H)),iv p1.At.Y] (wn Z) Z Z Z Z vM Z Z Z (ae (aQ (aP z ((bP (p1.At.X+d.H)),p1.At.Y) H (.r Z) (.r Z)))))))))))
   ·refine aj (av dM Z Z (Tr.k Z (ae (aa (aN Z H (fun H=>?_) (fun H=>?_))))))
    ·refine ui 12 [(11,fun x=>x=q)] [] (by kernel_rfl) (by kernel_rfl) fun N O P=>(bU 0 [(29,pV q)] (by kernel_rfl) Z Z (by kernel_rfl) ?_ Z Z ?_)
     ·exact dD (ag fU) Z (bK (.r Z))
     refine bU 1 [(30,iv p1.At.X)] (by kernel_rfl) Z Z (by kernel_rfl) ?_ Z Z ?_
     ·exact bL Z (fun _ _ a c=>ah bF (a.ev Z) (bN c (vs:=[iv p1.At.X,iv p1.At.Y]) (k:=5) Z 0) Z) (bK (.r Z))
     refine bU 2 [(31,.pointer (some ⟨(A 8),1,none⟩))] (by kernel_rfl) Z Z (by kernel_rfl) ?_ Z Z ?_
     ·exact dD (ag y5) Z (bK (.r Z))
     refine bU 3 [(32,iv d.W)] (by kernel_rfl) Z Z (by kernel_rfl) ?_ Z Z ?_
     ·exact bL Z (fun _ _ a c=>ah bF (a.ev Z) (bN c (vs:=[sv d.Name,iv d.W,iv d.H]) (k:=4) Z 1) Z) (bK (.r Z))
     refine bU 4 [(33,iv (bP (p1.At.X+d.W)))] (by kernel_rfl) Z Z (by kernel_rfl) ?_ Z Z ?_
     ·exact dL bE Z Z (bK (.r Z))
     refine bU 5 [(34,.pointer (some ⟨q,1,none⟩))] (by kernel_rfl) Z Z (by kernel_rfl) ?_ Z Z ?_
     ·exact dD (ag fT) Z (bK (.r Z))
     refine bU 6 [(35,iv p1.At.Y)] (by kernel_rfl) Z Z (by kernel_rfl) ?_ Z Z ?_
     ·exact bL Z (fun _ _ a c=>ah bF (a.ev Z) (bN c (vs:=[iv p1.At.X,iv p1.At.Y]) (k:=5) Z 1) Z) (bK (.r Z))
     refine jk 7 (by kernel_rfl) Z (wn Z) Z (by kernel_rfl) (fun _ _ a=>ag yZ (a.ev Z)) Z (oJ 8 [(37,iv d.H)] [11] false (by kernel_rfl) Z Z (by kernel_rfl) (fun W W' c hsW hk=>HF.Ac (le:=[(4,bx (A 8) #[sv d.Name,iv d.W,iv d.H] 67)]) (ks:=[(5,fun x=>x=q)]) (s0:=N) false c hk (fun h=>absurd h (by decide)) (.r Z) (fun b hb=>hb.elim (fun⟨p,hp,hf,hb⟩=>by simp only[List.mem_cons,List.not_mem_nil,or_false] at hp;rcases hp with rfl;exact .inl ⟨_,List.mem_cons_self,hb⟩) (fun hb=>absurd hb.1 (by decide))) (List.forall_mem_cons.2 ⟨fun b hb=>hb,(fun _ h=>nomatch h)⟩) rfl) ?_ rfl rfl ?_)
     ·exact bL Z (fun _ _ a c=>ah bF (a.ev Z) (bN c (vs:=[sv d.Name,iv d.W,iv d.H]) (k:=4) Z 2) Z) (bK (.r Z))
     refine jk 9 (by kernel_rfl) Z (wn Z) Z (by kernel_rfl) (fun _ _ a=>bE (a.ev Z) (a.ev Z)) Z (bU 10 [(39,pV q)] (by kernel_rfl) Z Z (by kernel_rfl) ?_ Z Z ?_)
     ·exact dD (ag fU) Z (bK (.r Z))
     exact Dr.one 11 (by kernel_rfl) (AR 11 5 (cs:=[iv (bP (p1.At.X+d.W))]) [iv (bP (p1.At.X+d.W)),iv p1.At.Y] Z (wn Z) (.inl ⟨_,List.mem_cons_self,Z,Z⟩) Z Z Z Z vM Z Z Z (vT (by kernel_rfl) (aD (ag fT) Z (bv 5 (cs:=[iv (bP (p1.At.Y+d.H))]) [iv (bP (p1.At.X+d.W)),iv (bP (p1.At.Y+d.H))] (wn Z) Z Z Z Z vM Z Z Z (ae (aQ (aP z ((bP (p1.At.X+d.W)),(bP (p1.At.Y+d.H))) H (.r Z) (.r Z))))))))
    ·refine aj (av dM Z Z (Tr.k Z (ae (aa (aN Z H (fun H=>?_) (fun H=>?_))))))
     ·exact aV (aD (ag fT) Z (aC Z (fun _ _ a c=>ah bF (a.ev Z) (bN c (vs:=[iv p1.At.X,iv p1.At.Y]) (k:=5) Z 1) Z) (aD (ag y5) Z (aC Z (fun _ _ a c=>ah bF (a.ev Z) (bN c (vs:=[sv d.Name,iv d.W,iv d.H]) (k:=4) Z 1) Z) (av bE Z Z (aD (ag fT) Z (bv 5 (cs:=[iv (bP (p1.At.Y+d.W))]) [iv p1.At.X,iv (bP (p1.At.Y+d.W))] (wn Z) Z Z Z Z vM Z Z Z (ae (aQ (aP z (p1.At.X,(bP (p1.At.Y+d.W))) H (.r Z) (.r Z)))))))))))
     ·exact aM (aQ (aP z (p1.At.X,p1.At.Y) H (.r Z) (.r Z)))
  ·intro w s I hs
   obtain⟨t,u⟩:=s
   have H:=hs
   replace H:kL p1 t u=some r:=H
   replace leB:=leB.trans I
   unfold kL at H
   dsimp only
   refine aj (aD (ag Gj) Z (aC Z (fun _ _ a c=>ah bF (a.ev Z) (bN c (vs:=[sv p1.Board,iv p1.Quarters,iv p1.At.X,iv p1.At.Y]) (k:=2) Z 1) Z) (aC Z (fun _ _ a c=>aL (cs:=[iv t,iv u]) iC eU (a.ev Z) (aI.take (bN c (vs:=[iv t,iv u]) (k:=5) Z 0) 2) Z) (gV (vs:=[(1,iv p1.Quarters),(2,.agg #[iv t,iv u])]) (cs:=[bV false,iv p1.Quarters,iv t,iv u]) (wn Z) Z (bQ Z (bQ Z dR)) (by kernel_rfl) (bv 3 (cs:=[bV false,iv p1.Quarters,iv t,iv u]) [bV false,iv p1.Quarters,iv t,iv u] (wn Z) Z Z Z Z tq Z Z Z (ae (aa (aJ ?_))))))))
   obtain rfl:=oI H
   exact bR (m:=[.agg #[bV false,iv p1.Quarters,iv t,iv u]]) [3] (fJ Z Z AJ tq bG) (fun W hW=>⟨Z,hW.low leB⟩)

theorem BM(N:Nat){w:Bs}(p0:dw)(d:Option Addr)(f:Nat)(q:Sl w.R w.W fe d f p0.Kinds)(g:Option Addr)(h:Nat)(l:Sl w.R w.W lG g h p0.Slots)(i:Option Addr)(j:Nat)(s:Sl w.R w.W dP i j p0.Marks)(p1:Int)(r:(oM×Int))(H:qh N p0 p1=some r)(hE:HF w w.W E0):Calls Tryz.prog 17 [.agg #[iv p0.W,iv p0.H,iv p0.Rail,iv p0.Gap,sL d p0.Kinds f,sL g p0.Slots h,sL i p0.Marks j],iv p1].toArray w.W fun e W'=>e= .returned (.tuple #[.agg #[bV r.1.Flip,iv r.1.Quarters,iv r.1.At.X,iv r.1.At.Y],iv r.2])∧HF w W' E0:=by
 unfold qh at H
 have leB:=Bs.Le.refl w
 refine aX (n:=28) Tryz.func17 Z Z Z hE (aj (dh 1 (cs:=[iv p0.W,iv p0.H,iv p0.Rail,iv p0.Gap,sL d p0.Kinds f,sL g p0.Slots h,sL i p0.Marks j]) (wn Z) Z Z Z fun D=>(Tr.alloc 2 (wn Z) Z Jl fun E=>(Tr.k Z (ae (aa (az (aj (aC Z (fun _ _ a c=>aL (cs:=[iv p0.W,iv p0.H,iv p0.Rail,iv p0.Gap,sL d p0.Kinds f,sL g p0.Slots h,sL i p0.Marks j]) uJ uI (a.ev Z) (aI.take (bN c (vs:=[iv p0.W,iv p0.H,iv p0.Rail,iv p0.Gap,sL d p0.Kinds f,sL g p0.Slots h,sL i p0.Marks j]) (k:=1) Z 0) 7) Z) ?_)))))))))
 obtain⟨p,z,H⟩:=bnd H
 refine aS (r:=(iv p)) (wn Z) Z Tryz.call9 (ak Z aH) (fun W hW=>uN N p0 d f (q.ext hW.aY) g h (l.ext hW.aY) i j (s.ext hW.aY) p z (HF.start _)) (Tr.k Z (ae (aa (aj (aA Z (av dW Z Z (ae (aa (aN Z H (fun H=>?_) (fun H=>?_))))))))))
 ·refine aj (gV (vs:=[]) (cs:=[bV false,iv 0,iv 0,iv 0]) (wn Z) Z dR (by kernel_rfl) (aA Z (bv 2 (cs:=[bV false,iv 0,iv 0,iv 0]) [bV false,iv 0,iv 0,iv 0] (wn Z) Z Z Z Z tq Z Z Z (Tr.k Z (ae (aa (aJ (ai ?_))))))))
  obtain rfl:=oI H
  exact bR (m:=[.agg #[bV false,iv 0,iv 0,iv 0],iv p]) [2] (fJ Z Z AJ tq (bu Z bG)) (fun W hW=>⟨Z,hW.low leB⟩)
 ·refine aM (aa (az (aj (aA Z (aD (ag y8) Z (aC Z (fun _ _ a c=>ah Iy (a.ev Z) (bN c (vs:=[iv p0.W,iv p0.H,iv p0.Rail,iv p0.Gap,sL d p0.Kinds f,sL g p0.Slots h,sL i p0.Marks j]) (k:=1) Z 5) Z) (aD (bA Lf) Z (av gH Z Z ?_))))))))
  obtain⟨t,A,H⟩:=bnd H
  refine aS (r:=(bV t)) (wn Z) Z Tryz.call22 (ak Z (ak Z (ak Z aH))) (fun W hW=>fI p1 0 (bP ((p0.Slots.length:Int)-1)) t A (HF.start _)) (aD bT Z (ae (aa (aN Z H (fun H=>?_) (fun H=>?_)))))
  ·refine aj (gV (vs:=[]) (cs:=[bV false,iv 0,iv 0,iv 0]) (wn Z) Z dR (by kernel_rfl) (bv 2 (cs:=[bV false,iv 0,iv 0,iv 0]) [bV false,iv 0,iv 0,iv 0] (wn Z) Z Z Z Z tq Z Z Z (Tr.k Z (ae (aa (aJ (ai ?_)))))))
   obtain rfl:=oI H
   exact bR (m:=[.agg #[bV false,iv 0,iv 0,iv 0],iv 9]) [2] (fJ Z Z AJ tq (bu Z bG)) (fun W hW=>⟨Z,hW.low leB⟩)
  ·refine aM (aa (az (nP 6 (by kernel_rfl) (by kernel_rfl) (bL Z (fun _ _ a c=>aL (cs:=[iv p0.W,iv p0.H,iv p0.Rail,iv p0.Gap,sL d p0.Kinds f,sL g p0.Slots h,sL i p0.Marks j]) uJ uI (a.ev Z) (aI.take (bN c (vs:=[iv p0.W,iv p0.H,iv p0.Rail,iv p0.Gap,sL d p0.Kinds f,sL g p0.Slots h,sL i p0.Marks j]) (k:=1) Z 0) 7) Z) (dD (ag y8) Z (bL Z (fun _ _ a c=>ah Iy (a.ev Z) (bN c (vs:=[iv p0.W,iv p0.H,iv p0.Rail,iv p0.Gap,sL d p0.Kinds f,sL g p0.Slots h,sL i p0.Marks j]) (k:=1) Z 5) Z) (dY Z ?_)))))))
   obtain⟨o,B,H⟩:=bnd H
   obtain⟨u,v,y⟩:=bJ B
   refine bL Z (fun _ _ a c=>aB Mw (a.ev Z) l.form (a.ev Z) u v) (bL Z (fun _ _ a c=>aL (cs:=[sv o.Board,iv o.Quarters,iv o.At.X,iv o.At.Y]) J3 C8 (a.ev Z) (aI.take (pq yn l y c) 4) Z) (gz ?_))
   obtain⟨b,C,H⟩:=bnd H
   refine aS (r:=(.agg #[bV b.Flip,iv b.Quarters,iv b.At.X,iv b.At.Y])) (wn Z) Z Tryz.call24 (ak Z (ak Z aH)) (fun W hW=>xz p0 d f (q.ext hW.aY) g h (l.ext hW.aY) i j (s.ext hW.aY) o b C (HF.start _)) (bv 2 (cs:=[bV b.Flip,iv b.Quarters,iv b.At.X,iv b.At.Y]) [bV b.Flip,iv b.Quarters,iv b.At.X,iv b.At.Y] (wn Z) Z Z Z Z tq Z Z Z (Tr.k Z (ae (aa (aJ ?_)))))
   obtain rfl:=oI H
   exact bR (m:=[.agg #[bV b.Flip,iv b.Quarters,iv b.At.X,iv b.At.Y],iv 0]) [2] (fJ Z Z AJ tq (bu Z bG)) (fun W hW=>⟨Z,hW.low leB⟩)

theorem rz(N:Nat){w:Bs}(p0:aK)(p1:oM)(r:aK)(H:jM N p0 p1=some r)(hE:HF w w.W E0):Calls Tryz.prog 18 [.agg #[iv p0.X,iv p0.Y],.agg #[bV p1.Flip,iv p1.Quarters,iv p1.At.X,iv p1.At.Y]].toArray w.W fun e W'=>e= .returned (.agg #[iv r.X,iv r.Y])∧HF w W' E0:=by
 unfold jM at H
 have leB:=Bs.Le.refl w
 refine aX (n:=36) Tryz.func18 Z Z Z hE (aj (dh 1 (cs:=[iv p0.X,iv p0.Y]) (wn Z) Z Z Z fun f=>(dh 2 (cs:=[bV p1.Flip,iv p1.Quarters,iv p1.At.X,iv p1.At.Y]) (wn Z) Z Z Z fun g=>(Tr.alloc 3 (wn Z) Z vY fun i=>(ae (aa ?_))))))
 have j:=Bs.Le.refl w
 refine pz (σ:=Int) (fun w s=>lu N p0 p1 s=some r) (fun s=>[(2,pV f),(3,pV g),(4,pV i)]) (fun s=>[(1,bx f #[iv s,iv p0.Y] 54),(2,bx g #[bV p1.Flip,iv p1.Quarters,iv p1.At.X,iv p1.At.Y] 83),(3,bx i #[iv 0,iv 0] 54)]) ?_ ?_
 ·refine aj (aD (ag KH) Z (aC Z (fun _ _ a c=>ah BG (a.ev Z) (bN c (vs:=[bV p1.Flip,iv p1.Quarters,iv p1.At.X,iv p1.At.Y]) (k:=2) Z 0) Z) (ae (aa (aN Z H (fun H=>?_) (fun H=>?_))))))
  ·exact aV (aD (ag fU) Z (aC Z (fun _ _ a c=>ah bF (a.ev Z) (bN c (vs:=[iv p0.X,iv p0.Y]) (k:=1) Z 0) Z) (aD Bo Z (aD (ag fU) Z (bv 1 (cs:=[iv (bP (0-p0.X))]) [iv (bP (0-p0.X)),iv p0.Y] (wn Z) Z Z Z Z vM Z Z Z (ae (aP j (bP (0-p0.X)) H (.r Z) (.r Z))))))))
  ·exact aM (aP j p0.X H (.r Z) (.r Z))
 ·intro w l p hs
  have H:=hs
  replace H:lu N p0 p1 l=some r:=H
  replace leB:=leB.trans p
  unfold lu at H
  show Tr _ _ (LF [(2,pV f),(3,pV g),(4,pV i)]) (LE [(1,bx f #[iv l,iv p0.Y] 54),(2,bx g #[bV p1.Flip,iv p1.Quarters,iv p1.At.X,iv p1.At.Y] 83),(3,bx i #[iv 0,iv 0] 54)]) _
  refine az (aj (aD (ag Dw) Z (aC Z (fun _ _ a c=>ah bF (a.ev Z) (bN c (vs:=[bV p1.Flip,iv p1.Quarters,iv p1.At.X,iv p1.At.Y]) (k:=2) Z 1) Z) (aA Z (ae (aa (Tr.block (cO (σ:=Int×Int×Int) (fun m w s=>iD p1 m s.1 s.2.1 s.2.2=some r) (fun s=>[(2,pV f),(3,pV g),(4,pV i),(12,iv p1.Quarters),(13,iv s.2.2)]) (fun s=>[(1,bx f #[iv s.1,iv s.2.1] 54),(2,bx g #[bV p1.Flip,iv p1.Quarters,iv p1.At.X,iv p1.At.Y] 83),(3,bx i #[iv 0,iv 0] 54)]) N (l,p0.Y,0) H (.r Z) (.r Z) (fun _ _ h=>oq (h)) ?_))))))))
  intro w q t s hs
  obtain⟨d,b,o⟩:=s
  have H:=hs
  replace H:iD p1 (t+1) d b o=some r:=H
  replace leB:=leB.trans q
  rw[iD.eq_2] at H
  dsimp only
  refine aj (av bi Z Z (ae (aa (az (aN Z H (fun H=>?_) (fun H=>?_))))))
  ·exact aM (aa (az (Tr.block (aV (aD (ag fT) Z (aC Z (fun _ _ a c=>ah bF (a.ev Z) (bN c (vs:=[iv d,iv b]) (k:=1) Z 1) Z) (aD Bo Z (aD (ag fU) Z (aC Z (fun _ _ a c=>ah bF (a.ev Z) (bN c (vs:=[iv d,iv b]) (k:=1) Z 0) Z) (aD (ag fU) Z (bv 1 (cs:=[iv (bP (0-b))]) [iv (bP (0-b)),iv b] (wn Z) Z Z Z Z vM Z Z Z (aD (ag fT) Z (bv 1 (cs:=[iv d]) [iv (bP (0-b)),iv d] (wn Z) Z Z Z Z vM Z Z Z (ae (aQ (aa (aV (av bE Z Z (aA Z (ae (aP q ((bP (0-b)),d,(bP (o+1))) H (.r Z) (.r Z))))))))))))))))))))))
  ·refine bZ (aF (aF (bg (aa (aj (aD (ag fU) Z (aC Z (fun _ _ a c=>ah bF (a.ev Z) (bN c (vs:=[iv d,iv b]) (k:=1) Z 0) Z) (aD (ag Dv) Z (aD (ag fU) Z (aC Z (fun _ _ a c=>ah bF (a.ev Z) (bN c (vs:=[bV p1.Flip,iv p1.Quarters,iv p1.At.X,iv p1.At.Y]) (k:=2) Z 2) Z) (av bE Z Z (aD (ag fT) Z (aC Z (fun _ _ a c=>ah bF (a.ev Z) (bN c (vs:=[iv d,iv b]) (k:=1) Z 1) Z) (aD (ag Dv) Z (aD (ag fT) Z (aC Z (fun _ _ a c=>ah bF (a.ev Z) (bN c (vs:=[bV p1.Flip,iv p1.Quarters,iv p1.At.X,iv p1.At.Y]) (k:=2) Z 3) Z) (av bE Z Z (gV (vs:=[(0,iv (bP (d+p1.At.X))),(1,iv (bP (b+p1.At.Y)))]) (cs:=[iv (bP (d+p1.At.X)),iv (bP (b+p1.At.Y))]) (wn Z) Z (bQ Z (bQ Z dR)) (by kernel_rfl) (bv 3 (cs:=[iv (bP (d+p1.At.X)),iv (bP (b+p1.At.Y))]) [iv (bP (d+p1.At.X)),iv (bP (b+p1.At.Y))] (wn Z) Z Z Z Z eU Z Z Z (ae (aa (aJ ?_))))))))))))))))))))))
   obtain rfl:=oI H
   exact bR (m:=[.agg #[iv (bP (d+p1.At.X)),iv (bP (b+p1.At.Y))]]) [3] (fJ Z Z iC eU bG) (fun W hW=>⟨Z,hW.low leB⟩)

theorem CU(N:Nat){w:Bs}(hT:Nj Tryz.prog w)(p0:lU)(V:Option Addr)(a':Nat)(h2:Sl w.R w.W iB V a' p0.Types)(a0:Option Addr)(a1:Nat)(h3:Sl w.R w.W mH a0 a1 p0.List_.Parts)(a2:Option Addr)(a3:Nat)(h4:Sl w.R w.W rH a2 a3 p0.List_.Nets)(a4:Option Addr)(a5:Nat)(h5:Sl w.R w.W iZ a4 a5 p0.Materials)(a6:Option Addr)(a7:Nat)(h6:Sl w.R w.W ou a6 a7 p0.Stack)(a8:Option Addr)(a9:Nat)(h7:Sl w.R w.W sF a8 a9 p0.Plots)(L:Option Addr)(M:Nat)(f7:Sl w.O w.W cB L M p0.Outline.Tools)(P:Option Addr)(Q:Nat)(f8:Sl w.O w.W bH P Q p0.Outline.Steps)(D:Option Addr)(E:Nat)(T:Sl w.R w.W eZ D E p0.Bores)(b0:Option Addr)(b1:Nat)(h8:Sl w.R w.W oL b0 b1 p0.Bodies)(j:Option Addr)(o:Nat)(g3:Sl w.R w.W pK j o p0.Places)(p:Option Addr)(q:Nat)(g4:Sl w.R w.W sG p q p0.Feet)(v:Option Addr)(A:Nat)(g5:Sl w.R w.W jX v A p0.Rules.Classes)(B:Option Addr)(C:Nat)(g6:Sl w.R w.W kV B C p0.Rules.Areas)(p1:dw)(F:Option Addr)(G:Nat)(b3:Sl w.R w.W fe F G p1.Kinds)(g:Option Addr)(i:Nat)(I:Sl w.R w.W lG g i p1.Slots)(J:Option Addr)(K:Nat)(b4:Sl w.R w.W dP J K p1.Marks)(p2:ByteArray)(r:((List fq)×ByteArray×Int))(H:sS N p0 p1 p2=some r)(hE:HF w w.W (mF [emp])):Calls Tryz.prog 4 [.agg #[sL V p0.Types a',sL a0 p0.List_.Parts a1,sL a2 p0.List_.Nets a3,sL a4 p0.Materials a5,sL a6 p0.Stack a7,sL a8 p0.Plots a9,iv p0.Outline.Unit,sL L p0.Outline.Tools M,sL P p0.Outline.Steps Q,sL D p0.Bores E,sL b0 p0.Bodies b1,sL j p0.Places o,sL p p0.Feet q,iv p0.Rules.Clearance,iv p0.Rules.Width,iv p0.Rules.Ring,iv p0.Rules.Edge,iv p0.Rules.HoleGap,sL v p0.Rules.Classes A,sL B p0.Rules.Areas C],.agg #[iv p1.W,iv p1.H,iv p1.Rail,iv p1.Gap,sL F p1.Kinds G,sL g p1.Slots i,sL J p1.Marks K],sv p2].toArray w.W fun e W'=>∃u:(Option Addr×Nat),e= .returned (.tuple #[sL u.1 r.1 u.2,sv r.2.1,iv r.2.2])∧(fQ u.1 r.1.length u.2)∧HF w W' (mF [ow u.1 u.2 58 eZ r.1]):=by
 unfold sS at H
 have leB:=Bs.Le.refl w
 refine aX (n:=112) Tryz.func4 Z Z Z hE (aj (dh 1 (cs:=[sL V p0.Types a',sL a0 p0.List_.Parts a1,sL a2 p0.List_.Nets a3,sL a4 p0.Materials a5,sL a6 p0.Stack a7,sL a8 p0.Plots a9,iv p0.Outline.Unit,sL L p0.Outline.Tools M,sL P p0.Outline.Steps Q,sL D p0.Bores E,sL b0 p0.Bodies b1,sL j p0.Places o,sL p p0.Feet q,iv p0.Rules.Clearance,iv p0.Rules.Width,iv p0.Rules.Ring,iv p0.Rules.Edge,iv p0.Rules.HoleGap,sL v p0.Rules.Classes A,sL B p0.Rules.Areas C]) (wn Z) Z Z Z fun b6=>(dh 2 (cs:=[iv p1.W,iv p1.H,iv p1.Rail,iv p1.Gap,sL F p1.Kinds G,sL g p1.Slots i,sL J p1.Marks K]) (wn Z) Z Z Z fun b7=>(Tr.k Z (bY 3 58 eZ ?_)))))
 show Tr _ _ (uf _ 6 (sL none (([]:List fq)) 0)) _ _
 refine Tr.k Z (Tr.k Z (ae (aa (az (aj (aC Z (fun _ _ a c=>aL (cs:=[sL V p0.Types a',sL a0 p0.List_.Parts a1,sL a2 p0.List_.Nets a3,sL a4 p0.Materials a5,sL a6 p0.Stack a7,sL a8 p0.Plots a9,iv p0.Outline.Unit,sL L p0.Outline.Tools M,sL P p0.Outline.Steps Q,sL D p0.Bores E,sL b0 p0.Bodies b1,sL j p0.Places o,sL p p0.Feet q,iv p0.Rules.Clearance,iv p0.Rules.Width,iv p0.Rules.Ring,iv p0.Rules.Edge,iv p0.Rules.HoleGap,sL v p0.Rules.Classes A,sL B p0.Rules.Areas C]) PE Ox (a.ev Z) (aI.take (bN c (vs:=[sL V p0.Types a',sL a0 p0.List_.Parts a1,sL a2 p0.List_.Nets a3,sL a4 p0.Materials a5,sL a6 p0.Stack a7,sL a8 p0.Plots a9,iv p0.Outline.Unit,sL L p0.Outline.Tools M,sL P p0.Outline.Steps Q,sL D p0.Bores E,sL b0 p0.Bodies b1,sL j p0.Places o,sL p p0.Feet q,iv p0.Rules.Clearance,iv p0.Rules.Width,iv p0.Rules.Ring,iv p0.Rules.Edge,iv p0.Rules.HoleGap,sL v p0.Rules.Classes A,sL B p0.Rules.Areas C]) (k:=1) Z 0) 20) Z) ?_))))))
 obtain⟨S,h9,H⟩:=bnd H
 refine aS (r:=(.agg #[iv S.fault,sv S.where_])) (wn Z) Z Tryz.call7 (ak Z aH) (fun W hW=>Fx N (hT.ext hW.aY) p0 V a' (h2.ext hW.aY) a0 a1 (h3.ext hW.aY) a2 a3 (h4.ext hW.aY) a4 a5 (h5.ext hW.aY) a6 a7 (h6.ext hW.aY) a8 a9 (h7.ext hW.aY) L M (f7.rl.ext hW.aY) P Q (f8.rl.ext hW.aY) D E (T.ext hW.aY) b0 b1 (h8.ext hW.aY) j o (g3.ext hW.aY) p q (g4.ext hW.aY) v A (g5.ext hW.aY) B C (g6.ext hW.aY) S h9 (HF.start _)) (Tr.alloc 4 (wn Z) Z Qu fun g7=>(bv 4 (cs:=[iv S.fault,sv S.where_]) [iv S.fault,sv S.where_] (wn Z) Z Z Z Z qU Z Z Z (ae (aa (aj (aC Z (fun _ _ a c=>aL (cs:=[iv S.fault,sv S.where_]) zC qU (a.ev Z) (aI.take (bN c (vs:=[iv S.fault,sv S.where_]) (k:=4) Z 0) 2) Z) ?_))))))
 obtain⟨g8,i0,H⟩:=bnd H
 refine aS (r:=(bV g8)) (wn Z) Z Tryz.call8 (ak Z aH) (fun W hW=>Be S g8 i0 (HF.start _)) (ae (aa (aN Z H (fun H=>?_) (fun H=>?_))))
 ·refine az (fZ (by kernel_rfl) (by kernel_rfl) (dD (ag Un) Z (bL Z (fun _ _ a c=>ah jD (a.ev Z) (bN c (vs:=[iv S.fault,sv S.where_]) (k:=4) Z 1) Z) (dD (ag O1) Z (bL Z (fun _ _ a c=>ah VG (a.ev Z) (bN c (vs:=[iv S.fault,sv S.where_]) (k:=4) Z 0) Z) (jB Z Z (jB Z Z (jB Z Z (gz (aa (aJ (ai ?_))))))))))))
  obtain rfl:=oI H
  exact bY 5 58 eZ (bR (m:=[.slice none 0 0,sv S.where_,iv S.fault]) [] (bu Z (bu Z (bu Z bG))) (fun W hW=>⟨(none,0),Z,fP,HF.qC leB (hW.pick (ks:=[5]) (by decide) (bn Z bO)) ⟨lD _ _ _ _ vg,trivial⟩⟩))
 ·refine aM (aa (az (aj (aC Z (fun _ _ a c=>aL (cs:=[iv p1.W,iv p1.H,iv p1.Rail,iv p1.Gap,sL F p1.Kinds G,sL g p1.Slots i,sL J p1.Marks K]) uJ uI (a.ev Z) (aI.take (bN c (vs:=[iv p1.W,iv p1.H,iv p1.Rail,iv p1.Gap,sL F p1.Kinds G,sL g p1.Slots i,sL J p1.Marks K]) (k:=2) Z 0) 7) Z) ?_))))
  obtain⟨f2,i1,H⟩:=bnd H
  refine aS (r:=(iv f2)) (wn Z) Z Tryz.call9 (ak Z aH) (fun W hW=>uN N p1 F G (b3.ext hW.aY) g i (I.ext hW.aY) J K (b4.ext hW.aY) f2 i1 (HF.start _)) (Tr.k Z (ae (aa (aj (aA Z (av dW Z Z (ae (aa (aN Z H (fun H=>?_) (fun H=>?_))))))))))
  ·refine aj (aA Z (Tr.k Z (bY 6 58 eZ ?_)))
   show Tr _ _ (uf _ 6 (sL none (([]:List fq)) 0)) _ _
   refine Tr.k Z (Tr.k Z (ae (aa (aJ (ai ?_)))))
   obtain rfl:=oI H
   exact bR (m:=[sL none (([]:List fq)) 0,sv ⟨#[112,97,110,101,108]⟩,iv f2]) [] (bu Z (bu Z (bu Z bG))) (fun W hW=>⟨(none,0),Z,fP,HF.qC leB (hW.pick (ks:=[6]) (by decide) (bn Z bO)) ⟨lD _ _ _ _ vg,trivial⟩⟩)
  ·refine aM (aa (aj (aC Z (fun _ _ a c=>aL (cs:=[iv p1.W,iv p1.H,iv p1.Rail,iv p1.Gap,sL F p1.Kinds G,sL g p1.Slots i,sL J p1.Marks K]) uJ uI (a.ev Z) (aI.take (bN c (vs:=[iv p1.W,iv p1.H,iv p1.Rail,iv p1.Gap,sL F p1.Kinds G,sL g p1.Slots i,sL J p1.Marks K]) (k:=2) Z 0) 7) Z) (aA Z ?_))))
   obtain⟨d,i2,H⟩:=bnd H
   refine aS (r:=(.tuple #[.agg #[sv d.1.Name,iv d.1.W,iv d.1.H],bV d.2])) (wn Z) Z Tryz.call10 (ak Z (ak Z aH)) (fun W hW=>Ez p1 F G (b3.ext hW.aY) g i (I.ext hW.aY) J K (b4.ext hW.aY) p2 d i2 (HF.start _)) (aA Z (aC Z (fun _ _ a c=>bX (a.ev Z) Z) (aC Z (fun _ _ a c=>bX (a.ev Z) Z) (Tr.alloc 7 (wn Z) Z Lb fun e6=>(bv 7 (cs:=[sv d.1.Name,iv d.1.W,iv d.1.H]) [sv d.1.Name,iv d.1.W,iv d.1.H] (wn Z) Z Z Z Z wY Z Z Z (Tr.k Z (ae (aa (az (aj (aA Z (aD bT Z (ae (aa (aN Z H (fun H=>?_) (fun H=>?_))))))))))))))))
   ·refine aj (Tr.k Z (bY 8 58 eZ ?_))
    show Tr _ _ (uf _ 6 (sL none (([]:List fq)) 0)) _ _
    refine Tr.k Z (Tr.k Z (ae (aa (aJ (ai ?_)))))
    obtain rfl:=oI H
    exact bR (m:=[sL none (([]:List fq)) 0,sv ⟨#[112,97,110,101,108]⟩,iv 9]) [] (bu Z (bu Z (bu Z bG))) (fun W hW=>⟨(none,0),Z,fP,HF.qC leB (hW.pick (ks:=[8]) (by decide) (bn Z bO)) ⟨lD _ _ _ _ vg,trivial⟩⟩)
   ·refine aM (aa (aj (aD (ag O8) Z (aC Z (fun _ _ a c=>aL (cs:=[iv p0.Outline.Unit,sL L p0.Outline.Tools M,sL P p0.Outline.Steps Q]) yw wZ (a.ev Z) (aI.take (bN c (vs:=[sL V p0.Types a',sL a0 p0.List_.Parts a1,sL a2 p0.List_.Nets a3,sL a4 p0.Materials a5,sL a6 p0.Stack a7,sL a8 p0.Plots a9,iv p0.Outline.Unit,sL L p0.Outline.Tools M,sL P p0.Outline.Steps Q,sL D p0.Bores E,sL b0 p0.Bodies b1,sL j p0.Places o,sL p p0.Feet q,iv p0.Rules.Clearance,iv p0.Rules.Width,iv p0.Rules.Ring,iv p0.Rules.Edge,iv p0.Rules.HoleGap,sL v p0.Rules.Classes A,sL B p0.Rules.Areas C]) (k:=1) Z 6) 3) Z) ?_))))
    obtain⟨c0,i3,H⟩:=bnd H
    refine jc [9] [emp] (U:=(Option Addr×Nat)) (fun u=>(.tuple #[sL u.1 c0.1 u.2,iv c0.2])) (fun O W u=>fQ u.1 c0.1.length u.2) (fun u=>[ow u.1 u.2 121 aW c0.1]) Z (bn Z bO) (fun _=>Z) (wn Z) Z Tryz.call11 (ak Z aH) (fun W hW hp hE=>Eu N p0.Outline L M (f7.uF (hW.fM hp)) P Q (f8.uF (hW.fM hp)) c0 i3 hE) ?_
    intro w u d0 hu
    obtain⟨d1,d2⟩:=u
    have g1:=hu
    replace hT:=hT.ext d0.ext
    replace T:=T.iR d0
    replace b3:=b3.iR d0
    replace I:=I.iR d0
    replace b4:=b4.iR d0
    replace leB:=leB.trans d0
    have j3:fQ d1 c0.1.length d2:=g1 --@phi
    dsimp only
    refine aA Z (aC Z (fun _ _ a c=>bX (a.ev Z) Z) (aC Z (fun _ _ a c=>bX (a.ev Z) Z) (Tr.k Z (Tr.k Z (ae (aa (az (aj (aA Z (av dW Z Z (ae (aa (aN Z H (fun H=>?_) (fun H=>?_))))))))))))))
    ·refine aj (aA Z (Tr.k Z (bY 10 58 eZ ?_)))
     show Tr _ _ (uf _ 6 (sL none (([]:List fq)) 0)) _ _
     refine Tr.k Z (Tr.k Z (ae (aa (aJ (ai ?_)))))
     obtain rfl:=oI H
     exact bR (m:=[sL none (([]:List fq)) 0,sv ⟨#[111,117,116,108,105,110,101]⟩,iv c0.2]) [] (bu Z (bu Z (bu Z bG))) (fun W hW=>⟨(none,0),Z,fP,HF.qC leB (hW.pick (ks:=[10]) (by decide) (bn Z bO)) ⟨lD _ _ _ _ vg,trivial⟩⟩)
    ·refine aM (aa (az (aj (aA Z (aD (ag y5) Z (aC Z (fun _ _ a c=>ah bF (a.ev Z) (bN c (vs:=[sv d.1.Name,iv d.1.W,iv d.1.H]) (k:=7) Z 1) Z) (aD (ag yZ) Z (aC Z (fun _ _ a c=>ah bF (a.ev Z) (bN c (vs:=[sv d.1.Name,iv d.1.W,iv d.1.H]) (k:=7) Z 2) Z) (gV (vs:=[(2,iv d.1.W),(3,iv d.1.H)]) (cs:=[iv 0,iv 0,iv d.1.W,iv d.1.H]) (wn Z) Z (bQ Z (bQ Z dR)) (by kernel_rfl) (fK 11 (e:=77) (vs:=[(0,.agg #[iv 0,iv 0,iv d.1.W,iv d.1.H])]) (cs:=[iv 0,iv 0,iv d.1.W,iv d.1.H]) (wn Z) Z (bQ Z dR) (by kernel_rfl) fun f3=>(Tr.own 11 bf [(aO.mk 0 0 d.1.W d.1.H)] (css:=[[iv 0,iv 0,iv d.1.W,iv d.1.H]]) Z (.cons ⟨(),trivial,Z⟩ .nil) Z (by decide) (Bv Z) ?_)))))))))))
     obtain⟨c9,i4,H⟩:=bnd H
     refine jc [12] [emp] (U:=(Option Addr×Nat)) (fun u=>(sL u.1 c9 u.2)) (fun O W u=>fQ u.1 c9.length u.2) (fun u=>[ow u.1 u.2 121 aW c9]) Z (bn Z bO) (fun _=>Z) (wn Z) Z Tryz.call13 (ak Z aH) (fun W hW hp hE=>rQ N [(aO.mk 0 0 d.1.W d.1.H)] (some ⟨f3,0,none⟩) 1 (hW.TJ (k:=11) Z hp Z) c9 i4 hE) ?_
     intro w u d3 hu
     obtain⟨d4,d5⟩:=u
     have g2:=hu
     replace hT:=hT.ext d3.ext
     replace T:=T.iR d3
     replace b3:=b3.iR d3
     replace I:=I.iR d3
     replace b4:=b4.iR d3
     replace leB:=leB.trans d3
     have j4:fQ d4 c9.length d5:=g2 --@phi
     dsimp only
     refine Tr.freeze 9 Z fun w d6 e8=>?_
     replace hT:=hT.ext d6.ext
     replace T:=T.iR d6
     replace b3:=b3.iR d6
     replace I:=I.iR d6
     replace b4:=b4.iR d6
     replace leB:=leB.trans d6
     refine Tr.freeze 12 Z fun w c5 i5=>?_
     replace hT:=hT.ext c5.ext
     replace T:=T.iR c5
     replace b3:=b3.iR c5
     replace I:=I.iR c5
     replace b4:=b4.iR c5
     replace e8:=e8.le c5
     replace leB:=leB.trans c5
     obtain⟨f4,i6,H⟩:=bnd H
     refine aS (r:=(bV f4)) (wn Z) Z Tryz.call12 (ak Z (ak Z aH)) (fun W hW=>CG N c0.1 d1 d2 (e8.uF hW.aY) c9 d4 d5 (i5.uF hW.aY) f4 i6 (HF.start _)) (aD bT Z (aA Z ?_))
     obtain⟨g9,d7,H⟩:=bnd H
     refine bM 5 [(2,sv p2),(3,pV b6),(4,pV b7),(67,bV g9)] [(1,bx b6 #[sL V p0.Types a',sL a0 p0.List_.Parts a1,sL a2 p0.List_.Nets a3,sL a4 p0.Materials a5,sL a6 p0.Stack a7,sL a8 p0.Plots a9,iv p0.Outline.Unit,sL L p0.Outline.Tools M,sL P p0.Outline.Steps Q,sL D p0.Bores E,sL b0 p0.Bodies b1,sL j p0.Places o,sL p p0.Feet q,iv p0.Rules.Clearance,iv p0.Rules.Width,iv p0.Rules.Ring,iv p0.Rules.Edge,iv p0.Rules.HoleGap,sL v p0.Rules.Classes A,sL B p0.Rules.Areas C] 43),(2,bx b7 #[iv p1.W,iv p1.H,iv p1.Rail,iv p1.Gap,sL F p1.Kinds G,sL g p1.Slots i,sL J p1.Marks K] 48),(3,ow none 0 58 eZ ([]:List fq)),(4,bx g7 #[iv S.fault,sv S.where_] 63),(7,bx e6 #[sv d.1.Name,iv d.1.W,iv d.1.H] 67),(11,ow (some ⟨f3,0,none⟩) 1 77 bf [(aO.mk 0 0 d.1.W d.1.H)])] ?_ ?_
     ·cases f9:(!f4)
      ·rw[f9] at d7
       rw[if_neg (by decide)] at d7
       have H:=d7
       refine bC (ag DI) Z (Tr.x (fun _ _ a c=>ah MV (a.ev Z) (bN c (vs:=[sL V p0.Types a',sL a0 p0.List_.Parts a1,sL a2 p0.List_.Nets a3,sL a4 p0.Materials a5,sL a6 p0.Stack a7,sL a8 p0.Plots a9,iv p0.Outline.Unit,sL L p0.Outline.Tools M,sL P p0.Outline.Steps Q,sL D p0.Bores E,sL b0 p0.Bodies b1,sL j p0.Places o,sL p p0.Feet q,iv p0.Rules.Clearance,iv p0.Rules.Width,iv p0.Rules.Ring,iv p0.Rules.Edge,iv p0.Rules.HoleGap,sL v p0.Rules.Classes A,sL B p0.Rules.Areas C]) (k:=1) Z 9) Z) (rO (vs:=[pV e6]) (wg Z Z Z) Z (ak Z aH) ?_))
       obtain⟨h0,i7,H⟩:=bnd H
       refine aS (r:=(bV h0)) (wg Z Z Z) Z Tryz.call14 (ak Z (ak Z aH)) (fun W hW=>vD p0.Bores D E (T.ext hW.aY) (fun z0=>kN z0 d.1) 15 [pV e6] Tryz.call15 (fun w' he z0 y hy=>Bg z0 d.1 e6 (he.r _ (hW.AC (k:=7) Z)) (he.cells (hW.AC (k:=7) Z) (hW.Jd (k:=7) Z)) y hy (HF.start _)) h0 i7 (HF.start _)) (av aU Z Z ?_)
       obtain rfl:=oI H
       exact ae (aR (.r Z) (.r Z))
      ·rw[f9] at d7
       rw[if_pos Z] at d7
       have H:=d7
       obtain rfl:=oI H
       exact aG Z (aG Z (aG Z (aG Z (av aT Z Z (ae (aR (.r Z) (.r Z)))))))
     ·show Tr _ _ (LF [(2,sv p2),(3,pV b6),(4,pV b7),(67,bV g9)]) (LE [(1,bx b6 #[sL V p0.Types a',sL a0 p0.List_.Parts a1,sL a2 p0.List_.Nets a3,sL a4 p0.Materials a5,sL a6 p0.Stack a7,sL a8 p0.Plots a9,iv p0.Outline.Unit,sL L p0.Outline.Tools M,sL P p0.Outline.Steps Q,sL D p0.Bores E,sL b0 p0.Bodies b1,sL j p0.Places o,sL p p0.Feet q,iv p0.Rules.Clearance,iv p0.Rules.Width,iv p0.Rules.Ring,iv p0.Rules.Edge,iv p0.Rules.HoleGap,sL v p0.Rules.Classes A,sL B p0.Rules.Areas C] 43),(2,bx b7 #[iv p1.W,iv p1.H,iv p1.Rail,iv p1.Gap,sL F p1.Kinds G,sL g p1.Slots i,sL J p1.Marks K] 48),(3,ow none 0 58 eZ ([]:List fq)),(4,bx g7 #[iv S.fault,sv S.where_] 63),(7,bx e6 #[sv d.1.Name,iv d.1.W,iv d.1.H] 67),(11,ow (some ⟨f3,0,none⟩) 1 77 bf [(aO.mk 0 0 d.1.W d.1.H)])]) _
      refine ae (aa (aN Z H (fun H=>?_) (fun H=>?_)))
      ·refine aj (Tr.k Z (bY 13 58 eZ ?_))
       show Tr _ _ (uf _ 6 (sL none (([]:List fq)) 0)) _ _
       refine Tr.k Z (Tr.k Z (ae (aa (aJ (ai ?_)))))
       obtain rfl:=oI H
       exact bR (m:=[sL none (([]:List fq)) 0,sv ⟨#[112,97,110,101,108]⟩,iv 1]) [] (bu Z (bu Z (bu Z bG))) (fun W hW=>⟨(none,0),Z,fP,HF.qC leB (hW.pick (ks:=[13]) (by decide) (bn Z bO)) ⟨lD _ _ _ _ vg,trivial⟩⟩)
      ·refine aM (aa (aj (Tr.k Z (bY 14 58 eZ ?_))))
       show Tr _ _ (uf _ 15 (sL none (([]:List fq)) 0)) _ _
       refine ae (aa (az (aj (aD (ag y8) Z (aC Z (fun _ _ a c=>ah Iy (a.ev Z) (bN c (vs:=[iv p1.W,iv p1.H,iv p1.Rail,iv p1.Gap,sL F p1.Kinds G,sL g p1.Slots i,sL J p1.Marks K]) (k:=2) Z 5) Z) (aD (bA Lf) Z (aA Z (ae (aa (Tr.block (cO (σ:=(List jH)×Nat×(List fq)×(Option Addr)×Nat) (fun m w s=>m=s.1.length+1∧s.1=List.drop s.2.1 p1.Slots∧s.2.1≤p1.Slots.length∧gB N p0 p1 p2 s.1 s.2.1 s.2.2.1=some r∧fQ s.2.2.2.1 s.2.2.1.length s.2.2.2.2) (fun s=>[(2,sv p2),(3,pV b6),(4,pV b7),(15,sL s.2.2.2.1 s.2.2.1 s.2.2.2.2),(69,sL g p1.Slots i),(70,iv (p1.Slots.length:Int)),(71,iv (s.2.1:Int))]) (fun s=>[(1,bx b6 #[sL V p0.Types a',sL a0 p0.List_.Parts a1,sL a2 p0.List_.Nets a3,sL a4 p0.Materials a5,sL a6 p0.Stack a7,sL a8 p0.Plots a9,iv p0.Outline.Unit,sL L p0.Outline.Tools M,sL P p0.Outline.Steps Q,sL D p0.Bores E,sL b0 p0.Bodies b1,sL j p0.Places o,sL p p0.Feet q,iv p0.Rules.Clearance,iv p0.Rules.Width,iv p0.Rules.Ring,iv p0.Rules.Edge,iv p0.Rules.HoleGap,sL v p0.Rules.Classes A,sL B p0.Rules.Areas C] 43),(2,bx b7 #[iv p1.W,iv p1.H,iv p1.Rail,iv p1.Gap,sL F p1.Kinds G,sL g p1.Slots i,sL J p1.Marks K] 48),(14,ow s.2.2.2.1 s.2.2.2.2 58 eZ s.2.2.1)]) (p1.Slots.length+1) (p1.Slots,0,([]:List fq),none,0) ⟨Z,Z,Nat.zero_le _,H,fP⟩ (.r Z) (.r Z) (fun _ _ h=>absurd h.1 (by simp)) ?_)))))))))))
       intro w c4 m s hs
       obtain⟨b5,d8,d9,c6,c7⟩:=s
       obtain⟨f5,b8,j6,H,e0⟩:=hs
       replace b8:b5=List.drop d8 p1.Slots:=b8
       replace H:gB N p0 p1 p2 b5 d8 d9=some r:=H
       replace f5:m+1=b5.length+1:=f5
       replace hT:=hT.ext c4.ext
       replace T:=T.iR c4
       replace b3:=b3.iR c4
       replace I:=I.iR c4
       replace b4:=b4.iR c4
       replace leB:=leB.trans c4
       replace e0:fQ c6 d9.length c7:=e0
       obtain rfl:m=b5.length:=by omega
       clear f5
       dsimp only
       cases b5 with
       |nil=>
        rw[gB.eq_1] at H
        refine aj (av bi Z Z (ae (aa (az (dn Z (cz b8) (bZ (aF (aF (bg (aa (aj (aA Z (Tr.k Z (Tr.k Z (Tr.k Z (ae (aa (aJ ?_))))))))))))))))))
        obtain rfl:=oI H
        exact bR (m:=[sL c6 d9 c7,sv ⟨#[]⟩,iv 0]) [] (bu Z (bu Z (bu Z bG))) (fun W hW=>⟨(c6,c7),Z,e0,HF.qC leB (hW.pick (ks:=[14]) (by decide) (bn Z bO)) ⟨lD _ _ _ _ vg,trivial⟩⟩)
       | cons b9 b5=>
        rw[gB.eq_2] at H
        refine aj (av bi Z Z (ae (aa (az (dm Z (dz b8) (aM (aa (az (Tr.block (aj (aA Z (aC Z (fun _ _ a c=>aB Mw (a.ev Z) I.form (a.ev Z) (Int.natCast_nonneg _) (bq b8)) (aC Z (fun _ _ a c=>aL (cs:=[sv b9.Board,iv b9.Quarters,iv b9.At.X,iv b9.At.Y]) J3 C8 (a.ev Z) (aI.take (pq yn I (dA b8) c) 4) Z) (Tr.alloc 33 (wn Z) Z Qv fun j7=>(Tr.k Z (bv 33 (cs:=[sv b9.Board,iv b9.Quarters,iv b9.At.X,iv b9.At.Y]) [sv b9.Board,iv b9.Quarters,iv b9.At.X,iv b9.At.Y] (wn Z) Z Z Z Z C8 Z Z Z (ae (aa (az (aj (aD (ag Dy) Z (aC Z (fun _ _ a c=>ah jD (a.ev Z) (bN c (vs:=[sv b9.Board,iv b9.Quarters,iv b9.At.X,iv b9.At.Y]) (k:=33) Z 0) Z) (aA Z (av zY Z Z (ae (aa (aN Z H (fun H=>?_) (fun H=>?_))))))))))))))))))))))))))))
        ·exact bZ (aF (bg (aa (aV (av bE Z Z (aA Z (ae (aP c4 (b5,(d8+1),d9,c6,c7) ⟨Z,df b8,bq b8,H,e0⟩ (.cons Z (.cons Z (.cons Z (.cons Z (.cons Z (.cons Z (.cons (congrArg (fun z=>some (Value.int .i64 z)) (cZ b8 I.form)) .nil))))))) (.r Z)))))))))
        ·refine aM (aa (az (aj (aA Z (aD (bA BQ) Z (aD (ag DI) Z (aC Z (fun _ _ a c=>ah MV (a.ev Z) (bN c (vs:=[sL V p0.Types a',sL a0 p0.List_.Parts a1,sL a2 p0.List_.Nets a3,sL a4 p0.Materials a5,sL a6 p0.Stack a7,sL a8 p0.Plots a9,iv p0.Outline.Unit,sL L p0.Outline.Tools M,sL P p0.Outline.Steps Q,sL D p0.Bores E,sL b0 p0.Bodies b1,sL j p0.Places o,sL p p0.Feet q,iv p0.Rules.Clearance,iv p0.Rules.Width,iv p0.Rules.Ring,iv p0.Rules.Edge,iv p0.Rules.HoleGap,sL v p0.Rules.Classes A,sL B p0.Rules.Areas C]) (k:=1) Z 9) Z) (aD (bA BQ) Z (av bE Z Z (av dE Z Z (ae (aa (aN Z H (fun H=>?_) (fun H=>?_))))))))))))))
         ·refine aj (Tr.k Z (bY 34 58 eZ ?_))
          show Tr _ _ (uf _ 6 (sL none (([]:List fq)) 0)) _ _
          refine Tr.k Z (Tr.k Z (ae (aa (aJ (ai (au (ai (ai (au (ai ?_))))))))))
          obtain rfl:=oI H
          exact bR (m:=[sL none (([]:List fq)) 0,sv ⟨#[112,97,110,101,108]⟩,iv 2]) [] (bu Z (bu Z (bu Z bG))) (fun W hW=>⟨(none,0),Z,fP,HF.qC leB (hW.pick (ks:=[34]) (by decide) (bn Z bO)) ⟨lD _ _ _ _ vg,trivial⟩⟩)
         ·refine aM (aa (aj (aC Z (fun _ _ a c=>aL (cs:=[iv p1.W,iv p1.H,iv p1.Rail,iv p1.Gap,sL F p1.Kinds G,sL g p1.Slots i,sL J p1.Marks K]) uJ uI (a.ev Z) (aI.take (bN c (vs:=[iv p1.W,iv p1.H,iv p1.Rail,iv p1.Gap,sL F p1.Kinds G,sL g p1.Slots i,sL J p1.Marks K]) (k:=2) Z 0) 7) Z) (aA Z ?_))))
          obtain⟨f,i8,H⟩:=bnd H
          refine aS (r:=(.tuple #[.agg #[bV f.1.Flip,iv f.1.Quarters,iv f.1.At.X,iv f.1.At.Y],iv f.2])) (wn Z) Z Tryz.call17 (ak Z (ak Z aH)) (fun W hW=>BM N p1 F G (b3.ext hW.aY) g i (I.ext hW.aY) J K (b4.ext hW.aY) (d8:Int) f i8 (HF.start _)) (aA Z (aC Z (fun _ _ a c=>bX (a.ev Z) Z) (aC Z (fun _ _ a c=>bX (a.ev Z) Z) (Tr.alloc 35 (wn Z) Z Jl fun e9=>(bv 35 (cs:=[bV f.1.Flip,iv f.1.Quarters,iv f.1.At.X,iv f.1.At.Y]) [bV f.1.Flip,iv f.1.Quarters,iv f.1.At.X,iv f.1.At.Y] (wn Z) Z Z Z Z tq Z Z Z (Tr.k Z (ae (aa (aj (aD (ag DI) Z (aC Z (fun _ _ a c=>ah MV (a.ev Z) (bN c (vs:=[sL V p0.Types a',sL a0 p0.List_.Parts a1,sL a2 p0.List_.Nets a3,sL a4 p0.Materials a5,sL a6 p0.Stack a7,sL a8 p0.Plots a9,iv p0.Outline.Unit,sL L p0.Outline.Tools M,sL P p0.Outline.Steps Q,sL D p0.Bores E,sL b0 p0.Bodies b1,sL j p0.Places o,sL p p0.Feet q,iv p0.Rules.Clearance,iv p0.Rules.Width,iv p0.Rules.Ring,iv p0.Rules.Edge,iv p0.Rules.HoleGap,sL v p0.Rules.Classes A,sL B p0.Rules.Areas C]) (k:=1) Z 9) Z) (aD (bA BQ) Z (aA Z (ae (aa (Tr.block (cO (σ:=(List fq)×Nat×(List fq)×(Option Addr)×Nat) (fun m w s=>m=s.1.length+1∧s.1=List.drop s.2.1 p0.Bores∧s.2.1≤p0.Bores.length∧jw N (gB N p0 p1 p2 b5 (d8+1)) f s.1 s.2.1 s.2.2.1=some r∧fQ s.2.2.2.1 s.2.2.1.length s.2.2.2.2) (fun s=>[(2,sv p2),(3,pV b6),(4,pV b7),(15,sL s.2.2.2.1 s.2.2.1 s.2.2.2.2),(18,pV e9),(69,sL g p1.Slots i),(70,iv (p1.Slots.length:Int)),(71,iv (d8:Int)),(94,sL D p0.Bores E),(95,iv (p0.Bores.length:Int)),(96,iv (s.2.1:Int))]) (fun s=>[(1,bx b6 #[sL V p0.Types a',sL a0 p0.List_.Parts a1,sL a2 p0.List_.Nets a3,sL a4 p0.Materials a5,sL a6 p0.Stack a7,sL a8 p0.Plots a9,iv p0.Outline.Unit,sL L p0.Outline.Tools M,sL P p0.Outline.Steps Q,sL D p0.Bores E,sL b0 p0.Bodies b1,sL j p0.Places o,sL p p0.Feet q,iv p0.Rules.Clearance,iv p0.Rules.Width,iv p0.Rules.Ring,iv p0.Rules.Edge,iv p0.Rules.HoleGap,sL v p0.Rules.Classes A,sL B p0.Rules.Areas C] 43),(2,bx b7 #[iv p1.W,iv p1.H,iv p1.Rail,iv p1.Gap,sL F p1.Kinds G,sL g p1.Slots i,sL J p1.Marks K] 48),(14,ow s.2.2.2.1 s.2.2.2.2 58 eZ s.2.2.1),(35,bx e9 #[bV f.1.Flip,iv f.1.Quarters,iv f.1.At.X,iv f.1.At.Y] 83)]) (p0.Bores.length+1) (p0.Bores,0,d9,c6,c7) ⟨Z,Z,Nat.zero_le _,H,e0⟩ (.r Z) (.r Z) (fun _ _ h=>absurd h.1 (by simp)) ?_)))))))))))))))))
          intro w e7 m s hs
          obtain⟨c3,g0,e3,e4,e5⟩:=s
          obtain⟨f6,c8,j8,H,f1⟩:=hs
          replace c8:c3=List.drop g0 p0.Bores:=c8
          replace H:jw N (gB N p0 p1 p2 b5 (d8+1)) f c3 g0 e3=some r:=H
          replace f6:m+1=c3.length+1:=f6
          replace hT:=hT.ext e7.ext
          replace T:=T.iR e7
          replace I:=I.iR e7
          replace c4:=c4.trans e7
          replace f1:fQ e4 e3.length e5:=f1
          obtain rfl:m=c3.length:=by omega
          clear f6
          dsimp only
          cases c3 with
          |nil=>
           rw[jw.eq_1] at H
           exact aj (av bi Z Z (ae (aa (az (dn Z (cz c8) (bZ (aF (aF (bg (aQ (aa (aV (av bE Z Z (aA Z (ae (aP c4 (b5,(d8+1),e3,e4,e5) ⟨Z,df b8,bq b8,H,f1⟩ (.cons Z (.cons Z (.cons Z (.cons Z (.cons Z (.cons Z (.cons (congrArg (fun z=>some (Value.int .i64 z)) (cZ b8 I.form)) .nil))))))) (.r Z)))))))))))))))))
          |cons b c3=>
           rw[jw.eq_2] at H
           refine aj (av bi Z Z (ae (aa (az (dm Z (dz c8) (aM (aa (az (Tr.block (aj (aC Z (fun _ _ a c=>aB FO (a.ev Z) T.form (a.ev Z) (Int.natCast_nonneg _) (bq c8)) (aC Z (fun _ _ a c=>aL (cs:=[iv b.At.X,iv b.At.Y,iv b.Size,iv b.From,iv b.To,bV b.Plated]) PD Gw (a.ev Z) (aI.take (pq uh T (dA c8) c) 6) Z) (Tr.alloc 40 (wn Z) Z Vg fun j9=>(bv 40 (cs:=[iv b.At.X,iv b.At.Y,iv b.Size,iv b.From,iv b.To,bV b.Plated]) [iv b.At.X,iv b.At.Y,iv b.Size,iv b.From,iv b.To,bV b.Plated] (wn Z) Z Z Z Z Gw Z Z Z (ae (aa (aj (aD (ag Bz) Z (aC Z (fun _ _ a c=>aL (cs:=[iv b.At.X,iv b.At.Y]) iC eU (a.ev Z) (aI.take (bN c (vs:=[iv b.At.X,iv b.At.Y,iv b.Size,iv b.From,iv b.To,bV b.Plated]) (k:=40) Z 0) 2) Z) (aC Z (fun _ _ a c=>aL (cs:=[bV f.1.Flip,iv f.1.Quarters,iv f.1.At.X,iv f.1.At.Y]) AJ tq (a.ev Z) (aI.take (bN c (vs:=[bV f.1.Flip,iv f.1.Quarters,iv f.1.At.X,iv f.1.At.Y]) (k:=35) Z 0) 4) Z) ?_))))))))))))))))))))
           obtain⟨b2,i9,H⟩:=bnd H
           refine aS (r:=(.agg #[iv b2.X,iv b2.Y])) (wn Z) Z Tryz.call18 (ak Z (ak Z aH)) (fun W hW=>rz N b.At f.1 b2 i9 (HF.start _)) (aD (ag Bz) Z (bv 40 (cs:=[iv b2.X,iv b2.Y]) [iv b2.X,iv b2.Y,iv b.Size,iv b.From,iv b.To,bV b.Plated] (wn Z) Z Z Z Z eU Z Z Z (ae (aa (aV (aA Z (aC Z (fun _ _ a c=>aL (cs:=[iv b2.X,iv b2.Y,iv b.Size,iv b.From,iv b.To,bV b.Plated]) PD Gw (a.ev Z) (aI.take (bN c (vs:=[iv b2.X,iv b2.Y,iv b.Size,iv b.From,iv b.To,bV b.Plated]) (k:=40) Z 0) 6) Z) (fK 41 (e:=58) (vs:=[(0,.agg #[iv b2.X,iv b2.Y,iv b.Size,iv b.From,iv b.To,bV b.Plated])]) (cs:=[iv b2.X,iv b2.Y,iv b.Size,iv b.From,iv b.To,bV b.Plated]) (wn Z) Z (bQ Z dR) (by kernel_rfl) fun k0=>?_))))))))
           obtain⟨j5,j0,H⟩:=bnd H
           exact Tr.append 14 (t:=eZ) (l:=e3) (l2:=[(fq.mk b2 b.Size b.From b.To b.Plated)]) (wn Z) Z Z Z Z (fun W hW=>⟨[[iv b2.X,iv b2.Y,iv b.Size,iv b.From,iv b.To,bV b.Plated]],(.cons ⟨(),trivial,Z⟩ .nil),bN hW (vs:=[iv b2.X,iv b2.Y,iv b.Size,iv b.From,iv b.To,bV b.Plated]) (k:=41) Z 0⟩) BQ Gw Xc (by decide) XU Z j0 fun j1 j2 h1=>(Tr.k Z (ae (aQ (aa (aV (av bE Z Z (aA Z (ae (aP e7 (c3,(g0+1),j5,j1,j2) ⟨Z,df c8,bq c8,H,h1⟩ (.cons Z (.cons Z (.cons Z (.cons Z (.cons Z (.cons Z (.cons Z (.cons Z (.cons Z (.cons Z (.cons (congrArg (fun z=>some (Value.int .i64 z)) (cZ c8 T.form)) .nil))))))))))) (.r Z))))))))))

theorem Es{w:Bs}(p0:(List aO))(i:Option Addr)(j:Nat)(g:Sl w.R w.W bf i j p0)(r:Int)(H:wP p0=some r)(hE:HF w w.W E0):Calls Tryz.prog 47 [sL i p0 j].toArray w.W fun e W'=>e= .returned (iv r)∧HF w W' E0:=by
 unfold wP at H
 have leB:=Bs.Le.refl w
 refine aX (n:=27) Tryz.func47 Z Z Z hE (aj (Tr.k Z (ae (aa (aj (Tr.k Z (ae (aa (az (aj (aA Z (aD (bA o8) Z (aA Z (ae (aa (Tr.block (cO (σ:=(List aO)×Nat×Int) (fun m w s=>m=s.1.length+1∧s.1=List.drop s.2.1 p0∧s.2.1≤p0.length∧mZ s.1 s.2.1 s.2.2=some r) (fun s=>[(3,iv s.2.2),(6,sL i p0 j),(7,iv (p0.length:Int)),(8,iv (s.2.1:Int))]) (fun s=>[]) (p0.length+1) (p0,0,0) ⟨Z,Z,Nat.zero_le _,H⟩ (.r Z) .nil (fun _ _ h=>absurd h.1 (by simp)) ?_)))))))))))))))))
 intro w l m s hs
 obtain⟨d,q,o⟩:=s
 obtain⟨p,f,t,H⟩:=hs
 replace f:d=List.drop q p0:=f
 replace H:mZ d q o=some r:=H
 replace p:m+1=d.length+1:=p
 replace g:=g.iR l
 replace leB:=leB.trans l
 obtain rfl:m=d.length:=by omega
 clear p
 dsimp only
 cases d with
 |nil=>
  rw[mZ.eq_1] at H
  refine aj (av bi Z Z (ae (aa (az (dn Z (cz f) (bZ (aF (aF (bg (aa (aj (aA Z (Tr.k Z (ae (aa (aJ ?_))))))))))))))))
  obtain rfl:=oI H
  exact bD leB
 |cons b d=>
  rw[mZ.eq_2] at H
  refine aj (av bi Z Z (ae (aa (az (dm Z (dz f) (aM (aa (az (Tr.block (aj (aC Z (fun _ _ a c=>aB sH (a.ev Z) g.form (a.ev Z) (Int.natCast_nonneg _) (bq f)) (aC Z (fun _ _ a c=>aL (cs:=[iv b.X0,iv b.Y0,iv b.X1,iv b.Y1]) o9 jy (a.ev Z) (aI.take (pq kQ g (dA f) c) 4) Z) (Tr.alloc 3 (wn Z) Z tQ fun u=>(bv 3 (cs:=[iv b.X0,iv b.Y0,iv b.X1,iv b.Y1]) [iv b.X0,iv b.Y0,iv b.X1,iv b.Y1] (wn Z) Z Z Z Z jy Z Z Z (ae (aa (aV (aA Z (aD (ag pu) Z (aC Z (fun _ _ a c=>ah bF (a.ev Z) (bN c (vs:=[iv b.X0,iv b.Y0,iv b.X1,iv b.Y1]) (k:=3) Z 2) Z) (aD (ag kU) Z (aC Z (fun _ _ a c=>ah bF (a.ev Z) (bN c (vs:=[iv b.X0,iv b.Y0,iv b.X1,iv b.Y1]) (k:=3) Z 0) Z) ?_))))))))))))))))))))))
  exact av gH Z Z (aD (ag qw) Z (aC Z (fun _ _ a c=>ah bF (a.ev Z) (bN c (vs:=[iv b.X0,iv b.Y0,iv b.X1,iv b.Y1]) (k:=3) Z 3) Z) (aD (ag lW) Z (aC Z (fun _ _ a c=>ah bF (a.ev Z) (bN c (vs:=[iv b.X0,iv b.Y0,iv b.X1,iv b.Y1]) (k:=3) Z 1) Z) (av gH Z Z (av rG Z Z (av bE Z Z (Tr.k Z (ae (aQ (aa (aV (av bE Z Z (aA Z (ae (aP l (d,(q+1),(bP (o+(bP ((bP (b.X1-b.X0))*(bP (b.Y1-b.Y0))))))) ⟨Z,df f,bq f,H⟩ (.cons Z (.cons Z (.cons Z (.cons (congrArg (fun z=>some (Value.int .i64 z)) (cZ f g.form)) .nil)))) .nil))))))))))))))))

theorem F7(N:Nat){w:Bs}(p0:(List aO))(a:Option Addr)(b:Nat)(f:Sl w.R w.W bf a b p0)(r:(Int×Int))(H:vS N p0=some r)(hE:HF w w.W E0):Calls Tryz.prog 19 [sL a p0 b].toArray w.W fun e W'=>e= .returned (.tuple #[iv r.1,iv r.2])∧HF w W' E0:=by
 unfold vS at H
 have leB:=Bs.Le.refl w
 refine aX (n:=12) Tryz.func19 Z Z Z hE (aj (Tr.k Z (Tr.k Z (ae (aa (az (aj (aA Z ?_))))))))
 obtain⟨c,g,H⟩:=bnd H
 refine aS (r:=(iv c)) (wn Z) Z Tryz.call46 (ak Z aH) (fun W hW=>uu N p0 a b (f.ext hW.aY) c g (HF.start _)) (Tr.k Z (ae (aa (aj (aA Z (av dW Z Z (ae (aa (aN Z H (fun H=>?_) (fun H=>?_))))))))))
 ·refine aj (aA Z (Tr.k Z (Tr.k Z (ae (aa (aJ (ai ?_)))))))
  obtain rfl:=oI H
  exact bR (m:=[iv 0,iv c]) [] (bu Z (bu Z bG)) (fun W hW=>⟨Z,hW.low leB⟩)
 ·refine aM (aa (aj (aA Z ?_)))
  obtain⟨d,h,H⟩:=bnd H
  refine aS (r:=(iv d)) (wn Z) Z Tryz.call47 (ak Z aH) (fun W hW=>Es p0 a b (f.ext hW.aY) d h (HF.start _)) (Tr.k Z (Tr.k Z (ae (aa (aJ ?_)))))
  obtain rfl:=oI H
  exact bR (m:=[iv d,iv 0]) [] (bu Z (bu Z bG)) (fun W hW=>⟨Z,hW.low leB⟩)

theorem tK(N:Nat){w:Bs}(r:Bool)(H:jU N=some r)(hE:HF w w.W E0):Calls Tryz.prog 5 [].toArray w.W fun e W'=>e= .returned (bV r)∧HF w W' E0:=by
 unfold jU at H
 have leB:=Bs.Le.refl w
 refine aX (n:=15) Tryz.func5 Z Z Z hE (aj (Tr.k Z (ae (aa (aj (gV (vs:=[(2,iv 2),(3,iv 3)]) (cs:=[iv 0,iv 0,iv 2,iv 3]) (wn Z) Z (bQ Z (bQ Z dR)) (by kernel_rfl) (fK 1 (e:=77) (vs:=[(0,.agg #[iv 0,iv 0,iv 2,iv 3])]) (cs:=[iv 0,iv 0,iv 2,iv 3]) (wn Z) Z (bQ Z dR) (by kernel_rfl) fun d=>(Tr.own 1 bf [(aO.mk 0 0 2 3)] (css:=[[iv 0,iv 0,iv 2,iv 3]]) Z (.cons ⟨(),trivial,Z⟩ .nil) Z (by decide) (Bv Z) ?_))))))))
 obtain⟨b,f,H⟩:=bnd H
 refine aS (r:=(.tuple #[iv b.1,iv b.2])) (wn Z) Z Tryz.call19 (ak Z aH) (fun W hW=>F7 N [(aO.mk 0 0 2 3)] (some ⟨d,0,none⟩) 1 (hW.wo (k:=1) Z) b f (HF.start _)) (aA Z (aC Z (fun _ _ a c=>bX (a.ev Z) Z) (aC Z (fun _ _ a c=>bX (a.ev Z) Z) (Tr.k Z (Tr.k Z (ae (aa (aj (aA Z (av dM Z Z (aA Z (bM 3 [(14,bV ((b.2==0)&&(b.1==6)))] [(1,ow (some ⟨d,0,none⟩) 1 77 bf [(aO.mk 0 0 2 3)])] ?_ ?_))))))))))))
 ·cases g:(b.2==0)
  ·exact aG Z (aG Z (av aU Z Z (ae (aR (.r Z) (.r Z)))))
  ·exact bC run_move Z (dI dM Z Z (av aT Z Z (ae (aR (.r Z) (.r Z)))))
 ·show Tr _ _ (LF [(14,bV ((b.2==0)&&(b.1==6)))]) (LE [(1,ow (some ⟨d,0,none⟩) 1 77 bf [(aO.mk 0 0 2 3)])]) _
  refine Tr.k Z (ae (aa (aJ ?_)))
  obtain rfl:=oI H
  exact bD leB

theorem Ba{w:Bs}(p0:oM)(r:Int)(H:mY p0=some r)(hE:HF w w.W E0):Calls Tryz.prog 54 [.agg #[bV p0.Flip,iv p0.Quarters,iv p0.At.X,iv p0.At.Y]].toArray w.W fun e W'=>e= .returned (iv r)∧HF w W' E0:=by
 unfold mY at H
 have leB:=Bs.Le.refl w
 refine aX (n:=13) Tryz.func54 Z Z Z hE (aj (dh 1 (cs:=[bV p0.Flip,iv p0.Quarters,iv p0.At.X,iv p0.At.Y]) (wn Z) Z Z Z fun g=>(Tr.k Z (ae (aa (az (aj (aD (ag Dw) Z (aC Z (fun _ _ a c=>ah bF (a.ev Z) (bN c (vs:=[bV p0.Flip,iv p0.Quarters,iv p0.At.X,iv p0.At.Y]) (k:=1) Z 1) Z) ?_)))))))))
 obtain⟨d,j,H⟩:=bnd H
 refine aS (r:=(bV d)) (wn Z) Z Tryz.call102 (ak Z (ak Z (ak Z aH))) (fun W hW=>xq p0.Quarters 0 3 d j (HF.start _)) (aD bT Z (aA Z ?_))
 obtain⟨h,b,H⟩:=bnd H
 refine bM 5 [(12,bV h)] [(1,bx g #[bV p0.Flip,iv p0.Quarters,iv p0.At.X,iv p0.At.Y] 83)] ?_ ?_
 ·cases f:(!d)
  ·rw[f] at b
   rw[if_neg (by decide)] at b
   have H:=b
   refine bC (ag Dv) Z (Tr.x (fun _ _ a c=>aL (cs:=[iv p0.At.X,iv p0.At.Y]) iC eU (a.ev Z) (aI.take (bN c (vs:=[bV p0.Flip,iv p0.Quarters,iv p0.At.X,iv p0.At.Y]) (k:=1) Z 2) 2) Z) ?_)
   obtain⟨i,l,H⟩:=bnd H
   refine aS (r:=(bV i)) (wg Z Z Z) Z Tryz.call74 (ak Z aH) (fun W hW=>nY p0.At i l (HF.start _)) (bC bT Z (av aU Z Z ?_))
   obtain rfl:=oI H
   exact ae (aR (.r Z) (.r Z))
  ·rw[f] at b
   rw[if_pos Z] at b
   have H:=b
   obtain rfl:=oI H
   exact aG Z (aG Z (aG Z (aG Z (av aT Z Z (ae (aR (.r Z) (.r Z)))))))
 ·show Tr _ _ (LF [(12,bV h)]) (LE [(1,bx g #[bV p0.Flip,iv p0.Quarters,iv p0.At.X,iv p0.At.Y] 83)]) _
  refine ae (aa (aN Z H (fun H=>?_) (fun H=>?_)))
  ·refine aj (Tr.k Z (ae (aa (aJ (ai ?_)))))
   obtain rfl:=oI H
   exact bD leB
  ·refine aM (aa (aj (Tr.k Z (ae (aa (aJ ?_))))))
   obtain rfl:=oI H
   exact bD leB

theorem F6(N:Nat){w:Bs}(p0:oM)(r:(oM×Int))(H:uw N p0=some r)(hE:HF w w.W E0):Calls Tryz.prog 23 [.agg #[bV p0.Flip,iv p0.Quarters,iv p0.At.X,iv p0.At.Y]].toArray w.W fun e W'=>e= .returned (.tuple #[.agg #[bV r.1.Flip,iv r.1.Quarters,iv r.1.At.X,iv r.1.At.Y],iv r.2])∧HF w W' E0:=by
 unfold uw at H
 have leB:=Bs.Le.refl w
 refine aX (n:=39) Tryz.func23 Z Z Z hE (aj (dh 1 (cs:=[bV p0.Flip,iv p0.Quarters,iv p0.At.X,iv p0.At.Y]) (wn Z) Z Z Z fun f=>(Tr.alloc 2 (wn Z) Z Jl fun g=>(Tr.k Z (ae (aa (az (aj (aC Z (fun _ _ a c=>aL (cs:=[bV p0.Flip,iv p0.Quarters,iv p0.At.X,iv p0.At.Y]) AJ tq (a.ev Z) (aI.take (bN c (vs:=[bV p0.Flip,iv p0.Quarters,iv p0.At.X,iv p0.At.Y]) (k:=1) Z 0) 4) Z) ?_)))))))))
 obtain⟨j,o,H⟩:=bnd H
 refine aS (r:=(iv j)) (wn Z) Z Tryz.call54 (ak Z aH) (fun W hW=>Ba p0 j o (HF.start _)) (Tr.k Z (ae (aa (aj (aA Z (av dW Z Z (ae (aa (aN Z H (fun H=>?_) (fun H=>?_))))))))))
 ·refine aj (gV (vs:=[]) (cs:=[bV false,iv 0,iv 0,iv 0]) (wn Z) Z dR (by kernel_rfl) (aA Z (bv 2 (cs:=[bV false,iv 0,iv 0,iv 0]) [bV false,iv 0,iv 0,iv 0] (wn Z) Z Z Z Z tq Z Z Z (Tr.k Z (ae (aa (aJ (ai ?_))))))))
  obtain rfl:=oI H
  exact bR (m:=[.agg #[bV false,iv 0,iv 0,iv 0],iv j]) [2] (fJ Z Z AJ tq (bu Z bG)) (fun W hW=>⟨Z,hW.low leB⟩)
 ·refine aM (aa (aj (aD (ag KH) Z (aC Z (fun _ _ a c=>ah BG (a.ev Z) (bN c (vs:=[bV p0.Flip,iv p0.Quarters,iv p0.At.X,iv p0.At.Y]) (k:=1) Z 0) Z) (aD (ag Dw) Z (aC Z (fun _ _ a c=>ah bF (a.ev Z) (bN c (vs:=[bV p0.Flip,iv p0.Quarters,iv p0.At.X,iv p0.At.Y]) (k:=1) Z 1) Z) (gV (vs:=[(0,bV p0.Flip),(1,iv p0.Quarters)]) (cs:=[bV p0.Flip,iv p0.Quarters,iv 0,iv 0]) (wn Z) Z (bQ Z (bQ Z dR)) (by kernel_rfl) (Tr.alloc 3 (wn Z) Z Jl fun h=>(bv 3 (cs:=[bV p0.Flip,iv p0.Quarters,iv 0,iv 0]) [bV p0.Flip,iv p0.Quarters,iv 0,iv 0] (wn Z) Z Z Z Z tq Z Z Z (ae (aa ?_)))))))))))
  have i:=Bs.Le.refl w
  refine pz (σ:=Int) (fun w s=>nC N p0 s=some r) (fun s=>[(1,pV f),(2,pV g),(5,pV h)]) (fun s=>[(1,bx f #[bV p0.Flip,iv p0.Quarters,iv p0.At.X,iv p0.At.Y] 83),(2,bx g #[bV false,iv 0,iv 0,iv 0] 83),(3,bx h #[bV p0.Flip,iv s,iv 0,iv 0] 83)]) ?_ ?_
  ·refine aj (aD (ag KH) Z (aC Z (fun _ _ a c=>ah BG (a.ev Z) (bN c (vs:=[bV p0.Flip,iv p0.Quarters,iv p0.At.X,iv p0.At.Y]) (k:=1) Z 0) Z) (aD bT Z (ae (aa (aN Z H (fun H=>?_) (fun H=>?_)))))))
   ·exact aV (aD (ag Dw) Z (aC Z (fun _ _ a c=>ah bF (a.ev Z) (bN c (vs:=[bV p0.Flip,iv p0.Quarters,iv p0.At.X,iv p0.At.Y]) (k:=1) Z 1) Z) (av gH Z Z (aC Z (fun _ _ a c=>Kn (a.ev Z) (a.ev Z) (by decide)) (aD (ag Dw) Z (bv 3 (cs:=[iv (Int.tmod (bP (4-p0.Quarters)) 4)]) [bV p0.Flip,iv (Int.tmod (bP (4-p0.Quarters)) 4),iv 0,iv 0] (wn Z) Z Z Z Z vM Z Z Z (ae (aP i (Int.tmod (bP (4-p0.Quarters)) 4) H (.r Z) (.r Z)))))))))
   ·exact aM (aP i p0.Quarters H (.r Z) (.r Z))
  ·intro w d l hs
   have H:=hs
   replace H:nC N p0 d=some r:=H
   replace leB:=leB.trans l
   unfold nC at H
   show Tr _ _ (LF [(1,pV f),(2,pV g),(5,pV h)]) (LE [(1,bx f #[bV p0.Flip,iv p0.Quarters,iv p0.At.X,iv p0.At.Y] 83),(2,bx g #[bV false,iv 0,iv 0,iv 0] 83),(3,bx h #[bV p0.Flip,iv d,iv 0,iv 0] 83)]) _
   refine aj (aD (ag Dv) Z (aC Z (fun _ _ a c=>aL (cs:=[iv p0.At.X,iv p0.At.Y]) iC eU (a.ev Z) (aI.take (bN c (vs:=[bV p0.Flip,iv p0.Quarters,iv p0.At.X,iv p0.At.Y]) (k:=1) Z 2) 2) Z) (aC Z (fun _ _ a c=>aL (cs:=[bV p0.Flip,iv d,iv 0,iv 0]) AJ tq (a.ev Z) (aI.take (bN c (vs:=[bV p0.Flip,iv d,iv 0,iv 0]) (k:=3) Z 0) 4) Z) ?_)))
   obtain⟨b,p,H⟩:=bnd H
   refine aS (r:=(.agg #[iv b.X,iv b.Y])) (wn Z) Z Tryz.call18 (ak Z (ak Z aH)) (fun W hW=>rz N p0.At (oM.mk p0.Flip d (aK.mk 0 0)) b p (HF.start _)) (Tr.alloc 4 (wn Z) Z vY fun q=>(bv 4 (cs:=[iv b.X,iv b.Y]) [iv b.X,iv b.Y] (wn Z) Z Z Z Z eU Z Z Z (ae (aa (aj (aD (ag fU) Z (aC Z (fun _ _ a c=>ah bF (a.ev Z) (bN c (vs:=[iv b.X,iv b.Y]) (k:=4) Z 0) Z) (aD Bo Z (aD (ag fT) Z (aC Z (fun _ _ a c=>ah bF (a.ev Z) (bN c (vs:=[iv b.X,iv b.Y]) (k:=4) Z 1) Z) (aD Bo Z (gV (vs:=[(0,iv (bP (0-b.X))),(1,iv (bP (0-b.Y)))]) (cs:=[iv (bP (0-b.X)),iv (bP (0-b.Y))]) (wn Z) Z (bQ Z (bQ Z dR)) (by kernel_rfl) (aD (ag Dv) Z (bv 3 (cs:=[iv (bP (0-b.X)),iv (bP (0-b.Y))]) [bV p0.Flip,iv d,iv (bP (0-b.X)),iv (bP (0-b.Y))] (wn Z) Z Z Z Z eU Z Z Z ?_))))))))))))))
   refine ae (aa (aj (aC Z (fun _ _ a c=>aL (cs:=[bV p0.Flip,iv d,iv (bP (0-b.X)),iv (bP (0-b.Y))]) AJ tq (a.ev Z) (aI.take (bN c (vs:=[bV p0.Flip,iv d,iv (bP (0-b.X)),iv (bP (0-b.Y))]) (k:=3) Z 0) 4) Z) (bv 2 (cs:=[bV p0.Flip,iv d,iv (bP (0-b.X)),iv (bP (0-b.Y))]) [bV p0.Flip,iv d,iv (bP (0-b.X)),iv (bP (0-b.Y))] (wn Z) Z Z Z Z tq Z Z Z (Tr.k Z (ae (aa (aJ ?_))))))))
   obtain rfl:=oI H
   exact bR (m:=[.agg #[bV p0.Flip,iv d,iv (bP (0-b.X)),iv (bP (0-b.Y))],iv 0]) [2] (fJ Z Z AJ tq (bu Z bG)) (fun W hW=>⟨Z,hW.low leB⟩)

theorem CR(N:Nat){w:Bs}(p0:dw)(j:Option Addr)(l:Nat)(K:Sl w.R w.W fe j l p0.Kinds)(g:Option Addr)(i:Nat)(A:Sl w.R w.W lG g i p0.Slots)(o:Option Addr)(p:Nat)(L:Sl w.R w.W dP o p p0.Marks)(p1:aK)(r:(Int×aK×Bool×Int))(H:qI N p0 p1=some r)(hE:HF w w.W E0):Calls Tryz.prog 6 [.agg #[iv p0.W,iv p0.H,iv p0.Rail,iv p0.Gap,sL j p0.Kinds l,sL g p0.Slots i,sL o p0.Marks p],.agg #[iv p1.X,iv p1.Y]].toArray w.W fun e W'=>e= .returned (.tuple #[iv r.1,.agg #[iv r.2.1.X,iv r.2.1.Y],bV r.2.2.1,iv r.2.2.2])∧HF w W' E0:=by
 unfold qI at H
 have leB:=Bs.Le.refl w
 refine aX (n:=68) Tryz.func6 Z Z Z hE (aj (dh 1 (cs:=[iv p0.W,iv p0.H,iv p0.Rail,iv p0.Gap,sL j p0.Kinds l,sL g p0.Slots i,sL o p0.Marks p]) (wn Z) Z Z Z fun B=>(dh 2 (cs:=[iv p1.X,iv p1.Y]) (wn Z) Z Z Z fun F=>(Tr.k Z (Tr.alloc 3 (wn Z) Z vY fun G=>(Tr.k Z (Tr.k Z (ae (aa (aj (aC Z (fun _ _ a c=>aL (cs:=[iv p0.W,iv p0.H,iv p0.Rail,iv p0.Gap,sL j p0.Kinds l,sL g p0.Slots i,sL o p0.Marks p]) uJ uI (a.ev Z) (aI.take (bN c (vs:=[iv p0.W,iv p0.H,iv p0.Rail,iv p0.Gap,sL j p0.Kinds l,sL g p0.Slots i,sL o p0.Marks p]) (k:=1) Z 0) 7) Z) ?_)))))))))))
 obtain⟨f,a5,H⟩:=bnd H
 refine kz [4] [emp] (U:=(Option Addr×Nat)) (fun u=>(.tuple #[sL u.1 f.1 u.2,iv f.2])) (fun u=>fQ u.1 f.1.length u.2) (fun u=>[ow u.1 u.2 77 bf f.1]) Z (bn Z bO) (fun _=>Z) (wn Z) Z Tryz.call20 (ak Z aH) (fun W hW hp hE=>zH N p0 j l (K.ext (hW.fM hp)) g i (A.ext (hW.fM hp)) o p (L.ext (hW.fM hp)) f a5 hE) ?_
 intro u hu
 obtain⟨q,t⟩:=u
 have T:=hu
 have M:fQ q f.1.length t:=T --@phi
 dsimp only
 refine aA Z (aC Z (fun _ _ a c=>bX (a.ev Z) Z) (aC Z (fun _ _ a c=>bX (a.ev Z) Z) (Tr.k Z (Tr.k Z (ae (aa (az (aj (aA Z (av dW Z Z (ae (aa (aN Z H (fun H=>?_) (fun H=>?_))))))))))))))
 ·refine aj (gV (vs:=[]) (cs:=[iv 0,iv 0]) (wn Z) Z dR (by kernel_rfl) (aA Z (Tr.k Z (bv 3 (cs:=[iv 0,iv 0]) [iv 0,iv 0] (wn Z) Z Z Z Z eU Z Z Z (Tr.k Z (Tr.k Z (ae (aa (aJ (ai ?_))))))))))
  obtain rfl:=oI H
  exact bR (m:=[iv 0,.agg #[iv 0,iv 0],bV false,iv f.2]) [3] (bu Z (fJ Z Z iC eU (bu Z (bu Z bG)))) (fun W hW=>⟨Z,hW.low leB⟩)
 ·refine aM (aa (az (aj (aC Z (fun _ _ a c=>aL (cs:=[iv p0.W,iv p0.H,iv p0.Rail,iv p0.Gap,sL j p0.Kinds l,sL g p0.Slots i,sL o p0.Marks p]) uJ uI (a.ev Z) (aI.take (bN c (vs:=[iv p0.W,iv p0.H,iv p0.Rail,iv p0.Gap,sL j p0.Kinds l,sL g p0.Slots i,sL o p0.Marks p]) (k:=1) Z 0) 7) Z) (aC Z (fun _ _ a c=>aL (cs:=[iv p1.X,iv p1.Y]) iC eU (a.ev Z) (aI.take (bN c (vs:=[iv p1.X,iv p1.Y]) (k:=2) Z 0) 2) Z) ?_)))))
  obtain⟨V,a6,H⟩:=bnd H
  refine aS (r:=(bV V)) (wn Z) Z Tryz.call21 (ak Z (ak Z aH)) (fun W hW=>vI p0 j l (K.ext hW.aY) g i (A.ext hW.aY) o p (L.ext hW.aY) p1 V a6 (HF.start _)) (aD bT Z (ae (aa (aN Z H (fun H=>?_) (fun H=>?_)))))
  ·refine aj (gV (vs:=[]) (cs:=[iv 0,iv 0]) (wn Z) Z dR (by kernel_rfl) (Tr.k Z (bv 3 (cs:=[iv 0,iv 0]) [iv 0,iv 0] (wn Z) Z Z Z Z eU Z Z Z (Tr.k Z (Tr.k Z (ae (aa (aJ (ai ?_)))))))))
   obtain rfl:=oI H
   exact bR (m:=[iv 0,.agg #[iv 0,iv 0],bV false,iv 1]) [3] (bu Z (fJ Z Z iC eU (bu Z (bu Z bG)))) (fun W hW=>⟨Z,hW.low leB⟩)
  ·refine aM (aa (az (aj (aA Z (aD (bA o8) Z (aA Z (ae (aa (Tr.block (cO (σ:=(List aO)×Nat) (fun m w s=>m=s.1.length+1∧s.1=List.drop s.2 f.1∧s.2≤f.1.length∧jT N p0 p1 s.1 s.2=some r) (fun s=>[(2,pV B),(3,pV F),(5,pV G),(28,sL q f.1 t),(29,iv (f.1.length:Int)),(30,iv (s.2:Int))]) (fun s=>[(1,bx B #[iv p0.W,iv p0.H,iv p0.Rail,iv p0.Gap,sL j p0.Kinds l,sL g p0.Slots i,sL o p0.Marks p] 48),(2,bx F #[iv p1.X,iv p1.Y] 54),(3,bx G #[iv 0,iv 0] 54),(4,ow q t 77 bf f.1)]) (f.1.length+1) (f.1,0) ⟨Z,Z,Nat.zero_le _,H⟩ (.r Z) (.r Z) (fun _ _ h=>absurd h.1 (by simp)) ?_))))))))))
   intro w O m s hs
   obtain⟨v,I⟩:=s
   obtain⟨P,C,b7,H⟩:=hs
   replace C:v=List.drop I f.1:=C
   replace H:jT N p0 p1 v I=some r:=H
   replace P:m+1=v.length+1:=P
   replace K:=K.iR O
   replace A:=A.iR O
   replace L:=L.iR O
   replace leB:=leB.trans O
   obtain rfl:m=v.length:=by omega
   clear P
   dsimp only
   cases v with
   |nil=>
    rw[jT.eq_1] at H
    refine aj (av bi Z Z (ae (aa (az (dn Z (cz C) (bZ (aF (aF (bg (aa (aj (gV (vs:=[]) (cs:=[iv 0,iv 0]) (wn Z) Z dR (by kernel_rfl) (Tr.k Z (bv 3 (cs:=[iv 0,iv 0]) [iv 0,iv 0] (wn Z) Z Z Z Z eU Z Z Z (Tr.k Z (Tr.k Z (ae (aa (aJ ?_)))))))))))))))))))
    obtain rfl:=oI H
    exact bR (m:=[iv 0,.agg #[iv 0,iv 0],bV false,iv 0]) [3] (bu Z (fJ Z Z iC eU (bu Z (bu Z bG)))) (fun W hW=>⟨Z,hW.low leB⟩)
   | cons d v=>
    rw[jT.eq_2] at H
    refine aj (av bi Z Z (ae (aa (az (dm Z (dz C) (aM (aa (az (Tr.block (aj (aA Z (aC Z (fun _ _ a c=>aB sH (a.ev Z) M (a.ev Z) (Int.natCast_nonneg _) (bq C)) (aC Z (fun _ _ a c=>aL (cs:=[iv d.X0,iv d.Y0,iv d.X1,iv d.Y1]) o9 jy (a.ev Z) (aI.take (GY kQ (k:=4) c Z (dA C)) 4) Z) (Tr.alloc 7 (wn Z) Z tQ fun a'=>(Tr.k Z (bv 7 (cs:=[iv d.X0,iv d.Y0,iv d.X1,iv d.Y1]) [iv d.X0,iv d.Y0,iv d.X1,iv d.Y1] (wn Z) Z Z Z Z jy Z Z Z (ae (aa (aj (aD (ag fU) Z (aC Z (fun _ _ a c=>ah bF (a.ev Z) (bN c (vs:=[iv p1.X,iv p1.Y]) (k:=2) Z 0) Z) (aD (ag kU) Z (aC Z (fun _ _ a c=>ah bF (a.ev Z) (bN c (vs:=[iv d.X0,iv d.Y0,iv d.X1,iv d.Y1]) (k:=7) Z 0) Z) ?_)))))))))))))))))))))))
    refine aD (ag pu) Z (aC Z (fun _ _ a c=>ah bF (a.ev Z) (bN c (vs:=[iv d.X0,iv d.Y0,iv d.X1,iv d.Y1]) (k:=7) Z 2) Z) ?_)
    obtain⟨Q,a7,H⟩:=bnd H
    refine aS (r:=(bV Q)) (wn Z) Z Tryz.call22 (ak Z (ak Z (ak Z aH))) (fun W hW=>fI p1.X d.X0 d.X1 Q a7 (HF.start _)) (aA Z ?_)
    obtain⟨a0,J,H⟩:=bnd H
    refine bM 8 [(2,pV B),(3,pV F),(5,pV G),(10,iv (I:Int)),(28,sL q f.1 t),(29,iv (f.1.length:Int)),(30,iv (I:Int)),(50,bV a0)] [(1,bx B #[iv p0.W,iv p0.H,iv p0.Rail,iv p0.Gap,sL j p0.Kinds l,sL g p0.Slots i,sL o p0.Marks p] 48),(2,bx F #[iv p1.X,iv p1.Y] 54),(3,bx G #[iv 0,iv 0] 54),(4,ow q t 77 bf f.1),(7,bx a' #[iv d.X0,iv d.Y0,iv d.X1,iv d.Y1] 77)] ?_ ?_
    ·cases S:Q
     ·rw[S] at J
      rw[if_neg (by decide)] at J
      have H:=J
      obtain rfl:=oI H
      exact aG Z (aG Z (aG Z (aG Z (aG Z (aG Z (aG Z (av aU Z Z (ae (aR (.r Z) (.r Z))))))))))
     ·rw[S] at J
      rw[if_pos Z] at J
      have H:=J
      refine bC (ag fT) Z (Tr.x (fun _ _ a c=>ah bF (a.ev Z) (bN c (vs:=[iv p1.X,iv p1.Y]) (k:=2) Z 1) Z) (bC (ag lW) Z (Tr.x (fun _ _ a c=>ah bF (a.ev Z) (bN c (vs:=[iv d.X0,iv d.Y0,iv d.X1,iv d.Y1]) (k:=7) Z 1) Z) (bC (ag qw) Z (Tr.x (fun _ _ a c=>ah bF (a.ev Z) (bN c (vs:=[iv d.X0,iv d.Y0,iv d.X1,iv d.Y1]) (k:=7) Z 3) Z) ?_)))))
      obtain⟨a1,a8,H⟩:=bnd H
      refine aS (r:=(bV a1)) (wg Z Z Z) Z Tryz.call22 (ak Z (ak Z (ak Z aH))) (fun W hW=>fI p1.Y d.Y0 d.Y1 a1 a8 (HF.start _)) (av aT Z Z ?_)
      obtain rfl:=oI H
      exact ae (aR (.r Z) (.r Z))
    ·show Tr _ _ (LF [(2,pV B),(3,pV F),(5,pV G),(10,iv (I:Int)),(28,sL q f.1 t),(29,iv (f.1.length:Int)),(30,iv (I:Int)),(50,bV a0)]) (LE [(1,bx B #[iv p0.W,iv p0.H,iv p0.Rail,iv p0.Gap,sL j p0.Kinds l,sL g p0.Slots i,sL o p0.Marks p] 48),(2,bx F #[iv p1.X,iv p1.Y] 54),(3,bx G #[iv 0,iv 0] 54),(4,ow q t 77 bf f.1),(7,bx a' #[iv d.X0,iv d.Y0,iv d.X1,iv d.Y1] 77)]) _
     refine ae (aa (aN Z H (fun H=>?_) (fun H=>?_)))
     ·refine az (ui 13 [] [12] (by kernel_rfl) (by kernel_rfl) fun b6 b4 b5=>(bU 0 [(52,.agg #[iv p0.W,iv p0.H,iv p0.Rail,iv p0.Gap,sL j p0.Kinds l,sL g p0.Slots i,sL o p0.Marks p])] (by kernel_rfl) Z Z (by kernel_rfl) ?_ Z Z ?_))
      ·exact bL Z (fun _ _ a c=>aL (cs:=[iv p0.W,iv p0.H,iv p0.Rail,iv p0.Gap,sL j p0.Kinds l,sL g p0.Slots i,sL o p0.Marks p]) uJ uI (a.ev Z) (aI.take (bN c (vs:=[iv p0.W,iv p0.H,iv p0.Rail,iv p0.Gap,sL j p0.Kinds l,sL g p0.Slots i,sL o p0.Marks p]) (k:=1) Z 0) 7) Z) (bK (.r Z))
      refine bU 1 [(53,.pointer (some ⟨B,5,none⟩))] (by kernel_rfl) Z Z (by kernel_rfl) ?_ Z Z ?_
      ·exact dD (ag y8) Z (bK (.r Z))
      refine bU 2 [(54,sL g p0.Slots i)] (by kernel_rfl) Z Z (by kernel_rfl) ?_ Z Z ?_
      ·exact bL Z (fun _ _ a c=>ah Iy (a.ev Z) (bN c (vs:=[iv p0.W,iv p0.H,iv p0.Rail,iv p0.Gap,sL j p0.Kinds l,sL g p0.Slots i,sL o p0.Marks p]) (k:=1) Z 5) Z) (bK (.r Z))
      refine bU 3 [(55,iv (I:Int))] (by kernel_rfl) Z Z (by kernel_rfl) ?_ Z Z ?_
      ·exact dY Z (bK (.r Z))
      obtain⟨D,a9,H⟩:=bnd H
      obtain⟨a2,a3,a4⟩:=bJ a9
      refine bU 4 [(56,.pointer (some ⟨rM g,vJ g+((I:Int)).toNat*4,none⟩))] (by kernel_rfl) Z Z (by kernel_rfl) ?_ Z Z ?_
      ·exact bL Z (fun _ _ a c=>aB Mw (a.ev Z) A.form (a.ev Z) a2 a3) (bK (.r Z))
      refine bU 5 [(57,.agg #[sv D.Board,iv D.Quarters,iv D.At.X,iv D.At.Y])] (by kernel_rfl) Z Z (by kernel_rfl) ?_ Z Z ?_
      ·exact bL Z (fun _ _ a c=>aL (cs:=[sv D.Board,iv D.Quarters,iv D.At.X,iv D.At.Y]) J3 C8 (a.ev Z) (aI.take (pq yn A a4 c) 4) Z) (bK (.r Z))
      obtain⟨y,b0,H⟩:=bnd H
      refine bU 6 [(58,.agg #[bV y.Flip,iv y.Quarters,iv y.At.X,iv y.At.Y])] (by kernel_rfl) Z Z (by kernel_rfl) ?_ Z Z ?_
      ·exact lH (r:=(.agg #[bV y.Flip,iv y.Quarters,iv y.At.X,iv y.At.Y])) (wn Z) Z Tryz.call24 (ak Z (ak Z aH)) (fun W hW=>xz p0 j l (K.ext hW.aY) g i (A.ext hW.aY) o p (L.ext hW.aY) D y b0 (HF.start _)) (bK (.r Z))
      obtain⟨b,b1,H⟩:=bnd H
      refine bU 7 [(59,(.tuple #[.agg #[bV b.1.Flip,iv b.1.Quarters,iv b.1.At.X,iv b.1.At.Y],iv b.2]))] (by kernel_rfl) Z Z (by kernel_rfl) ?_ Z Z ?_
      ·exact lH (r:=(.tuple #[.agg #[bV b.1.Flip,iv b.1.Quarters,iv b.1.At.X,iv b.1.At.Y],iv b.2])) (wn Z) Z Tryz.call23 (ak Z aH) (fun W hW=>F6 N y b b1 (HF.start _)) (bK (.r Z))
      refine bU 8 [(51,(.tuple #[.agg #[bV b.1.Flip,iv b.1.Quarters,iv b.1.At.X,iv b.1.At.Y],iv b.2]))] (by kernel_rfl) Z Z (by kernel_rfl) ?_ Z Z ?_
      ·exact dY Z (bK (.r Z))
      refine bU 9 [(60,.agg #[bV b.1.Flip,iv b.1.Quarters,iv b.1.At.X,iv b.1.At.Y])] (by kernel_rfl) Z Z (by kernel_rfl) ?_ Z Z ?_
      ·exact bL Z (fun _ _ a c=>bX (a.ev Z) Z) (bK (.r Z))
      refine jk 10 (by kernel_rfl) Z (wn Z) Z (by kernel_rfl) (fun _ _ a=>bX (a.ev Z) Z) Z (Dr.one 11 (by kernel_rfl) (St.alloc 11 8 Z (wn Z) Z Jl fun b8 b2=>(Dr.one 12 (by kernel_rfl) (AR 12 8 (cs:=[bV b.1.Flip,iv b.1.Quarters,iv b.1.At.X,iv b.1.At.Y]) [bV b.1.Flip,iv b.1.Quarters,iv b.1.At.X,iv b.1.At.Y] Z (wn Z) (.inr ⟨by simp,b2⟩) Z Z Z Z tq Z Z Z (vT (by kernel_rfl) (Tr.k Z (ae (aa (aj (aA Z (aC Z (fun _ _ a c=>aL (cs:=[iv p1.X,iv p1.Y]) iC eU (a.ev Z) (aI.take (bN c (vs:=[iv p1.X,iv p1.Y]) (k:=2) Z 0) 2) Z) ?_)))))))))))
      refine aC Z (fun _ _ a c=>aL (cs:=[bV b.1.Flip,iv b.1.Quarters,iv b.1.At.X,iv b.1.At.Y]) AJ tq (a.ev Z) (aI.take (bN c (vs:=[bV b.1.Flip,iv b.1.Quarters,iv b.1.At.X,iv b.1.At.Y]) (k:=8) Z 0) 4) Z) ?_
      obtain⟨E,b3,H⟩:=bnd H
      refine aS (r:=(.agg #[iv E.X,iv E.Y])) (wn Z) Z Tryz.call18 (ak Z (ak Z aH)) (fun W hW=>rz N p1 b.1 E b3 (HF.start _)) (Tr.k Z (bv 3 (cs:=[iv E.X,iv E.Y]) [iv E.X,iv E.Y] (wn Z) Z Z Z Z eU Z Z Z (Tr.k Z (Tr.k Z (ae (aa (aJ (au (ai (ai (au (ai ?_))))))))))))
      obtain rfl:=oI H
      exact bR (m:=[iv (I:Int),.agg #[iv E.X,iv E.Y],bV true,iv 0]) [3] (bu Z (fJ Z Z iC eU (bu Z (bu Z bG)))) (fun W hW=>⟨Z,hW.low leB⟩)
     ·exact aM (aQ (aa (aV (av bE Z Z (aA Z (ae (aP O (v,(I+1)) ⟨Z,df C,bq C,H⟩ (.cons Z (.cons Z (.cons Z (.cons Z (.cons Z (.cons (congrArg (fun z=>some (Value.int .i64 z)) (cZ C M)) .nil)))))) (.r Z))))))))

theorem sZ(N :Nat){w:Bs}(hT:Nj Tryz.prog w)(p0:lU)(M:Option Addr)(P:Nat)(h2:Sl w.R w.W iB M P p0.Types)(Q:Option Addr)(S:Nat)(h3:Sl w.R w.W mH Q S p0.List_.Parts)(T:Option Addr)(V:Nat)(h4:Sl w.R w.W rH T V p0.List_.Nets)(a':Option Addr)(a0:Nat)(h5:Sl w.R w.W iZ a' a0 p0.Materials)(a1:Option Addr)(a2:Nat)(h6:Sl w.R w.W ou a1 a2 p0.Stack)(a3:Option Addr)(a4:Nat)(h7:Sl w.R w.W sF a3 a4 p0.Plots)(a5:Option Addr)(a6:Nat)(h8:Sl w.O w.W cB a5 a6 p0.Outline.Tools)(a7:Option Addr)(a8:Nat)(h9:Sl w.O w.W bH a7 a8 p0.Outline.Steps)(o:Option Addr)(p:Nat)(c4:Sl w.R w.W eZ o p p0.Bores)(a9:Option Addr)(b0:Nat)(i0:Sl w.R w.W oL a9 b0 p0.Bodies)(q:Option Addr)(t:Nat)(e5:Sl w.R w.W pK q t p0.Places)(v:Option Addr)(y:Nat)(e6:Sl w.R w.W sG v y p0.Feet)(A:Option Addr)(B:Nat)(e7:Sl w.R w.W jX A B p0.Rules.Classes)(C:Option Addr)(D:Nat)(e8:Sl w.R w.W kV C D p0.Rules.Areas)(p1:dw)(F:Option Addr)(G:Nat)(c8:Sl w.R w.W fe F G p1.Kinds)(i:Option Addr)(j:Nat)(b5:Sl w.R w.W lG i j p1.Slots)(I:Option Addr)(J:Nat)(c9:Sl w.R w.W dP I J p1.Marks)(p2:ByteArray)(r:Bool)(H:iX N p0 p1 p2=some r)(hE:HF w w.W E0):Calls Tryz.prog 3 [.agg #[sL M p0.Types P,sL Q p0.List_.Parts S,sL T p0.List_.Nets V,sL a' p0.Materials a0,sL a1 p0.Stack a2,sL a3 p0.Plots a4,iv p0.Outline.Unit,sL a5 p0.Outline.Tools a6,sL a7 p0.Outline.Steps a8,sL o p0.Bores p,sL a9 p0.Bodies b0,sL q p0.Places t,sL v p0.Feet y,iv p0.Rules.Clearance,iv p0.Rules.Width,iv p0.Rules.Ring,iv p0.Rules.Edge,iv p0.Rules.HoleGap,sL A p0.Rules.Classes B,sL C p0.Rules.Areas D],.agg #[iv p1.W,iv p1.H,iv p1.Rail,iv p1.Gap,sL F p1.Kinds G,sL i p1.Slots j,sL I p1.Marks J],sv p2].toArray w.W fun e W'=>e= .returned (bV r)∧HF w W' E0:=by
 unfold iX at H
 have leB:=Bs.Le.refl w
 refine aX (n:=143) Tryz.func3 Z Z Z hE (aj (dh 1 (cs:=[sL M p0.Types P,sL Q p0.List_.Parts S,sL T p0.List_.Nets V,sL a' p0.Materials a0,sL a1 p0.Stack a2,sL a3 p0.Plots a4,iv p0.Outline.Unit,sL a5 p0.Outline.Tools a6,sL a7 p0.Outline.Steps a8,sL o p0.Bores p,sL a9 p0.Bodies b0,sL q p0.Places t,sL v p0.Feet y,iv p0.Rules.Clearance,iv p0.Rules.Width,iv p0.Rules.Ring,iv p0.Rules.Edge,iv p0.Rules.HoleGap,sL A p0.Rules.Classes B,sL C p0.Rules.Areas D]) (wn Z) Z Z Z fun K=>(dh 2 (cs:=[iv p1.W,iv p1.H,iv p1.Rail,iv p1.Gap,sL F p1.Kinds G,sL i p1.Slots j,sL I p1.Marks J]) (wn Z) Z Z Z fun L=>(Tr.k Z (ae (aa (aj (aC Z (fun _ _ a c=>aL (cs:=[sL M p0.Types P,sL Q p0.List_.Parts S,sL T p0.List_.Nets V,sL a' p0.Materials a0,sL a1 p0.Stack a2,sL a3 p0.Plots a4,iv p0.Outline.Unit,sL a5 p0.Outline.Tools a6,sL a7 p0.Outline.Steps a8,sL o p0.Bores p,sL a9 p0.Bodies b0,sL q p0.Places t,sL v p0.Feet y,iv p0.Rules.Clearance,iv p0.Rules.Width,iv p0.Rules.Ring,iv p0.Rules.Edge,iv p0.Rules.HoleGap,sL A p0.Rules.Classes B,sL C p0.Rules.Areas D]) PE Ox (a.ev Z) (aI.take (bN c (vs:=[sL M p0.Types P,sL Q p0.List_.Parts S,sL T p0.List_.Nets V,sL a' p0.Materials a0,sL a1 p0.Stack a2,sL a3 p0.Plots a4,iv p0.Outline.Unit,sL a5 p0.Outline.Tools a6,sL a7 p0.Outline.Steps a8,sL o p0.Bores p,sL a9 p0.Bodies b0,sL q p0.Places t,sL v p0.Feet y,iv p0.Rules.Clearance,iv p0.Rules.Width,iv p0.Rules.Ring,iv p0.Rules.Edge,iv p0.Rules.HoleGap,sL A p0.Rules.Classes B,sL C p0.Rules.Areas D]) (k:=1) Z 0) 20) Z) (aC Z (fun _ _ a c=>aL (cs:=[iv p1.W,iv p1.H,iv p1.Rail,iv p1.Gap,sL F p1.Kinds G,sL i p1.Slots j,sL I p1.Marks J]) uJ uI (a.ev Z) (aI.take (bN c (vs:=[iv p1.W,iv p1.H,iv p1.Rail,iv p1.Gap,sL F p1.Kinds G,sL i p1.Slots j,sL I p1.Marks J]) (k:=2) Z 0) 7) Z) (aA Z ?_))))))))))
 obtain⟨l,i1,H⟩:=bnd H
 refine kz [3] [emp] (U:=(Option Addr×Nat)) (fun u=>(.tuple #[sL u.1 l.1 u.2,sv l.2.1,iv l.2.2])) (fun u=>fQ u.1 l.1.length u.2) (fun u=>[ow u.1 u.2 58 eZ l.1]) Z (bn Z bO) (fun _=>Z) (wn Z) Z Tryz.call4 (ak Z (ak Z (ak Z aH))) (fun W hW hp hE=>CU N (hT.ext (hW.fM hp)) p0 M P (h2.ext (hW.fM hp)) Q S (h3.ext (hW.fM hp)) T V (h4.ext (hW.fM hp)) a' a0 (h5.ext (hW.fM hp)) a1 a2 (h6.ext (hW.fM hp)) a3 a4 (h7.ext (hW.fM hp)) a5 a6 (h8.uF (hW.fM hp)) a7 a8 (h9.uF (hW.fM hp)) o p (c4.ext (hW.fM hp)) a9 b0 (i0.ext (hW.fM hp)) q t (e5.ext (hW.fM hp)) v y (e6.ext (hW.fM hp)) A B (e7.ext (hW.fM hp)) C D (e8.ext (hW.fM hp)) p1 F G (c8.ext (hW.fM hp)) i j (b5.ext (hW.fM hp)) I J (c9.ext (hW.fM hp)) p2 l i1 hE) ?_
 intro u hu
 obtain⟨f,g⟩:=u
 have e4:=hu
 have c0:fQ f l.1.length g:=e4 --@phi
 dsimp only
 refine aA Z (aC Z (fun _ _ a c=>bX (a.ev Z) Z) (aC Z (fun _ _ a c=>bX (a.ev Z) Z) (aC Z (fun _ _ a c=>bX (a.ev Z) Z) (Tr.k Z (Tr.k Z (Tr.k Z (ae (aa (az (aj (aA Z (av dW Z Z (ae (aa (aN Z H (fun H=>?_) (fun H=>?_))))))))))))))))
 ·refine aj (aA Z (aD (bA BQ) Z (av dM Z Z (aA Z ?_))))
  obtain⟨e9,d0,H⟩:=bnd H
  refine bM 2 [(34,bV e9)] [(1,bx K #[sL M p0.Types P,sL Q p0.List_.Parts S,sL T p0.List_.Nets V,sL a' p0.Materials a0,sL a1 p0.Stack a2,sL a3 p0.Plots a4,iv p0.Outline.Unit,sL a5 p0.Outline.Tools a6,sL a7 p0.Outline.Steps a8,sL o p0.Bores p,sL a9 p0.Bodies b0,sL q p0.Places t,sL v p0.Feet y,iv p0.Rules.Clearance,iv p0.Rules.Width,iv p0.Rules.Ring,iv p0.Rules.Edge,iv p0.Rules.HoleGap,sL A p0.Rules.Classes B,sL C p0.Rules.Areas D] 43),(2,bx L #[iv p1.W,iv p1.H,iv p1.Rail,iv p1.Gap,sL F p1.Kinds G,sL i p1.Slots j,sL I p1.Marks J] 48),(3,ow f g 58 eZ l.1)] ?_ ?_
  ·cases e0:((l.1.length:Int)==0)
   ·rw[e0] at d0
    rw[if_neg (by decide)] at d0
    have H:=d0
    obtain rfl:=oI H
    exact aG Z (av aU Z Z (ae (aR (.r Z) (.r Z))))
   ·rw[e0] at d0
    rw[if_pos Z] at d0
    have H:=d0
    obtain⟨f1,i2,H⟩:=bnd H
    refine aS (r:=(bV f1)) (wg Z Z Z) Z Tryz.call5 aH (fun W hW=>tK N f1 i2 (HF.start _)) (av aT Z Z ?_)
    obtain rfl:=oI H
    exact ae (aR (.r Z) (.r Z))
  ·show Tr _ _ (LF [(34,bV e9)]) (LE [(1,bx K #[sL M p0.Types P,sL Q p0.List_.Parts S,sL T p0.List_.Nets V,sL a' p0.Materials a0,sL a1 p0.Stack a2,sL a3 p0.Plots a4,iv p0.Outline.Unit,sL a5 p0.Outline.Tools a6,sL a7 p0.Outline.Steps a8,sL o p0.Bores p,sL a9 p0.Bodies b0,sL q p0.Places t,sL v p0.Feet y,iv p0.Rules.Clearance,iv p0.Rules.Width,iv p0.Rules.Ring,iv p0.Rules.Edge,iv p0.Rules.HoleGap,sL A p0.Rules.Classes B,sL C p0.Rules.Areas D] 43),(2,bx L #[iv p1.W,iv p1.H,iv p1.Rail,iv p1.Gap,sL F p1.Kinds G,sL i p1.Slots j,sL I p1.Marks J] 48),(3,ow f g 58 eZ l.1)]) _
   refine Tr.k Z (ae (aa (aJ (ai ?_))))
   obtain rfl:=oI H
   exact bD leB
 ·refine aM (aa (aj (Tr.k Z (ae (aa (az (aj (aD (ag y8) Z (aC Z (fun _ _ a c=>ah Iy (a.ev Z) (bN c (vs:=[iv p1.W,iv p1.H,iv p1.Rail,iv p1.Gap,sL F p1.Kinds G,sL i p1.Slots j,sL I p1.Marks J]) (k:=2) Z 5) Z) (aD (bA Lf) Z (aA Z (ae (aa (Tr.block (cO (σ:=(List jH)×Nat×Int) (fun m w s=>m=s.1.length+1∧s.1=List.drop s.2.1 p1.Slots∧s.2.1≤p1.Slots.length∧bS N p0 p1 p2 l s.1 s.2.1 s.2.2=some r) (fun s=>[(2,sv p2),(3,pV K),(4,pV L),(7,sL f l.1 g),(10,iv s.2.2),(36,sL i p1.Slots j),(37,iv (p1.Slots.length:Int)),(38,iv (s.2.1:Int))]) (fun s=>[(1,bx K #[sL M p0.Types P,sL Q p0.List_.Parts S,sL T p0.List_.Nets V,sL a' p0.Materials a0,sL a1 p0.Stack a2,sL a3 p0.Plots a4,iv p0.Outline.Unit,sL a5 p0.Outline.Tools a6,sL a7 p0.Outline.Steps a8,sL o p0.Bores p,sL a9 p0.Bodies b0,sL q p0.Places t,sL v p0.Feet y,iv p0.Rules.Clearance,iv p0.Rules.Width,iv p0.Rules.Ring,iv p0.Rules.Edge,iv p0.Rules.HoleGap,sL A p0.Rules.Classes B,sL C p0.Rules.Areas D] 43),(2,bx L #[iv p1.W,iv p1.H,iv p1.Rail,iv p1.Gap,sL F p1.Kinds G,sL i p1.Slots j,sL I p1.Marks J] 48),(3,ow f g 58 eZ l.1)]) (p1.Slots.length+1) (p1.Slots,0,0) ⟨Z,Z,Nat.zero_le _,H⟩ (.r Z) (.r Z) (fun _ _ h=>absurd h.1 (by simp)) ?_)))))))))))))))
  intro w c5 m s hs
  obtain⟨b4,E,d6⟩:=s
  obtain⟨d8,b6,j5,H⟩:=hs
  replace b6:b4=List.drop E p1.Slots:=b6
  replace H:bS N p0 p1 p2 l b4 E d6=some r:=H
  replace d8:m+1=b4.length+1:=d8
  replace hT:=hT.ext c5.ext
  replace c4:=c4.iR c5
  replace c8:=c8.iR c5
  replace b5:=b5.iR c5
  replace c9:=c9.iR c5
  replace leB:=leB.trans c5
  obtain rfl:m=b4.length:=by omega
  clear d8
  dsimp only
  cases b4 with
  | nil=>
   rw[bS.eq_1] at H
   refine aj (av bi Z Z (ae (aa (az (dn Z (cz b6) (bZ (aF (aF (bg (aa (aj (aA Z (aA Z (aD (bA BQ) Z (av dM Z Z (aA Z ?_))))))))))))))))
   obtain⟨f2,d1,H⟩:=bnd H
   refine bM 2 [(142,bV f2)] [(1,bx K #[sL M p0.Types P,sL Q p0.List_.Parts S,sL T p0.List_.Nets V,sL a' p0.Materials a0,sL a1 p0.Stack a2,sL a3 p0.Plots a4,iv p0.Outline.Unit,sL a5 p0.Outline.Tools a6,sL a7 p0.Outline.Steps a8,sL o p0.Bores p,sL a9 p0.Bodies b0,sL q p0.Places t,sL v p0.Feet y,iv p0.Rules.Clearance,iv p0.Rules.Width,iv p0.Rules.Ring,iv p0.Rules.Edge,iv p0.Rules.HoleGap,sL A p0.Rules.Classes B,sL C p0.Rules.Areas D] 43),(2,bx L #[iv p1.W,iv p1.H,iv p1.Rail,iv p1.Gap,sL F p1.Kinds G,sL i p1.Slots j,sL I p1.Marks J] 48),(3,ow f g 58 eZ l.1)] ?_ ?_
   ·cases e3:(d6==(l.1.length:Int))
    ·rw[e3] at d1
     rw[if_neg (by decide)] at d1
     have H:=d1
     obtain rfl:=oI H
     exact aG Z (av aU Z Z (ae (aR (.r Z) (.r Z))))
    ·rw[e3] at d1
     rw[if_pos Z] at d1
     have H:=d1
     obtain⟨f3,i3,H⟩:=bnd H
     refine aS (r:=(bV f3)) (wg Z Z Z) Z Tryz.call5 aH (fun W hW=>tK N f3 i3 (HF.start _)) (av aT Z Z ?_)
     obtain rfl:=oI H
     exact ae (aR (.r Z) (.r Z))
   ·show Tr _ _ (LF [(142,bV f2)]) (LE [(1,bx K #[sL M p0.Types P,sL Q p0.List_.Parts S,sL T p0.List_.Nets V,sL a' p0.Materials a0,sL a1 p0.Stack a2,sL a3 p0.Plots a4,iv p0.Outline.Unit,sL a5 p0.Outline.Tools a6,sL a7 p0.Outline.Steps a8,sL o p0.Bores p,sL a9 p0.Bodies b0,sL q p0.Places t,sL v p0.Feet y,iv p0.Rules.Clearance,iv p0.Rules.Width,iv p0.Rules.Ring,iv p0.Rules.Edge,iv p0.Rules.HoleGap,sL A p0.Rules.Classes B,sL C p0.Rules.Areas D] 43),(2,bx L #[iv p1.W,iv p1.H,iv p1.Rail,iv p1.Gap,sL F p1.Kinds G,sL i p1.Slots j,sL I p1.Marks J] 48),(3,ow f g 58 eZ l.1)]) _
    refine Tr.k Z (ae (aa (aJ ?_)))
    obtain rfl:=oI H
    exact bD leB
  | cons b8 b4 =>
   rw[bS.eq_2] at H
   refine aj (av bi Z Z (ae (aa (az (dm Z (dz b6) (aM (aa (az (Tr.block (aj (aA Z (aC Z (fun _ _ a c=>aB Mw (a.ev Z) b5.form (a.ev Z) (Int.natCast_nonneg _) (bq b6)) (aC Z (fun _ _ a c=>aL (cs:=[sv b8.Board,iv b8.Quarters,iv b8.At.X,iv b8.At.Y]) J3 C8 (a.ev Z) (aI.take (pq yn b5 (dA b6) c) 4) Z) (Tr.alloc 18 (wn Z) Z Qv fun j6=>(Tr.k Z (bv 18 (cs:=[sv b8.Board,iv b8.Quarters,iv b8.At.X,iv b8.At.Y]) [sv b8.Board,iv b8.Quarters,iv b8.At.X,iv b8.At.Y] (wn Z) Z Z Z Z C8 Z Z Z (ae (aa (az (aj (aD (ag Dy) Z (aC Z (fun _ _ a c=>ah jD (a.ev Z) (bN c (vs:=[sv b8.Board,iv b8.Quarters,iv b8.At.X,iv b8.At.Y]) (k:=18) Z 0) Z) (aA Z (av zY Z Z (ae (aa (aN Z H (fun H=>?_) (fun H=>?_))))))))))))))))))))))))))))
   ·exact bZ (aF (bg (aa (aV (av bE Z Z (aA Z (ae (aP c5 (b4,(E+1),d6) ⟨Z,df b6,bq b6,H⟩ (.cons Z (.cons Z (.cons Z (.cons Z (.cons Z (.cons Z (.cons Z (.cons (congrArg (fun z=>some (Value.int .i64 z)) (cZ b6 b5.form)) .nil)))))))) (.r Z)))))))))
   ·refine aM (aa (aj (aD (ag DI) Z (aC Z (fun _ _ a c=>ah MV (a.ev Z) (bN c (vs:=[sL M p0.Types P,sL Q p0.List_.Parts S,sL T p0.List_.Nets V,sL a' p0.Materials a0,sL a1 p0.Stack a2,sL a3 p0.Plots a4,iv p0.Outline.Unit,sL a5 p0.Outline.Tools a6,sL a7 p0.Outline.Steps a8,sL o p0.Bores p,sL a9 p0.Bodies b0,sL q p0.Places t,sL v p0.Feet y,iv p0.Rules.Clearance,iv p0.Rules.Width,iv p0.Rules.Ring,iv p0.Rules.Edge,iv p0.Rules.HoleGap,sL A p0.Rules.Classes B,sL C p0.Rules.Areas D]) (k:=1) Z 9) Z) (aD (bA BQ) Z (aA Z (ae (aa (Tr.block (cO (σ:=(List fq)×Nat×Int) (fun m w s=>m=s.1.length+1∧s.1=List.drop s.2.1 p0.Bores∧s.2.1≤p0.Bores.length∧dF N p1 l (bS N p0 p1 p2 l b4 (E+1)) E s.1 s.2.1 s.2.2=some r) (fun s=>[(2,sv p2),(3,pV K),(4,pV L),(7,sL f l.1 g),(10,iv s.2.2),(11,iv (E:Int)),(36,sL i p1.Slots j),(37,iv (p1.Slots.length:Int)),(38,iv (E:Int)),(48,sL o p0.Bores p),(49,iv (p0.Bores.length:Int)),(50,iv (s.2.1:Int))]) (fun s=>[(1,bx K #[sL M p0.Types P,sL Q p0.List_.Parts S,sL T p0.List_.Nets V,sL a' p0.Materials a0,sL a1 p0.Stack a2,sL a3 p0.Plots a4,iv p0.Outline.Unit,sL a5 p0.Outline.Tools a6,sL a7 p0.Outline.Steps a8,sL o p0.Bores p,sL a9 p0.Bodies b0,sL q p0.Places t,sL v p0.Feet y,iv p0.Rules.Clearance,iv p0.Rules.Width,iv p0.Rules.Ring,iv p0.Rules.Edge,iv p0.Rules.HoleGap,sL A p0.Rules.Classes B,sL C p0.Rules.Areas D] 43),(2,bx L #[iv p1.W,iv p1.H,iv p1.Rail,iv p1.Gap,sL F p1.Kinds G,sL i p1.Slots j,sL I p1.Marks J] 48),(3,ow f g 58 eZ l.1)]) (p0.Bores.length+1) (p0.Bores,0,d6) ⟨Z,Z,Nat.zero_le _,H⟩ (.r Z) (.r Z) (fun _ _ h=>absurd h.1 (by simp)) ?_))))))))))
    intro w c7 m s hs
    obtain⟨c3,b9,b1⟩:=s
    obtain⟨d9,c6,j7,H⟩:=hs
    replace c6:c3=List.drop b9 p0.Bores:=c6
    replace H:dF N p1 l (bS N p0 p1 p2 l b4 (E+1)) E c3 b9 b1=some r:=H
    replace d9:m+1=c3.length+1:=d9
    replace hT:=hT.ext c7.ext
    replace c4:=c4.iR c7
    replace c8:=c8.iR c7
    replace b5:=b5.iR c7
    replace c9:=c9.iR c7
    replace leB:=leB.trans c7
    replace c5:=c5.trans c7
    obtain rfl:m=c3.length:=by omega
    clear d9
    dsimp only
    cases c3 with
    |nil=>
     rw[dF.eq_1] at H
     exact aj (av bi Z Z (ae (aa (az (dn Z (cz c6) (bZ (aF (aF (bg (aQ (aa (aV (av bE Z Z (aA Z (ae (aP c5 (b4,(E+1),b1) ⟨Z,df b6,bq b6,H⟩ (.cons Z (.cons Z (.cons Z (.cons Z (.cons Z (.cons Z (.cons Z (.cons (congrArg (fun z=>some (Value.int .i64 z)) (cZ b6 b5.form)) .nil)))))))) (.r Z)))))))))))))))))
    | cons d c3=>
     rw[dF.eq_2] at H
     refine aj (av bi Z Z (ae (aa (az (dm Z (dz c6) (aM (aa (az (Tr.block (aj (aC Z (fun _ _ a c=>aB FO (a.ev Z) c4.form (a.ev Z) (Int.natCast_nonneg _) (bq c6)) (aC Z (fun _ _ a c=>aL (cs:=[iv d.At.X,iv d.At.Y,iv d.Size,iv d.From,iv d.To,bV d.Plated]) PD Gw (a.ev Z) (aI.take (pq uh c4 (dA c6) c) 6) Z) (Tr.alloc 23 (wn Z) Z Vg fun b3=>(bv 23 (cs:=[iv d.At.X,iv d.At.Y,iv d.Size,iv d.From,iv d.To,bV d.Plated]) [iv d.At.X,iv d.At.Y,iv d.Size,iv d.From,iv d.To,bV d.Plated] (wn Z) Z Z Z Z Gw Z Z Z (ae (aa (az (az (fZ (by kernel_rfl) (by kernel_rfl) (dY Z (dY Z (dD (bA BQ) Z (dL kG Z Z (dY Z ?_))))))))))))))))))))))))
     obtain⟨f4,d2,H⟩:=bnd H
     refine mi 9 [(2,sv p2),(3,pV K),(4,pV L),(7,sL f l.1 g),(10,iv b1),(11,iv (E:Int)),(14,pV b3),(36,sL i p1.Slots j),(37,iv (p1.Slots.length:Int)),(38,iv (E:Int)),(48,sL o p0.Bores p),(49,iv (p0.Bores.length:Int)),(50,iv (b9:Int)),(67,bV f4)] ?_ ?_
     ·cases b2:(decide ((l.1.length:Int)≤b1))
      ·rw[b2] at d2
       rw[if_neg (by decide)] at d2
       have H:=d2
       refine dJ run_move Z (dJ run_move Z ?_)
       obtain⟨j8,i4,H⟩:=bnd H
       obtain⟨f5,f6,f7⟩:=bJ i4
       refine Tq.x (fun _ _ a c=>aB FO (a.ev Z) c0 (a.ev Z) f5 f6) (dJ (ag O6) Z (Tq.x (fun _ _ a c=>ah bF (a.ev Z) (aI.drop (GY uh (k:=3) c Z f7) 2) Z) (dJ (ag O6) Z (Tq.x (fun _ _ a c=>ah bF (a.ev Z) (bN c (vs:=[iv d.At.X,iv d.At.Y,iv d.Size,iv d.From,iv d.To,bV d.Plated]) (k:=23) Z 2) Z) (lg dW Z Z (dL aU Z Z ?_))))))
       obtain rfl:=oI H
       exact bK (.r Z)
      ·rw[b2] at d2
       rw[if_pos Z] at d2
       have H:=d2
       obtain rfl:=oI H
       exact bB Z (bB Z (bB Z (bB Z (bB Z (bB Z (bB Z (bB Z (dL aT Z Z (bK (.r Z))))))))))
     ·refine dY Z ?_
      obtain⟨f8,d3,H⟩:=bnd H
      refine mi 9 [(2,sv p2),(3,pV K),(4,pV L),(7,sL f l.1 g),(10,iv b1),(11,iv (E:Int)),(14,pV b3),(36,sL i p1.Slots j),(37,iv (p1.Slots.length:Int)),(38,iv (E:Int)),(48,sL o p0.Bores p),(49,iv (p0.Bores.length:Int)),(50,iv (b9:Int)),(77,bV f8)] ?_ ?_
      ·cases b2:f4
       ·rw[b2] at d3
        rw[if_neg (by decide)] at d3
        have H:=d3
        refine dJ run_move Z (dJ run_move Z ?_)
        obtain⟨j9,i5,H⟩:=bnd H
        obtain⟨f9,g0,g1⟩:=bJ i5
        refine Tq.x (fun _ _ a c=>aB FO (a.ev Z) c0 (a.ev Z) f9 g0) (dJ (ag O5) Z (Tq.x (fun _ _ a c=>ah bF (a.ev Z) (aI.drop (GY uh (k:=3) c Z g1) 3) Z) (dJ (ag O5) Z (Tq.x (fun _ _ a c=>ah bF (a.ev Z) (bN c (vs:=[iv d.At.X,iv d.At.Y,iv d.Size,iv d.From,iv d.To,bV d.Plated]) (k:=23) Z 3) Z) (lg dW Z Z (dL aU Z Z ?_))))))
        obtain rfl:=oI H
        exact bK (.r Z)
       ·rw[b2] at d3
        rw[if_pos Z] at d3
        have H:=d3
        obtain rfl:=oI H
        exact bB Z (bB Z (bB Z (bB Z (bB Z (bB Z (bB Z (bB Z (dL aT Z Z (bK (.r Z))))))))))
      ·refine dY Z ?_
       obtain⟨g2,d4,H⟩:=bnd H
       refine mi 9 [(2,sv p2),(3,pV K),(4,pV L),(7,sL f l.1 g),(10,iv b1),(11,iv (E:Int)),(14,pV b3),(36,sL i p1.Slots j),(37,iv (p1.Slots.length:Int)),(38,iv (E:Int)),(48,sL o p0.Bores p),(49,iv (p0.Bores.length:Int)),(50,iv (b9:Int)),(87,bV g2)] ?_ ?_
       ·cases b2:f8
        ·rw[b2] at d4
         rw[if_neg (by decide)] at d4
         have H:=d4
         refine dJ run_move Z (dJ run_move Z ?_)
         obtain⟨k0,i6,H⟩:=bnd H
         obtain⟨g3,g4,g5⟩:=bJ i6
         refine Tq.x (fun _ _ a c=>aB FO (a.ev Z) c0 (a.ev Z) g3 g4) (dJ (ag O4) Z (Tq.x (fun _ _ a c=>ah bF (a.ev Z) (aI.drop (GY uh (k:=3) c Z g5) 4) Z) (dJ (ag O4) Z (Tq.x (fun _ _ a c=>ah bF (a.ev Z) (bN c (vs:=[iv d.At.X,iv d.At.Y,iv d.Size,iv d.From,iv d.To,bV d.Plated]) (k:=23) Z 4) Z) (lg dW Z Z (dL aU Z Z ?_))))))
         obtain rfl:=oI H
         exact bK (.r Z)
        ·rw[b2] at d4
         rw[if_pos Z] at d4
         have H:=d4
         obtain rfl:=oI H
         exact bB Z (bB Z (bB Z (bB Z (bB Z (bB Z (bB Z (bB Z (dL aT Z Z (bK (.r Z))))))))))
       ·refine dY Z ?_
        obtain⟨j1,d5,H⟩:=bnd H
        refine mi 9 [(2,sv p2),(3,pV K),(4,pV L),(7,sL f l.1 g),(10,iv b1),(11,iv (E:Int)),(14,pV b3),(36,sL i p1.Slots j),(37,iv (p1.Slots.length:Int)),(38,iv (E:Int)),(48,sL o p0.Bores p),(49,iv (p0.Bores.length:Int)),(50,iv (b9:Int)),(97,bV j1)] ?_ ?_
        ·cases b2:g2
         ·rw[b2] at d5
          rw[if_neg (by decide)] at d5
          have H:=d5
          refine dJ run_move Z (dJ run_move Z ?_)
          obtain⟨k1,i7,H⟩:=bnd H
          obtain⟨g6,g7,g8⟩:=bJ i7
          refine Tq.x (fun _ _ a c=>aB FO (a.ev Z) c0 (a.ev Z) g6 g7) (dJ (ag O3) Z (Tq.x (fun _ _ a c=>ah BG (a.ev Z) (aI.drop (GY uh (k:=3) c Z g8) 5) Z) (dJ (ag O3) Z (Tq.x (fun _ _ a c=>ah BG (a.ev Z) (bN c (vs:=[iv d.At.X,iv d.At.Y,iv d.Size,iv d.From,iv d.To,bV d.Plated]) (k:=23) Z 5) Z) (lg (LA VZ) Z Z (dL aU Z Z ?_))))))
          obtain rfl:=oI H
          exact bK (.r Z)
         ·rw[b2] at d5
          rw[if_pos Z] at d5
          have H:=d5
          obtain rfl:=oI H
          exact bB Z (bB Z (bB Z (bB Z (bB Z (bB Z (bB Z (bB Z (dL aT Z Z (bK (.r Z))))))))))
        ·refine gz (aa (aN Z H (fun H=>?_) (fun H=>?_)))
         ·refine aj (Tr.k Z (ae (aa (aJ (ai (au (ai (ai (au (au (ai (ai (au (ai ?_))))))))))))))
          obtain rfl:=oI H
          exact bD leB
         ·refine aM (aa (az (ui 16 [] [14] (by kernel_rfl) (by kernel_rfl) fun j4 j2 j3=>(bU 0 [(99,.agg #[iv p1.W,iv p1.H,iv p1.Rail,iv p1.Gap,sL F p1.Kinds G,sL i p1.Slots j,sL I p1.Marks J])] (by kernel_rfl) Z Z (by kernel_rfl) ?_ Z Z ?_))))
          ·exact bL Z (fun _ _ a c=>aL (cs:=[iv p1.W,iv p1.H,iv p1.Rail,iv p1.Gap,sL F p1.Kinds G,sL i p1.Slots j,sL I p1.Marks J]) uJ uI (a.ev Z) (aI.take (bN c (vs:=[iv p1.W,iv p1.H,iv p1.Rail,iv p1.Gap,sL F p1.Kinds G,sL i p1.Slots j,sL I p1.Marks J]) (k:=2) Z 0) 7) Z) (bK (.r Z))
          refine bU 1 [(100,sL f l.1 g)] (by kernel_rfl) Z Z (by kernel_rfl) ?_ Z Z ?_
          ·exact dY Z (bK (.r Z))
          refine bU 2 [(101,iv b1)] (by kernel_rfl) Z Z (by kernel_rfl) ?_ Z Z ?_
          ·exact dY Z (bK (.r Z))
          obtain⟨d7,i8,H⟩:=bnd H
          obtain⟨g9,h0,h1⟩:=bJ i8
          refine bU 3 [(102,.pointer (some ⟨rM f,vJ f+(b1).toNat*6,none⟩))] (by kernel_rfl) Z Z (by kernel_rfl) ?_ Z Z ?_
          ·exact bL Z (fun _ _ a c=>aB FO (a.ev Z) c0 (a.ev Z) g9 h0) (bK (.r Z))
          refine bU 4 [(103,.pointer (some ⟨rM f,vJ f+(b1).toNat*6+0,none⟩))] (by kernel_rfl) Z Z (by kernel_rfl) ?_ Z Z ?_
          ·exact dD (ag Bz) Z (bK (.r Z))
          refine bU 5 [(104,.agg #[iv d7.At.X,iv d7.At.Y])] (by kernel_rfl) Z Z (by kernel_rfl) ?_ Z Z ?_
          ·exact bL Z (fun _ _ a c=>aL (cs:=[iv d7.At.X,iv d7.At.Y]) iC eU (a.ev Z) (aI.take (aI.drop (GY uh (k:=3) c Z h1) 0) 2) Z) (bK (.r Z))
          obtain⟨b,i9,H⟩:=bnd H
          refine bU 6 [(105,(.tuple #[iv b.1,.agg #[iv b.2.1.X,iv b.2.1.Y],bV b.2.2.1,iv b.2.2.2]))] (by kernel_rfl) Z Z (by kernel_rfl) ?_ Z Z ?_
          ·exact lH (r:=(.tuple #[iv b.1,.agg #[iv b.2.1.X,iv b.2.1.Y],bV b.2.2.1,iv b.2.2.2])) (wn Z) Z Tryz.call6 (ak Z (ak Z aH)) (fun W hW=>CR N p1 F G (c8.ext hW.aY) i j (b5.ext hW.aY) I J (c9.ext hW.aY) d7.At b i9 (HF.start _)) (bK (.r Z))
          refine bU 7 [(98,(.tuple #[iv b.1,.agg #[iv b.2.1.X,iv b.2.1.Y],bV b.2.2.1,iv b.2.2.2]))] (by kernel_rfl) Z Z (by kernel_rfl) ?_ Z Z ?_
          ·exact dY Z (bK (.r Z))
          refine bU 8 [(106,iv b.1)] (by kernel_rfl) Z Z (by kernel_rfl) ?_ Z Z ?_
          ·exact bL Z (fun _ _ a c=>bX (a.ev Z) Z) (bK (.r Z))
          refine bU 9 [(107,.agg #[iv b.2.1.X,iv b.2.1.Y])] (by kernel_rfl) Z Z (by kernel_rfl) ?_ Z Z ?_
          ·exact bL Z (fun _ _ a c=>bX (a.ev Z) Z) (bK (.r Z))
          refine jk 10 (by kernel_rfl) Z (wn Z) Z (by kernel_rfl) (fun _ _ a=>bX (a.ev Z) Z) Z (jk 11 (by kernel_rfl) Z (wn Z) Z (by kernel_rfl) (fun _ _ a=>bX (a.ev Z) Z) Z (Dr.one 12 (by kernel_rfl) (St.alloc 12 24 Z (wn Z) Z vY fun b7 j0=>(bU 13 [(15,iv b.1)] (by kernel_rfl) Z Z (by kernel_rfl) ?_ Z Z ?_))))
          ·exact jB Z Z (bK (.r Z))
          refine Dr.one 14 (by kernel_rfl) (AR 14 24 (cs:=[iv b.2.1.X,iv b.2.1.Y]) [iv b.2.1.X,iv b.2.1.Y] Z (wn Z) (.inr ⟨by simp,j0⟩) Z Z Z Z eU Z Z Z (bU 15 [(17,bV b.2.2.1)] (by kernel_rfl) Z Z (by kernel_rfl) ?_ Z Z ?_))
          ·exact jB Z Z (bK (.r Z))
          refine vT (by kernel_rfl) (Tr.k Z (ae (aa (az (aj (aA Z (av dW Z Z (aA Z (bM 3 [(2,sv p2),(3,pV K),(4,pV L),(7,sL f l.1 g),(10,iv b1),(11,iv (E:Int)),(14,pV b3),(15,iv b.1),(16,pV b7),(36,sL i p1.Slots j),(37,iv (p1.Slots.length:Int)),(38,iv (E:Int)),(48,sL o p0.Bores p),(49,iv (p0.Bores.length:Int)),(50,iv (b9:Int)),(115,bV ((b.2.2.2 !=0)||(!b.2.2.1)))] [(1,bx K #[sL M p0.Types P,sL Q p0.List_.Parts S,sL T p0.List_.Nets V,sL a' p0.Materials a0,sL a1 p0.Stack a2,sL a3 p0.Plots a4,iv p0.Outline.Unit,sL a5 p0.Outline.Tools a6,sL a7 p0.Outline.Steps a8,sL o p0.Bores p,sL a9 p0.Bodies b0,sL q p0.Places t,sL v p0.Feet y,iv p0.Rules.Clearance,iv p0.Rules.Width,iv p0.Rules.Ring,iv p0.Rules.Edge,iv p0.Rules.HoleGap,sL A p0.Rules.Classes B,sL C p0.Rules.Areas D] 43),(2,bx L #[iv p1.W,iv p1.H,iv p1.Rail,iv p1.Gap,sL F p1.Kinds G,sL i p1.Slots j,sL I p1.Marks J] 48),(3,ow f g 58 eZ l.1),(23,bx b3 #[iv d.At.X,iv d.At.Y,iv d.Size,iv d.From,iv d.To,bV d.Plated] 58),(24,bx b7 #[iv b.2.1.X,iv b.2.1.Y] 54)] ?_ ?_)))))))))
          ·cases b2:(b.2.2.2 !=0)
           ·exact bC run_move Z (bC bT Z (av aU Z Z (ae (aR (.r Z) (.r Z)))))
           ·exact aG Z (aG Z (av aT Z Z (ae (aR (.r Z) (.r Z)))))
          ·show Tr _ _ (LF [(2,sv p2),(3,pV K),(4,pV L),(7,sL f l.1 g),(10,iv b1),(11,iv (E:Int)),(14,pV b3),(15,iv b.1),(16,pV b7),(36,sL i p1.Slots j),(37,iv (p1.Slots.length:Int)),(38,iv (E:Int)),(48,sL o p0.Bores p),(49,iv (p0.Bores.length:Int)),(50,iv (b9:Int)),(115,bV ((b.2.2.2 !=0)||(!b.2.2.1)))]) (LE [(1,bx K #[sL M p0.Types P,sL Q p0.List_.Parts S,sL T p0.List_.Nets V,sL a' p0.Materials a0,sL a1 p0.Stack a2,sL a3 p0.Plots a4,iv p0.Outline.Unit,sL a5 p0.Outline.Tools a6,sL a7 p0.Outline.Steps a8,sL o p0.Bores p,sL a9 p0.Bodies b0,sL q p0.Places t,sL v p0.Feet y,iv p0.Rules.Clearance,iv p0.Rules.Width,iv p0.Rules.Ring,iv p0.Rules.Edge,iv p0.Rules.HoleGap,sL A p0.Rules.Classes B,sL C p0.Rules.Areas D] 43),(2,bx L #[iv p1.W,iv p1.H,iv p1.Rail,iv p1.Gap,sL F p1.Kinds G,sL i p1.Slots j,sL I p1.Marks J] 48),(3,ow f g 58 eZ l.1),(23,bx b3 #[iv d.At.X,iv d.At.Y,iv d.Size,iv d.From,iv d.To,bV d.Plated] 58),(24,bx b7 #[iv b.2.1.X,iv b.2.1.Y] 54)]) _
           refine aA Z (bM 4 [(2,sv p2),(3,pV K),(4,pV L),(7,sL f l.1 g),(10,iv b1),(11,iv (E:Int)),(14,pV b3),(15,iv b.1),(16,pV b7),(36,sL i p1.Slots j),(37,iv (p1.Slots.length:Int)),(38,iv (E:Int)),(48,sL o p0.Bores p),(49,iv (p0.Bores.length:Int)),(50,iv (b9:Int)),(120,bV (((b.2.2.2 !=0)||(!b.2.2.1))||(decide ((E:Int)<b.1))))] [(1,bx K #[sL M p0.Types P,sL Q p0.List_.Parts S,sL T p0.List_.Nets V,sL a' p0.Materials a0,sL a1 p0.Stack a2,sL a3 p0.Plots a4,iv p0.Outline.Unit,sL a5 p0.Outline.Tools a6,sL a7 p0.Outline.Steps a8,sL o p0.Bores p,sL a9 p0.Bodies b0,sL q p0.Places t,sL v p0.Feet y,iv p0.Rules.Clearance,iv p0.Rules.Width,iv p0.Rules.Ring,iv p0.Rules.Edge,iv p0.Rules.HoleGap,sL A p0.Rules.Classes B,sL C p0.Rules.Areas D] 43),(2,bx L #[iv p1.W,iv p1.H,iv p1.Rail,iv p1.Gap,sL F p1.Kinds G,sL i p1.Slots j,sL I p1.Marks J] 48),(3,ow f g 58 eZ l.1),(23,bx b3 #[iv d.At.X,iv d.At.Y,iv d.Size,iv d.From,iv d.To,bV d.Plated] 58),(24,bx b7 #[iv b.2.1.X,iv b.2.1.Y] 54)] ?_ ?_)
           ·cases b2:((b.2.2.2 !=0)||(!b.2.2.1))
            ·exact bC run_move Z (bC run_move Z (dI dE Z Z (av aU Z Z (ae (aR (.r Z) (.r Z))))))
            ·exact aG Z (aG Z (aG Z (av aT Z Z (ae (aR (.r Z) (.r Z))))))
           ·show Tr _ _ (LF [(2,sv p2),(3,pV K),(4,pV L),(7,sL f l.1 g),(10,iv b1),(11,iv (E:Int)),(14,pV b3),(15,iv b.1),(16,pV b7),(36,sL i p1.Slots j),(37,iv (p1.Slots.length:Int)),(38,iv (E:Int)),(48,sL o p0.Bores p),(49,iv (p0.Bores.length:Int)),(50,iv (b9:Int)),(120,bV (((b.2.2.2 !=0)||(!b.2.2.1))||(decide ((E:Int)<b.1))))]) (LE [(1,bx K #[sL M p0.Types P,sL Q p0.List_.Parts S,sL T p0.List_.Nets V,sL a' p0.Materials a0,sL a1 p0.Stack a2,sL a3 p0.Plots a4,iv p0.Outline.Unit,sL a5 p0.Outline.Tools a6,sL a7 p0.Outline.Steps a8,sL o p0.Bores p,sL a9 p0.Bodies b0,sL q p0.Places t,sL v p0.Feet y,iv p0.Rules.Clearance,iv p0.Rules.Width,iv p0.Rules.Ring,iv p0.Rules.Edge,iv p0.Rules.HoleGap,sL A p0.Rules.Classes B,sL C p0.Rules.Areas D] 43),(2,bx L #[iv p1.W,iv p1.H,iv p1.Rail,iv p1.Gap,sL F p1.Kinds G,sL i p1.Slots j,sL I p1.Marks J] 48),(3,ow f g 58 eZ l.1),(23,bx b3 #[iv d.At.X,iv d.At.Y,iv d.Size,iv d.From,iv d.To,bV d.Plated] 58),(24,bx b7 #[iv b.2.1.X,iv b.2.1.Y] 54)]) _
            refine aA Z (bM 10 [(2,sv p2),(3,pV K),(4,pV L),(7,sL f l.1 g),(10,iv b1),(11,iv (E:Int)),(36,sL i p1.Slots j),(37,iv (p1.Slots.length:Int)),(38,iv (E:Int)),(48,sL o p0.Bores p),(49,iv (p0.Bores.length:Int)),(50,iv (b9:Int)),(131,bV ((((b.2.2.2 !=0)||(!b.2.2.1))||(decide ((E:Int)<b.1)))||((b.1==(E:Int))&&(!(kw b.2.1 d.At)))))] [(1,bx K #[sL M p0.Types P,sL Q p0.List_.Parts S,sL T p0.List_.Nets V,sL a' p0.Materials a0,sL a1 p0.Stack a2,sL a3 p0.Plots a4,iv p0.Outline.Unit,sL a5 p0.Outline.Tools a6,sL a7 p0.Outline.Steps a8,sL o p0.Bores p,sL a9 p0.Bodies b0,sL q p0.Places t,sL v p0.Feet y,iv p0.Rules.Clearance,iv p0.Rules.Width,iv p0.Rules.Ring,iv p0.Rules.Edge,iv p0.Rules.HoleGap,sL A p0.Rules.Classes B,sL C p0.Rules.Areas D] 43),(2,bx L #[iv p1.W,iv p1.H,iv p1.Rail,iv p1.Gap,sL F p1.Kinds G,sL i p1.Slots j,sL I p1.Marks J] 48),(3,ow f g 58 eZ l.1),(23,bx b3 #[iv d.At.X,iv d.At.Y,iv d.Size,iv d.From,iv d.To,bV d.Plated] 58),(24,bx b7 #[iv b.2.1.X,iv b.2.1.Y] 54)] ?_ ?_)
            ·cases b2:(((b.2.2.2 !=0)||(!b.2.2.1))||(decide ((E:Int)<b.1)))
             ·refine bC run_move Z (bC run_move Z (dI dM Z Z (bC run_move Z (bM 5 [(2,sv p2),(3,pV K),(4,pV L),(7,sL f l.1 g),(10,iv b1),(11,iv (E:Int)),(36,sL i p1.Slots j),(37,iv (p1.Slots.length:Int)),(38,iv (E:Int)),(48,sL o p0.Bores p),(49,iv (p0.Bores.length:Int)),(50,iv (b9:Int)),(121,bV false),(130,bV ((b.1==(E:Int))&&(!(kw b.2.1 d.At))))] [(1,bx K #[sL M p0.Types P,sL Q p0.List_.Parts S,sL T p0.List_.Nets V,sL a' p0.Materials a0,sL a1 p0.Stack a2,sL a3 p0.Plots a4,iv p0.Outline.Unit,sL a5 p0.Outline.Tools a6,sL a7 p0.Outline.Steps a8,sL o p0.Bores p,sL a9 p0.Bodies b0,sL q p0.Places t,sL v p0.Feet y,iv p0.Rules.Clearance,iv p0.Rules.Width,iv p0.Rules.Ring,iv p0.Rules.Edge,iv p0.Rules.HoleGap,sL A p0.Rules.Classes B,sL C p0.Rules.Areas D] 43),(2,bx L #[iv p1.W,iv p1.H,iv p1.Rail,iv p1.Gap,sL F p1.Kinds G,sL i p1.Slots j,sL I p1.Marks J] 48),(3,ow f g 58 eZ l.1),(23,bx b3 #[iv d.At.X,iv d.At.Y,iv d.Size,iv d.From,iv d.To,bV d.Plated] 58),(24,bx b7 #[iv b.2.1.X,iv b.2.1.Y] 54)] ?_ ?_))))
              ·cases b2:(b.1==(E:Int))
               ·exact aG Z (aG Z (aG Z (aG Z (dI aU Z Z (ae (aR (.r Z) (.r Z)))))))
               ·exact Tr.x (fun _ _ a c=>aL (cs:=[iv b.2.1.X,iv b.2.1.Y]) iC eU (a.ev Z) (aI.take (bN c (vs:=[iv b.2.1.X,iv b.2.1.Y]) (k:=24) Z 0) 2) Z) (bC (ag Bz) Z (Tr.x (fun _ _ a c=>aL (cs:=[iv d.At.X,iv d.At.Y]) iC eU (a.ev Z) (aI.take (bN c (vs:=[iv d.At.X,iv d.At.Y,iv d.Size,iv d.From,iv d.To,bV d.Plated]) (k:=23) Z 0) 2) Z) (dI (GK b.2.1 d.At) Z Z (dI aT Z Z (ae (aR (.r Z) (.r Z)))))))
              ·dsimp only
               exact av aU Z Z (ae (aR (.r Z) (.r Z)))
             ·exact aG Z (aG Z (aG Z (aG Z (ky Z (ky Z (ky Z (ky Z (aG Z (av aT Z Z (ae (aR (.r Z) (.r Z))))))))))))
            ·show Tr _ _ (LF [(2,sv p2),(3,pV K),(4,pV L),(7,sL f l.1 g),(10,iv b1),(11,iv (E:Int)),(36,sL i p1.Slots j),(37,iv (p1.Slots.length:Int)),(38,iv (E:Int)),(48,sL o p0.Bores p),(49,iv (p0.Bores.length:Int)),(50,iv (b9:Int)),(131,bV ((((b.2.2.2 !=0)||(!b.2.2.1))||(decide ((E:Int)<b.1)))||((b.1==(E:Int))&&(!(kw b.2.1 d.At)))))]) (LE [(1,bx K #[sL M p0.Types P,sL Q p0.List_.Parts S,sL T p0.List_.Nets V,sL a' p0.Materials a0,sL a1 p0.Stack a2,sL a3 p0.Plots a4,iv p0.Outline.Unit,sL a5 p0.Outline.Tools a6,sL a7 p0.Outline.Steps a8,sL o p0.Bores p,sL a9 p0.Bodies b0,sL q p0.Places t,sL v p0.Feet y,iv p0.Rules.Clearance,iv p0.Rules.Width,iv p0.Rules.Ring,iv p0.Rules.Edge,iv p0.Rules.HoleGap,sL A p0.Rules.Classes B,sL C p0.Rules.Areas D] 43),(2,bx L #[iv p1.W,iv p1.H,iv p1.Rail,iv p1.Gap,sL F p1.Kinds G,sL i p1.Slots j,sL I p1.Marks J] 48),(3,ow f g 58 eZ l.1),(23,bx b3 #[iv d.At.X,iv d.At.Y,iv d.Size,iv d.From,iv d.To,bV d.Plated] 58),(24,bx b7 #[iv b.2.1.X,iv b.2.1.Y] 54)]) _
             refine ae (aa (aN Z H (fun H=>?_) (fun H=>?_)))
             ·refine aj (Tr.k Z (ae (aa (aJ (ai (au (ai (ai (au (au (ai (ai (au (ai ?_))))))))))))))
              obtain rfl:=oI H
              exact bD leB
             ·exact aM (aa (aV (aA Z (av bE Z Z (Tr.k Z (ae (aQ (aa (aV (av bE Z Z (aA Z (ae (aP c7 (c3,(b9+1),(bP (b1+1))) ⟨Z,df c6,bq c6,H⟩ (.cons Z (.cons Z (.cons Z (.cons Z (.cons Z (.cons Z (.cons Z (.cons Z (.cons Z (.cons Z (.cons Z (.cons (congrArg (fun z=>some (Value.int .i64 z)) (cZ c6 c4.form)) .nil)))))))))))) (.r Z))))))))))))))

end Go.Proofs.YtgijeiamflmkeaaGreatDoor
