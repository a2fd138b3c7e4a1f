/- The walks: each function computes its plain function. -/
import Derived.Test.YtgijeiamflmkeaaGreatDoorXWb
namespace Go.Proofs.YtgijeiamflmkeaaGreatDoor
open Go.RowKit
set_option maxRecDepth 100000
set_option maxHeartbeats 1000000
theorem vL{w:Bs}(p0:(List Int))(a:Option Addr)(b:Nat)(f:Sl w.R w.W cK a b p0)(p1:Int→Option Bool)(fid1:Nat)(c:List Value)(hg1:∀args W,(callFunc fid1 args).run Tryz.prog W= .ok (.enter fid1 args) W)(hf1:∀(w':Bs),w.Ext w'→∀(z0:Int),∀y,p1 z0=some y→Calls Tryz.prog fid1 (([iv z0]:List Value)++c).toArray w'.W fun e W''=>e= .returned (bV y)∧HF w' W'' E0)(r:Bool)(H:lY p0 p1=some r)(hE:HF w w.W E0):Calls Tryz.prog 78 [sL a p0 b,.func (.func fid1) #[] c.toArray].toArray w.W fun e W'=>e= .returned (bV r)∧HF w W' E0:=by
 unfold lY at H
 have leB:=Bs.Le.refl w
 refine aX (n:=9) Tryz.func78 Z Z Z hE (aj (Tr.k Z (ae (aa (aj (aA Z (aA Z ?_)))))))
 obtain⟨d,g,H⟩:=bnd H
 refine aS (r:=(iv d)) (wn Z) Z Tryz.call127 (ak Z (ak Z aH)) (fun W hW=>wU p0 a b (f.ext hW.aY) p1 fid1 c hg1 (fun w' he=>hf1 w' (hW.aY.trans he)) d g (HF.start _)) (av kG Z Z (Tr.k Z (ae (aa (aJ ?_)))))
 obtain rfl:=oI H
 exact bD leB

theorem xw{w:Bs}(p0:Int)(p1:Int)(p2:Int)(r:Bool)(H:pX p0 p1 p2=some r)(hE:HF w w.W E0):Calls Tryz.prog 82 [iv p0,iv p1,iv p2].toArray w.W fun e W'=>e= .returned (bV r)∧HF w W' E0:=by
 unfold pX at H
 have leB:=Bs.Le.refl w
 refine aX (n:=15) Tryz.func82 Z Z Z hE (aj (Tr.k Z (ae (aa (aj (aA Z (aA Z (av kG Z Z (aA Z (bM 4 [(14,bV ((decide (p1≤p0))&&(decide (p0≤p2))))] [] ?_ ?_))))))))))
 ·cases a:(decide (p1≤p0))
  ·exact aG Z (aG Z (aG Z (av aU Z Z (ae (aR (.r Z) .nil)))))
  ·exact bC run_move Z (bC run_move Z (dI iT Z Z (av aT Z Z (ae (aR (.r Z) .nil)))))
 ·show Tr _ _ (LF [(14,bV ((decide (p1≤p0))&&(decide (p0≤p2))))]) (LE []) _
  refine Tr.k Z (ae (aa (aJ ?_)))
  obtain rfl:=oI H
  exact bD leB

theorem qW{w:Bs}(p0:Int)(r:Bool)(H:mK p0=some r)(hE:HF w w.W E0):Calls Tryz.prog 80 [iv p0].toArray w.W fun e W'=>e= .returned (bV r)∧HF w W' E0:=by
 unfold mK at H
 have leB:=Bs.Le.refl w
 refine aX (n:=5) Tryz.func80 Z Z Z hE (aj (Tr.k Z (ae (aa (aj (aA Z ?_))))))
 obtain⟨a,b,H⟩:=bnd H
 refine aS (r:=(bV a)) (wn Z) Z Tryz.call82 (ak Z (ak Z (ak Z aH))) (fun W hW=>xw p0 0 100000 a b (HF.start _)) (Tr.k Z (ae (aa (aJ ?_))))
 obtain rfl:=oI H
 exact bD leB

theorem yC{w:Bs}(p0:Int)(r:Bool)(H:mM p0=some r)(hE:HF w w.W E0):Calls Tryz.prog 79 [iv p0].toArray w.W fun e W'=>e= .returned (bV r)∧HF w W' E0:=by
 unfold mM at H
 have leB:=Bs.Le.refl w
 refine aX (n:=6) Tryz.func79 Z Z Z hE (aj (Tr.k Z (ae (aa (aj (aA Z ?_))))))
 obtain⟨a,b,H⟩:=bnd H
 refine aS (r:=(bV a)) (wn Z) Z Tryz.call80 (ak Z aH) (fun W hW=>qW p0 a b (HF.start _)) (aD bT Z (Tr.k Z (ae (aa (aJ ?_)))))
 obtain rfl:=oI H
 exact bD leB

theorem yB(N:Nat){w:Bs}(hT:Nj Tryz.prog w)(p0:(List iV))(i:Option Addr)(j:Nat)(t:Sl w.R w.W jX i j p0)(r:Int)(H:oU N p0=some r)(hE:HF w w.W E0):Calls Tryz.prog 81 [sL i p0 j].toArray w.W fun e W'=>e= .returned (iv r)∧HF w W' E0:=by
 unfold oU at H
 have leB:=Bs.Le.refl w
 refine aX (n:=93) Tryz.func81 Z Z Z hE (aj (Tr.k Z (ae (aa (az (aj (aA Z (aD (bA Vj) Z (av dE Z Z (ae (aa (aN Z H (fun H=>?_) (fun H=>?_)))))))))))))
 ·refine aj (Tr.k Z (ae (aa (aJ (ai ?_)))))
  obtain rfl:=oI H
  exact bD leB
 ·refine aM (aa (aj (AO encS wD 1 (wn Z) Z fun o=>(Tr.k Z (ae (aa (az (aj (aA Z (aD (bA Vj) Z (aA Z (ae (aa (Tr.block (cO (σ:=(List iV)×Nat×(List (ByteArray))) (fun m w s=>m=s.1.length+1∧s.1=List.drop s.2.1 p0∧s.2.1≤p0.length∧dH N p0 s.1 s.2.1 s.2.2=some r) (fun s=>[(0,sL i p0 j),(3,(.map (some o))),(14,sL i p0 j),(15,iv (p0.length:Int)),(16,iv (s.2.1:Int))]) (fun s=>[(1,wS encS wD o s.2.2)]) (p0.length+1) (p0,0,([]:List (ByteArray))) ⟨Z,Z,Nat.zero_le _,H⟩ (.r Z) (.r Z) (fun _ _ h=>absurd h.1 (by simp)) ?_)))))))))))))))
  intro w D m s hs
  obtain⟨p,l,y⟩:=s
  obtain⟨P,A,d1,H⟩:=hs
  replace A:p=List.drop l p0:=A
  replace H:dH N p0 p l y=some r:=H
  replace P:m+1=p.length+1:=P
  replace hT:=hT.ext D.ext
  replace t:=t.iR D
  replace leB:=leB.trans D
  obtain rfl:m=p.length:=by omega
  clear P
  dsimp only
  cases p with
  |nil=>
   rw[dH.eq_1] at H
   refine aj (av bi Z Z (ae (aa (az (dn Z (cz A) (bZ (aF (aF (bg (aa (aj (Tr.k Z (ae (aa (aJ ?_)))))))))))))))
   obtain rfl:=oI H
   exact bD leB
  | cons b p=>
   rw[dH.eq_2] at H
   refine aj (av bi Z Z (ae (aa (az (dm Z (dz A) (aM (aa (az (Tr.block (aj (aA Z ?_)))))))))))
   obtain⟨c5,a',V,a0⟩:=(t).el (dA A)
   obtain⟨d,f⟩:=c5
   have g:=V
   replace g:Sl w.R w.W ug d f b.Nets:=g
   refine aC Z (fun _ _ a c=>aB VA (a.ev Z) t.form (a.ev Z) (Int.natCast_nonneg _) (bq A)) (aC Z (fun _ _ a c=>aL (cs:=[sv b.Name,sL d b.Nets f,iv b.Clearance,iv b.Width]) WO QP (a.ev Z) (aI.take (tY a' a0 c) 4) Z) (Tr.alloc 4 (wn Z) Z VP fun q=>(Tr.k Z (bv 4 (cs:=[sv b.Name,sL d b.Nets f,iv b.Clearance,iv b.Width]) [sv b.Name,sL d b.Nets f,iv b.Clearance,iv b.Width] (wn Z) Z Z Z Z QP Z Z Z (ae (aa (az (aj (aD (ag Hy) Z (aC Z (fun _ _ a c=>ah jD (a.ev Z) (bN c (vs:=[sv b.Name,sL d b.Nets f,iv b.Clearance,iv b.Width]) (k:=4) Z 0) Z) ?_))))))))))
   obtain⟨a1,b5,H⟩:=bnd H
   refine aS (r:=(bV a1)) (wn Z) Z Tryz.call64 (ak Z aH) (fun W hW=>jJ N b.Name a1 b5 (HF.start _)) (aD bT Z (ae (aa (aN Z H (fun H=>?_) (fun H=>?_)))))
   ·refine aj (Tr.k Z (ae (aa (aJ (ai (au (ai (ai (au (ai ?_))))))))))
    obtain rfl:=oI H
    exact bD leB
   ·refine aM (aa (az (aj (aD (ag DK) Z (aC Z (fun _ _ a c=>ah IC (a.ev Z) (bN c (vs:=[sv b.Name,sL d b.Nets f,iv b.Clearance,iv b.Width]) (k:=4) Z 1) Z) (aD (bA Gt) Z (av dE Z Z (ae (aa (aN Z H (fun H=>?_) (fun H=>?_)))))))))))
    ·refine aj (Tr.k Z (ae (aa (aJ (ai (au (ai (ai (au (ai ?_))))))))))
     obtain rfl:=oI H
     exact bD leB
    ·refine aM (aa (az (aj (aD (ag DK) Z (aC Z (fun _ _ a c=>ah IC (a.ev Z) (bN c (vs:=[sv b.Name,sL d b.Nets f,iv b.Clearance,iv b.Width]) (k:=4) Z 1) Z) (aD (bA Gt) Z (aA Z (ae (aa (Tr.block (cO (σ:=(List ByteArray)×Nat) (fun m w s=>m=s.1.length+1∧s.1=List.drop s.2 b.Nets∧s.2≤b.Nets.length∧gq N p0 y (dH N p0 p (l+1)) b l s.1 s.2=some r) (fun s=>[(0,sL i p0 j),(3,(.map (some o))),(4,iv (l:Int)),(5,pV q),(14,sL i p0 j),(15,iv (p0.length:Int)),(16,iv (l:Int)),(30,sL d b.Nets f),(31,iv (b.Nets.length:Int)),(32,iv (s.2:Int))]) (fun s=>[(1,wS encS wD o y),(4,bx q #[sv b.Name,sL d b.Nets f,iv b.Clearance,iv b.Width] 227)]) (b.Nets.length+1) (b.Nets,0) ⟨Z,Z,Nat.zero_le _,H⟩ (.r Z) (.r Z) (fun _ _ h=>absurd h.1 (by simp)) ?_)))))))))))
     intro w J m s hs
     obtain⟨u,M⟩:=s
     obtain⟨Q,B,d2,H⟩:=hs
     replace B:u=List.drop M b.Nets:=B
     replace H:gq N p0 y (dH N p0 p (l+1)) b l u M=some r:=H
     replace Q:m+1=u.length+1:=Q
     replace hT:=hT.ext J.ext
     replace t:=t.iR J
     replace g:=g.iR J
     replace leB:=leB.trans J
     replace D:=D.trans J
     obtain rfl:m=u.length:=by omega
     clear Q
     dsimp only
     cases u with
     | nil =>
      rw[gq.eq_1] at H
      refine aj (av bi Z Z (ae (aa (az (dn Z (cz B) (bZ (aF (aF (bg (aa (az (aj (aD (ag DK) Z (aC Z (fun _ _ a c=>ah IC (a.ev Z) (bN c (vs:=[sv b.Name,sL d b.Nets f,iv b.Clearance,iv b.Width]) (k:=4) Z 1) Z) (aD (bA Gt) Z (aA Z (ae (aa (Tr.block (cO (σ:=(List ByteArray)×Nat×(List (ByteArray))) (fun m w s=>m=s.1.length+1∧s.1=List.drop s.2.1 b.Nets∧s.2.1≤b.Nets.length∧gp p0 (dH N p0 p (l+1)) b l s.1 s.2.1 s.2.2=some r) (fun s=>[(0,sL i p0 j),(3,(.map (some o))),(4,iv (l:Int)),(5,pV q),(14,sL i p0 j),(15,iv (p0.length:Int)),(16,iv (l:Int)),(60,sL d b.Nets f),(61,iv (b.Nets.length:Int)),(62,iv (s.2.1:Int))]) (fun s=>[(1,wS encS wD o s.2.2),(4,bx q #[sv b.Name,sL d b.Nets f,iv b.Clearance,iv b.Width] 227)]) (b.Nets.length+1) (b.Nets,0,y) ⟨Z,Z,Nat.zero_le _,H⟩ (.r Z) (.r Z) (fun _ _ h=>absurd h.1 (by simp)) ?_))))))))))))))))))))
      intro w K m s hs
      obtain⟨v,U,O⟩:=s
      obtain⟨S,C,d3,H⟩:=hs
      replace C:v=List.drop U b.Nets:=C
      replace H:gp p0 (dH N p0 p (l+1)) b l v U O=some r:=H
      replace S:m+1=v.length+1:=S
      replace hT:=hT.ext K.ext
      replace t:=t.iR K
      replace g:=g.iR K
      replace leB:=leB.trans K
      replace D:=D.trans K
      obtain rfl:m=v.length:=by omega
      clear S
      dsimp only
      cases v with
      | nil=>
       rw[gp.eq_1] at H
       refine aj (av bi Z Z (ae (aa (az (dn Z (cz C) (bZ (aF (aF (bg (aa (az (aj (aD (ag R8) Z (aC Z (fun _ _ a c=>ah bF (a.ev Z) (bN c (vs:=[sv b.Name,sL d b.Nets f,iv b.Clearance,iv b.Width]) (k:=4) Z 2) Z) ?_))))))))))))))
       obtain⟨T,b6,H⟩:=bnd H
       refine aS (r:=(bV T)) (wn Z) Z Tryz.call80 (ak Z aH) (fun W hW=>qW b.Clearance T b6 (HF.start _)) (aD bT Z (aA Z ?_))
       obtain⟨a2,E,H⟩:=bnd H
       refine bM 5 [(0,sL i p0 j),(3,(.map (some o))),(4,iv (l:Int)),(5,pV q),(14,sL i p0 j),(15,iv (p0.length:Int)),(16,iv (l:Int)),(78,bV a2)] [(1,wS encS wD o O),(4,bx q #[sv b.Name,sL d b.Nets f,iv b.Clearance,iv b.Width] 227)] ?_ ?_
       ·cases I:(!T)
        ·rw[I] at E
         rw[if_neg (by decide)] at E
         have H:=E
         refine bC (ag R7) Z (Tr.x (fun _ _ a c=>ah bF (a.ev Z) (bN c (vs:=[sv b.Name,sL d b.Nets f,iv b.Clearance,iv b.Width]) (k:=4) Z 3) Z) ?_)
         obtain⟨a3,b7,H⟩:=bnd H
         refine aS (r:=(bV a3)) (wg Z Z Z) Z Tryz.call80 (ak Z aH) (fun W hW=>qW b.Width a3 b7 (HF.start _)) (bC bT Z (av aU Z Z ?_))
         obtain rfl:=oI H
         exact ae (aR (.r Z) (.r Z))
        ·rw[I] at E
         rw[if_pos Z] at E
         have H:=E
         obtain rfl:=oI H
         exact aG Z (aG Z (aG Z (aG Z (av aT Z Z (ae (aR (.r Z) (.r Z)))))))
       ·show Tr _ _ (LF [(0,sL i p0 j),(3,(.map (some o))),(4,iv (l:Int)),(5,pV q),(14,sL i p0 j),(15,iv (p0.length:Int)),(16,iv (l:Int)),(78,bV a2)]) (LE [(1,wS encS wD o O),(4,bx q #[sv b.Name,sL d b.Nets f,iv b.Clearance,iv b.Width] 227)]) _
        refine ae (aa (aN Z H (fun H=>?_) (fun H=>?_)))
        ·refine aj (Tr.k Z (ae (aa (aJ (ai (au (ai (ai (au (ai ?_))))))))))
         obtain rfl:=oI H
         exact bD leB
        ·refine aM (aa (az (fZ (by kernel_rfl) (by kernel_rfl) (dY Z (dL dE Z Z (dY Z ?_))))))
         obtain⟨c6,F,H⟩:=bnd H
         refine mi 10 [(0,sL i p0 j),(3,(.map (some o))),(14,sL i p0 j),(15,iv (p0.length:Int)),(16,iv (l:Int)),(91,bV c6)] ?_ ?_
         ·cases I:(decide (0<(l:Int)))
          ·rw[I] at F
           rw[if_neg (by decide)] at F
           have H:=F
           obtain rfl:=oI H
           exact bB Z (bB Z (bB Z (bB Z (bB Z (bB Z (bB Z (bB Z (bB Z (dL aU Z Z (bK (.r Z)))))))))))
          ·rw[I] at F
           rw[if_pos Z] at F
           have H:=F
           refine dJ (ag Hy) Z (Tq.x (fun _ _ a c=>ah jD (a.ev Z) (bN c (vs:=[sv b.Name,sL d b.Nets f,iv b.Clearance,iv b.Width]) (k:=4) Z 0) Z) (dJ run_move Z (dJ run_move Z (lg gH Z Z ?_))))
           obtain⟨d4,b8,H⟩:=bnd H
           obtain⟨a4,a5,a6⟩:=bJ b8
           obtain⟨c7,a7,X,a8⟩:=(t).el a6
           obtain⟨c9,d0⟩:=c7
           have c4:=X
           refine Tq.x (fun _ _ a c=>aB VA (a.ev Z) t.form (a.ev Z) a4 a5) (dJ (ag Hy) Z (Tq.x (fun _ _ a c=>ah jD (a.ev Z) (aI.drop (tY a7 a8 c) 0) Z) (lg pI Z Z (dL aT Z Z ?_))))
           obtain rfl:=oI H
           exact bK (.r Z)
         ·refine gz (aa (aN Z H (fun H=>?_) (fun H=>?_)))
          ·refine aj (Tr.k Z (ae (aa (aJ (au (ai (ai (au (ai ?_)))))))))
           obtain rfl:=oI H
           exact bD leB
          ·exact aM (aQ (aa (aV (av bE Z Z (aA Z (ae (aP D (p,(l+1),O) ⟨Z,df A,bq A,H⟩ (.cons Z (.cons Z (.cons Z (.cons Z (.cons (congrArg (fun z=>some (Value.int .i64 z)) (cZ A t.form)) .nil))))) (.r Z))))))))
      |cons d7 v=>
       rw[gp.eq_2] at H
       refine aj (av bi Z Z (ae (aa (az (dm Z (dz C) (aM (aa (az (Tr.block (aj (aC Z (fun _ _ a c=>aB KO (a.ev Z) g.form (a.ev Z) (Int.natCast_nonneg _) (bq C)) (aC Z (fun _ _ a c=>ah jD (a.ev Z) (pq Cv g (dA C) c) Z) (Tr.k Z (ae (aa (aV (aA Z (aA Z ?_))))))))))))))))))
       obtain⟨c8,b9,H⟩:=bnd H
       exact Cz 1 (wn Z) Kg (Uk EE) Z Z Z Z b9 (ae (aQ (aa (aV (av bE Z Z (aA Z (ae (aP K (v,(U+1),c8) ⟨Z,df C,bq C,H⟩ (.cons Z (.cons Z (.cons Z (.cons Z (.cons Z (.cons Z (.cons Z (.cons Z (.cons Z (.cons (congrArg (fun z=>some (Value.int .i64 z)) (cZ C g.form)) .nil)))))))))) (.r Z)))))))))
     | cons a9 u=>
      rw[gq.eq_2] at H
      refine aj (av bi Z Z (ae (aa (az (dm Z (dz B) (aM (aa (az (Tr.block (aj (aA Z (aC Z (fun _ _ a c=>aB KO (a.ev Z) g.form (a.ev Z) (Int.natCast_nonneg _) (bq B)) (aC Z (fun _ _ a c=>ah jD (a.ev Z) (pq Cv g (dA B) c) Z) (Tr.k Z (Tr.k Z (ae (aa (Tr.block (aj (aA Z ?_))))))))))))))))))))
      obtain⟨b0,c0,H⟩:=bnd H
      refine aS (r:=(bV b0)) (wn Z) Z Tryz.call58 (ak Z aH) (fun W hW=>pE N (hT.ext hW.aY) a9 b0 c0 (HF.start _)) (aD bT Z (Tr.k Z (ae (aa (aN Z H (fun H=>?_) (fun H=>?_))))))
      ·refine aj (Tr.k Z (ae (aa (aJ (au (au (ai (ai (au (ai (au (ai (ai (au (ai ?_)))))))))))))))
       obtain rfl:=oI H
       exact bD leB
      ·refine aj (aA Z (av dE Z Z (aA Z ?_)))
       obtain⟨b1,G,H⟩:=bnd H
       refine bM 9 [(0,sL i p0 j),(3,(.map (some o))),(4,iv (l:Int)),(5,pV q),(7,sv a9),(14,sL i p0 j),(15,iv (p0.length:Int)),(16,iv (l:Int)),(30,sL d b.Nets f),(31,iv (b.Nets.length:Int)),(32,iv (M:Int)),(53,bV b1)] [(1,wS encS wD o y),(4,bx q #[sv b.Name,sL d b.Nets f,iv b.Clearance,iv b.Width] 227)] ?_ ?_
       ·cases L:(decide (0<(M:Int)))
        ·rw[L] at G
         rw[if_neg (by decide)] at G
         have H:=G
         obtain rfl:=oI H
         exact aG Z (aG Z (aG Z (aG Z (aG Z (aG Z (aG Z (aG Z (av aU Z Z (ae (aR (.r Z) (.r Z)))))))))))
        ·rw[L] at G
         rw[if_pos Z] at G
         have H:=G
         refine bC run_move Z (bC (ag DK) Z (Tr.x (fun _ _ a c=>ah IC (a.ev Z) (bN c (vs:=[sv b.Name,sL d b.Nets f,iv b.Clearance,iv b.Width]) (k:=4) Z 1) Z) (bC run_move Z (dI gH Z Z ?_))))
         obtain⟨d5,c3,H⟩:=bnd H
         obtain⟨b2,b3,b4⟩:=bJ c3
         refine Tr.x (fun _ _ a c=>aB KO (a.ev Z) g.form (a.ev Z) b2 b3) (Tr.x (fun _ _ a c=>ah jD (a.ev Z) (pq Cv g b4 c) Z) (dI pI Z Z (av aT Z Z ?_)))
         obtain rfl:=oI H
         exact ae (aR (.r Z) (.r Z))
       ·show Tr _ _ (LF [(0,sL i p0 j),(3,(.map (some o))),(4,iv (l:Int)),(5,pV q),(7,sv a9),(14,sL i p0 j),(15,iv (p0.length:Int)),(16,iv (l:Int)),(30,sL d b.Nets f),(31,iv (b.Nets.length:Int)),(32,iv (M:Int)),(53,bV b1)]) (LE [(1,wS encS wD o y),(4,bx q #[sv b.Name,sL d b.Nets f,iv b.Clearance,iv b.Width] 227)]) _
        refine Tr.k Z (ae (aa (aN Z H (fun H=>?_) (fun H=>?_))))
        ·refine aj (Tr.k Z (ae (aa (aJ (au (au (ai (ai (au (ai (au (ai (ai (au (ai ?_)))))))))))))))
         obtain rfl:=oI H
         exact bD leB
        ·refine aj (aA Z (aA Z ?_))
         obtain⟨d6,L,H⟩:=bnd H
         refine aC Z (fun _ _ a c=>zZ Kg (Uk EE) VO (a.ev Z) (a.ev Z) c (k0:=1) Z L) (Tr.k Z (ae (aa (aN Z H (fun H=>?_) (fun H=>?_)))))
         ·refine aj (Tr.k Z (ae (aa (aJ (au (au (ai (ai (au (ai (au (ai (ai (au (ai ?_)))))))))))))))
          obtain rfl:=oI H
          exact bD leB
         ·exact aM (aQ (aQ (aa (aV (av bE Z Z (aA Z (ae (aP J (u,(M+1)) ⟨Z,df B,bq B,H⟩ (.cons Z (.cons Z (.cons Z (.cons Z (.cons Z (.cons Z (.cons Z (.cons Z (.cons Z (.cons (congrArg (fun z=>some (Value.int .i64 z)) (cZ B g.form)) .nil)))))))))) (.r Z)))))))))

theorem xu{w:Bs}(p0:aO)(r:Bool)(H:pW p0=some r)(hE:HF w w.W E0):Calls Tryz.prog 150 [.agg #[iv p0.X0,iv p0.Y0,iv p0.X1,iv p0.Y1]].toArray w.W fun e W'=>e= .returned (bV r)∧HF w W' E0:=by
 unfold pW at H
 have leB:=Bs.Le.refl w
 refine aX (n:=21) Tryz.func150 Z Z Z hE (aj (dh 1 (cs:=[iv p0.X0,iv p0.Y0,iv p0.X1,iv p0.Y1]) (wn Z) Z Z Z fun d=>(Tr.k Z (ae (aa (aj (aD (ag kU) Z (aC Z (fun _ _ a c=>ah bF (a.ev Z) (bN c (vs:=[iv p0.X0,iv p0.Y0,iv p0.X1,iv p0.Y1]) (k:=1) Z 0) Z) ?_))))))))
 obtain⟨i,t,H⟩:=bnd H
 refine aS (r:=(bV i)) (wn Z) Z Tryz.call122 (ak Z aH) (fun W hW=>oG p0.X0 i t (HF.start _)) (aA Z ?_)
 obtain⟨j,f,H⟩:=bnd H
 refine bM 4 [(1,pV d),(10,bV j)] [(1,bx d #[iv p0.X0,iv p0.Y0,iv p0.X1,iv p0.Y1] 77)] ?_ ?_
 ·cases b:i
  ·rw[b] at f
   rw[if_neg (by decide)] at f
   have H:=f
   obtain rfl:=oI H
   exact aG Z (aG Z (aG Z (av aU Z Z (ae (aR (.r Z) (.r Z))))))
  ·rw[b] at f
   rw[if_pos Z] at f
   have H:=f
   refine bC (ag lW) Z (Tr.x (fun _ _ a c=>ah bF (a.ev Z) (bN c (vs:=[iv p0.X0,iv p0.Y0,iv p0.X1,iv p0.Y1]) (k:=1) Z 1) Z) ?_)
   obtain⟨o,u,H⟩:=bnd H
   refine aS (r:=(bV o)) (wg Z Z Z) Z Tryz.call122 (ak Z aH) (fun W hW=>oG p0.Y0 o u (HF.start _)) (av aT Z Z ?_)
   obtain rfl:=oI H
   exact ae (aR (.r Z) (.r Z))
 ·show Tr _ _ (LF [(1,pV d),(10,bV j)]) (LE [(1,bx d #[iv p0.X0,iv p0.Y0,iv p0.X1,iv p0.Y1] 77)]) _
  refine aA Z ?_
  obtain⟨l,g,H⟩:=bnd H
  refine bM 4 [(1,pV d),(15,bV l)] [(1,bx d #[iv p0.X0,iv p0.Y0,iv p0.X1,iv p0.Y1] 77)] ?_ ?_
  ·cases b:j
   ·rw[b] at g
    rw[if_neg (by decide)] at g
    have H:=g
    obtain rfl:=oI H
    exact aG Z (aG Z (aG Z (av aU Z Z (ae (aR (.r Z) (.r Z))))))
   ·rw[b] at g
    rw[if_pos Z] at g
    have H:=g
    refine bC (ag pu) Z (Tr.x (fun _ _ a c=>ah bF (a.ev Z) (bN c (vs:=[iv p0.X0,iv p0.Y0,iv p0.X1,iv p0.Y1]) (k:=1) Z 2) Z) ?_)
    obtain⟨p,v,H⟩:=bnd H
    refine aS (r:=(bV p)) (wg Z Z Z) Z Tryz.call122 (ak Z aH) (fun W hW=>oG p0.X1 p v (HF.start _)) (av aT Z Z ?_)
    obtain rfl:=oI H
    exact ae (aR (.r Z) (.r Z))
  ·show Tr _ _ (LF [(1,pV d),(15,bV l)]) (LE [(1,bx d #[iv p0.X0,iv p0.Y0,iv p0.X1,iv p0.Y1] 77)]) _
   refine aA Z ?_
   obtain⟨q,h,H⟩:=bnd H
   refine bM 4 [(20,bV q)] [(1,bx d #[iv p0.X0,iv p0.Y0,iv p0.X1,iv p0.Y1] 77)] ?_ ?_
   ·cases b:l
    ·rw[b] at h
     rw[if_neg (by decide)] at h
     have H:=h
     obtain rfl:=oI H
     exact aG Z (aG Z (aG Z (av aU Z Z (ae (aR (.r Z) (.r Z))))))
    ·rw[b] at h
     rw[if_pos Z] at h
     have H:=h
     refine bC (ag qw) Z (Tr.x (fun _ _ a c=>ah bF (a.ev Z) (bN c (vs:=[iv p0.X0,iv p0.Y0,iv p0.X1,iv p0.Y1]) (k:=1) Z 3) Z) ?_)
     obtain⟨s,y,H⟩:=bnd H
     refine aS (r:=(bV s)) (wg Z Z Z) Z Tryz.call122 (ak Z aH) (fun W hW=>oG p0.Y1 s y (HF.start _)) (av aT Z Z ?_)
     obtain rfl:=oI H
     exact ae (aR (.r Z) (.r Z))
   ·show Tr _ _ (LF [(20,bV q)]) (LE [(1,bx d #[iv p0.X0,iv p0.Y0,iv p0.X1,iv p0.Y1] 77)]) _
    refine Tr.k Z (ae (aa (aJ ?_)))
    obtain rfl:=oI H
    exact bD leB

theorem zL{w:Bs}(p0:(List aO))(g:Option Addr)(i:Nat)(j:Sl w.R w.W bf g i p0)(r:Int)(H:mr p0=some r)(hE:HF w w.W E0):Calls Tryz.prog 93 [sL g p0 i].toArray w.W fun e W'=>e= .returned (iv r)∧HF w W' E0:=by
 unfold mr at H
 have leB:=Bs.Le.refl w
 refine aX (n:=30) Tryz.func93 Z Z Z hE (aj (Tr.k Z (ae (aa (az (aj (aA Z (aD (bA o8) Z (av dE Z Z (ae (aa (aN Z H (fun H=>?_) (fun H=>?_)))))))))))))
 ·refine aj (Tr.k Z (ae (aa (aJ (ai ?_)))))
  obtain rfl:=oI H
  exact bD leB
 ·refine aM (aa (az (aj (aA Z (aD (bA o8) Z (aA Z (ae (aa (Tr.block (cO (σ:=(List aO)×Nat) (fun m w s=>m=s.1.length+1∧s.1=List.drop s.2 p0∧s.2≤p0.length∧gY s.1 s.2=some r) (fun s=>[(8,sL g p0 i),(9,iv (p0.length:Int)),(10,iv (s.2:Int))]) (fun s=>[]) (p0.length+1) (p0,0) ⟨Z,Z,Nat.zero_le _,H⟩ (.r Z) .nil (fun _ _ h=>absurd h.1 (by simp)) ?_))))))))))
  intro w o m s hs
  obtain⟨d,l⟩:=s
  obtain⟨p,f,y,H⟩:=hs
  replace f:d=List.drop l p0:=f
  replace H:gY d l=some r:=H
  replace p:m+1=d.length+1:=p
  replace j:=j.iR o
  replace leB:=leB.trans o
  obtain rfl:m=d.length:=by omega
  clear p
  dsimp only
  cases d with
  |nil=>
   rw[gY.eq_1] at H
   refine aj (av bi Z Z (ae (aa (az (dn Z (cz f) (bZ (aF (aF (bg (aa (aj (Tr.k Z (ae (aa (aJ ?_)))))))))))))))
   obtain rfl:=oI H
   exact bD leB
  | cons b d=>
   rw[gY.eq_2] at H
   refine aj (av bi Z Z (ae (aa (az (dm Z (dz f) (aM (aa (az (Tr.block (aj (aC Z (fun _ _ a c=>aB sH (a.ev Z) j.form (a.ev Z) (Int.natCast_nonneg _) (bq f)) (aC Z (fun _ _ a c=>aL (cs:=[iv b.X0,iv b.Y0,iv b.X1,iv b.Y1]) o9 jy (a.ev Z) (aI.take (pq kQ j (dA f) c) 4) Z) (Tr.alloc 2 (wn Z) Z tQ fun q=>(bv 2 (cs:=[iv b.X0,iv b.Y0,iv b.X1,iv b.Y1]) [iv b.X0,iv b.Y0,iv b.X1,iv b.Y1] (wn Z) Z Z Z Z jy Z Z Z (ae (aa (az (aj (aC Z (fun _ _ a c=>aL (cs:=[iv b.X0,iv b.Y0,iv b.X1,iv b.Y1]) o9 jy (a.ev Z) (aI.take (bN c (vs:=[iv b.X0,iv b.Y0,iv b.X1,iv b.Y1]) (k:=2) Z 0) 4) Z) ?_)))))))))))))))))))
   obtain⟨t,u,H⟩:=bnd H
   refine aS (r:=(bV t)) (wn Z) Z Tryz.call150 (ak Z aH) (fun W hW=>xu b t u (HF.start _)) (aD bT Z (ae (aa (aN Z H (fun H=>?_) (fun H=>?_)))))
   ·refine aj (Tr.k Z (ae (aa (aJ (ai (au (ai (ai (au (ai ?_))))))))))
    obtain rfl:=oI H
    exact bD leB
   ·refine aM (aa (aj (aD (ag pu) Z (aC Z (fun _ _ a c=>ah bF (a.ev Z) (bN c (vs:=[iv b.X0,iv b.Y0,iv b.X1,iv b.Y1]) (k:=2) Z 2) Z) (aD (ag kU) Z (aC Z (fun _ _ a c=>ah bF (a.ev Z) (bN c (vs:=[iv b.X0,iv b.Y0,iv b.X1,iv b.Y1]) (k:=2) Z 0) Z) (av iT Z Z (aA Z (bM 6 [(8,sL g p0 i),(9,iv (p0.length:Int)),(10,iv (l:Int)),(28,bV ((decide (b.X1≤b.X0))||(decide (b.Y1≤b.Y0))))] [(2,bx q #[iv b.X0,iv b.Y0,iv b.X1,iv b.Y1] 77)] ?_ ?_)))))))))
    ·cases v:(decide (b.X1≤b.X0))
     ·exact bC (ag qw) Z (Tr.x (fun _ _ a c=>ah bF (a.ev Z) (bN c (vs:=[iv b.X0,iv b.Y0,iv b.X1,iv b.Y1]) (k:=2) Z 3) Z) (bC (ag lW) Z (Tr.x (fun _ _ a c=>ah bF (a.ev Z) (bN c (vs:=[iv b.X0,iv b.Y0,iv b.X1,iv b.Y1]) (k:=2) Z 1) Z) (dI iT Z Z (av aU Z Z (ae (aR (.r Z) (.r Z))))))))
     ·exact aG Z (aG Z (aG Z (aG Z (aG Z (av aT Z Z (ae (aR (.r Z) (.r Z))))))))
    ·show Tr _ _ (LF [(8,sL g p0 i),(9,iv (p0.length:Int)),(10,iv (l:Int)),(28,bV ((decide (b.X1≤b.X0))||(decide (b.Y1≤b.Y0))))]) (LE [(2,bx q #[iv b.X0,iv b.Y0,iv b.X1,iv b.Y1] 77)]) _
     refine ae (aa (aN Z H (fun H=>?_) (fun H=>?_)))
     ·refine aj (Tr.k Z (ae (aa (aJ (au (ai (ai (au (ai ?_)))))))))
      obtain rfl:=oI H
      exact bD leB
     ·exact aM (aQ (aa (aV (av bE Z Z (aA Z (ae (aP o (d,(l+1)) ⟨Z,df f,bq f,H⟩ (.cons Z (.cons Z (.cons (congrArg (fun z=>some (Value.int .i64 z)) (cZ f j.form)) .nil))) .nil)))))))

theorem zk{w:Bs}(p0:(List aO))(a:Option Addr)(b:Nat)(c:Sl w.R w.W bf a b p0)(r:(List aO))(H:nG p0=some r)(hE:HF w w.W (mF [emp])):Calls Tryz.prog 36 [sL a p0 b].toArray w.W fun e W'=>∃u:(Option Addr×Nat),e= .returned (sL u.1 r u.2)∧(fQ u.1 r.length u.2)∧HF w W' (mF [ow u.1 u.2 77 bf r]):=by
 unfold nG at H
 have leB:=Bs.Le.refl w
 refine aX (n:=8) Tryz.func36 Z Z Z hE (aj (Tr.k Z (bY 1 77 bf ?_)))
 show Tr _ _ (uf _ 2 (sL none (([]:List aO)) 0)) _ _
 refine ae (aa (az (aj (aA Z (av (NG o8) Z Z (ae (aa ?_)))))))
 cases a with
 |none=>
  have hl0:=Q3 c.form
  replace H:(some ([]:List aO))=some r:=by simpa[EC,hl0] using H
  refine dm Z Z (aj (Tr.k Z (bY 2 77 bf ?_)))
  show Tr _ _ (uf _ 2 (sL none (([]:List aO)) 0)) _ _
  refine ae (aa (aJ (ai ?_)))
  obtain rfl:=oI H
  exact bR (m:=[sL none (([]:List aO)) 0]) [] (bu Z bG) (fun W hW=>⟨(none,0),Z,fP,HF.qC leB (hW.pick (ks:=[2]) (by decide) (bn Z bO)) ⟨lD _ _ _ _ jA,trivial⟩⟩)
 |some j=>
  refine dn Z Z (aM (aa (aj (fK 3 (e:=77) (vs:=[]) (cs:=[]) (wn Z) Z dR (by kernel_rfl) fun o=>(aA Z (Tr.own 3 bf ([]:List aO) (css:=[]) Z .nil Z (by decide) (Bv Z) ?_))))))
  obtain⟨i,h,H⟩:=bnd H
  refine Oi 3 (t:=bf) (l:=([]:List aO)) (l2:=p0) (wn Z) Z Z Z Z (YY jA (fun W hW=>(Sl.Gi c hW))) o8 jy Jk (by decide) JX Z h fun d f g=>(Tr.k Z (ae (aa (aJ ?_))))
  obtain rfl:=oI H
  exact bR (m:=[sL d i f]) [] (bu Z bG) (fun W hW=>⟨(d,f),Z,g,HF.qC leB (hW.pick (ks:=[3]) (by decide) (bn Z bO)) ⟨lD _ _ _ _ jA,trivial⟩⟩)

theorem nW{w:Bs}(p0:List aO)(a:Option Addr)(b:Nat)(p1:aO→aO→Option Int)(fid1:Nat)(c:List Value)(hg1:∀args W,(callFunc fid1 args).run Tryz.prog W= .ok (.enter fid1 args) W)(hf1:∀(w':Bs),w.Ext w'→∀(z0:aO) (z1:aO),∀y,p1 z0 z1=some y→Calls Tryz.prog fid1 (([.agg #[iv z0.X0,iv z0.Y0,iv z0.X1,iv z0.Y1],.agg #[iv z1.X0,iv z1.Y0,iv z1.X1,iv z1.Y1]]:List Value)++c).toArray w'.W fun e W''=>e= .returned (iv y)∧HF w' W'' E0)(r:List aO)(H:Dc p0 p1=some r)(hE:HF w w.W (mF [ow a b 77 bf p0])):Calls Tryz.prog 37 [sL a p0 b,.func (.func fid1) #[] c.toArray].toArray w.W fun e W'=>∃u:Unit,e= .returned (.tuple #[])∧(r.length=p0.length)∧HF w W' (mF [ow a b 77 bf r]):=
 I4 (ρ:=Tryz.Jv) Tryz.Xn (fun _=>Bp o9) (fun _=>run_sizeOf jy) kQ jA () hg1 hf1 H hE

theorem CK{w:Bs}(p0:aO)(p1:aO)(r:Int)(H:nA p0 p1=some r)(hE:HF w w.W E0):Calls Tryz.prog 38 [.agg #[iv p0.X0,iv p0.Y0,iv p0.X1,iv p0.Y1],.agg #[iv p1.X0,iv p1.Y0,iv p1.X1,iv p1.Y1]].toArray w.W fun e W'=>e= .returned (iv r)∧HF w W' E0:=by
 unfold nA at H
 have leB:=Bs.Le.refl w
 refine aX (n:=10) Tryz.func38 Z Z Z hE (aj (dh 1 (cs:=[iv p0.X0,iv p0.Y0,iv p0.X1,iv p0.Y1]) (wn Z) Z Z Z fun b=>(dh 2 (cs:=[iv p1.X0,iv p1.Y0,iv p1.X1,iv p1.Y1]) (wn Z) Z Z Z fun d=>(Tr.k Z (ae (aa (aj (aD (ag lW) Z (aC Z (fun _ _ a c=>ah bF (a.ev Z) (bN c (vs:=[iv p0.X0,iv p0.Y0,iv p0.X1,iv p0.Y1]) (k:=1) Z 1) Z) (aD (ag lW) Z (aC Z (fun _ _ a c=>ah bF (a.ev Z) (bN c (vs:=[iv p1.X0,iv p1.Y0,iv p1.X1,iv p1.Y1]) (k:=2) Z 1) Z) (av gH Z Z (Tr.k Z (ae (aa (aJ ?_))))))))))))))))
 obtain rfl:=oI H
 exact bD leB

theorem vB{w:Bs}(p0:List Int)(a:Option Addr)(b:Nat)(r:List Int)(H:I1 p0=some r)(hE:HF w w.W (mF [ow a b 3 cK p0])):Calls Tryz.prog 39 [sL a p0 b].toArray w.W fun e W'=>∃u:Unit,e= .returned (.tuple #[])∧(r.length=p0.length)∧HF w W' (mF [ow a b 3 cK r]):=
 Ny (ρ:=Tryz.GH) Tryz.V9 Z lT Gu () H hE

theorem tJ{w:Bs}(p0:List Int)(a:Option Addr)(b:Nat)(r:List Int)(H:WF p0=some r)(hE:HF w w.W (mF [ow a b 3 cK p0])):Calls Tryz.prog 40 [sL a p0 b].toArray w.W fun e W'=>∃u:(Option Addr×Nat),e= .returned (sL u.1 r u.2)∧(fQ u.1 r.length u.2)∧HF w W' (mF [ow u.1 u.2 3 cK r]):=
 I9 (ρ:=Tryz.Ii) Tryz.WH Z lT Gu () H hE

theorem CJ{w:Bs}(p0:aO)(q0:(List Int))(Aq0_0:Option Addr)(cq0_0:Nat)(Ma:Sl w.R w.W cK Aq0_0 cq0_0 q0)(xI:Nat)(hb0:w.R xI)(hc0:aI w.W xI 0 [sL Aq0_0 q0 cq0_0])(q1:Int)(SX:Nat)(hb1:w.R SX)(hc1:aI w.W SX 0 [iv q1])(r:Bool)(H:nz p0 q0 q1=some r)(hE:HF w w.W E0):Calls Tryz.prog 42 [.agg #[iv p0.X0,iv p0.Y0,iv p0.X1,iv p0.Y1],pV xI,pV SX].toArray w.W fun e W'=>e= .returned (bV r)∧HF w W' E0:=by
 unfold nz at H
 have leB:=Bs.Le.refl w
 refine aX (n:=12) Tryz.func42 Z Z Z hE (aj (dh 1 (cs:=[iv p0.X0,iv p0.Y0,iv p0.X1,iv p0.Y1]) (wn Z) Z Z Z fun h=>(Tr.k Z (ae (aa (az (fZ (by kernel_rfl) (by kernel_rfl) (dD (ag qw) Z (bL Z (fun _ _ a c=>ah bF (a.ev Z) (bN c (vs:=[iv p0.X0,iv p0.Y0,iv p0.X1,iv p0.Y1]) (k:=1) Z 3) Z) (bL Z (fun _ _ a c=>ah o7 (a.ev Z) (tY hb0 hc0 c) Z) (bL Z (fun _ _ a c=>ah bF (a.ev Z) (tY hb1 hc1 c) Z) ?_)))))))))))
 obtain⟨i,g,H⟩:=bnd H
 obtain⟨b,d,f⟩:=bJ g
 refine bL Z (fun _ _ a c=>aB lF (a.ev Z) Ma.form (a.ev Z) b d) (bL Z (fun _ _ a c=>ah bF (a.ev Z) (pq lT Ma f c) Z) (dL iT Z Z (jB Z Z (gz (aa (aJ ?_))))))
 obtain rfl:=oI H
 exact bD leB

theorem ry{w:Bs}(p0:(List aO))(g:Option Addr)(i:Nat)(f:Sl w.R w.W bf g i p0)(p1:aO→Option Bool)(fid1:Nat)(j:List Value)(hg1:∀args W,(callFunc fid1 args).run Tryz.prog W= .ok (.enter fid1 args) W)(hf1:∀(w':Bs),w.Ext w'→∀(z0:aO),∀y,p1 z0=some y→Calls Tryz.prog fid1 (([.agg #[iv z0.X0,iv z0.Y0,iv z0.X1,iv z0.Y1]]:List Value)++j).toArray w'.W fun e W''=>e= .returned (bV y)∧HF w' W'' E0)(r:Int)(H:jN p0 p1=some r)(hE:HF w w.W E0):Calls Tryz.prog 90 [sL g p0 i,.func (.func fid1) #[] j.toArray].toArray w.W fun e W'=>e= .returned (iv r)∧HF w W' E0:=by
 unfold jN at H
 have leB:=Bs.Le.refl w
 refine aX (n:=19) Tryz.func90 Z Z Z hE (aj (Tr.k Z (ae (aa (az (aj (aA Z (aD (bA o8) Z (aA Z (ae (aa (Tr.block (cO (σ:=(List aO)×Nat) (fun m w s=>m=s.1.length+1∧s.1=List.drop s.2 p0∧s.2≤p0.length∧eD p1 s.1 s.2=some r) (fun s=>[(0,sL g p0 i),(1,.func (.func fid1) #[] j.toArray),(7,iv (p0.length:Int)),(8,iv (s.2:Int))]) (fun s=>[]) (p0.length+1) (p0,0) ⟨Z,Z,Nat.zero_le _,H⟩ (.r Z) .nil (fun _ _ h=>absurd h.1 (by simp)) ?_)))))))))))))
 intro w l m s hs
 obtain⟨b,q⟩:=s
 obtain⟨p,d,v,H⟩:=hs
 replace d:b=List.drop q p0:=d
 replace H:eD p1 b q=some r:=H
 replace p:m+1=b.length+1:=p
 replace f:=f.iR l
 replace hf1:=fun w' he=>hf1 w' (l.ext.trans he)
 replace leB:=leB.trans l
 obtain rfl:m=b.length:=by omega
 clear p
 dsimp only
 cases b with
 |nil=>
  rw[eD.eq_1] at H
  refine aj (av bi Z Z (ae (aa (az (dn Z (cz d) (bZ (aF (aF (bg (aa (aj (Tr.k Z (ae (aa (aJ ?_)))))))))))))))
  obtain rfl:=oI H
  exact bD leB
 | cons o b=>
  rw[eD.eq_2] at H
  refine aj (av bi Z Z (ae (aa (az (dm Z (dz d) (aM (aa (az (Tr.block (aj (aA Z (Tr.k Z (ae (aa (aj (aA Z (aA Z (aA Z (aC Z (fun _ _ a c=>aB sH (a.ev Z) f.form (a.ev Z) (Int.natCast_nonneg _) (bq d)) (aC Z (fun _ _ a c=>aL (cs:=[iv o.X0,iv o.Y0,iv o.X1,iv o.Y1]) o9 jy (a.ev Z) (aI.take (pq kQ f (dA d) c) 4) Z) ?_))))))))))))))))))))
  obtain⟨u,t,H⟩:=bnd H
  refine kC (r:=(bV u)) (wn Z) Z Z hg1 (ak Z aH) (fun W hW=>hf1 hW.all hW.aY o _ t) (ae (aa (aN Z H (fun H=>?_) (fun H=>?_))))
  ·refine aj (aA Z (Tr.k Z (ae (aa (aJ (au (ai (ai (au (ai ?_))))))))))
   obtain rfl:=oI H
   exact bD leB
  ·exact aM (aQ (aa (aV (av bE Z Z (aA Z (ae (aP l (b,(q+1)) ⟨Z,df d,bq d,H⟩ (.cons Z (.cons Z (.cons Z (.cons (congrArg (fun z=>some (Value.int .i64 z)) (cZ d f.form)) .nil)))) .nil)))))))

theorem vR(N:Nat){w:Bs}(p0:(List aO))(d:Option Addr)(f:Nat)(p1:aO→Option Bool)(fid1:Nat)(v:List Value)(hg1:∀args W,(callFunc fid1 args).run Tryz.prog W= .ok (.enter fid1 args) W)(hf1:∀(w':Bs),w.Ext w'→∀(z0:aO),∀y,p1 z0=some y→Calls Tryz.prog fid1 (([.agg #[iv z0.X0,iv z0.Y0,iv z0.X1,iv z0.Y1]]:List Value)++v).toArray w'.W fun e W''=>e= .returned (bV y)∧HF w' W'' E0)(r:(List aO))(H:jE N p0 p1=some r)(hE:HF w w.W (mF [ow d f 77 bf p0])):Calls Tryz.prog 41 [sL d p0 f,.func (.func fid1) #[] v.toArray].toArray w.W fun e W'=>∃u:(Option Addr×Nat),e= .returned (sL u.1 r u.2)∧(fQ u.1 r.length u.2)∧HF w W' (mF [ow u.1 u.2 77 bf r]):=by
 unfold jE at H
 have E:=(hE.sl (k:=0) Z).form
 have leB:=Bs.Le.refl w
 refine aX (n:=42) Tryz.func41 Z Z Z hE (aj (Tr.k Z (bY 1 77 bf ?_)))
 show Tr _ _ (uf _ 4 (sL none (([]:List aO)) 0)) _ _
 refine ae (aa (aj (aA Z (aA Z ?_))))
 obtain⟨F,X,H⟩:=bnd H
 refine aS (r:=(iv F)) (wn Z) Z Tryz.call90 (ak Z (ak Z aH)) (fun W hW=>ry p0 d f (hW.wo (k:=0) Z) p1 fid1 v hg1 (fun w' he=>hf1 w' (hW.aY.trans he)) F X (HF.start _)) (Tr.k Z (ae (aa (az (aj (aA Z (av dM Z Z (ae (aa (aN Z H (fun H=>?_) (fun H=>?_)))))))))))
 ·refine aj (aA Z (Tr.k Z (ae (aa (aJ (ai ?_))))))
  obtain rfl:=oI H
  exact bR (m:=[sL d p0 f]) [] (bu Z bG) (fun W hW=>⟨(d,f),Z,E,HF.qC leB (hW.pick (ks:=[0]) (by decide) (bn Z bO)) ⟨lD _ _ _ _ jA,trivial⟩⟩)
 ·refine aM (aa (az (aj (aA Z (av bE Z Z (Tr.k Z (ae (aa (Tr.block (cO (σ:=(List aO)×Int×Int) (fun m w s=>eT p1 m s.1 s.2.1 s.2.2=some r∧s.1.length=p0.length) (fun s=>[(0,sL d s.1 f),(1,.func (.func fid1) #[] v.toArray),(5,iv s.2.1),(6,iv s.2.2)]) (fun s=>[(0,ow d f 77 bf s.1)]) N (p0,F,(bP (F+1))) ⟨H,Z⟩ (.r Z) (.r Z) (fun _ _ h=>oq (h.1)) ?_))))))))))
  intro w G a4 s hs
  obtain⟨g,j,o⟩:=s
  obtain⟨H,A⟩:=hs
  replace H:eT p1 (a4+1) g j o=some r:=H
  replace hf1:=fun w' he=>hf1 w' (G.ext.trans he)
  replace leB:=leB.trans G
  replace A:g.length=p0.length:=A
  have z:fQ d g.length f:=(by rw[A];exact E)
  rw[eT.eq_2] at H
  dsimp only
  refine az (aj (aA Z (aA Z (aD (bA o8) Z (av bi Z Z (ae (aa (aN Z H (fun H=>?_) (fun H=>?_)))))))))
  ·refine aM (aa (az (Tr.block (aj (aA Z (aA Z ?_))))))
   obtain⟨b,a7,H⟩:=bnd H
   obtain⟨M,O,P⟩:=bJ a7
   refine aC Z (fun _ _ a c=>aB sH (a.ev Z) z (a.ev Z) M O) (aC Z (fun _ _ a c=>aL (cs:=[iv b.X0,iv b.Y0,iv b.X1,iv b.Y1]) o9 jy (a.ev Z) (aI.take (GY kQ (k:=0) c Z P) 4) Z) (Tr.alloc 4 (wn Z) Z tQ fun Q=>(bv 4 (cs:=[iv b.X0,iv b.Y0,iv b.X1,iv b.Y1]) [iv b.X0,iv b.Y0,iv b.X1,iv b.Y1] (wn Z) Z Z Z Z jy Z Z Z (ae (aa (aj (aA Z (aC Z (fun _ _ a c=>aL (cs:=[iv b.X0,iv b.Y0,iv b.X1,iv b.Y1]) o9 jy (a.ev Z) (aI.take (bN c (vs:=[iv b.X0,iv b.Y0,iv b.X1,iv b.Y1]) (k:=4) Z 0) 4) Z) ?_))))))))
   obtain⟨K,a0,H⟩:=bnd H
   refine kC (r:=(bV K)) (wn Z) Z Z hg1 (ak Z aH) (fun W hW=>hf1 hW.all hW.aY b _ a0) (aD bT Z (ae (aa (aN Z H (fun H=>?_) (fun H=>?_)))))
   ·refine aj (aA Z (aA Z (aC Z (fun _ _ a c=>aL (cs:=[iv b.X0,iv b.Y0,iv b.X1,iv b.Y1]) o9 jy (a.ev Z) (aI.take (bN c (vs:=[iv b.X0,iv b.Y0,iv b.X1,iv b.Y1]) (k:=4) Z 0) 4) Z) ?_)))
    obtain⟨a6,a1,H⟩:=bnd H
    obtain⟨S,T,U⟩:=bJ a1
    refine aC Z (fun _ _ a c=>aB sH (a.ev Z) z (a.ev Z) S T) ?_
    obtain⟨B,L,H⟩:=bnd H
    have q:=Dh L
    refine zf 0 (t:=bf) (l:=g) (i:=j) (fo:=0) (cs:=[iv b.X0,iv b.Y0,iv b.X1,iv b.Y1]) b (wn Z) Z Z Z Z Z U jy Z (fun u _=>⟨u,trivial,Z⟩) Z L ?_
    have a5:fQ d B.length f:=by rw[q];exact z
    have V:=q.trans A
    exact Tr.EM (lf:=[(0,sL d B f),(1,.func (.func fid1) #[] v.toArray),(5,iv j),(6,iv o),(7,pV Q),(16,iv o),(17,sL d B f),(18,iv (g.length:Int)),(19,bV (decide (o<(g.length:Int)))),(22,sL d B f),(23,iv o),(25,.agg #[iv b.X0,iv b.Y0,iv b.X1,iv b.Y1]),(26,.func (.func fid1) #[] v.toArray),(27,.agg #[iv b.X0,iv b.Y0,iv b.X1,iv b.Y1]),(28,bV K),(29,bV (!K)),(30,sL d B f),(31,iv j),(32,.agg #[iv b.X0,iv b.Y0,iv b.X1,iv b.Y1])]) (le:=[(0,ow d f 77 bf B),(4,bx Q #[iv b.X0,iv b.Y0,iv b.X1,iv b.Y1] 77)]) (.cons (pG Z (by unfold sL;rw[q])) (.cons Z (.cons Z (.cons Z (.cons Z (.cons Z (.cons (pG Z (by unfold sL;rw[q])) (.cons Z (.cons Z (.cons (pG Z (by unfold sL;rw[q])) (.cons Z (.cons Z (.cons Z (.cons Z (.cons Z (.cons Z (.cons (pG Z (by unfold sL;rw[q])) (.r Z)))))))))))))))))) (.r Z) (ae (aa (aV (aA Z (av bE Z Z (Tr.k Z (ae (aQ (aa (aV (aA Z (av bE Z Z (Tr.k Z (ae (aP G (B,(bP (j+1)),(bP (o+1))) ⟨H,V⟩ (.r Z) (.r Z))))))))))))))))
   ·exact aM (aQ (aa (aV (aA Z (av bE Z Z (Tr.k Z (ae (aP G (g,j,(bP (o+1))) ⟨H,A⟩ (.r Z) (.r Z)))))))))
  ·refine bZ (aF (aF (bg (aa (aj (aA Z (aA Z ?_)))))))
   obtain⟨C,I,H⟩:=bnd H
   refine aC Z (fun _ _ a c=>Aa sH (a.ev Z) z (a.ev Z) I) ?_
   have p:=UW (aO.mk 0 0 0 0) I
   refine MX 0 (lo:=j) (t:=bf) (l:=g) (aO.mk 0 0 0 0) (wn Z) Z I Z o8 tQ ⟨(),jA _ _ _ _,kQ _ _⟩ Z Z ?_
   have D:fQ d ((SK g j C.length (aO.mk 0 0 0 0))).length f:=by rw[p];exact z
   have a2:=p.trans A
   refine Tr.EM (lf:=[(0,sL d ((SK g j C.length (aO.mk 0 0 0 0))) f),(1,.func (.func fid1) #[] v.toArray),(5,iv j),(6,iv o),(16,iv o),(17,sL d ((SK g j C.length (aO.mk 0 0 0 0))) f),(18,iv (g.length:Int)),(19,bV (decide (o<(g.length:Int)))),(36,sL d ((SK g j C.length (aO.mk 0 0 0 0))) f),(37,iv j)]) (le:=[(0,ow d f 77 bf (SK g j C.length (aO.mk 0 0 0 0)))]) (.cons (pG Z (by unfold sL;rw[p])) (.cons Z (.cons Z (.cons Z (.cons Z (.cons (pG Z (by unfold sL;rw[p])) (.cons Z (.cons Z (.cons (pG Z (by unfold sL;rw[p])) (.r Z)))))))))) (.r Z) (ae (aa (aj (aA Z (aA Z ?_)))))
   obtain⟨a3,J,H⟩:=bnd H
   refine aC Z (fun _ _ a c=>Gd sH (a.ev Z) D (a.ev Z) J) (Tr.k Z (ae (aa (aJ ?_))))
   obtain rfl:=oI H
   exact IG 0 J Z (bR (m:=[sL d a3 f]) [] (bu Z bG) (fun W hW=>⟨(d,f),Z,(G6 D J),HF.qC leB (hW.pick (ks:=[0]) (by decide) (bn Z bO)) ⟨lD _ _ _ _ jA,trivial⟩⟩))

theorem zl{w:Bs}(p0:aO)(p1:aO)(r:Int)(H:kE p0 p1=some r)(hE:HF w w.W E0):Calls Tryz.prog 92 [.agg #[iv p0.X0,iv p0.Y0,iv p0.X1,iv p0.Y1],.agg #[iv p1.X0,iv p1.Y0,iv p1.X1,iv p1.Y1]].toArray w.W fun e W'=>e= .returned (iv r)∧HF w W' E0:=by
 unfold kE at H
 have leB:=Bs.Le.refl w
 refine aX (n:=10) Tryz.func92 Z Z Z hE (aj (dh 1 (cs:=[iv p0.X0,iv p0.Y0,iv p0.X1,iv p0.Y1]) (wn Z) Z Z Z fun b=>(dh 2 (cs:=[iv p1.X0,iv p1.Y0,iv p1.X1,iv p1.Y1]) (wn Z) Z Z Z fun d=>(Tr.k Z (ae (aa (aj (aD (ag kU) Z (aC Z (fun _ _ a c=>ah bF (a.ev Z) (bN c (vs:=[iv p0.X0,iv p0.Y0,iv p0.X1,iv p0.Y1]) (k:=1) Z 0) Z) (aD (ag kU) Z (aC Z (fun _ _ a c=>ah bF (a.ev Z) (bN c (vs:=[iv p1.X0,iv p1.Y0,iv p1.X1,iv p1.Y1]) (k:=2) Z 0) Z) (av gH Z Z (Tr.k Z (ae (aa (aJ ?_))))))))))))))))
 obtain rfl:=oI H
 exact bD leB

theorem AX{w:Bs}(p0:(List aO))(f:Option Addr)(g:Nat)(r:((List Int)×(List aO)))(H:kI p0=some r)(hE:HF w w.W (mF [ow f g 77 bf p0,emp])):Calls Tryz.prog 44 [sL f p0 g].toArray w.W fun e W'=>∃u:(Option Addr×Nat),e= .returned (sL u.1 r.1 u.2)∧(fQ u.1 r.1.length u.2∧r.2.length=p0.length)∧HF w W' (mF [ow f g 77 bf r.2,ow u.1 u.2 3 cK r.1]):=by
 unfold kI at H
 have Q:=(hE.sl (k:=0) Z).form
 have leB:=Bs.Le.refl w
 refine aX (n:=48) Tryz.func44 Z Z Z hE (aj (Tr.k Z (bY 1 3 cK ?_)))
 show Tr _ _ (uf _ 2 (sL none (([]:List Int)) 0)) _ _
 refine ae (aa (aj (aA Z ?_)))
 obtain⟨d,a7,H⟩:=bnd H
 refine kz [0] [ow f g 77 bf p0] (U:=Unit) (fun u=>(.tuple #[])) (fun u=>d.length=p0.length) (fun u=>[ow f g 77 bf d]) Z (bn Z bO) (fun _=>Z) (wn Z) Z Tryz.call37 (ak Z (ak Z aH)) (fun W hW hp hE=>nW p0 f g (fun z0 z1=>kE z0 z1) 92 [] Tryz.call92 (fun w' he z0 z1 y hy=>zl z0 z1 y hy (HF.start _)) d a7 hE) ?_
 intro u hu
 have L:=hu
 have A:d.length=p0.length:=L --@phi
 have C:fQ f d.length g:=by rw[A];exact Q
 have K:=A.trans Z
 show Tr _ _ (uf _ 8 (.tuple #[])) (up _ 0 (ow f g 77 bf d)) _
 refine Tr.EM (lf:=[(0,sL f d g),(2,sL none (([]:List Int)) 0),(7,sL f d g),(8,(.tuple #[]))]) (le:=[(0,ow f g 77 bf d),(1,ow none 0 3 cK ([]:List Int))]) (.cons (pG Z (by unfold sL;rw[A])) (.cons Z (.cons (pG Z (by unfold sL;rw[A])) (.r Z)))) (.r Z) (ae (aa (aj (Tr.k Z (bY 2 3 cK ?_)))))
 show Tr _ _ (uf _ 3 (sL none (([]:List Int)) 0)) _ _
 refine ae (aa (az (aj (aA Z (aD (bA o8) Z (aA Z (ae (aa (Tr.block (cO (σ:=(List aO)×Nat×(List Int)×(Option Addr)×Nat) (fun m w s=>m=s.1.length+1∧s.1=List.drop s.2.1 d∧s.2.1≤d.length∧gL d s.1 s.2.1 s.2.2.1=some r∧fQ s.2.2.2.1 s.2.2.1.length s.2.2.2.2) (fun s=>[(3,sL s.2.2.2.1 s.2.2.1 s.2.2.2.2),(9,sL f d g),(10,iv (d.length:Int)),(11,iv (s.2.1:Int))]) (fun s=>[(0,ow f g 77 bf d),(2,ow s.2.2.2.1 s.2.2.2.2 3 cK s.2.2.1)]) (d.length+1) (d,0,([]:List Int),none,0) ⟨Z,Z,Nat.zero_le _,H,fP⟩ (.r Z) (.r Z) (fun _ _ h=>absurd h.1 (by simp)) ?_))))))))))
 intro w M m s hs
 obtain⟨q,G,p,j,o⟩:=s
 obtain⟨N,v,b5,H,B⟩:=hs
 replace v:q=List.drop G d:=v
 replace H:gL d q G p=some r:=H
 replace N:m+1=q.length+1:=N
 replace leB:=leB.trans M
 replace B:fQ j p.length o:=B
 obtain rfl:m=q.length:=by omega
 clear N
 dsimp only
 cases q with
 |nil=>
  rw[gL.eq_1] at H
  refine aj (av bi Z Z (ae (aa (az (dn Z (cz v) (bZ (aF (aF (bg (aa (aj (aA Z (Tr.k Z (ae (aa (aJ ?_))))))))))))))))
  obtain rfl:=oI H
  exact bR (m:=[sL j p o]) [] (bu Z bG) (fun W hW=>⟨(j,o),Z,⟨B,K⟩,HF.qC leB (hW.pick (ks:=[0,2]) (by decide) (bn Z (bn Z bO))) ⟨lD _ _ _ _ jA,lD _ _ _ _ Gu,trivial⟩⟩)
 | cons b q=>
  rw[gL.eq_2] at H
  refine aj (av bi Z Z (ae (aa (az (dm Z (dz v) (aM (aa (az (Tr.block (aj (aC Z (fun _ _ a c=>aB sH (a.ev Z) C (a.ev Z) (Int.natCast_nonneg _) (bq v)) (aC Z (fun _ _ a c=>aL (cs:=[iv b.X0,iv b.Y0,iv b.X1,iv b.Y1]) o9 jy (a.ev Z) (aI.take (GY kQ (k:=0) c Z (dA v)) 4) Z) (Tr.alloc 7 (wn Z) Z tQ fun I=>(bv 7 (cs:=[iv b.X0,iv b.Y0,iv b.X1,iv b.Y1]) [iv b.X0,iv b.Y0,iv b.X1,iv b.Y1] (wn Z) Z Z Z Z jy Z Z Z (ae (aa (aj (aA Z (aD (bA ni) Z (av gH Z Z (Tr.k Z (ae (aa (az (fZ (by kernel_rfl) (by kernel_rfl) (dY Z (dL kG Z Z (dY Z ?_))))))))))))))))))))))))))))
  obtain⟨S,D,H⟩:=bnd H
  refine mi 8 [(3,sL j p o),(5,pV I),(6,iv (bP ((p.length:Int)-1))),(9,sL f d g),(10,iv (d.length:Int)),(11,iv (G:Int)),(28,bV S)] ?_ ?_
  ·cases O:(decide (0≤(bP ((p.length:Int)-1))))
   ·rw[O] at D
    rw[if_neg (by decide)] at D
    have H:=D
    obtain rfl:=oI H
    exact bB Z (bB Z (bB Z (bB Z (bB Z (bB Z (bB Z (dL aU Z Z (bK (.r Z)))))))))
   ·rw[O] at D
    rw[if_pos Z] at D
    have H:=D
    refine dJ (ag kU) Z (Tq.x (fun _ _ a c=>ah bF (a.ev Z) (bN c (vs:=[iv b.X0,iv b.Y0,iv b.X1,iv b.Y1]) (k:=7) Z 0) Z) (dJ run_move Z (dJ run_move Z ?_)))
    obtain⟨b6,a8,H⟩:=bnd H
    obtain⟨T,V,X⟩:=bJ a8
    refine Tq.x (fun _ _ a c=>aB lF (a.ev Z) B (a.ev Z) T V) (Tq.x (fun _ _ a c=>ah bF (a.ev Z) (GY lT (k:=2) c Z X) Z) (lg iT Z Z (dL aT Z Z ?_)))
    obtain rfl:=oI H
    exact bK (.r Z)
  ·refine gz (aa (aN Z H (fun H=>?_) (fun H=>?_)))
   ·refine nP 9 (by kernel_rfl) (by kernel_rfl) (dY Z (dY Z (dY Z (dY Z ?_))))
    obtain⟨J,a9,H⟩:=bnd H
    obtain⟨a',a0,a1⟩:=bJ a9
    refine bL Z (fun _ _ a c=>aB lF (a.ev Z) B (a.ev Z) a' a0) (bL Z (fun _ _ a c=>ah bF (a.ev Z) (GY lT (k:=2) c Z a1) Z) (dD (ag pu) Z (bL Z (fun _ _ a c=>ah bF (a.ev Z) (bN c (vs:=[iv b.X0,iv b.Y0,iv b.X1,iv b.Y1]) (k:=7) Z 2) Z) (bL Z (fun _ _ a c=>xg (a.ev Z) (a.ev Z) _) (gz ?_)))))
    obtain⟨b7,b0,H⟩:=bnd H
    obtain⟨a2,a3,a4⟩:=bJ b0
    refine aC Z (fun _ _ a c=>aB lF (a.ev Z) B (a.ev Z) a2 a3) ?_
    obtain⟨F,P,H⟩:=bnd H
    have E:=Dh P
    refine zf 2 (t:=cK) (l:=p) (i:=(bP ((p.length:Int)-1))) (fo:=0) (cs:=[iv (max J b.X1)]) (max J b.X1) (wn Z) Z Z Z Z Z a4 vM Z (fun u _=>⟨u,trivial,Z⟩) Z P ?_
    have a5:fQ j F.length o:=by rw[E];exact B
    exact Tr.EM (lf:=[(3,sL j F o),(5,pV I),(6,iv (bP ((p.length:Int)-1))),(9,sL f d g),(10,iv (d.length:Int)),(11,iv (G:Int)),(28,bV S),(29,sL j F o),(30,iv (bP ((p.length:Int)-1))),(31,sL j F o),(32,iv (bP ((p.length:Int)-1))),(34,iv J),(35,.pointer (some ⟨I,2,none⟩)),(36,iv b.X1),(37,iv (max J b.X1))]) (le:=[(0,ow f g 77 bf d),(2,ow j o 3 cK F),(7,bx I #[iv b.X0,iv b.Y0,iv b.X1,iv b.Y1] 77)]) (.cons (pG Z (by unfold sL;rw[E])) (.cons Z (.cons Z (.cons Z (.cons Z (.cons Z (.cons Z (.cons (pG Z (by unfold sL;rw[E])) (.cons Z (.cons (pG Z (by unfold sL;rw[E])) (.r Z))))))))))) (.r Z) (ae (aQ (aa (aV (av bE Z Z (aA Z (ae (aP M (q,(G+1),F,j,o) ⟨Z,df v,bq v,H,a5⟩ (.cons Z (.cons Z (.cons Z (.cons (congrArg (fun z=>some (Value.int .i64 z)) (cZ v C)) .nil)))) (.r Z)))))))))
   ·refine aV (aA Z (aD (ag kU) Z (aC Z (fun _ _ a c=>ah bF (a.ev Z) (bN c (vs:=[iv b.X0,iv b.Y0,iv b.X1,iv b.Y1]) (k:=7) Z 0) Z) (aD (ag pu) Z (aC Z (fun _ _ a c=>ah bF (a.ev Z) (bN c (vs:=[iv b.X0,iv b.Y0,iv b.X1,iv b.Y1]) (k:=7) Z 2) Z) (fK 8 (e:=3) (vs:=[(0,iv b.X0),(1,iv b.X1)]) (cs:=[iv b.X0,iv b.X1]) (wn Z) Z (bQ Z (bQ Z dR)) (by kernel_rfl) fun b8=>?_))))))
    obtain⟨b4,b1,H⟩:=bnd H
    exact Tr.append 2 (t:=cK) (l:=p) (l2:=[b.X0,b.X1]) (wn Z) Z Z Z Z (fun W hW=>⟨[[iv b.X0],[iv b.X1]],(.cons ⟨(),trivial,Z⟩ (.cons ⟨(),trivial,Z⟩ .nil)),bN hW (vs:=[iv b.X0,iv b.X1]) (k:=8) Z 0⟩) ni vM PL (by decide) Qi Z b1 fun b2 b3 a6=>(Tr.k Z (ae (aQ (aa (aV (av bE Z Z (aA Z (ae (aP M (q,(G+1),b4,b2,b3) ⟨Z,df v,bq v,H,a6⟩ (.cons Z (.cons Z (.cons Z (.cons (congrArg (fun z=>some (Value.int .i64 z)) (cZ v C)) .nil)))) (.r Z))))))))))

theorem zK{w:Bs}(p0:(List Int))(g:Option Addr)(i:Nat)(f:Sl w.R w.W cK g i p0)(p1:(List Int))(j:Option Addr)(l:Nat)(o:Sl w.R w.W cK j l p1)(r:Bool)(H:nX p0 p1=some r)(hE:HF w w.W E0):Calls Tryz.prog 91 [sL g p0 i,sL j p1 l].toArray w.W fun e W'=>e= .returned (bV r)∧HF w W' E0:=by
 unfold nX at H
 have leB:=Bs.Le.refl w
 refine aX (n:=26) Tryz.func91 Z Z Z hE (aj (Tr.k Z (ae (aa (az (aj (aA Z (aD (bA ni) Z (aA Z (aD (bA ni) Z (av dW Z Z (ae (aa (aN Z H (fun H=>?_) (fun H=>?_)))))))))))))))
 ·refine aj (Tr.k Z (ae (aa (aJ (ai ?_)))))
  obtain rfl:=oI H
  exact bD leB
 ·refine aM (aa (az (aj (aA Z (aD (bA ni) Z (aA Z (ae (aa (Tr.block (cO (σ:=(List Int)×Nat) (fun m w s=>m=s.1.length+1∧s.1=List.drop s.2 p0∧s.2≤p0.length∧gW p1 s.1 s.2=some r) (fun s=>[(0,sL g p0 i),(1,sL j p1 l),(12,iv (p0.length:Int)),(13,iv (s.2:Int))]) (fun s=>[]) (p0.length+1) (p0,0) ⟨Z,Z,Nat.zero_le _,H⟩ (.r Z) .nil (fun _ _ h=>absurd h.1 (by simp)) ?_))))))))))
  intro w p m s hs
  obtain⟨b,t⟩:=s
  obtain⟨q,d,B,H⟩:=hs
  replace d:b=List.drop t p0:=d
  replace H:gW p1 b t=some r:=H
  replace q:m+1=b.length+1:=q
  replace f:=f.iR p
  replace o:=o.iR p
  replace leB:=leB.trans p
  obtain rfl:m=b.length:=by omega
  clear q
  dsimp only
  cases b with
  |nil=>
   rw[gW.eq_1] at H
   refine aj (av bi Z Z (ae (aa (az (dn Z (cz d) (bZ (aF (aF (bg (aa (aj (Tr.k Z (ae (aa (aJ ?_)))))))))))))))
   obtain rfl:=oI H
   exact bD leB
  | cons D b=>
   rw[gW.eq_2] at H
   refine aj (av bi Z Z (ae (aa (az (dm Z (dz d) (aM (aa (az (Tr.block (aj (aA Z (Tr.k Z (ae (aa (az (fZ (by kernel_rfl) (by kernel_rfl) (dY Z (dY Z (bL Z (fun _ _ a c=>aB lF (a.ev Z) f.form (a.ev Z) (Int.natCast_nonneg _) (bq d)) (bL Z (fun _ _ a c=>ah bF (a.ev Z) (pq lT f (dA d) c) Z) (dY Z (dY Z ?_))))))))))))))))))))))
   obtain⟨C,A,H⟩:=bnd H
   obtain⟨u,v,y⟩:=bJ A
   refine bL Z (fun _ _ a c=>aB lF (a.ev Z) o.form (a.ev Z) u v) (bL Z (fun _ _ a c=>ah bF (a.ev Z) (pq lT o y c) Z) (dL dW Z Z (gz (aa (aN Z H (fun H=>?_) (fun H=>?_))))))
   ·refine aj (Tr.k Z (ae (aa (aJ (au (ai (ai (au (ai ?_)))))))))
    obtain rfl:=oI H
    exact bD leB
   ·exact aM (aQ (aa (aV (av bE Z Z (aA Z (ae (aP p (b,(t+1)) ⟨Z,df d,bq d,H⟩ (.cons Z (.cons Z (.cons Z (.cons (congrArg (fun z=>some (Value.int .i64 z)) (cZ d f.form)) .nil)))) .nil)))))))

theorem rA{w:Bs}(p0:(List bz))(f:Option Addr)(g:Nat)(p1:bz)(b:Option Addr)(d:Nat)(C:Sl w.O w.W cK b d p1.Xs)(r:(List bz))(H:gm p0 p1=some r)(hE:HF w w.W (mF [ow f g 121 aW p0])):Calls Tryz.prog 43 [sL f p0 g,.agg #[iv p1.Y0,iv p1.Y1,sL b p1.Xs d]].toArray w.W fun e W'=>∃(w':Bs) (u:(Option Addr×Nat)),w.Le w'∧e= .returned (sL u.1 r u.2)∧(fQ u.1 r.length u.2)∧HF w' W' (mF [ow u.1 u.2 121 aW r]):=by
 unfold gm at H
 have h:=(hE.sl (k:=0) Z).form
 have leB:=Bs.Le.refl w
 refine aX (n:=54) Tryz.func43 Z Z Z hE (aj (dh 1 (cs:=[iv p1.Y0,iv p1.Y1,sL b p1.Xs d]) (wn Z) Z Z Z fun j=>(Tr.k Z (bY 2 121 aW ?_))))
 show Tr _ _ (uf _ 4 (sL none (([]:List bz)) 0)) _ _
 refine ae (aa (az (aj (aD (ag pJ) Z (aC Z (fun _ _ a c=>ah o7 (a.ev Z) (bN c (vs:=[iv p1.Y0,iv p1.Y1,sL b p1.Xs d]) (k:=1) Z 2) Z) (aD (bA ni) Z (av dM Z Z (aA Z (bM 6 [(0,sL f p0 g),(3,pV j),(16,bV (((p1.Xs.length:Int)==0)||(decide (p1.Y1≤p1.Y0))))] [(0,ow f g 121 aW p0),(1,bx j #[iv p1.Y0,iv p1.Y1,sL b p1.Xs d] 121),(2,ow none 0 121 aW ([]:List bz))] ?_ ?_)))))))))
 ·cases p:((p1.Xs.length:Int)==0)
  ·exact bC (ag q9) Z (Tr.x (fun _ _ a c=>ah bF (a.ev Z) (bN c (vs:=[iv p1.Y0,iv p1.Y1,sL b p1.Xs d]) (k:=1) Z 1) Z) (bC (ag vw) Z (Tr.x (fun _ _ a c=>ah bF (a.ev Z) (bN c (vs:=[iv p1.Y0,iv p1.Y1,sL b p1.Xs d]) (k:=1) Z 0) Z) (dI iT Z Z (av aU Z Z (ae (aR (.r Z) (.r Z))))))))
  ·exact aG Z (aG Z (aG Z (aG Z (aG Z (av aT Z Z (ae (aR (.r Z) (.r Z))))))))
 ·show Tr _ _ (LF [(0,sL f p0 g),(3,pV j),(16,bV (((p1.Xs.length:Int)==0)||(decide (p1.Y1≤p1.Y0))))]) (LE [(0,ow f g 121 aW p0),(1,bx j #[iv p1.Y0,iv p1.Y1,sL b p1.Xs d] 121),(2,ow none 0 121 aW ([]:List bz))]) _
  refine ae (aa (aN Z H (fun H=>?_) (fun H=>?_)))
  ·refine aj (aA Z (Tr.k Z (ae (aa (aJ (ai ?_))))))
   obtain rfl:=oI H
   exact bR (m:=[sL f p0 g]) [] (bu Z bG) (fun W hW=>⟨w,(f,g),leB,Z,h,hW.pick (ks:=[0]) (by decide) (bn Z bO)⟩)
  ·refine aM (aa (az (aj (aA Z (aD (bA ve) Z (av gH Z Z (Tr.k Z (ae (aa (az (fZ (by kernel_rfl) (by kernel_rfl) (dY Z (dL kG Z Z (dY Z ?_))))))))))))))
   obtain⟨I,q,H⟩:=bnd H
   refine mi 9 [(0,sL f p0 g),(3,pV j),(5,iv (bP ((p0.length:Int)-1))),(32,bV I)] ?_ ?_
   ·cases p:(decide (0≤(bP ((p0.length:Int)-1))))
    ·rw[p] at q
     rw[if_neg (by decide)] at q
     have H:=q
     obtain rfl:=oI H
     exact bB Z (bB Z (bB Z (bB Z (bB Z (bB Z (bB Z (bB Z (dL aU Z Z (bK (.r Z))))))))))
    ·rw[p] at q
     rw[if_pos Z] at q
     have H:=q
     refine dJ run_move Z (dJ run_move Z ?_)
     obtain⟨b1,a3,H⟩:=bnd H
     obtain⟨J,K,L⟩:=bJ a3
     refine Tq.x (fun _ _ a c=>aB rY (a.ev Z) h (a.ev Z) J K) (dJ (ag q9) Z (Tq.x (fun _ _ a c=>(HF.Yu (k:=0) c Z L).elim fun u hu=>ah bF (a.ev Z) (hu.2.drop 1) Z) (dJ (ag vw) Z (Tq.x (fun _ _ a c=>ah bF (a.ev Z) (bN c (vs:=[iv p1.Y0,iv p1.Y1,sL b p1.Xs d]) (k:=1) Z 0) Z) (lg dM Z Z (dL aT Z Z ?_))))))
     obtain rfl:=oI H
     exact bK (.r Z)
   ·refine dY Z ?_
    obtain⟨M,s,H⟩:=bnd H
    refine mi 9 [(0,sL f p0 g),(3,pV j),(5,iv (bP ((p0.length:Int)-1))),(42,bV M)] ?_ ?_
    ·cases p:I
     ·rw[p] at s
      rw[if_neg (by decide)] at s
      have H:=s
      obtain rfl:=oI H
      exact bB Z (bB Z (bB Z (bB Z (bB Z (bB Z (bB Z (bB Z (dL aU Z Z (bK (.r Z))))))))))
     ·rw[p] at s
      rw[if_pos Z] at s
      have H:=s
      refine dJ run_move Z (dJ run_move Z ?_)
      obtain⟨y,a4,H⟩:=bnd H
      obtain⟨N,P,Q⟩:=bJ a4
      refine Tq.x (fun _ _ a c=>aB rY (a.ev Z) h (a.ev Z) N P) (dJ (ag pJ) Z (U6 (U:=(aW).Ad) (fun u=>(aW).ok w.O w.W u y) (fun u=>(sL u.1 y.Xs u.2)) (wg Z Z Z) Z (YA (κ:=0) (t:=aW) (V:=fun u=>(sL u.1 y.Xs u.2)) Z Q (fun _ _ u a hc=>ah o7 (a.ev Z) (hc.drop 2) Z)) ?_))
      intro a8 G
      obtain⟨z,A⟩:=a8
      have o:=G
      replace o:Sl w.O w.W cK z A y.Xs:=o
      dsimp only
      refine dJ (ag pJ) Z (Tq.x (fun _ _ a c=>ah o7 (a.ev Z) (bN c (vs:=[iv p1.Y0,iv p1.Y1,sL b p1.Xs d]) (k:=1) Z 2) Z) ?_)
      obtain⟨S,a5,H⟩:=bnd H
      refine lH (r:=(bV S)) (wg Z Z Z) Z Tryz.call91 (ak Z (ak Z aH)) (fun W hW=>zK y.Xs z A (o.rl.ext hW.aY) p1.Xs b d (C.rl.ext hW.aY) S a5 (HF.start _)) (dL aT Z Z ?_)
      obtain rfl:=oI H
      exact bK (.r Z)
    ·refine gz (aa (aN Z H (fun H=>?_) (fun H=>?_)))
     ·refine aj (aA Z (aA Z (aD (ag q9) Z (aC Z (fun _ _ a c=>ah bF (a.ev Z) (bN c (vs:=[iv p1.Y0,iv p1.Y1,sL b p1.Xs d]) (k:=1) Z 1) Z) ?_))))
      obtain⟨T,a6,H⟩:=bnd H
      obtain⟨X,a',a0⟩:=bJ a6
      refine aC Z (fun _ _ a c=>aB rY (a.ev Z) h (a.ev Z) X a') (aD (ag q9) Z ?_)
      obtain⟨B,D,H⟩:=bnd H
      have v:=Dh D
      refine zf 0 (t:=aW) (l:=p0) (i:=(bP ((p0.length:Int)-1))) (fo:=1) (cs:=[iv p1.Y1]) (bz.mk T.Y0 p1.Y1 T.Xs) (wn Z) Z Z Z Z Z a0 vM Z (fun u hu=>⟨u,hu,Z⟩) Z D ?_
      have a1:fQ f B.length g:=by rw[v];exact h
      have b0:=v.trans Z
      refine Tr.EM (lf:=[(0,sL f B g),(3,pV j),(5,iv (bP ((p0.length:Int)-1))),(42,bV M),(43,sL f B g),(44,iv (bP ((p0.length:Int)-1))),(45,.pointer (some ⟨j,1,none⟩)),(46,iv p1.Y1)]) (le:=[(0,ow f g 121 aW B),(1,bx j #[iv p1.Y0,iv p1.Y1,sL b p1.Xs d] 121),(2,ow none 0 121 aW ([]:List bz))]) (.cons (pG Z (by unfold sL;rw[v])) (.cons Z (.cons Z (.cons Z (.cons (pG Z (by unfold sL;rw[v])) (.r Z)))))) (.r Z) (ae (aa (aj (aA Z (Tr.k Z (ae (aa (aJ (ai ?_)))))))))
      obtain rfl:=oI H
      exact bR (m:=[sL f B g]) [] (bu Z bG) (fun W hW=>⟨w,(f,g),leB,Z,a1,hW.pick (ks:=[0]) (by decide) (bn Z bO)⟩)
     ·refine aM (aa (aj (aA Z (aC Z (fun _ _ a c=>aL (cs:=[iv p1.Y0,iv p1.Y1,sL b p1.Xs d]) K3 zV (a.ev Z) (aI.take (bN c (vs:=[iv p1.Y0,iv p1.Y1,sL b p1.Xs d]) (k:=1) Z 0) 3) Z) (fK 3 (e:=121) (vs:=[(0,.agg #[iv p1.Y0,iv p1.Y1,sL b p1.Xs d])]) (cs:=[iv p1.Y0,iv p1.Y1,sL b p1.Xs d]) (wn Z) Z (bQ Z dR) (by kernel_rfl) fun b2=>?_)))))
      obtain⟨a9,a7,H⟩:=bnd H
      refine Tr.append 0 (t:=aW) (l:=p0) (l2:=[p1]) (wn Z) Z Z Z Z (fun W hW=>⟨[[iv p1.Y0,iv p1.Y1,sL b p1.Xs d]],(.cons ⟨(b,d),C,Z⟩ .nil),bN hW (vs:=[iv p1.Y0,iv p1.Y1,sL b p1.Xs d]) (k:=3) Z 0⟩) ve zV VN (by decide) WI Z a7 fun E F a2=>(Tr.k Z (ae (aa (aJ ?_))))
      obtain rfl:=oI H
      exact bR (m:=[sL E a9 F]) [] (bu Z bG) (fun W hW=>⟨w,(E,F),leB,Z,a2,hW.pick (ks:=[0]) (by decide) (bn Z bO)⟩)

theorem rQ(N:Nat){w:Bs}(p0:(List aO))(b8:Option Addr)(b9:Nat)(h3:Sl w.R w.W bf b8 b9 p0)(r:(List bz))(H:jV N p0=some r)(hE:HF w w.W (mF [emp])):Calls Tryz.prog 13 [sL b8 p0 b9].toArray w.W fun e W'=>∃(w':Bs) (u:(Option Addr×Nat)),w.Le w'∧e= .returned (sL u.1 r u.2)∧(fQ u.1 r.length u.2)∧HF w' W' (mF [ow u.1 u.2 121 aW r]):=by
 unfold jV at H
 have leB:=Bs.Le.refl w
 refine aX (n:=83) Tryz.func13 Z Z Z hE (aj (Tr.k Z (bY 1 121 aW ?_)))
 show Tr _ _ (uf _ 2 (sL none (([]:List bz)) 0)) _ _
 refine ae (aa (aj (aA Z ?_)))
 obtain⟨V,h4,H⟩:=bnd H
 refine kz [2] [emp] (U:=(Option Addr×Nat)) (fun u=>(sL u.1 V u.2)) (fun u=>fQ u.1 V.length u.2) (fun u=>[ow u.1 u.2 77 bf V]) Z (bn Z bO) (fun _=>Z) (wn Z) Z Tryz.call36 (ak Z aH) (fun W hW hp hE=>zk p0 b8 b9 (h3.ext (hW.fM hp)) V h4 hE) ?_
 intro u hu
 obtain⟨d,f⟩:=u
 have e6:=hu
 have d3:fQ d V.length f:=e6 --@phi
 dsimp only
 refine Tr.k Z (ae (aa (aj (aA Z ?_))))
 obtain⟨j,h5,H⟩:=bnd H
 refine kz [2] [ow d f 77 bf V] (U:=Unit) (fun u=>(.tuple #[])) (fun u=>j.length=V.length) (fun u=>[ow d f 77 bf j]) Z (bn Z bO) (fun _=>Z) (wn Z) Z Tryz.call37 (ak Z (ak Z aH)) (fun W hW hp hE=>nW V d f (fun z0 z1=>nA z0 z1) 38 [] Tryz.call38 (fun w' he z0 z1 y hy=>CK z0 z1 y hy (HF.start _)) j h5 hE) ?_
 intro u hu
 have d4:=hu
 have a0:j.length=V.length:=d4 --@phi
 have a1:fQ d j.length f:=by rw[a0];exact d3
 show Tr _ _ (uf _ 13 (.tuple #[])) (up _ 2 (ow d f 77 bf j)) _
 refine Tr.EM (lf:=[(0,sL d j f),(2,sL none (([]:List bz)) 0),(10,sL b8 p0 b9),(11,sL d j f),(12,sL d j f),(13,(.tuple #[]))]) (le:=[(1,ow none 0 121 aW ([]:List bz)),(2,ow d f 77 bf j)]) (.cons (pG Z (by unfold sL;rw[a0])) (.cons Z (.cons Z (.cons (pG Z (by unfold sL;rw[a0])) (.cons (pG Z (by unfold sL;rw[a0])) (.r Z)))))) (.r Z) (ae (aa (aj (Tr.alloc 3 (wn Z) Z VY fun C=>(ae (aa (az (aj (aA Z (aD (bA o8) Z (aA Z (ae (aa (Tr.block (bY 12 3 cK (cO (σ:=(List aO)×Nat×(List Int)×(Option Addr)×Nat) (fun m w s=>m=s.1.length+1∧s.1=List.drop s.2.1 j∧s.2.1≤j.length∧je N j s.1 s.2.1 s.2.2.1=some r∧fQ s.2.2.2.1 s.2.2.1.length s.2.2.2.2) (fun s=>[(0,sL d j f),(3,pV C),(14,sL d j f),(15,iv (j.length:Int)),(16,iv (s.2.1:Int))]) (fun s=>[(2,ow d f 77 bf j),(3,bx C #[sL s.2.2.2.1 s.2.2.1 s.2.2.2.2] 113),(12,ow s.2.2.2.1 s.2.2.2.2 3 cK s.2.2.1)]) (j.length+1) (j,0,([]:List Int),none,0) ⟨Z,Z,Nat.zero_le _,H,fP⟩ (.r Z) (.r Z) (fun _ _ h=>absurd h.1 (by simp)) ?_))))))))))))))))
 intro w f2 m s hs
 obtain⟨X,c5,a',F,G⟩:=s
 obtain⟨d5,a2,k1,H,c6⟩:=hs
 replace a2:X=List.drop c5 j:=a2
 replace H:je N j X c5 a'=some r:=H
 replace d5:m+1=X.length+1:=d5
 replace leB:=leB.trans f2
 replace c6:fQ F a'.length G:=c6
 obtain rfl:m=X.length:=by omega
 clear d5
 dsimp only
 cases X with
 | nil=>
  rw[je.eq_1] at H
  refine aj (av bi Z Z (ae (aa (az (dn Z (cz a2) (bZ (aF (aF (bg (aa (aj (aC Z (fun _ _ a c=>ah o7 (a.ev Z) (bN c (vs:=[sL F a' G]) (k:=3) Z 0) Z) ?_))))))))))))
  obtain⟨T,h6,H⟩:=bnd H
  refine kz [12] [ow F G 3 cK a'] (U:=Unit) (fun u=>(.tuple #[])) (fun u=>T.length=a'.length) (fun u=>[ow F G 3 cK T]) Z (bn Z bO) (fun _=>Z) (wn Z) Z Tryz.call39 (ak Z aH) (fun W hW hp hE=>vB a' F G T h6 hE) ?_
  intro u hu
  have d6:=hu
  have a3:T.length=a'.length:=d6 --@phi
  have j1:fQ F T.length G:=by rw[a3];exact c6
  show Tr _ _ (uf _ 29 (.tuple #[])) (up _ 12 (ow F G 3 cK T)) _
  refine Tr.EM (lf:=[(0,sL d j f),(3,pV C),(14,sL d j f),(15,iv (j.length:Int)),(16,iv (c5:Int)),(17,bV (decide ((c5:Int)<(j.length:Int)))),(28,sL F T G),(29,(.tuple #[]))]) (le:=[(2,ow d f 77 bf j),(3,bx C #[sL F T G] 113),(12,ow F G 3 cK T)]) (.cons Z (.cons Z (.cons Z (.cons Z (.cons Z (.cons Z (.cons (pG Z (by unfold sL;rw[a3])) (.r Z)))))))) (.cons Z (.cons (YX Z (by unfold sL;rw[a3])) (.r Z))) (ae (aa (aj (aC Z (fun _ _ a c=>ah o7 (a.ev Z) (bN c (vs:=[sL F T G]) (k:=3) Z 0) Z) ?_))))
  obtain⟨o,h7,H⟩:=bnd H
  refine kz [12] [ow F G 3 cK T] (U:=(Option Addr×Nat)) (fun u=>(sL u.1 o u.2)) (fun u=>fQ u.1 o.length u.2) (fun u=>[ow u.1 u.2 3 cK o]) Z (bn Z bO) (fun _=>Z) (wn Z) Z Tryz.call40 (ak Z aH) (fun W hW hp hE=>tJ T F G o h7 hE) ?_
  intro u hu
  obtain⟨g,i⟩:=u
  have e7:=hu
  have b4:fQ g o.length i:=e7 --@phi
  dsimp only
  refine bv 3 (cs:=[sL g o i]) [sL g o i] (wn Z) Z Z Z Z QV Z Z Z (ae (aa (aj (Tr.k Z (bY 13 121 aW ?_)))))
  show Tr _ _ (uf _ 6 (sL none (([]:List bz)) 0)) _ _
  refine ae (aa (aj (Tr.k Z (bY 14 77 bf ?_))))
  show Tr _ _ (uf _ 7 (sL none (([]:List aO)) 0)) _ _
  refine ae (aa (aj (Tr.k Z (ae (aa (az (aj (Tr.alloc 15 (wn Z) Z Xf fun j2=>(bv 15 (cs:=[iv 0]) [iv 0] (wn Z) Z Z Z Z vM Z Z Z (ae (aa (Tr.block (II 15 29 Z Z Z (cO (σ:=Int×(List bz)×(List aO)×Int×Nat×(Option Addr)×Nat×(Option Addr)×Nat) (fun m w s=>dU N j o m s.1 s.2.1 s.2.2.1 s.2.2.2.1=some r∧fQ s.2.2.2.2.2.1 s.2.1.length s.2.2.2.2.2.2.1∧fQ s.2.2.2.2.2.2.2.1 s.2.2.1.length s.2.2.2.2.2.2.2.2) (fun s=>[(0,sL d j f),(3,pV C),(6,sL s.2.2.2.2.2.1 s.2.1 s.2.2.2.2.2.2.1),(7,sL s.2.2.2.2.2.2.2.1 s.2.2.1 s.2.2.2.2.2.2.2.2),(8,iv s.2.2.2.1),(9,.pointer (some ⟨s.2.2.2.2.1,0,none⟩))]) (fun s=>[(2,ow d f 77 bf j),(3,bx C #[sL g o i] 113),(12,ow g i 3 cK o),(13,ow s.2.2.2.2.2.1 s.2.2.2.2.2.2.1 121 aW s.2.1),(14,ow s.2.2.2.2.2.2.2.1 s.2.2.2.2.2.2.2.2 77 bf s.2.2.1),(29,bx s.2.2.2.2.1 #[iv s.1] 3)]) N (0,([]:List bz),([]:List aO),0,j2,none,0,none,0) ⟨H,fP,fP⟩ (.r Z) (.r Z) (fun _ _ h=>oq (h.1)) ?_))))))))))))))
  intro w a4 f3 s hs
  obtain⟨q,M,c4,d7,L,I,J,c0,c3⟩:=s
  obtain⟨H,c7,k0⟩:=hs
  replace H:dU N j o (f3+1) q M c4 d7=some r:=H
  replace leB:=leB.trans a4
  replace c7:fQ I M.length J:=c7
  rw[dU.eq_2] at H
  dsimp only
  refine az (aj (aC Z (fun _ _ a c=>ah bF (a.ev Z) (bN c (vs:=[iv q]) (k:=29) Z 0) Z) (av bE Z Z (aC Z (fun _ _ a c=>ah o7 (a.ev Z) (bN c (vs:=[sL g o i]) (k:=3) Z 0) Z) (aD (bA ni) Z (av bi Z Z (ae (aa (aN Z H (fun H=>?_) (fun H=>?_))))))))))
  ·refine aM (aa (az (Tr.block (aj (aA Z (rO (vs:=[pV C,pV L]) (wn Z) Z (ak Z (ak Z aH)) ?_))))))
   obtain⟨a5,h8,H⟩:=bnd H
   refine kz [14] [ow c0 c3 77 bf c4] (U:=(Option Addr×Nat)) (fun u=>(sL u.1 a5 u.2)) (fun u=>fQ u.1 a5.length u.2) (fun u=>[ow u.1 u.2 77 bf a5]) Z (bn Z bO) (fun _=>Z) (wn Z) Z Tryz.call41 (ak Z (ak Z aH)) (fun W hW hp hE=>vR N c4 c0 c3 (fun z0=>nz z0 o q) 42 [pV C,pV L] Tryz.call42 (fun w' he z0 y hy=>CJ z0 o g i ((hW.TJ (k:=12) Z hp Z).ext he) C (he.r _ (hW.ML (k:=3) Z hp Z)) (he.cells (hW.ML (k:=3) Z hp Z) (hW.UZ (k:=3) Z)) q L (he.r _ (hW.ML (k:=29) Z hp Z)) (he.cells (hW.ML (k:=29) Z hp Z) (hW.UZ (k:=29) Z)) y hy (HF.start _)) a5 h8 hE) ?_
   intro u hu
   obtain⟨a8,a9⟩:=u
   have e8:=hu
   have d8:fQ a8 a5.length a9:=e8 --@phi
   dsimp only
   refine Tr.k Z (ae (aa (az (Tr.block (cO (σ:=(List aO)×Int×(Option Addr)×Nat) (fun m w s=>iA j o q M (dU N j o f3) m s.1 s.2.1=some r∧fQ s.2.2.1 s.1.length s.2.2.2) (fun s=>[(0,sL d j f),(3,pV C),(6,sL I M J),(7,sL s.2.2.1 s.1 s.2.2.2),(8,iv s.2.1),(9,pV L)]) (fun s=>[(2,ow d f 77 bf j),(3,bx C #[sL g o i] 113),(12,ow g i 3 cK o),(13,ow I J 121 aW M),(14,ow s.2.2.1 s.2.2.2 77 bf s.1),(29,bx L #[iv q] 3)]) N (a5,d7,a8,a9) ⟨H,d8⟩ (.r Z) (.r Z) (fun _ _ h=>oq (h.1)) ?_)))))
   intro w f4 j8 s hs
   obtain⟨K,b5,v,A⟩:=s
   obtain⟨H,c8⟩:=hs
   replace H:iA j o q M (dU N j o f3) (j8+1) K b5=some r:=H
   replace a4:=a4.trans f4
   replace c8:fQ v K.length A:=c8
   rw[iA.eq_2] at H
   dsimp only
   refine az (az (fZ (by kernel_rfl) (by kernel_rfl) (dY Z (dY Z (dD (bA o8) Z (dL bi Z Z (dY Z ?_)))))))
   obtain⟨f5,b0,H⟩:=bnd H
   refine mi 11 [(0,sL d j f),(3,pV C),(6,sL I M J),(7,sL v K A),(8,iv b5),(9,pV L),(57,bV f5)] ?_ ?_
   ·cases e4:(decide (b5<(j.length:Int)))
    ·rw[e4] at b0
     rw[if_neg (by decide)] at b0
     have H:=b0
     obtain rfl:=oI H
     exact bB Z (bB Z (bB Z (bB Z (bB Z (bB Z (bB Z (bB Z (bB Z (bB Z (dL aU Z Z (bK (.r Z))))))))))))
    ·rw[e4] at b0
     rw[if_pos Z] at b0
     have H:=b0
     refine dJ run_move Z (dJ run_move Z ?_)
     obtain⟨k2,h9,H⟩:=bnd H
     obtain⟨f6,f7,f8⟩:=bJ h9
     refine Tq.x (fun _ _ a c=>aB sH (a.ev Z) a1 (a.ev Z) f6 f7) (dJ (ag lW) Z (Tq.x (fun _ _ a c=>ah bF (a.ev Z) (aI.drop (GY kQ (k:=2) c Z f8) 1) Z) (Tq.x (fun _ _ a c=>ah o7 (a.ev Z) (bN c (vs:=[sL g o i]) (k:=3) Z 0) Z) (Tq.x (fun _ _ a c=>ah bF (a.ev Z) (bN c (vs:=[iv q]) (k:=29) Z 0) Z) ?_))))
     obtain⟨k3,i0,H⟩:=bnd H
     obtain⟨f9,g0,g1⟩:=bJ i0
     refine Tq.x (fun _ _ a c=>aB lF (a.ev Z) b4 (a.ev Z) f9 g0) (Tq.x (fun _ _ a c=>ah bF (a.ev Z) (GY lT (k:=12) c Z g1) Z) (lg iT Z Z (dL aT Z Z ?_)))
     obtain rfl:=oI H
     exact bK (.r Z)
   ·refine gz (aa (aN Z H (fun H=>?_) (fun H=>?_)))
    ·refine aM (aa (Tr.block (aV (aA Z (aA Z (aA Z ?_))))))
     obtain⟨E,i1,H⟩:=bnd H
     obtain⟨g2,g3,g4⟩:=bJ i1
     refine aC Z (fun _ _ a c=>aB sH (a.ev Z) a1 (a.ev Z) g2 g3) (aC Z (fun _ _ a c=>aL (cs:=[iv E.X0,iv E.Y0,iv E.X1,iv E.Y1]) o9 jy (a.ev Z) (aI.take (GY kQ (k:=2) c Z g4) 4) Z) (fK 32 (e:=77) (vs:=[(0,.agg #[iv E.X0,iv E.Y0,iv E.X1,iv E.Y1])]) (cs:=[iv E.X0,iv E.Y0,iv E.X1,iv E.Y1]) (wn Z) Z (bQ Z dR) (by kernel_rfl) fun k4=>?_))
     obtain⟨j3,i2,H⟩:=bnd H
     exact Tr.append 14 (t:=bf) (l:=K) (l2:=[E]) (wn Z) Z Z Z Z (fun W hW=>⟨[[iv E.X0,iv E.Y0,iv E.X1,iv E.Y1]],(.cons ⟨(),trivial,Z⟩ .nil),bN hW (vs:=[iv E.X0,iv E.Y0,iv E.X1,iv E.Y1]) (k:=32) Z 0⟩) o8 jy Jk (by decide) JX Z i2 fun i3 i4 g5=>(aA Z (av bE Z Z (Tr.k Z (Tr.k Z (ae (aQ (aP f4 (j3,(bP (b5+1)),i3,i4) ⟨H,g5⟩ (.r Z) (.r Z))))))))
    ·refine bZ (aF (aF (bg (aa (ui 13 [(11,(ow v A 77 bf K).S)] [] (by kernel_rfl) (by kernel_rfl) fun b1 j4 j7=>(jk 0 (by kernel_rfl) Z (wn Z) Z (by kernel_rfl) (fun _ _ a=>run_move (a.ev Z)) Z (oJ 1 [(68,sL g o i)] [11] false (by kernel_rfl) Z Z (by kernel_rfl) (fun W W' c hsW hk=>HF.Ac (le:=[(3,bx C #[sL g o i] 113)]) (ks:=[(14,(ow v A 77 bf K).S)]) (s0:=b1) false c hk (fun h=>absurd h (by decide)) (.r Z) (fun b hb=>hb.elim (fun⟨p,hp,hf,hb⟩=>by simp only[List.mem_cons,List.not_mem_nil,or_false] at hp;rcases hp with rfl;exact .inl ⟨_,List.mem_cons_self,hb⟩) (fun hb=>absurd hb.1 (by decide))) (List.forall_mem_cons.2 ⟨fun b hb=>hb,(fun _ h=>nomatch h)⟩) rfl) ?_ rfl rfl ?_)))))))
     ·exact bL Z (fun _ _ a c=>ah o7 (a.ev Z) (bN c (vs:=[sL g o i]) (k:=3) Z 0) Z) (bK (.r Z))
     refine oJ 2 [(69,iv q)] [11] false (by kernel_rfl) Z Z (by kernel_rfl) (fun W W' c hsW hk=>HF.Ac (le:=[(29,bx L #[iv q] 3)]) (ks:=[(14,(ow v A 77 bf K).S)]) (s0:=b1) false c hk (fun h=>absurd h (by decide)) (.r Z) (fun b hb=>hb.elim (fun⟨p,hp,hf,hb⟩=>by simp only[List.mem_cons,List.not_mem_nil,or_false] at hp;rcases hp with rfl;exact .inl ⟨_,List.mem_cons_self,hb⟩) (fun hb=>absurd hb.1 (by decide))) (List.forall_mem_cons.2 ⟨fun b hb=>hb,(fun _ h=>nomatch h)⟩) rfl) ?_ rfl rfl ?_
     ·exact bL Z (fun _ _ a c=>ah bF (a.ev Z) (bN c (vs:=[iv q]) (k:=29) Z 0) Z) (bK (.r Z))
     obtain⟨b6,i5,H⟩:=bnd H
     obtain⟨g6,g7,g8⟩:=bJ i5
     refine jk 3 (by kernel_rfl) Z (wn Z) Z (by kernel_rfl) (fun _ _ a=>aB lF (a.ev Z) b4 (a.ev Z) g6 g7) Z (oJ 4 [(71,iv b6)] [11] false (by kernel_rfl) Z Z (by kernel_rfl) (fun W W' c hsW hk=>HF.Ac (le:=[(12,ow g i 3 cK o)]) (ks:=[(14,(ow v A 77 bf K).S)]) (s0:=b1) false c hk (fun h=>absurd h (by decide)) (.r Z) (fun b hb=>hb.elim (fun⟨p,hp,hf,hb⟩=>by simp only[List.mem_cons,List.not_mem_nil,or_false] at hp;rcases hp with rfl;exact .inl ⟨_,List.mem_cons_self,hb⟩) (fun hb=>absurd hb.1 (by decide))) (List.forall_mem_cons.2 ⟨fun b hb=>hb,(fun _ h=>nomatch h)⟩) rfl) ?_ rfl rfl ?_)
     ·exact bL Z (fun _ _ a c=>ah bF (a.ev Z) (GY lT (k:=12) c Z g8) Z) (bK (.r Z))
     refine oJ 5 [(72,sL g o i)] [11] false (by kernel_rfl) Z Z (by kernel_rfl) (fun W W' c hsW hk=>HF.Ac (le:=[(3,bx C #[sL g o i] 113)]) (ks:=[(14,(ow v A 77 bf K).S)]) (s0:=b1) false c hk (fun h=>absurd h (by decide)) (.r Z) (fun b hb=>hb.elim (fun⟨p,hp,hf,hb⟩=>by simp only[List.mem_cons,List.not_mem_nil,or_false] at hp;rcases hp with rfl;exact .inl ⟨_,List.mem_cons_self,hb⟩) (fun hb=>absurd hb.1 (by decide))) (List.forall_mem_cons.2 ⟨fun b hb=>hb,(fun _ h=>nomatch h)⟩) rfl) ?_ rfl rfl ?_
     ·exact bL Z (fun _ _ a c=>ah o7 (a.ev Z) (bN c (vs:=[sL g o i]) (k:=3) Z 0) Z) (bK (.r Z))
     refine oJ 6 [(73,iv q)] [11] false (by kernel_rfl) Z Z (by kernel_rfl) (fun W W' c hsW hk=>HF.Ac (le:=[(29,bx L #[iv q] 3)]) (ks:=[(14,(ow v A 77 bf K).S)]) (s0:=b1) false c hk (fun h=>absurd h (by decide)) (.r Z) (fun b hb=>hb.elim (fun⟨p,hp,hf,hb⟩=>by simp only[List.mem_cons,List.not_mem_nil,or_false] at hp;rcases hp with rfl;exact .inl ⟨_,List.mem_cons_self,hb⟩) (fun hb=>absurd hb.1 (by decide))) (List.forall_mem_cons.2 ⟨fun b hb=>hb,(fun _ h=>nomatch h)⟩) rfl) ?_ rfl rfl ?_
     ·exact bL Z (fun _ _ a c=>ah bF (a.ev Z) (bN c (vs:=[iv q]) (k:=29) Z 0) Z) (bK (.r Z))
     refine jk 7 (by kernel_rfl) Z (wn Z) Z (by kernel_rfl) (fun _ _ a=>bE (a.ev Z) (a.ev Z)) Z ?_
     obtain⟨b7,i6,H⟩:=bnd H
     obtain⟨g9,h0,h1⟩:=bJ i6
     refine jk 8 (by kernel_rfl) Z (wn Z) Z (by kernel_rfl) (fun _ _ a=>aB lF (a.ev Z) b4 (a.ev Z) g9 h0) Z (oJ 9 [(76,iv b7)] [11] false (by kernel_rfl) Z Z (by kernel_rfl) (fun W W' c hsW hk=>HF.Ac (le:=[(12,ow g i 3 cK o)]) (ks:=[(14,(ow v A 77 bf K).S)]) (s0:=b1) false c hk (fun h=>absurd h (by decide)) (.r Z) (fun b hb=>hb.elim (fun⟨p,hp,hf,hb⟩=>by simp only[List.mem_cons,List.not_mem_nil,or_false] at hp;rcases hp with rfl;exact .inl ⟨_,List.mem_cons_self,hb⟩) (fun hb=>absurd hb.1 (by decide))) (List.forall_mem_cons.2 ⟨fun b hb=>hb,(fun _ h=>nomatch h)⟩) rfl) ?_ rfl rfl ?_)
     ·exact bL Z (fun _ _ a c=>ah bF (a.ev Z) (GY lT (k:=12) c Z h1) Z) (bK (.r Z))
     refine bU 10 [(77,sL v K A)] (by kernel_rfl) Z Z (by kernel_rfl) ?_ Z Z ?_
     ·exact dY Z (bK (.r Z))
     obtain⟨D,i7,H⟩:=bnd H
     refine Dr.one 11 (by kernel_rfl) (TA 11 [14,33] [ow v A 77 bf K,emp] (U:=(Option Addr×Nat)) (fun u=>(sL u.1 D.1 u.2)) (fun u=>fQ u.1 D.1.length u.2∧D.2.length=K.length) (fun u=>[ow v A 77 bf D.2,ow u.1 u.2 3 cK D.1]) Z (bn Z (bn Z bO)) (fun _=>Z) (fun b ⟨e,he,hS⟩=>by simp only[List.mem_cons,List.not_mem_nil,or_false] at he;rcases he with rfl|rfl;exact .inl ⟨_,List.mem_cons_self,rfl,hS⟩;exact hS.elim) rfl (wn rfl) rfl Tryz.call44 (ak rfl aH) (fun W hW hp hE=>AX K v A D i7 hE) ?_)
     intro u hu j9
     obtain⟨P,Q⟩:=u
     obtain⟨e9,d9⟩:=hu
     have j5:fQ P D.1.length Q:=e9
     have a6:D.2.length=K.length:=d9
     have d2:fQ v D.2.length A:=by rw[a6];exact c8
     dsimp only
     refine Dr.use (lf:=[(0,sL d j f),(3,pV C),(6,sL I M J),(7,sL v D.2 A),(8,iv b5),(9,pV L),(57,bV f5),(67,sL I M J),(68,sL g o i),(69,iv q),(70,.pointer (some ⟨rM g,vJ g+(q).toNat*1,none⟩)),(71,iv b6),(72,sL g o i),(73,iv q),(74,iv (bP (q+1))),(75,.pointer (some ⟨rM g,vJ g+((bP (q+1))).toNat*1,none⟩)),(76,iv b7),(77,sL v D.2 A),(78,sL P D.1 Q)]) (le:=[(2,ow d f 77 bf j),(3,bx C #[sL g o i] 113),(12,ow g i 3 cK o),(13,ow I J 121 aW M),(14,ow v A 77 bf D.2),(29,bx L #[iv q] 3),(33,ow P Q 3 cK D.1)]) ?_ Z (.cons Z (.cons Z (.cons Z (.cons (pG Z (by unfold sL;rw[a6])) (.cons Z (.cons Z (.cons Z (.cons Z (.cons Z (.cons Z (.cons Z (.cons Z (.cons Z (.cons Z (.cons Z (.cons Z (.cons Z (.cons (pG Z (by unfold sL;rw[a6])) (.r Z))))))))))))))))))) (.r Z)
     refine bU 12 [(79,.agg #[iv b6,iv b7,sL P D.1 Q])] (by kernel_rfl) Z Z (by kernel_rfl) ?_ Z Z ?_
     ·exact AP (vs:=[(0,iv b6),(1,iv b7),(2,sL P D.1 Q)]) (cs:=[iv b6,iv b7,sL P D.1 Q]) (wn Z) Z (bQ Z (bQ Z (bQ Z dR))) (by kernel_rfl) (bK (.r Z))
     refine vT (by kernel_rfl) (Tr.freeze 33 Z fun w i8 c9=>?_)
     replace a4:=a4.trans i8
     obtain⟨a7,i9,H⟩:=bnd H
     refine jc [13] [ow I J 121 aW M] (U:=(Option Addr×Nat)) (fun u=>(sL u.1 a7 u.2)) (fun O W u=>fQ u.1 a7.length u.2) (fun u=>[ow u.1 u.2 121 aW a7]) Z (bn Z bO) (fun _=>Z) (wn Z) Z Tryz.call43 (ak Z (ak Z aH)) (fun W hW hp hE=>rA M I J (bz.mk b6 b7 D.1) P Q (c9.uF (hW.fM hp)) a7 i9 hE) ?_
     intro w u e5 hu
     obtain⟨b2,b3⟩:=u
     have f1:=hu
     replace c9:=c9.le e5
     replace a4:=a4.trans e5
     have e0:fQ b2 a7.length b3:=f1 --@phi
     dsimp only
     refine Tr.k Z (ae (aQ (aa (az (aj (aC Z (fun _ _ a c=>ah bF (a.ev Z) (bN c (vs:=[iv q]) (k:=29) Z 0) Z) (ae (aa (aV (Tr.alloc 34 (wn Z) Z Xf fun j6=>(bv 34 (cs:=[iv q]) [iv q] (wn Z) Z Z Z Z vM Z Z Z (ae (aa (aV (aC Z (fun _ _ a c=>ah bF (a.ev Z) (bN c (vs:=[iv q]) (k:=34) Z 0) Z) (av bE Z Z (bv 34 (cs:=[iv (bP (q+1))]) [iv (bP (q+1))] (wn Z) Z Z Z Z vM Z Z Z (ae (Tv 29 (II 34 29 Z Z Z ?_))))))))))))))))))))
     exact aP a4 ((bP (q+1)),a7,D.2,b5,j6,b2,b3,v,A) ⟨H,e0,d2⟩ (.r Z) (.r Z)
  ·refine bZ (aF (aF (bg (aa (aj (aA Z (Tr.k Z (ae (aa (aJ ?_))))))))))
   obtain rfl:=oI H
   exact bR (m:=[sL I M J]) [] (bu Z bG) (fun W hW=>⟨w,(I,J),leB,Z,c7,hW.pick (ks:=[13]) (by decide) (bn Z bO)⟩)
 |cons B X=>
  rw[je.eq_2] at H
  refine aj (av bi Z Z (ae (aa (az (dm Z (dz a2) (aM (aa (az (Tr.block (aj (aC Z (fun _ _ a c=>aB sH (a.ev Z) a1 (a.ev Z) (Int.natCast_nonneg _) (bq a2)) (aC Z (fun _ _ a c=>aL (cs:=[iv B.X0,iv B.Y0,iv B.X1,iv B.Y1]) o9 jy (a.ev Z) (aI.take (GY kQ (k:=2) c Z (dA a2)) 4) Z) (Tr.alloc 35 (wn Z) Z tQ fun k5=>(bv 35 (cs:=[iv B.X0,iv B.Y0,iv B.X1,iv B.Y1]) [iv B.X0,iv B.Y0,iv B.X1,iv B.Y1] (wn Z) Z Z Z Z jy Z Z Z (ae (aa (aV (aC Z (fun _ _ a c=>ah o7 (a.ev Z) (bN c (vs:=[sL F a' G]) (k:=3) Z 0) Z) (aD (ag lW) Z (aC Z (fun _ _ a c=>ah bF (a.ev Z) (bN c (vs:=[iv B.X0,iv B.Y0,iv B.X1,iv B.Y1]) (k:=35) Z 1) Z) ?_))))))))))))))))))))
  refine aD (ag qw) Z (aC Z (fun _ _ a c=>ah bF (a.ev Z) (bN c (vs:=[iv B.X0,iv B.Y0,iv B.X1,iv B.Y1]) (k:=35) Z 3) Z) (fK 36 (e:=3) (vs:=[(0,iv B.Y0),(1,iv B.Y1)]) (cs:=[iv B.Y0,iv B.Y1]) (wn Z) Z (bQ Z (bQ Z dR)) (by kernel_rfl) fun k6=>?_))
  obtain⟨e3,j0,H⟩:=bnd H
  exact Tr.append 12 (t:=cK) (l:=a') (l2:=[B.Y0,B.Y1]) (wn Z) Z Z Z Z (fun W hW=>⟨[[iv B.Y0],[iv B.Y1]],(.cons ⟨(),trivial,Z⟩ (.cons ⟨(),trivial,Z⟩ .nil)),bN hW (vs:=[iv B.Y0,iv B.Y1]) (k:=36) Z 0⟩) ni vM PL (by decide) Qi Z j0 fun d0 d1 h2=>(bv 3 (cs:=[sL d0 e3 d1]) [sL d0 e3 d1] (wn Z) Z Z Z Z QV Z Z Z (ae (aQ (aa (aV (av bE Z Z (aA Z (ae (aP f2 (X,(c5+1),e3,d0,d1) ⟨Z,df a2,bq a2,H,h2⟩ (.cons Z (.cons Z (.cons Z (.cons Z (.cons (congrArg (fun z=>some (Value.int .i64 z)) (cZ a2 a1)) .nil))))) (.r Z))))))))))

theorem uM(N:Nat){w:Bs}(p0:(List bz))(y:Option Addr)(A:Nat)(E:Sl w.R w.W aW y A p0)(r:(List aO))(H:mq N p0=some r)(hE:HF w w.W (mF [emp])):Calls Tryz.prog 95 [sL y p0 A].toArray w.W fun e W'=>∃u:(Option Addr×Nat),e= .returned (sL u.1 r u.2)∧(fQ u.1 r.length u.2)∧HF w W' (mF [ow u.1 u.2 77 bf r]):=by
 unfold mq at H
 have leB:=Bs.Le.refl w
 refine aX (n:=41) Tryz.func95 Z Z Z hE (aj (Tr.k Z (bY 1 77 bf ?_)))
 show Tr _ _ (uf _ 2 (sL none (([]:List aO)) 0)) _ _
 refine ae (aa (aj (Tr.k Z (bY 2 77 bf ?_))))
 show Tr _ _ (uf _ 3 (sL none (([]:List aO)) 0)) _ _
 refine ae (aa (az (aj (aA Z (aD (bA ve) Z (aA Z (ae (aa (Tr.block (cO (σ:=(List bz)×Nat×(List aO)×(Option Addr)×Nat) (fun m w s=>m=s.1.length+1∧s.1=List.drop s.2.1 p0∧s.2.1≤p0.length∧eY N s.1 s.2.1 s.2.2.1=some r∧fQ s.2.2.2.1 s.2.2.1.length s.2.2.2.2) (fun s=>[(3,sL s.2.2.2.1 s.2.2.1 s.2.2.2.2),(7,sL y p0 A),(8,iv (p0.length:Int)),(9,iv (s.2.1:Int))]) (fun s=>[(2,ow s.2.2.2.1 s.2.2.2.2 77 bf s.2.2.1)]) (p0.length+1) (p0,0,([]:List aO),none,0) ⟨Z,Z,Nat.zero_le _,H,fP⟩ (.r Z) (.r Z) (fun _ _ h=>absurd h.1 (by simp)) ?_))))))))))
 intro w M m s hs
 obtain⟨j,J,K,G,I⟩:=s
 obtain⟨Q,F,b3,H,L⟩:=hs
 replace F:j=List.drop J p0:=F
 replace H:eY N j J K=some r:=H
 replace Q:m+1=j.length+1:=Q
 replace E:=E.iR M
 replace leB:=leB.trans M
 replace L:fQ G K.length I:=L
 obtain rfl:m=j.length:=by omega
 clear Q
 dsimp only
 cases j with
 |nil=>
  rw[eY.eq_1] at H
  refine aj (av bi Z Z (ae (aa (az (dn Z (cz F) (bZ (aF (aF (bg (aa (aj (aA Z (Tr.k Z (ae (aa (aJ ?_))))))))))))))))
  obtain rfl:=oI H
  exact bR (m:=[sL G K I]) [] (bu Z bG) (fun W hW=>⟨(G,I),Z,L,HF.qC leB (hW.pick (ks:=[2]) (by decide) (bn Z bO)) ⟨lD _ _ _ _ jA,trivial⟩⟩)
 | cons d j=>
  rw[eY.eq_2] at H
  refine aj (av bi Z Z (ae (aa (az (dm Z (dz F) (aM (aa (az (Tr.block (aj ?_))))))))))
  obtain⟨b0,U,T,V⟩:=(E).el (dA F)
  obtain⟨f,g⟩:=b0
  have i:=T
  replace i:Sl w.R w.W cK f g d.Xs:=i
  refine aC Z (fun _ _ a c=>aB rY (a.ev Z) E.form (a.ev Z) (Int.natCast_nonneg _) (bq F)) (aC Z (fun _ _ a c=>aL (cs:=[iv d.Y0,iv d.Y1,sL f d.Xs g]) K3 zV (a.ev Z) (aI.take (tY U V c) 3) Z) (Tr.alloc 11 (wn Z) Z Nq fun q=>(bv 11 (cs:=[iv d.Y0,iv d.Y1,sL f d.Xs g]) [iv d.Y0,iv d.Y1,sL f d.Xs g] (wn Z) Z Z Z Z zV Z Z Z (ae (aa (aj (Tr.k Z (ae (aa (Tr.block (cO (σ:=(List aO)×Int×(Option Addr)×Nat) (fun m w s=>gX (eY N j (J+1)) d m s.1 s.2.1=some r∧fQ s.2.2.1 s.1.length s.2.2.2) (fun s=>[(3,sL s.2.2.1 s.1 s.2.2.2),(5,pV q),(6,iv s.2.1),(7,sL y p0 A),(8,iv (p0.length:Int)),(9,iv (J:Int))]) (fun s=>[(2,ow s.2.2.1 s.2.2.2 77 bf s.1),(11,bx q #[iv d.Y0,iv d.Y1,sL f d.Xs g] 121)]) N (K,0,G,I) ⟨H,L⟩ (.r Z) (.r Z) (fun _ _ h=>oq (h.1)) ?_)))))))))))
  intro w O b2 s hs
  obtain⟨D,v,B,C⟩:=s
  obtain⟨H,P⟩:=hs
  replace H:gX (eY N j (J+1)) d (b2+1) D v=some r:=H
  replace i:=i.iR O
  replace E:=E.iR O
  replace M:=M.trans O
  replace P:fQ B D.length C:=P
  rw[gX.eq_2] at H
  dsimp only
  refine az (aj (aA Z (aD (ag pJ) Z (aC Z (fun _ _ a c=>ah o7 (a.ev Z) (bN c (vs:=[iv d.Y0,iv d.Y1,sL f d.Xs g]) (k:=11) Z 2) Z) (aD (bA ni) Z (av bi Z Z (ae (aa (aN Z H (fun H=>?_) (fun H=>?_))))))))))
  ·refine aM (aa (az (Tr.block ?_)))
   obtain⟨o,a5,H⟩:=bnd H
   obtain⟨X,a',a0⟩:=bJ a5
   obtain⟨p,a6,H⟩:=bnd H
   obtain⟨a1,a2,a3⟩:=bJ a6
   refine Ej 18 [(17,.makeFunc (.func 0) #[] #[.tmp 36])] [(17,⟨37,14,.func (.func 0) #[] #[.agg #[iv o,iv d.Y0,iv p,iv d.Y1]],fun b=>.slice (some ⟨b,0,none⟩) 1 1,fun b=>bx b #[iv o,iv d.Y0,iv p,iv d.Y1] 77⟩)] [(3,sL B D C),(5,pV q),(6,iv v),(7,sL y p0 A),(8,iv (p0.length:Int)),(9,iv (J:Int)),(13,iv v),(14,.pointer (some ⟨q,2,none⟩)),(15,sL f d.Xs g),(16,iv (d.Xs.length:Int)),(17,bV (decide (v<(d.Xs.length:Int)))),(20,sL B D C),(21,.pointer (some ⟨q,2,none⟩)),(22,sL f d.Xs g),(23,iv v),(24,.pointer (some ⟨rM f,vJ f+(v).toNat*1,none⟩)),(25,iv o),(26,pV q),(27,iv d.Y0),(28,.pointer (some ⟨q,2,none⟩)),(29,sL f d.Xs g),(30,iv v),(31,iv (bP (v+1))),(32,.pointer (some ⟨rM f,vJ f+((bP (v+1))).toNat*1,none⟩)),(33,iv p),(34,.pointer (some ⟨q,1,none⟩)),(35,iv d.Y1),(36,.agg #[iv o,iv d.Y0,iv p,iv d.Y1]),(37,.func (.func 0) #[] #[.agg #[iv o,iv d.Y0,iv p,iv d.Y1]])] (by kernel_rfl) (by kernel_rfl) (by kernel_rfl) (by kernel_rfl) (by kernel_rfl) (by kernel_rfl) (by kernel_rfl) (oz (Ww (vs:=[(0,.agg #[iv o,iv d.Y0,iv p,iv d.Y1])]) Z Z Z (by kernel_rfl)) qF) (oz Z qF) (oz Z qF) ?_ ?_
   ·refine dY Z (dD (ag pJ) Z (bL Z (fun _ _ a c=>ah o7 (a.ev Z) (bN c (vs:=[iv d.Y0,iv d.Y1,sL f d.Xs g]) (k:=11) Z 2) Z) (dY Z (bL Z (fun _ _ a c=>aB lF (a.ev Z) i.form (a.ev Z) X a') (bL Z (fun _ _ a c=>ah bF (a.ev Z) (pq lT i a0 c) Z) (dD (ag vw) Z (bL Z (fun _ _ a c=>ah bF (a.ev Z) (bN c (vs:=[iv d.Y0,iv d.Y1,sL f d.Xs g]) (k:=11) Z 0) Z) (dD (ag pJ) Z (bL Z (fun _ _ a c=>ah o7 (a.ev Z) (bN c (vs:=[iv d.Y0,iv d.Y1,sL f d.Xs g]) (k:=11) Z 2) Z) (dY Z (dL bE Z Z (bL Z (fun _ _ a c=>aB lF (a.ev Z) i.form (a.ev Z) a1 a2) (bL Z (fun _ _ a c=>ah bF (a.ev Z) (pq lT i a3 c) Z) ?_)))))))))))))
    exact dD (ag q9) Z (bL Z (fun _ _ a c=>ah bF (a.ev Z) (bN c (vs:=[iv d.Y0,iv d.Y1,sL f d.Xs g]) (k:=11) Z 1) Z) (AP (vs:=[(0,iv o),(1,iv d.Y0),(2,iv p),(3,iv d.Y1)]) (cs:=[iv o,iv d.Y0,iv p,iv d.Y1]) (wn Z) Z (bQ Z (bQ Z (bQ Z (bQ Z dR)))) (by kernel_rfl) (BB (vs:=[.agg #[iv o,iv d.Y0,iv p,iv d.Y1]]) (wn Z) Z (ak Z aH) (bK (.r Z)))))
   ·intro S
    refine Tr.EM (lf:=[(5,pV q),(6,iv v),(7,sL y p0 A),(8,iv (p0.length:Int)),(9,iv (J:Int)),(20,sL B D C),(37,.slice (some ⟨(S 17),0,none⟩) 1 1)]) (le:=[(2,ow B C 77 bf D),(11,bx q #[iv d.Y0,iv d.Y1,sL f d.Xs g] 121),(14,bx (S 17) #[iv o,iv d.Y0,iv p,iv d.Y1] 77)]) (.r Z) (.r Z) ?_
    obtain⟨b1,a7,H⟩:=bnd H
    exact Tr.append 2 (t:=bf) (l:=D) (l2:=[(aO.mk o d.Y0 p d.Y1)]) (wn Z) Z Z Z Z (fun W hW=>⟨[[iv o,iv d.Y0,iv p,iv d.Y1]],(.cons ⟨(),trivial,Z⟩ .nil),bN hW (vs:=[iv o,iv d.Y0,iv p,iv d.Y1]) (k:=14) Z 0⟩) o8 jy Jk (by decide) JX Z a7 fun a8 a9 a4=>(Tr.k Z (ae (aQ (aa (aV (aA Z (av bE Z Z (Tr.k Z (ae (aP O (b1,(bP (v+2)),a8,a9) ⟨H,a4⟩ (.r Z) (.r Z)))))))))))
  ·exact bZ (aF (aF (bg (aQ (aa (aV (av bE Z Z (aA Z (ae (aP M (j,(J+1),D,B,C) ⟨Z,df F,bq F,H,P⟩ (.cons Z (.cons Z (.cons Z (.cons (congrArg (fun z=>some (Value.int .i64 z)) (cZ F E.form)) .nil)))) (.r Z)))))))))))

theorem zi{w:Bs}(p0:(List aO))(g:Option Addr)(i:Nat)(f:Sl w.R w.W bf g i p0)(p1:(List aO))(j:Option Addr)(l:Nat)(o:Sl w.R w.W bf j l p1)(r:Bool)(H:lN p0 p1=some r)(hE:HF w w.W E0):Calls Tryz.prog 94 [sL g p0 i,sL j p1 l].toArray w.W fun e W'=>e= .returned (bV r)∧HF w W' E0:=by
 unfold lN at H
 have leB:=Bs.Le.refl w
 refine aX (n:=26) Tryz.func94 Z Z Z hE (aj (Tr.k Z (ae (aa (az (aj (aA Z (aD (bA o8) Z (aA Z (aD (bA o8) Z (av dW Z Z (ae (aa (aN Z H (fun H=>?_) (fun H=>?_)))))))))))))))
 ·refine aj (Tr.k Z (ae (aa (aJ (ai ?_)))))
  obtain rfl:=oI H
  exact bD leB
 ·refine aM (aa (az (aj (aA Z (aD (bA o8) Z (aA Z (ae (aa (Tr.block (cO (σ:=(List aO)×Nat) (fun m w s=>m=s.1.length+1∧s.1=List.drop s.2 p0∧s.2≤p0.length∧gI p1 s.1 s.2=some r) (fun s=>[(0,sL g p0 i),(1,sL j p1 l),(12,iv (p0.length:Int)),(13,iv (s.2:Int))]) (fun s=>[]) (p0.length+1) (p0,0) ⟨Z,Z,Nat.zero_le _,H⟩ (.r Z) .nil (fun _ _ h=>absurd h.1 (by simp)) ?_))))))))))
  intro w q m s hs
  obtain⟨b,v⟩:=s
  obtain⟨u,d,D,H⟩:=hs
  replace d:b=List.drop v p0:=d
  replace H:gI p1 b v=some r:=H
  replace u:m+1=b.length+1:=u
  replace f:=f.iR q
  replace o:=o.iR q
  replace leB:=leB.trans q
  obtain rfl:m=b.length:=by omega
  clear u
  dsimp only
  cases b with
  |nil=>
   rw[gI.eq_1] at H
   refine aj (av bi Z Z (ae (aa (az (dn Z (cz d) (bZ (aF (aF (bg (aa (aj (Tr.k Z (ae (aa (aJ ?_)))))))))))))))
   obtain rfl:=oI H
   exact bD leB
  | cons t b=>
   rw[gI.eq_2] at H
   refine aj (av bi Z Z (ae (aa (az (dm Z (dz d) (aM (aa (az (Tr.block (aj (aA Z (Tr.k Z (ae (aa (az (fZ (by kernel_rfl) (by kernel_rfl) (dY Z (dY Z (bL Z (fun _ _ a c=>aB sH (a.ev Z) f.form (a.ev Z) (Int.natCast_nonneg _) (bq d)) (bL Z (fun _ _ a c=>aL (cs:=[iv t.X0,iv t.Y0,iv t.X1,iv t.Y1]) o9 jy (a.ev Z) (aI.take (pq kQ f (dA d) c) 4) Z) (dY Z (dY Z ?_))))))))))))))))))))))
   obtain⟨p,C,H⟩:=bnd H
   obtain⟨y,A,B⟩:=bJ C
   refine bL Z (fun _ _ a c=>aB sH (a.ev Z) o.form (a.ev Z) y A) (bL Z (fun _ _ a c=>aL (cs:=[iv p.X0,iv p.Y0,iv p.X1,iv p.Y1]) o9 jy (a.ev Z) (aI.take (pq kQ o B c) 4) Z) (dL (NE t p) Z Z (gz (aa (aN Z H (fun H=>?_) (fun H=>?_))))))
   ·refine aj (Tr.k Z (ae (aa (aJ (au (ai (ai (au (ai ?_)))))))))
    obtain rfl:=oI H
    exact bD leB
   ·exact aM (aQ (aa (aV (av bE Z Z (aA Z (ae (aP q (b,(v+1)) ⟨Z,df d,bq d,H⟩ (.cons Z (.cons Z (.cons Z (.cons (congrArg (fun z=>some (Value.int .i64 z)) (cZ d f.form)) .nil)))) .nil)))))))

theorem uu(N:Nat){w:Bs}(p0:(List aO))(g:Option Addr)(j:Nat)(l:Sl w.R w.W bf g j p0)(r:Int)(H:kF N p0=some r)(hE:HF w w.W E0):Calls Tryz.prog 46 [sL g p0 j].toArray w.W fun e W'=>e= .returned (iv r)∧HF w W' E0:=by
 unfold kF at H
 have leB:=Bs.Le.refl w
 refine aX (n:=52) Tryz.func46 Z Z Z hE (aj (Tr.k Z (ae (aa (az (aj (aA Z ?_)))))))
 obtain⟨K,X,H⟩:=bnd H
 refine aS (r:=(iv K)) (wn Z) Z Tryz.call93 (ak Z aH) (fun W hW=>zL p0 g j (l.ext hW.aY) K X (HF.start _)) (Tr.k Z (ae (aa (aj (aA Z (av dW Z Z (ae (aa (aN Z H (fun H=>?_) (fun H=>?_))))))))))
 ·refine aj (aA Z (Tr.k Z (ae (aa (aJ (ai ?_))))))
  obtain rfl:=oI H
  exact bD leB
 ·refine aM (aa (az (aj (Tr.k Z (ae (aa (Tr.block (cO (σ:=Int) (fun m w s=>dV N p0 m s=some r) (fun s=>[(0,sL g p0 j),(4,iv s)]) (fun s=>[]) N 1 H (.r Z) .nil (fun _ _ h=>oq (h)) ?_))))))))
  intro w E a8 i hs
  have H:=hs
  replace H:dV N p0 (a8+1) i=some r:=H
  replace l:=l.iR E
  replace leB:=leB.trans E
  rw[dV.eq_2] at H
  show Tr _ _ (LF [(0,sL g p0 j),(4,iv i)]) (LE []) _
  refine az (aj (aA Z (aA Z (aD (bA o8) Z (av bi Z Z (ae (aa (aN Z H (fun H=>?_) (fun H=>?_)))))))))
  ·refine aM (aa (az (Tr.block (az (ui 12 [] [11] (by kernel_rfl) (by kernel_rfl) fun C F a7=>(bU 0 [(18,sL g p0 j)] (by kernel_rfl) Z Z (by kernel_rfl) ?_ Z Z ?_))))))
   ·exact dY Z (bK (.r Z))
   refine bU 1 [(19,iv i)] (by kernel_rfl) Z Z (by kernel_rfl) ?_ Z Z ?_
   ·exact dY Z (bK (.r Z))
   refine bU 2 [(20,iv (bP (i-1)))] (by kernel_rfl) Z Z (by kernel_rfl) ?_ Z Z ?_
   ·exact dL gH Z Z (bK (.r Z))
   obtain⟨d,a9,H⟩:=bnd H
   obtain⟨L,M,P⟩:=bJ a9
   refine bU 3 [(21,.pointer (some ⟨rM g,vJ g+((bP (i-1))).toNat*4,none⟩))] (by kernel_rfl) Z Z (by kernel_rfl) ?_ Z Z ?_
   ·exact bL Z (fun _ _ a c=>aB sH (a.ev Z) l.form (a.ev Z) L M) (bK (.r Z))
   refine bU 4 [(22,.agg #[iv d.X0,iv d.Y0,iv d.X1,iv d.Y1])] (by kernel_rfl) Z Z (by kernel_rfl) ?_ Z Z ?_
   ·exact bL Z (fun _ _ a c=>aL (cs:=[iv d.X0,iv d.Y0,iv d.X1,iv d.Y1]) o9 jy (a.ev Z) (aI.take (pq kQ l P c) 4) Z) (bK (.r Z))
   refine jk 5 (by kernel_rfl) Z (wn Z) Z (by kernel_rfl) (fun _ _ a=>run_move (a.ev Z)) Z (jk 6 (by kernel_rfl) Z (wn Z) Z (by kernel_rfl) (fun _ _ a=>run_move (a.ev Z)) Z ?_)
   obtain⟨f,a0,H⟩:=bnd H
   obtain⟨Q,S,T⟩:=bJ a0
   refine jk 7 (by kernel_rfl) Z (wn Z) Z (by kernel_rfl) (fun _ _ a=>aB sH (a.ev Z) l.form (a.ev Z) Q S) Z (oJ 8 [(26,.agg #[iv f.X0,iv f.Y0,iv f.X1,iv f.Y1])] [] true (by kernel_rfl) Z Z (by kernel_rfl) (fun W W' c hsW hk=>HF.Ac (le:=[]) (ks:=[]) (s0:=C) true c hk (fun _=>F) .nil (fun b hb=>hb.elim (fun⟨_,hp,_⟩=>nomatch hp) (fun hb=>.inr ⟨Z,hb.2,(fun _ h=>nomatch h)⟩)) (fun _ h=>nomatch h) Z) ?_ Z Z ?_)
   ·exact bL Z (fun _ _ a c=>aL (cs:=[iv f.X0,iv f.Y0,iv f.X1,iv f.Y1]) o9 jy (a.ev Z) (aI.take (pq kQ l T c) 4) Z) (bK (.r Z))
   refine Dr.cut (U:=Nat×Nat) [9,10] 1 (fun u=>C≤u.1∧C≤u.2) (fun u=>[(0,sL g p0 j),(4,iv i),(5,.pointer (some ⟨u.1,0,none⟩)),(6,.pointer (some ⟨u.2,0,none⟩)),(12,iv i),(13,sL g p0 j),(14,iv (p0.length:Int)),(15,bV (decide (i<(p0.length:Int)))),(18,sL g p0 j),(19,iv i),(20,iv (bP (i-1))),(21,.pointer (some ⟨rM g,vJ g+((bP (i-1))).toNat*4,none⟩)),(22,.agg #[iv d.X0,iv d.Y0,iv d.X1,iv d.Y1]),(23,sL g p0 j),(24,iv i),(25,.pointer (some ⟨rM g,vJ g+(i).toNat*4,none⟩)),(26,.agg #[iv f.X0,iv f.Y0,iv f.X1,iv f.Y1])]) (fun u=>[(5,bx u.1 #[iv 0,iv 0,iv 0,iv 0] 77),(6,bx u.2 #[iv 0,iv 0,iv 0,iv 0] 77)]) ?_ ?_
   ·intro hC
    refine Vf 9 10 (by kernel_rfl) ?_ ?_
    ·exact St.alloc 9 5 Z (wn Z) Z tQ fun o q=>(Dr.one 10 (by kernel_rfl) (St.alloc 10 6 Z (wn Z) Z tQ fun p D=>((hC ⟨o,p⟩ ⟨q,D⟩).use (by kernel_rfl) (.r Z) (.r Z))))
    ·exact St.alloc 10 6 Z (wn Z) Z tQ fun p D=>(Dr.one 9 (by kernel_rfl) (St.alloc 9 5 Z (wn Z) Z tQ fun o q=>((hC ⟨o,p⟩ ⟨q,D⟩).use (by kernel_rfl) (.r Z) (.r Z))))
   intro u hu
   obtain⟨o,p⟩:=u
   obtain⟨q,D⟩:=hu
   replace q:C≤o:=q
   dsimp only
   refine Dr.one 11 (by kernel_rfl) (AR 11 5 (cs:=[iv d.X0,iv d.Y0,iv d.X1,iv d.Y1]) [iv d.X0,iv d.Y0,iv d.X1,iv d.Y1] Z (wn Z) (.inr ⟨by simp,q⟩) Z Z Z Z jy Z Z Z (vT (by kernel_rfl) (bv 6 (cs:=[iv f.X0,iv f.Y0,iv f.X1,iv f.Y1]) [iv f.X0,iv f.Y0,iv f.X1,iv f.Y1] (wn Z) Z Z Z Z jy Z Z Z (ae (aa (aj (aD (ag lW) Z (aC Z (fun _ _ a c=>ah bF (a.ev Z) (bN c (vs:=[iv f.X0,iv f.Y0,iv f.X1,iv f.Y1]) (k:=6) Z 1) Z) (aD (ag lW) Z (aC Z (fun _ _ a c=>ah bF (a.ev Z) (bN c (vs:=[iv d.X0,iv d.Y0,iv d.X1,iv d.Y1]) (k:=5) Z 1) Z) (av bi Z Z (aA Z (bM 13 [(0,sL g p0 j),(4,iv i),(45,bV ((decide (f.Y0<d.Y0))||((f.Y0==d.Y0)&&(decide (f.X0≤d.X0)))))] [(5,bx o #[iv d.X0,iv d.Y0,iv d.X1,iv d.Y1] 77),(6,bx p #[iv f.X0,iv f.Y0,iv f.X1,iv f.Y1] 77)] ?_ ?_)))))))))))))
   ·cases a1:(decide (f.Y0<d.Y0))
    ·refine bC (ag lW) Z (Tr.x (fun _ _ a c=>ah bF (a.ev Z) (bN c (vs:=[iv f.X0,iv f.Y0,iv f.X1,iv f.Y1]) (k:=6) Z 1) Z) (bC (ag lW) Z (Tr.x (fun _ _ a c=>ah bF (a.ev Z) (bN c (vs:=[iv d.X0,iv d.Y0,iv d.X1,iv d.Y1]) (k:=5) Z 1) Z) (dI dM Z Z (bC run_move Z (bM 6 [(0,sL g p0 j),(4,iv i),(32,bV false),(44,bV ((f.Y0==d.Y0)&&(decide (f.X0≤d.X0))))] [(5,bx o #[iv d.X0,iv d.Y0,iv d.X1,iv d.Y1] 77),(6,bx p #[iv f.X0,iv f.Y0,iv f.X1,iv f.Y1] 77)] ?_ ?_))))))
     ·cases a1:(f.Y0==d.Y0)
      ·exact aG Z (aG Z (aG Z (aG Z (aG Z (dI aU Z Z (ae (aR (.r Z) (.r Z))))))))
      ·exact bC (ag kU) Z (Tr.x (fun _ _ a c=>ah bF (a.ev Z) (bN c (vs:=[iv f.X0,iv f.Y0,iv f.X1,iv f.Y1]) (k:=6) Z 0) Z) (bC (ag kU) Z (Tr.x (fun _ _ a c=>ah bF (a.ev Z) (bN c (vs:=[iv d.X0,iv d.Y0,iv d.X1,iv d.Y1]) (k:=5) Z 0) Z) (dI iT Z Z (dI aT Z Z (ae (aR (.r Z) (.r Z))))))))
     ·dsimp only
      exact av aU Z Z (ae (aR (.r Z) (.r Z)))
    ·exact aG Z (aG Z (aG Z (aG Z (aG Z (aG Z (ky Z (ky Z (ky Z (ky Z (ky Z (aG Z (av aT Z Z (ae (aR (.r Z) (.r Z)))))))))))))))
   ·show Tr _ _ (LF [(0,sL g p0 j),(4,iv i),(45,bV ((decide (f.Y0<d.Y0))||((f.Y0==d.Y0)&&(decide (f.X0≤d.X0)))))]) (LE [(5,bx o #[iv d.X0,iv d.Y0,iv d.X1,iv d.Y1] 77),(6,bx p #[iv f.X0,iv f.Y0,iv f.X1,iv f.Y1] 77)]) _
    refine ae (aa (aN Z H (fun H=>?_) (fun H=>?_)))
    ·refine aj (Tr.k Z (ae (aa (aJ (au (ai (ai (au (ai ?_)))))))))
     obtain rfl:=oI H
     exact bD leB
    ·exact aM (aQ (aa (aV (aA Z (av bE Z Z (Tr.k Z (ae (aP E (bP (i+1)) H (.r Z) .nil))))))))
  ·refine bZ (aF (aF (bg (aa (az (aj (aA Z ?_)))))))
   obtain⟨t,a2,H⟩:=bnd H
   refine jc [7] [emp] (U:=(Option Addr×Nat)) (fun u=>(sL u.1 t u.2)) (fun O W u=>fQ u.1 t.length u.2) (fun u=>[ow u.1 u.2 121 aW t]) Z (bn Z bO) (fun _=>Z) (wn Z) Z Tryz.call13 (ak Z aH) (fun W hW hp hE=>rQ N p0 g j (l.ext (hW.fM hp)) t a2 hE) ?_
   intro w u G hu
   obtain⟨y,z⟩:=u
   have I:=hu
   replace l:=l.iR G
   replace leB:=leB.trans G
   have a5:fQ y t.length z:=I --@phi
   dsimp only
   obtain⟨v,a3,H⟩:=bnd H
   refine kz [8] [emp] (U:=(Option Addr×Nat)) (fun u=>(sL u.1 v u.2)) (fun u=>fQ u.1 v.length u.2) (fun u=>[ow u.1 u.2 77 bf v]) Z (bn Z bO) (fun _=>Z) (wn Z) Z Tryz.call95 (ak Z aH) (fun W hW hp hE=>uM N t y z (hW.TJ (k:=7) Z hp Z) v a3 hE) ?_
   intro u hu
   obtain⟨A,B⟩:=u
   have J:=hu
   have a6:fQ A v.length B:=J --@phi
   dsimp only
   refine aA Z ?_
   obtain⟨V,a4,H⟩:=bnd H
   refine aS (r:=(bV V)) (wn Z) Z Tryz.call94 (ak Z (ak Z aH)) (fun W hW=>zi v A B (hW.wo (k:=8) Z) p0 g j (l.ext hW.aY) V a4 (HF.start _)) (aD bT Z (ae (aa (aN Z H (fun H=>?_) (fun H=>?_)))))
   ·refine aj (Tr.k Z (ae (aa (aJ (ai ?_)))))
    obtain rfl:=oI H
    exact bD leB
   ·refine aM (aa (aj (Tr.k Z (ae (aa (aJ ?_))))))
    obtain rfl:=oI H
    exact bD leB

theorem zM(N:Nat){w:Bs}(hT:Nj Tryz.prog w)(p0:uj)(j:Option Addr)(l:Nat)(L:Sl w.R w.W jX j l p0.Classes)(d:Option Addr)(f:Nat)(t:Sl w.R w.W kV d f p0.Areas)(r:Int)(H:nZ N p0=some r)(hE:HF w w.W E0):Calls Tryz.prog 33 [.agg #[iv p0.Clearance,iv p0.Width,iv p0.Ring,iv p0.Edge,iv p0.HoleGap,sL j p0.Classes l,sL d p0.Areas f]].toArray w.W fun e W'=>e= .returned (iv r)∧HF w W' E0:=by
 unfold nZ at H
 have leB:=Bs.Le.refl w
 refine aX (n:=59) Tryz.func33 Z Z Z hE (aj (dh 1 (cs:=[iv p0.Clearance,iv p0.Width,iv p0.Ring,iv p0.Edge,iv p0.HoleGap,sL j p0.Classes l,sL d p0.Areas f]) (wn Z) Z Z Z fun V=>(Tr.k Z (ae (aa (az (aj (aD (ag Uy) Z (aC Z (fun _ _ a c=>ah bF (a.ev Z) (bN c (vs:=[iv p0.Clearance,iv p0.Width,iv p0.Ring,iv p0.Edge,iv p0.HoleGap,sL j p0.Classes l,sL d p0.Areas f]) (k:=1) Z 0) Z) (aD (ag Ux) Z (aC Z (fun _ _ a c=>ah bF (a.ev Z) (bN c (vs:=[iv p0.Clearance,iv p0.Width,iv p0.Ring,iv p0.Edge,iv p0.HoleGap,sL j p0.Classes l,sL d p0.Areas f]) (k:=1) Z 1) Z) (aD (ag Uw) Z (aC Z (fun _ _ a c=>ah bF (a.ev Z) (bN c (vs:=[iv p0.Clearance,iv p0.Width,iv p0.Ring,iv p0.Edge,iv p0.HoleGap,sL j p0.Classes l,sL d p0.Areas f]) (k:=1) Z 2) Z) (aD (ag Uv) Z (aC Z (fun _ _ a c=>ah bF (a.ev Z) (bN c (vs:=[iv p0.Clearance,iv p0.Width,iv p0.Ring,iv p0.Edge,iv p0.HoleGap,sL j p0.Classes l,sL d p0.Areas f]) (k:=1) Z 3) Z) (aD (ag Uu) Z (aC Z (fun _ _ a c=>ah bF (a.ev Z) (bN c (vs:=[iv p0.Clearance,iv p0.Width,iv p0.Ring,iv p0.Edge,iv p0.HoleGap,sL j p0.Classes l,sL d p0.Areas f]) (k:=1) Z 4) Z) ?_)))))))))))))))))
 refine fK 2 (e:=3) (vs:=[(0,iv p0.Clearance),(1,iv p0.Width),(2,iv p0.Ring),(3,iv p0.Edge),(4,iv p0.HoleGap)]) (cs:=[iv p0.Clearance,iv p0.Width,iv p0.Ring,iv p0.Edge,iv p0.HoleGap]) (wn Z) Z (bQ Z (bQ Z (bQ Z (bQ Z (bQ Z dR))))) (by kernel_rfl) fun T=>(Tr.own 2 cK [p0.Clearance,p0.Width,p0.Ring,p0.Edge,p0.HoleGap] (css:=[[iv p0.Clearance],[iv p0.Width],[iv p0.Ring],[iv p0.Edge],[iv p0.HoleGap]]) Z (.cons ⟨(),trivial,Z⟩ (.cons ⟨(),trivial,Z⟩ (.cons ⟨(),trivial,Z⟩ (.cons ⟨(),trivial,Z⟩ (.cons ⟨(),trivial,Z⟩ .nil))))) Z (by decide) (Bv Z) ?_)
 obtain⟨D,M,H⟩:=bnd H
 refine aS (r:=(bV D)) (wn Z) Z Tryz.call78 (ak Z (ak Z aH)) (fun W hW=>vL [p0.Clearance,p0.Width,p0.Ring,p0.Edge,p0.HoleGap] (some ⟨T,0,none⟩) 5 (hW.wo (k:=2) Z) (fun z0=>mM z0) 79 [] Tryz.call79 (fun w' he z0 y hy=>yC z0 y hy (HF.start _)) D M (HF.start _)) (ae (aa (aN Z H (fun H=>?_) (fun H=>?_))))
 ·refine aj (Tr.k Z (ae (aa (aJ (ai ?_)))))
  obtain rfl:=oI H
  exact bD leB
 ·refine aM (aa (az (aj (aD (ag Ut) Z (aC Z (fun _ _ a c=>ah XY (a.ev Z) (bN c (vs:=[iv p0.Clearance,iv p0.Width,iv p0.Ring,iv p0.Edge,iv p0.HoleGap,sL j p0.Classes l,sL d p0.Areas f]) (k:=1) Z 5) Z) ?_)))))
  obtain⟨E,O,H⟩:=bnd H
  refine aS (r:=(iv E)) (wn Z) Z Tryz.call81 (ak Z aH) (fun W hW=>yB N (hT.ext hW.aY) p0.Classes j l (L.ext hW.aY) E O (HF.start _)) (Tr.k Z (ae (aa (aj (aA Z (av dW Z Z (ae (aa (aN Z H (fun H=>?_) (fun H=>?_))))))))))
  ·refine aj (aA Z (Tr.k Z (ae (aa (aJ (ai ?_))))))
   obtain rfl:=oI H
   exact bD leB
  ·refine aM (aa (az (aj (aD (ag Pd) Z (aC Z (fun _ _ a c=>ah VH (a.ev Z) (bN c (vs:=[iv p0.Clearance,iv p0.Width,iv p0.Ring,iv p0.Edge,iv p0.HoleGap,sL j p0.Classes l,sL d p0.Areas f]) (k:=1) Z 6) Z) (aD (bA Vi) Z (av dE Z Z (ae (aa (aN Z H (fun H=>?_) (fun H=>?_)))))))))))
   ·refine aj (Tr.k Z (ae (aa (aJ (ai ?_)))))
    obtain rfl:=oI H
    exact bD leB
   ·refine aM (aa (aj (Tr.k Z (ae (aa (az (aj (aD (ag Pd) Z (aC Z (fun _ _ a c=>ah VH (a.ev Z) (bN c (vs:=[iv p0.Clearance,iv p0.Width,iv p0.Ring,iv p0.Edge,iv p0.HoleGap,sL j p0.Classes l,sL d p0.Areas f]) (k:=1) Z 6) Z) (aD (bA Vi) Z (aA Z (ae (aa (Tr.block (cO (σ:=(List rP)×Nat×Int) (fun m w s=>m=s.1.length+1∧s.1=List.drop s.2.1 p0.Areas∧s.2.1≤p0.Areas.length∧gZ N s.1 s.2.1 s.2.2=some r) (fun s=>[(4,iv s.2.2),(31,sL d p0.Areas f),(32,iv (p0.Areas.length:Int)),(33,iv (s.2.1:Int))]) (fun s=>[]) (p0.Areas.length+1) (p0.Areas,0,0) ⟨Z,Z,Nat.zero_le _,H⟩ (.r Z) .nil (fun _ _ h=>absurd h.1 (by simp)) ?_)))))))))))))))
    intro w u m s hs
    obtain⟨o,B,v⟩:=s
    obtain⟨A,p,X,H⟩:=hs
    replace p:o=List.drop B p0.Areas:=p
    replace H:gZ N o B v=some r:=H
    replace A:m+1=o.length+1:=A
    replace hT:=hT.ext u.ext
    replace t:=t.iR u
    replace leB:=leB.trans u
    obtain rfl:m=o.length:=by omega
    clear A
    dsimp only
    cases o with
    | nil=>
     rw[gZ.eq_1] at H
     refine aj (av bi Z Z (ae (aa (az (dn Z (cz p) (bZ (aF (aF (bg (aa (az (aj (aA Z (av dE Z Z (ae (aa (aN Z H (fun H=>?_) (fun H=>?_))))))))))))))))))
     ·refine aj (Tr.k Z (ae (aa (aJ (ai ?_)))))
      obtain rfl:=oI H
      exact bD leB
     ·refine aM (aa (aj (Tr.k Z (ae (aa (aJ ?_))))))
      obtain rfl:=oI H
      exact bD leB
    | cons b o=>
     rw[gZ.eq_2] at H
     refine aj (av bi Z Z (ae (aa (az (dm Z (dz p) (aM (aa (az (Tr.block (aj ?_))))))))))
     obtain⟨U,F,C,G⟩:=(t).el (dA p)
     obtain⟨g,i⟩:=U
     have q:=C
     replace q:Sl w.R w.W bf g i b.Region:=q
     refine aC Z (fun _ _ a c=>aB XP (a.ev Z) t.form (a.ev Z) (Int.natCast_nonneg _) (bq p)) (aC Z (fun _ _ a c=>aL (cs:=[iv b.Layer,sL g b.Region i,iv b.Clearance]) WP QQ (a.ev Z) (aI.take (tY F G c) 3) Z) (Tr.alloc 5 (wn Z) Z VR fun a0=>(bv 5 (cs:=[iv b.Layer,sL g b.Region i,iv b.Clearance]) [iv b.Layer,sL g b.Region i,iv b.Clearance] (wn Z) Z Z Z Z QQ Z Z Z (ae (aa (az (aj (aD (ag Sb) Z (aC Z (fun _ _ a c=>ah bF (a.ev Z) (bN c (vs:=[iv b.Layer,sL g b.Region i,iv b.Clearance]) (k:=5) Z 0) Z) ?_)))))))))
     obtain⟨I,P,H⟩:=bnd H
     refine aS (r:=(bV I)) (wn Z) Z Tryz.call82 (ak Z (ak Z (ak Z aH))) (fun W hW=>xw b.Layer (-1) 15 I P (HF.start _)) (aD bT Z (ae (aa (aN Z H (fun H=>?_) (fun H=>?_)))))
     ·refine aj (Tr.k Z (ae (aa (aJ (ai (au (ai (ai (au (ai ?_))))))))))
      obtain rfl:=oI H
      exact bD leB
     ·refine aM (aa (az (aj (aD (ag Mh) Z (aC Z (fun _ _ a c=>ah J2 (a.ev Z) (bN c (vs:=[iv b.Layer,sL g b.Region i,iv b.Clearance]) (k:=5) Z 1) Z) ?_)))))
      obtain⟨J,Q,H⟩:=bnd H
      refine aS (r:=(iv J)) (wn Z) Z Tryz.call46 (ak Z aH) (fun W hW=>uu N b.Region g i (q.ext hW.aY) J Q (HF.start _)) (Tr.k Z (ae (aa (aj (aA Z (av dW Z Z (ae (aa (aN Z H (fun H=>?_) (fun H=>?_))))))))))
      ·refine aj (aA Z (Tr.k Z (ae (aa (aJ (ai (au (ai (ai (au (ai ?_)))))))))))
       obtain rfl:=oI H
       exact bD leB
      ·refine aM (aa (az (aj (aD (ag Sa) Z (aC Z (fun _ _ a c=>ah bF (a.ev Z) (bN c (vs:=[iv b.Layer,sL g b.Region i,iv b.Clearance]) (k:=5) Z 2) Z) ?_)))))
       obtain⟨K,S,H⟩:=bnd H
       refine aS (r:=(bV K)) (wn Z) Z Tryz.call80 (ak Z aH) (fun W hW=>qW b.Clearance K S (HF.start _)) (aD bT Z (ae (aa (aN Z H (fun H=>?_) (fun H=>?_)))))
       ·refine aj (Tr.k Z (ae (aa (aJ (ai (au (ai (ai (au (ai ?_))))))))))
        obtain rfl:=oI H
        exact bD leB
       ·exact aM (aa (aV (aA Z (aD (ag Mh) Z (aC Z (fun _ _ a c=>ah J2 (a.ev Z) (bN c (vs:=[iv b.Layer,sL g b.Region i,iv b.Clearance]) (k:=5) Z 1) Z) (aD (bA o8) Z (av bE Z Z (Tr.k Z (ae (aQ (aa (aV (av bE Z Z (aA Z (ae (aP u (o,(B+1),(bP (v+(b.Region.length:Int)))) ⟨Z,df p,bq p,H⟩ (.cons Z (.cons Z (.cons Z (.cons (congrArg (fun z=>some (Value.int .i64 z)) (cZ p t.form)) .nil)))) .nil))))))))))))))))

theorem Fx(N:Nat){w:Bs}(hT:Nj Tryz.prog w)(p0:lU)(E:Option Addr)(F:Nat)(b6:Sl w.R w.W iB E F p0.Types)(p:Option Addr)(q:Nat)(b7:Sl w.R w.W mH p q p0.List_.Parts)(t:Option Addr)(u:Nat)(b8:Sl w.R w.W rH t u p0.List_.Nets)(G:Option Addr)(I:Nat)(b9:Sl w.R w.W iZ G I p0.Materials)(J:Option Addr)(K:Nat)(c0:Sl w.R w.W ou J K p0.Stack)(v:Option Addr)(y:Nat)(a0:Sl w.R w.W sF v y p0.Plots)(A:Option Addr)(B:Nat)(c3:Sl w.R w.W cB A B p0.Outline.Tools)(C:Option Addr)(D:Nat)(c4:Sl w.R w.W bH C D p0.Outline.Steps)(O:Option Addr)(P:Nat)(c7:Sl w.R w.W eZ O P p0.Bores)(L:Option Addr)(M:Nat)(c5:Sl w.R w.W oL L M p0.Bodies)(i:Option Addr)(j:Nat)(b1:Sl w.R w.W pK i j p0.Places)(l:Option Addr)(o:Nat)(c6:Sl w.R w.W sG l o p0.Feet)(b:Option Addr)(d:Nat)(b2:Sl w.R w.W jX b d p0.Rules.Classes)(f:Option Addr)(g:Nat)(b3:Sl w.R w.W kV f g p0.Rules.Areas)(r:zg)(H:sM N p0=some r)(hE:HF w w.W E0):Calls Tryz.prog 7 [.agg #[sL E p0.Types F,sL p p0.List_.Parts q,sL t p0.List_.Nets u,sL G p0.Materials I,sL J p0.Stack K,sL v p0.Plots y,iv p0.Outline.Unit,sL A p0.Outline.Tools B,sL C p0.Outline.Steps D,sL O p0.Bores P,sL L p0.Bodies M,sL i p0.Places j,sL l p0.Feet o,iv p0.Rules.Clearance,iv p0.Rules.Width,iv p0.Rules.Ring,iv p0.Rules.Edge,iv p0.Rules.HoleGap,sL b p0.Rules.Classes d,sL f p0.Rules.Areas g]].toArray w.W fun e W'=>e= .returned (.agg #[iv r.fault,sv r.where_])∧HF w W' E0:=by
 unfold sM at H
 have leB:=Bs.Le.refl w
 refine aX (n:=85) Tryz.func7 Z Z Z hE (aj (dh 1 (cs:=[sL E p0.Types F,sL p p0.List_.Parts q,sL t p0.List_.Nets u,sL G p0.Materials I,sL J p0.Stack K,sL v p0.Plots y,iv p0.Outline.Unit,sL A p0.Outline.Tools B,sL C p0.Outline.Steps D,sL O p0.Bores P,sL L p0.Bodies M,sL i p0.Places j,sL l p0.Feet o,iv p0.Rules.Clearance,iv p0.Rules.Width,iv p0.Rules.Ring,iv p0.Rules.Edge,iv p0.Rules.HoleGap,sL b p0.Rules.Classes d,sL f p0.Rules.Areas g]) (wn Z) Z Z Z fun c8=>(Tr.alloc 2 (wn Z) Z Qu fun c9=>(ae (aa (az (aj (aD (ag KL) Z (aC Z (fun _ _ a c=>ah J4 (a.ev Z) (bN c (vs:=[sL E p0.Types F,sL p p0.List_.Parts q,sL t p0.List_.Nets u,sL G p0.Materials I,sL J p0.Stack K,sL v p0.Plots y,iv p0.Outline.Unit,sL A p0.Outline.Tools B,sL C p0.Outline.Steps D,sL O p0.Bores P,sL L p0.Bodies M,sL i p0.Places j,sL l p0.Feet o,iv p0.Rules.Clearance,iv p0.Rules.Width,iv p0.Rules.Ring,iv p0.Rules.Edge,iv p0.Rules.HoleGap,sL b p0.Rules.Classes d,sL f p0.Rules.Areas g]) (k:=1) Z 0) Z) (aD (ag Us) Z (aC Z (fun _ _ a c=>aL (cs:=[sL p p0.List_.Parts q,sL t p0.List_.Nets u]) X5 Xl (a.ev Z) (aI.take (bN c (vs:=[sL E p0.Types F,sL p p0.List_.Parts q,sL t p0.List_.Nets u,sL G p0.Materials I,sL J p0.Stack K,sL v p0.Plots y,iv p0.Outline.Unit,sL A p0.Outline.Tools B,sL C p0.Outline.Steps D,sL O p0.Bores P,sL L p0.Bodies M,sL i p0.Places j,sL l p0.Feet o,iv p0.Rules.Clearance,iv p0.Rules.Width,iv p0.Rules.Ring,iv p0.Rules.Edge,iv p0.Rules.HoleGap,sL b p0.Rules.Classes d,sL f p0.Rules.Areas g]) (k:=1) Z 1) 2) Z) ?_)))))))))))
 obtain⟨d1,e6,H⟩:=bnd H
 refine aS (r:=(iv d1)) (wn Z) Z Tryz.call25 (ak Z (ak Z aH)) (fun W hW=>zx N (hT.ext hW.aY) p0.Types E F (b6.ext hW.aY) p0.List_ p q (b7.ext hW.aY) t u (b8.ext hW.aY) d1 e6 (HF.start _)) (Tr.k Z (ae (aa (aj (aA Z (av dW Z Z (ae (aa (aN Z H (fun H=>?_) (fun H=>?_))))))))))
 ·refine aj (aA Z ?_)
  obtain⟨a1,e7,H⟩:=bnd H
  refine aS (r:=(.agg #[iv a1.fault,sv a1.where_])) (wn Z) Z Tryz.call26 (ak Z (ak Z aH)) (fun W hW=>mG (⟨#[108,105,115,116]⟩) d1 a1 e7 (HF.start _)) (bv 2 (cs:=[iv a1.fault,sv a1.where_]) [iv a1.fault,sv a1.where_] (wn Z) Z Z Z Z qU Z Z Z (ae (aa (aJ (ai ?_)))))
  obtain rfl:=oI H
  exact bR (m:=[.agg #[iv a1.fault,sv a1.where_]]) [2] (fJ Z Z zC qU bG) (fun W hW=>⟨Z,hW.low leB⟩)
 ·refine aM (aa (az (aj (aD (ag Ur) Z (aC Z (fun _ _ a c=>ah X4 (a.ev Z) (bN c (vs:=[sL E p0.Types F,sL p p0.List_.Parts q,sL t p0.List_.Nets u,sL G p0.Materials I,sL J p0.Stack K,sL v p0.Plots y,iv p0.Outline.Unit,sL A p0.Outline.Tools B,sL C p0.Outline.Steps D,sL O p0.Bores P,sL L p0.Bodies M,sL i p0.Places j,sL l p0.Feet o,iv p0.Rules.Clearance,iv p0.Rules.Width,iv p0.Rules.Ring,iv p0.Rules.Edge,iv p0.Rules.HoleGap,sL b p0.Rules.Classes d,sL f p0.Rules.Areas g]) (k:=1) Z 3) Z) (aD (ag Pb) Z (aC Z (fun _ _ a c=>ah VJ (a.ev Z) (bN c (vs:=[sL E p0.Types F,sL p p0.List_.Parts q,sL t p0.List_.Nets u,sL G p0.Materials I,sL J p0.Stack K,sL v p0.Plots y,iv p0.Outline.Unit,sL A p0.Outline.Tools B,sL C p0.Outline.Steps D,sL O p0.Bores P,sL L p0.Bodies M,sL i p0.Places j,sL l p0.Feet o,iv p0.Rules.Clearance,iv p0.Rules.Width,iv p0.Rules.Ring,iv p0.Rules.Edge,iv p0.Rules.HoleGap,sL b p0.Rules.Classes d,sL f p0.Rules.Areas g]) (k:=1) Z 4) Z) ?_)))))))
  obtain⟨d2,e8,H⟩:=bnd H
  refine aS (r:=(iv d2)) (wn Z) Z Tryz.call27 (ak Z (ak Z aH)) (fun W hW=>zJ N p0.Materials G I (b9.ext hW.aY) p0.Stack J K (c0.ext hW.aY) d2 e8 (HF.start _)) (Tr.k Z (ae (aa (aj (aA Z (av dW Z Z (ae (aa (aN Z H (fun H=>?_) (fun H=>?_))))))))))
  ·refine aj (aA Z ?_)
   obtain⟨a2,e9,H⟩:=bnd H
   refine aS (r:=(.agg #[iv a2.fault,sv a2.where_])) (wn Z) Z Tryz.call26 (ak Z (ak Z aH)) (fun W hW=>mG (⟨#[115,116,97,99,107]⟩) d2 a2 e9 (HF.start _)) (bv 2 (cs:=[iv a2.fault,sv a2.where_]) [iv a2.fault,sv a2.where_] (wn Z) Z Z Z Z qU Z Z Z (ae (aa (aJ (ai ?_)))))
   obtain rfl:=oI H
   exact bR (m:=[.agg #[iv a2.fault,sv a2.where_]]) [2] (fJ Z Z zC qU bG) (fun W hW=>⟨Z,hW.low leB⟩)
  ·refine aM (aa (az (az (fZ (by kernel_rfl) (by kernel_rfl) (dD (ag O9) Z (bL Z (fun _ _ a c=>ah VI (a.ev Z) (bN c (vs:=[sL E p0.Types F,sL p p0.List_.Parts q,sL t p0.List_.Nets u,sL G p0.Materials I,sL J p0.Stack K,sL v p0.Plots y,iv p0.Outline.Unit,sL A p0.Outline.Tools B,sL C p0.Outline.Steps D,sL O p0.Bores P,sL L p0.Bodies M,sL i p0.Places j,sL l p0.Feet o,iv p0.Rules.Clearance,iv p0.Rules.Width,iv p0.Rules.Ring,iv p0.Rules.Edge,iv p0.Rules.HoleGap,sL b p0.Rules.Classes d,sL f p0.Rules.Areas g]) (k:=1) Z 5) Z) (dD (bA Vm) Z (bL Z (fun _ _ a c=>aL (cs:=[sL E p0.Types F,sL p p0.List_.Parts q,sL t p0.List_.Nets u,sL G p0.Materials I,sL J p0.Stack K,sL v p0.Plots y,iv p0.Outline.Unit,sL A p0.Outline.Tools B,sL C p0.Outline.Steps D,sL O p0.Bores P,sL L p0.Bodies M,sL i p0.Places j,sL l p0.Feet o,iv p0.Rules.Clearance,iv p0.Rules.Width,iv p0.Rules.Ring,iv p0.Rules.Edge,iv p0.Rules.HoleGap,sL b p0.Rules.Classes d,sL f p0.Rules.Areas g]) PE Ox (a.ev Z) (aI.take (bN c (vs:=[sL E p0.Types F,sL p p0.List_.Parts q,sL t p0.List_.Nets u,sL G p0.Materials I,sL J p0.Stack K,sL v p0.Plots y,iv p0.Outline.Unit,sL A p0.Outline.Tools B,sL C p0.Outline.Steps D,sL O p0.Bores P,sL L p0.Bodies M,sL i p0.Places j,sL l p0.Feet o,iv p0.Rules.Clearance,iv p0.Rules.Width,iv p0.Rules.Ring,iv p0.Rules.Edge,iv p0.Rules.HoleGap,sL b p0.Rules.Classes d,sL f p0.Rules.Areas g]) (k:=1) Z 0) 20) Z) ?_))))))))
   obtain⟨e0,f1,H⟩:=bnd H
   refine lH (r:=(iv e0)) (wn Z) Z Tryz.call28 (ak Z aH) (fun W hW=>CS p0 E F (b6.ext hW.aY) p q (b7.ext hW.aY) t u (b8.ext hW.aY) G I (b9.ext hW.aY) J K (c0.ext hW.aY) v y (a0.ext hW.aY) A B (c3.ext hW.aY) C D (c4.ext hW.aY) O P (c7.ext hW.aY) L M (c5.ext hW.aY) i j (b1.ext hW.aY) l o (c6.ext hW.aY) b d (b2.ext hW.aY) f g (b3.ext hW.aY) e0 f1 (HF.start _)) (dL dW Z Z (gz (aa (aN Z H (fun H=>?_) (fun H=>?_)))))
   ·refine aj ?_
    obtain⟨a3,f2,H⟩:=bnd H
    refine aS (r:=(.agg #[iv a3.fault,sv a3.where_])) (wn Z) Z Tryz.call26 (ak Z (ak Z aH)) (fun W hW=>mG (⟨#[112,108,111,116,115]⟩) 3 a3 f2 (HF.start _)) (bv 2 (cs:=[iv a3.fault,sv a3.where_]) [iv a3.fault,sv a3.where_] (wn Z) Z Z Z Z qU Z Z Z (ae (aa (aJ (ai ?_)))))
    obtain rfl:=oI H
    exact bR (m:=[.agg #[iv a3.fault,sv a3.where_]]) [2] (fJ Z Z zC qU bG) (fun W hW=>⟨Z,hW.low leB⟩)
   ·refine aM (aa (az (aj (aD (ag O9) Z (aC Z (fun _ _ a c=>ah VI (a.ev Z) (bN c (vs:=[sL E p0.Types F,sL p p0.List_.Parts q,sL t p0.List_.Nets u,sL G p0.Materials I,sL J p0.Stack K,sL v p0.Plots y,iv p0.Outline.Unit,sL A p0.Outline.Tools B,sL C p0.Outline.Steps D,sL O p0.Bores P,sL L p0.Bodies M,sL i p0.Places j,sL l p0.Feet o,iv p0.Rules.Clearance,iv p0.Rules.Width,iv p0.Rules.Ring,iv p0.Rules.Edge,iv p0.Rules.HoleGap,sL b p0.Rules.Classes d,sL f p0.Rules.Areas g]) (k:=1) Z 5) Z) (aD (bA Vm) Z (aA Z (ae (aa (Tr.block (cO (σ:=(List eX)×Nat) (fun m w s=>m=s.1.length+1∧s.1=List.drop s.2 p0.Plots∧s.2≤p0.Plots.length∧ku N p0 s.1 s.2=some r) (fun s=>[(1,pV c8),(2,pV c9),(37,sL v p0.Plots y),(38,iv (p0.Plots.length:Int)),(39,iv (s.2:Int))]) (fun s=>[(1,bx c8 #[sL E p0.Types F,sL p p0.List_.Parts q,sL t p0.List_.Nets u,sL G p0.Materials I,sL J p0.Stack K,sL v p0.Plots y,iv p0.Outline.Unit,sL A p0.Outline.Tools B,sL C p0.Outline.Steps D,sL O p0.Bores P,sL L p0.Bodies M,sL i p0.Places j,sL l p0.Feet o,iv p0.Rules.Clearance,iv p0.Rules.Width,iv p0.Rules.Ring,iv p0.Rules.Edge,iv p0.Rules.HoleGap,sL b p0.Rules.Classes d,sL f p0.Rules.Areas g] 43),(2,bx c9 #[iv 0,sv ⟨#[]⟩] 63)]) (p0.Plots.length+1) (p0.Plots,0) ⟨Z,Z,Nat.zero_le _,H⟩ (.r Z) (.r Z) (fun _ _ h=>absurd h.1 (by simp)) ?_)))))))))))
    intro w Q m s hs
    obtain⟨a',d0⟩:=s
    obtain⟨d3,a4,g8,H⟩:=hs
    replace a4:a'=List.drop d0 p0.Plots:=a4
    replace H:ku N p0 a' d0=some r:=H
    replace d3:m+1=a'.length+1:=d3
    replace hT:=hT.ext Q.ext
    replace b6:=b6.iR Q
    replace b7:=b7.iR Q
    replace b8:=b8.iR Q
    replace b9:=b9.iR Q
    replace c0:=c0.iR Q
    replace a0:=a0.iR Q
    replace c3:=c3.iR Q
    replace c4:=c4.iR Q
    replace c7:=c7.iR Q
    replace c5:=c5.iR Q
    replace b1:=b1.iR Q
    replace c6:=c6.iR Q
    replace b2:=b2.iR Q
    replace b3:=b3.iR Q
    replace leB:=leB.trans Q
    obtain rfl:m=a'.length:=by omega
    clear d3
    dsimp only
    cases a' with
    | nil=>
     rw[ku.eq_1] at H
     refine aj (av bi Z Z (ae (aa (az (dn Z (cz a4) (bZ (aF (aF (bg (aa (az (aj (aD (ag O8) Z (aC Z (fun _ _ a c=>aL (cs:=[iv p0.Outline.Unit,sL A p0.Outline.Tools B,sL C p0.Outline.Steps D]) yw wZ (a.ev Z) (aI.take (bN c (vs:=[sL E p0.Types F,sL p p0.List_.Parts q,sL t p0.List_.Nets u,sL G p0.Materials I,sL J p0.Stack K,sL v p0.Plots y,iv p0.Outline.Unit,sL A p0.Outline.Tools B,sL C p0.Outline.Steps D,sL O p0.Bores P,sL L p0.Bodies M,sL i p0.Places j,sL l p0.Feet o,iv p0.Rules.Clearance,iv p0.Rules.Width,iv p0.Rules.Ring,iv p0.Rules.Edge,iv p0.Rules.HoleGap,sL b p0.Rules.Classes d,sL f p0.Rules.Areas g]) (k:=1) Z 6) 3) Z) ?_))))))))))))))
     obtain⟨d4,f3,H⟩:=bnd H
     refine aS (r:=(iv d4)) (wn Z) Z Tryz.call29 (ak Z aH) (fun W hW=>sj N p0.Outline A B (c3.ext hW.aY) C D (c4.ext hW.aY) d4 f3 (HF.start _)) (Tr.k Z (ae (aa (aj (aA Z (av dW Z Z (ae (aa (aN Z H (fun H=>?_) (fun H=>?_))))))))))
     ·refine aj (aA Z ?_)
      obtain⟨a5,f4,H⟩:=bnd H
      refine aS (r:=(.agg #[iv a5.fault,sv a5.where_])) (wn Z) Z Tryz.call26 (ak Z (ak Z aH)) (fun W hW=>mG (⟨#[111,117,116,108,105,110,101]⟩) d4 a5 f4 (HF.start _)) (bv 2 (cs:=[iv a5.fault,sv a5.where_]) [iv a5.fault,sv a5.where_] (wn Z) Z Z Z Z qU Z Z Z (ae (aa (aJ (ai ?_)))))
      obtain rfl:=oI H
      exact bR (m:=[.agg #[iv a5.fault,sv a5.where_]]) [2] (fJ Z Z zC qU bG) (fun W hW=>⟨Z,hW.low leB⟩)
     ·refine aM (aa (az (aj (aD (ag DI) Z (aC Z (fun _ _ a c=>ah MV (a.ev Z) (bN c (vs:=[sL E p0.Types F,sL p p0.List_.Parts q,sL t p0.List_.Nets u,sL G p0.Materials I,sL J p0.Stack K,sL v p0.Plots y,iv p0.Outline.Unit,sL A p0.Outline.Tools B,sL C p0.Outline.Steps D,sL O p0.Bores P,sL L p0.Bodies M,sL i p0.Places j,sL l p0.Feet o,iv p0.Rules.Clearance,iv p0.Rules.Width,iv p0.Rules.Ring,iv p0.Rules.Edge,iv p0.Rules.HoleGap,sL b p0.Rules.Classes d,sL f p0.Rules.Areas g]) (k:=1) Z 9) Z) (aD (bA BQ) Z (av dE Z Z (ae (aa (aN Z H (fun H=>?_) (fun H=>?_)))))))))))
      ·refine aj ?_
       obtain⟨a6,f5,H⟩:=bnd H
       refine aS (r:=(.agg #[iv a6.fault,sv a6.where_])) (wn Z) Z Tryz.call26 (ak Z (ak Z aH)) (fun W hW=>mG (⟨#[98,111,114,101,115]⟩) 2 a6 f5 (HF.start _)) (bv 2 (cs:=[iv a6.fault,sv a6.where_]) [iv a6.fault,sv a6.where_] (wn Z) Z Z Z Z qU Z Z Z (ae (aa (aJ (ai ?_)))))
       obtain rfl:=oI H
       exact bR (m:=[.agg #[iv a6.fault,sv a6.where_]]) [2] (fJ Z Z zC qU bG) (fun W hW=>⟨Z,hW.low leB⟩)
      ·refine aM (aa (az (aj (aD (ag Uq) Z (aC Z (fun _ _ a c=>ah X3 (a.ev Z) (bN c (vs:=[sL E p0.Types F,sL p p0.List_.Parts q,sL t p0.List_.Nets u,sL G p0.Materials I,sL J p0.Stack K,sL v p0.Plots y,iv p0.Outline.Unit,sL A p0.Outline.Tools B,sL C p0.Outline.Steps D,sL O p0.Bores P,sL L p0.Bodies M,sL i p0.Places j,sL l p0.Feet o,iv p0.Rules.Clearance,iv p0.Rules.Width,iv p0.Rules.Ring,iv p0.Rules.Edge,iv p0.Rules.HoleGap,sL b p0.Rules.Classes d,sL f p0.Rules.Areas g]) (k:=1) Z 10) Z) (aD (ag Uo) Z (aC Z (fun _ _ a c=>ah XZ (a.ev Z) (bN c (vs:=[sL E p0.Types F,sL p p0.List_.Parts q,sL t p0.List_.Nets u,sL G p0.Materials I,sL J p0.Stack K,sL v p0.Plots y,iv p0.Outline.Unit,sL A p0.Outline.Tools B,sL C p0.Outline.Steps D,sL O p0.Bores P,sL L p0.Bodies M,sL i p0.Places j,sL l p0.Feet o,iv p0.Rules.Clearance,iv p0.Rules.Width,iv p0.Rules.Ring,iv p0.Rules.Edge,iv p0.Rules.HoleGap,sL b p0.Rules.Classes d,sL f p0.Rules.Areas g]) (k:=1) Z 11) Z) ?_)))))))
       obtain⟨d5,f6,H⟩:=bnd H
       refine aS (r:=(iv d5)) (wn Z) Z Tryz.call31 (ak Z (ak Z aH)) (fun W hW=>zy N (hT.ext hW.aY) p0.Bodies L M (c5.ext hW.aY) p0.Places i j (b1.ext hW.aY) d5 f6 (HF.start _)) (Tr.k Z (ae (aa (aj (aA Z (av dW Z Z (ae (aa (aN Z H (fun H=>?_) (fun H=>?_))))))))))
       ·refine aj (aA Z ?_)
        obtain⟨a7,f7,H⟩:=bnd H
        refine aS (r:=(.agg #[iv a7.fault,sv a7.where_])) (wn Z) Z Tryz.call26 (ak Z (ak Z aH)) (fun W hW=>mG (⟨#[112,108,97,99,101,115]⟩) d5 a7 f7 (HF.start _)) (bv 2 (cs:=[iv a7.fault,sv a7.where_]) [iv a7.fault,sv a7.where_] (wn Z) Z Z Z Z qU Z Z Z (ae (aa (aJ (ai ?_)))))
        obtain rfl:=oI H
        exact bR (m:=[.agg #[iv a7.fault,sv a7.where_]]) [2] (fJ Z Z zC qU bG) (fun W hW=>⟨Z,hW.low leB⟩)
       ·refine aM (aa (az (aj (aC Z (fun _ _ a c=>aL (cs:=[sL E p0.Types F,sL p p0.List_.Parts q,sL t p0.List_.Nets u,sL G p0.Materials I,sL J p0.Stack K,sL v p0.Plots y,iv p0.Outline.Unit,sL A p0.Outline.Tools B,sL C p0.Outline.Steps D,sL O p0.Bores P,sL L p0.Bodies M,sL i p0.Places j,sL l p0.Feet o,iv p0.Rules.Clearance,iv p0.Rules.Width,iv p0.Rules.Ring,iv p0.Rules.Edge,iv p0.Rules.HoleGap,sL b p0.Rules.Classes d,sL f p0.Rules.Areas g]) PE Ox (a.ev Z) (aI.take (bN c (vs:=[sL E p0.Types F,sL p p0.List_.Parts q,sL t p0.List_.Nets u,sL G p0.Materials I,sL J p0.Stack K,sL v p0.Plots y,iv p0.Outline.Unit,sL A p0.Outline.Tools B,sL C p0.Outline.Steps D,sL O p0.Bores P,sL L p0.Bodies M,sL i p0.Places j,sL l p0.Feet o,iv p0.Rules.Clearance,iv p0.Rules.Width,iv p0.Rules.Ring,iv p0.Rules.Edge,iv p0.Rules.HoleGap,sL b p0.Rules.Classes d,sL f p0.Rules.Areas g]) (k:=1) Z 0) 20) Z) ?_))))
        obtain⟨d6,f8,H⟩:=bnd H
        refine aS (r:=(iv d6)) (wn Z) Z Tryz.call32 (ak Z aH) (fun W hW=>Bf N p0 E F (b6.ext hW.aY) p q (b7.ext hW.aY) t u (b8.ext hW.aY) G I (b9.ext hW.aY) J K (c0.ext hW.aY) v y (a0.ext hW.aY) A B (c3.ext hW.aY) C D (c4.ext hW.aY) O P (c7.ext hW.aY) L M (c5.ext hW.aY) i j (b1.ext hW.aY) l o (c6.ext hW.aY) b d (b2.ext hW.aY) f g (b3.ext hW.aY) d6 f8 (HF.start _)) (Tr.k Z (ae (aa (aj (aA Z (av dW Z Z (ae (aa (aN Z H (fun H=>?_) (fun H=>?_))))))))))
        ·refine aj (aA Z ?_)
         obtain⟨a8,f9,H⟩:=bnd H
         refine aS (r:=(.agg #[iv a8.fault,sv a8.where_])) (wn Z) Z Tryz.call26 (ak Z (ak Z aH)) (fun W hW=>mG (⟨#[102,101,101,116]⟩) d6 a8 f9 (HF.start _)) (bv 2 (cs:=[iv a8.fault,sv a8.where_]) [iv a8.fault,sv a8.where_] (wn Z) Z Z Z Z qU Z Z Z (ae (aa (aJ (ai ?_)))))
         obtain rfl:=oI H
         exact bR (m:=[.agg #[iv a8.fault,sv a8.where_]]) [2] (fJ Z Z zC qU bG) (fun W hW=>⟨Z,hW.low leB⟩)
        ·refine aM (aa (aj (aD (ag R5) Z (aC Z (fun _ _ a c=>aL (cs:=[iv p0.Rules.Clearance,iv p0.Rules.Width,iv p0.Rules.Ring,iv p0.Rules.Edge,iv p0.Rules.HoleGap,sL b p0.Rules.Classes d,sL f p0.Rules.Areas g]) XX Xk (a.ev Z) (aI.take (bN c (vs:=[sL E p0.Types F,sL p p0.List_.Parts q,sL t p0.List_.Nets u,sL G p0.Materials I,sL J p0.Stack K,sL v p0.Plots y,iv p0.Outline.Unit,sL A p0.Outline.Tools B,sL C p0.Outline.Steps D,sL O p0.Bores P,sL L p0.Bodies M,sL i p0.Places j,sL l p0.Feet o,iv p0.Rules.Clearance,iv p0.Rules.Width,iv p0.Rules.Ring,iv p0.Rules.Edge,iv p0.Rules.HoleGap,sL b p0.Rules.Classes d,sL f p0.Rules.Areas g]) (k:=1) Z 13) 7) Z) ?_))))
         obtain⟨d7,g0,H⟩:=bnd H
         refine aS (r:=(iv d7)) (wn Z) Z Tryz.call33 (ak Z aH) (fun W hW=>zM N (hT.ext hW.aY) p0.Rules b d (b2.ext hW.aY) f g (b3.ext hW.aY) d7 g0 (HF.start _)) ?_
         obtain⟨a9,g1,H⟩:=bnd H
         refine aS (r:=(.agg #[iv a9.fault,sv a9.where_])) (wn Z) Z Tryz.call26 (ak Z (ak Z aH)) (fun W hW=>mG (⟨#[114,117,108,101,115]⟩) d7 a9 g1 (HF.start _)) (bv 2 (cs:=[iv a9.fault,sv a9.where_]) [iv a9.fault,sv a9.where_] (wn Z) Z Z Z Z qU Z Z Z (ae (aa (aJ ?_))))
         obtain rfl:=oI H
         exact bR (m:=[.agg #[iv a9.fault,sv a9.where_]]) [2] (fJ Z Z zC qU bG) (fun W hW=>⟨Z,hW.low leB⟩)
    | cons S a'=>
     rw[ku.eq_2] at H
     refine aj (av bi Z Z (ae (aa (az (dm Z (dz a4) (aM (aa (az (Tr.block (aj (aA Z ?_)))))))))))
     obtain⟨g6,e3,d9,e4⟩:=(a0).el (dA a4)
     obtain⟨⟨T,U⟩,⟨V,X⟩⟩:=g6
     obtain⟨b4,b5⟩:=d9
     replace b4:Sl w.R w.W cB T U S.Tools:=b4
     replace b5:Sl w.R w.W bH V X S.Steps:=b5
     refine aC Z (fun _ _ a c=>aB XQ (a.ev Z) a0.form (a.ev Z) (Int.natCast_nonneg _) (bq a4)) (aC Z (fun _ _ a c=>aL (cs:=[iv S.Unit,sL T S.Tools U,sL V S.Steps X]) yw wZ (a.ev Z) (aI.take (tY e3 e4 c) 3) Z) (Tr.alloc 4 (wn Z) Z Xe fun g9=>(Tr.k Z (bv 4 (cs:=[iv S.Unit,sL T S.Tools U,sL V S.Steps X]) [iv S.Unit,sL T S.Tools U,sL V S.Steps X] (wn Z) Z Z Z Z wZ Z Z Z (ae (aa (aj (aC Z (fun _ _ a c=>aL (cs:=[iv S.Unit,sL T S.Tools U,sL V S.Steps X]) yw wZ (a.ev Z) (aI.take (bN c (vs:=[iv S.Unit,sL T S.Tools U,sL V S.Steps X]) (k:=4) Z 0) 3) Z) ?_))))))))
     obtain⟨d8,g2,H⟩:=bnd H
     refine aS (r:=(iv d8)) (wn Z) Z Tryz.call29 (ak Z aH) (fun W hW=>sj N S T U (b4.ext hW.aY) V X (b5.ext hW.aY) d8 g2 (HF.start _)) (Tr.k Z (ae (aa (aj (aA Z (av dW Z Z (ae (aa (aN Z H (fun H=>?_) (fun H=>?_))))))))))
     ·refine aj (aA Z ?_)
      obtain⟨e5,g3,H⟩:=bnd H
      refine aS (r:=(sv e5)) (wn Z) Z Tryz.call30 (ak Z aH) (fun W hW=>Ep (hT.ext hW.aY) (d0:Int) e5 g3 (HF.start _)) ?_
      obtain⟨g7,g4,H⟩:=bnd H
      refine aC Z (fun _ _ a c=>Rf (a.ev Z) (a.ev Z) g4) (aA Z ?_)
      obtain⟨b0,g5,H⟩:=bnd H
      refine aS (r:=(.agg #[iv b0.fault,sv b0.where_])) (wn Z) Z Tryz.call26 (ak Z (ak Z aH)) (fun W hW=>mG g7 d8 b0 g5 (HF.start _)) (bv 2 (cs:=[iv b0.fault,sv b0.where_]) [iv b0.fault,sv b0.where_] (wn Z) Z Z Z Z qU Z Z Z (ae (aa (aJ (au (ai (ai (au (ai ?_)))))))))
      obtain rfl:=oI H
      exact bR (m:=[.agg #[iv b0.fault,sv b0.where_]]) [2] (fJ Z Z zC qU bG) (fun W hW=>⟨Z,hW.low leB⟩)
     ·exact aM (aQ (aa (aV (av bE Z Z (aA Z (ae (aP Q (a',(d0+1)) ⟨Z,df a4,bq a4,H⟩ (.cons Z (.cons Z (.cons Z (.cons Z (.cons (congrArg (fun z=>some (Value.int .i64 z)) (cZ a4 a0.form)) .nil))))) (.r Z))))))))

theorem Be{w:Bs}(p0:zg)(r:Bool)(H:qY p0=some r)(hE:HF w w.W E0):Calls Tryz.prog 8 [.agg #[iv p0.fault,sv p0.where_]].toArray w.W fun e W'=>e= .returned (bV r)∧HF w W' E0:=by
 unfold qY at H
 have leB:=Bs.Le.refl w
 refine aX (n:=6) Tryz.func8 Z Z Z hE (aj (dh 1 (cs:=[iv p0.fault,sv p0.where_]) (wn Z) Z Z Z fun b=>(Tr.k Z (ae (aa (aj (aD (ag O1) Z (aC Z (fun _ _ a c=>ah VG (a.ev Z) (bN c (vs:=[iv p0.fault,sv p0.where_]) (k:=1) Z 0) Z) (av dW Z Z (Tr.k Z (ae (aa (aJ ?_)))))))))))))
 obtain rfl:=oI H
 exact bD leB

theorem fI{w:Bs}(p0:Int)(p1:Int)(p2:Int)(r:Bool)(H:eQ p0 p1 p2=some r)(hE:HF w w.W E0):Calls Tryz.prog 22 [iv p0,iv p1,iv p2].toArray w.W fun e W'=>e= .returned (bV r)∧HF w W' E0:=by
 unfold eQ at H
 have leB:=Bs.Le.refl w
 refine aX (n:=15) Tryz.func22 Z Z Z hE (aj (Tr.k Z (ae (aa (aj (aA Z (aA Z (av kG Z Z (aA Z (bM 4 [(14,bV ((decide (p1≤p0))&&(decide (p0≤p2))))] [] ?_ ?_))))))))))
 ·cases a:(decide (p1≤p0))
  ·exact aG Z (aG Z (aG Z (av aU Z Z (ae (aR (.r Z) .nil)))))
  ·exact bC run_move Z (bC run_move Z (dI iT Z Z (av aT Z Z (ae (aR (.r Z) .nil)))))
 ·show Tr _ _ (LF [(14,bV ((decide (p1≤p0))&&(decide (p0≤p2))))]) (LE []) _
  refine Tr.k Z (ae (aa (aJ ?_)))
  obtain rfl:=oI H
  exact bD leB

end Go.Proofs.YtgijeiamflmkeaaGreatDoor
