/- The walks: each function computes its plain function. -/
import Derived.Test.YtkccbhbhdnobhaaGreatDoorXWa
namespace Go.Proofs.YtkccbhbhdnobhaaGreatDoor
open Go.RowKit
set_option maxRecDepth 100000
set_option maxHeartbeats 1000000
theorem wD(N:Nat){w:Bs}(p0:nU)(l:Option Addr)(o:Nat)(a0:Sl w.R w.W dF l o p0.Coppers)(p:Option Addr)(q:Nat)(P:Sl w.R w.W aB p q p0.Outline)(f:Option Addr)(g:Nat)(y:Sl w.R w.W dY f g p0.Bores)(t:Option Addr)(u:Nat)(Q:Sl w.R w.W eH t u p0.Lands)(r:Int)(H:lJ N p0=some r)(hE:HF w w.W E0):Calls Tryz.prog 39 [.agg #[sL l p0.Coppers o,sL p p0.Outline q,sL f p0.Bores g,sL t p0.Lands u]].toArray w.W fun e W'=>e= .returned (iv r)∧HF w W' E0:=by
 unfold lJ at H
 have leB:=Bs.Le.refl w
 refine aV (n:=47) Tryz.func39 O O O hE (ai (fw 1 (cs:=[sL l p0.Coppers o,sL p p0.Outline q,sL f p0.Bores g,sL t p0.Lands u]) (wn O) O O O fun S=>(Tr.k O (ae (aa (av (ai (aH (ag rE) O (aC O (fun _ _ a d=>ah yG (a.ev O) (bR d (vs:=[sL l p0.Coppers o,sL p p0.Outline q,sL f p0.Bores g,sL t p0.Lands u]) (k:=1) O 2) O) (aH (bf zf) O (ay iG O O (ae (aa (aT O H (fun H=>?_) (fun H=>?_)))))))))))))))
 ·refine ai (Tr.k O (ae (aa (aO (aD ?_)))))
  obtain rfl:=oI H
  exact cB leB
 ·refine aJ (aa (ai (aH (ag xZ) O (aC O (fun _ _ a d=>ah Ej (a.ev O) (bR d (vs:=[sL l p0.Coppers o,sL p p0.Outline q,sL f p0.Bores g,sL t p0.Lands u]) (k:=1) O 0) O) (aH (bf zg) O (Tr.k O (ae (aa (av (ai (aH (ag rE) O (aC O (fun _ _ a d=>ah yG (a.ev O) (bR d (vs:=[sL l p0.Coppers o,sL p p0.Outline q,sL f p0.Bores g,sL t p0.Lands u]) (k:=1) O 2) O) (aH (bf zf) O (ax O (ae (aa (Tr.block (bO (σ:=(List gP)×Nat) (fun m w s=>m=s.1.length+1∧s.1=List.drop s.2 p0.Bores∧s.2≤p0.Bores.length∧gL N p0 s.1 s.2=some r) (fun s=>[(3,iv (p0.Coppers.length:Int)),(16,sL f p0.Bores g),(17,iv (p0.Bores.length:Int)),(18,iv (s.2:Int))]) (fun s=>[]) (p0.Bores.length+1) (p0.Bores,0) ⟨O,O,Nat.zero_le _,H⟩ (.r O) .nil (fun _ _ h=>absurd h.1 (by simp)) ?_))))))))))))))))))
  intro w B m s hs
  obtain⟨i,A⟩:=s
  obtain⟨C,j,T,H⟩:=hs
  replace j:i=List.drop A p0.Bores:=j
  replace H:gL N p0 i A=some r:=H
  replace C:m+1=i.length+1:=C
  replace y:=y.kL B
  replace leB:=leB.trans B
  obtain rfl:m=i.length:=by omega
  clear C
  dsimp only
  cases i with
  |nil=>
   rw[gL.eq_1] at H
   refine ai (ay aR O O (ae (aa (av (bX O (bN j) (bK (aA (aA (aP (aa (ai (Tr.k O (ae (aa (aO ?_)))))))))))))))
   obtain rfl:=oI H
   exact cB leB
  | cons b i=>
   rw[gL.eq_2] at H
   refine ai (ay aR O O (ae (aa (av (bY O (cu j) (aJ (aa (av (Tr.block (ai (aC O (fun _ _ a d=>ak Bg (a.ev O) y.form (a.ev O) (Int.natCast_nonneg _) (aX j)) (aC O (fun _ _ a d=>aM (cs:=[iv b.At.X,iv b.At.Y,iv b.Size,iv b.From,iv b.To,bV b.Plated]) oH lT (a.ev O) (aF.take (rP rT y (dI j) d) 6) O) (Tr.alloc 4 (wn O) O Aa fun F=>(bF 4 (cs:=[iv b.At.X,iv b.At.Y,iv b.Size,iv b.From,iv b.To,bV b.Plated]) [iv b.At.X,iv b.At.Y,iv b.Size,iv b.From,iv b.To,bV b.Plated] (wn O) O O O O lT O O O (ae (aa (av (ai (aC O (fun _ _ a d=>aM (cs:=[iv b.At.X,iv b.At.Y,iv b.Size,iv b.From,iv b.To,bV b.Plated]) oH lT (a.ev O) (aF.take (bR d (vs:=[iv b.At.X,iv b.At.Y,iv b.Size,iv b.From,iv b.To,bV b.Plated]) (k:=4) O 0) 6) O) ?_)))))))))))))))))))
   obtain⟨c,K,H⟩:=bnd H
   refine bu (r:=(.tuple #[.agg #[iv c.1.X0,iv c.1.Y0,iv c.1.X1,iv c.1.Y1],iv c.2])) (wn O) O Tryz.call76 (aj O aG) (fun W hW=>yX N b c K (HF.start _)) (ax O (aC O (fun _ _ a d=>bA (a.ev O) O) (aC O (fun _ _ a d=>bA (a.ev O) O) (Tr.alloc 5 (wn O) O lK fun G=>(bF 5 (cs:=[iv c.1.X0,iv c.1.Y0,iv c.1.X1,iv c.1.Y1]) [iv c.1.X0,iv c.1.Y0,iv c.1.X1,iv c.1.Y1] (wn O) O O O O dh O O O (Tr.k O (ae (aa (ai (ax O (ay fM O O (ae (aa (aT O H (fun H=>?_) (fun H=>?_)))))))))))))))
   ·refine ai (ax O (Tr.k O (ae (aa (aO (aD (bq (aD (aD (bq (aD ?_)))))))))))
    obtain rfl:=oI H
    exact cB leB
   ·refine aJ (aa (ai (aH (ag xk) O (aC O (fun _ _ a d=>ah bG (a.ev O) (bR d (vs:=[iv b.At.X,iv b.At.Y,iv b.Size,iv b.From,iv b.To,bV b.Plated]) (k:=4) O 3) O) (ax O (ay iP O O ?_))))))
    obtain⟨D,L,H⟩:=bnd H
    refine bu (r:=(bV D)) (wn O) O Tryz.call19 (aj O (aj O (aj O aG))) (fun W hW=>mf b.From 0 (bJ ((p0.Coppers.length:Int)-1)) D L (HF.start _)) (aH iQ O (ax O ?_))
    obtain⟨I,v,H⟩:=bnd H
    refine bP 9 [(3,iv (p0.Coppers.length:Int)),(16,sL f p0.Bores g),(17,iv (p0.Bores.length:Int)),(18,iv (A:Int)),(45,bV I)] [(4,bx F #[iv b.At.X,iv b.At.Y,iv b.Size,iv b.From,iv b.To,bV b.Plated] 119),(5,bx G #[iv c.1.X0,iv c.1.Y0,iv c.1.X1,iv c.1.Y1] 111)] ?_ ?_
    ·cases E:(!D)
     ·rw[E] at v
      rw[if_neg (by decide)] at v
      have H:=v
      refine bH (ag zJ) O (Tr.x (fun _ _ a d=>ah bG (a.ev O) (bR d (vs:=[iv b.At.X,iv b.At.Y,iv b.Size,iv b.From,iv b.To,bV b.Plated]) (k:=4) O 4) O) (bH (ag xk) O (Tr.x (fun _ _ a d=>ah bG (a.ev O) (bR d (vs:=[iv b.At.X,iv b.At.Y,iv b.Size,iv b.From,iv b.To,bV b.Plated]) (k:=4) O 3) O) (bH run_move O (Tr.e2 iP O O ?_)))))
      obtain⟨J,M,H⟩:=bnd H
      refine bu (r:=(bV J)) (wg O O O) O Tryz.call19 (aj O (aj O (aj O aG))) (fun W hW=>mf b.To b.From (bJ ((p0.Coppers.length:Int)-1)) J M (HF.start _)) (bH iQ O (ay aZ O O ?_))
      obtain rfl:=oI H
      exact ae (aS (.r O) (.r O))
     ·rw[E] at v
      rw[if_pos O] at v
      have H:=v
      obtain rfl:=oI H
      exact Tr.ps O (Tr.ps O (Tr.ps O (Tr.ps O (Tr.ps O (Tr.ps O (Tr.ps O (Tr.ps O (ay aW O O (ae (aS (.r O) (.r O)))))))))))
    ·show Tr _ _ (LF [(3,iv (p0.Coppers.length:Int)),(16,sL f p0.Bores g),(17,iv (p0.Bores.length:Int)),(18,iv (A:Int)),(45,bV I)]) (LE [(4,bx F #[iv b.At.X,iv b.At.Y,iv b.Size,iv b.From,iv b.To,bV b.Plated] 119),(5,bx G #[iv c.1.X0,iv c.1.Y0,iv c.1.X1,iv c.1.Y1] 111)]) _
     refine ae (aa (aT O H (fun H=>?_) (fun H=>?_)))
     ·refine ai (Tr.k O (ae (aa (aO (bq (aD (aD (bq (aD ?_)))))))))
      obtain rfl:=oI H
      exact cB leB
     ·exact aJ (aK (aa (Tr.region (ay bB O O (ax O (ae (aI B (i,(A+1)) ⟨O,bT j,aX j,H⟩ (.cons O (.cons O (.cons O (.cons (congrArg (fun z=>some (Value.int .i64 z)) (bS j y.form)) .nil)))) .nil)))))))

theorem qU{w:Bs}(p0:pG)(r:wK)(H:ku p0=some r)(hE:HF w w.W E0):Calls Tryz.prog 80 [.agg #[sv p0.Part,sv p0.Pin,iv p0.Layer,iv p0.At.X,iv p0.At.Y]].toArray w.W fun e W'=>e= .returned (.agg #[sv r.Part,sv r.Pin])∧HF w W' E0:=by
 unfold ku at H
 have leB:=Bs.Le.refl w
 refine aV (n:=8) Tryz.func80 O O O hE (ai (fw 1 (cs:=[sv p0.Part,sv p0.Pin,iv p0.Layer,iv p0.At.X,iv p0.At.Y]) (wn O) O O O fun b=>(Tr.alloc 2 (wn O) O PD fun c=>(ae (aa (ai (aH (ag Gg) O (aC O (fun _ _ a d=>ah zP (a.ev O) (bR d (vs:=[sv p0.Part,sv p0.Pin,iv p0.Layer,iv p0.At.X,iv p0.At.Y]) (k:=1) O 0) O) (aH (ag Gf) O (aC O (fun _ _ a d=>ah zP (a.ev O) (bR d (vs:=[sv p0.Part,sv p0.Pin,iv p0.Layer,iv p0.At.X,iv p0.At.Y]) (k:=1) O 1) O) (ko (vs:=[(0,sv p0.Part),(1,sv p0.Pin)]) (cs:=[sv p0.Part,sv p0.Pin]) (wn O) O (bz O (bz O dE)) (by kernel_rfl) (bF 2 (cs:=[sv p0.Part,sv p0.Pin]) [sv p0.Part,sv p0.Pin] (wn O) O O O O G6 O O O ?_))))))))))))
 refine ae (aa (aO ?_))
 obtain rfl:=oI H
 exact bL (m:=[.agg #[sv p0.Part,sv p0.Pin]]) [2] (mM O O Ql G6 bD) (fun W hW=>⟨O,hW.low leB⟩)

theorem rU{w:Bs}(p0:ByteArray)(p1:ByteArray)(r:Int)(H:MB p0 p1=some r)(hE:HF w w.W E0):Calls Tryz.prog 120 [sv p0,sv p1].toArray w.W fun e W'=>e= .returned (iv r)∧HF w W' E0:=
 J9 (ρ:=Tryz.xw) Tryz.Ig H hE

theorem uJ{w:Bs}(p0:wK)(p1:wK)(r:Int)(H:kI p0 p1=some r)(hE:HF w w.W E0):Calls Tryz.prog 79 [.agg #[sv p0.Part,sv p0.Pin],.agg #[sv p1.Part,sv p1.Pin]].toArray w.W fun e W'=>e= .returned (iv r)∧HF w W' E0:=by
 unfold kI at H
 have leB:=Bs.Le.refl w
 refine aV (n:=19) Tryz.func79 O O O hE (ai (fw 1 (cs:=[sv p0.Part,sv p0.Pin]) (wn O) O O O fun h=>(fw 2 (cs:=[sv p1.Part,sv p1.Pin]) (wn O) O O O fun i=>(Tr.k O (ae (aa (av (ai (aH (ag Gd) O (aC O (fun _ _ a d=>ah zP (a.ev O) (bR d (vs:=[sv p0.Part,sv p0.Pin]) (k:=1) O 0) O) (aH (ag Gd) O (aC O (fun _ _ a d=>ah zP (a.ev O) (bR d (vs:=[sv p1.Part,sv p1.Pin]) (k:=2) O 0) O) ?_))))))))))))
 obtain⟨b,f,H⟩:=bnd H
 refine bu (r:=(iv b)) (wn O) O Tryz.call120 (aj O (aj O aG)) (fun W hW=>rU p0.Part p1.Part b f (HF.start _)) (Tr.k O (ae (aa (ai (ax O (ay fM O O (ae (aa (aT O H (fun H=>?_) (fun H=>?_))))))))))
 ·refine ai (ax O (Tr.k O (ae (aa (aO (aD ?_))))))
  obtain rfl:=oI H
  exact cB leB
 ·refine aJ (aa (ai (aH (ag Gc) O (aC O (fun _ _ a d=>ah zP (a.ev O) (bR d (vs:=[sv p0.Part,sv p0.Pin]) (k:=1) O 1) O) (aH (ag Gc) O (aC O (fun _ _ a d=>ah zP (a.ev O) (bR d (vs:=[sv p1.Part,sv p1.Pin]) (k:=2) O 1) O) ?_))))))
  obtain⟨c,g,H⟩:=bnd H
  refine bu (r:=(iv c)) (wn O) O Tryz.call120 (aj O (aj O aG)) (fun W hW=>rU p0.Pin p1.Pin c g (HF.start _)) (Tr.k O (ae (aa (aO ?_))))
  obtain rfl:=oI H
  exact cB leB

theorem wC(N:Nat){w:Bs}(hT:Dx Tryz.prog w)(p0:nU)(g:Option Addr)(i:Nat)(a9:Sl w.R w.W dF g i p0.Coppers)(j:Option Addr)(l:Nat)(b0:Sl w.R w.W aB j l p0.Outline)(o:Option Addr)(p:Nat)(b1:Sl w.R w.W dY o p p0.Bores)(c:Option Addr)(f:Nat)(y:Sl w.R w.W eH c f p0.Lands)(r:Int)(H:lI N p0=some r)(hE:HF w w.W E0):Calls Tryz.prog 40 [.agg #[sL g p0.Coppers i,sL j p0.Outline l,sL o p0.Bores p,sL c p0.Lands f]].toArray w.W fun e W'=>e= .returned (iv r)∧HF w W' E0:=by
 unfold lI at H
 have leB:=Bs.Le.refl w
 refine aV (n:=60) Tryz.func40 O O O hE (ai (fw 1 (cs:=[sL g p0.Coppers i,sL j p0.Outline l,sL o p0.Bores p,sL c p0.Lands f]) (wn O) O O O fun q=>(Tr.k O (ae (aa (av (ai (aH (ag BF) O (aC O (fun _ _ a d=>ah Jv (a.ev O) (bR d (vs:=[sL g p0.Coppers i,sL j p0.Outline l,sL o p0.Bores p,sL c p0.Lands f]) (k:=1) O 3) O) (aH (bf KP) O (ay iG O O (ae (aa (aT O H (fun H=>?_) (fun H=>?_)))))))))))))))
 ·refine ai (Tr.k O (ae (aa (aO (aD ?_)))))
  obtain rfl:=oI H
  exact cB leB
 ·refine aJ (aa (av (ai (aH (ag BF) O (aC O (fun _ _ a d=>ah Jv (a.ev O) (bR d (vs:=[sL g p0.Coppers i,sL j p0.Outline l,sL o p0.Bores p,sL c p0.Lands f]) (k:=1) O 3) O) (aH (bf KP) O (ax O (ae (aa (Tr.block (bO (σ:=(List pG)×Nat) (fun m w s=>m=s.1.length+1∧s.1=List.drop s.2 p0.Lands∧s.2≤p0.Lands.length∧gK N p0 s.1 s.2=some r) (fun s=>[(1,pV q),(10,sL c p0.Lands f),(11,iv (p0.Lands.length:Int)),(12,iv (s.2:Int))]) (fun s=>[(1,bx q #[sL g p0.Coppers i,sL j p0.Outline l,sL o p0.Bores p,sL c p0.Lands f] 31)]) (p0.Lands.length+1) (p0.Lands,0) ⟨O,O,Nat.zero_le _,H⟩ (.r O) (.r O) (fun _ _ h=>absurd h.1 (by simp)) ?_)))))))))))
  intro w J m s hs
  obtain⟨t,u⟩:=s
  obtain⟨K,A,b2,H⟩:=hs
  replace A:t=List.drop u p0.Lands:=A
  replace H:gK N p0 t u=some r:=H
  replace K:m+1=t.length+1:=K
  replace hT:=hT.ext J.ext
  replace y:=y.kL J
  replace leB:=leB.trans J
  obtain rfl:m=t.length:=by omega
  clear K
  dsimp only
  cases t with
  |nil=>
   rw[gK.eq_1] at H
   refine ai (ay aR O O (ae (aa (av (bX O (bN A) (bK (aA (aA (aP (aa (ai (Tr.k O (ae (aa (aO ?_)))))))))))))))
   obtain rfl:=oI H
   exact cB leB
  | cons b t=>
   rw[gK.eq_2] at H
   refine ai (ay aR O O (ae (aa (av (bY O (cu A) (aJ (aa (av (Tr.block (ai (ax O (aC O (fun _ _ a d=>ak Mr (a.ev O) y.form (a.ev O) (Int.natCast_nonneg _) (aX A)) (aC O (fun _ _ a d=>aM (cs:=[sv b.Part,sv b.Pin,iv b.Layer,iv b.At.X,iv b.At.Y]) Az wZ (a.ev O) (aF.take (rP zM y (dI A) d) 5) O) (Tr.alloc 3 (wn O) O KF fun B=>(Tr.k O (bF 3 (cs:=[sv b.Part,sv b.Pin,iv b.Layer,iv b.At.X,iv b.At.Y]) [sv b.Part,sv b.Pin,iv b.Layer,iv b.At.X,iv b.At.Y] (wn O) O O O O wZ O O O (ae (aa (Tr.block (ai (aH (ag Gg) O (aC O (fun _ _ a d=>ah zP (a.ev O) (bR d (vs:=[sv b.Part,sv b.Pin,iv b.Layer,iv b.At.X,iv b.At.Y]) (k:=3) O 0) O) ?_))))))))))))))))))))))
   obtain⟨L,a0,H⟩:=bnd H
   refine bu (r:=(bV L)) (wn O) O Tryz.call62 (aj O aG) (fun W hW=>sH N (hT.ext hW.bU) b.Part L a0 (HF.start _)) (aH iQ O (ax O ?_))
   obtain⟨a',C,H⟩:=bnd H
   refine bP 5 [(1,pV q),(3,iv (u:Int)),(4,pV B),(10,sL c p0.Lands f),(11,iv (p0.Lands.length:Int)),(12,iv (u:Int)),(27,bV a')] [(1,bx q #[sL g p0.Coppers i,sL j p0.Outline l,sL o p0.Bores p,sL c p0.Lands f] 31),(3,bx B #[sv b.Part,sv b.Pin,iv b.Layer,iv b.At.X,iv b.At.Y] 155)] ?_ ?_
   ·cases v:(!L)
    ·rw[v] at C
     rw[if_neg (by decide)] at C
     have H:=C
     refine bH (ag Gf) O (Tr.x (fun _ _ a d=>ah zP (a.ev O) (bR d (vs:=[sv b.Part,sv b.Pin,iv b.Layer,iv b.At.X,iv b.At.Y]) (k:=3) O 1) O) ?_)
     obtain⟨P,a1,H⟩:=bnd H
     refine bu (r:=(bV P)) (wg O O O) O Tryz.call77 (aj O aG) (fun W hW=>sG N b.Pin P a1 (HF.start _)) (bH iQ O (ay aZ O O ?_))
     obtain rfl:=oI H
     exact ae (aS (.r O) (.r O))
    ·rw[v] at C
     rw[if_pos O] at C
     have H:=C
     obtain rfl:=oI H
     exact Tr.ps O (Tr.ps O (Tr.ps O (Tr.ps O (ay aW O O (ae (aS (.r O) (.r O)))))))
   ·show Tr _ _ (LF [(1,pV q),(3,iv (u:Int)),(4,pV B),(10,sL c p0.Lands f),(11,iv (p0.Lands.length:Int)),(12,iv (u:Int)),(27,bV a')]) (LE [(1,bx q #[sL g p0.Coppers i,sL j p0.Outline l,sL o p0.Bores p,sL c p0.Lands f] 31),(3,bx B #[sv b.Part,sv b.Pin,iv b.Layer,iv b.At.X,iv b.At.Y] 155)]) _
    refine Tr.k O (ae (aa (aT O H (fun H=>?_) (fun H=>?_))))
    ·refine ai (Tr.k O (ae (aa (aO (bq (bq (aD (aD (bq (aD ?_))))))))))
     obtain rfl:=oI H
     exact cB leB
    ·refine ai (aH (ag zH) O (aC O (fun _ _ a d=>ah bG (a.ev O) (bR d (vs:=[sv b.Part,sv b.Pin,iv b.Layer,iv b.At.X,iv b.At.Y]) (k:=3) O 2) O) (aH (ag xZ) O (aC O (fun _ _ a d=>ah Ej (a.ev O) (bR d (vs:=[sL g p0.Coppers i,sL j p0.Outline l,sL o p0.Bores p,sL c p0.Lands f]) (k:=1) O 0) O) (aH (bf zg) O (ay iP O O ?_))))))
     obtain⟨M,a2,H⟩:=bnd H
     refine bu (r:=(bV M)) (wn O) O Tryz.call19 (aj O (aj O (aj O aG))) (fun W hW=>mf b.Layer 0 (bJ ((p0.Coppers.length:Int)-1)) M a2 (HF.start _)) (aH iQ O (ax O ?_))
     obtain⟨Q,D,H⟩:=bnd H
     refine bP 5 [(1,pV q),(3,iv (u:Int)),(4,pV B),(10,sL c p0.Lands f),(11,iv (p0.Lands.length:Int)),(12,iv (u:Int)),(42,bV Q)] [(1,bx q #[sL g p0.Coppers i,sL j p0.Outline l,sL o p0.Bores p,sL c p0.Lands f] 31),(3,bx B #[sv b.Part,sv b.Pin,iv b.Layer,iv b.At.X,iv b.At.Y] 155)] ?_ ?_
     ·cases v:(!M)
      ·rw[v] at D
       rw[if_neg (by decide)] at D
       have H:=D
       refine bH (ag Cy) O (Tr.x (fun _ _ a d=>aM (cs:=[iv b.At.X,iv b.At.Y]) tO pQ (a.ev O) (aF.take (bR d (vs:=[sv b.Part,sv b.Pin,iv b.Layer,iv b.At.X,iv b.At.Y]) (k:=3) O 3) 2) O) ?_)
       obtain⟨S,a3,H⟩:=bnd H
       refine bu (r:=(bV S)) (wg O O O) O Tryz.call78 (aj O aG) (fun W hW=>tY b.At S a3 (HF.start _)) (bH iQ O (ay aZ O O ?_))
       obtain rfl:=oI H
       exact ae (aS (.r O) (.r O))
      ·rw[v] at D
       rw[if_pos O] at D
       have H:=D
       obtain rfl:=oI H
       exact Tr.ps O (Tr.ps O (Tr.ps O (Tr.ps O (ay aW O O (ae (aS (.r O) (.r O)))))))
     ·show Tr _ _ (LF [(1,pV q),(3,iv (u:Int)),(4,pV B),(10,sL c p0.Lands f),(11,iv (p0.Lands.length:Int)),(12,iv (u:Int)),(42,bV Q)]) (LE [(1,bx q #[sL g p0.Coppers i,sL j p0.Outline l,sL o p0.Bores p,sL c p0.Lands f] 31),(3,bx B #[sv b.Part,sv b.Pin,iv b.Layer,iv b.At.X,iv b.At.Y] 155)]) _
      refine Tr.k O (ae (aa (aT O H (fun H=>?_) (fun H=>?_))))
      ·refine ai (Tr.k O (ae (aa (aO (bq (bq (aD (aD (bq (aD ?_))))))))))
       obtain rfl:=oI H
       exact cB leB
      ·refine av (ji (by kernel_rfl) (by kernel_rfl) (eY O (iU iG O O (eY O ?_))))
       obtain⟨a8,E,H⟩:=bnd H
       refine qx 12 [(1,pV q),(10,sL c p0.Lands f),(11,iv (p0.Lands.length:Int)),(12,iv (u:Int)),(58,bV a8)] ?_ ?_
       ·cases v:(decide (0<(u:Int)))
        ·rw[v] at E
         rw[if_neg (by decide)] at E
         have H:=E
         obtain rfl:=oI H
         exact Tq.ps O (Tq.ps O (Tq.ps O (Tq.ps O (Tq.ps O (Tq.ps O (Tq.ps O (Tq.ps O (Tq.ps O (Tq.ps O (Tq.ps O (iU aZ O O (bW (.r O)))))))))))))
        ·rw[v] at E
         rw[if_pos O] at E
         have H:=E
         refine Tq.x (fun _ _ a d=>aM (cs:=[sv b.Part,sv b.Pin,iv b.Layer,iv b.At.X,iv b.At.Y]) Az wZ (a.ev O) (aF.take (bR d (vs:=[sv b.Part,sv b.Pin,iv b.Layer,iv b.At.X,iv b.At.Y]) (k:=3) O 0) 5) O) ?_
         obtain⟨G,a4,H⟩:=bnd H
         refine jB (r:=(.agg #[sv G.Part,sv G.Pin])) (wg O O O) O Tryz.call80 (aj O aG) (fun W hW=>qU b G a4 (HF.start _)) (jA (ag BF) O (Tq.x (fun _ _ a d=>ah Jv (a.ev O) (bR d (vs:=[sL g p0.Coppers i,sL j p0.Outline l,sL o p0.Bores p,sL c p0.Lands f]) (k:=1) O 3) O) (jA run_move O (Tq.e2 iP O O ?_))))
         obtain⟨F,a5,H⟩:=bnd H
         obtain⟨T,U,V⟩:=bi a5
         refine Tq.x (fun _ _ a d=>ak Mr (a.ev O) y.form (a.ev O) T U) (Tq.x (fun _ _ a d=>aM (cs:=[sv F.Part,sv F.Pin,iv F.Layer,iv F.At.X,iv F.At.Y]) Az wZ (a.ev O) (aF.take (rP zM y V d) 5) O) ?_)
         obtain⟨I,a6,H⟩:=bnd H
         refine jB (r:=(.agg #[sv I.Part,sv I.Pin])) (wg O O O) O Tryz.call80 (aj O aG) (fun W hW=>qU F I a6 (HF.start _)) ?_
         obtain⟨Z,a7,H⟩:=bnd H
         refine jB (r:=(iv Z)) (wg O O O) O Tryz.call79 (aj O (aj O aG)) (fun W hW=>uJ (wK.mk G.Part G.Pin) (wK.mk I.Part I.Pin) Z a7 (HF.start _)) (Tq.e2 jY O O (iU aW O O ?_))
         obtain rfl:=oI H
         exact bW (.r O)
       ·refine nD O O (jD (aa (aT O H (fun H=>?_) (fun H=>?_))))
        ·refine ai (Tr.k O (ae (aa (aO (bq (bq (aD (aD (bq (aD ?_))))))))))
         obtain rfl:=oI H
         exact cB leB
        ·exact aJ (aK (aK (aa (Tr.region (ay bB O O (ax O (ae (aI J (t,(u+1)) ⟨O,bT A,aX A,H⟩ (.cons O (.cons O (.cons O (.cons (congrArg (fun z=>some (Value.int .i64 z)) (bS A y.form)) .nil)))) (.r O)))))))))

theorem tV{w:Bs}(p0:Int)(p1:Int)(p2:Int)(p3:Int)(r:Int)(H:mF p0 p1 p2 p3=some r)(hE:HF w w.W E0):Calls Tryz.prog 81 [iv p0,iv p1,iv p2,iv p3].toArray w.W fun e W'=>e= .returned (iv r)∧HF w W' E0:=by
 unfold mF at H
 have leB:=Bs.Le.refl w
 refine aV (n:=18) Tryz.func81 O O O hE (ai (Tr.k O (ae (aa (ai (ax O (ax O (ay iP O O (ay bB O O (ax O (ax O (ay iP O O (ay bB O O (aC O (fun _ _ a d=>Lc (a.ev O) (a.ev O) (a.ev O) _) (Tr.k O (ae (aa (aO ?_))))))))))))))))))
 obtain rfl:=oI H
 exact cB leB

theorem qO{w:Bs}(p0:au)(p1:au)(r:Int)(H:lN p0 p1=some r)(hE:HF w w.W E0):Calls Tryz.prog 41 [.agg #[iv p0.X0,iv p0.Y0,iv p0.X1,iv p0.Y1],.agg #[iv p1.X0,iv p1.Y0,iv p1.X1,iv p1.Y1]].toArray w.W fun e W'=>e= .returned (iv r)∧HF w W' E0:=by
 unfold lN at H
 have leB:=Bs.Le.refl w
 refine aV (n:=24) Tryz.func41 O O O hE (ai (fw 1 (cs:=[iv p0.X0,iv p0.Y0,iv p0.X1,iv p0.Y1]) (wn O) O O O fun h=>(fw 2 (cs:=[iv p1.X0,iv p1.Y0,iv p1.X1,iv p1.Y1]) (wn O) O O O fun i=>(Tr.k O (ae (aa (av (ji (by kernel_rfl) (by kernel_rfl) (dA (ag jd) O (bv O (fun _ _ a d=>ah bG (a.ev O) (bR d (vs:=[iv p0.X0,iv p0.Y0,iv p0.X1,iv p0.Y1]) (k:=1) O 0) O) (dA (ag jZ) O (bv O (fun _ _ a d=>ah bG (a.ev O) (bR d (vs:=[iv p0.X0,iv p0.Y0,iv p0.X1,iv p0.Y1]) (k:=1) O 2) O) (dA (ag jd) O (bv O (fun _ _ a d=>ah bG (a.ev O) (bR d (vs:=[iv p1.X0,iv p1.Y0,iv p1.X1,iv p1.Y1]) (k:=2) O 0) O) ?_))))))))))))))
 refine dA (ag jZ) O (bv O (fun _ _ a d=>ah bG (a.ev O) (bR d (vs:=[iv p1.X0,iv p1.Y0,iv p1.X1,iv p1.Y1]) (k:=2) O 2) O) ?_)
 obtain⟨b,f,H⟩:=bnd H
 refine jB (r:=(iv b)) (wn O) O Tryz.call81 (aj O (aj O (aj O (aj O aG)))) (fun W hW=>tV p0.X0 p0.X1 p1.X0 p1.X1 b f (HF.start _)) (dA (ag jK) O (bv O (fun _ _ a d=>ah bG (a.ev O) (bR d (vs:=[iv p0.X0,iv p0.Y0,iv p0.X1,iv p0.Y1]) (k:=1) O 1) O) (dA (ag nA) O (bv O (fun _ _ a d=>ah bG (a.ev O) (bR d (vs:=[iv p0.X0,iv p0.Y0,iv p0.X1,iv p0.Y1]) (k:=1) O 3) O) (dA (ag jK) O (bv O (fun _ _ a d=>ah bG (a.ev O) (bR d (vs:=[iv p1.X0,iv p1.Y0,iv p1.X1,iv p1.Y1]) (k:=2) O 1) O) (dA (ag nA) O (bv O (fun _ _ a d=>ah bG (a.ev O) (bR d (vs:=[iv p1.X0,iv p1.Y0,iv p1.X1,iv p1.Y1]) (k:=2) O 3) O) ?_))))))))
 obtain⟨c,g,H⟩:=bnd H
 refine jB (r:=(iv c)) (wn O) O Tryz.call81 (aj O (aj O (aj O (aj O aG)))) (fun W hW=>tV p0.Y0 p0.Y1 p1.Y0 p1.Y1 c g (HF.start _)) (bv O (fun _ _ a d=>rA (a.ev O) (a.ev O) _) (nD O O (jD (aa (aO ?_)))))
 obtain rfl:=oI H
 exact cB leB

theorem nz{w:Bs}(p0:gP)(p1:Int)(r:Bool)(H:jS p0 p1=some r)(hE:HF w w.W E0):Calls Tryz.prog 82 [.agg #[iv p0.At.X,iv p0.At.Y,iv p0.Size,iv p0.From,iv p0.To,bV p0.Plated],iv p1].toArray w.W fun e W'=>e= .returned (bV r)∧HF w W' E0:=by
 unfold jS at H
 have leB:=Bs.Le.refl w
 refine aV (n:=15) Tryz.func82 O O O hE (ai (fw 1 (cs:=[iv p0.At.X,iv p0.At.Y,iv p0.Size,iv p0.From,iv p0.To,bV p0.Plated]) (wn O) O O O fun b=>(Tr.k O (ae (aa (ai (aH (ag xk) O (aC O (fun _ _ a d=>ah bG (a.ev O) (bR d (vs:=[iv p0.At.X,iv p0.At.Y,iv p0.Size,iv p0.From,iv p0.To,bV p0.Plated]) (k:=1) O 3) O) (ax O (ay jY O O (ax O (bP 5 [(14,bV ((decide (p0.From≤p1))&&(decide (p1≤p0.To))))] [(1,bx b #[iv p0.At.X,iv p0.At.Y,iv p0.Size,iv p0.From,iv p0.To,bV p0.Plated] 119)] ?_ ?_))))))))))))
 ·cases c:(decide (p0.From≤p1))
  ·exact Tr.ps O (Tr.ps O (Tr.ps O (Tr.ps O (ay aZ O O (ae (aS (.r O) (.r O)))))))
  ·exact bH run_move O (bH (ag zJ) O (Tr.x (fun _ _ a d=>ah bG (a.ev O) (bR d (vs:=[iv p0.At.X,iv p0.At.Y,iv p0.Size,iv p0.From,iv p0.To,bV p0.Plated]) (k:=1) O 4) O) (Tr.e2 jY O O (ay aW O O (ae (aS (.r O) (.r O)))))))
 ·show Tr _ _ (LF [(14,bV ((decide (p0.From≤p1))&&(decide (p1≤p0.To))))]) (LE [(1,bx b #[iv p0.At.X,iv p0.At.Y,iv p0.Size,iv p0.From,iv p0.To,bV p0.Plated] 119)]) _
  refine Tr.k O (ae (aa (aO ?_)))
  obtain rfl:=oI H
  exact cB leB

theorem tX{w:Bs}(p0:(List aQ))(f:Option Addr)(p:Nat)(b:Sl w.O w.W aY f p p0)(p1:Int)(p2:Int)(r:((List Int)×Int))(H:mG p0 p1 p2=some r)(hE:HF w w.W (iZ [])):Calls Tryz.prog 105 [sL f p0 p,iv p1,iv p2].toArray w.W fun e W'=>∃(w':Bs) (u:(Option Addr×Nat)),w.Le w'∧e= .returned (.tuple #[sL u.1 r.1 u.2,iv r.2])∧(Sl w'.O w'.W az u.1 u.2 r.1)∧HF w' W' (iZ []):=by
 unfold mG at H
 have leB:=Bs.Le.refl w
 refine aV (n:=36) Tryz.func105 O O O hE (ai (Tr.k O (bC 1 3 az ?_)))
 show Tr _ _ (uf _ 6 (sL none (([]:List Int)) 0)) _ _
 refine Tr.k O (ae (aa (av (Tr.block (ai (ax O (aH (bf rM) O (ay iA O O (Tr.k O (ae (aa (aT O H (fun H=>?_) (fun H=>?_)))))))))))))
 ·refine ai (ax O (Tr.k O (bC 2 3 az ?_)))
  show Tr _ _ (uf _ 6 (sL none (([]:List Int)) 0)) _ _
  refine Tr.k O (ae (aa (aO (bq (aD ?_)))))
  obtain rfl:=oI H
  refine Tr.freeze 2 O fun w S T=>?_
  replace leB:=leB.trans S
  exact bL (m:=[sL none (([]:List Int)) 0,iv p2]) [] (aU O (aU O bD)) (fun W hW=>⟨w,(none,0),leB,O,T,hW.pick (ks:=[]) (by decide) bg⟩)
 ·refine ai (ax O (ax O ?_))
  obtain⟨b5,U,H⟩:=bnd H
  obtain⟨y,z,A⟩:=bi U
  obtain⟨a3,i,q,B⟩:=(b).el A
  obtain⟨a9,b0⟩:=a3
  have a0:=q
  replace i:w.R (mY f):=Or.inl i
  refine aC O (fun _ _ a d=>ak nL (a.ev O) b.form (a.ev O) y z) (aH (ag pX) O (aC O (fun _ _ a d=>ah bG (a.ev O) (aF.drop (qY i B d) 0) O) (ay aR O O (Tr.k O (ae (aa (aT O H (fun H=>?_) (fun H=>?_))))))))
  ·refine av (ji (by kernel_rfl) (by kernel_rfl) (eY O (eY O ?_)))
   obtain⟨a4,V,H⟩:=bnd H
   obtain⟨C,D,E⟩:=bi V
   obtain⟨a5,j,s,F⟩:=(b).el E
   obtain⟨b1,b2⟩:=a5
   have a1:=s
   replace j:w.R (mY f):=Or.inl j
   refine bv O (fun _ _ a d=>ak nL (a.ev O) b.form (a.ev O) C D) (dA (ag pX) O (bv O (fun _ _ a d=>ah bG (a.ev O) (aF.drop (qY j F d) 0) O) (bv O (fun _ _ a d=>vH (a.ev O) (a.ev O) _) (nD O O (nD O O (jD (aa (aO (bq (aD ?_))))))))))
   obtain rfl:=oI H
   exact bL (m:=[.slice none 0 0,iv (min p2 a4.Y0)]) [] (aU O (aU O bD)) (fun W hW=>⟨w,(none,0),leB,O,(Sl.nil _ _ _),hW.pick (ks:=[]) (by decide) bg⟩)
  ·refine aJ (aK (aa (av (ji (by kernel_rfl) (by kernel_rfl) (eY O ?_)))))
   obtain⟨G,X,H⟩:=bnd H
   obtain⟨I,J,K⟩:=bi X
   obtain⟨a6,l,t,L⟩:=(b).el K
   obtain⟨g,h⟩:=a6
   have c:=t
   replace c:Sl w.O w.W az g h G.Xs:=c
   replace l:w.R (mY f):=Or.inl l
   refine bv O (fun _ _ a d=>ak nL (a.ev O) b.form (a.ev O) I J) (dA (ag lU) O (bv O (fun _ _ a d=>ah gU (a.ev O) (aF.drop (qY l L d) 2) O) (eY O (eY O ?_))))
   obtain⟨a7,Z,H⟩:=bnd H
   obtain⟨M,N,P⟩:=bi Z
   obtain⟨a8,o,v,Q⟩:=(b).el P
   obtain⟨b3,b4⟩:=a8
   have a2:=v
   replace o:w.R (mY f):=Or.inl o
   refine bv O (fun _ _ a d=>ak nL (a.ev O) b.form (a.ev O) M N) (dA (ag nT) O (bv O (fun _ _ a d=>ah bG (a.ev O) (aF.drop (qY o Q d) 1) O) (bv O (fun _ _ a d=>vH (a.ev O) (a.ev O) _) (nD O O (nD O O (jD (aa (aO ?_))))))))
   obtain rfl:=oI H
   exact bL (m:=[sL g G.Xs h,iv (min p2 a7.Y1)]) [] (aU O (aU O bD)) (fun W hW=>⟨w,(g,h),leB,O,c,hW.pick (ks:=[]) (by decide) bg⟩)

theorem Br(N:Nat){w:Bs}(p0:(List Int))(a4:Option Addr)(a5:Nat)(e3:Sl w.R w.W az a4 a5 p0)(p1:(List Int))(a6:Option Addr)(a7:Nat)(e4:Sl w.R w.W az a6 a7 p1)(p2:Bool→Bool→Option Bool)(fid2:Nat)(A:List Value)(hg2:∀args W,(callFunc fid2 args).run Tryz.prog W= .ok (.enter fid2 args) W)(hf2:∀(w':Bs),w.Ext w'→∀(z0:Bool) (z1:Bool),∀y,p2 z0 z1=some y→Calls Tryz.prog fid2 (([bV z0,bV z1]:List Value)++A).toArray w'.W fun e W''=>e= .returned (bV y)∧HF w' W'' E0)(r:(List Int))(H:qN N p0 p1 p2=some r)(hE:HF w w.W (iZ [emp])):Calls Tryz.prog 106 [sL a4 p0 a5,sL a6 p1 a7,.func (.func fid2) #[] A.toArray].toArray w.W fun e W'=>∃u:(Option Addr×Nat),e= .returned (sL u.1 r u.2)∧(cO u.1 r.length u.2)∧HF w W' (iZ [ow u.1 u.2 3 az r]):=by
 unfold qN at H
 have leB:=Bs.Le.refl w
 refine aV (n:=85) Tryz.func106 O O O hE (ai (Tr.k O (bC 1 3 az ?_)))
 show Tr _ _ (uf _ 6 (sL none (([]:List Int)) 0)) _ _
 refine ae (aa (ai (Tr.k O (bC 2 3 az ?_))))
 show Tr _ _ (uf _ 7 (sL none (([]:List Int)) 0)) _ _
 refine ae (aa (ai (Tr.k O (Tr.k O (Tr.k O (ae (aa (av (Tr.block (bO (σ:=(List Int)×(List Int)×(List Int)×Bool×Bool×Bool×(Option Addr)×Nat×(Option Addr)×Nat×(Option Addr)×Nat) (fun m w s=>dM p2 m s.1 s.2.1 s.2.2.1 s.2.2.2.1 s.2.2.2.2.1 s.2.2.2.2.2.1=some r∧Sl w.R w.W az s.2.2.2.2.2.2.1 s.2.2.2.2.2.2.2.1 s.1∧Sl w.R w.W az s.2.2.2.2.2.2.2.2.1 s.2.2.2.2.2.2.2.2.2.1 s.2.1∧cO s.2.2.2.2.2.2.2.2.2.2.1 s.2.2.1.length s.2.2.2.2.2.2.2.2.2.2.2) (fun s=>[(0,sL s.2.2.2.2.2.2.1 s.1 s.2.2.2.2.2.2.2.1),(1,sL s.2.2.2.2.2.2.2.2.1 s.2.1 s.2.2.2.2.2.2.2.2.2.1),(2,.func (.func fid2) #[] A.toArray),(7,sL s.2.2.2.2.2.2.2.2.2.2.1 s.2.2.1 s.2.2.2.2.2.2.2.2.2.2.2),(8,bV s.2.2.2.1),(9,bV s.2.2.2.2.1),(10,bV s.2.2.2.2.2.1)]) (fun s=>[(2,ow s.2.2.2.2.2.2.2.2.2.2.1 s.2.2.2.2.2.2.2.2.2.2.2 3 az s.2.2.1)]) N (p0,p1,([]:List Int),false,false,false,a4,a5,a6,a7,none,0) ⟨H,e3,e4,gZ⟩ (.r O) (.r O) (fun _ _ h=>mW (h.1)) ?_))))))))))
 intro w K Z s hs
 obtain⟨q,g,f,E,p,i,D,B,o,j,b,c⟩:=s
 obtain⟨H,C,v,T⟩:=hs
 replace H:dM p2 (Z+1) q g f E p i=some r:=H
 replace hf2:=fun w' he=>hf2 w' (K.ext.trans he)
 replace leB:=leB.trans K
 replace C:Sl w.R w.W az D B q:=C
 replace v:Sl w.R w.W az o j g:=v
 replace T:cO b f.length c:=T
 rw[dM.eq_2] at H
 dsimp only
 refine av (ai (ax O (aH (bf jN) O (ay iG O O (ax O (bP 4 [(0,sL D q B),(1,sL o g j),(2,.func (.func fid2) #[] A.toArray),(7,sL b f c),(8,bV E),(9,bV p),(10,bV i),(20,bV ((decide (0<(q.length:Int)))||(decide (0<(g.length:Int)))))] [(2,ow b c 3 az f)] ?_ ?_))))))
 ·cases a8:(decide (0<(q.length:Int)))
  ·exact bH run_move O (bH (bf jN) O (Tr.e2 iG O O (ay aZ O O (ae (aS (.r O) (.r O))))))
  ·exact Tr.ps O (Tr.ps O (Tr.ps O (ay aW O O (ae (aS (.r O) (.r O))))))
 ·show Tr _ _ (LF [(0,sL D q B),(1,sL o g j),(2,.func (.func fid2) #[] A.toArray),(7,sL b f c),(8,bV E),(9,bV p),(10,bV i),(20,bV ((decide (0<(q.length:Int)))||(decide (0<(g.length:Int)))))]) (LE [(2,ow b c 3 az f)]) _
  refine ae (aa (aT O H (fun H=>?_) (fun H=>?_)))
  ·refine aJ (aa (Tr.block (ai (Tr.k O (ae (aa ?_))))))
   have a9:=Bs.Le.refl w
   refine sM (σ:=Int) (fun w s=>jl p2 q g f E p i (dM p2 Z) s=some r) (fun s=>[(0,sL D q B),(1,sL o g j),(2,.func (.func fid2) #[] A.toArray),(7,sL b f c),(8,bV E),(9,bV p),(10,bV i),(11,iv s)]) (fun s=>[(2,ow b c 3 az f)]) ?_ ?_
   ·refine av (ji (by kernel_rfl) (by kernel_rfl) (eY O (dA (bf jN) O (iU iA O O (eY O ?_)))))
    obtain⟨f6,L,H⟩:=bnd H
    refine qx 13 [(0,sL D q B),(1,sL o g j),(2,.func (.func fid2) #[] A.toArray),(7,sL b f c),(8,bV E),(9,bV p),(10,bV i),(37,bV f6)] ?_ ?_
    ·cases a8:((g.length:Int)==0)
     ·rw[a8] at L
      rw[if_neg (by decide)] at L
      have H:=L
      refine jA run_move O (jA (bf jN) O (Tq.e2 iG O O (jA run_move O ?_)))
      obtain⟨f7,M,H⟩:=bnd H
      refine qx 8 [(0,sL D q B),(1,sL o g j),(2,.func (.func fid2) #[] A.toArray),(7,sL b f c),(8,bV E),(9,bV p),(10,bV i),(24,bV false),(36,bV f7)] ?_ ?_
      ·cases b2:(decide (0<(q.length:Int)))
       ·rw[b2] at M
        rw[if_neg (by decide)] at M
        have H:=M
        obtain rfl:=oI H
        exact Tq.ps O (Tq.ps O (Tq.ps O (Tq.ps O (Tq.ps O (Tq.ps O (Tq.ps O (Tq.e2 aZ O O (bW (.r O)))))))))
       ·rw[b2] at M
        rw[if_pos O] at M
        have H:=M
        refine jA run_move O ?_
        obtain⟨g3,e5,H⟩:=bnd H
        obtain⟨b7,b8,b9⟩:=bi e5
        refine Tq.x (fun _ _ a d=>ak iX (a.ev O) C.form (a.ev O) b7 b8) (Tq.x (fun _ _ a d=>ah bG (a.ev O) (rP iH C b9 d) O) (jA run_move O ?_))
        obtain⟨g4,e6,H⟩:=bnd H
        obtain⟨c0,c3,c4⟩:=bi e6
        refine Tq.x (fun _ _ a d=>ak iX (a.ev O) v.form (a.ev O) c0 c3) (Tq.x (fun _ _ a d=>ah bG (a.ev O) (rP iH v c4 d) O) (Tq.e2 jY O O (Tq.e2 aW O O ?_)))
        obtain rfl:=oI H
        exact bW (.r O)
      ·refine iU aZ O O ?_
       obtain rfl:=oI H
       exact bW (.r O)
     ·rw[a8] at L
      rw[if_pos O] at L
      have H:=L
      obtain rfl:=oI H
      exact Tq.ps O (Tq.ps O (Tq.ps O (Tq.ps O (Df O (Df O (Df O (Df O (Df O (Df O (Df O (Tq.ps O (iU aW O O (bW (.r O))))))))))))))
    ·refine jD (aa (aT O H (fun H=>?_) (fun H=>?_)))
     ·refine Tr.region (ax O ?_)
      obtain⟨f8,e7,H⟩:=bnd H
      obtain⟨c5,c6,c7⟩:=bi e7
      exact aC O (fun _ _ a d=>ak iX (a.ev O) C.form (a.ev O) c5 c6) (aC O (fun _ _ a d=>ah bG (a.ev O) (rP iH C c7 d) O) (Tr.k O (ae (aI a9 f8 H (.r O) (.r O)))))
     ·refine Tr.region (ax O ?_)
      obtain⟨f9,e8,H⟩:=bnd H
      obtain⟨c8,c9,d0⟩:=bi e8
      exact aC O (fun _ _ a d=>ak iX (a.ev O) v.form (a.ev O) c8 c9) (aC O (fun _ _ a d=>ah bG (a.ev O) (rP iH v d0 d) O) (Tr.k O (ae (aI a9 f9 H (.r O) (.r O)))))
   ·intro w z S hs
    have H:=hs
    replace H:jl p2 q g f E p i (dM p2 Z) z=some r:=H
    replace C:=C.kL S
    replace v:=v.kL S
    replace hf2:=fun w' he=>hf2 w' (S.ext.trans he)
    replace K:=K.trans S
    unfold jl at H
    show Tr _ _ (LF [(0,sL D q B),(1,sL o g j),(2,.func (.func fid2) #[] A.toArray),(7,sL b f c),(8,bV E),(9,bV p),(10,bV i),(11,iv z)]) (LE [(2,ow b c 3 az f)]) _
    have b0:=Bs.Le.refl w
    refine sM (σ:=(List Int)×Bool×(Option Addr)×Nat) (fun w s=>jM p2 g f p i (dM p2 Z) z s.1 s.2.1=some r∧Sl w.R w.W az s.2.2.1 s.2.2.2 s.1) (fun s=>[(0,sL s.2.2.1 s.1 s.2.2.2),(1,sL o g j),(2,.func (.func fid2) #[] A.toArray),(7,sL b f c),(8,bV s.2.1),(9,bV p),(10,bV i),(11,iv z)]) (fun s=>[(2,ow b c 3 az f)]) ?_ ?_
    ·refine ai (ax O (aH (bf jN) O (ay iG O O (ax O ?_))))
     obtain⟨d1,a',H⟩:=bnd H
     refine bP 6 [(0,sL D q B),(1,sL o g j),(2,.func (.func fid2) #[] A.toArray),(7,sL b f c),(8,bV E),(9,bV p),(10,bV i),(11,iv z),(53,bV d1)] [(2,ow b c 3 az f)] ?_ ?_
     ·cases b3:(decide (0<(q.length:Int)))
      ·rw[b3] at a'
       rw[if_neg (by decide)] at a'
       have H:=a'
       obtain rfl:=oI H
       exact Tr.ps O (Tr.ps O (Tr.ps O (Tr.ps O (Tr.ps O (ay aZ O O (ae (aS (.r O) (.r O))))))))
      ·rw[b3] at a'
       rw[if_pos O] at a'
       have H:=a'
       refine bH run_move O ?_
       obtain⟨g5,e9,H⟩:=bnd H
       obtain⟨d2,d3,d4⟩:=bi e9
       refine Tr.x (fun _ _ a d=>ak iX (a.ev O) C.form (a.ev O) d2 d3) (Tr.x (fun _ _ a d=>ah bG (a.ev O) (rP iH C d4 d) O) (bH run_move O (Tr.e2 iA O O (ay aW O O ?_))))
       obtain rfl:=oI H
       exact ae (aS (.r O) (.r O))
     ·show Tr _ _ (LF [(0,sL D q B),(1,sL o g j),(2,.func (.func fid2) #[] A.toArray),(7,sL b f c),(8,bV E),(9,bV p),(10,bV i),(11,iv z),(53,bV d1)]) (LE [(2,ow b c 3 az f)]) _
      refine ae (aa (aT O H (fun H=>?_) (fun H=>?_)))
      ·refine Tr.region (ax O ?_)
       obtain⟨g0,b4,H⟩:=bnd H
       exact aC O (fun _ _ a d=>xe iX (a.ev O) C.form (a.ev O) b4) (ax O (aH iQ O (Tr.k O (Tr.k O (ae (aI b0 (g0,(!E),(vU D (1:Int).toNat 1 B),(B-(1:Int).toNat)) ⟨H,(Sl.cut C b4)⟩ (.r O) (.r O)))))))
      ·exact aJ (aI b0 (q,E,D,B) ⟨H,C⟩ (.r O) (.r O))
    ·intro w s a0 hs
     obtain⟨F,G,I,J⟩:=s
     obtain⟨H,P⟩:=hs
     replace H:jM p2 g f p i (dM p2 Z) z F G=some r:=H
     replace v:=v.kL a0
     replace hf2:=fun w' he=>hf2 w' (a0.ext.trans he)
     replace K:=K.trans a0
     replace P:Sl w.R w.W az I J F:=P
     unfold jM at H
     dsimp only
     have b1:=Bs.Le.refl w
     refine sM (σ:=(List Int)×Bool×(Option Addr)×Nat) (fun w s=>lu p2 f i (dM p2 Z) z F G s.1 s.2.1=some r∧Sl w.R w.W az s.2.2.1 s.2.2.2 s.1) (fun s=>[(0,sL I F J),(1,sL s.2.2.1 s.1 s.2.2.2),(2,.func (.func fid2) #[] A.toArray),(7,sL b f c),(8,bV G),(9,bV s.2.1),(10,bV i),(11,iv z)]) (fun s=>[(2,ow b c 3 az f)]) ?_ ?_
     ·refine ai (ax O (aH (bf jN) O (ay iG O O (ax O ?_))))
      obtain⟨d5,Q,H⟩:=bnd H
      refine bP 6 [(0,sL I F J),(1,sL o g j),(2,.func (.func fid2) #[] A.toArray),(7,sL b f c),(8,bV G),(9,bV p),(10,bV i),(11,iv z),(67,bV d5)] [(2,ow b c 3 az f)] ?_ ?_
      ·cases b5:(decide (0<(g.length:Int)))
       ·rw[b5] at Q
        rw[if_neg (by decide)] at Q
        have H:=Q
        obtain rfl:=oI H
        exact Tr.ps O (Tr.ps O (Tr.ps O (Tr.ps O (Tr.ps O (ay aZ O O (ae (aS (.r O) (.r O))))))))
       ·rw[b5] at Q
        rw[if_pos O] at Q
        have H:=Q
        refine bH run_move O ?_
        obtain⟨g6,f1,H⟩:=bnd H
        obtain⟨d6,d7,d8⟩:=bi f1
        refine Tr.x (fun _ _ a d=>ak iX (a.ev O) v.form (a.ev O) d6 d7) (Tr.x (fun _ _ a d=>ah bG (a.ev O) (rP iH v d8 d) O) (bH run_move O (Tr.e2 iA O O (ay aW O O ?_))))
        obtain rfl:=oI H
        exact ae (aS (.r O) (.r O))
      ·show Tr _ _ (LF [(0,sL I F J),(1,sL o g j),(2,.func (.func fid2) #[] A.toArray),(7,sL b f c),(8,bV G),(9,bV p),(10,bV i),(11,iv z),(67,bV d5)]) (LE [(2,ow b c 3 az f)]) _
       refine ae (aa (aT O H (fun H=>?_) (fun H=>?_)))
       ·refine Tr.region (ax O ?_)
        obtain⟨g1,b6,H⟩:=bnd H
        exact aC O (fun _ _ a d=>xe iX (a.ev O) v.form (a.ev O) b6) (ax O (aH iQ O (Tr.k O (Tr.k O (ae (aI b1 (g1,(!p),(vU o (1:Int).toNat 1 j),(j-(1:Int).toNat)) ⟨H,(Sl.cut v b6)⟩ (.r O) (.r O)))))))
       ·exact aJ (aI b1 (g,p,o,j) ⟨H,v⟩ (.r O) (.r O))
     ·intro w s a1 hs
      obtain⟨a2,a3,U,V⟩:=s
      obtain⟨H,X⟩:=hs
      replace H:lu p2 f i (dM p2 Z) z F G a2 a3=some r:=H
      replace P:=P.kL a1
      replace hf2:=fun w' he=>hf2 w' (a1.ext.trans he)
      replace K:=K.trans a1
      replace X:Sl w.R w.W az U V a2:=X
      unfold lu at H
      dsimp only
      refine ai (ax O (ax O (ax O ?_)))
      obtain⟨d9,f2,H⟩:=bnd H
      refine xA (r:=(bV d9)) (wn O) O O hg2 (aj O (aj O aG)) (fun W hW=>hf2 hW.all hW.bU G a3 _ f2) (Tr.k O (ae (aa (ai (ax O (ax O (ay (Lb Sc) O O (ae (aa (aT O H (fun H=>?_) (fun H=>?_)))))))))))
      ·refine Tr.region (ax O (ax O (eD 5 (e:=3) (vs:=[(0,iv z)]) (cs:=[iv z]) (wn O) O (bz O dE) (by kernel_rfl) fun g7=>?_)))
       obtain⟨g2,f3,H⟩:=bnd H
       exact Tr.append 2 (t:=az) (l:=f) (l2:=[z]) (wn O) O O O O (fun W hW=>⟨[[iv z]],(.cons ⟨(),trivial,O⟩ .nil),bR hW (vs:=[iv z]) (k:=5) O 0⟩) jN pI Dl (by decide) xx O f3 fun f4 f5 e0=>(ax O (Tr.k O (Tr.k O (ae (aK (aI K (F,a2,g2,G,a3,d9,I,J,U,V,f4,f5) ⟨H,P,X,e0⟩ (.r O) (.r O)))))))
      ·exact aJ (aK (aI K (F,a2,f,G,a3,i,I,J,U,V,b,c) ⟨H,P,X,T⟩ (.r O) (.r O)))
  ·refine bK (aA (aA (aP (aa (ai (ax O (Tr.k O (ae (aa (aO ?_))))))))))
   obtain rfl:=oI H
   exact bL (m:=[sL b f c]) [] (aU O bD) (fun W hW=>⟨(b,c),O,T,HF.ry leB (hW.pick (ks:=[2]) (by decide) (aN O bg)) ⟨kM _ _ _ _ ql,trivial⟩⟩)

theorem vw(N:Nat){w:Bs}(p0:(List aQ))(v:Option Addr)(z:Nat)(c6:Sl w.O w.W aY v z p0)(p1:(List aQ))(A:Option Addr)(B:Nat)(c7:Sl w.O w.W aY A B p1)(p2:Bool→Bool→Option Bool)(fid2:Nat)(o:List Value)(hg2:∀args W,(callFunc fid2 args).run Tryz.prog W= .ok (.enter fid2 args) W)(hf2:∀(w':Bs),w.Ext w'→∀(z0:Bool) (z1:Bool),∀y,p2 z0 z1=some y→Calls Tryz.prog fid2 (([bV z0,bV z1]:List Value)++o).toArray w'.W fun e W''=>e= .returned (bV y)∧HF w' W'' E0)(r:(List aQ))(H:mZ N p0 p1 p2=some r)(hE:HF w w.W (iZ [emp])):Calls Tryz.prog 54 [sL v p0 z,sL A p1 B,.func (.func fid2) #[] o.toArray].toArray w.W fun e W'=>∃(w':Bs) (u:(Option Addr×Nat)),w.Le w'∧e= .returned (sL u.1 r u.2)∧(cO u.1 r.length u.2)∧HF w' W' (iZ [ow u.1 u.2 123 aY r]):=by
 unfold mZ at H
 have leB:=Bs.Le.refl w
 refine aV (n:=126) Tryz.func54 O O O hE (ai (Tr.k O (bC 1 123 aY ?_)))
 show Tr _ _ (uf _ 6 (sL none (([]:List aQ)) 0)) _ _
 refine ae (aa (ai (Tr.k O (bC 2 123 aY ?_))))
 show Tr _ _ (uf _ 7 (sL none (([]:List aQ)) 0)) _ _
 refine ae (aa (av (ai (ax O (aH (bf rM) O (ax O (aH (bf rM) O (ay bB O O (ay iA O O (ae (aa (aT O H (fun H=>?_) (fun H=>?_)))))))))))))
 ·refine ai (Tr.k O (bC 3 123 aY ?_))
  show Tr _ _ (uf _ 6 (sL none (([]:List aQ)) 0)) _ _
  refine ae (aa (aO (aD ?_)))
  obtain rfl:=oI H
  exact bL (m:=[sL none (([]:List aQ)) 0]) [] (aU O bD) (fun W hW=>⟨w,(none,0),leB,O,gZ,hW.pick (ks:=[3]) (by decide) (aN O bg)⟩)
 ·refine aJ (aa (ai (Tr.k O (Tr.k O (ae (aa (av (ai (ax O (ax O (eD 4 (e:=74) (vs:=[(0,sL v p0 z),(1,sL A p1 B)]) (cs:=[sL v p0 z,sL A p1 B]) (wn O) O (bz O (bz O dE)) (by kernel_rfl) fun g5=>(aH (bf IA) O (ax O (ae (aa (Tr.block (Tr.own 4 bM [p0,p1] (css:=[[sL v p0 z],[sL A p1 B]]) O (.cons ⟨(v,z),c6,O⟩ (.cons ⟨(A,B),c7,O⟩ .nil)) O (by decide) (xU O) (Da 4 9 O O O (bO (σ:=Int×Int×(List (List aQ))×Int×(Option Addr)×Nat) (fun m w s=>dH N p0 p1 p2 m s.1 s.2.1 s.2.2.1 s.2.2.2.1=some r∧cO s.2.2.2.2.1 s.2.2.1.length s.2.2.2.2.2) (fun s=>[(0,sL v p0 z),(1,sL A p1 B),(2,.func (.func fid2) #[] o.toArray),(7,sL none (([]:List aQ)) 0),(8,iv s.1),(9,iv s.2.1),(25,sL s.2.2.2.2.1 s.2.2.1 s.2.2.2.2.2),(26,iv 2),(27,iv s.2.2.2.1)]) (fun s=>[(2,ow none 0 123 aY ([]:List aQ)),(9,ow s.2.2.2.2.1 s.2.2.2.2.2 74 bM s.2.2.1)]) N (0,0,[p0,p1],0,(some ⟨g5,0,none⟩),2) ⟨H,(LU g5 O)⟩ (.r O) (.r O) (fun _ _ h=>mW (h.1)) ?_)))))))))))))))))))
  intro w a7 g6 s hs
  obtain⟨b5,g,E,L,C,D⟩:=s
  obtain⟨H,b6⟩:=hs
  replace H:dH N p0 p1 p2 (g6+1) b5 g E L=some r:=H
  replace c6:=c6.le a7
  replace c7:=c7.le a7
  replace hf2:=fun w' he=>hf2 w' (a7.ext.trans he)
  replace leB:=leB.trans a7
  replace b6:cO C E.length D:=b6
  rw[dH.eq_2] at H
  dsimp only
  refine ai (ay aR O O (ae (aa (av (aT O H (fun H=>?_) (fun H=>?_))))))
  ·refine aJ (aa (av (Tr.block (ai (ax O ?_)))))
   obtain⟨X,j6,H⟩:=bnd H
   obtain⟨g7,g8,g9⟩:=bi j6
   refine aC O (fun _ _ a d=>ak O8 (a.ev O) b6 (a.ev O) g7 g8) (Jw (U:=(bM).Ad) (fun u=>(bM).ok w.O w.W u X) (fun u=>(sL u.1 X u.2)) (wn O) O (Sn (κ:=9) (t:=bM) (V:=fun u=>(sL u.1 X u.2)) O g9 (fun _ _ u a hc=>ah MK (a.ev O) hc O)) ?_)
   intro l3 f4
   obtain⟨q,Q⟩:=l3
   have f:=f4
   replace f:Sl w.O w.W aY q Q X:=f
   dsimp only
   refine Tr.k O (Tr.k O (ae (aa (ai (ax O (aH (bf rM) O (ay iG O O (ae (aa (aT O H (fun H=>?_) (fun H=>?_)))))))))))
   ·have e6:=Bs.Le.refl w
    refine sM (σ:=Int×Int) (fun w s=>jP E L (dH N p0 p1 p2 g6) X s.1 s.2=some r) (fun s=>[(0,sL v p0 z),(1,sL A p1 B),(2,.func (.func fid2) #[] o.toArray),(7,sL none (([]:List aQ)) 0),(8,iv s.1),(9,iv s.2),(11,sL q X Q),(25,sL C E D),(26,iv 2),(27,iv L)]) (fun s=>[(2,ow none 0 123 aY ([]:List aQ)),(9,ow C D 74 bM E)]) ?_ ?_
    ·refine ai (ax O (ay iA O O (ax O (bP 4 [(0,sL v p0 z),(1,sL A p1 B),(2,.func (.func fid2) #[] o.toArray),(7,sL none (([]:List aQ)) 0),(8,iv b5),(9,iv g),(11,sL q X Q),(25,sL C E D),(26,iv 2),(27,iv L),(41,bV ((L==0)||((p0.length:Int)==0)))] [(2,ow none 0 123 aY ([]:List aQ)),(9,ow C D 74 bM E)] ?_ ?_))))
     ·cases o2:(L==0)
      ·exact bH run_move O (bH (bf rM) O (Tr.e2 iA O O (ay aZ O O (ae (aS (.r O) (.r O))))))
      ·exact Tr.ps O (Tr.ps O (Tr.ps O (ay aW O O (ae (aS (.r O) (.r O))))))
     ·show Tr _ _ (LF [(0,sL v p0 z),(1,sL A p1 B),(2,.func (.func fid2) #[] o.toArray),(7,sL none (([]:List aQ)) 0),(8,iv b5),(9,iv g),(11,sL q X Q),(25,sL C E D),(26,iv 2),(27,iv L),(41,bV ((L==0)||((p0.length:Int)==0)))]) (LE [(2,ow none 0 123 aY ([]:List aQ)),(9,ow C D 74 bM E)]) _
      refine ae (aa (aT O H (fun H=>?_) (fun H=>?_)))
      ·refine ji (by kernel_rfl) (by kernel_rfl) (eY O ?_)
       obtain⟨l4,j7,H⟩:=bnd H
       obtain⟨h0,h1,h2⟩:=bi j7
       obtain⟨l5,d1,f5,h3⟩:=(f).el h2
       obtain⟨m9,n0⟩:=l5
       have k7:=f5
       replace d1:w.R (mY q):=Or.inl d1
       refine bv O (fun _ _ a d=>ak nL (a.ev O) f.form (a.ev O) h0 h1) (dA (ag pX) O (bv O (fun _ _ a d=>ah bG (a.ev O) (aF.drop (qY d1 h3 d) 0) O) (eY O (eY O (dA (bf rM) O (iU iP O O ?_))))))
       obtain⟨l6,j8,H⟩:=bnd H
       obtain⟨h4,h5,h6⟩:=bi j8
       obtain⟨l7,d2,f6,h7⟩:=(f).el h6
       obtain⟨n1,n2⟩:=l7
       have k8:=f6
       replace d2:w.R (mY q):=Or.inl d2
       exact bv O (fun _ _ a d=>ak nL (a.ev O) f.form (a.ev O) h4 h5) (dA (ag nT) O (bv O (fun _ _ a d=>ah bG (a.ev O) (aF.drop (qY d2 h7 d) 1) O) (nD O O (nD O O (jD (aI e6 (l4.Y0,l6.Y1) H (.r O) (.r O)))))))
      ·exact aJ (aI e6 (b5,g) H (.r O) (.r O))
    ·intro w s d3 hs
     obtain⟨e8,e9⟩:=s
     have H:=hs
     replace H:jP E L (dH N p0 p1 p2 g6) X e8 e9=some r:=H
     replace hf2:=fun w' he=>hf2 w' (d3.ext.trans he)
     replace f:=f.le d3
     replace a7:=a7.trans d3
     unfold jP at H
     dsimp only
     refine ji (by kernel_rfl) (by kernel_rfl) (eY O (eY O ?_))
     obtain⟨l8,j9,H⟩:=bnd H
     obtain⟨h8,h9,i0⟩:=bi j9
     obtain⟨l9,d4,f7,i1⟩:=(f).el i0
     obtain⟨n3,n4⟩:=l9
     have k9:=f7
     replace d4:w.R (mY q):=Or.inl d4
     refine bv O (fun _ _ a d=>ak nL (a.ev O) f.form (a.ev O) h8 h9) (dA (ag pX) O (bv O (fun _ _ a d=>ah bG (a.ev O) (aF.drop (qY d4 i1 d) 0) O) (bv O (fun _ _ a d=>vH (a.ev O) (a.ev O) _) (eY O (eY O (eY O (dA (bf rM) O (iU iP O O ?_))))))))
     obtain⟨m0,k0,H⟩:=bnd H
     obtain⟨i2,i3,i4⟩:=bi k0
     obtain⟨m1,d5,f8,i5⟩:=(f).el i4
     obtain⟨n5,n6⟩:=m1
     have l0:=f8
     replace d5:w.R (mY q):=Or.inl d5
     exact bv O (fun _ _ a d=>ak nL (a.ev O) f.form (a.ev O) i2 i3) (dA (ag nT) O (bv O (fun _ _ a d=>ah bG (a.ev O) (aF.drop (qY d5 i5 d) 1) O) (bv O (fun _ _ a d=>rA (a.ev O) (a.ev O) _) (nD O O (nD O O (jD (aK (aa (Tr.region (ay bB O O (ax O (ae (aI a7 ((min e8 l8.Y0),(max e9 m0.Y1),E,(bJ (L+1)),C,D) ⟨H,b6⟩ (.r O) (.r O))))))))))))))
   ·exact aJ (aK (aa (Tr.region (ay bB O O (ax O (ae (aI a7 (b5,g,E,(bJ (L+1)),C,D) ⟨H,b6⟩ (.r O) (.r O))))))))
  ·refine bK (aA (aA (aP (aa (av (Tr.block (bO (σ:=(List aQ)×(List aQ)×(List aQ)×Int×(Option Addr)×Nat×(Option Addr)×Nat×(Option Addr)×Nat) (fun m w s=>fK N p2 g m s.1 s.2.1 s.2.2.1 s.2.2.2.1=some r∧Sl w.O w.W aY s.2.2.2.2.1 s.2.2.2.2.2.1 s.1∧Sl w.O w.W aY s.2.2.2.2.2.2.1 s.2.2.2.2.2.2.2.1 s.2.1∧cO s.2.2.2.2.2.2.2.2.1 s.2.2.1.length s.2.2.2.2.2.2.2.2.2) (fun s=>[(0,sL s.2.2.2.2.1 s.1 s.2.2.2.2.2.1),(1,sL s.2.2.2.2.2.2.1 s.2.1 s.2.2.2.2.2.2.2.1),(2,.func (.func fid2) #[] o.toArray),(7,sL s.2.2.2.2.2.2.2.2.1 s.2.2.1 s.2.2.2.2.2.2.2.2.2),(8,iv s.2.2.2.1),(9,iv g)]) (fun s=>[(2,ow s.2.2.2.2.2.2.2.2.1 s.2.2.2.2.2.2.2.2.2 123 aY s.2.2.1)]) N (p0,p1,([]:List aQ),b5,v,z,A,B,none,0) ⟨H,c6,c7,gZ⟩ (.r O) (.r O) (fun _ _ h=>mW (h.1)) ?_)))))))
   intro w I e7 s hs
   obtain⟨d8,a2,i,p,d9,e0,a4,a5,b,c⟩:=s
   obtain⟨H,e3,b7,e4⟩:=hs
   replace H:fK N p2 g (e7+1) d8 a2 i p=some r:=H
   replace hf2:=fun w' he=>hf2 w' (I.ext.trans he)
   replace leB:=leB.trans I
   replace e3:Sl w.O w.W aY d9 e0 d8:=e3
   replace b7:Sl w.O w.W aY a4 a5 a2:=b7
   replace e4:cO b i.length c:=e4
   rw[fK.eq_2] at H
   dsimp only
   refine av (ai (ax O (ax O (ay aR O O (ae (aa (aT O H (fun H=>?_) (fun H=>?_))))))))
   ·refine aJ (aa (Tr.block (av (Tr.block (bO (σ:=(List aQ)×(Option Addr)×Nat) (fun m w s=>jF N p2 g a2 i p (fK N p2 g e7) m s.1=some r∧Sl w.O w.W aY s.2.1 s.2.2 s.1) (fun s=>[(0,sL s.2.1 s.1 s.2.2),(1,sL a4 a2 a5),(2,.func (.func fid2) #[] o.toArray),(7,sL b i c),(8,iv p),(9,iv g)]) (fun s=>[(2,ow b c 123 aY i)]) N (d8,d9,e0) ⟨H,e3⟩ (.r O) (.r O) (fun _ _ h=>mW (h.1)) ?_)))))
    intro w c8 m2 s hs
    obtain⟨K,F,G⟩:=s
    obtain⟨H,j⟩:=hs
    replace H:jF N p2 g a2 i p (fK N p2 g e7) (m2+1) K=some r:=H
    replace b7:=b7.le c8
    replace hf2:=fun w' he=>hf2 w' (c8.ext.trans he)
    replace I:=I.trans c8
    replace j:Sl w.O w.W aY F G K:=j
    rw[jF.eq_2] at H
    dsimp only
    refine av (ai (ax O (aH (bf rM) O (ay iG O O (ax O ?_)))))
    obtain⟨i6,b0,H⟩:=bnd H
    refine bP 7 [(0,sL F K G),(1,sL a4 a2 a5),(2,.func (.func fid2) #[] o.toArray),(7,sL b i c),(8,iv p),(9,iv g),(82,bV i6)] [(2,ow b c 123 aY i)] ?_ ?_
    ·cases b8:(decide (0<(K.length:Int)))
     ·rw[b8] at b0
      rw[if_neg (by decide)] at b0
      have H:=b0
      obtain rfl:=oI H
      exact Tr.ps O (Tr.ps O (Tr.ps O (Tr.ps O (Tr.ps O (Tr.ps O (ay aZ O O (ae (aS (.r O) (.r O)))))))))
     ·rw[b8] at b0
      rw[if_pos O] at b0
      have H:=b0
      refine bH run_move O ?_
      obtain⟨o3,k1,H⟩:=bnd H
      obtain⟨i7,i8,i9⟩:=bi k1
      obtain⟨m3,d6,f9,j0⟩:=(j).el i9
      obtain⟨n7,n8⟩:=m3
      have l1:=f9
      replace d6:w.R (mY F):=Or.inl d6
      refine Tr.x (fun _ _ a d=>ak nL (a.ev O) j.form (a.ev O) i7 i8) (bH (ag nT) O (Tr.x (fun _ _ a d=>ah bG (a.ev O) (aF.drop (qY d6 j0 d) 1) O) (bH run_move O (Tr.e2 jY O O (ay aW O O ?_)))))
      obtain rfl:=oI H
      exact ae (aS (.r O) (.r O))
    ·show Tr _ _ (LF [(0,sL F K G),(1,sL a4 a2 a5),(2,.func (.func fid2) #[] o.toArray),(7,sL b i c),(8,iv p),(9,iv g),(82,bV i6)]) (LE [(2,ow b c 123 aY i)]) _
     refine ae (aa (aT O H (fun H=>?_) (fun H=>?_)))
     ·refine aJ (aa (Tr.block (Tr.region (ax O ?_))))
      obtain⟨m4,f2,H⟩:=bnd H
      exact aC O (fun _ _ a d=>xe nL (a.ev O) j.form (a.ev O) f2) (Tr.k O (ae (aK (aI c8 (m4,(vU F (1:Int).toNat 3 G),(G-(1:Int).toNat)) ⟨H,(Sl.cut j f2)⟩ (.r O) (.r O)))))
     ·refine bK (aA (aA (aP (aa (av (Tr.block (bO (σ:=(List aQ)×(Option Addr)×Nat) (fun m w s=>jE N p2 g i p (fK N p2 g e7) K m s.1=some r∧Sl w.O w.W aY s.2.1 s.2.2 s.1) (fun s=>[(0,sL F K G),(1,sL s.2.1 s.1 s.2.2),(2,.func (.func fid2) #[] o.toArray),(7,sL b i c),(8,iv p),(9,iv g)]) (fun s=>[(2,ow b c 123 aY i)]) N (a2,a4,a5) ⟨H,b7⟩ (.r O) (.r O) (fun _ _ h=>mW (h.1)) ?_)))))))
      intro w c9 m5 s hs
      obtain⟨a8,a0,a1⟩:=s
      obtain⟨H,l⟩:=hs
      replace H:jE N p2 g i p (fK N p2 g e7) K (m5+1) a8=some r:=H
      replace j:=j.le c9
      replace hf2:=fun w' he=>hf2 w' (c9.ext.trans he)
      replace I:=I.trans c9
      replace l:Sl w.O w.W aY a0 a1 a8:=l
      rw[jE.eq_2] at H
      dsimp only
      refine av (ai (ax O (aH (bf rM) O (ay iG O O (ax O ?_)))))
      obtain⟨j1,b1,H⟩:=bnd H
      refine bP 7 [(0,sL F K G),(1,sL a0 a8 a1),(2,.func (.func fid2) #[] o.toArray),(7,sL b i c),(8,iv p),(9,iv g),(95,bV j1)] [(2,ow b c 123 aY i)] ?_ ?_
      ·cases b8:(decide (0<(a8.length:Int)))
       ·rw[b8] at b1
        rw[if_neg (by decide)] at b1
        have H:=b1
        obtain rfl:=oI H
        exact Tr.ps O (Tr.ps O (Tr.ps O (Tr.ps O (Tr.ps O (Tr.ps O (ay aZ O O (ae (aS (.r O) (.r O)))))))))
       ·rw[b8] at b1
        rw[if_pos O] at b1
        have H:=b1
        refine bH run_move O ?_
        obtain⟨o4,k2,H⟩:=bnd H
        obtain⟨j2,j3,j4⟩:=bi k2
        obtain⟨m6,d7,g0,j5⟩:=(l).el j4
        obtain⟨n9,o0⟩:=m6
        have l2:=g0
        replace d7:w.R (mY a0):=Or.inl d7
        refine Tr.x (fun _ _ a d=>ak nL (a.ev O) l.form (a.ev O) j2 j3) (bH (ag nT) O (Tr.x (fun _ _ a d=>ah bG (a.ev O) (aF.drop (qY d7 j5 d) 1) O) (bH run_move O (Tr.e2 jY O O (ay aW O O ?_)))))
        obtain rfl:=oI H
        exact ae (aS (.r O) (.r O))
      ·show Tr _ _ (LF [(0,sL F K G),(1,sL a0 a8 a1),(2,.func (.func fid2) #[] o.toArray),(7,sL b i c),(8,iv p),(9,iv g),(95,bV j1)]) (LE [(2,ow b c 123 aY i)]) _
       refine ae (aa (aT O H (fun H=>?_) (fun H=>?_)))
       ·refine aJ (aa (Tr.block (Tr.region (ax O ?_))))
        obtain⟨m7,f3,H⟩:=bnd H
        exact aC O (fun _ _ a d=>xe nL (a.ev O) l.form (a.ev O) f3) (Tr.k O (ae (aK (aI c9 (m7,(vU a0 (1:Int).toNat 3 a1),(a1-(1:Int).toNat)) ⟨H,(Sl.cut l f3)⟩ (.r O) (.r O)))))
       ·refine bK (aA (aA (aP (aa (ai (ax O (ax O (ax O ?_))))))))
        obtain⟨M,k3,H⟩:=bnd H
        refine eZ [] [] (U:=(Option Addr×Nat)) (fun u=>(.tuple #[sL u.1 M.1 u.2,iv M.2])) (fun a' W u=>Sl a' W az u.1 u.2 M.1) (fun u=>[]) O bg (fun _=>O) (wn O) O Tryz.call105 (aj O (aj O (aj O aG))) (fun W hW hp hE=>tX K F G (j.kC (hW.dU hp)) p g M k3 hE) ?_
        intro w u d0 hu
        obtain⟨c0,c3⟩:=u
        have g1:=hu
        replace j:=j.le d0
        replace l:=l.le d0
        replace hf2:=fun w' he=>hf2 w' (d0.ext.trans he)
        replace I:=I.trans d0
        have J:Sl w.O w.W az c0 c3 M.1:=g1 --@phi
        dsimp only
        refine ax O (aC O (fun _ _ a d=>bA (a.ev O) O) (aC O (fun _ _ a d=>bA (a.ev O) O) (Tr.k O (Tr.k O (ae (aa (ai (ax O (ax O (ax O ?_))))))))))
        obtain⟨P,k4,H⟩:=bnd H
        refine eZ [] [] (U:=(Option Addr×Nat)) (fun u=>(.tuple #[sL u.1 P.1 u.2,iv P.2])) (fun a' W u=>Sl a' W az u.1 u.2 P.1) (fun u=>[]) O bg (fun _=>O) (wn O) O Tryz.call105 (aj O (aj O (aj O aG))) (fun W hW hp hE=>tX a8 a0 a1 (l.kC (hW.dU hp)) p g P k4 hE) ?_
        intro w u b9 hu
        obtain⟨c4,c5⟩:=u
        have g2:=hu
        replace j:=j.le b9
        replace l:=l.le b9
        replace hf2:=fun w' he=>hf2 w' (b9.ext.trans he)
        replace J:=J.le b9
        replace I:=I.trans b9
        have Z:Sl w.O w.W az c4 c5 P.1:=g2 --@phi
        dsimp only
        refine ax O (aC O (fun _ _ a d=>bA (a.ev O) O) (aC O (fun _ _ a d=>bA (a.ev O) O) (Tr.k O (Tr.k O (ae (aa (ai (ax O (ax O (aC O (fun _ _ a d=>vH (a.ev O) (a.ev O) _) (Tr.k O (ae (aa (ai (ax O (ax O (ax O (ax O (ax O (ax O ?_))))))))))))))))))))
        obtain⟨a3,k5,H⟩:=bnd H
        refine gG [12] [emp] (U:=(Option Addr×Nat)) (fun u=>(sL u.1 a3 u.2)) (fun u=>cO u.1 a3.length u.2) (fun u=>[ow u.1 u.2 3 az a3]) O (aN O bg) (fun _=>O) (wn O) O Tryz.call106 (aj O (aj O (aj O aG))) (fun W hW hp hE=>Br N M.1 c0 c3 (J.rl.ext (hW.dU hp)) P.1 c4 c5 (Z.rl.ext (hW.dU hp)) p2 fid2 o hg2 (fun w' he=>hf2 w' ((hW.dU hp).trans he)) a3 k5 hE) ?_
        intro u hu
        obtain⟨S,T⟩:=u
        have g3:=hu
        have m8:cO S a3.length T:=g3 --@phi
        dsimp only
        refine ko (vs:=[(0,iv p),(1,iv (min M.2 P.2)),(2,sL S a3 T)]) (cs:=[iv p,iv (min M.2 P.2),sL S a3 T]) (wn O) O (bz O (bz O (bz O dE))) (by kernel_rfl) (Tr.freeze 12 O fun w b2 e5=>?_)
        replace j:=j.le b2
        replace l:=l.le b2
        replace hf2:=fun w' he=>hf2 w' (b2.ext.trans he)
        replace J:=J.le b2
        replace Z:=Z.le b2
        replace I:=I.trans b2
        obtain⟨a9,k6,H⟩:=bnd H
        refine eZ [2] [ow b c 123 aY i] (U:=(Option Addr×Nat)) (fun u=>(sL u.1 a9 u.2)) (fun a' W u=>cO u.1 a9.length u.2) (fun u=>[ow u.1 u.2 123 aY a9]) O (aN O bg) (fun _=>O) (wn O) O Tryz.call100 (aj O (aj O aG)) (fun W hW hp hE=>rV i b c (aQ.mk p (min M.2 P.2) a3) S T (e5.kC (hW.dU hp)) a9 k6 hE) ?_
        intro w u a6 hu
        obtain⟨b3,b4⟩:=u
        have g4:=hu
        replace j:=j.le a6
        replace l:=l.le a6
        replace hf2:=fun w' he=>hf2 w' (a6.ext.trans he)
        replace J:=J.le a6
        replace Z:=Z.le a6
        replace e5:=e5.le a6
        replace I:=I.trans a6
        have f1:cO b3 a9.length b4:=g4 --@phi
        dsimp only
        exact Tr.k O (ae (aa (Tr.region (ax O (Tr.k O (ae (aK (aI I (K,a8,a9,(min M.2 P.2),F,G,a0,a1,b3,b4) ⟨H,j,l,f1⟩ (.r O) (.r O)))))))))
   ·refine bK (aA (aA (aP (aa (ai (ax O (Tr.k O (ae (aa (aO ?_))))))))))
    obtain rfl:=oI H
    exact bL (m:=[sL b i c]) [] (aU O bD) (fun W hW=>⟨w,(b,c),leB,O,e4,hW.pick (ks:=[2]) (by decide) (aN O bg)⟩)

theorem wo{w:Bs}(p0:Bool)(p1:Bool)(r:Bool)(H:lD p0 p1=some r)(hE:HF w w.W E0):Calls Tryz.prog 121 [bV p0,bV p1].toArray w.W fun e W'=>e= .returned (bV r)∧HF w W' E0:=by
 unfold lD at H
 have leB:=Bs.Le.refl w
 refine aV (n:=10) Tryz.func121 O O O hE (ai (Tr.k O (ae (aa (ai (ax O (ax O (bP 3 [(9,bV (p0&&(!p1)))] [] ?_ ?_))))))))
 ·cases a:p0
  ·exact Tr.ps O (Tr.ps O (ay aZ O O (ae (aS (.r O) .nil))))
  ·exact bH run_move O (bH iQ O (ay aW O O (ae (aS (.r O) .nil))))
 ·show Tr _ _ (LF [(9,bV (p0&&(!p1)))]) (LE []) _
  refine Tr.k O (ae (aa (aO ?_)))
  obtain rfl:=oI H
  exact cB leB

theorem xK(N:Nat){w:Bs}(p0:(List aQ))(d:Option Addr)(f:Nat)(l:Sl w.O w.W aY d f p0)(p1:(List aQ))(g:Option Addr)(h:Nat)(o:Sl w.O w.W aY g h p1)(r:(List aQ))(H:oq N p0 p1=some r)(hE:HF w w.W (iZ [emp])):Calls Tryz.prog 83 [sL d p0 f,sL g p1 h].toArray w.W fun e W'=>∃(w':Bs) (u:(Option Addr×Nat)),w.Le w'∧e= .returned (sL u.1 r u.2)∧(cO u.1 r.length u.2)∧HF w' W' (iZ [ow u.1 u.2 123 aY r]):=by
 unfold oq at H
 have leB:=Bs.Le.refl w
 refine aV (n:=8) Tryz.func83 O O O hE (ai (Tr.k O (bC 1 123 aY ?_)))
 show Tr _ _ (uf _ 4 (sL none (([]:List aQ)) 0)) _ _
 refine ae (aa (ai (ax O (ax O ?_))))
 obtain⟨c,p,H⟩:=bnd H
 refine eZ [2] [emp] (U:=(Option Addr×Nat)) (fun u=>(sL u.1 c u.2)) (fun a0 W u=>cO u.1 c.length u.2) (fun u=>[ow u.1 u.2 123 aY c]) O (aN O bg) (fun _=>O) (wn O) O Tryz.call54 (aj O (aj O (aj O aG))) (fun W hW hp hE=>vw N p0 d f (l.kC (hW.dU hp)) p1 g h (o.kC (hW.dU hp)) (fun z0 z1=>lD z0 z1) 121 [] Tryz.call121 (fun w' he z0 z1 y hy=>wo z0 z1 y hy (HF.start _)) c p hE) ?_
 intro w u q hu
 obtain⟨a,b⟩:=u
 have j:=hu
 replace leB:=leB.trans q
 have i:cO a c.length b:=j --@phi
 dsimp only
 refine Tr.k O (ae (aa (aO ?_)))
 obtain rfl:=oI H
 exact bL (m:=[sL a c b]) [] (aU O bD) (fun W hW=>⟨w,(a,b),leB,O,i,hW.pick (ks:=[2]) (by decide) (aN O bg)⟩)

theorem oM{w:Bs}(p0:(List aQ))(l:Option Addr)(o:Nat)(j:Sl w.R w.W aY l o p0)(r:Int)(H:lh p0=some r)(hE:HF w w.W E0):Calls Tryz.prog 51 [sL l p0 o].toArray w.W fun e W'=>e= .returned (iv r)∧HF w W' E0:=by
 unfold lh at H
 have leB:=Bs.Le.refl w
 refine aV (n:=20) Tryz.func51 O O O hE (ai (Tr.k O (ae (aa (ai (Tr.k O (ae (aa (av (ai (ax O (aH (bf rM) O (ax O (ae (aa (Tr.block (bO (σ:=(List aQ)×Nat×Int) (fun m w s=>m=s.1.length+1∧s.1=List.drop s.2.1 p0∧s.2.1≤p0.length∧gI s.1 s.2.1 s.2.2=some r) (fun s=>[(3,iv s.2.2),(6,sL l p0 o),(7,iv (p0.length:Int)),(8,iv (s.2.1:Int))]) (fun s=>[]) (p0.length+1) (p0,0,0) ⟨O,O,Nat.zero_le _,H⟩ (.r O) .nil (fun _ _ h=>absurd h.1 (by simp)) ?_)))))))))))))))))
 intro w p m s hs
 obtain⟨b,u,q⟩:=s
 obtain⟨t,f,D,H⟩:=hs
 replace f:b=List.drop u p0:=f
 replace H:gI b u q=some r:=H
 replace t:m+1=b.length+1:=t
 replace j:=j.kL p
 replace leB:=leB.trans p
 obtain rfl:m=b.length:=by omega
 clear t
 dsimp only
 cases b with
 |nil=>
  rw[gI.eq_1] at H
  refine ai (ay aR O O (ae (aa (av (bX O (bN f) (bK (aA (aA (aP (aa (ai (ax O (Tr.k O (ae (aa (aO ?_))))))))))))))))
  obtain rfl:=oI H
  exact cB leB
 |cons c b=>
  rw[gI.eq_2] at H
  refine ai (ay aR O O (ae (aa (av (bY O (cu f) (aJ (aa (av (Tr.block (ai ?_))))))))))
  obtain⟨C,y,v,A⟩:=(j).el (dI f)
  obtain⟨g,i⟩:=C
  have B:=v
  exact aC O (fun _ _ a d=>ak nL (a.ev O) j.form (a.ev O) (Int.natCast_nonneg _) (aX f)) (aC O (fun _ _ a d=>aM (cs:=[iv c.Y0,iv c.Y1,sL g c.Xs i]) CZ uE (a.ev O) (aF.take (qY y A d) 3) O) (Tr.alloc 3 (wn O) O Eu fun E=>(bF 3 (cs:=[iv c.Y0,iv c.Y1,sL g c.Xs i]) [iv c.Y0,iv c.Y1,sL g c.Xs i] (wn O) O O O O uE O O O (ae (aa (Tr.region (ax O (aH (ag lU) O (aC O (fun _ _ a d=>ah gU (a.ev O) (bR d (vs:=[iv c.Y0,iv c.Y1,sL g c.Xs i]) (k:=3) O 2) O) (aH (bf jN) O (aC O (fun _ _ a d=>BA (a.ev O) (a.ev O) (by decide)) (ay bB O O (Tr.k O (ae (aK (aa (Tr.region (ay bB O O (ax O (ae (aI p (b,(u+1),(bJ (q+(bJ (Int.tdiv (c.Xs.length:Int) 2))))) ⟨O,bT f,aX f,H⟩ (.cons O (.cons O (.cons O (.cons (congrArg (fun z=>some (Value.int .i64 z)) (bS f j.form)) .nil)))) .nil)))))))))))))))))))))

theorem nG(N:Nat){w:Bs}(p0:Int)(q0:(List Int))(Aq0_0:Option Addr)(cq0_0:Nat)(CU:Nat)(r:(Int×(List Int)))(H:iC N p0 q0=some r)(hE:HF w w.W (iZ [bx CU #[sL Aq0_0 q0 cq0_0] 69,ow Aq0_0 cq0_0 3 az q0])):Calls Tryz.prog 122 [iv p0,pV CU].toArray w.W fun e W'=>∃u:(Option Addr×Nat),e= .returned (iv r.1)∧(cO u.1 r.2.length u.2)∧HF w W' (iZ [bx CU #[sL u.1 r.2 u.2] 69,ow u.1 u.2 3 az r.2]):=by
 unfold iC at H
 have NW:=(hE.sl (k:=1) O).form
 have leB:=Bs.Le.refl w
 refine aV (n:=25) Tryz.func122 O O O hE (ai (Tr.k O (ae (aa (av (Tr.block (bO (σ:=(List Int)×Int) (fun m w s=>fe m s.1 s.2=some r∧s.1.length=q0.length) (fun s=>[(0,iv s.2),(1,pV CU)]) (fun s=>[(0,bx CU #[sL Aq0_0 s.1 cq0_0] 69),(1,ow Aq0_0 cq0_0 3 az s.1)]) N (q0,p0) ⟨H,O⟩ (.r O) (.r O) (fun _ _ h=>mW (h.1)) ?_)))))))
 intro w v a2 s hs
 obtain⟨c,f⟩:=s
 obtain⟨H,o⟩:=hs
 replace H:fe (a2+1) c f=some r:=H
 replace leB:=leB.trans v
 replace o:c.length=q0.length:=o
 have g:cO Aq0_0 c.length cq0_0:=(by rw[o];exact NW)
 rw[fe.eq_2] at H
 dsimp only
 refine av (ai (aC O (fun _ _ a d=>ah gU (a.ev O) (bR d (vs:=[sL Aq0_0 c cq0_0]) (k:=0) O 0) O) (ax O ?_)))
 obtain⟨y,T,H⟩:=bnd H
 obtain⟨z,A,B⟩:=bi T
 refine aC O (fun _ _ a d=>ak iX (a.ev O) g (a.ev O) z A) (aC O (fun _ _ a d=>ah bG (a.ev O) (zY iH (k:=1) d O B) O) (ax O (ay fM O O (ae (aa (aT O H (fun H=>?_) (fun H=>?_)))))))
 ·refine aJ (aa (Tr.block (av (qz 9 (by kernel_rfl) (by kernel_rfl) (bv O (fun _ _ a d=>ah gU (a.ev O) (bR d (vs:=[sL Aq0_0 c cq0_0]) (k:=0) O 0) O) (eY O (bv O (fun _ _ a d=>ah gU (a.ev O) (bR d (vs:=[sL Aq0_0 c cq0_0]) (k:=0) O 0) O) (bv O (fun _ _ a d=>ah gU (a.ev O) (bR d (vs:=[sL Aq0_0 c cq0_0]) (k:=0) O 0) O) (eY O ?_)))))))))
  obtain⟨a0,U,H⟩:=bnd H
  obtain⟨C,D,E⟩:=bi U
  refine bv O (fun _ _ a d=>ak iX (a.ev O) g (a.ev O) C D) (bv O (fun _ _ a d=>ah bG (a.ev O) (zY iH (k:=1) d O E) O) ?_)
  obtain⟨p,V,H⟩:=bnd H
  obtain⟨F,G,I⟩:=bi V
  refine bv O (fun _ _ a d=>ak iX (a.ev O) g (a.ev O) F G) (bv O (fun _ _ a d=>ah bG (a.ev O) (zY iH (k:=1) d O I) O) (jD ?_))
  obtain⟨a3,X,H⟩:=bnd H
  obtain⟨J,K,L⟩:=bi X
  refine aC O (fun _ _ a d=>ak iX (a.ev O) g (a.ev O) J K) ?_
  obtain⟨j,q,H⟩:=bnd H
  have b:=lv q
  refine kg 1 (t:=az) (l:=c) (i:=f) (fo:=0) (cs:=[iv p]) p (wn O) O O O O O L pI O (fun u _=>⟨u,trivial,O⟩) O q ?_
  have M:cO Aq0_0 j.length cq0_0:=by rw[b];exact g
  have a4:=b.trans o
  refine Tr.vC (lf:=[(0,iv f),(1,pV CU),(4,sL Aq0_0 j cq0_0),(5,iv f),(7,iv y),(8,iv f),(9,bV (y !=f)),(10,sL Aq0_0 j cq0_0),(11,iv f),(12,sL Aq0_0 j cq0_0),(13,sL Aq0_0 j cq0_0),(14,iv f),(16,iv a0),(18,iv p)]) (le:=[(0,bx CU #[sL Aq0_0 j cq0_0] 69),(1,ow Aq0_0 cq0_0 3 az j)]) (.cons O (.cons O (.cons (jc O (by unfold sL;rw[b])) (.cons O (.cons O (.cons O (.cons O (.cons (jc O (by unfold sL;rw[b])) (.cons O (.cons (jc O (by unfold sL;rw[b])) (.cons (jc O (by unfold sL;rw[b])) (.r O)))))))))))) (.cons (J4 O (by unfold sL;rw[b])) (.r O)) (ae (aa (Tr.region (aC O (fun _ _ a d=>ah gU (a.ev O) (bR d (vs:=[sL Aq0_0 j cq0_0]) (k:=0) O 0) O) (ax O ?_)))))
  obtain⟨a1,Z,H⟩:=bnd H
  obtain⟨P,Q,S⟩:=bi Z
  exact aC O (fun _ _ a d=>ak iX (a.ev O) M (a.ev O) P Q) (aC O (fun _ _ a d=>ah bG (a.ev O) (zY iH (k:=1) d O S) O) (Tr.k O (ae (aK (aI v (j,a1) ⟨H,a4⟩ (.r O) (.r O))))))
 ·refine bK (aA (aA (aP (aa (ai (ax O (Tr.k O (ae (aa (aO ?_))))))))))
  obtain rfl:=oI H
  exact bL (m:=[iv f]) [] (aU O bD) (fun W hW=>⟨(Aq0_0,cq0_0),O,g,HF.ry leB (hW.pick (ks:=[0,1]) (by decide) (aN O (aN O bg))) ⟨EU _ _ _,kM _ _ _ _ ql,trivial⟩⟩)

theorem wO(N:Nat){w:Bs}(p0:(List aQ))(v:Option Addr)(y:Nat)(Z:Sl w.R w.W aY v y p0)(r:(List (List aQ)))(H:kQ N p0=some r)(hE:HF w w.W (iZ [emp])):Calls Tryz.prog 84 [sL v p0 y].toArray w.W fun e W'=>∃(w':Bs) (u:(Option Addr×Nat)),w.Le w'∧e= .returned (sL u.1 r u.2)∧(cO u.1 r.length u.2)∧HF w' W' (iZ [ow u.1 u.2 74 bM r]):=by
 unfold kQ at H
 have leB:=Bs.Le.refl w
 refine aV (n:=187) Tryz.func84 O O O hE (ai (Tr.k O (bC 1 74 bM ?_)))
 show Tr _ _ (uf _ 2 (sL none (([]:List (List aQ))) 0)) _ _
 refine ae (aa (ai (ax O ?_)))
 obtain⟨j,q1,H⟩:=bnd H
 refine gG [2] [emp] (U:=(Option Addr×Nat)) (fun u=>(sL u.1 j u.2)) (fun u=>cO u.1 j.length u.2) (fun u=>[ow u.1 u.2 111 aB j]) O (aN O bg) (fun _=>O) (wn O) O Tryz.call48 (aj O aG) (fun W hW hp hE=>jI N p0 v y (Z.ext (hW.dU hp)) j q1 hE) ?_
 intro u hu
 obtain⟨f,g⟩:=u
 have k5:=hu
 have L:cO f j.length g:=k5 --@phi
 dsimp only
 refine Tr.k O (ae (aa (ai (ax O (aH (bf lS) O ?_)))))
 obtain⟨a4,q2,H⟩:=bnd H
 refine zS 3 az 0 (wn O) O O O jN pI O Et xx O ⟨(),fun _ _=>ql _ _ _ _,O⟩ q2 fun h5 l6=>(Tr.alloc 4 (wn O) O OU fun o=>(bF 4 (cs:=[sL (some ⟨h5,0,none⟩) a4 a4.length]) [sL (some ⟨h5,0,none⟩) a4 a4.length] (wn O) O O O O uN O O O (ae (aa (av (ai (aC O (fun _ _ a d=>ah gU (a.ev O) (bR d (vs:=[sL (some ⟨h5,0,none⟩) a4 a4.length]) (k:=4) O 0) O) (aH (bf jN) O (ax O (ae (aa (Tr.block (bO (σ:=(List Int)×Int×(Option Addr)×Nat) (fun m w s=>gX N p0 j a4 m s.1 s.2.1=some r∧cO s.2.2.1 s.1.length s.2.2.2) (fun s=>[(0,sL v p0 y),(3,sL f j g),(4,pV o),(32,iv (a4.length:Int)),(33,iv s.2.1)]) (fun s=>[(2,ow f g 111 aB j),(3,ow s.2.2.1 s.2.2.2 3 az s.1),(4,bx o #[sL s.2.2.1 s.1 s.2.2.2] 69)]) N (a4,0,(some ⟨h5,0,none⟩),a4.length) ⟨H,l6⟩ (.r O) (.r O) (fun _ _ h=>mW (h.1)) ?_)))))))))))))
 intro w j6 v0 s hs
 obtain⟨d7,a9,a7,a8⟩:=s
 obtain⟨H,e3⟩:=hs
 replace H:gX N p0 j a4 (v0+1) d7 a9=some r:=H
 replace Z:=Z.kL j6
 replace leB:=leB.trans j6
 replace e3:cO a7 d7.length a8:=e3
 rw[gX.eq_2] at H
 dsimp only
 refine ai (ay aR O O (ae (aa (av (aT O H (fun H=>?_) (fun H=>?_))))))
 ·refine aJ (aa (av (Tr.block (ai (ax O (Tr.k O (ae (aa (Tr.region (aC O (fun _ _ a d=>ah gU (a.ev O) (bR d (vs:=[sL a7 d7 a8]) (k:=4) O 0) O) (ax O (ax O ?_))))))))))))
  obtain⟨w5,q3,H⟩:=bnd H
  obtain⟨l7,l8,l9⟩:=bi q3
  refine aC O (fun _ _ a d=>ak iX (a.ev O) e3 (a.ev O) l7 l8) ?_
  obtain⟨g5,k0,H⟩:=bnd H
  have g6:=lv k0
  refine kg 3 (t:=az) (l:=d7) (i:=a9) (fo:=0) (cs:=[iv a9]) a9 (wn O) O O O O O l9 pI O (fun u _=>⟨u,trivial,O⟩) O k0 ?_
  have m0:cO a7 g5.length a8:=by rw[g6];exact e3
  exact Tr.vC (lf:=[(0,sL v p0 y),(3,sL f j g),(4,pV o),(5,iv a9),(32,iv (a4.length:Int)),(33,iv a9),(34,bV (decide (a9<(a4.length:Int)))),(35,iv a9),(36,sL a7 g5 a8),(37,iv a9),(38,iv a9)]) (le:=[(2,ow f g 111 aB j),(3,ow a7 a8 3 az g5),(4,bx o #[sL a7 g5 a8] 69)]) (.cons O (.cons O (.cons O (.cons O (.cons O (.cons O (.cons O (.cons O (.cons (jc O (by unfold sL;rw[g6])) (.r O)))))))))) (.cons O (.cons O (.cons (J4 O (by unfold sL;rw[g6])) .nil))) (ae (aK (aa (Tr.region (ay bB O O (ax O (ae (aI j6 (g5,(bJ (a9+1)),a7,a8) ⟨H,m0⟩ (.r O) (.r O)))))))))
 ·refine bK (aA (aA (aP (aa (ai (yg (vs:=[pV o]) (wn O) O (aj O aG) (Tr.k O (ae (aa (ai (Tr.k O (Tr.k O (ae (aa (av (ai (ax O (aH (bf rM) O (ax O (ae (aa (Tr.block (bO (σ:=(List aQ)×Nat×(List Int)×Int×Int×(Option Addr)×Nat) (fun m w s=>m=s.1.length+1∧s.1=List.drop s.2.1 p0∧s.2.1≤p0.length∧bI N p0 j s.1 s.2.1 s.2.2.1 s.2.2.2.1 s.2.2.2.2.1=some r∧cO s.2.2.2.2.2.1 s.2.2.1.length s.2.2.2.2.2.2) (fun s=>[(0,sL v p0 y),(3,sL f j g),(4,pV o),(6,.func (.func 122) #[] #[pV o]),(7,iv s.2.2.2.1),(8,iv s.2.2.2.2.1),(42,sL v p0 y),(43,iv (p0.length:Int)),(44,iv (s.2.1:Int))]) (fun s=>[(2,ow f g 111 aB j),(3,ow s.2.2.2.2.2.1 s.2.2.2.2.2.2 3 az s.2.2.1),(4,bx o #[sL s.2.2.2.2.2.1 s.2.2.1 s.2.2.2.2.2.2] 69)]) (p0.length+1) (p0,0,d7,0,0,a7,a8) ⟨O,O,Nat.zero_le _,H,e3⟩ (.r O) (.r O) (fun _ _ h=>absurd h.1 (by simp)) ?_)))))))))))))))))))))))
  intro w e4 m s hs
  obtain⟨D,E,d8,C,h6,c9,d0⟩:=s
  obtain⟨h7,b1,v5,H,e5⟩:=hs
  replace b1:D=List.drop E p0:=b1
  replace H:bI N p0 j D E d8 C h6=some r:=H
  replace h7:m+1=D.length+1:=h7
  replace Z:=Z.kL e4
  replace leB:=leB.trans e4
  replace e5:cO c9 d8.length d0:=e5
  obtain rfl:m=D.length:=by omega
  clear h7
  dsimp only
  cases D with
  | nil=>
   rw[bI.eq_1] at H
   refine ai (ay aR O O (ae (aa (av (bX O (bN b1) (bK (aA (aA (aP (aa (ai (Bj 7 (wn O) O fun c0=>(Tr.k O (ae (aa (ai (Tr.k O (Dc 8 27 111 aB ?_))))))))))))))))))
   show Tr _ _ (uf _ 17 (sL none (([]:List (List au))) 0)) (up _ 8 (no none ([]:List (List au)).length 0 27 111 aB [])) _
   refine ae (aa (av (ai (ax O (aH (bf lS) O (ax O (ae (aa (Tr.block (bO (σ:=(List au)×Nat×(List (Int×Int))×(List (List au))×(List Int)×(Option Addr)×Nat×(List (NE au))×(Option Addr)×Nat) (fun m w s=>m=s.1.length+1∧s.1=List.drop s.2.1 j∧s.2.1≤j.length∧bQ N s.1 s.2.1 s.2.2.1 s.2.2.2.1 s.2.2.2.2.1=some r∧(NC s.2.2.2.2.2.2.2.1 s.2.2.2.1∧cO s.2.2.2.2.2.1 s.2.2.2.1.length s.2.2.2.2.2.2.1)∧cO s.2.2.2.2.2.2.2.2.1 s.2.2.2.2.1.length s.2.2.2.2.2.2.2.2.2) (fun s=>[(6,.func (.func 122) #[] #[pV o]),(16,(.map (some c0))),(17,sL s.2.2.2.2.2.1 s.2.2.2.1 s.2.2.2.2.2.2.1),(137,sL f j g),(138,iv (j.length:Int)),(139,iv (s.2.1:Int))]) (fun s=>[(2,ow f g 111 aB j),(3,ow s.2.2.2.2.2.2.2.2.1 s.2.2.2.2.2.2.2.2.2 3 az s.2.2.2.2.1),(4,bx o #[sL s.2.2.2.2.2.2.2.2.1 s.2.2.2.2.1 s.2.2.2.2.2.2.2.2.2] 69),(7,mi c0 s.2.2.1),(8,no s.2.2.2.2.2.1 s.2.2.2.1.length s.2.2.2.2.2.2.1 27 111 aB s.2.2.2.2.2.2.2.1)]) (j.length+1) (j,0,([]:List (Int×Int)),([]:List (List au)),d8,none,0,([]:List (NE au)),c9,d0) ⟨O,O,Nat.zero_le _,H,⟨NC.nil,gZ⟩,e5⟩ (.r O) (.r O) (fun _ _ h=>absurd h.1 (by simp)) ?_))))))))))
   intro w g0 m s hs
   obtain⟨P,c3,j7,V,f6,c6,d1,g7,e6,e7⟩:=s
   obtain⟨h8,b2,v6,H,d2,v7⟩:=hs
   replace b2:P=List.drop c3 j:=b2
   replace H:bQ N P c3 j7 V f6=some r:=H
   replace h8:m+1=P.length+1:=h8
   replace leB:=leB.trans g0
   replace d2:NC g7 V∧cO c6 V.length d1:=d2
   obtain rfl:m=P.length:=by omega
   clear h8
   dsimp only
   cases P with
   | nil=>
    rw[bQ.eq_1] at H
    refine ai (ay aR O O (ae (aa (av (bX O (bN b2) (bK (aA (aA (aP (aa (ai (Tr.k O (bC 25 74 bM ?_)))))))))))))
    show Tr _ _ (uf _ 23 (sL none (([]:List (List aQ))) 0)) _ _
    refine ae (aa (av (av (yH 8 dF O d2.1 O (fun A c l=>⟨(A,c),O,fun _ _ h=>h⟩) fun w q4 b3=>?_))))
    replace leB:=leB.trans q4
    refine Tr.region (ax O (aH (bf zg) O (ax O (ae (aa (Tr.block (bO (σ:=(List (List au))×Nat×(List (List aQ))×(Option Addr)×Nat) (fun m w s=>m=s.1.length+1∧s.1=List.drop s.2.1 V∧s.2.1≤V.length∧dN N s.1 s.2.1 s.2.2.1=some r∧cO s.2.2.2.1 s.2.2.1.length s.2.2.2.2) (fun s=>[(23,sL s.2.2.2.1 s.2.2.1 s.2.2.2.2),(174,sL c6 V d1),(175,iv (V.length:Int)),(176,iv (s.2.1:Int))]) (fun s=>[(25,ow s.2.2.2.1 s.2.2.2.2 74 bM s.2.2.1)]) (V.length+1) (V,0,([]:List (List aQ)),none,0) ⟨O,O,Nat.zero_le _,H,gZ⟩ (.r O) (.r O) (fun _ _ h=>absurd h.1 (by simp)) ?_)))))))
    intro w c7 m s hs
    obtain⟨a5,h9,f7,e8,e9⟩:=s
    obtain⟨i0,b4,v8,H,i1⟩:=hs
    replace b4:a5=List.drop h9 V:=b4
    replace H:dN N a5 h9 f7=some r:=H
    replace i0:m+1=a5.length+1:=i0
    replace b3:=b3.le c7
    replace leB:=leB.trans c7
    replace i1:cO e8 f7.length e9:=i1
    obtain rfl:m=a5.length:=by omega
    clear i0
    dsimp only
    cases a5 with
    |nil=>
     rw[dN.eq_1] at H
     refine ai (ay aR O O (ae (aa (av (bX O (bN b4) (bK (aA (aA (aP (aa (ai (ax O (Tr.k O (ae (aa (aO ?_))))))))))))))))
     obtain rfl:=oI H
     exact bL (m:=[sL e8 f7 e9]) [] (aU O bD) (fun W hW=>⟨w,(e8,e9),leB,O,i1,hW.pick (ks:=[25]) (by decide) (aN O bg)⟩)
    |cons m1 a5=>
     rw[dN.eq_2] at H
     refine ai (ay aR O O (ae (aa (av (bY O (cu b4) (aJ (aa (av (Tr.block (ai ?_))))))))))
     obtain⟨t4,b9,k6,m2⟩:=(b3).el (dI b4)
     obtain⟨h3,h4⟩:=t4
     have c8:=k6
     replace c8:Sl w.O w.W aB h3 h4 m1:=c8
     replace b9:w.R (mY c6):=Or.inl b9
     refine aC O (fun _ _ a d=>ak Gn (a.ev O) b3.form (a.ev O) (Int.natCast_nonneg _) (aX b4)) (aC O (fun _ _ a d=>ah tQ (a.ev O) (qY b9 m2 d) O) (Tr.k O (ae (aa (Tr.region (ax O (ax O ?_)))))))
     obtain⟨b0,q5,H⟩:=bnd H
     refine eZ [30] [emp] (U:=(Option Addr×Nat)) (fun u=>(sL u.1 b0 u.2)) (fun a' W u=>cO u.1 b0.length u.2) (fun u=>[ow u.1 u.2 123 aY b0]) O (aN O bg) (fun _=>O) (wn O) O Tryz.call47 (aj O aG) (fun W hW hp hE=>jm N m1 h3 h4 (c8.rl.ext (hW.dU hp)) b0 q5 hE) ?_
     intro w u i2 hu
     obtain⟨a2,a3⟩:=u
     have k7:=hu
     replace b3:=b3.le i2
     replace b9:=i2.r _ b9
     replace c7:=c7.trans i2
     have t5:cO a2 b0.length a3:=k7 --@phi
     dsimp only
     refine Tr.freeze 30 O fun w i3 q6=>?_
     replace b3:=b3.le i3
     replace b9:=i3.r _ b9
     replace c7:=c7.trans i3
     refine eD 31 (e:=74) (vs:=[(0,sL a2 b0 a3)]) (cs:=[sL a2 b0 a3]) (wn O) O (bz O dE) (by kernel_rfl) fun w6=>?_
     obtain⟨t6,q7,H⟩:=bnd H
     exact Tr.append 25 (t:=bM) (l:=f7) (l2:=[b0]) (wn O) O O O O (fun W hW=>⟨[[sL a2 b0 a3]],(.cons ⟨(a2,a3),q6,O⟩ .nil),bR hW (vs:=[sL a2 b0 a3]) (k:=31) O 0⟩) IA OX OQ (by decide) Pe O q7 fun q8 q9 m3=>(Tr.k O (ae (aK (aa (Tr.region (ay bB O O (ax O (ae (aI c7 (a5,(h9+1),t6,q8,q9) ⟨O,bT b4,aX b4,H,m3⟩ (.cons O (.cons O (.cons O (.cons (congrArg (fun z=>some (Value.int .i64 z)) (bS b4 b3.form)) .nil)))) (.r O))))))))))
   | cons q P=>
    rw[bQ.eq_2] at H
    refine ai (ay aR O O (ae (aa (av (bY O (cu b2) (aJ (aa (av (Tr.block (ai (ax O (aC O (fun _ _ a d=>ak mP (a.ev O) L (a.ev O) (Int.natCast_nonneg _) (aX b2)) (aC O (fun _ _ a d=>aM (cs:=[iv q.X0,iv q.Y0,iv q.X1,iv q.Y1]) gV dh (a.ev O) (aF.take (zY gm (k:=2) d O (dI b2)) 4) O) (Tr.alloc 32 (wn O) O lK fun d9=>(Tr.k O (bF 32 (cs:=[iv q.X0,iv q.Y0,iv q.X1,iv q.Y1]) [iv q.X0,iv q.Y0,iv q.X1,iv q.Y1] (wn O) O O O O dh O O O (ae (aa (ai (ax O (ax O ?_)))))))))))))))))))))
    obtain⟨K,r0,H⟩:=bnd H
    refine AA [4,3] [bx o #[sL e6 f6 e7] 69,ow e6 e7 3 az f6] (U:=(Option Addr×Nat)) (fun u=>(iv K.1)) (fun u=>cO u.1 K.2.length u.2) (fun u=>[bx o #[sL u.1 K.2 u.2] 69,ow u.1 u.2 3 az K.2]) O (aN O (aN O bg)) (fun _=>O) (wn O) O O Tryz.call122 (aj O aG) (fun W hW hp hE=>nG N (c3:Int) f6 e6 e7 o K r0 hE) ?_
    intro u hu
    obtain⟨I,J⟩:=u
    have k8:=hu
    have j8:cO I K.2.length J:=k8 --@phi
    dsimp only
    refine Tr.k O (ae (aa (ai (ax O (ax O ?_)))))
    obtain⟨t7,r1,H⟩:=bnd H
    refine aC O (fun _ _ a d=>FE BM GZ Pz (a.ev O) (a.ev O) d (κ:=7) O r1) (ax O (aC O (fun _ _ a d=>bA (a.ev O) O) (aC O (fun _ _ a d=>bA (a.ev O) O) (Tr.k O (Tr.k O (ae (aa ?_)))))))
    have i9:=Bs.Le.refl w
    refine sM (σ:=(List (Int×Int))×(List (List au))×Int×(Option Addr)×Nat×(List (NE au))) (fun w s=>iJ (bQ N P (c3+1)) q K s.1 s.2.1 s.2.2.1=some r∧(NC s.2.2.2.2.2 s.2.1∧cO s.2.2.2.1 s.2.1.length s.2.2.2.2.1)) (fun s=>[(6,.func (.func 122) #[] #[pV o]),(16,(.map (some c0))),(17,sL s.2.2.2.1 s.2.1 s.2.2.2.2.1),(19,pV d9),(21,iv s.2.2.1),(137,sL f j g),(138,iv (j.length:Int)),(139,iv (c3:Int))]) (fun s=>[(2,ow f g 111 aB j),(3,ow I J 3 az K.2),(4,bx o #[sL I K.2 J] 69),(7,mi c0 s.1),(8,no s.2.2.2.1 s.2.1.length s.2.2.2.2.1 27 111 aB s.2.2.2.2.2),(32,bx d9 #[iv q.X0,iv q.Y0,iv q.X1,iv q.Y1] 111)]) ?_ ?_
    ·refine ai (ax O (aH iQ O (ae (aa (aT O H (fun H=>?_) (fun H=>?_))))))
     ·refine ai (ax O (aH (bf zg) O (Tr.k O (ae (aa (ai (ax O (ax O (ax O ?_)))))))))
      obtain⟨t8,r3,H⟩:=bnd H
      refine De 7 (wn O) BM GZ O O O O r3 (ae (aa (Tr.region (ax O (eD 38 (e:=27) (vs:=[(0,.slice none 0 0)]) (cs:=[.slice none 0 0]) (wn O) O (bz O dE) (by kernel_rfl) fun w7=>?_)))))
      obtain⟨t9,r4,H⟩:=bnd H
      exact Bi 8 39 38 O O O O (wn O) O O O d2.1 O O zg OZ Qz Rl O r4 fun r5 r6 r7 k9 m4=>(Tr.k O (ae (aI i9 (t8,t9,(V.length:Int),r5,r6,r7) ⟨H,⟨k9,m4⟩⟩ (.r O) (.r O))))
     ·exact aJ (aI i9 (j7,V,t7.1,c6,d1,g7) ⟨H,⟨d2.1,d2.2⟩⟩ (.r O) (.r O))
    ·intro w s m5 hs
     obtain⟨i4,g8,e0,b5,b6,j0⟩:=s
     obtain⟨H,d3⟩:=hs
     replace H:iJ (bQ N P (c3+1)) q K i4 g8 e0=some r:=H
     replace g0:=g0.trans m5
     replace d3:NC j0 g8∧cO b5 g8.length b6:=d3
     unfold iJ at H
     dsimp only
     obtain⟨i5,k1,H⟩:=bnd H
     obtain⟨j1,j2,v3⟩:=bi k1
     refine Bh 8 35 (i:=e0) O O d3.1 k1 fun v9 i6 i7 j3 v4=>(qa 9 [(8,(ow i6 i7 111 aB i5).S)] [] (by kernel_rfl) (by kernel_rfl) fun r8 u0 u7=>(bE 0 (by kernel_rfl) O (wn O) O (by kernel_rfl) (fun _ _ a=>run_move (a.ev O)) O (bE 1 (by kernel_rfl) O (wn O) O (by kernel_rfl) (fun _ _ a=>run_move (a.ev O)) O (bE 2 (by kernel_rfl) O (wn O) O (by kernel_rfl) (fun _ _ a=>run_move (a.ev O)) O (bE 3 (by kernel_rfl) O (wn O) O (by kernel_rfl) (fun _ _ a=>run_move (a.ev O)) O (bE 4 (by kernel_rfl) O (wn O) O (by kernel_rfl) (fun _ _ a=>ak Gn (a.ev O) d3.2 (a.ev O) j1 j2) O ?_))))))
     refine gM 5 [(168,sL i6 i5 i7)] (by kernel_rfl) O O (by kernel_rfl) ?_ O O ?_
     ·exact bv O (fun _ _ a d=>zn tQ (a.ev O) O d (κ:=8) O j3) (bW (.r O))
     refine iF 6 [(169,.agg #[iv q.X0,iv q.Y0,iv q.X1,iv q.Y1])] [8] false (by kernel_rfl) O O (by kernel_rfl) (fun W W' d hsW hk=>HF.pW (le:=[(32,bx d9 #[iv q.X0,iv q.Y0,iv q.X1,iv q.Y1] 111)]) (ks:=[(35,(ow i6 i7 111 aB i5).S)]) (s0:=r8) false d hk (fun h=>absurd h (by decide)) (.r O) (fun b hb=>hb.elim (fun⟨p,hp,hf,hb⟩=>by simp only[List.mem_cons,List.not_mem_nil,or_false] at hp;rcases hp with rfl;exact .inl ⟨_,List.mem_cons_self,hb⟩) (fun hb=>absurd hb.1 (by decide))) (List.forall_mem_cons.2 ⟨fun b hb=>hb,(fun _ h=>nomatch h)⟩) rfl) ?_ rfl rfl ?_
     ·exact bv O (fun _ _ a d=>aM (cs:=[iv q.X0,iv q.Y0,iv q.X1,iv q.Y1]) gV dh (a.ev O) (aF.take (bR d (vs:=[iv q.X0,iv q.Y0,iv q.X1,iv q.Y1]) (k:=32) O 0) 4) O) (bW (.r O))
     refine Dr.one 7 (by kernel_rfl) (jX 7 36 (e:=111) (vs:=[(0,.agg #[iv q.X0,iv q.Y0,iv q.X1,iv q.Y1])]) (cs:=[iv q.X0,iv q.Y0,iv q.X1,iv q.Y1]) O (wn O) O (bz O dE) (by kernel_rfl) fun w8 w0=>?_)
     obtain⟨w9,s1,H⟩:=bnd H
     refine Dr.one 8 (by kernel_rfl) (St.append 8 35 (t':=aB) (ll:=i5) (l2:=[q]) (fun b hb=>.inl ⟨_,List.mem_cons_self,O,hb⟩) O (wn O) O O O O (fun W hW=>⟨[[iv q.X0,iv q.Y0,iv q.X1,iv q.Y1]],(.cons ⟨(),trivial,O⟩ .nil),bR hW (vs:=[iv q.X0,iv q.Y0,iv q.X1,iv q.Y1]) (k:=36) O 0⟩) lS dh BJ (by decide) CS O s1 fun w3 w4 m6=>(rH (by kernel_rfl) (aC O (fun _ _ a d=>ak Gn (a.ev O) d3.2 (a.ev O) j1 j2) ?_)))
     obtain⟨f8,k2,H⟩:=bnd H
     have f1:=lv k2
     refine Db 8 35 37 (i:=e0) O O O O (wn O) O O O O O j3 m6 OZ k2 fun k3 l0=>?_
     have m7:cO b5 f8.length b6:=by rw[f1];exact d3.2
     exact Tr.vC (lf:=[(6,.func (.func 122) #[] #[pV o]),(16,(.map (some c0))),(17,sL b5 f8 b6),(19,pV d9),(21,iv e0),(137,sL f j g),(138,iv (j.length:Int)),(139,iv (c3:Int)),(163,sL b5 f8 b6),(164,iv e0),(165,sL b5 f8 b6),(166,iv e0),(169,.agg #[iv q.X0,iv q.Y0,iv q.X1,iv q.Y1])]) (le:=[(2,ow f g 111 aB j),(3,ow I J 3 az K.2),(4,bx o #[sL I K.2 J] 69),(7,mi c0 i4),(8,no b5 f8.length b6 27 111 aB k3),(32,bx d9 #[iv q.X0,iv q.Y0,iv q.X1,iv q.Y1] 111)]) (.cons O (.cons O (.cons (jc O (by unfold sL;rw[f1])) (.cons O (.cons O (.cons O (.cons O (.cons O (.cons (jc O (by unfold sL;rw[f1])) (.cons O (.cons (jc O (by unfold sL;rw[f1])) (.r O)))))))))))) (.r O) (ae (aK (aa (Tr.region (ay bB O O (ax O (ae (aI g0 (P,(c3+1),i4,f8,K.2,b5,b6,k3,I,J) ⟨O,bT b2,aX b2,H,⟨l0,m7⟩,j8⟩ (.cons O (.cons O (.cons O (.cons O (.cons O (.cons (congrArg (fun z=>some (Value.int .i64 z)) (bS b2 L)) .nil)))))) (.r O)))))))))
  | cons B D=>
   rw[bI.eq_2] at H
   refine ai (ay aR O O (ae (aa (av (bY O (cu b1) (aJ (aa (av (Tr.block (ai (ax O ?_)))))))))))
   obtain⟨u1,m8,l1,m9⟩:=(Z).el (dI b1)
   obtain⟨c4,c5⟩:=u1
   have t2:=l1
   refine aC O (fun _ _ a d=>ak nL (a.ev O) Z.form (a.ev O) (Int.natCast_nonneg _) (aX b1)) (aC O (fun _ _ a d=>aM (cs:=[iv B.Y0,iv B.Y1,sL c4 B.Xs c5]) CZ uE (a.ev O) (aF.take (qY m8 m9 d) 3) O) (Tr.alloc 40 (wn O) O Eu fun x0=>(Tr.k O (bF 40 (cs:=[iv B.Y0,iv B.Y1,sL c4 B.Xs c5]) [iv B.Y0,iv B.Y1,sL c4 B.Xs c5] (wn O) O O O O uE O O O (ae (aa (ai (aH (ag lU) O (aC O (fun _ _ a d=>ah gU (a.ev O) (bR d (vs:=[iv B.Y0,iv B.Y1,sL c4 B.Xs c5]) (k:=40) O 2) O) (aH (bf jN) O (aC O (fun _ _ a d=>BA (a.ev O) (a.ev O) (by decide)) (Tr.k O (ae (aa ?_))))))))))))))
   have f2:=Bs.Le.refl w
   refine sM (σ:=(List Int)×(Option Addr)×Nat) (fun w s=>fG C (bI N p0 j D (E+1)) B s.1=some r∧cO s.2.1 s.1.length s.2.2) (fun s=>[(0,sL v p0 y),(3,sL f j g),(4,pV o),(6,.func (.func 122) #[] #[pV o]),(7,iv C),(11,iv (bJ (Int.tdiv (B.Xs.length:Int) 2))),(42,sL v p0 y),(43,iv (p0.length:Int)),(44,iv (E:Int))]) (fun s=>[(2,ow f g 111 aB j),(3,ow s.2.1 s.2.2 3 az s.1),(4,bx o #[sL s.2.1 s.1 s.2.2] 69)]) ?_ ?_
   ·refine av (ji (by kernel_rfl) (by kernel_rfl) (eY O (iU iG O O (eY O ?_))))
    obtain⟨u2,d4,H⟩:=bnd H
    refine qx 10 [(0,sL v p0 y),(3,sL f j g),(4,pV o),(6,.func (.func 122) #[] #[pV o]),(7,iv C),(8,iv h6),(11,iv (bJ (Int.tdiv (B.Xs.length:Int) 2))),(42,sL v p0 y),(43,iv (p0.length:Int)),(44,iv (E:Int)),(65,bV u2)] ?_ ?_
    ·cases d5:(decide (0<(E:Int)))
     ·rw[d5] at d4
      rw[if_neg (by decide)] at d4
      have H:=d4
      obtain rfl:=oI H
      exact Tq.ps O (Tq.ps O (Tq.ps O (Tq.ps O (Tq.ps O (Tq.ps O (Tq.ps O (Tq.ps O (Tq.ps O (iU aZ O O (bW (.r O)))))))))))
     ·rw[d5] at d4
      rw[if_pos O] at d4
      have H:=d4
      refine jA run_move O (jA run_move O (Tq.e2 iP O O ?_))
      obtain⟨x1,s2,H⟩:=bnd H
      obtain⟨n0,n1,n2⟩:=bi s2
      obtain⟨u3,n3,l3,n4⟩:=(Z).el n2
      obtain⟨u8,u9⟩:=u3
      have t3:=l3
      refine Tq.x (fun _ _ a d=>ak nL (a.ev O) Z.form (a.ev O) n0 n1) (jA (ag nT) O (Tq.x (fun _ _ a d=>ah bG (a.ev O) (aF.drop (qY n3 n4 d) 1) O) (jA (ag pX) O (Tq.x (fun _ _ a d=>ah bG (a.ev O) (bR d (vs:=[iv B.Y0,iv B.Y1,sL c4 B.Xs c5]) (k:=40) O 0) O) (Tq.e2 iA O O (iU aW O O ?_))))))
      obtain rfl:=oI H
      exact bW (.r O)
    ·refine jD (aa (aT O H (fun H=>?_) (fun H=>?_)))
     ·refine ai (ax O (ax O (Tr.k O (Tr.k O (ae (aa (Tr.block (bO (σ:=(List Int)×Int×Int×(Option Addr)×Nat) (fun m w s=>dZ N j C (bI N p0 j D (E+1)) B m s.1 s.2.1 s.2.2.1=some r∧cO s.2.2.2.1 s.1.length s.2.2.2.2) (fun s=>[(0,sL v p0 y),(3,sL f j g),(4,pV o),(6,.func (.func 122) #[] #[pV o]),(7,iv C),(11,iv (bJ (Int.tdiv (B.Xs.length:Int) 2))),(12,iv s.2.1),(13,iv s.2.2.1),(42,sL v p0 y),(43,iv (p0.length:Int)),(44,iv (E:Int))]) (fun s=>[(2,ow f g 111 aB j),(3,ow s.2.2.2.1 s.2.2.2.2 3 az s.1),(4,bx o #[sL s.2.2.2.1 s.1 s.2.2.2.2] 69)]) N (d8,h6,C,c9,d0) ⟨H,e5⟩ (.r O) (.r O) (fun _ _ h=>mW (h.1)) ?_))))))))
      intro w f3 j9 s hs
      obtain⟨a6,M,X,a0,a1⟩:=s
      obtain⟨H,g1⟩:=hs
      replace H:dZ N j C (bI N p0 j D (E+1)) B (j9+1) a6 M X=some r:=H
      replace f2:=f2.trans f3
      replace g1:cO a0 a6.length a1:=g1
      rw[dZ.eq_2] at H
      dsimp only
      refine av (ai (ax O (ax O (ay aR O O (ax O (bP 6 [(0,sL v p0 y),(3,sL f j g),(4,pV o),(6,.func (.func 122) #[] #[pV o]),(7,iv C),(11,iv (bJ (Int.tdiv (B.Xs.length:Int) 2))),(12,iv M),(13,iv X),(42,sL v p0 y),(43,iv (p0.length:Int)),(44,iv (E:Int)),(77,bV ((decide (M<C))&&(decide (X<(bJ (C+(bJ (Int.tdiv (B.Xs.length:Int) 2))))))))] [(2,ow f g 111 aB j),(3,ow a0 a1 3 az a6),(4,bx o #[sL a0 a6 a1] 69)] ?_ ?_))))))
      ·cases d5:(decide (M<C))
       ·exact Tr.ps O (Tr.ps O (Tr.ps O (Tr.ps O (Tr.ps O (ay aZ O O (ae (aS (.r O) (.r O))))))))
       ·exact bH run_move O (bH run_move O (bH run_move O (Tr.e2 bB O O (Tr.e2 aR O O (ay aW O O (ae (aS (.r O) (.r O))))))))
      ·show Tr _ _ (LF [(0,sL v p0 y),(3,sL f j g),(4,pV o),(6,.func (.func 122) #[] #[pV o]),(7,iv C),(11,iv (bJ (Int.tdiv (B.Xs.length:Int) 2))),(12,iv M),(13,iv X),(42,sL v p0 y),(43,iv (p0.length:Int)),(44,iv (E:Int)),(77,bV ((decide (M<C))&&(decide (X<(bJ (C+(bJ (Int.tdiv (B.Xs.length:Int) 2))))))))]) (LE [(2,ow f g 111 aB j),(3,ow a0 a1 3 az a6),(4,bx o #[sL a0 a6 a1] 69)]) _
       refine ae (aa (aT O H (fun H=>?_) (fun H=>?_)))
       ·refine aJ (aa (Tr.block ?_))
        have j4:=Bs.Le.refl w
        refine sM (σ:=(List Int)×(Option Addr)×Nat) (fun w s=>iI j M X (dZ N j C (bI N p0 j D (E+1)) B j9) s.1=some r∧cO s.2.1 s.1.length s.2.2) (fun s=>[(0,sL v p0 y),(3,sL f j g),(4,pV o),(6,.func (.func 122) #[] #[pV o]),(7,iv C),(11,iv (bJ (Int.tdiv (B.Xs.length:Int) 2))),(12,iv M),(13,iv X),(42,sL v p0 y),(43,iv (p0.length:Int)),(44,iv (E:Int))]) (fun s=>[(2,ow f g 111 aB j),(3,ow s.2.1 s.2.2 3 az s.1),(4,bx o #[sL s.2.1 s.1 s.2.2] 69)]) ?_ ?_
        ·refine av (ji (by kernel_rfl) (by kernel_rfl) (eY O (eY O ?_)))
         obtain⟨u4,s3,H⟩:=bnd H
         obtain⟨n5,n6,n7⟩:=bi s3
         refine bv O (fun _ _ a d=>ak mP (a.ev O) L (a.ev O) n5 n6) (dA (ag jd) O (bv O (fun _ _ a d=>ah bG (a.ev O) (aF.drop (zY gm (k:=2) d O n7) 0) O) (eY O (eY O ?_))))
         obtain⟨u5,s4,H⟩:=bnd H
         obtain⟨n8,n9,o0⟩:=bi s4
         refine bv O (fun _ _ a d=>ak mP (a.ev O) L (a.ev O) n8 n9) (dA (ag jZ) O (bv O (fun _ _ a d=>ah bG (a.ev O) (aF.drop (zY gm (k:=2) d O o0) 2) O) (iU aR O O (eY O ?_))))
         obtain⟨o2,d6,H⟩:=bnd H
         refine qx 12 [(0,sL v p0 y),(3,sL f j g),(4,pV o),(6,.func (.func 122) #[] #[pV o]),(7,iv C),(11,iv (bJ (Int.tdiv (B.Xs.length:Int) 2))),(12,iv M),(13,iv X),(42,sL v p0 y),(43,iv (p0.length:Int)),(44,iv (E:Int)),(101,bV o2)] ?_ ?_
         ·cases d5:(decide (u4.X0<u5.X1))
          ·rw[d5] at d6
           rw[if_neg (by decide)] at d6
           have H:=d6
           obtain rfl:=oI H
           exact Tq.ps O (Tq.ps O (Tq.ps O (Tq.ps O (Tq.ps O (Tq.ps O (Tq.ps O (Tq.ps O (Tq.ps O (Tq.ps O (Tq.ps O (iU aZ O O (bW (.r O)))))))))))))
          ·rw[d5] at d6
           rw[if_pos O] at d6
           have H:=d6
           refine jA run_move O (jA run_move O ?_)
           obtain⟨x2,s5,H⟩:=bnd H
           obtain⟨o3,o4,o5⟩:=bi s5
           refine Tq.x (fun _ _ a d=>ak mP (a.ev O) L (a.ev O) o3 o4) (jA (ag jd) O (Tq.x (fun _ _ a d=>ah bG (a.ev O) (aF.drop (zY gm (k:=2) d O o5) 0) O) (jA run_move O (jA run_move O ?_))))
           obtain⟨x3,s6,H⟩:=bnd H
           obtain⟨o6,o7,o8⟩:=bi s6
           refine Tq.x (fun _ _ a d=>ak mP (a.ev O) L (a.ev O) o6 o7) (jA (ag jZ) O (Tq.x (fun _ _ a d=>ah bG (a.ev O) (aF.drop (zY gm (k:=2) d O o8) 2) O) (Tq.e2 aR O O (iU aW O O ?_))))
           obtain rfl:=oI H
           exact bW (.r O)
         ·refine jD (aa (aT O H (fun H=>?_) (fun H=>?_)))
          ·refine ai (ax O (ax O ?_))
           obtain⟨F,s7,H⟩:=bnd H
           refine AA [4,3] [bx o #[sL a0 a6 a1] 69,ow a0 a1 3 az a6] (U:=(Option Addr×Nat)) (fun u=>(iv F.1)) (fun u=>cO u.1 F.2.length u.2) (fun u=>[bx o #[sL u.1 F.2 u.2] 69,ow u.1 u.2 3 az F.2]) O (aN O (aN O bg)) (fun _=>O) (wn O) O O Tryz.call122 (aj O aG) (fun W hW hp hE=>nG N M a6 a0 a1 o F s7 hE) ?_
           intro u hu
           obtain⟨b7,b8⟩:=u
           have l4:=hu
           have u6:cO b7 F.2.length b8:=l4 --@phi
           dsimp only
           refine ax O (ax O ?_)
           obtain⟨G,s8,H⟩:=bnd H
           refine AA [4,3] [bx o #[sL b7 F.2 b8] 69,ow b7 b8 3 az F.2] (U:=(Option Addr×Nat)) (fun u=>(iv G.1)) (fun u=>cO u.1 G.2.length u.2) (fun u=>[bx o #[sL u.1 G.2 u.2] 69,ow u.1 u.2 3 az G.2]) O (aN O (aN O bg)) (fun _=>O) (wn O) O O Tryz.call122 (aj O aG) (fun W hW hp hE=>nG N X F.2 b7 b8 o G s8 hE) ?_
           intro u hu
           obtain⟨Q,T⟩:=u
           have l5:=hu
           have g9:cO Q G.2.length T:=l5 --@phi
           dsimp only
           refine Tr.k O (Tr.k O (ae (aa (Tr.region (aC O (fun _ _ a d=>ah gU (a.ev O) (bR d (vs:=[sL Q G.2 T]) (k:=4) O 0) O) (ax O (ax O (aC O (fun _ _ a d=>rA (a.ev O) (a.ev O) _) (ax O (ax O (aC O (fun _ _ a d=>vH (a.ev O) (a.ev O) _) ?_)))))))))))
           obtain⟨x4,s9,H⟩:=bnd H
           obtain⟨o9,p1,p2⟩:=bi s9
           refine aC O (fun _ _ a d=>ak iX (a.ev O) g9 (a.ev O) o9 p1) ?_
           obtain⟨h0,k4,H⟩:=bnd H
           have h1:=lv k4
           refine kg 3 (t:=az) (l:=G.2) (i:=(max F.1 G.1)) (fo:=0) (cs:=[iv (min F.1 G.1)]) (min F.1 G.1) (wn O) O O O O O p2 pI O (fun u _=>⟨u,trivial,O⟩) O k4 ?_
           have p3:cO Q h0.length T:=by rw[h1];exact g9
           exact Tr.vC (lf:=[(0,sL v p0 y),(3,sL f j g),(4,pV o),(6,.func (.func 122) #[] #[pV o]),(7,iv C),(11,iv (bJ (Int.tdiv (B.Xs.length:Int) 2))),(12,iv M),(13,iv X),(14,iv F.1),(15,iv G.1),(42,sL v p0 y),(43,iv (p0.length:Int)),(44,iv (E:Int)),(101,bV o2),(102,.func (.func 122) #[] #[pV o]),(103,iv M),(104,iv F.1),(105,.func (.func 122) #[] #[pV o]),(106,iv X),(107,iv G.1),(108,sL Q h0 T),(109,iv F.1),(110,iv G.1),(111,iv (max F.1 G.1)),(112,iv F.1),(113,iv G.1),(114,iv (min F.1 G.1))]) (le:=[(2,ow f g 111 aB j),(3,ow Q T 3 az h0),(4,bx o #[sL Q h0 T] 69)]) (.cons O (.cons O (.cons O (.cons O (.cons O (.cons O (.cons O (.cons O (.cons O (.cons O (.cons O (.cons O (.cons O (.cons O (.cons O (.cons O (.cons O (.cons O (.cons O (.cons O (.cons (jc O (by unfold sL;rw[h1])) (.r O)))))))))))))))))))))) (.cons O (.cons O (.cons (J4 O (by unfold sL;rw[h1])) .nil))) (ae (aI j4 (h0,Q,T) ⟨H,p3⟩ (.r O) (.r O)))
          ·exact aJ (aI j4 (a6,a0,a1) ⟨H,g1⟩ (.r O) (.r O))
        ·intro w s p4 hs
         obtain⟨f9,f4,f5⟩:=s
         obtain⟨H,g2⟩:=hs
         replace H:iI j M X (dZ N j C (bI N p0 j D (E+1)) B j9) f9=some r:=H
         replace f3:=f3.trans p4
         replace g2:cO f4 f9.length f5:=g2
         unfold iI at H
         dsimp only
         refine av (ji (by kernel_rfl) (by kernel_rfl) (eY O (eY O ?_)))
         obtain⟨x5,t0,H⟩:=bnd H
         obtain⟨p5,p6,p7⟩:=bi t0
         refine bv O (fun _ _ a d=>ak mP (a.ev O) L (a.ev O) p5 p6) (dA (ag jZ) O (bv O (fun _ _ a d=>ah bG (a.ev O) (aF.drop (zY gm (k:=2) d O p7) 2) O) (eY O (eY O ?_))))
         obtain⟨x6,t1,H⟩:=bnd H
         obtain⟨p8,p9,q0⟩:=bi t1
         refine bv O (fun _ _ a d=>ak mP (a.ev O) L (a.ev O) p8 p9) (dA (ag jZ) O (bv O (fun _ _ a d=>ah bG (a.ev O) (aF.drop (zY gm (k:=2) d O q0) 2) O) (iU aR O O (jD (aa (aT O H (fun H=>?_) (fun H=>?_)))))))
         ·exact Tr.region (ax O (ay bB O O (Tr.k O (ae (aK (aI f3 (f9,(bJ (M+1)),X,f4,f5) ⟨H,g2⟩ (.r O) (.r O)))))))
         ·exact Tr.region (ax O (ay bB O O (Tr.k O (ae (aK (aI f3 (f9,M,(bJ (X+1)),f4,f5) ⟨H,g2⟩ (.r O) (.r O)))))))
       ·exact bK (aA (aA (aP (aI f2 (a6,a0,a1) ⟨H,g1⟩ (.r O) (.r O)))))
     ·exact aJ (aI f2 (d8,c9,d0) ⟨H,e5⟩ (.r O) (.r O))
   ·intro w s j5 hs
    obtain⟨h2,g3,g4⟩:=s
    obtain⟨H,i8⟩:=hs
    replace H:fG C (bI N p0 j D (E+1)) B h2=some r:=H
    replace Z:=Z.kL j5
    replace e4:=e4.trans j5
    replace i8:cO g3 h2.length g4:=i8
    unfold fG at H
    dsimp only
    exact Tr.region (ax O (ax O (ax O (ay bB O O (Tr.k O (Tr.k O (ae (aK (aa (Tr.region (ay bB O O (ax O (ae (aI e4 (D,(E+1),h2,(bJ (C+(bJ (Int.tdiv (B.Xs.length:Int) 2)))),C,g3,g4) ⟨O,bT b1,aX b1,H,i8⟩ (.cons O (.cons O (.cons O (.cons O (.cons O (.cons O (.cons O (.cons O (.cons (congrArg (fun z=>some (Value.int .i64 z)) (bS b1 Z.form)) .nil))))))))) (.r O)))))))))))))))

theorem uM(N:Nat){w:Bs}(p0:dD)(c:Option Addr)(f:Nat)(v:Sl w.R w.W dF c f p0.Art.Coppers)(E:Option Addr)(F:Nat)(m9:Sl w.R w.W aB E F p0.Art.Outline)(y:Option Addr)(A:Nat)(d0:Sl w.R w.W dY y A p0.Art.Bores)(G:Option Addr)(I:Nat)(n0:Sl w.R w.W eH G I p0.Art.Lands)(f5:Option Addr)(f6:Nat)(f7:Option Addr)(f8:Nat)(J:Option Addr)(K:Nat)(n1:Sl w.R w.W fE J K p0.Touched)(L:Option Addr)(M:Nat)(n2:Sl w.R w.W dw L M p0.Groups)(P:Option Addr)(Q:Nat)(n3:Sl w.R w.W az P Q p0.OfPiece)(T:Option Addr)(Z:Nat)(n4:Sl w.R w.W az T Z p0.OfBore)(i:Option Addr)(j:Nat)(m6:Sl w.R w.W az i j p0.OfLand)(o:Option Addr)(q:Nat)(m7:Sl w.R w.W dX o q p0.AtLand)(b5:Nat)(r:(Bool×(List (List aQ))×(List eQ)))(H:kK N p0=some r)(hE:HF w w.W (iZ [bx b5 #[sL c p0.Art.Coppers f,sL E p0.Art.Outline F,sL y p0.Art.Bores A,sL G p0.Art.Lands I,sL f5 p0.Drilled f6,sL f7 p0.Pieces f8,sL J p0.Touched K,sL L p0.Groups M,sL P p0.OfPiece Q,sL T p0.OfBore Z,sL i p0.OfLand j,sL o p0.AtLand q] 72,ow f5 f6 74 bM p0.Drilled,ow f7 f8 76 dG p0.Pieces])):Calls Tryz.prog 43 [pV b5].toArray w.W fun e W'=>∃(w':Bs) (u:(Option Addr×Nat)×(Option Addr×Nat)),w.Le w'∧e= .returned (bV r.1)∧(cO u.1.1 r.2.1.length u.1.2∧cO u.2.1 r.2.2.length u.2.2)∧HF w' W' (iZ [bx b5 #[sL c p0.Art.Coppers f,sL E p0.Art.Outline F,sL y p0.Art.Bores A,sL G p0.Art.Lands I,sL u.1.1 r.2.1 u.1.2,sL u.2.1 r.2.2 u.2.2,sL J p0.Touched K,sL L p0.Groups M,sL P p0.OfPiece Q,sL T p0.OfBore Z,sL i p0.OfLand j,sL o p0.AtLand q] 72,ow u.1.1 u.1.2 74 bM r.2.1,ow u.2.1 u.2.2 76 dG r.2.2]):=by
 unfold kK at H
 have i5:=(hE.sl (k:=1) O).form
 have i6:=(hE.sl (k:=2) O).form
 have leB:=Bs.Le.refl w
 refine aV (n:=95) Tryz.func43 O O O hE (ai (Tr.k O (ae (aa (ai (Tr.k O (ae (aa (av (ai (ax O (aH bn O (aH (ag ut) O (aH (ag xZ) O (aC O (fun _ _ a d=>ah Ej (a.ev O) (bR d (vs:=[sL c p0.Art.Coppers f,sL E p0.Art.Outline F,sL y p0.Art.Bores A,sL G p0.Art.Lands I,sL f5 p0.Drilled f6,sL f7 p0.Pieces f8,sL J p0.Touched K,sL L p0.Groups M,sL P p0.OfPiece Q,sL T p0.OfBore Z,sL i p0.OfLand j,sL o p0.AtLand q]) (k:=0) O 0) O) (aH (bf zg) O (ax O (ae (aa (Tr.block (bO (σ:=(List (List au))×Nat×(List (List aQ))×(List eQ)×Bool×(Option Addr)×Nat×(Option Addr)×Nat) (fun m w s=>m=s.1.length+1∧s.1=List.drop s.2.1 p0.Art.Coppers∧s.2.1≤p0.Art.Coppers.length∧dx N p0 s.1 s.2.1 s.2.2.1 s.2.2.2.1 s.2.2.2.2.1=some r∧cO s.2.2.2.2.2.1 s.2.2.1.length s.2.2.2.2.2.2.1∧cO s.2.2.2.2.2.2.2.1 s.2.2.2.1.length s.2.2.2.2.2.2.2.2) (fun s=>[(0,pV b5),(3,bV s.2.2.2.2.1),(16,sL c p0.Art.Coppers f),(17,iv (p0.Art.Coppers.length:Int)),(18,iv (s.2.1:Int))]) (fun s=>[(0,bx b5 #[sL c p0.Art.Coppers f,sL E p0.Art.Outline F,sL y p0.Art.Bores A,sL G p0.Art.Lands I,sL s.2.2.2.2.2.1 s.2.2.1 s.2.2.2.2.2.2.1,sL s.2.2.2.2.2.2.2.1 s.2.2.2.1 s.2.2.2.2.2.2.2.2,sL J p0.Touched K,sL L p0.Groups M,sL P p0.OfPiece Q,sL T p0.OfBore Z,sL i p0.OfLand j,sL o p0.AtLand q] 72),(1,ow s.2.2.2.2.2.1 s.2.2.2.2.2.2.1 74 bM s.2.2.1),(2,ow s.2.2.2.2.2.2.2.1 s.2.2.2.2.2.2.2.2 76 dG s.2.2.2.1)]) (p0.Art.Coppers.length+1) (p0.Art.Coppers,0,p0.Drilled,p0.Pieces,true,f5,f6,f7,f8) ⟨O,O,Nat.zero_le _,H,i5,i6⟩ (.r O) (.r O) (fun _ _ h=>absurd h.1 (by simp)) ?_)))))))))))))))))))))
 intro w a5 m s hs
 obtain⟨b4,a2,a6,D,c7,a3,a4,B,C⟩:=s
 obtain⟨h4,d5,n7,H,g5,f9⟩:=hs
 replace d5:b4=List.drop a2 p0.Art.Coppers:=d5
 replace H:dx N p0 b4 a2 a6 D c7=some r:=H
 replace h4:m+1=b4.length+1:=h4
 replace v:=v.kL a5
 replace d0:=d0.kL a5
 replace leB:=leB.trans a5
 replace g5:cO a3 a6.length a4:=g5
 replace f9:cO B D.length C:=f9
 obtain rfl:m=b4.length:=by omega
 clear h4
 dsimp only
 cases b4 with
 | nil=>
  rw[dx.eq_1] at H
  refine ai (ay aR O O (ae (aa (av (bX O (bN d5) (bK (aA (aA (aP (aa (ai (ax O (ax O (bP 7 [(94,bV (c7&&(decide ((D.length:Int)≤2000))))] [(0,bx b5 #[sL c p0.Art.Coppers f,sL E p0.Art.Outline F,sL y p0.Art.Bores A,sL G p0.Art.Lands I,sL a3 a6 a4,sL B D C,sL J p0.Touched K,sL L p0.Groups M,sL P p0.OfPiece Q,sL T p0.OfBore Z,sL i p0.OfLand j,sL o p0.AtLand q] 72),(1,ow a3 a4 74 bM a6),(2,ow B C 76 dG D)] ?_ ?_))))))))))))))
  ·cases n5:c7
   ·exact Tr.ps O (Tr.ps O (Tr.ps O (Tr.ps O (Tr.ps O (Tr.ps O (ay aZ O O (ae (aS (.r O) (.r O)))))))))
   ·exact bH run_move O (bH bn O (bH (ag oW) O (Tr.x (fun _ _ a d=>ah wF (a.ev O) (bR d (vs:=[sL c p0.Art.Coppers f,sL E p0.Art.Outline F,sL y p0.Art.Bores A,sL G p0.Art.Lands I,sL a3 a6 a4,sL B D C,sL J p0.Touched K,sL L p0.Groups M,sL P p0.OfPiece Q,sL T p0.OfBore Z,sL i p0.OfLand j,sL o p0.AtLand q]) (k:=0) O 5) O) (bH (bf ze) O (Tr.e2 jY O O (ay aW O O (ae (aS (.r O) (.r O)))))))))
  ·show Tr _ _ (LF [(94,bV (c7&&(decide ((D.length:Int)≤2000))))]) (LE [(0,bx b5 #[sL c p0.Art.Coppers f,sL E p0.Art.Outline F,sL y p0.Art.Bores A,sL G p0.Art.Lands I,sL a3 a6 a4,sL B D C,sL J p0.Touched K,sL L p0.Groups M,sL P p0.OfPiece Q,sL T p0.OfBore Z,sL i p0.OfLand j,sL o p0.AtLand q] 72),(1,ow a3 a4 74 bM a6),(2,ow B C 76 dG D)]) _
   refine Tr.k O (ae (aa (aO ?_)))
   obtain rfl:=oI H
   exact bL (m:=[bV (c7&&(decide ((D.length:Int)≤2000)))]) [] (aU O bD) (fun W hW=>⟨w,((a3,a4),(B,C)),leB,O,⟨g5,f9⟩,hW.pick (ks:=[0,1,2]) (by decide) (aN O (aN O (aN O bg)))⟩)
 | cons g4 b4=>
  rw[dx.eq_2] at H
  refine ai (ay aR O O (ae (aa (av (bY O (cu d5) (aJ (aa (av (Tr.block (ai (ax O ?_)))))))))))
  obtain⟨l7,j4,i7,j5⟩:=(v).el (dI d5)
  obtain⟨e4,e5⟩:=l7
  have c0:=i7
  replace c0:Sl w.R w.W aB e4 e5 g4:=c0
  refine aC O (fun _ _ a d=>ak Gn (a.ev O) v.form (a.ev O) (Int.natCast_nonneg _) (aX d5)) (aC O (fun _ _ a d=>ah tQ (a.ev O) (qY j4 j5 d) O) (Tr.k O (Tr.k O (ae (aa (ai (Tr.k O (bC 39 111 aB ?_))))))))
  dsimp only
  refine ae (aa (av (ai (ax O (aH bn O (aH (ag ut) O (aH (ag rE) O (aC O (fun _ _ a d=>ah yG (a.ev O) (bR d (vs:=[sL c p0.Art.Coppers f,sL E p0.Art.Outline F,sL y p0.Art.Bores A,sL G p0.Art.Lands I,sL a3 a6 a4,sL B D C,sL J p0.Touched K,sL L p0.Groups M,sL P p0.OfPiece Q,sL T p0.OfBore Z,sL i p0.OfLand j,sL o p0.AtLand q]) (k:=0) O 2) O) (aH (bf zf) O (ax O (ae (aa (Tr.block (bO (σ:=(List gP)×Nat×(List au)×(Option Addr)×Nat) (fun m w s=>m=s.1.length+1∧s.1=List.drop s.2.1 p0.Art.Bores∧s.2.1≤p0.Art.Bores.length∧dK N a6 D c7 (dx N p0 b4 (a2+1)) g4 a2 s.1 s.2.1 s.2.2.1=some r∧cO s.2.2.2.1 s.2.2.1.length s.2.2.2.2) (fun s=>[(0,pV b5),(3,bV c7),(4,iv (a2:Int)),(5,sL e4 g4 e5),(6,sL s.2.2.2.1 s.2.2.1 s.2.2.2.2),(16,sL c p0.Art.Coppers f),(17,iv (p0.Art.Coppers.length:Int)),(18,iv (a2:Int)),(27,sL y p0.Art.Bores A),(28,iv (p0.Art.Bores.length:Int)),(29,iv (s.2.1:Int))]) (fun s=>[(0,bx b5 #[sL c p0.Art.Coppers f,sL E p0.Art.Outline F,sL y p0.Art.Bores A,sL G p0.Art.Lands I,sL a3 a6 a4,sL B D C,sL J p0.Touched K,sL L p0.Groups M,sL P p0.OfPiece Q,sL T p0.OfBore Z,sL i p0.OfLand j,sL o p0.AtLand q] 72),(1,ow a3 a4 74 bM a6),(2,ow B C 76 dG D),(39,ow s.2.2.2.1 s.2.2.2.2 111 aB s.2.2.1)]) (p0.Art.Bores.length+1) (p0.Art.Bores,0,([]:List au),none,0) ⟨O,O,Nat.zero_le _,H,gZ⟩ (.r O) (.r O) (fun _ _ h=>absurd h.1 (by simp)) ?_))))))))))))))
  intro w f4 m s hs
  obtain⟨c3,h3,d6,d7,d8⟩:=s
  obtain⟨h5,c4,n8,H,g6⟩:=hs
  replace c4:c3=List.drop h3 p0.Art.Bores:=c4
  replace H:dK N a6 D c7 (dx N p0 b4 (a2+1)) g4 a2 c3 h3 d6=some r:=H
  replace h5:m+1=c3.length+1:=h5
  replace v:=v.kL f4
  replace d0:=d0.kL f4
  replace c0:=c0.kL f4
  replace a5:=a5.trans f4
  replace g6:cO d7 d6.length d8:=g6
  obtain rfl:m=c3.length:=by omega
  clear h5
  dsimp only
  cases c3 with
  | nil=>
   rw[dK.eq_1] at H
   refine ai (ay aR O O (ae (aa (av (bX O (bN c4) (bK (aA (aA (aP (aa (ai (ax O ?_))))))))))))
   obtain⟨e0,k1,H⟩:=bnd H
   refine eZ [44] [emp] (U:=(Option Addr×Nat)) (fun u=>(sL u.1 e0 u.2)) (fun a' W u=>cO u.1 e0.length u.2) (fun u=>[ow u.1 u.2 123 aY e0]) O (aN O bg) (fun _=>O) (wn O) O Tryz.call47 (aj O aG) (fun W hW hp hE=>jm N g4 e4 e5 (c0.ext (hW.dU hp)) e0 k1 hE) ?_
   intro w u h8 hu
   obtain⟨e6,e7⟩:=u
   have i8:=hu
   replace v:=v.kL h8
   replace a5:=a5.trans h8
   have l8:cO e6 e0.length e7:=i8 --@phi
   dsimp only
   refine ax O ?_
   obtain⟨e3,k2,H⟩:=bnd H
   refine eZ [45] [emp] (U:=(Option Addr×Nat)) (fun u=>(sL u.1 e3 u.2)) (fun a' W u=>cO u.1 e3.length u.2) (fun u=>[ow u.1 u.2 123 aY e3]) O (aN O bg) (fun _=>O) (wn O) O Tryz.call47 (aj O aG) (fun W hW hp hE=>jm N d6 d7 d8 (hW.Ha (k:=39) O hp O) e3 k2 hE) ?_
   intro w u h9 hu
   obtain⟨e8,e9⟩:=u
   have i9:=hu
   replace v:=v.kL h9
   replace a5:=a5.trans h9
   have l9:cO e8 e3.length e9:=i9 --@phi
   dsimp only
   refine Tr.freeze 44 O fun w i0 f3=>?_
   replace v:=v.kL i0
   replace a5:=a5.trans i0
   refine Tr.freeze 45 O fun w g7 g8=>?_
   replace v:=v.kL g7
   replace f3:=f3.le g7
   replace a5:=a5.trans g7
   obtain⟨b2,k3,H⟩:=bnd H
   refine eZ [46] [emp] (U:=(Option Addr×Nat)) (fun u=>(sL u.1 b2 u.2)) (fun a' W u=>cO u.1 b2.length u.2) (fun u=>[ow u.1 u.2 123 aY b2]) O (aN O bg) (fun _=>O) (wn O) O Tryz.call83 (aj O (aj O aG)) (fun W hW hp hE=>xK N e0 e6 e7 (f3.kC (hW.dU hp)) e3 e8 e9 (g8.kC (hW.dU hp)) b2 k3 hE) ?_
   intro w u g0 hu
   obtain⟨a0,a1⟩:=u
   have j0:=hu
   replace v:=v.kL g0
   replace f3:=f3.le g0
   replace g8:=g8.le g0
   replace a5:=a5.trans g0
   have m0:cO a0 b2.length a1:=j0 --@phi
   dsimp only
   refine Tr.k O (ae (aa (ai (ax O (ax O ?_)))))
   obtain⟨f2,f1,H⟩:=bnd H
   refine bP 4 [(0,pV b5),(4,iv (a2:Int)),(9,sL a0 b2 a1),(16,sL c p0.Art.Coppers f),(17,iv (p0.Art.Coppers.length:Int)),(18,iv (a2:Int)),(52,bV f2)] [(0,bx b5 #[sL c p0.Art.Coppers f,sL E p0.Art.Outline F,sL y p0.Art.Bores A,sL G p0.Art.Lands I,sL a3 a6 a4,sL B D C,sL J p0.Touched K,sL L p0.Groups M,sL P p0.OfPiece Q,sL T p0.OfBore Z,sL i p0.OfLand j,sL o p0.AtLand q] 72),(1,ow a3 a4 74 bM a6),(2,ow B C 76 dG D),(39,ow d7 d8 111 aB d6),(46,ow a0 a1 123 aY b2)] ?_ ?_
   ·cases i1:c7
    ·rw[i1] at f1
     rw[if_neg (by decide)] at f1
     have H:=f1
     obtain rfl:=oI H
     exact Tr.ps O (Tr.ps O (Tr.ps O (ay aZ O O (ae (aS (.r O) (.r O))))))
    ·rw[i1] at f1
     rw[if_pos O] at f1
     have H:=f1
     refine bH run_move O ?_
     obtain⟨j6,k4,H⟩:=bnd H
     refine bu (r:=(iv j6)) (wg O O O) O Tryz.call51 (aj O aG) (fun W hW=>oM b2 a0 a1 (hW.oD (k:=46) O) j6 k4 (HF.start _)) (Tr.e2 jY O O (ay aW O O ?_))
     obtain rfl:=oI H
     exact ae (aS (.r O) (.r O))
   ·show Tr _ _ (LF [(0,pV b5),(4,iv (a2:Int)),(9,sL a0 b2 a1),(16,sL c p0.Art.Coppers f),(17,iv (p0.Art.Coppers.length:Int)),(18,iv (a2:Int)),(52,bV f2)]) (LE [(0,bx b5 #[sL c p0.Art.Coppers f,sL E p0.Art.Outline F,sL y p0.Art.Bores A,sL G p0.Art.Lands I,sL a3 a6 a4,sL B D C,sL J p0.Touched K,sL L p0.Groups M,sL P p0.OfPiece Q,sL T p0.OfBore Z,sL i p0.OfLand j,sL o p0.AtLand q] 72),(1,ow a3 a4 74 bM a6),(2,ow B C 76 dG D),(39,ow d7 d8 111 aB d6),(46,ow a0 a1 123 aY b2)]) _
    refine Tr.k O (ae (aa (ai (ax O (ax O (aH bn O (aH (ag Jd) O (aC O (fun _ _ a d=>ah Rv (a.ev O) (bR d (vs:=[sL c p0.Art.Coppers f,sL E p0.Art.Outline F,sL y p0.Art.Bores A,sL G p0.Art.Lands I,sL a3 a6 a4,sL B D C,sL J p0.Touched K,sL L p0.Groups M,sL P p0.OfPiece Q,sL T p0.OfBore Z,sL i p0.OfLand j,sL o p0.AtLand q]) (k:=0) O 4) O) (ax O (Tr.freeze 46 O fun w i2 g1=>?_))))))))))
    replace v:=v.kL i2
    replace a5:=a5.trans i2
    refine eD 47 (e:=74) (vs:=[(0,sL a0 b2 a1)]) (cs:=[sL a0 b2 a1]) (wn O) O (bz O dE) (by kernel_rfl) fun n9=>?_
    obtain⟨c8,k5,H⟩:=bnd H
    refine Tr.append 1 (t:=bM) (l:=a6) (l2:=[b2]) (wn O) O O O O (fun W hW=>⟨[[sL a0 b2 a1]],(.cons ⟨(a0,a1),g1,O⟩ .nil),bR hW (vs:=[sL a0 b2 a1]) (k:=47) O 0⟩) IA OX OQ (by decide) Pe O k5 fun c5 c6 j7=>(aH bn O (aH (ag Jd) O (bF 0 (cs:=[sL c5 c8 c6]) [sL c p0.Art.Coppers f,sL E p0.Art.Outline F,sL y p0.Art.Bores A,sL G p0.Art.Lands I,sL c5 c8 c6,sL B D C,sL J p0.Touched K,sL L p0.Groups M,sL P p0.OfPiece Q,sL T p0.OfBore Z,sL i p0.OfLand j,sL o p0.AtLand q] (wn O) O O O O QN O O O (ae (aa (ai (ax O ?_)))))))
    obtain⟨b3,k6,H⟩:=bnd H
    refine eZ [48] [emp] (U:=(Option Addr×Nat)) (fun u=>(sL u.1 b3 u.2)) (fun a' W u=>cO u.1 b3.length u.2) (fun u=>[ow u.1 u.2 74 bM b3]) O (aN O bg) (fun _=>O) (wn O) O Tryz.call84 (aj O aG) (fun W hW hp hE=>wO N b2 a0 a1 (g1.rl.ext (hW.dU hp)) b3 k6 hE) ?_
    intro w u g9 hu
    obtain⟨b8,b9⟩:=u
    have j1:=hu
    replace v:=v.kL g9
    replace g1:=g1.le g9
    replace a5:=a5.trans g9
    have g2:cO b8 b3.length b9:=j1 --@phi
    dsimp only
    refine aH (bf IA) O (ax O (ae (aa (Tr.block (bO (σ:=(List (List aQ))×Nat×(List eQ)×(Option Addr)×Nat) (fun m w s=>m=s.1.length+1∧s.1=List.drop s.2.1 b3∧s.2.1≤b3.length∧eU N (dx N p0 b4 (a2+1)) a2 f2 c8 s.1 s.2.1 s.2.2.1=some r∧cO s.2.2.2.1 s.2.2.1.length s.2.2.2.2) (fun s=>[(0,pV b5),(3,bV f2),(4,iv (a2:Int)),(16,sL c p0.Art.Coppers f),(17,iv (p0.Art.Coppers.length:Int)),(18,iv (a2:Int)),(64,sL b8 b3 b9),(65,iv (b3.length:Int)),(66,iv (s.2.1:Int))]) (fun s=>[(0,bx b5 #[sL c p0.Art.Coppers f,sL E p0.Art.Outline F,sL y p0.Art.Bores A,sL G p0.Art.Lands I,sL c5 c8 c6,sL s.2.2.2.1 s.2.2.1 s.2.2.2.2,sL J p0.Touched K,sL L p0.Groups M,sL P p0.OfPiece Q,sL T p0.OfBore Z,sL i p0.OfLand j,sL o p0.AtLand q] 72),(1,ow c5 c6 74 bM c8),(2,ow s.2.2.2.1 s.2.2.2.2 76 dG s.2.2.1),(48,ow b8 b9 74 bM b3)]) (b3.length+1) (b3,0,D,B,C) ⟨O,O,Nat.zero_le _,H,f9⟩ (.r O) (.r O) (fun _ _ h=>absurd h.1 (by simp)) ?_)))))
    intro w g3 m s hs
    obtain⟨c9,i3,d4,d1,d2⟩:=s
    obtain⟨h6,d9,o0,H,h0⟩:=hs
    replace d9:c9=List.drop i3 b3:=d9
    replace H:eU N (dx N p0 b4 (a2+1)) a2 f2 c8 c9 i3 d4=some r:=H
    replace h6:m+1=c9.length+1:=h6
    replace v:=v.kL g3
    replace a5:=a5.trans g3
    replace h0:cO d1 d4.length d2:=h0
    obtain rfl:m=c9.length:=by omega
    clear h6
    dsimp only
    cases c9 with
    |nil=>
     rw[eU.eq_1] at H
     exact ai (ay aR O O (ae (aa (av (bX O (bN d9) (bK (aA (aA (aP (aK (aa (Tr.region (ay bB O O (ax O (ae (aI a5 (b4,(a2+1),c8,d4,f2,c5,c6,d1,d2) ⟨O,bT d5,aX d5,H,j7,h0⟩ (.cons O (.cons O (.cons O (.cons O (.cons (congrArg (fun z=>some (Value.int .i64 z)) (bS d5 v.form)) .nil))))) (.r O)))))))))))))))))
    |cons d3 c9=>
     rw[eU.eq_2] at H
     refine ai (ay aR O O (ae (aa (av (bY O (cu d9) (aJ (aa (av (Tr.block (ai (aC O (fun _ _ a d=>ak O8 (a.ev O) g2 (a.ev O) (Int.natCast_nonneg _) (aX d9)) (Jw (U:=(bM).Ad) (fun u=>(bM).ok w.O w.W u d3) (fun u=>(sL u.1 d3 u.2)) (wn O) O (Sn (κ:=48) (t:=bM) (V:=fun u=>(sL u.1 d3 u.2)) O (dI d9) (fun _ _ u a hc=>ah MK (a.ev O) hc O)) ?_))))))))))))
     intro m1 j2
     obtain⟨a8,a9⟩:=m1
     have b7:=j2
     replace b7:Sl w.O w.W aY a8 a9 d3:=b7
     dsimp only
     refine Tr.k O (ae (aa (qa 12 [(11,(ow d1 d2 76 dG d4).S)] [] (by kernel_rfl) (by kernel_rfl) fun k7 m2 m5=>(bE 0 (by kernel_rfl) O (wn O) O (by kernel_rfl) (fun _ _ a=>run_move (a.ev O)) O (bE 1 (by kernel_rfl) O (wn O) O (by kernel_rfl) (fun _ _ a=>run_move (a.ev O)) O (bE 2 (by kernel_rfl) O (wn O) O (by kernel_rfl) (fun _ _ a=>bn (a.ev O)) O (bE 3 (by kernel_rfl) O (wn O) O (by kernel_rfl) (fun _ _ a=>ag oW (a.ev O)) O (gM 4 [(74,sL d1 d4 d2)] (by kernel_rfl) O O (by kernel_rfl) ?_ O O ?_))))))))
     ·exact bv O (fun _ _ a d=>ah wF (a.ev O) (bR d (vs:=[sL c p0.Art.Coppers f,sL E p0.Art.Outline F,sL y p0.Art.Bores A,sL G p0.Art.Lands I,sL c5 c8 c6,sL d1 d4 d2,sL J p0.Touched K,sL L p0.Groups M,sL P p0.OfPiece Q,sL T p0.OfBore Z,sL i p0.OfLand j,sL o p0.AtLand q]) (k:=0) O 5) O) (bW (.r O))
     refine bE 5 (by kernel_rfl) O (wn O) O (by kernel_rfl) (fun _ _ a=>run_move (a.ev O)) O (bE 6 (by kernel_rfl) O (wn O) O (by kernel_rfl) (fun _ _ a=>run_move (a.ev O)) O (bE 7 (by kernel_rfl) O (wn O) O (by kernel_rfl) (fun _ _ a=>run_move (a.ev O)) O ?_))
     obtain⟨b6,k8,H⟩:=bnd H
     refine Dr.one 8 (by kernel_rfl) (GK 8 [53] [emp] (U:=(Option Addr×Nat)) (fun u=>(sL u.1 b6 u.2)) (fun u=>cO u.1 b6.length u.2) (fun u=>[ow u.1 u.2 111 aB b6]) O (aN O bg) (fun _=>O) (NS O) O (wn O) O Tryz.call48 (aj O aG) (fun W hW hp hE=>jI N d3 a8 a9 (b7.rl.ext (hW.dU hp)) b6 k8 hE) ?_)
     intro u hu m8
     obtain⟨b0,b1⟩:=u
     have j3:=hu
     have m3:cO b0 b6.length b1:=j3
     dsimp only
     refine iF 9 [(79,.agg #[iv (a2:Int),sL a8 d3 a9,sL b0 b6 b1])] [11] false (by kernel_rfl) O O (by kernel_rfl) (fun W W' d hsW hk=>HF.pW (le:=[]) (ks:=[(2,(ow d1 d2 76 dG d4).S)]) (s0:=k7) false d hk (fun h=>absurd h (by decide)) .nil (fun b hb=>hb.elim (fun⟨p,hp,hf,hb⟩=>by simp only[List.mem_cons,List.not_mem_nil,or_false] at hp;rcases hp with rfl;exact .inl ⟨_,List.mem_cons_self,hb⟩) (fun hb=>absurd hb.1 (by decide))) (List.forall_mem_cons.2 ⟨fun b hb=>hb,(fun _ h=>nomatch h)⟩) rfl) ?_ rfl rfl ?_
     ·exact xB (vs:=[(0,iv (a2:Int)),(1,sL a8 d3 a9),(2,sL b0 b6 b1)]) (cs:=[iv (a2:Int),sL a8 d3 a9,sL b0 b6 b1]) (wn O) O (bz O (bz O (bz O dE))) (by kernel_rfl) (bW (.r O))
     refine Dr.one 10 (by kernel_rfl) (St.freeze 53 O fun w i4 k9=>?_)
     replace b7:=b7.le i4
     replace g3:=g3.trans i4
     refine jX 10 54 (e:=76) (vs:=[(0,.agg #[iv (a2:Int),sL a8 d3 a9,sL b0 b6 b1])]) (cs:=[iv (a2:Int),sL a8 d3 a9,sL b0 b6 b1]) O (wn O) O (bz O dE) (by kernel_rfl) fun o2 n6=>?_
     obtain⟨h7,l0,H⟩:=bnd H
     exact Dr.one 11 (by kernel_rfl) (St.append 11 2 (t':=dG) (ll:=d4) (l2:=[(eQ.mk (a2:Int) d3 b6)]) (fun b hb=>.inl ⟨_,List.mem_cons_self,O,hb⟩) O (wn O) O O O O (fun W hW=>⟨[[iv (a2:Int),sL a8 d3 a9,sL b0 b6 b1]],(.cons ⟨((a8,a9),(b0,b1)),⟨b7,k9⟩,O⟩ .nil),bR hW (vs:=[iv (a2:Int),sL a8 d3 a9,sL b0 b6 b1]) (k:=54) O 0⟩) ze zi Qx (by decide) Rj O l0 fun h1 h2 j8=>(rH (by kernel_rfl) (aH bn O (aH (ag oW) O (bF 0 (cs:=[sL h1 h7 h2]) [sL c p0.Art.Coppers f,sL E p0.Art.Outline F,sL y p0.Art.Bores A,sL G p0.Art.Lands I,sL c5 c8 c6,sL h1 h7 h2,sL J p0.Touched K,sL L p0.Groups M,sL P p0.OfPiece Q,sL T p0.OfBore Z,sL i p0.OfLand j,sL o p0.AtLand q] (wn O) O O O O QM O O O (ae (aK (aa (Tr.region (ay bB O O (ax O (ae (aI g3 (c9,(i3+1),h7,h1,h2) ⟨O,bT d9,aX d9,H,j8⟩ (.cons O (.cons O (.cons O (.cons O (.cons O (.cons O (.cons O (.cons O (.cons (congrArg (fun z=>some (Value.int .i64 z)) (bS d9 g2)) .nil))))))))) (.r O))))))))))))))
  | cons g c3=>
   rw[dK.eq_2] at H
   refine ai (ay aR O O (ae (aa (av (bY O (cu c4) (aJ (aa (av (Tr.block (ai (aC O (fun _ _ a d=>ak Bg (a.ev O) d0.form (a.ev O) (Int.natCast_nonneg _) (aX c4)) (aC O (fun _ _ a d=>aM (cs:=[iv g.At.X,iv g.At.Y,iv g.Size,iv g.From,iv g.To,bV g.Plated]) oH lT (a.ev O) (aF.take (rP rT d0 (dI c4) d) 6) O) (Tr.alloc 55 (wn O) O Aa fun o3=>(bF 55 (cs:=[iv g.At.X,iv g.At.Y,iv g.Size,iv g.From,iv g.To,bV g.Plated]) [iv g.At.X,iv g.At.Y,iv g.Size,iv g.From,iv g.To,bV g.Plated] (wn O) O O O O lT O O O (ae (aa (ai (aC O (fun _ _ a d=>aM (cs:=[iv g.At.X,iv g.At.Y,iv g.Size,iv g.From,iv g.To,bV g.Plated]) oH lT (a.ev O) (aF.take (bR d (vs:=[iv g.At.X,iv g.At.Y,iv g.Size,iv g.From,iv g.To,bV g.Plated]) (k:=55) O 0) 6) O) (ax O ?_)))))))))))))))))))
   obtain⟨j9,l1,H⟩:=bnd H
   refine bu (r:=(bV j9)) (wn O) O Tryz.call82 (aj O (aj O aG)) (fun W hW=>nz g (a2:Int) j9 l1 (HF.start _)) (ae (aa (aT O H (fun H=>?_) (fun H=>?_))))
   ·refine Tr.region (ax O (aC O (fun _ _ a d=>aM (cs:=[iv g.At.X,iv g.At.Y,iv g.Size,iv g.From,iv g.To,bV g.Plated]) oH lT (a.ev O) (aF.take (bR d (vs:=[iv g.At.X,iv g.At.Y,iv g.Size,iv g.From,iv g.To,bV g.Plated]) (k:=55) O 0) 6) O) ?_))
    obtain⟨a7,l3,H⟩:=bnd H
    refine bu (r:=(.agg #[iv a7.X0,iv a7.Y0,iv a7.X1,iv a7.Y1])) (wn O) O Tryz.call42 (aj O aG) (fun W hW=>jT g a7 l3 (HF.start _)) (eD 56 (e:=111) (vs:=[(0,.agg #[iv a7.X0,iv a7.Y0,iv a7.X1,iv a7.Y1])]) (cs:=[iv a7.X0,iv a7.Y0,iv a7.X1,iv a7.Y1]) (wn O) O (bz O dE) (by kernel_rfl) fun o4=>?_)
    obtain⟨m4,l4,H⟩:=bnd H
    exact Tr.append 39 (t:=aB) (l:=d6) (l2:=[a7]) (wn O) O O O O (fun W hW=>⟨[[iv a7.X0,iv a7.Y0,iv a7.X1,iv a7.Y1]],(.cons ⟨(),trivial,O⟩ .nil),bR hW (vs:=[iv a7.X0,iv a7.Y0,iv a7.X1,iv a7.Y1]) (k:=56) O 0⟩) lS dh BJ (by decide) CS O l4 fun l5 l6 k0=>(Tr.k O (ae (aK (aa (Tr.region (ay bB O O (ax O (ae (aI f4 (c3,(h3+1),m4,l5,l6) ⟨O,bT c4,aX c4,H,k0⟩ (.cons O (.cons O (.cons O (.cons O (.cons O (.cons O (.cons O (.cons O (.cons O (.cons O (.cons (congrArg (fun z=>some (Value.int .i64 z)) (bS c4 d0.form)) .nil))))))))))) (.r O))))))))))
   ·exact aJ (aK (aa (Tr.region (ay bB O O (ax O (ae (aI f4 (c3,(h3+1),d6,d7,d8) ⟨O,bT c4,aX c4,H,g6⟩ (.cons O (.cons O (.cons O (.cons O (.cons O (.cons O (.cons O (.cons O (.cons O (.cons O (.cons (congrArg (fun z=>some (Value.int .i64 z)) (bS c4 d0.form)) .nil))))))))))) (.r O))))))))

end Go.Proofs.YtkccbhbhdnobhaaGreatDoor
