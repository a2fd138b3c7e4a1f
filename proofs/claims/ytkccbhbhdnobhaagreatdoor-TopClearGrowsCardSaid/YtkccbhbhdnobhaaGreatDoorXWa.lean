/- The walks: each function computes its plain function. -/
import Derived.Test.YtkccbhbhdnobhaaGreatDoorXF
namespace Go.Proofs.YtkccbhbhdnobhaaGreatDoor
open Go.RowKit
set_option maxRecDepth 100000
set_option maxHeartbeats 1000000
theorem uj{w:Bs}(p0:(List Int))(g:Option Addr)(i:Nat)(f:Sl w.R w.W az g i p0)(p1:Int→Option Bool)(fid1:Nat)(j:List Value)(hg1:∀args W,(callFunc fid1 args).run Tryz.prog W= .ok (.enter fid1 args) W)(hf1:∀(w':Bs),w.Ext w'→∀(z0:Int),∀y,p1 z0=some y→Calls Tryz.prog fid1 (([iv z0]:List Value)++j).toArray w'.W fun e W''=>e= .returned (bV y)∧HF w' W'' E0)(r:Int)(H:lM p0 p1=some r)(hE:HF w w.W E0):Calls Tryz.prog 107 [sL g p0 i,.func (.func fid1) #[] j.toArray].toArray w.W fun e W'=>e= .returned (iv r)∧HF w W' E0:=by
 unfold lM at H
 have leB:=Bs.Le.refl w
 refine aV (n:=19) Tryz.func107 O O O hE (ai (Tr.k O (ae (aa (av (ai (ax O (aH (bf jN) O (ax O (ae (aa (Tr.block (bO (σ:=(List Int)×Nat) (fun m w s=>m=s.1.length+1∧s.1=List.drop s.2 p0∧s.2≤p0.length∧df p1 s.1 s.2=some r) (fun s=>[(0,sL g p0 i),(1,.func (.func fid1) #[] j.toArray),(7,iv (p0.length:Int)),(8,iv (s.2:Int))]) (fun s=>[]) (p0.length+1) (p0,0) ⟨O,O,Nat.zero_le _,H⟩ (.r O) .nil (fun _ _ h=>absurd h.1 (by simp)) ?_)))))))))))))
 intro w l m s hs
 obtain⟨b,p⟩:=s
 obtain⟨o,c,v,H⟩:=hs
 replace c:b=List.drop p p0:=c
 replace H:df p1 b p=some r:=H
 replace o:m+1=b.length+1:=o
 replace f:=f.kL l
 replace hf1:=fun w' he=>hf1 w' (l.ext.trans he)
 replace leB:=leB.trans l
 obtain rfl:m=b.length:=by omega
 clear o
 dsimp only
 cases b with
 |nil=>
  rw[df.eq_1] at H
  refine ai (ay aR O O (ae (aa (av (bX O (bN c) (bK (aA (aA (aP (aa (ai (Tr.k O (ae (aa (aO ?_)))))))))))))))
  obtain rfl:=oI H
  exact cB leB
 | cons u b=>
  rw[df.eq_2] at H
  refine ai (ay aR O O (ae (aa (av (bY O (cu c) (aJ (aa (av (Tr.block (ai (ax O (Tr.k O (ae (aa (ai (ax O (ax O (ax O (aC O (fun _ _ a d=>ak iX (a.ev O) f.form (a.ev O) (Int.natCast_nonneg _) (aX c)) (aC O (fun _ _ a d=>ah bG (a.ev O) (rP iH f (dI c) d) O) ?_))))))))))))))))))))
  obtain⟨t,q,H⟩:=bnd H
  refine xA (r:=(bV t)) (wn O) O O hg1 (aj O aG) (fun W hW=>hf1 hW.all hW.bU u _ q) (ae (aa (aT O H (fun H=>?_) (fun H=>?_))))
  ·refine ai (ax O (Tr.k O (ae (aa (aO (bq (aD (aD (bq (aD ?_))))))))))
   obtain rfl:=oI H
   exact cB leB
  ·exact aJ (aK (aa (Tr.region (ay bB O O (ax O (ae (aI l (b,(p+1)) ⟨O,bT c,aX c,H⟩ (.cons O (.cons O (.cons O (.cons (congrArg (fun z=>some (Value.int .i64 z)) (bS c f.form)) .nil)))) .nil)))))))

theorem su{w:Bs}(p0:(List Int))(a:Option Addr)(b:Nat)(f:Sl w.R w.W az a b p0)(p1:Int→Option Bool)(fid1:Nat)(c:List Value)(hg1:∀args W,(callFunc fid1 args).run Tryz.prog W= .ok (.enter fid1 args) W)(hf1:∀(w':Bs),w.Ext w'→∀(z0:Int),∀y,p1 z0=some y→Calls Tryz.prog fid1 (([iv z0]:List Value)++c).toArray w'.W fun e W''=>e= .returned (bV y)∧HF w' W'' E0)(r:Bool)(H:kE p0 p1=some r)(hE:HF w w.W E0):Calls Tryz.prog 56 [sL a p0 b,.func (.func fid1) #[] c.toArray].toArray w.W fun e W'=>e= .returned (bV r)∧HF w W' E0:=by
 unfold kE at H
 have leB:=Bs.Le.refl w
 refine aV (n:=9) Tryz.func56 O O O hE (ai (Tr.k O (ae (aa (ai (ax O (ax O ?_)))))))
 obtain⟨d,g,H⟩:=bnd H
 refine bu (r:=(iv d)) (wn O) O Tryz.call107 (aj O (aj O aG)) (fun W hW=>uj p0 a b (f.ext hW.bU) p1 fid1 c hg1 (fun w' he=>hf1 w' (hW.bU.trans he)) d g (HF.start _)) (ay oh O O (Tr.k O (ae (aa (aO ?_)))))
 obtain rfl:=oI H
 exact cB leB

theorem uz{w:Bs}(p0:Int)(p1:Int)(p2:Int)(r:Bool)(H:qQ p0 p1 p2=some r)(hE:HF w w.W E0):Calls Tryz.prog 60 [iv p0,iv p1,iv p2].toArray w.W fun e W'=>e= .returned (bV r)∧HF w W' E0:=by
 unfold qQ at H
 have leB:=Bs.Le.refl w
 refine aV (n:=15) Tryz.func60 O O O hE (ai (Tr.k O (ae (aa (ai (ax O (ax O (ay oh O O (ax O (bP 4 [(14,bV ((decide (p1≤p0))&&(decide (p0≤p2))))] [] ?_ ?_))))))))))
 ·cases a:(decide (p1≤p0))
  ·exact Tr.ps O (Tr.ps O (Tr.ps O (ay aZ O O (ae (aS (.r O) .nil)))))
  ·exact bH run_move O (bH run_move O (Tr.e2 jY O O (ay aW O O (ae (aS (.r O) .nil)))))
 ·show Tr _ _ (LF [(14,bV ((decide (p1≤p0))&&(decide (p0≤p2))))]) (LE []) _
  refine Tr.k O (ae (aa (aO ?_)))
  obtain rfl:=oI H
  exact cB leB

theorem uA{w:Bs}(p0:Int)(r:Bool)(H:qR p0=some r)(hE:HF w w.W E0):Calls Tryz.prog 58 [iv p0].toArray w.W fun e W'=>e= .returned (bV r)∧HF w W' E0:=by
 unfold qR at H
 have leB:=Bs.Le.refl w
 refine aV (n:=5) Tryz.func58 O O O hE (ai (Tr.k O (ae (aa (ai (ax O ?_))))))
 obtain⟨a,b,H⟩:=bnd H
 refine bu (r:=(bV a)) (wn O) O Tryz.call60 (aj O (aj O (aj O aG))) (fun W hW=>uz p0 0 100000 a b (HF.start _)) (Tr.k O (ae (aa (aO ?_))))
 obtain rfl:=oI H
 exact cB leB

theorem vB{w:Bs}(p0:Int)(r:Bool)(H:ed p0=some r)(hE:HF w w.W E0):Calls Tryz.prog 57 [iv p0].toArray w.W fun e W'=>e= .returned (bV r)∧HF w W' E0:=by
 unfold ed at H
 have leB:=Bs.Le.refl w
 refine aV (n:=6) Tryz.func57 O O O hE (ai (Tr.k O (ae (aa (ai (ax O ?_))))))
 obtain⟨a,b,H⟩:=bnd H
 refine bu (r:=(bV a)) (wn O) O Tryz.call58 (aj O aG) (fun W hW=>uA p0 a b (HF.start _)) (aH iQ O (Tr.k O (ae (aa (aO ?_)))))
 obtain rfl:=oI H
 exact cB leB

theorem vX{w:Bs}(p0:ByteArray)(p1:Int)(r:Int)(H:NQ p0 p1=some r)(hE:HF w w.W E0):Calls Tryz.prog 118 [sv p0,.int .u8 p1].toArray w.W fun e W'=>e= .returned (iv r)∧HF w W' E0:=
 J2 (ρ:=Tryz.uW) Tryz.EK H hE

theorem sG(N:Nat){w:Bs}(p0:ByteArray)(r:Bool)(H:nJ N p0=some r)(hE:HF w w.W E0):Calls Tryz.prog 77 [sv p0].toArray w.W fun e W'=>e= .returned (bV r)∧HF w W' E0:=by
 unfold nJ at H
 have leB:=Bs.Le.refl w
 refine aV (n:=49) Tryz.func77 O O O hE (ai (Tr.k O (ae (aa (av (ai (ax O (aH (zo KJ) O (ax O (ae (aa (Tr.block (bO (σ:=Int) (fun m w s=>iV p0 m s=some r) (fun s=>[(0,sv p0),(6,iv (p0.size:Int)),(7,iv s)]) (fun s=>[]) N 0 H (.r O) .nil (fun _ _ h=>mW (h)) ?_)))))))))))))
 intro w i t c hs
 have H:=hs
 replace H:iV p0 (t+1) c=some r:=H
 replace leB:=leB.trans i
 rw[iV.eq_2] at H
 show Tr _ _ (LF [(0,sv p0),(6,iv (p0.size:Int)),(7,iv c)]) (LE []) _
 refine ai (ay aR O O (ae (aa (av (aT O H (fun H=>?_) (fun H=>?_))))))
 ·refine aJ (aa (av (Tr.block (ai (ax O (Tr.k O (ae (aa (ai (ax O (ax O ?_)))))))))))
  obtain⟨b,o,H⟩:=bnd H
  refine aC O (fun _ _ a d=>He KJ (a.ev O) (a.ev O) o) (Tr.k O (ae (aa (ai (ax O (ay aR O O (ax O (bP 3 [(0,sv p0),(4,.int .u8 b),(6,iv (p0.size:Int)),(7,iv c),(18,bV ((decide (b<65))||(decide (90<b))))] [] ?_ ?_))))))))
  ·cases f:(decide (b<65))
   ·exact bH run_move O (Tr.e2 iG O O (ay aZ O O (ae (aS (.r O) .nil))))
   ·exact Tr.ps O (Tr.ps O (ay aW O O (ae (aS (.r O) .nil))))
  ·show Tr _ _ (LF [(0,sv p0),(4,.int .u8 b),(6,iv (p0.size:Int)),(7,iv c),(18,bV ((decide (b<65))||(decide (90<b))))]) (LE []) _
   refine ax O (bP 7 [(0,sv p0),(4,.int .u8 b),(6,iv (p0.size:Int)),(7,iv c),(26,bV (((decide (b<65))||(decide (90<b)))&&((decide (b<97))||(decide (122<b)))))] [] ?_ ?_)
   ·cases f:((decide (b<65))||(decide (90<b)))
    ·exact Tr.ps O (Tr.ps O (Tr.ps O (gN O (gN O (Tr.ps O (ay aZ O O (ae (aS (.r O) .nil))))))))
    ·refine bH run_move O (Tr.e2 aR O O (bH run_move O (bP 3 [(0,sv p0),(4,.int .u8 b),(6,iv (p0.size:Int)),(7,iv c),(19,bV true),(25,bV ((decide (b<97))||(decide (122<b))))] [] ?_ ?_)))
     ·cases p:(decide (b<97))
      ·exact bH run_move O (Tr.e2 iG O O (Tr.e2 aZ O O (ae (aS (.r O) .nil))))
      ·exact Tr.ps O (Tr.ps O (Tr.e2 aW O O (ae (aS (.r O) .nil))))
     ·dsimp only
      exact ay aW O O (ae (aS (.r O) .nil))
   ·show Tr _ _ (LF [(0,sv p0),(4,.int .u8 b),(6,iv (p0.size:Int)),(7,iv c),(26,bV (((decide (b<65))||(decide (90<b)))&&((decide (b<97))||(decide (122<b)))))]) (LE []) _
    refine ax O (bP 7 [(0,sv p0),(4,.int .u8 b),(6,iv (p0.size:Int)),(7,iv c),(34,bV ((((decide (b<65))||(decide (90<b)))&&((decide (b<97))||(decide (122<b))))&&((decide (b<48))||(decide (57<b)))))] [] ?_ ?_)
    ·cases f:(((decide (b<65))||(decide (90<b)))&&((decide (b<97))||(decide (122<b))))
     ·exact Tr.ps O (Tr.ps O (Tr.ps O (gN O (gN O (Tr.ps O (ay aZ O O (ae (aS (.r O) .nil))))))))
     ·refine bH run_move O (Tr.e2 aR O O (bH run_move O (bP 3 [(0,sv p0),(4,.int .u8 b),(6,iv (p0.size:Int)),(7,iv c),(27,bV true),(33,bV ((decide (b<48))||(decide (57<b))))] [] ?_ ?_)))
      ·cases p:(decide (b<48))
       ·exact bH run_move O (Tr.e2 iG O O (Tr.e2 aZ O O (ae (aS (.r O) .nil))))
       ·exact Tr.ps O (Tr.ps O (Tr.e2 aW O O (ae (aS (.r O) .nil))))
      ·dsimp only
       exact ay aW O O (ae (aS (.r O) .nil))
    ·show Tr _ _ (LF [(0,sv p0),(4,.int .u8 b),(6,iv (p0.size:Int)),(7,iv c),(34,bV ((((decide (b<65))||(decide (90<b)))&&((decide (b<97))||(decide (122<b))))&&((decide (b<48))||(decide (57<b)))))]) (LE []) _
     refine ax O ?_
     obtain⟨j,g,H⟩:=bnd H
     refine bP 4 [(0,sv p0),(6,iv (p0.size:Int)),(7,iv c),(39,bV j)] [] ?_ ?_
     ·cases f:((((decide (b<65))||(decide (90<b)))&&((decide (b<97))||(decide (122<b))))&&((decide (b<48))||(decide (57<b))))
      ·rw[f] at g
       rw[if_neg (by decide)] at g
       have H:=g
       obtain rfl:=oI H
       exact Tr.ps O (Tr.ps O (Tr.ps O (ay aZ O O (ae (aS (.r O) .nil)))))
      ·rw[f] at g
       rw[if_pos O] at g
       have H:=g
       refine bH run_move O ?_
       obtain⟨l,q,H⟩:=bnd H
       refine bu (r:=(iv l)) (wg O O O) O Tryz.call118 (aj O (aj O aG)) (fun W hW=>vX (⟨#[95,43,45,35]⟩) b l q (HF.start _)) (Tr.e2 aR O O (ay aW O O ?_))
       obtain rfl:=oI H
       exact ae (aS (.r O) .nil)
     ·show Tr _ _ (LF [(0,sv p0),(6,iv (p0.size:Int)),(7,iv c),(39,bV j)]) (LE []) _
      refine ae (aa (aT O H (fun H=>?_) (fun H=>?_)))
      ·refine ai (Tr.k O (ae (aa (aO (bq (aD (aD (bq (aD ?_)))))))))
       obtain rfl:=oI H
       exact cB leB
      ·exact aJ (aK (aa (Tr.region (ay bB O O (ax O (ae (aI i (bJ (c+1)) H (.r O) .nil)))))))
 ·refine bK (aA (aA (aP (aa (ai (ax O (aH (zo KJ) O (ay oh O O (ax O (bP 4 [(48,bV ((decide (1≤(p0.size:Int)))&&(decide ((p0.size:Int)≤40))))] [] ?_ ?_))))))))))
  ·cases f:(decide (1≤(p0.size:Int)))
   ·exact Tr.ps O (Tr.ps O (Tr.ps O (ay aZ O O (ae (aS (.r O) .nil)))))
   ·exact bH run_move O (bH (zo KJ) O (Tr.e2 jY O O (ay aW O O (ae (aS (.r O) .nil)))))
  ·show Tr _ _ (LF [(48,bV ((decide (1≤(p0.size:Int)))&&(decide ((p0.size:Int)≤40))))]) (LE []) _
   refine Tr.k O (ae (aa (aO ?_)))
   obtain rfl:=oI H
   exact cB leB

theorem yS{w:Bs}(hT:Dx Tryz.prog w)(p0:ByteArray)(p1:ByteArray)(r:(List ByteArray))(H:Ac p0 p1=some r)(hE:HF w w.W (iZ [emp])):Calls Tryz.prog 108 [sv p0,sv p1].toArray w.W fun e W'=>∃u:(Option Addr×Nat),e= .returned (sL u.1 r u.2)∧(cO u.1 r.length u.2)∧HF w W' (iZ [ow u.1 u.2 9 mD r]):=
 Fq (ρ:=Tryz.zl) Tryz.BS hT Tryz.BS.g1 (t:=mD) O vT () G5 (by kernel_rfl) H hE

theorem sj{w:Bs}(p0:(List ByteArray))(g:Option Addr)(i:Nat)(f:Sl w.R w.W mD g i p0)(p1:ByteArray→Option Bool)(fid1:Nat)(j:List Value)(hg1:∀args W,(callFunc fid1 args).run Tryz.prog W= .ok (.enter fid1 args) W)(hf1:∀(w':Bs),w.Ext w'→∀(z0:ByteArray),∀y,p1 z0=some y→Calls Tryz.prog fid1 (([sv z0]:List Value)++j).toArray w'.W fun e W''=>e= .returned (bV y)∧HF w' W'' E0)(r:Int)(H:jC p0 p1=some r)(hE:HF w w.W E0):Calls Tryz.prog 61 [sL g p0 i,.func (.func fid1) #[] j.toArray].toArray w.W fun e W'=>e= .returned (iv r)∧HF w W' E0:=by
 unfold jC at H
 have leB:=Bs.Le.refl w
 refine aV (n:=19) Tryz.func61 O O O hE (ai (Tr.k O (ae (aa (av (ai (ax O (aH (bf KO) O (ax O (ae (aa (Tr.block (bO (σ:=(List ByteArray)×Nat) (fun m w s=>m=s.1.length+1∧s.1=List.drop s.2 p0∧s.2≤p0.length∧gz p1 s.1 s.2=some r) (fun s=>[(0,sL g p0 i),(1,.func (.func fid1) #[] j.toArray),(7,iv (p0.length:Int)),(8,iv (s.2:Int))]) (fun s=>[]) (p0.length+1) (p0,0) ⟨O,O,Nat.zero_le _,H⟩ (.r O) .nil (fun _ _ h=>absurd h.1 (by simp)) ?_)))))))))))))
 intro w l m s hs
 obtain⟨b,p⟩:=s
 obtain⟨o,c,v,H⟩:=hs
 replace c:b=List.drop p p0:=c
 replace H:gz p1 b p=some r:=H
 replace o:m+1=b.length+1:=o
 replace f:=f.kL l
 replace hf1:=fun w' he=>hf1 w' (l.ext.trans he)
 replace leB:=leB.trans l
 obtain rfl:m=b.length:=by omega
 clear o
 dsimp only
 cases b with
 |nil=>
  rw[gz.eq_1] at H
  refine ai (ay aR O O (ae (aa (av (bX O (bN c) (bK (aA (aA (aP (aa (ai (Tr.k O (ae (aa (aO ?_)))))))))))))))
  obtain rfl:=oI H
  exact cB leB
 | cons u b=>
  rw[gz.eq_2] at H
  refine ai (ay aR O O (ae (aa (av (bY O (cu c) (aJ (aa (av (Tr.block (ai (ax O (Tr.k O (ae (aa (ai (ax O (ax O (ax O (aC O (fun _ _ a d=>ak Ee (a.ev O) f.form (a.ev O) (Int.natCast_nonneg _) (aX c)) (aC O (fun _ _ a d=>ah zP (a.ev O) (rP vT f (dI c) d) O) ?_))))))))))))))))))))
  obtain⟨t,q,H⟩:=bnd H
  refine xA (r:=(bV t)) (wn O) O O hg1 (aj O aG) (fun W hW=>hf1 hW.all hW.bU u _ q) (ae (aa (aT O H (fun H=>?_) (fun H=>?_))))
  ·refine ai (ax O (Tr.k O (ae (aa (aO (bq (aD (aD (bq (aD ?_))))))))))
   obtain rfl:=oI H
   exact cB leB
  ·exact aJ (aK (aa (Tr.region (ay bB O O (ax O (ae (aI l (b,(p+1)) ⟨O,bT c,aX c,H⟩ (.cons O (.cons O (.cons O (.cons (congrArg (fun z=>some (Value.int .i64 z)) (bS c f.form)) .nil)))) .nil)))))))

theorem ni{w:Bs}(p0:(List ByteArray))(a:Option Addr)(b:Nat)(f:Sl w.R w.W mD a b p0)(p1:ByteArray→Option Bool)(fid1:Nat)(c:List Value)(hg1:∀args W,(callFunc fid1 args).run Tryz.prog W= .ok (.enter fid1 args) W)(hf1:∀(w':Bs),w.Ext w'→∀(z0:ByteArray),∀y,p1 z0=some y→Calls Tryz.prog fid1 (([sv z0]:List Value)++c).toArray w'.W fun e W''=>e= .returned (bV y)∧HF w' W'' E0)(r:Bool)(H:fA p0 p1=some r)(hE:HF w w.W E0):Calls Tryz.prog 26 [sL a p0 b,.func (.func fid1) #[] c.toArray].toArray w.W fun e W'=>e= .returned (bV r)∧HF w W' E0:=by
 unfold fA at H
 have leB:=Bs.Le.refl w
 refine aV (n:=9) Tryz.func26 O O O hE (ai (Tr.k O (ae (aa (ai (ax O (ax O ?_)))))))
 obtain⟨d,g,H⟩:=bnd H
 refine bu (r:=(iv d)) (wn O) O Tryz.call61 (aj O (aj O aG)) (fun W hW=>sj p0 a b (f.ext hW.bU) p1 fid1 c hg1 (fun w' he=>hf1 w' (hW.bU.trans he)) d g (HF.start _)) (ay oh O O (Tr.k O (ae (aa (aO ?_)))))
 obtain rfl:=oI H
 exact cB leB

theorem wU(N:Nat){w:Bs}(p0:ByteArray)(r:Bool)(H:jO N p0=some r)(hE:HF w w.W E0):Calls Tryz.prog 109 [sv p0].toArray w.W fun e W'=>e= .returned (bV r)∧HF w W' E0:=by
 unfold jO at H
 have leB:=Bs.Le.refl w
 refine aV (n:=6) Tryz.func109 O O O hE (ai (Tr.k O (ae (aa (ai (ax O ?_))))))
 obtain⟨a,b,H⟩:=bnd H
 refine bu (r:=(bV a)) (wn O) O Tryz.call77 (aj O aG) (fun W hW=>sG N p0 a b (HF.start _)) (aH iQ O (Tr.k O (ae (aa (aO ?_)))))
 obtain rfl:=oI H
 exact cB leB

theorem sH(N:Nat){w:Bs}(hT:Dx Tryz.prog w)(p0:ByteArray)(r:Bool)(H:lQ N p0=some r)(hE:HF w w.W E0):Calls Tryz.prog 62 [sv p0].toArray w.W fun e W'=>e= .returned (bV r)∧HF w W' E0:=by
 unfold lQ at H
 have leB:=Bs.Le.refl w
 refine aV (n:=12) Tryz.func62 O O O hE (ai (Tr.k O (ae (aa (ai (ax O (aH (zo KJ) O (ay jY O O (ax O ?_)))))))))
 cases d:(decide ((p0.size:Int)≤200))
 ·rw[d,if_neg (by decide)] at H
  refine Tr.ps O (Tr.ps O (Tr.ps O (Tr.ps O (ay aZ O O (Tr.k O (ae (aa (aO ?_))))))))
  obtain rfl:=oI H
  exact cB leB
 ·rw[d,if_pos O] at H
  refine bH run_move O ?_
  obtain⟨a,h,H⟩:=bnd H
  refine gG [2] [emp] (U:=(Option Addr×Nat)) (fun u=>(sL u.1 a u.2)) (fun u=>cO u.1 a.length u.2) (fun u=>[ow u.1 u.2 9 mD a]) O (aN O bg) (fun _=>O) (wg O O O) O Tryz.call108 (aj O (aj O aG)) (fun W hW hp hE=>yS (hT.ext (hW.dU hp)) p0 (⟨#[47]⟩) a h hE) ?_
  intro u hu
  obtain⟨b,c⟩:=u
  have f:=hu
  have j:cO b a.length c:=f --@phi
  dsimp only
  obtain⟨g,i,H⟩:=bnd H
  refine bu (r:=(bV g)) (wg O O O) O Tryz.call26 (aj O (aj O aG)) (fun W hW=>ni a b c (hW.oD (k:=2) O) (fun z0=>jO N z0) 109 [] Tryz.call109 (fun w' he z0 y hy=>wU N z0 y hy (HF.start _)) g i (HF.start _)) (bH iQ O (ay aW O O (Tr.k O (ae (aa (aO ?_))))))
  obtain rfl:=oI H
  exact cB leB

theorem vz{w:Bs}(p0:(List kw))(b:Option Addr)(c:Nat)(l:Sl w.R w.W iW b c p0)(r:Int)(H:oO p0=some r)(hE:HF w w.W E0):Calls Tryz.prog 59 [sL b p0 c].toArray w.W fun e W'=>e= .returned (iv r)∧HF w W' E0:=by
 unfold oO at H
 have leB:=Bs.Le.refl w
 refine aV (n:=93) Tryz.func59 O O O hE (ai (Tr.k O (ae (aa (av (ai (ax O (aH (bf KR) O (ay iG O O (ae (aa (aT O H (fun H=>?_) (fun H=>?_)))))))))))))
 ·refine ai (Tr.k O (ae (aa (aO (aD ?_)))))
  obtain rfl:=oI H
  exact cB leB
 ·refine aJ (aa (ai (GG encS SG 1 (wn O) O fun d=>(Tr.k O (ae (aa (av (ai (ax O (aH (bf KR) O (ax O (ae (aa (Tr.block (bO (σ:=(List kw)×Nat) (fun m w s=>m=s.1.length+1∧s.1=List.drop s.2 p0∧s.2≤p0.length∧jQ s.1 s.2=some r) (fun s=>[(0,sL b p0 c),(3,(.map (some d))),(14,sL b p0 c),(15,iv (p0.length:Int)),(16,iv (s.2:Int))]) (fun s=>[(1,RU encS SG d ([]:List (ByteArray)))]) (p0.length+1) (p0,0) ⟨O,O,Nat.zero_le _,H⟩ (.r O) (.r O) (fun _ _ h=>absurd h.1 (by simp)) ?_)))))))))))))))
  intro w j m s hs
  obtain⟨a,i⟩:=s
  obtain⟨g,f,o,H⟩:=hs
  replace f:a=List.drop i p0:=f
  replace H:jQ a i=some r:=H
  replace g:m+1=a.length+1:=g
  replace leB:=leB.trans j
  obtain rfl:m=a.length:=by omega
  clear g
  dsimp only
  cases a with
  |nil=>
   rw[jQ.eq_1] at H
   refine ai (ay aR O O (ae (aa (av (bX O (bN f) (bK (aA (aA (aP (aa (ai (Tr.k O (ae (aa (aO ?_)))))))))))))))
   obtain rfl:=oI H
   exact cB leB
  |cons p a=>
   rw[jQ.eq_2] at H
   refine ai (ay aR O O (ae (aa (av (bY O (cu f) (aJ (aa (av (Tr.block (av ?_))))))))))
   cases H

theorem uw{w:Bs}(p0:Int)(p1:Int)(p2:Int)(r:Bool)(H:lX p0 p1 p2=some r)(hE:HF w w.W E0):Calls Tryz.prog 46 [iv p0,iv p1,iv p2].toArray w.W fun e W'=>e= .returned (bV r)∧HF w W' E0:=by
 unfold lX at H
 have leB:=Bs.Le.refl w
 refine aV (n:=15) Tryz.func46 O O O hE (ai (Tr.k O (ae (aa (ai (ax O (ax O (ay oh O O (ax O (bP 4 [(14,bV ((decide (p1≤p0))&&(decide (p0≤p2))))] [] ?_ ?_))))))))))
 ·cases a:(decide (p1≤p0))
  ·exact Tr.ps O (Tr.ps O (Tr.ps O (ay aZ O O (ae (aS (.r O) .nil)))))
  ·exact bH run_move O (bH run_move O (Tr.e2 jY O O (ay aW O O (ae (aS (.r O) .nil)))))
 ·show Tr _ _ (LF [(14,bV ((decide (p1≤p0))&&(decide (p0≤p2))))]) (LE []) _
  refine Tr.k O (ae (aa (aO ?_)))
  obtain rfl:=oI H
  exact cB leB

theorem mK{w:Bs}(p0:Int)(r:Bool)(H:kT p0=some r)(hE:HF w w.W E0):Calls Tryz.prog 119 [iv p0].toArray w.W fun e W'=>e= .returned (bV r)∧HF w W' E0:=by
 unfold kT at H
 have leB:=Bs.Le.refl w
 refine aV (n:=5) Tryz.func119 O O O hE (ai (Tr.k O (ae (aa (ai (ax O ?_))))))
 obtain⟨a,b,H⟩:=bnd H
 refine bu (r:=(bV a)) (wn O) O Tryz.call46 (aj O (aj O (aj O aG))) (fun W hW=>uw p0 (-1000000) 1000000 a b (HF.start _)) (Tr.k O (ae (aa (aO ?_))))
 obtain rfl:=oI H
 exact cB leB

theorem uy{w:Bs}(p0:au)(r:Bool)(H:nE p0=some r)(hE:HF w w.W E0):Calls Tryz.prog 103 [.agg #[iv p0.X0,iv p0.Y0,iv p0.X1,iv p0.Y1]].toArray w.W fun e W'=>e= .returned (bV r)∧HF w W' E0:=by
 unfold nE at H
 have leB:=Bs.Le.refl w
 refine aV (n:=21) Tryz.func103 O O O hE (ai (fw 1 (cs:=[iv p0.X0,iv p0.Y0,iv p0.X1,iv p0.Y1]) (wn O) O O O fun c=>(Tr.k O (ae (aa (ai (aH (ag jd) O (aC O (fun _ _ a d=>ah bG (a.ev O) (bR d (vs:=[iv p0.X0,iv p0.Y0,iv p0.X1,iv p0.Y1]) (k:=1) O 0) O) ?_))))))))
 obtain⟨i,t,H⟩:=bnd H
 refine bu (r:=(bV i)) (wn O) O Tryz.call119 (aj O aG) (fun W hW=>mK p0.X0 i t (HF.start _)) (ax O ?_)
 obtain⟨j,f,H⟩:=bnd H
 refine bP 4 [(1,pV c),(10,bV j)] [(1,bx c #[iv p0.X0,iv p0.Y0,iv p0.X1,iv p0.Y1] 111)] ?_ ?_
 ·cases b:i
  ·rw[b] at f
   rw[if_neg (by decide)] at f
   have H:=f
   obtain rfl:=oI H
   exact Tr.ps O (Tr.ps O (Tr.ps O (ay aZ O O (ae (aS (.r O) (.r O))))))
  ·rw[b] at f
   rw[if_pos O] at f
   have H:=f
   refine bH (ag jK) O (Tr.x (fun _ _ a d=>ah bG (a.ev O) (bR d (vs:=[iv p0.X0,iv p0.Y0,iv p0.X1,iv p0.Y1]) (k:=1) O 1) O) ?_)
   obtain⟨o,u,H⟩:=bnd H
   refine bu (r:=(bV o)) (wg O O O) O Tryz.call119 (aj O aG) (fun W hW=>mK p0.Y0 o u (HF.start _)) (ay aW O O ?_)
   obtain rfl:=oI H
   exact ae (aS (.r O) (.r O))
 ·show Tr _ _ (LF [(1,pV c),(10,bV j)]) (LE [(1,bx c #[iv p0.X0,iv p0.Y0,iv p0.X1,iv p0.Y1] 111)]) _
  refine ax O ?_
  obtain⟨l,g,H⟩:=bnd H
  refine bP 4 [(1,pV c),(15,bV l)] [(1,bx c #[iv p0.X0,iv p0.Y0,iv p0.X1,iv p0.Y1] 111)] ?_ ?_
  ·cases b:j
   ·rw[b] at g
    rw[if_neg (by decide)] at g
    have H:=g
    obtain rfl:=oI H
    exact Tr.ps O (Tr.ps O (Tr.ps O (ay aZ O O (ae (aS (.r O) (.r O))))))
   ·rw[b] at g
    rw[if_pos O] at g
    have H:=g
    refine bH (ag jZ) O (Tr.x (fun _ _ a d=>ah bG (a.ev O) (bR d (vs:=[iv p0.X0,iv p0.Y0,iv p0.X1,iv p0.Y1]) (k:=1) O 2) O) ?_)
    obtain⟨p,v,H⟩:=bnd H
    refine bu (r:=(bV p)) (wg O O O) O Tryz.call119 (aj O aG) (fun W hW=>mK p0.X1 p v (HF.start _)) (ay aW O O ?_)
    obtain rfl:=oI H
    exact ae (aS (.r O) (.r O))
  ·show Tr _ _ (LF [(1,pV c),(15,bV l)]) (LE [(1,bx c #[iv p0.X0,iv p0.Y0,iv p0.X1,iv p0.Y1] 111)]) _
   refine ax O ?_
   obtain⟨q,h,H⟩:=bnd H
   refine bP 4 [(20,bV q)] [(1,bx c #[iv p0.X0,iv p0.Y0,iv p0.X1,iv p0.Y1] 111)] ?_ ?_
   ·cases b:l
    ·rw[b] at h
     rw[if_neg (by decide)] at h
     have H:=h
     obtain rfl:=oI H
     exact Tr.ps O (Tr.ps O (Tr.ps O (ay aZ O O (ae (aS (.r O) (.r O))))))
    ·rw[b] at h
     rw[if_pos O] at h
     have H:=h
     refine bH (ag nA) O (Tr.x (fun _ _ a d=>ah bG (a.ev O) (bR d (vs:=[iv p0.X0,iv p0.Y0,iv p0.X1,iv p0.Y1]) (k:=1) O 3) O) ?_)
     obtain⟨s,y,H⟩:=bnd H
     refine bu (r:=(bV s)) (wg O O O) O Tryz.call119 (aj O aG) (fun W hW=>mK p0.Y1 s y (HF.start _)) (ay aW O O ?_)
     obtain rfl:=oI H
     exact ae (aS (.r O) (.r O))
   ·show Tr _ _ (LF [(20,bV q)]) (LE [(1,bx c #[iv p0.X0,iv p0.Y0,iv p0.X1,iv p0.Y1] 111)]) _
    refine Tr.k O (ae (aa (aO ?_)))
    obtain rfl:=oI H
    exact cB leB

theorem wR{w:Bs}(p0:(List au))(g:Option Addr)(i:Nat)(j:Sl w.R w.W aB g i p0)(r:Int)(H:lZ p0=some r)(hE:HF w w.W E0):Calls Tryz.prog 74 [sL g p0 i].toArray w.W fun e W'=>e= .returned (iv r)∧HF w W' E0:=by
 unfold lZ at H
 have leB:=Bs.Le.refl w
 refine aV (n:=30) Tryz.func74 O O O hE (ai (Tr.k O (ae (aa (av (ai (ax O (aH (bf lS) O (ay iG O O (ae (aa (aT O H (fun H=>?_) (fun H=>?_)))))))))))))
 ·refine ai (Tr.k O (ae (aa (aO (aD ?_)))))
  obtain rfl:=oI H
  exact cB leB
 ·refine aJ (aa (av (ai (ax O (aH (bf lS) O (ax O (ae (aa (Tr.block (bO (σ:=(List au)×Nat) (fun m w s=>m=s.1.length+1∧s.1=List.drop s.2 p0∧s.2≤p0.length∧fT s.1 s.2=some r) (fun s=>[(8,sL g p0 i),(9,iv (p0.length:Int)),(10,iv (s.2:Int))]) (fun s=>[]) (p0.length+1) (p0,0) ⟨O,O,Nat.zero_le _,H⟩ (.r O) .nil (fun _ _ h=>absurd h.1 (by simp)) ?_))))))))))
  intro w o m s hs
  obtain⟨c,l⟩:=s
  obtain⟨p,f,y,H⟩:=hs
  replace f:c=List.drop l p0:=f
  replace H:fT c l=some r:=H
  replace p:m+1=c.length+1:=p
  replace j:=j.kL o
  replace leB:=leB.trans o
  obtain rfl:m=c.length:=by omega
  clear p
  dsimp only
  cases c with
  |nil=>
   rw[fT.eq_1] at H
   refine ai (ay aR O O (ae (aa (av (bX O (bN f) (bK (aA (aA (aP (aa (ai (Tr.k O (ae (aa (aO ?_)))))))))))))))
   obtain rfl:=oI H
   exact cB leB
  | cons b c=>
   rw[fT.eq_2] at H
   refine ai (ay aR O O (ae (aa (av (bY O (cu f) (aJ (aa (av (Tr.block (ai (aC O (fun _ _ a d=>ak mP (a.ev O) j.form (a.ev O) (Int.natCast_nonneg _) (aX f)) (aC O (fun _ _ a d=>aM (cs:=[iv b.X0,iv b.Y0,iv b.X1,iv b.Y1]) gV dh (a.ev O) (aF.take (rP gm j (dI f) d) 4) O) (Tr.alloc 2 (wn O) O lK fun q=>(bF 2 (cs:=[iv b.X0,iv b.Y0,iv b.X1,iv b.Y1]) [iv b.X0,iv b.Y0,iv b.X1,iv b.Y1] (wn O) O O O O dh O O O (ae (aa (av (ai (aC O (fun _ _ a d=>aM (cs:=[iv b.X0,iv b.Y0,iv b.X1,iv b.Y1]) gV dh (a.ev O) (aF.take (bR d (vs:=[iv b.X0,iv b.Y0,iv b.X1,iv b.Y1]) (k:=2) O 0) 4) O) ?_)))))))))))))))))))
   obtain⟨t,u,H⟩:=bnd H
   refine bu (r:=(bV t)) (wn O) O Tryz.call103 (aj O aG) (fun W hW=>uy b t u (HF.start _)) (aH iQ O (ae (aa (aT O H (fun H=>?_) (fun H=>?_)))))
   ·refine ai (Tr.k O (ae (aa (aO (aD (bq (aD (aD (bq (aD ?_))))))))))
    obtain rfl:=oI H
    exact cB leB
   ·refine aJ (aa (ai (aH (ag jZ) O (aC O (fun _ _ a d=>ah bG (a.ev O) (bR d (vs:=[iv b.X0,iv b.Y0,iv b.X1,iv b.Y1]) (k:=2) O 2) O) (aH (ag jd) O (aC O (fun _ _ a d=>ah bG (a.ev O) (bR d (vs:=[iv b.X0,iv b.Y0,iv b.X1,iv b.Y1]) (k:=2) O 0) O) (ay jY O O (ax O (bP 6 [(8,sL g p0 i),(9,iv (p0.length:Int)),(10,iv (l:Int)),(28,bV ((decide (b.X1≤b.X0))||(decide (b.Y1≤b.Y0))))] [(2,bx q #[iv b.X0,iv b.Y0,iv b.X1,iv b.Y1] 111)] ?_ ?_)))))))))
    ·cases v:(decide (b.X1≤b.X0))
     ·exact bH (ag nA) O (Tr.x (fun _ _ a d=>ah bG (a.ev O) (bR d (vs:=[iv b.X0,iv b.Y0,iv b.X1,iv b.Y1]) (k:=2) O 3) O) (bH (ag jK) O (Tr.x (fun _ _ a d=>ah bG (a.ev O) (bR d (vs:=[iv b.X0,iv b.Y0,iv b.X1,iv b.Y1]) (k:=2) O 1) O) (Tr.e2 jY O O (ay aZ O O (ae (aS (.r O) (.r O))))))))
     ·exact Tr.ps O (Tr.ps O (Tr.ps O (Tr.ps O (Tr.ps O (ay aW O O (ae (aS (.r O) (.r O))))))))
    ·show Tr _ _ (LF [(8,sL g p0 i),(9,iv (p0.length:Int)),(10,iv (l:Int)),(28,bV ((decide (b.X1≤b.X0))||(decide (b.Y1≤b.Y0))))]) (LE [(2,bx q #[iv b.X0,iv b.Y0,iv b.X1,iv b.Y1] 111)]) _
     refine ae (aa (aT O H (fun H=>?_) (fun H=>?_)))
     ·refine ai (Tr.k O (ae (aa (aO (bq (aD (aD (bq (aD ?_)))))))))
      obtain rfl:=oI H
      exact cB leB
     ·exact aJ (aK (aa (Tr.region (ay bB O O (ax O (ae (aI o (c,(l+1)) ⟨O,bT f,aX f,H⟩ (.cons O (.cons O (.cons (congrArg (fun z=>some (Value.int .i64 z)) (bS f j.form)) .nil))) .nil)))))))

theorem vZ{w:Bs}(p0:(List au))(a:Option Addr)(b:Nat)(c:Sl w.R w.W aB a b p0)(r:(List au))(H:ny p0=some r)(hE:HF w w.W (iZ [emp])):Calls Tryz.prog 93 [sL a p0 b].toArray w.W fun e W'=>∃u:(Option Addr×Nat),e= .returned (sL u.1 r u.2)∧(cO u.1 r.length u.2)∧HF w W' (iZ [ow u.1 u.2 111 aB r]):=by
 unfold ny at H
 have leB:=Bs.Le.refl w
 refine aV (n:=8) Tryz.func93 O O O hE (ai (Tr.k O (bC 1 111 aB ?_)))
 show Tr _ _ (uf _ 2 (sL none (([]:List au)) 0)) _ _
 refine ae (aa (av (ai (ax O (ay (Hg lS) O O (ae (aa ?_)))))))
 cases a with
 |none=>
  have hl0:=K4 c.form
  replace H:(some ([]:List au))=some r:=by simpa[vD,hl0] using H
  refine bY O O (ai (Tr.k O (bC 2 111 aB ?_)))
  show Tr _ _ (uf _ 2 (sL none (([]:List au)) 0)) _ _
  refine ae (aa (aO (aD ?_)))
  obtain rfl:=oI H
  exact bL (m:=[sL none (([]:List au)) 0]) [] (aU O bD) (fun W hW=>⟨(none,0),O,gZ,HF.ry leB (hW.pick (ks:=[2]) (by decide) (aN O bg)) ⟨kM _ _ _ _ jb,trivial⟩⟩)
 |some j=>
  refine bX O O (aJ (aa (ai (eD 3 (e:=111) (vs:=[]) (cs:=[]) (wn O) O dE (by kernel_rfl) fun o=>(ax O (Tr.own 3 aB ([]:List au) (css:=[]) O .nil O (by decide) (xU O) ?_))))))
  obtain⟨i,h,H⟩:=bnd H
  refine Iq 3 (t:=aB) (l:=([]:List au)) (l2:=p0) (wn O) O O O O (Td jb (fun W hW=>(Sl.zZ c hW))) lS dh BJ (by decide) CS O h fun d f g=>(Tr.k O (ae (aa (aO ?_))))
  obtain rfl:=oI H
  exact bL (m:=[sL d i f]) [] (aU O bD) (fun W hW=>⟨(d,f),O,g,HF.ry leB (hW.pick (ks:=[3]) (by decide) (aN O bg)) ⟨kM _ _ _ _ jb,trivial⟩⟩)

theorem oK{w:Bs}(p0:List au)(a:Option Addr)(b:Nat)(p1:au→au→Option Int)(fid1:Nat)(c:List Value)(hg1:∀args W,(callFunc fid1 args).run Tryz.prog W= .ok (.enter fid1 args) W)(hf1:∀(w':Bs),w.Ext w'→∀(z0:au) (z1:au),∀y,p1 z0 z1=some y→Calls Tryz.prog fid1 (([.agg #[iv z0.X0,iv z0.Y0,iv z0.X1,iv z0.Y1],.agg #[iv z1.X0,iv z1.Y0,iv z1.X1,iv z1.Y1]]:List Value)++c).toArray w'.W fun e W''=>e= .returned (iv y)∧HF w' W'' E0)(r:List au)(H:Dn p0 p1=some r)(hE:HF w w.W (iZ [ow a b 111 aB p0])):Calls Tryz.prog 94 [sL a p0 b,.func (.func fid1) #[] c.toArray].toArray w.W fun e W'=>∃u:Unit,e= .returned (.tuple #[])∧(r.length=p0.length)∧HF w W' (iZ [ow a b 111 aB r]):=
 Dp (ρ:=Tryz.DJ) Tryz.QS (fun _=>xO gV) (fun _=>run_sizeOf dh) gm jb () hg1 hf1 H hE

theorem yU{w:Bs}(p0:au)(p1:au)(r:Int)(H:mI p0 p1=some r)(hE:HF w w.W E0):Calls Tryz.prog 95 [.agg #[iv p0.X0,iv p0.Y0,iv p0.X1,iv p0.Y1],.agg #[iv p1.X0,iv p1.Y0,iv p1.X1,iv p1.Y1]].toArray w.W fun e W'=>e= .returned (iv r)∧HF w W' E0:=by
 unfold mI at H
 have leB:=Bs.Le.refl w
 refine aV (n:=10) Tryz.func95 O O O hE (ai (fw 1 (cs:=[iv p0.X0,iv p0.Y0,iv p0.X1,iv p0.Y1]) (wn O) O O O fun b=>(fw 2 (cs:=[iv p1.X0,iv p1.Y0,iv p1.X1,iv p1.Y1]) (wn O) O O O fun c=>(Tr.k O (ae (aa (ai (aH (ag jK) O (aC O (fun _ _ a d=>ah bG (a.ev O) (bR d (vs:=[iv p0.X0,iv p0.Y0,iv p0.X1,iv p0.Y1]) (k:=1) O 1) O) (aH (ag jK) O (aC O (fun _ _ a d=>ah bG (a.ev O) (bR d (vs:=[iv p1.X0,iv p1.Y0,iv p1.X1,iv p1.Y1]) (k:=2) O 1) O) (ay iP O O (Tr.k O (ae (aa (aO ?_))))))))))))))))
 obtain rfl:=oI H
 exact cB leB

theorem xG{w:Bs}(p0:List Int)(a:Option Addr)(b:Nat)(r:List Int)(H:G7 p0=some r)(hE:HF w w.W (iZ [ow a b 3 az p0])):Calls Tryz.prog 96 [sL a p0 b].toArray w.W fun e W'=>∃u:Unit,e= .returned (.tuple #[])∧(r.length=p0.length)∧HF w W' (iZ [ow a b 3 az r]):=
 G9 (ρ:=Tryz.BU) Tryz.PM O iH ql () H hE

theorem vv{w:Bs}(p0:List Int)(a:Option Addr)(b:Nat)(r:List Int)(H:Re p0=some r)(hE:HF w w.W (iZ [ow a b 3 az p0])):Calls Tryz.prog 97 [sL a p0 b].toArray w.W fun e W'=>∃u:(Option Addr×Nat),e= .returned (sL u.1 r u.2)∧(cO u.1 r.length u.2)∧HF w W' (iZ [ow u.1 u.2 3 az r]):=
 Dt (ρ:=Tryz.CR) Tryz.Qd O iH ql () H hE

theorem yT{w:Bs}(p0:au)(q0:(List Int))(Aq0_0:Option Addr)(cq0_0:Nat)(O7:Sl w.R w.W az Aq0_0 cq0_0 q0)(CU:Nat)(hb0:w.R CU)(hc0:aF w.W CU 0 [sL Aq0_0 q0 cq0_0])(q1:Int)(Sw:Nat)(hb1:w.R Sw)(hc1:aF w.W Sw 0 [iv q1])(r:Bool)(H:mH p0 q0 q1=some r)(hE:HF w w.W E0):Calls Tryz.prog 99 [.agg #[iv p0.X0,iv p0.Y0,iv p0.X1,iv p0.Y1],pV CU,pV Sw].toArray w.W fun e W'=>e= .returned (bV r)∧HF w W' E0:=by
 unfold mH at H
 have leB:=Bs.Le.refl w
 refine aV (n:=12) Tryz.func99 O O O hE (ai (fw 1 (cs:=[iv p0.X0,iv p0.Y0,iv p0.X1,iv p0.Y1]) (wn O) O O O fun h=>(Tr.k O (ae (aa (av (ji (by kernel_rfl) (by kernel_rfl) (dA (ag nA) O (bv O (fun _ _ a d=>ah bG (a.ev O) (bR d (vs:=[iv p0.X0,iv p0.Y0,iv p0.X1,iv p0.Y1]) (k:=1) O 3) O) (bv O (fun _ _ a d=>ah gU (a.ev O) (qY hb0 hc0 d) O) (bv O (fun _ _ a d=>ah bG (a.ev O) (qY hb1 hc1 d) O) ?_)))))))))))
 obtain⟨i,g,H⟩:=bnd H
 obtain⟨b,c,f⟩:=bi g
 refine bv O (fun _ _ a d=>ak iX (a.ev O) O7.form (a.ev O) b c) (bv O (fun _ _ a d=>ah bG (a.ev O) (rP iH O7 f d) O) (iU jY O O (nD O O (jD (aa (aO ?_))))))
 obtain rfl:=oI H
 exact cB leB

theorem oL{w:Bs}(p0:(List au))(g:Option Addr)(i:Nat)(f:Sl w.R w.W aB g i p0)(p1:au→Option Bool)(fid1:Nat)(j:List Value)(hg1:∀args W,(callFunc fid1 args).run Tryz.prog W= .ok (.enter fid1 args) W)(hf1:∀(w':Bs),w.Ext w'→∀(z0:au),∀y,p1 z0=some y→Calls Tryz.prog fid1 (([.agg #[iv z0.X0,iv z0.Y0,iv z0.X1,iv z0.Y1]]:List Value)++j).toArray w'.W fun e W''=>e= .returned (bV y)∧HF w' W'' E0)(r:Int)(H:il p0 p1=some r)(hE:HF w w.W E0):Calls Tryz.prog 123 [sL g p0 i,.func (.func fid1) #[] j.toArray].toArray w.W fun e W'=>e= .returned (iv r)∧HF w W' E0:=by
 unfold il at H
 have leB:=Bs.Le.refl w
 refine aV (n:=19) Tryz.func123 O O O hE (ai (Tr.k O (ae (aa (av (ai (ax O (aH (bf lS) O (ax O (ae (aa (Tr.block (bO (σ:=(List au)×Nat) (fun m w s=>m=s.1.length+1∧s.1=List.drop s.2 p0∧s.2≤p0.length∧eX p1 s.1 s.2=some r) (fun s=>[(0,sL g p0 i),(1,.func (.func fid1) #[] j.toArray),(7,iv (p0.length:Int)),(8,iv (s.2:Int))]) (fun s=>[]) (p0.length+1) (p0,0) ⟨O,O,Nat.zero_le _,H⟩ (.r O) .nil (fun _ _ h=>absurd h.1 (by simp)) ?_)))))))))))))
 intro w l m s hs
 obtain⟨b,q⟩:=s
 obtain⟨p,c,v,H⟩:=hs
 replace c:b=List.drop q p0:=c
 replace H:eX p1 b q=some r:=H
 replace p:m+1=b.length+1:=p
 replace f:=f.kL l
 replace hf1:=fun w' he=>hf1 w' (l.ext.trans he)
 replace leB:=leB.trans l
 obtain rfl:m=b.length:=by omega
 clear p
 dsimp only
 cases b with
 |nil=>
  rw[eX.eq_1] at H
  refine ai (ay aR O O (ae (aa (av (bX O (bN c) (bK (aA (aA (aP (aa (ai (Tr.k O (ae (aa (aO ?_)))))))))))))))
  obtain rfl:=oI H
  exact cB leB
 | cons o b=>
  rw[eX.eq_2] at H
  refine ai (ay aR O O (ae (aa (av (bY O (cu c) (aJ (aa (av (Tr.block (ai (ax O (Tr.k O (ae (aa (ai (ax O (ax O (ax O (aC O (fun _ _ a d=>ak mP (a.ev O) f.form (a.ev O) (Int.natCast_nonneg _) (aX c)) (aC O (fun _ _ a d=>aM (cs:=[iv o.X0,iv o.Y0,iv o.X1,iv o.Y1]) gV dh (a.ev O) (aF.take (rP gm f (dI c) d) 4) O) ?_))))))))))))))))))))
  obtain⟨u,t,H⟩:=bnd H
  refine xA (r:=(bV u)) (wn O) O O hg1 (aj O aG) (fun W hW=>hf1 hW.all hW.bU o _ t) (ae (aa (aT O H (fun H=>?_) (fun H=>?_))))
  ·refine ai (ax O (Tr.k O (ae (aa (aO (bq (aD (aD (bq (aD ?_))))))))))
   obtain rfl:=oI H
   exact cB leB
  ·exact aJ (aK (aa (Tr.region (ay bB O O (ax O (ae (aI l (b,(q+1)) ⟨O,bT c,aX c,H⟩ (.cons O (.cons O (.cons O (.cons (congrArg (fun z=>some (Value.int .i64 z)) (bS c f.form)) .nil)))) .nil)))))))

theorem sO(N:Nat){w:Bs}(p0:(List au))(c:Option Addr)(f:Nat)(p1:au→Option Bool)(fid1:Nat)(v:List Value)(hg1:∀args W,(callFunc fid1 args).run Tryz.prog W= .ok (.enter fid1 args) W)(hf1:∀(w':Bs),w.Ext w'→∀(z0:au),∀y,p1 z0=some y→Calls Tryz.prog fid1 (([.agg #[iv z0.X0,iv z0.Y0,iv z0.X1,iv z0.Y1]]:List Value)++v).toArray w'.W fun e W''=>e= .returned (bV y)∧HF w' W'' E0)(r:(List au))(H:jL N p0 p1=some r)(hE:HF w w.W (iZ [ow c f 111 aB p0])):Calls Tryz.prog 98 [sL c p0 f,.func (.func fid1) #[] v.toArray].toArray w.W fun e W'=>∃u:(Option Addr×Nat),e= .returned (sL u.1 r u.2)∧(cO u.1 r.length u.2)∧HF w W' (iZ [ow u.1 u.2 111 aB r]):=by
 unfold jL at H
 have E:=(hE.sl (k:=0) O).form
 have leB:=Bs.Le.refl w
 refine aV (n:=42) Tryz.func98 O O O hE (ai (Tr.k O (bC 1 111 aB ?_)))
 show Tr _ _ (uf _ 4 (sL none (([]:List au)) 0)) _ _
 refine ae (aa (ai (ax O (ax O ?_))))
 obtain⟨F,X,H⟩:=bnd H
 refine bu (r:=(iv F)) (wn O) O Tryz.call123 (aj O (aj O aG)) (fun W hW=>oL p0 c f (hW.oD (k:=0) O) p1 fid1 v hg1 (fun w' he=>hf1 w' (hW.bU.trans he)) F X (HF.start _)) (Tr.k O (ae (aa (av (ai (ax O (ay iA O O (ae (aa (aT O H (fun H=>?_) (fun H=>?_)))))))))))
 ·refine ai (ax O (Tr.k O (ae (aa (aO (aD ?_))))))
  obtain rfl:=oI H
  exact bL (m:=[sL c p0 f]) [] (aU O bD) (fun W hW=>⟨(c,f),O,E,HF.ry leB (hW.pick (ks:=[0]) (by decide) (aN O bg)) ⟨kM _ _ _ _ jb,trivial⟩⟩)
 ·refine aJ (aa (av (ai (ax O (ay bB O O (Tr.k O (ae (aa (Tr.block (bO (σ:=(List au)×Int×Int) (fun m w s=>dQ p1 m s.1 s.2.1 s.2.2=some r∧s.1.length=p0.length) (fun s=>[(0,sL c s.1 f),(1,.func (.func fid1) #[] v.toArray),(5,iv s.2.1),(6,iv s.2.2)]) (fun s=>[(0,ow c f 111 aB s.1)]) N (p0,F,(bJ (F+1))) ⟨H,O⟩ (.r O) (.r O) (fun _ _ h=>mW (h.1)) ?_))))))))))
  intro w G a4 s hs
  obtain⟨g,j,o⟩:=s
  obtain⟨H,A⟩:=hs
  replace H:dQ p1 (a4+1) g j o=some r:=H
  replace hf1:=fun w' he=>hf1 w' (G.ext.trans he)
  replace leB:=leB.trans G
  replace A:g.length=p0.length:=A
  have z:cO c g.length f:=(by rw[A];exact E)
  rw[dQ.eq_2] at H
  dsimp only
  refine av (ai (ax O (ax O (aH (bf lS) O (ay aR O O (ae (aa (aT O H (fun H=>?_) (fun H=>?_)))))))))
  ·refine aJ (aa (av (Tr.block (ai (ax O (ax O ?_))))))
   obtain⟨b,Z,H⟩:=bnd H
   obtain⟨M,a7,P⟩:=bi Z
   refine aC O (fun _ _ a d=>ak mP (a.ev O) z (a.ev O) M a7) (aC O (fun _ _ a d=>aM (cs:=[iv b.X0,iv b.Y0,iv b.X1,iv b.Y1]) gV dh (a.ev O) (aF.take (zY gm (k:=0) d O P) 4) O) (Tr.alloc 4 (wn O) O lK fun Q=>(bF 4 (cs:=[iv b.X0,iv b.Y0,iv b.X1,iv b.Y1]) [iv b.X0,iv b.Y0,iv b.X1,iv b.Y1] (wn O) O O O O dh O O O (ae (aa (ai (ax O (aC O (fun _ _ a d=>aM (cs:=[iv b.X0,iv b.Y0,iv b.X1,iv b.Y1]) gV dh (a.ev O) (aF.take (bR d (vs:=[iv b.X0,iv b.Y0,iv b.X1,iv b.Y1]) (k:=4) O 0) 4) O) ?_))))))))
   obtain⟨K,a0,H⟩:=bnd H
   refine xA (r:=(bV K)) (wn O) O O hg1 (aj O aG) (fun W hW=>hf1 hW.all hW.bU b _ a0) (aH iQ O (ae (aa (aT O H (fun H=>?_) (fun H=>?_)))))
   ·refine ai (ax O (ax O (aC O (fun _ _ a d=>aM (cs:=[iv b.X0,iv b.Y0,iv b.X1,iv b.Y1]) gV dh (a.ev O) (aF.take (bR d (vs:=[iv b.X0,iv b.Y0,iv b.X1,iv b.Y1]) (k:=4) O 0) 4) O) ?_)))
    obtain⟨a6,a1,H⟩:=bnd H
    obtain⟨S,T,U⟩:=bi a1
    refine aC O (fun _ _ a d=>ak mP (a.ev O) z (a.ev O) S T) ?_
    obtain⟨B,L,H⟩:=bnd H
    have q:=lv L
    refine kg 0 (t:=aB) (l:=g) (i:=j) (fo:=0) (cs:=[iv b.X0,iv b.Y0,iv b.X1,iv b.Y1]) b (wn O) O O O O O U dh O (fun u _=>⟨u,trivial,O⟩) O L ?_
    have a5:cO c B.length f:=by rw[q];exact z
    have V:=q.trans A
    exact Tr.vC (lf:=[(0,sL c B f),(1,.func (.func fid1) #[] v.toArray),(5,iv j),(6,iv o),(7,pV Q),(16,iv o),(17,sL c B f),(18,iv (g.length:Int)),(19,bV (decide (o<(g.length:Int)))),(22,sL c B f),(23,iv o),(25,.agg #[iv b.X0,iv b.Y0,iv b.X1,iv b.Y1]),(26,.func (.func fid1) #[] v.toArray),(27,.agg #[iv b.X0,iv b.Y0,iv b.X1,iv b.Y1]),(28,bV K),(29,bV (!K)),(30,sL c B f),(31,iv j),(32,.agg #[iv b.X0,iv b.Y0,iv b.X1,iv b.Y1])]) (le:=[(0,ow c f 111 aB B),(4,bx Q #[iv b.X0,iv b.Y0,iv b.X1,iv b.Y1] 111)]) (.cons (jc O (by unfold sL;rw[q])) (.cons O (.cons O (.cons O (.cons O (.cons O (.cons (jc O (by unfold sL;rw[q])) (.cons O (.cons O (.cons (jc O (by unfold sL;rw[q])) (.cons O (.cons O (.cons O (.cons O (.cons O (.cons O (.cons (jc O (by unfold sL;rw[q])) (.r O)))))))))))))))))) (.r O) (ae (aa (Tr.region (ax O (ay bB O O (Tr.k O (ae (aK (aa (Tr.region (ax O (ay bB O O (Tr.k O (ae (aI G (B,(bJ (j+1)),(bJ (o+1))) ⟨H,V⟩ (.r O) (.r O))))))))))))))))
   ·exact aJ (aK (aa (Tr.region (ax O (ay bB O O (Tr.k O (ae (aI G (g,j,(bJ (o+1))) ⟨H,A⟩ (.r O) (.r O)))))))))
  ·refine bK (aA (aA (aP (aa (ai (ax O (ax O ?_)))))))
   obtain⟨C,I,H⟩:=bnd H
   refine aC O (fun _ _ a d=>xe mP (a.ev O) z (a.ev O) I) ?_
   have p:=Oq (au.mk 0 0 0 0) I
   refine GJ 0 (lo:=j) (t:=aB) (l:=g) (au.mk 0 0 0 0) (wn O) O I O lS lK ⟨(),jb _ _ _ _,gm _ _⟩ O O ?_
   have D:cO c ((MC g j C.length (au.mk 0 0 0 0))).length f:=by rw[p];exact z
   have a2:=p.trans A
   refine Tr.vC (lf:=[(0,sL c ((MC g j C.length (au.mk 0 0 0 0))) f),(1,.func (.func fid1) #[] v.toArray),(5,iv j),(6,iv o),(16,iv o),(17,sL c ((MC g j C.length (au.mk 0 0 0 0))) f),(18,iv (g.length:Int)),(19,bV (decide (o<(g.length:Int)))),(36,sL c ((MC g j C.length (au.mk 0 0 0 0))) f),(37,iv j)]) (le:=[(0,ow c f 111 aB (MC g j C.length (au.mk 0 0 0 0)))]) (.cons (jc O (by unfold sL;rw[p])) (.cons O (.cons O (.cons O (.cons O (.cons (jc O (by unfold sL;rw[p])) (.cons O (.cons O (.cons (jc O (by unfold sL;rw[p])) (.r O)))))))))) (.r O) (ae (aa (ai (ax O (ax O ?_)))))
   obtain⟨a3,J,H⟩:=bnd H
   refine aC O (fun _ _ a d=>IK mP (a.ev O) D (a.ev O) J) (Tr.k O (ae (aa (aO ?_))))
   obtain rfl:=oI H
   exact Io 0 J O (bL (m:=[sL c a3 f]) [] (aU O bD) (fun W hW=>⟨(c,f),O,(Ci D J),HF.ry leB (hW.pick (ks:=[0]) (by decide) (aN O bg)) ⟨kM _ _ _ _ jb,trivial⟩⟩))

theorem wh{w:Bs}(p0:au)(p1:au)(r:Int)(H:kz p0 p1=some r)(hE:HF w w.W E0):Calls Tryz.prog 129 [.agg #[iv p0.X0,iv p0.Y0,iv p0.X1,iv p0.Y1],.agg #[iv p1.X0,iv p1.Y0,iv p1.X1,iv p1.Y1]].toArray w.W fun e W'=>e= .returned (iv r)∧HF w W' E0:=by
 unfold kz at H
 have leB:=Bs.Le.refl w
 refine aV (n:=10) Tryz.func129 O O O hE (ai (fw 1 (cs:=[iv p0.X0,iv p0.Y0,iv p0.X1,iv p0.Y1]) (wn O) O O O fun b=>(fw 2 (cs:=[iv p1.X0,iv p1.Y0,iv p1.X1,iv p1.Y1]) (wn O) O O O fun c=>(Tr.k O (ae (aa (ai (aH (ag jd) O (aC O (fun _ _ a d=>ah bG (a.ev O) (bR d (vs:=[iv p0.X0,iv p0.Y0,iv p0.X1,iv p0.Y1]) (k:=1) O 0) O) (aH (ag jd) O (aC O (fun _ _ a d=>ah bG (a.ev O) (bR d (vs:=[iv p1.X0,iv p1.Y0,iv p1.X1,iv p1.Y1]) (k:=2) O 0) O) (ay iP O O (Tr.k O (ae (aa (aO ?_))))))))))))))))
 obtain rfl:=oI H
 exact cB leB

theorem xH{w:Bs}(p0:(List au))(f:Option Addr)(g:Nat)(r:((List Int)×(List au)))(H:mQ p0=some r)(hE:HF w w.W (iZ [ow f g 111 aB p0,emp])):Calls Tryz.prog 101 [sL f p0 g].toArray w.W fun e W'=>∃u:(Option Addr×Nat),e= .returned (sL u.1 r.1 u.2)∧(cO u.1 r.1.length u.2∧r.2.length=p0.length)∧HF w W' (iZ [ow f g 111 aB r.2,ow u.1 u.2 3 az r.1]):=by
 unfold mQ at H
 have Q:=(hE.sl (k:=0) O).form
 have leB:=Bs.Le.refl w
 refine aV (n:=48) Tryz.func101 O O O hE (ai (Tr.k O (bC 1 3 az ?_)))
 show Tr _ _ (uf _ 2 (sL none (([]:List Int)) 0)) _ _
 refine ae (aa (ai (ax O ?_)))
 obtain⟨c,a7,H⟩:=bnd H
 refine gG [0] [ow f g 111 aB p0] (U:=Unit) (fun u=>(.tuple #[])) (fun u=>c.length=p0.length) (fun u=>[ow f g 111 aB c]) O (aN O bg) (fun _=>O) (wn O) O Tryz.call94 (aj O (aj O aG)) (fun W hW hp hE=>oK p0 f g (fun z0 z1=>kz z0 z1) 129 [] Tryz.call129 (fun w' he z0 z1 y hy=>wh z0 z1 y hy (HF.start _)) c a7 hE) ?_
 intro u hu
 have L:=hu
 have A:c.length=p0.length:=L --@phi
 have C:cO f c.length g:=by rw[A];exact Q
 have K:=A.trans O
 show Tr _ _ (uf _ 8 (.tuple #[])) (up _ 0 (ow f g 111 aB c)) _
 refine Tr.vC (lf:=[(0,sL f c g),(2,sL none (([]:List Int)) 0),(7,sL f c g),(8,(.tuple #[]))]) (le:=[(0,ow f g 111 aB c),(1,ow none 0 3 az ([]:List Int))]) (.cons (jc O (by unfold sL;rw[A])) (.cons O (.cons (jc O (by unfold sL;rw[A])) (.r O)))) (.r O) (ae (aa (ai (Tr.k O (bC 2 3 az ?_)))))
 show Tr _ _ (uf _ 3 (sL none (([]:List Int)) 0)) _ _
 refine ae (aa (av (ai (ax O (aH (bf lS) O (ax O (ae (aa (Tr.block (bO (σ:=(List au)×Nat×(List Int)×(Option Addr)×Nat) (fun m w s=>m=s.1.length+1∧s.1=List.drop s.2.1 c∧s.2.1≤c.length∧fI c s.1 s.2.1 s.2.2.1=some r∧cO s.2.2.2.1 s.2.2.1.length s.2.2.2.2) (fun s=>[(3,sL s.2.2.2.1 s.2.2.1 s.2.2.2.2),(9,sL f c g),(10,iv (c.length:Int)),(11,iv (s.2.1:Int))]) (fun s=>[(0,ow f g 111 aB c),(2,ow s.2.2.2.1 s.2.2.2.2 3 az s.2.2.1)]) (c.length+1) (c,0,([]:List Int),none,0) ⟨O,O,Nat.zero_le _,H,gZ⟩ (.r O) (.r O) (fun _ _ h=>absurd h.1 (by simp)) ?_))))))))))
 intro w M m s hs
 obtain⟨q,G,p,j,o⟩:=s
 obtain⟨N,v,b5,H,B⟩:=hs
 replace v:q=List.drop G c:=v
 replace H:fI c q G p=some r:=H
 replace N:m+1=q.length+1:=N
 replace leB:=leB.trans M
 replace B:cO j p.length o:=B
 obtain rfl:m=q.length:=by omega
 clear N
 dsimp only
 cases q with
 |nil=>
  rw[fI.eq_1] at H
  refine ai (ay aR O O (ae (aa (av (bX O (bN v) (bK (aA (aA (aP (aa (ai (ax O (Tr.k O (ae (aa (aO ?_))))))))))))))))
  obtain rfl:=oI H
  exact bL (m:=[sL j p o]) [] (aU O bD) (fun W hW=>⟨(j,o),O,⟨B,K⟩,HF.ry leB (hW.pick (ks:=[0,2]) (by decide) (aN O (aN O bg))) ⟨kM _ _ _ _ jb,kM _ _ _ _ ql,trivial⟩⟩)
 | cons b q=>
  rw[fI.eq_2] at H
  refine ai (ay aR O O (ae (aa (av (bY O (cu v) (aJ (aa (av (Tr.block (ai (aC O (fun _ _ a d=>ak mP (a.ev O) C (a.ev O) (Int.natCast_nonneg _) (aX v)) (aC O (fun _ _ a d=>aM (cs:=[iv b.X0,iv b.Y0,iv b.X1,iv b.Y1]) gV dh (a.ev O) (aF.take (zY gm (k:=0) d O (dI v)) 4) O) (Tr.alloc 7 (wn O) O lK fun I=>(bF 7 (cs:=[iv b.X0,iv b.Y0,iv b.X1,iv b.Y1]) [iv b.X0,iv b.Y0,iv b.X1,iv b.Y1] (wn O) O O O O dh O O O (ae (aa (ai (ax O (aH (bf jN) O (ay iP O O (Tr.k O (ae (aa (av (ji (by kernel_rfl) (by kernel_rfl) (eY O (iU oh O O (eY O ?_))))))))))))))))))))))))))))
  obtain⟨S,D,H⟩:=bnd H
  refine qx 8 [(3,sL j p o),(5,pV I),(6,iv (bJ ((p.length:Int)-1))),(9,sL f c g),(10,iv (c.length:Int)),(11,iv (G:Int)),(28,bV S)] ?_ ?_
  ·cases a':(decide (0≤(bJ ((p.length:Int)-1))))
   ·rw[a'] at D
    rw[if_neg (by decide)] at D
    have H:=D
    obtain rfl:=oI H
    exact Tq.ps O (Tq.ps O (Tq.ps O (Tq.ps O (Tq.ps O (Tq.ps O (Tq.ps O (iU aZ O O (bW (.r O)))))))))
   ·rw[a'] at D
    rw[if_pos O] at D
    have H:=D
    refine jA (ag jd) O (Tq.x (fun _ _ a d=>ah bG (a.ev O) (bR d (vs:=[iv b.X0,iv b.Y0,iv b.X1,iv b.Y1]) (k:=7) O 0) O) (jA run_move O (jA run_move O ?_)))
    obtain⟨b6,a8,H⟩:=bnd H
    obtain⟨T,V,X⟩:=bi a8
    refine Tq.x (fun _ _ a d=>ak iX (a.ev O) B (a.ev O) T V) (Tq.x (fun _ _ a d=>ah bG (a.ev O) (zY iH (k:=2) d O X) O) (Tq.e2 jY O O (iU aW O O ?_)))
    obtain rfl:=oI H
    exact bW (.r O)
  ·refine jD (aa (aT O H (fun H=>?_) (fun H=>?_)))
   ·refine qz 9 (by kernel_rfl) (by kernel_rfl) (eY O (eY O (eY O (eY O ?_))))
    obtain⟨J,a9,H⟩:=bnd H
    obtain⟨Z,a0,a1⟩:=bi a9
    refine bv O (fun _ _ a d=>ak iX (a.ev O) B (a.ev O) Z a0) (bv O (fun _ _ a d=>ah bG (a.ev O) (zY iH (k:=2) d O a1) O) (dA (ag jZ) O (bv O (fun _ _ a d=>ah bG (a.ev O) (bR d (vs:=[iv b.X0,iv b.Y0,iv b.X1,iv b.Y1]) (k:=7) O 2) O) (bv O (fun _ _ a d=>rA (a.ev O) (a.ev O) _) (jD ?_)))))
    obtain⟨b7,b0,H⟩:=bnd H
    obtain⟨a2,a3,a4⟩:=bi b0
    refine aC O (fun _ _ a d=>ak iX (a.ev O) B (a.ev O) a2 a3) ?_
    obtain⟨F,P,H⟩:=bnd H
    have E:=lv P
    refine kg 2 (t:=az) (l:=p) (i:=(bJ ((p.length:Int)-1))) (fo:=0) (cs:=[iv (max J b.X1)]) (max J b.X1) (wn O) O O O O O a4 pI O (fun u _=>⟨u,trivial,O⟩) O P ?_
    have a5:cO j F.length o:=by rw[E];exact B
    exact Tr.vC (lf:=[(3,sL j F o),(5,pV I),(6,iv (bJ ((p.length:Int)-1))),(9,sL f c g),(10,iv (c.length:Int)),(11,iv (G:Int)),(28,bV S),(29,sL j F o),(30,iv (bJ ((p.length:Int)-1))),(31,sL j F o),(32,iv (bJ ((p.length:Int)-1))),(34,iv J),(35,.pointer (some ⟨I,2,none⟩)),(36,iv b.X1),(37,iv (max J b.X1))]) (le:=[(0,ow f g 111 aB c),(2,ow j o 3 az F),(7,bx I #[iv b.X0,iv b.Y0,iv b.X1,iv b.Y1] 111)]) (.cons (jc O (by unfold sL;rw[E])) (.cons O (.cons O (.cons O (.cons O (.cons O (.cons O (.cons (jc O (by unfold sL;rw[E])) (.cons O (.cons (jc O (by unfold sL;rw[E])) (.r O))))))))))) (.r O) (ae (aK (aa (Tr.region (ay bB O O (ax O (ae (aI M (q,(G+1),F,j,o) ⟨O,bT v,aX v,H,a5⟩ (.cons O (.cons O (.cons O (.cons (congrArg (fun z=>some (Value.int .i64 z)) (bS v C)) .nil)))) (.r O)))))))))
   ·refine Tr.region (ax O (aH (ag jd) O (aC O (fun _ _ a d=>ah bG (a.ev O) (bR d (vs:=[iv b.X0,iv b.Y0,iv b.X1,iv b.Y1]) (k:=7) O 0) O) (aH (ag jZ) O (aC O (fun _ _ a d=>ah bG (a.ev O) (bR d (vs:=[iv b.X0,iv b.Y0,iv b.X1,iv b.Y1]) (k:=7) O 2) O) (eD 8 (e:=3) (vs:=[(0,iv b.X0),(1,iv b.X1)]) (cs:=[iv b.X0,iv b.X1]) (wn O) O (bz O (bz O dE)) (by kernel_rfl) fun b8=>?_))))))
    obtain⟨b4,b1,H⟩:=bnd H
    exact Tr.append 2 (t:=az) (l:=p) (l2:=[b.X0,b.X1]) (wn O) O O O O (fun W hW=>⟨[[iv b.X0],[iv b.X1]],(.cons ⟨(),trivial,O⟩ (.cons ⟨(),trivial,O⟩ .nil)),bR hW (vs:=[iv b.X0,iv b.X1]) (k:=8) O 0⟩) jN pI Dl (by decide) xx O b1 fun b2 b3 a6=>(Tr.k O (ae (aK (aa (Tr.region (ay bB O O (ax O (ae (aI M (q,(G+1),b4,b2,b3) ⟨O,bT v,aX v,H,a6⟩ (.cons O (.cons O (.cons O (.cons (congrArg (fun z=>some (Value.int .i64 z)) (bS v C)) .nil)))) (.r O))))))))))

theorem wN{w:Bs}(p0:(List Int))(g:Option Addr)(i:Nat)(f:Sl w.R w.W az g i p0)(p1:(List Int))(j:Option Addr)(l:Nat)(o:Sl w.R w.W az j l p1)(r:Bool)(H:lW p0 p1=some r)(hE:HF w w.W E0):Calls Tryz.prog 128 [sL g p0 i,sL j p1 l].toArray w.W fun e W'=>e= .returned (bV r)∧HF w W' E0:=by
 unfold lW at H
 have leB:=Bs.Le.refl w
 refine aV (n:=26) Tryz.func128 O O O hE (ai (Tr.k O (ae (aa (av (ai (ax O (aH (bf jN) O (ax O (aH (bf jN) O (ay fM O O (ae (aa (aT O H (fun H=>?_) (fun H=>?_)))))))))))))))
 ·refine ai (Tr.k O (ae (aa (aO (aD ?_)))))
  obtain rfl:=oI H
  exact cB leB
 ·refine aJ (aa (av (ai (ax O (aH (bf jN) O (ax O (ae (aa (Tr.block (bO (σ:=(List Int)×Nat) (fun m w s=>m=s.1.length+1∧s.1=List.drop s.2 p0∧s.2≤p0.length∧fP p1 s.1 s.2=some r) (fun s=>[(0,sL g p0 i),(1,sL j p1 l),(12,iv (p0.length:Int)),(13,iv (s.2:Int))]) (fun s=>[]) (p0.length+1) (p0,0) ⟨O,O,Nat.zero_le _,H⟩ (.r O) .nil (fun _ _ h=>absurd h.1 (by simp)) ?_))))))))))
  intro w p m s hs
  obtain⟨b,t⟩:=s
  obtain⟨q,c,B,H⟩:=hs
  replace c:b=List.drop t p0:=c
  replace H:fP p1 b t=some r:=H
  replace q:m+1=b.length+1:=q
  replace f:=f.kL p
  replace o:=o.kL p
  replace leB:=leB.trans p
  obtain rfl:m=b.length:=by omega
  clear q
  dsimp only
  cases b with
  |nil=>
   rw[fP.eq_1] at H
   refine ai (ay aR O O (ae (aa (av (bX O (bN c) (bK (aA (aA (aP (aa (ai (Tr.k O (ae (aa (aO ?_)))))))))))))))
   obtain rfl:=oI H
   exact cB leB
  | cons D b=>
   rw[fP.eq_2] at H
   refine ai (ay aR O O (ae (aa (av (bY O (cu c) (aJ (aa (av (Tr.block (ai (ax O (Tr.k O (ae (aa (av (ji (by kernel_rfl) (by kernel_rfl) (eY O (eY O (bv O (fun _ _ a d=>ak iX (a.ev O) f.form (a.ev O) (Int.natCast_nonneg _) (aX c)) (bv O (fun _ _ a d=>ah bG (a.ev O) (rP iH f (dI c) d) O) (eY O (eY O ?_))))))))))))))))))))))
   obtain⟨C,A,H⟩:=bnd H
   obtain⟨u,v,y⟩:=bi A
   refine bv O (fun _ _ a d=>ak iX (a.ev O) o.form (a.ev O) u v) (bv O (fun _ _ a d=>ah bG (a.ev O) (rP iH o y d) O) (iU fM O O (jD (aa (aT O H (fun H=>?_) (fun H=>?_))))))
   ·refine ai (Tr.k O (ae (aa (aO (bq (aD (aD (bq (aD ?_)))))))))
    obtain rfl:=oI H
    exact cB leB
   ·exact aJ (aK (aa (Tr.region (ay bB O O (ax O (ae (aI p (b,(t+1)) ⟨O,bT c,aX c,H⟩ (.cons O (.cons O (.cons O (.cons (congrArg (fun z=>some (Value.int .i64 z)) (bS c f.form)) .nil)))) .nil)))))))

theorem rV{w:Bs}(p0:(List aQ))(f:Option Addr)(g:Nat)(p1:aQ)(b:Option Addr)(c:Nat)(C:Sl w.O w.W az b c p1.Xs)(r:(List aQ))(H:iB p0 p1=some r)(hE:HF w w.W (iZ [ow f g 123 aY p0])):Calls Tryz.prog 100 [sL f p0 g,.agg #[iv p1.Y0,iv p1.Y1,sL b p1.Xs c]].toArray w.W fun e W'=>∃(w':Bs) (u:(Option Addr×Nat)),w.Le w'∧e= .returned (sL u.1 r u.2)∧(cO u.1 r.length u.2)∧HF w' W' (iZ [ow u.1 u.2 123 aY r]):=by
 unfold iB at H
 have h:=(hE.sl (k:=0) O).form
 have leB:=Bs.Le.refl w
 refine aV (n:=54) Tryz.func100 O O O hE (ai (fw 1 (cs:=[iv p1.Y0,iv p1.Y1,sL b p1.Xs c]) (wn O) O O O fun j=>(Tr.k O (bC 2 123 aY ?_))))
 show Tr _ _ (uf _ 4 (sL none (([]:List aQ)) 0)) _ _
 refine ae (aa (av (ai (aH (ag lU) O (aC O (fun _ _ a d=>ah gU (a.ev O) (bR d (vs:=[iv p1.Y0,iv p1.Y1,sL b p1.Xs c]) (k:=1) O 2) O) (aH (bf jN) O (ay iA O O (ax O (bP 6 [(0,sL f p0 g),(3,pV j),(16,bV (((p1.Xs.length:Int)==0)||(decide (p1.Y1≤p1.Y0))))] [(0,ow f g 123 aY p0),(1,bx j #[iv p1.Y0,iv p1.Y1,sL b p1.Xs c] 123),(2,ow none 0 123 aY ([]:List aQ))] ?_ ?_)))))))))
 ·cases p:((p1.Xs.length:Int)==0)
  ·exact bH (ag nT) O (Tr.x (fun _ _ a d=>ah bG (a.ev O) (bR d (vs:=[iv p1.Y0,iv p1.Y1,sL b p1.Xs c]) (k:=1) O 1) O) (bH (ag pX) O (Tr.x (fun _ _ a d=>ah bG (a.ev O) (bR d (vs:=[iv p1.Y0,iv p1.Y1,sL b p1.Xs c]) (k:=1) O 0) O) (Tr.e2 jY O O (ay aZ O O (ae (aS (.r O) (.r O))))))))
  ·exact Tr.ps O (Tr.ps O (Tr.ps O (Tr.ps O (Tr.ps O (ay aW O O (ae (aS (.r O) (.r O))))))))
 ·show Tr _ _ (LF [(0,sL f p0 g),(3,pV j),(16,bV (((p1.Xs.length:Int)==0)||(decide (p1.Y1≤p1.Y0))))]) (LE [(0,ow f g 123 aY p0),(1,bx j #[iv p1.Y0,iv p1.Y1,sL b p1.Xs c] 123),(2,ow none 0 123 aY ([]:List aQ))]) _
  refine ae (aa (aT O H (fun H=>?_) (fun H=>?_)))
  ·refine ai (ax O (Tr.k O (ae (aa (aO (aD ?_))))))
   obtain rfl:=oI H
   exact bL (m:=[sL f p0 g]) [] (aU O bD) (fun W hW=>⟨w,(f,g),leB,O,h,hW.pick (ks:=[0]) (by decide) (aN O bg)⟩)
  ·refine aJ (aa (av (ai (ax O (aH (bf rM) O (ay iP O O (Tr.k O (ae (aa (av (ji (by kernel_rfl) (by kernel_rfl) (eY O (iU oh O O (eY O ?_))))))))))))))
   obtain⟨I,q,H⟩:=bnd H
   refine qx 9 [(0,sL f p0 g),(3,pV j),(5,iv (bJ ((p0.length:Int)-1))),(32,bV I)] ?_ ?_
   ·cases p:(decide (0≤(bJ ((p0.length:Int)-1))))
    ·rw[p] at q
     rw[if_neg (by decide)] at q
     have H:=q
     obtain rfl:=oI H
     exact Tq.ps O (Tq.ps O (Tq.ps O (Tq.ps O (Tq.ps O (Tq.ps O (Tq.ps O (Tq.ps O (iU aZ O O (bW (.r O))))))))))
    ·rw[p] at q
     rw[if_pos O] at q
     have H:=q
     refine jA run_move O (jA run_move O ?_)
     obtain⟨b1,a3,H⟩:=bnd H
     obtain⟨J,K,L⟩:=bi a3
     refine Tq.x (fun _ _ a d=>ak nL (a.ev O) h (a.ev O) J K) (jA (ag nT) O (Tq.x (fun _ _ a d=>(HF.RV (k:=0) d O L).elim fun u hu=>ah bG (a.ev O) (hu.2.drop 1) O) (jA (ag pX) O (Tq.x (fun _ _ a d=>ah bG (a.ev O) (bR d (vs:=[iv p1.Y0,iv p1.Y1,sL b p1.Xs c]) (k:=1) O 0) O) (Tq.e2 iA O O (iU aW O O ?_))))))
     obtain rfl:=oI H
     exact bW (.r O)
   ·refine eY O ?_
    obtain⟨M,s,H⟩:=bnd H
    refine qx 9 [(0,sL f p0 g),(3,pV j),(5,iv (bJ ((p0.length:Int)-1))),(42,bV M)] ?_ ?_
    ·cases p:I
     ·rw[p] at s
      rw[if_neg (by decide)] at s
      have H:=s
      obtain rfl:=oI H
      exact Tq.ps O (Tq.ps O (Tq.ps O (Tq.ps O (Tq.ps O (Tq.ps O (Tq.ps O (Tq.ps O (iU aZ O O (bW (.r O))))))))))
     ·rw[p] at s
      rw[if_pos O] at s
      have H:=s
      refine jA run_move O (jA run_move O ?_)
      obtain⟨y,a4,H⟩:=bnd H
      obtain⟨N,P,Q⟩:=bi a4
      refine Tq.x (fun _ _ a d=>ak nL (a.ev O) h (a.ev O) N P) (jA (ag lU) O (Oy (U:=(aY).Ad) (fun u=>(aY).ok w.O w.W u y) (fun u=>(sL u.1 y.Xs u.2)) (wg O O O) O (Sn (κ:=0) (t:=aY) (V:=fun u=>(sL u.1 y.Xs u.2)) O Q (fun _ _ u a hc=>ah gU (a.ev O) (hc.drop 2) O)) ?_))
      intro a8 G
      obtain⟨z,A⟩:=a8
      have o:=G
      replace o:Sl w.O w.W az z A y.Xs:=o
      dsimp only
      refine jA (ag lU) O (Tq.x (fun _ _ a d=>ah gU (a.ev O) (bR d (vs:=[iv p1.Y0,iv p1.Y1,sL b p1.Xs c]) (k:=1) O 2) O) ?_)
      obtain⟨S,a5,H⟩:=bnd H
      refine jB (r:=(bV S)) (wg O O O) O Tryz.call128 (aj O (aj O aG)) (fun W hW=>wN y.Xs z A (o.rl.ext hW.bU) p1.Xs b c (C.rl.ext hW.bU) S a5 (HF.start _)) (iU aW O O ?_)
      obtain rfl:=oI H
      exact bW (.r O)
    ·refine jD (aa (aT O H (fun H=>?_) (fun H=>?_)))
     ·refine ai (ax O (ax O (aH (ag nT) O (aC O (fun _ _ a d=>ah bG (a.ev O) (bR d (vs:=[iv p1.Y0,iv p1.Y1,sL b p1.Xs c]) (k:=1) O 1) O) ?_))))
      obtain⟨T,a6,H⟩:=bnd H
      obtain⟨X,Z,a0⟩:=bi a6
      refine aC O (fun _ _ a d=>ak nL (a.ev O) h (a.ev O) X Z) (aH (ag nT) O ?_)
      obtain⟨B,D,H⟩:=bnd H
      have v:=lv D
      refine kg 0 (t:=aY) (l:=p0) (i:=(bJ ((p0.length:Int)-1))) (fo:=1) (cs:=[iv p1.Y1]) (aQ.mk T.Y0 p1.Y1 T.Xs) (wn O) O O O O O a0 pI O (fun u hu=>⟨u,hu,O⟩) O D ?_
      have a1:cO f B.length g:=by rw[v];exact h
      have b0:=v.trans O
      refine Tr.vC (lf:=[(0,sL f B g),(3,pV j),(5,iv (bJ ((p0.length:Int)-1))),(42,bV M),(43,sL f B g),(44,iv (bJ ((p0.length:Int)-1))),(45,.pointer (some ⟨j,1,none⟩)),(46,iv p1.Y1)]) (le:=[(0,ow f g 123 aY B),(1,bx j #[iv p1.Y0,iv p1.Y1,sL b p1.Xs c] 123),(2,ow none 0 123 aY ([]:List aQ))]) (.cons (jc O (by unfold sL;rw[v])) (.cons O (.cons O (.cons O (.cons (jc O (by unfold sL;rw[v])) (.r O)))))) (.r O) (ae (aa (ai (ax O (Tr.k O (ae (aa (aO (aD ?_)))))))))
      obtain rfl:=oI H
      exact bL (m:=[sL f B g]) [] (aU O bD) (fun W hW=>⟨w,(f,g),leB,O,a1,hW.pick (ks:=[0]) (by decide) (aN O bg)⟩)
     ·refine aJ (aa (ai (ax O (aC O (fun _ _ a d=>aM (cs:=[iv p1.Y0,iv p1.Y1,sL b p1.Xs c]) CZ uE (a.ev O) (aF.take (bR d (vs:=[iv p1.Y0,iv p1.Y1,sL b p1.Xs c]) (k:=1) O 0) 3) O) (eD 3 (e:=123) (vs:=[(0,.agg #[iv p1.Y0,iv p1.Y1,sL b p1.Xs c])]) (cs:=[iv p1.Y0,iv p1.Y1,sL b p1.Xs c]) (wn O) O (bz O dE) (by kernel_rfl) fun b2=>?_)))))
      obtain⟨a9,a7,H⟩:=bnd H
      refine Tr.append 0 (t:=aY) (l:=p0) (l2:=[p1]) (wn O) O O O O (fun W hW=>⟨[[iv p1.Y0,iv p1.Y1,sL b p1.Xs c]],(.cons ⟨(b,c),C,O⟩ .nil),bR hW (vs:=[iv p1.Y0,iv p1.Y1,sL b p1.Xs c]) (k:=3) O 0⟩) rM uE Py (by decide) Qg O a7 fun E F a2=>(Tr.k O (ae (aa (aO ?_))))
      obtain rfl:=oI H
      exact bL (m:=[sL E a9 F]) [] (aU O bD) (fun W hW=>⟨w,(E,F),leB,O,a2,hW.pick (ks:=[0]) (by decide) (aN O bg)⟩)

theorem jm(N:Nat){w:Bs}(p0:(List au))(b8:Option Addr)(b9:Nat)(h3:Sl w.R w.W aB b8 b9 p0)(r:(List aQ))(H:fV N p0=some r)(hE:HF w w.W (iZ [emp])):Calls Tryz.prog 47 [sL b8 p0 b9].toArray w.W fun e W'=>∃(w':Bs) (u:(Option Addr×Nat)),w.Le w'∧e= .returned (sL u.1 r u.2)∧(cO u.1 r.length u.2)∧HF w' W' (iZ [ow u.1 u.2 123 aY r]):=by
 unfold fV at H
 have leB:=Bs.Le.refl w
 refine aV (n:=83) Tryz.func47 O O O hE (ai (Tr.k O (bC 1 123 aY ?_)))
 show Tr _ _ (uf _ 2 (sL none (([]:List aQ)) 0)) _ _
 refine ae (aa (ai (ax O ?_)))
 obtain⟨V,h4,H⟩:=bnd H
 refine gG [2] [emp] (U:=(Option Addr×Nat)) (fun u=>(sL u.1 V u.2)) (fun u=>cO u.1 V.length u.2) (fun u=>[ow u.1 u.2 111 aB V]) O (aN O bg) (fun _=>O) (wn O) O Tryz.call93 (aj O aG) (fun W hW hp hE=>vZ p0 b8 b9 (h3.ext (hW.dU hp)) V h4 hE) ?_
 intro u hu
 obtain⟨c,f⟩:=u
 have e6:=hu
 have d3:cO c V.length f:=e6 --@phi
 dsimp only
 refine Tr.k O (ae (aa (ai (ax O ?_))))
 obtain⟨j,h5,H⟩:=bnd H
 refine gG [2] [ow c f 111 aB V] (U:=Unit) (fun u=>(.tuple #[])) (fun u=>j.length=V.length) (fun u=>[ow c f 111 aB j]) O (aN O bg) (fun _=>O) (wn O) O Tryz.call94 (aj O (aj O aG)) (fun W hW hp hE=>oK V c f (fun z0 z1=>mI z0 z1) 95 [] Tryz.call95 (fun w' he z0 z1 y hy=>yU z0 z1 y hy (HF.start _)) j h5 hE) ?_
 intro u hu
 have d4:=hu
 have a0:j.length=V.length:=d4 --@phi
 have a1:cO c j.length f:=by rw[a0];exact d3
 show Tr _ _ (uf _ 13 (.tuple #[])) (up _ 2 (ow c f 111 aB j)) _
 refine Tr.vC (lf:=[(0,sL c j f),(2,sL none (([]:List aQ)) 0),(10,sL b8 p0 b9),(11,sL c j f),(12,sL c j f),(13,(.tuple #[]))]) (le:=[(1,ow none 0 123 aY ([]:List aQ)),(2,ow c f 111 aB j)]) (.cons (jc O (by unfold sL;rw[a0])) (.cons O (.cons O (.cons (jc O (by unfold sL;rw[a0])) (.cons (jc O (by unfold sL;rw[a0])) (.r O)))))) (.r O) (ae (aa (ai (Tr.alloc 3 (wn O) O OU fun C=>(ae (aa (av (ai (ax O (aH (bf lS) O (ax O (ae (aa (Tr.block (bC 12 3 az (bO (σ:=(List au)×Nat×(List Int)×(Option Addr)×Nat) (fun m w s=>m=s.1.length+1∧s.1=List.drop s.2.1 j∧s.2.1≤j.length∧jq N j s.1 s.2.1 s.2.2.1=some r∧cO s.2.2.2.1 s.2.2.1.length s.2.2.2.2) (fun s=>[(0,sL c j f),(3,pV C),(14,sL c j f),(15,iv (j.length:Int)),(16,iv (s.2.1:Int))]) (fun s=>[(2,ow c f 111 aB j),(3,bx C #[sL s.2.2.2.1 s.2.2.1 s.2.2.2.2] 69),(12,ow s.2.2.2.1 s.2.2.2.2 3 az s.2.2.1)]) (j.length+1) (j,0,([]:List Int),none,0) ⟨O,O,Nat.zero_le _,H,gZ⟩ (.r O) (.r O) (fun _ _ h=>absurd h.1 (by simp)) ?_))))))))))))))))
 intro w f2 m s hs
 obtain⟨X,c5,Z,F,G⟩:=s
 obtain⟨d5,a2,k1,H,c6⟩:=hs
 replace a2:X=List.drop c5 j:=a2
 replace H:jq N j X c5 Z=some r:=H
 replace d5:m+1=X.length+1:=d5
 replace leB:=leB.trans f2
 replace c6:cO F Z.length G:=c6
 obtain rfl:m=X.length:=by omega
 clear d5
 dsimp only
 cases X with
 | nil=>
  rw[jq.eq_1] at H
  refine ai (ay aR O O (ae (aa (av (bX O (bN a2) (bK (aA (aA (aP (aa (ai (aC O (fun _ _ a d=>ah gU (a.ev O) (bR d (vs:=[sL F Z G]) (k:=3) O 0) O) ?_))))))))))))
  obtain⟨T,h6,H⟩:=bnd H
  refine gG [12] [ow F G 3 az Z] (U:=Unit) (fun u=>(.tuple #[])) (fun u=>T.length=Z.length) (fun u=>[ow F G 3 az T]) O (aN O bg) (fun _=>O) (wn O) O Tryz.call96 (aj O aG) (fun W hW hp hE=>xG Z F G T h6 hE) ?_
  intro u hu
  have d6:=hu
  have a3:T.length=Z.length:=d6 --@phi
  have j1:cO F T.length G:=by rw[a3];exact c6
  show Tr _ _ (uf _ 29 (.tuple #[])) (up _ 12 (ow F G 3 az T)) _
  refine Tr.vC (lf:=[(0,sL c j f),(3,pV C),(14,sL c j f),(15,iv (j.length:Int)),(16,iv (c5:Int)),(17,bV (decide ((c5:Int)<(j.length:Int)))),(28,sL F T G),(29,(.tuple #[]))]) (le:=[(2,ow c f 111 aB j),(3,bx C #[sL F T G] 69),(12,ow F G 3 az T)]) (.cons O (.cons O (.cons O (.cons O (.cons O (.cons O (.cons (jc O (by unfold sL;rw[a3])) (.r O)))))))) (.cons O (.cons (J4 O (by unfold sL;rw[a3])) (.r O))) (ae (aa (ai (aC O (fun _ _ a d=>ah gU (a.ev O) (bR d (vs:=[sL F T G]) (k:=3) O 0) O) ?_))))
  obtain⟨o,h7,H⟩:=bnd H
  refine gG [12] [ow F G 3 az T] (U:=(Option Addr×Nat)) (fun u=>(sL u.1 o u.2)) (fun u=>cO u.1 o.length u.2) (fun u=>[ow u.1 u.2 3 az o]) O (aN O bg) (fun _=>O) (wn O) O Tryz.call97 (aj O aG) (fun W hW hp hE=>vv T F G o h7 hE) ?_
  intro u hu
  obtain⟨g,i⟩:=u
  have e7:=hu
  have b4:cO g o.length i:=e7 --@phi
  dsimp only
  refine bF 3 (cs:=[sL g o i]) [sL g o i] (wn O) O O O O uN O O O (ae (aa (ai (Tr.k O (bC 13 123 aY ?_)))))
  show Tr _ _ (uf _ 6 (sL none (([]:List aQ)) 0)) _ _
  refine ae (aa (ai (Tr.k O (bC 14 111 aB ?_))))
  show Tr _ _ (uf _ 7 (sL none (([]:List au)) 0)) _ _
  refine ae (aa (ai (Tr.k O (ae (aa (av (ai (Tr.alloc 15 (wn O) O Et fun j2=>(bF 15 (cs:=[iv 0]) [iv 0] (wn O) O O O O pI O O O (ae (aa (Tr.block (Da 15 29 O O O (bO (σ:=Int×(List aQ)×(List au)×Int×Nat×(Option Addr)×Nat×(Option Addr)×Nat) (fun m w s=>fq N j o m s.1 s.2.1 s.2.2.1 s.2.2.2.1=some r∧cO s.2.2.2.2.2.1 s.2.1.length s.2.2.2.2.2.2.1∧cO s.2.2.2.2.2.2.2.1 s.2.2.1.length s.2.2.2.2.2.2.2.2) (fun s=>[(0,sL c j f),(3,pV C),(6,sL s.2.2.2.2.2.1 s.2.1 s.2.2.2.2.2.2.1),(7,sL s.2.2.2.2.2.2.2.1 s.2.2.1 s.2.2.2.2.2.2.2.2),(8,iv s.2.2.2.1),(9,.pointer (some ⟨s.2.2.2.2.1,0,none⟩))]) (fun s=>[(2,ow c f 111 aB j),(3,bx C #[sL g o i] 69),(12,ow g i 3 az o),(13,ow s.2.2.2.2.2.1 s.2.2.2.2.2.2.1 123 aY s.2.1),(14,ow s.2.2.2.2.2.2.2.1 s.2.2.2.2.2.2.2.2 111 aB s.2.2.1),(29,bx s.2.2.2.2.1 #[iv s.1] 3)]) N (0,([]:List aQ),([]:List au),0,j2,none,0,none,0) ⟨H,gZ,gZ⟩ (.r O) (.r O) (fun _ _ h=>mW (h.1)) ?_))))))))))))))
  intro w a4 f3 s hs
  obtain⟨q,M,c4,d7,L,I,J,c0,c3⟩:=s
  obtain⟨H,c7,k0⟩:=hs
  replace H:fq N j o (f3+1) q M c4 d7=some r:=H
  replace leB:=leB.trans a4
  replace c7:cO I M.length J:=c7
  rw[fq.eq_2] at H
  dsimp only
  refine av (ai (aC O (fun _ _ a d=>ah bG (a.ev O) (bR d (vs:=[iv q]) (k:=29) O 0) O) (ay bB O O (aC O (fun _ _ a d=>ah gU (a.ev O) (bR d (vs:=[sL g o i]) (k:=3) O 0) O) (aH (bf jN) O (ay aR O O (ae (aa (aT O H (fun H=>?_) (fun H=>?_))))))))))
  ·refine aJ (aa (av (Tr.block (ai (ax O (yg (vs:=[pV C,pV L]) (wn O) O (aj O (aj O aG)) ?_))))))
   obtain⟨a5,h8,H⟩:=bnd H
   refine gG [14] [ow c0 c3 111 aB c4] (U:=(Option Addr×Nat)) (fun u=>(sL u.1 a5 u.2)) (fun u=>cO u.1 a5.length u.2) (fun u=>[ow u.1 u.2 111 aB a5]) O (aN O bg) (fun _=>O) (wn O) O Tryz.call98 (aj O (aj O aG)) (fun W hW hp hE=>sO N c4 c0 c3 (fun z0=>mH z0 o q) 99 [pV C,pV L] Tryz.call99 (fun w' he z0 y hy=>yT z0 o g i ((hW.Ha (k:=12) O hp O).ext he) C (he.r _ (hW.MG (k:=3) O hp O)) (he.cells (hW.MG (k:=3) O hp O) (hW.Qi (k:=3) O)) q L (he.r _ (hW.MG (k:=29) O hp O)) (he.cells (hW.MG (k:=29) O hp O) (hW.Qi (k:=29) O)) y hy (HF.start _)) a5 h8 hE) ?_
   intro u hu
   obtain⟨a8,a9⟩:=u
   have e8:=hu
   have d8:cO a8 a5.length a9:=e8 --@phi
   dsimp only
   refine Tr.k O (ae (aa (av (Tr.block (bO (σ:=(List au)×Int×(Option Addr)×Nat) (fun m w s=>jo j o q M (fq N j o f3) m s.1 s.2.1=some r∧cO s.2.2.1 s.1.length s.2.2.2) (fun s=>[(0,sL c j f),(3,pV C),(6,sL I M J),(7,sL s.2.2.1 s.1 s.2.2.2),(8,iv s.2.1),(9,pV L)]) (fun s=>[(2,ow c f 111 aB j),(3,bx C #[sL g o i] 69),(12,ow g i 3 az o),(13,ow I J 123 aY M),(14,ow s.2.2.1 s.2.2.2 111 aB s.1),(29,bx L #[iv q] 3)]) N (a5,d7,a8,a9) ⟨H,d8⟩ (.r O) (.r O) (fun _ _ h=>mW (h.1)) ?_)))))
   intro w f4 j8 s hs
   obtain⟨K,b5,v,A⟩:=s
   obtain⟨H,c8⟩:=hs
   replace H:jo j o q M (fq N j o f3) (j8+1) K b5=some r:=H
   replace a4:=a4.trans f4
   replace c8:cO v K.length A:=c8
   rw[jo.eq_2] at H
   dsimp only
   refine av (av (ji (by kernel_rfl) (by kernel_rfl) (eY O (eY O (dA (bf lS) O (iU aR O O (eY O ?_)))))))
   obtain⟨f5,b0,H⟩:=bnd H
   refine qx 11 [(0,sL c j f),(3,pV C),(6,sL I M J),(7,sL v K A),(8,iv b5),(9,pV L),(57,bV f5)] ?_ ?_
   ·cases e4:(decide (b5<(j.length:Int)))
    ·rw[e4] at b0
     rw[if_neg (by decide)] at b0
     have H:=b0
     obtain rfl:=oI H
     exact Tq.ps O (Tq.ps O (Tq.ps O (Tq.ps O (Tq.ps O (Tq.ps O (Tq.ps O (Tq.ps O (Tq.ps O (Tq.ps O (iU aZ O O (bW (.r O))))))))))))
    ·rw[e4] at b0
     rw[if_pos O] at b0
     have H:=b0
     refine jA run_move O (jA run_move O ?_)
     obtain⟨k2,h9,H⟩:=bnd H
     obtain⟨f6,f7,f8⟩:=bi h9
     refine Tq.x (fun _ _ a d=>ak mP (a.ev O) a1 (a.ev O) f6 f7) (jA (ag jK) O (Tq.x (fun _ _ a d=>ah bG (a.ev O) (aF.drop (zY gm (k:=2) d O f8) 1) O) (Tq.x (fun _ _ a d=>ah gU (a.ev O) (bR d (vs:=[sL g o i]) (k:=3) O 0) O) (Tq.x (fun _ _ a d=>ah bG (a.ev O) (bR d (vs:=[iv q]) (k:=29) O 0) O) ?_))))
     obtain⟨k3,i0,H⟩:=bnd H
     obtain⟨f9,g0,g1⟩:=bi i0
     refine Tq.x (fun _ _ a d=>ak iX (a.ev O) b4 (a.ev O) f9 g0) (Tq.x (fun _ _ a d=>ah bG (a.ev O) (zY iH (k:=12) d O g1) O) (Tq.e2 jY O O (iU aW O O ?_)))
     obtain rfl:=oI H
     exact bW (.r O)
   ·refine jD (aa (aT O H (fun H=>?_) (fun H=>?_)))
    ·refine aJ (aa (Tr.block (Tr.region (ax O (ax O (ax O ?_))))))
     obtain⟨E,i1,H⟩:=bnd H
     obtain⟨g2,g3,g4⟩:=bi i1
     refine aC O (fun _ _ a d=>ak mP (a.ev O) a1 (a.ev O) g2 g3) (aC O (fun _ _ a d=>aM (cs:=[iv E.X0,iv E.Y0,iv E.X1,iv E.Y1]) gV dh (a.ev O) (aF.take (zY gm (k:=2) d O g4) 4) O) (eD 32 (e:=111) (vs:=[(0,.agg #[iv E.X0,iv E.Y0,iv E.X1,iv E.Y1])]) (cs:=[iv E.X0,iv E.Y0,iv E.X1,iv E.Y1]) (wn O) O (bz O dE) (by kernel_rfl) fun k4=>?_))
     obtain⟨j3,i2,H⟩:=bnd H
     exact Tr.append 14 (t:=aB) (l:=K) (l2:=[E]) (wn O) O O O O (fun W hW=>⟨[[iv E.X0,iv E.Y0,iv E.X1,iv E.Y1]],(.cons ⟨(),trivial,O⟩ .nil),bR hW (vs:=[iv E.X0,iv E.Y0,iv E.X1,iv E.Y1]) (k:=32) O 0⟩) lS dh BJ (by decide) CS O i2 fun i3 i4 g5=>(ax O (ay bB O O (Tr.k O (Tr.k O (ae (aK (aI f4 (j3,(bJ (b5+1)),i3,i4) ⟨H,g5⟩ (.r O) (.r O))))))))
    ·refine bK (aA (aA (aP (aa (qa 13 [(11,(ow v A 111 aB K).S)] [] (by kernel_rfl) (by kernel_rfl) fun b1 j4 j7=>(bE 0 (by kernel_rfl) O (wn O) O (by kernel_rfl) (fun _ _ a=>run_move (a.ev O)) O (iF 1 [(68,sL g o i)] [11] false (by kernel_rfl) O O (by kernel_rfl) (fun W W' d hsW hk=>HF.pW (le:=[(3,bx C #[sL g o i] 69)]) (ks:=[(14,(ow v A 111 aB K).S)]) (s0:=b1) false d hk (fun h=>absurd h (by decide)) (.r O) (fun b hb=>hb.elim (fun⟨p,hp,hf,hb⟩=>by simp only[List.mem_cons,List.not_mem_nil,or_false] at hp;rcases hp with rfl;exact .inl ⟨_,List.mem_cons_self,hb⟩) (fun hb=>absurd hb.1 (by decide))) (List.forall_mem_cons.2 ⟨fun b hb=>hb,(fun _ h=>nomatch h)⟩) rfl) ?_ rfl rfl ?_)))))))
     ·exact bv O (fun _ _ a d=>ah gU (a.ev O) (bR d (vs:=[sL g o i]) (k:=3) O 0) O) (bW (.r O))
     refine iF 2 [(69,iv q)] [11] false (by kernel_rfl) O O (by kernel_rfl) (fun W W' d hsW hk=>HF.pW (le:=[(29,bx L #[iv q] 3)]) (ks:=[(14,(ow v A 111 aB K).S)]) (s0:=b1) false d hk (fun h=>absurd h (by decide)) (.r O) (fun b hb=>hb.elim (fun⟨p,hp,hf,hb⟩=>by simp only[List.mem_cons,List.not_mem_nil,or_false] at hp;rcases hp with rfl;exact .inl ⟨_,List.mem_cons_self,hb⟩) (fun hb=>absurd hb.1 (by decide))) (List.forall_mem_cons.2 ⟨fun b hb=>hb,(fun _ h=>nomatch h)⟩) rfl) ?_ rfl rfl ?_
     ·exact bv O (fun _ _ a d=>ah bG (a.ev O) (bR d (vs:=[iv q]) (k:=29) O 0) O) (bW (.r O))
     obtain⟨b6,i5,H⟩:=bnd H
     obtain⟨g6,g7,g8⟩:=bi i5
     refine bE 3 (by kernel_rfl) O (wn O) O (by kernel_rfl) (fun _ _ a=>ak iX (a.ev O) b4 (a.ev O) g6 g7) O (iF 4 [(71,iv b6)] [11] false (by kernel_rfl) O O (by kernel_rfl) (fun W W' d hsW hk=>HF.pW (le:=[(12,ow g i 3 az o)]) (ks:=[(14,(ow v A 111 aB K).S)]) (s0:=b1) false d hk (fun h=>absurd h (by decide)) (.r O) (fun b hb=>hb.elim (fun⟨p,hp,hf,hb⟩=>by simp only[List.mem_cons,List.not_mem_nil,or_false] at hp;rcases hp with rfl;exact .inl ⟨_,List.mem_cons_self,hb⟩) (fun hb=>absurd hb.1 (by decide))) (List.forall_mem_cons.2 ⟨fun b hb=>hb,(fun _ h=>nomatch h)⟩) rfl) ?_ rfl rfl ?_)
     ·exact bv O (fun _ _ a d=>ah bG (a.ev O) (zY iH (k:=12) d O g8) O) (bW (.r O))
     refine iF 5 [(72,sL g o i)] [11] false (by kernel_rfl) O O (by kernel_rfl) (fun W W' d hsW hk=>HF.pW (le:=[(3,bx C #[sL g o i] 69)]) (ks:=[(14,(ow v A 111 aB K).S)]) (s0:=b1) false d hk (fun h=>absurd h (by decide)) (.r O) (fun b hb=>hb.elim (fun⟨p,hp,hf,hb⟩=>by simp only[List.mem_cons,List.not_mem_nil,or_false] at hp;rcases hp with rfl;exact .inl ⟨_,List.mem_cons_self,hb⟩) (fun hb=>absurd hb.1 (by decide))) (List.forall_mem_cons.2 ⟨fun b hb=>hb,(fun _ h=>nomatch h)⟩) rfl) ?_ rfl rfl ?_
     ·exact bv O (fun _ _ a d=>ah gU (a.ev O) (bR d (vs:=[sL g o i]) (k:=3) O 0) O) (bW (.r O))
     refine iF 6 [(73,iv q)] [11] false (by kernel_rfl) O O (by kernel_rfl) (fun W W' d hsW hk=>HF.pW (le:=[(29,bx L #[iv q] 3)]) (ks:=[(14,(ow v A 111 aB K).S)]) (s0:=b1) false d hk (fun h=>absurd h (by decide)) (.r O) (fun b hb=>hb.elim (fun⟨p,hp,hf,hb⟩=>by simp only[List.mem_cons,List.not_mem_nil,or_false] at hp;rcases hp with rfl;exact .inl ⟨_,List.mem_cons_self,hb⟩) (fun hb=>absurd hb.1 (by decide))) (List.forall_mem_cons.2 ⟨fun b hb=>hb,(fun _ h=>nomatch h)⟩) rfl) ?_ rfl rfl ?_
     ·exact bv O (fun _ _ a d=>ah bG (a.ev O) (bR d (vs:=[iv q]) (k:=29) O 0) O) (bW (.r O))
     refine bE 7 (by kernel_rfl) O (wn O) O (by kernel_rfl) (fun _ _ a=>bB (a.ev O) (a.ev O)) O ?_
     obtain⟨b7,i6,H⟩:=bnd H
     obtain⟨g9,h0,h1⟩:=bi i6
     refine bE 8 (by kernel_rfl) O (wn O) O (by kernel_rfl) (fun _ _ a=>ak iX (a.ev O) b4 (a.ev O) g9 h0) O (iF 9 [(76,iv b7)] [11] false (by kernel_rfl) O O (by kernel_rfl) (fun W W' d hsW hk=>HF.pW (le:=[(12,ow g i 3 az o)]) (ks:=[(14,(ow v A 111 aB K).S)]) (s0:=b1) false d hk (fun h=>absurd h (by decide)) (.r O) (fun b hb=>hb.elim (fun⟨p,hp,hf,hb⟩=>by simp only[List.mem_cons,List.not_mem_nil,or_false] at hp;rcases hp with rfl;exact .inl ⟨_,List.mem_cons_self,hb⟩) (fun hb=>absurd hb.1 (by decide))) (List.forall_mem_cons.2 ⟨fun b hb=>hb,(fun _ h=>nomatch h)⟩) rfl) ?_ rfl rfl ?_)
     ·exact bv O (fun _ _ a d=>ah bG (a.ev O) (zY iH (k:=12) d O h1) O) (bW (.r O))
     refine gM 10 [(77,sL v K A)] (by kernel_rfl) O O (by kernel_rfl) ?_ O O ?_
     ·exact eY O (bW (.r O))
     obtain⟨D,i7,H⟩:=bnd H
     refine Dr.one 11 (by kernel_rfl) (GK 11 [14,33] [ow v A 111 aB K,emp] (U:=(Option Addr×Nat)) (fun u=>(sL u.1 D.1 u.2)) (fun u=>cO u.1 D.1.length u.2∧D.2.length=K.length) (fun u=>[ow v A 111 aB D.2,ow u.1 u.2 3 az D.1]) O (aN O (aN O bg)) (fun _=>O) (fun b ⟨e,he,hS⟩=>by simp only[List.mem_cons,List.not_mem_nil,or_false] at he;rcases he with rfl|rfl;exact .inl ⟨_,List.mem_cons_self,rfl,hS⟩;exact hS.elim) rfl (wn rfl) rfl Tryz.call101 (aj rfl aG) (fun W hW hp hE=>xH K v A D i7 hE) ?_)
     intro u hu j9
     obtain⟨P,Q⟩:=u
     obtain⟨e9,d9⟩:=hu
     have j5:cO P D.1.length Q:=e9
     have a6:D.2.length=K.length:=d9
     have d2:cO v D.2.length A:=by rw[a6];exact c8
     dsimp only
     refine Dr.use (lf:=[(0,sL c j f),(3,pV C),(6,sL I M J),(7,sL v D.2 A),(8,iv b5),(9,pV L),(57,bV f5),(67,sL I M J),(68,sL g o i),(69,iv q),(70,.pointer (some ⟨mY g,qj g+(q).toNat*1,none⟩)),(71,iv b6),(72,sL g o i),(73,iv q),(74,iv (bJ (q+1))),(75,.pointer (some ⟨mY g,qj g+((bJ (q+1))).toNat*1,none⟩)),(76,iv b7),(77,sL v D.2 A),(78,sL P D.1 Q)]) (le:=[(2,ow c f 111 aB j),(3,bx C #[sL g o i] 69),(12,ow g i 3 az o),(13,ow I J 123 aY M),(14,ow v A 111 aB D.2),(29,bx L #[iv q] 3),(33,ow P Q 3 az D.1)]) ?_ O (.cons O (.cons O (.cons O (.cons (jc O (by unfold sL;rw[a6])) (.cons O (.cons O (.cons O (.cons O (.cons O (.cons O (.cons O (.cons O (.cons O (.cons O (.cons O (.cons O (.cons O (.cons (jc O (by unfold sL;rw[a6])) (.r O))))))))))))))))))) (.r O)
     refine gM 12 [(79,.agg #[iv b6,iv b7,sL P D.1 Q])] (by kernel_rfl) O O (by kernel_rfl) ?_ O O ?_
     ·exact xB (vs:=[(0,iv b6),(1,iv b7),(2,sL P D.1 Q)]) (cs:=[iv b6,iv b7,sL P D.1 Q]) (wn O) O (bz O (bz O (bz O dE))) (by kernel_rfl) (bW (.r O))
     refine rH (by kernel_rfl) (Tr.freeze 33 O fun w i8 c9=>?_)
     replace a4:=a4.trans i8
     obtain⟨a7,i9,H⟩:=bnd H
     refine eZ [13] [ow I J 123 aY M] (U:=(Option Addr×Nat)) (fun u=>(sL u.1 a7 u.2)) (fun a' W u=>cO u.1 a7.length u.2) (fun u=>[ow u.1 u.2 123 aY a7]) O (aN O bg) (fun _=>O) (wn O) O Tryz.call100 (aj O (aj O aG)) (fun W hW hp hE=>rV M I J (aQ.mk b6 b7 D.1) P Q (c9.kC (hW.dU hp)) a7 i9 hE) ?_
     intro w u e5 hu
     obtain⟨b2,b3⟩:=u
     have f1:=hu
     replace c9:=c9.le e5
     replace a4:=a4.trans e5
     have e0:cO b2 a7.length b3:=f1 --@phi
     dsimp only
     refine Tr.k O (ae (aK (aa (av (ai (aC O (fun _ _ a d=>ah bG (a.ev O) (bR d (vs:=[iv q]) (k:=29) O 0) O) (ae (aa (Tr.region (Tr.alloc 34 (wn O) O Et fun j6=>(bF 34 (cs:=[iv q]) [iv q] (wn O) O O O O pI O O O (ae (aa (Tr.region (aC O (fun _ _ a d=>ah bG (a.ev O) (bR d (vs:=[iv q]) (k:=34) O 0) O) (ay bB O O (bF 34 (cs:=[iv (bJ (q+1))]) [iv (bJ (q+1))] (wn O) O O O O pI O O O (ae (GH 29 (Da 34 29 O O O ?_))))))))))))))))))))
     exact aI a4 ((bJ (q+1)),a7,D.2,b5,j6,b2,b3,v,A) ⟨H,e0,d2⟩ (.r O) (.r O)
  ·refine bK (aA (aA (aP (aa (ai (ax O (Tr.k O (ae (aa (aO ?_))))))))))
   obtain rfl:=oI H
   exact bL (m:=[sL I M J]) [] (aU O bD) (fun W hW=>⟨w,(I,J),leB,O,c7,hW.pick (ks:=[13]) (by decide) (aN O bg)⟩)
 |cons B X=>
  rw[jq.eq_2] at H
  refine ai (ay aR O O (ae (aa (av (bY O (cu a2) (aJ (aa (av (Tr.block (ai (aC O (fun _ _ a d=>ak mP (a.ev O) a1 (a.ev O) (Int.natCast_nonneg _) (aX a2)) (aC O (fun _ _ a d=>aM (cs:=[iv B.X0,iv B.Y0,iv B.X1,iv B.Y1]) gV dh (a.ev O) (aF.take (zY gm (k:=2) d O (dI a2)) 4) O) (Tr.alloc 35 (wn O) O lK fun k5=>(bF 35 (cs:=[iv B.X0,iv B.Y0,iv B.X1,iv B.Y1]) [iv B.X0,iv B.Y0,iv B.X1,iv B.Y1] (wn O) O O O O dh O O O (ae (aa (Tr.region (aC O (fun _ _ a d=>ah gU (a.ev O) (bR d (vs:=[sL F Z G]) (k:=3) O 0) O) (aH (ag jK) O (aC O (fun _ _ a d=>ah bG (a.ev O) (bR d (vs:=[iv B.X0,iv B.Y0,iv B.X1,iv B.Y1]) (k:=35) O 1) O) ?_))))))))))))))))))))
  refine aH (ag nA) O (aC O (fun _ _ a d=>ah bG (a.ev O) (bR d (vs:=[iv B.X0,iv B.Y0,iv B.X1,iv B.Y1]) (k:=35) O 3) O) (eD 36 (e:=3) (vs:=[(0,iv B.Y0),(1,iv B.Y1)]) (cs:=[iv B.Y0,iv B.Y1]) (wn O) O (bz O (bz O dE)) (by kernel_rfl) fun k6=>?_))
  obtain⟨e3,j0,H⟩:=bnd H
  exact Tr.append 12 (t:=az) (l:=Z) (l2:=[B.Y0,B.Y1]) (wn O) O O O O (fun W hW=>⟨[[iv B.Y0],[iv B.Y1]],(.cons ⟨(),trivial,O⟩ (.cons ⟨(),trivial,O⟩ .nil)),bR hW (vs:=[iv B.Y0,iv B.Y1]) (k:=36) O 0⟩) jN pI Dl (by decide) xx O j0 fun d0 d1 h2=>(bF 3 (cs:=[sL d0 e3 d1]) [sL d0 e3 d1] (wn O) O O O O uN O O O (ae (aK (aa (Tr.region (ay bB O O (ax O (ae (aI f2 (X,(c5+1),e3,d0,d1) ⟨O,bT a2,aX a2,H,h2⟩ (.cons O (.cons O (.cons O (.cons O (.cons (congrArg (fun z=>some (Value.int .i64 z)) (bS a2 a1)) .nil))))) (.r O))))))))))

theorem jI(N:Nat){w:Bs}(p0:(List aQ))(y:Option Addr)(A:Nat)(E:Sl w.R w.W aY y A p0)(r:(List au))(H:gQ N p0=some r)(hE:HF w w.W (iZ [emp])):Calls Tryz.prog 48 [sL y p0 A].toArray w.W fun e W'=>∃u:(Option Addr×Nat),e= .returned (sL u.1 r u.2)∧(cO u.1 r.length u.2)∧HF w W' (iZ [ow u.1 u.2 111 aB r]):=by
 unfold gQ at H
 have leB:=Bs.Le.refl w
 refine aV (n:=41) Tryz.func48 O O O hE (ai (Tr.k O (bC 1 111 aB ?_)))
 show Tr _ _ (uf _ 2 (sL none (([]:List au)) 0)) _ _
 refine ae (aa (ai (Tr.k O (bC 2 111 aB ?_))))
 show Tr _ _ (uf _ 3 (sL none (([]:List au)) 0)) _ _
 refine ae (aa (av (ai (ax O (aH (bf rM) O (ax O (ae (aa (Tr.block (bO (σ:=(List aQ)×Nat×(List au)×(Option Addr)×Nat) (fun m w s=>m=s.1.length+1∧s.1=List.drop s.2.1 p0∧s.2.1≤p0.length∧dR N s.1 s.2.1 s.2.2.1=some r∧cO s.2.2.2.1 s.2.2.1.length s.2.2.2.2) (fun s=>[(3,sL s.2.2.2.1 s.2.2.1 s.2.2.2.2),(7,sL y p0 A),(8,iv (p0.length:Int)),(9,iv (s.2.1:Int))]) (fun s=>[(2,ow s.2.2.2.1 s.2.2.2.2 111 aB s.2.2.1)]) (p0.length+1) (p0,0,([]:List au),none,0) ⟨O,O,Nat.zero_le _,H,gZ⟩ (.r O) (.r O) (fun _ _ h=>absurd h.1 (by simp)) ?_))))))))))
 intro w M m s hs
 obtain⟨j,J,K,G,I⟩:=s
 obtain⟨Q,F,b3,H,L⟩:=hs
 replace F:j=List.drop J p0:=F
 replace H:dR N j J K=some r:=H
 replace Q:m+1=j.length+1:=Q
 replace E:=E.kL M
 replace leB:=leB.trans M
 replace L:cO G K.length I:=L
 obtain rfl:m=j.length:=by omega
 clear Q
 dsimp only
 cases j with
 |nil=>
  rw[dR.eq_1] at H
  refine ai (ay aR O O (ae (aa (av (bX O (bN F) (bK (aA (aA (aP (aa (ai (ax O (Tr.k O (ae (aa (aO ?_))))))))))))))))
  obtain rfl:=oI H
  exact bL (m:=[sL G K I]) [] (aU O bD) (fun W hW=>⟨(G,I),O,L,HF.ry leB (hW.pick (ks:=[2]) (by decide) (aN O bg)) ⟨kM _ _ _ _ jb,trivial⟩⟩)
 | cons c j=>
  rw[dR.eq_2] at H
  refine ai (ay aR O O (ae (aa (av (bY O (cu F) (aJ (aa (av (Tr.block (ai ?_))))))))))
  obtain⟨b0,U,T,V⟩:=(E).el (dI F)
  obtain⟨f,g⟩:=b0
  have i:=T
  replace i:Sl w.R w.W az f g c.Xs:=i
  refine aC O (fun _ _ a d=>ak nL (a.ev O) E.form (a.ev O) (Int.natCast_nonneg _) (aX F)) (aC O (fun _ _ a d=>aM (cs:=[iv c.Y0,iv c.Y1,sL f c.Xs g]) CZ uE (a.ev O) (aF.take (qY U V d) 3) O) (Tr.alloc 11 (wn O) O Eu fun q=>(bF 11 (cs:=[iv c.Y0,iv c.Y1,sL f c.Xs g]) [iv c.Y0,iv c.Y1,sL f c.Xs g] (wn O) O O O O uE O O O (ae (aa (ai (Tr.k O (ae (aa (Tr.block (bO (σ:=(List au)×Int×(Option Addr)×Nat) (fun m w s=>fQ (dR N j (J+1)) c m s.1 s.2.1=some r∧cO s.2.2.1 s.1.length s.2.2.2) (fun s=>[(3,sL s.2.2.1 s.1 s.2.2.2),(5,pV q),(6,iv s.2.1),(7,sL y p0 A),(8,iv (p0.length:Int)),(9,iv (J:Int))]) (fun s=>[(2,ow s.2.2.1 s.2.2.2 111 aB s.1),(11,bx q #[iv c.Y0,iv c.Y1,sL f c.Xs g] 123)]) N (K,0,G,I) ⟨H,L⟩ (.r O) (.r O) (fun _ _ h=>mW (h.1)) ?_)))))))))))
  intro w a' b2 s hs
  obtain⟨D,v,B,C⟩:=s
  obtain⟨H,P⟩:=hs
  replace H:fQ (dR N j (J+1)) c (b2+1) D v=some r:=H
  replace i:=i.kL a'
  replace E:=E.kL a'
  replace M:=M.trans a'
  replace P:cO B D.length C:=P
  rw[fQ.eq_2] at H
  dsimp only
  refine av (ai (ax O (aH (ag lU) O (aC O (fun _ _ a d=>ah gU (a.ev O) (bR d (vs:=[iv c.Y0,iv c.Y1,sL f c.Xs g]) (k:=11) O 2) O) (aH (bf jN) O (ay aR O O (ae (aa (aT O H (fun H=>?_) (fun H=>?_))))))))))
  ·refine aJ (aa (av (Tr.block ?_)))
   obtain⟨o,a5,H⟩:=bnd H
   obtain⟨X,Z,a0⟩:=bi a5
   obtain⟨p,a6,H⟩:=bnd H
   obtain⟨a1,a2,a3⟩:=bi a6
   refine xz 18 [(17,.makeFunc (.func 0) #[] #[.tmp 36])] [(17,⟨37,14,.func (.func 0) #[] #[.agg #[iv o,iv c.Y0,iv p,iv c.Y1]],fun b=>.slice (some ⟨b,0,none⟩) 1 1,fun b=>bx b #[iv o,iv c.Y0,iv p,iv c.Y1] 111⟩)] [(3,sL B D C),(5,pV q),(6,iv v),(7,sL y p0 A),(8,iv (p0.length:Int)),(9,iv (J:Int)),(13,iv v),(14,.pointer (some ⟨q,2,none⟩)),(15,sL f c.Xs g),(16,iv (c.Xs.length:Int)),(17,bV (decide (v<(c.Xs.length:Int)))),(20,sL B D C),(21,.pointer (some ⟨q,2,none⟩)),(22,sL f c.Xs g),(23,iv v),(24,.pointer (some ⟨mY f,qj f+(v).toNat*1,none⟩)),(25,iv o),(26,pV q),(27,iv c.Y0),(28,.pointer (some ⟨q,2,none⟩)),(29,sL f c.Xs g),(30,iv v),(31,iv (bJ (v+1))),(32,.pointer (some ⟨mY f,qj f+((bJ (v+1))).toNat*1,none⟩)),(33,iv p),(34,.pointer (some ⟨q,1,none⟩)),(35,iv c.Y1),(36,.agg #[iv o,iv c.Y0,iv p,iv c.Y1]),(37,.func (.func 0) #[] #[.agg #[iv o,iv c.Y0,iv p,iv c.Y1]])] (by kernel_rfl) (by kernel_rfl) (by kernel_rfl) (by kernel_rfl) (by kernel_rfl) (by kernel_rfl) (by kernel_rfl) (kN (H7 (vs:=[(0,.agg #[iv o,iv c.Y0,iv p,iv c.Y1])]) O O O (by kernel_rfl)) lV) (kN O lV) (kN O lV) ?_ ?_
   ·refine eY O (dA (ag lU) O (bv O (fun _ _ a d=>ah gU (a.ev O) (bR d (vs:=[iv c.Y0,iv c.Y1,sL f c.Xs g]) (k:=11) O 2) O) (eY O (bv O (fun _ _ a d=>ak iX (a.ev O) i.form (a.ev O) X Z) (bv O (fun _ _ a d=>ah bG (a.ev O) (rP iH i a0 d) O) (dA (ag pX) O (bv O (fun _ _ a d=>ah bG (a.ev O) (bR d (vs:=[iv c.Y0,iv c.Y1,sL f c.Xs g]) (k:=11) O 0) O) (dA (ag lU) O (bv O (fun _ _ a d=>ah gU (a.ev O) (bR d (vs:=[iv c.Y0,iv c.Y1,sL f c.Xs g]) (k:=11) O 2) O) (eY O (iU bB O O (bv O (fun _ _ a d=>ak iX (a.ev O) i.form (a.ev O) a1 a2) (bv O (fun _ _ a d=>ah bG (a.ev O) (rP iH i a3 d) O) ?_)))))))))))))
    exact dA (ag nT) O (bv O (fun _ _ a d=>ah bG (a.ev O) (bR d (vs:=[iv c.Y0,iv c.Y1,sL f c.Xs g]) (k:=11) O 1) O) (xB (vs:=[(0,iv o),(1,iv c.Y0),(2,iv p),(3,iv c.Y1)]) (cs:=[iv o,iv c.Y0,iv p,iv c.Y1]) (wn O) O (bz O (bz O (bz O (bz O dE)))) (by kernel_rfl) (vg (vs:=[.agg #[iv o,iv c.Y0,iv p,iv c.Y1]]) (wn O) O (aj O aG) (bW (.r O)))))
   ·intro S
    refine Tr.vC (lf:=[(5,pV q),(6,iv v),(7,sL y p0 A),(8,iv (p0.length:Int)),(9,iv (J:Int)),(20,sL B D C),(37,.slice (some ⟨(S 17),0,none⟩) 1 1)]) (le:=[(2,ow B C 111 aB D),(11,bx q #[iv c.Y0,iv c.Y1,sL f c.Xs g] 123),(14,bx (S 17) #[iv o,iv c.Y0,iv p,iv c.Y1] 111)]) (.r O) (.r O) ?_
    obtain⟨b1,a7,H⟩:=bnd H
    exact Tr.append 2 (t:=aB) (l:=D) (l2:=[(au.mk o c.Y0 p c.Y1)]) (wn O) O O O O (fun W hW=>⟨[[iv o,iv c.Y0,iv p,iv c.Y1]],(.cons ⟨(),trivial,O⟩ .nil),bR hW (vs:=[iv o,iv c.Y0,iv p,iv c.Y1]) (k:=14) O 0⟩) lS dh BJ (by decide) CS O a7 fun a8 a9 a4=>(Tr.k O (ae (aK (aa (Tr.region (ax O (ay bB O O (Tr.k O (ae (aI a' (b1,(bJ (v+2)),a8,a9) ⟨H,a4⟩ (.r O) (.r O)))))))))))
  ·exact bK (aA (aA (aP (aK (aa (Tr.region (ay bB O O (ax O (ae (aI M (j,(J+1),D,B,C) ⟨O,bT F,aX F,H,P⟩ (.cons O (.cons O (.cons O (.cons (congrArg (fun z=>some (Value.int .i64 z)) (bS F E.form)) .nil)))) (.r O)))))))))))

theorem vY{w:Bs}(p0:(List au))(g:Option Addr)(i:Nat)(f:Sl w.R w.W aB g i p0)(p1:(List au))(j:Option Addr)(l:Nat)(o:Sl w.R w.W aB j l p1)(r:Bool)(H:ky p0 p1=some r)(hE:HF w w.W E0):Calls Tryz.prog 75 [sL g p0 i,sL j p1 l].toArray w.W fun e W'=>e= .returned (bV r)∧HF w W' E0:=by
 unfold ky at H
 have leB:=Bs.Le.refl w
 refine aV (n:=26) Tryz.func75 O O O hE (ai (Tr.k O (ae (aa (av (ai (ax O (aH (bf lS) O (ax O (aH (bf lS) O (ay fM O O (ae (aa (aT O H (fun H=>?_) (fun H=>?_)))))))))))))))
 ·refine ai (Tr.k O (ae (aa (aO (aD ?_)))))
  obtain rfl:=oI H
  exact cB leB
 ·refine aJ (aa (av (ai (ax O (aH (bf lS) O (ax O (ae (aa (Tr.block (bO (σ:=(List au)×Nat) (fun m w s=>m=s.1.length+1∧s.1=List.drop s.2 p0∧s.2≤p0.length∧fF p1 s.1 s.2=some r) (fun s=>[(0,sL g p0 i),(1,sL j p1 l),(12,iv (p0.length:Int)),(13,iv (s.2:Int))]) (fun s=>[]) (p0.length+1) (p0,0) ⟨O,O,Nat.zero_le _,H⟩ (.r O) .nil (fun _ _ h=>absurd h.1 (by simp)) ?_))))))))))
  intro w q m s hs
  obtain⟨b,v⟩:=s
  obtain⟨u,c,D,H⟩:=hs
  replace c:b=List.drop v p0:=c
  replace H:fF p1 b v=some r:=H
  replace u:m+1=b.length+1:=u
  replace f:=f.kL q
  replace o:=o.kL q
  replace leB:=leB.trans q
  obtain rfl:m=b.length:=by omega
  clear u
  dsimp only
  cases b with
  |nil=>
   rw[fF.eq_1] at H
   refine ai (ay aR O O (ae (aa (av (bX O (bN c) (bK (aA (aA (aP (aa (ai (Tr.k O (ae (aa (aO ?_)))))))))))))))
   obtain rfl:=oI H
   exact cB leB
  | cons t b=>
   rw[fF.eq_2] at H
   refine ai (ay aR O O (ae (aa (av (bY O (cu c) (aJ (aa (av (Tr.block (ai (ax O (Tr.k O (ae (aa (av (ji (by kernel_rfl) (by kernel_rfl) (eY O (eY O (bv O (fun _ _ a d=>ak mP (a.ev O) f.form (a.ev O) (Int.natCast_nonneg _) (aX c)) (bv O (fun _ _ a d=>aM (cs:=[iv t.X0,iv t.Y0,iv t.X1,iv t.Y1]) gV dh (a.ev O) (aF.take (rP gm f (dI c) d) 4) O) (eY O (eY O ?_))))))))))))))))))))))
   obtain⟨p,C,H⟩:=bnd H
   obtain⟨y,A,B⟩:=bi C
   refine bv O (fun _ _ a d=>ak mP (a.ev O) o.form (a.ev O) y A) (bv O (fun _ _ a d=>aM (cs:=[iv p.X0,iv p.Y0,iv p.X1,iv p.Y1]) gV dh (a.ev O) (aF.take (rP gm o B d) 4) O) (iU (FC t p) O O (jD (aa (aT O H (fun H=>?_) (fun H=>?_))))))
   ·refine ai (Tr.k O (ae (aa (aO (bq (aD (aD (bq (aD ?_)))))))))
    obtain rfl:=oI H
    exact cB leB
   ·exact aJ (aK (aa (Tr.region (ay bB O O (ax O (ae (aI q (b,(v+1)) ⟨O,bT c,aX c,H⟩ (.cons O (.cons O (.cons O (.cons (congrArg (fun z=>some (Value.int .i64 z)) (bS c f.form)) .nil)))) .nil)))))))

theorem jv(N:Nat){w:Bs}(p0:(List au))(g:Option Addr)(j:Nat)(l:Sl w.R w.W aB g j p0)(r:Int)(H:fZ N p0=some r)(hE:HF w w.W E0):Calls Tryz.prog 38 [sL g p0 j].toArray w.W fun e W'=>e= .returned (iv r)∧HF w W' E0:=by
 unfold fZ at H
 have leB:=Bs.Le.refl w
 refine aV (n:=52) Tryz.func38 O O O hE (ai (Tr.k O (ae (aa (av (ai (ax O ?_)))))))
 obtain⟨K,X,H⟩:=bnd H
 refine bu (r:=(iv K)) (wn O) O Tryz.call74 (aj O aG) (fun W hW=>wR p0 g j (l.ext hW.bU) K X (HF.start _)) (Tr.k O (ae (aa (ai (ax O (ay fM O O (ae (aa (aT O H (fun H=>?_) (fun H=>?_))))))))))
 ·refine ai (ax O (Tr.k O (ae (aa (aO (aD ?_))))))
  obtain rfl:=oI H
  exact cB leB
 ·refine aJ (aa (av (ai (Tr.k O (ae (aa (Tr.block (bO (σ:=Int) (fun m w s=>dO N p0 m s=some r) (fun s=>[(0,sL g p0 j),(4,iv s)]) (fun s=>[]) N 1 H (.r O) .nil (fun _ _ h=>mW (h)) ?_))))))))
  intro w E a8 i hs
  have H:=hs
  replace H:dO N p0 (a8+1) i=some r:=H
  replace l:=l.kL E
  replace leB:=leB.trans E
  rw[dO.eq_2] at H
  show Tr _ _ (LF [(0,sL g p0 j),(4,iv i)]) (LE []) _
  refine av (ai (ax O (ax O (aH (bf lS) O (ay aR O O (ae (aa (aT O H (fun H=>?_) (fun H=>?_)))))))))
  ·refine aJ (aa (av (Tr.block (av (qa 12 [] [11] (by kernel_rfl) (by kernel_rfl) fun C F a7=>(gM 0 [(18,sL g p0 j)] (by kernel_rfl) O O (by kernel_rfl) ?_ O O ?_))))))
   ·exact eY O (bW (.r O))
   refine gM 1 [(19,iv i)] (by kernel_rfl) O O (by kernel_rfl) ?_ O O ?_
   ·exact eY O (bW (.r O))
   refine gM 2 [(20,iv (bJ (i-1)))] (by kernel_rfl) O O (by kernel_rfl) ?_ O O ?_
   ·exact iU iP O O (bW (.r O))
   obtain⟨c,Z,H⟩:=bnd H
   obtain⟨L,M,P⟩:=bi Z
   refine gM 3 [(21,.pointer (some ⟨mY g,qj g+((bJ (i-1))).toNat*4,none⟩))] (by kernel_rfl) O O (by kernel_rfl) ?_ O O ?_
   ·exact bv O (fun _ _ a d=>ak mP (a.ev O) l.form (a.ev O) L M) (bW (.r O))
   refine gM 4 [(22,.agg #[iv c.X0,iv c.Y0,iv c.X1,iv c.Y1])] (by kernel_rfl) O O (by kernel_rfl) ?_ O O ?_
   ·exact bv O (fun _ _ a d=>aM (cs:=[iv c.X0,iv c.Y0,iv c.X1,iv c.Y1]) gV dh (a.ev O) (aF.take (rP gm l P d) 4) O) (bW (.r O))
   refine bE 5 (by kernel_rfl) O (wn O) O (by kernel_rfl) (fun _ _ a=>run_move (a.ev O)) O (bE 6 (by kernel_rfl) O (wn O) O (by kernel_rfl) (fun _ _ a=>run_move (a.ev O)) O ?_)
   obtain⟨f,a0,H⟩:=bnd H
   obtain⟨Q,S,T⟩:=bi a0
   refine bE 7 (by kernel_rfl) O (wn O) O (by kernel_rfl) (fun _ _ a=>ak mP (a.ev O) l.form (a.ev O) Q S) O (iF 8 [(26,.agg #[iv f.X0,iv f.Y0,iv f.X1,iv f.Y1])] [] true (by kernel_rfl) O O (by kernel_rfl) (fun W W' d hsW hk=>HF.pW (le:=[]) (ks:=[]) (s0:=C) true d hk (fun _=>F) .nil (fun b hb=>hb.elim (fun⟨_,hp,_⟩=>nomatch hp) (fun hb=>.inr ⟨O,hb.2,(fun _ h=>nomatch h)⟩)) (fun _ h=>nomatch h) O) ?_ O O ?_)
   ·exact bv O (fun _ _ a d=>aM (cs:=[iv f.X0,iv f.Y0,iv f.X1,iv f.Y1]) gV dh (a.ev O) (aF.take (rP gm l T d) 4) O) (bW (.r O))
   refine Dr.cut (U:=Nat×Nat) [9,10] 1 (fun u=>C≤u.1∧C≤u.2) (fun u=>[(0,sL g p0 j),(4,iv i),(5,.pointer (some ⟨u.1,0,none⟩)),(6,.pointer (some ⟨u.2,0,none⟩)),(12,iv i),(13,sL g p0 j),(14,iv (p0.length:Int)),(15,bV (decide (i<(p0.length:Int)))),(18,sL g p0 j),(19,iv i),(20,iv (bJ (i-1))),(21,.pointer (some ⟨mY g,qj g+((bJ (i-1))).toNat*4,none⟩)),(22,.agg #[iv c.X0,iv c.Y0,iv c.X1,iv c.Y1]),(23,sL g p0 j),(24,iv i),(25,.pointer (some ⟨mY g,qj g+(i).toNat*4,none⟩)),(26,.agg #[iv f.X0,iv f.Y0,iv f.X1,iv f.Y1])]) (fun u=>[(5,bx u.1 #[iv 0,iv 0,iv 0,iv 0] 111),(6,bx u.2 #[iv 0,iv 0,iv 0,iv 0] 111)]) ?_ ?_
   ·intro hC
    refine Dr.pair 9 10 (by kernel_rfl) ?_ ?_
    ·exact St.alloc 9 5 O (wn O) O lK fun o q=>(Dr.one 10 (by kernel_rfl) (St.alloc 10 6 O (wn O) O lK fun p D=>((hC ⟨o,p⟩ ⟨q,D⟩).use (by kernel_rfl) (.r O) (.r O))))
    ·exact St.alloc 10 6 O (wn O) O lK fun p D=>(Dr.one 9 (by kernel_rfl) (St.alloc 9 5 O (wn O) O lK fun o q=>((hC ⟨o,p⟩ ⟨q,D⟩).use (by kernel_rfl) (.r O) (.r O))))
   intro u hu
   obtain⟨o,p⟩:=u
   obtain⟨q,D⟩:=hu
   replace q:C≤o:=q
   dsimp only
   refine Dr.one 11 (by kernel_rfl) (vk 11 5 (cs:=[iv c.X0,iv c.Y0,iv c.X1,iv c.Y1]) [iv c.X0,iv c.Y0,iv c.X1,iv c.Y1] O (wn O) (.inr ⟨by simp,q⟩) O O O O dh O O O (rH (by kernel_rfl) (bF 6 (cs:=[iv f.X0,iv f.Y0,iv f.X1,iv f.Y1]) [iv f.X0,iv f.Y0,iv f.X1,iv f.Y1] (wn O) O O O O dh O O O (ae (aa (ai (aH (ag jK) O (aC O (fun _ _ a d=>ah bG (a.ev O) (bR d (vs:=[iv f.X0,iv f.Y0,iv f.X1,iv f.Y1]) (k:=6) O 1) O) (aH (ag jK) O (aC O (fun _ _ a d=>ah bG (a.ev O) (bR d (vs:=[iv c.X0,iv c.Y0,iv c.X1,iv c.Y1]) (k:=5) O 1) O) (ay aR O O (ax O (bP 13 [(0,sL g p0 j),(4,iv i),(45,bV ((decide (f.Y0<c.Y0))||((f.Y0==c.Y0)&&(decide (f.X0≤c.X0)))))] [(5,bx o #[iv c.X0,iv c.Y0,iv c.X1,iv c.Y1] 111),(6,bx p #[iv f.X0,iv f.Y0,iv f.X1,iv f.Y1] 111)] ?_ ?_)))))))))))))
   ·cases a1:(decide (f.Y0<c.Y0))
    ·refine bH (ag jK) O (Tr.x (fun _ _ a d=>ah bG (a.ev O) (bR d (vs:=[iv f.X0,iv f.Y0,iv f.X1,iv f.Y1]) (k:=6) O 1) O) (bH (ag jK) O (Tr.x (fun _ _ a d=>ah bG (a.ev O) (bR d (vs:=[iv c.X0,iv c.Y0,iv c.X1,iv c.Y1]) (k:=5) O 1) O) (Tr.e2 iA O O (bH run_move O (bP 6 [(0,sL g p0 j),(4,iv i),(32,bV false),(44,bV ((f.Y0==c.Y0)&&(decide (f.X0≤c.X0))))] [(5,bx o #[iv c.X0,iv c.Y0,iv c.X1,iv c.Y1] 111),(6,bx p #[iv f.X0,iv f.Y0,iv f.X1,iv f.Y1] 111)] ?_ ?_))))))
     ·cases a1:(f.Y0==c.Y0)
      ·exact Tr.ps O (Tr.ps O (Tr.ps O (Tr.ps O (Tr.ps O (Tr.e2 aZ O O (ae (aS (.r O) (.r O))))))))
      ·exact bH (ag jd) O (Tr.x (fun _ _ a d=>ah bG (a.ev O) (bR d (vs:=[iv f.X0,iv f.Y0,iv f.X1,iv f.Y1]) (k:=6) O 0) O) (bH (ag jd) O (Tr.x (fun _ _ a d=>ah bG (a.ev O) (bR d (vs:=[iv c.X0,iv c.Y0,iv c.X1,iv c.Y1]) (k:=5) O 0) O) (Tr.e2 jY O O (Tr.e2 aW O O (ae (aS (.r O) (.r O))))))))
     ·dsimp only
      exact ay aZ O O (ae (aS (.r O) (.r O)))
    ·exact Tr.ps O (Tr.ps O (Tr.ps O (Tr.ps O (Tr.ps O (Tr.ps O (gN O (gN O (gN O (gN O (gN O (Tr.ps O (ay aW O O (ae (aS (.r O) (.r O)))))))))))))))
   ·show Tr _ _ (LF [(0,sL g p0 j),(4,iv i),(45,bV ((decide (f.Y0<c.Y0))||((f.Y0==c.Y0)&&(decide (f.X0≤c.X0)))))]) (LE [(5,bx o #[iv c.X0,iv c.Y0,iv c.X1,iv c.Y1] 111),(6,bx p #[iv f.X0,iv f.Y0,iv f.X1,iv f.Y1] 111)]) _
    refine ae (aa (aT O H (fun H=>?_) (fun H=>?_)))
    ·refine ai (Tr.k O (ae (aa (aO (bq (aD (aD (bq (aD ?_)))))))))
     obtain rfl:=oI H
     exact cB leB
    ·exact aJ (aK (aa (Tr.region (ax O (ay bB O O (Tr.k O (ae (aI E (bJ (i+1)) H (.r O) .nil))))))))
  ·refine bK (aA (aA (aP (aa (av (ai (ax O ?_)))))))
   obtain⟨t,a2,H⟩:=bnd H
   refine eZ [7] [emp] (U:=(Option Addr×Nat)) (fun u=>(sL u.1 t u.2)) (fun a9 W u=>cO u.1 t.length u.2) (fun u=>[ow u.1 u.2 123 aY t]) O (aN O bg) (fun _=>O) (wn O) O Tryz.call47 (aj O aG) (fun W hW hp hE=>jm N p0 g j (l.ext (hW.dU hp)) t a2 hE) ?_
   intro w u G hu
   obtain⟨y,z⟩:=u
   have I:=hu
   replace l:=l.kL G
   replace leB:=leB.trans G
   have a5:cO y t.length z:=I --@phi
   dsimp only
   obtain⟨v,a3,H⟩:=bnd H
   refine gG [8] [emp] (U:=(Option Addr×Nat)) (fun u=>(sL u.1 v u.2)) (fun u=>cO u.1 v.length u.2) (fun u=>[ow u.1 u.2 111 aB v]) O (aN O bg) (fun _=>O) (wn O) O Tryz.call48 (aj O aG) (fun W hW hp hE=>jI N t y z (hW.Ha (k:=7) O hp O) v a3 hE) ?_
   intro u hu
   obtain⟨A,B⟩:=u
   have J:=hu
   have a6:cO A v.length B:=J --@phi
   dsimp only
   refine ax O ?_
   obtain⟨V,a4,H⟩:=bnd H
   refine bu (r:=(bV V)) (wn O) O Tryz.call75 (aj O (aj O aG)) (fun W hW=>vY v A B (hW.oD (k:=8) O) p0 g j (l.ext hW.bU) V a4 (HF.start _)) (aH iQ O (ae (aa (aT O H (fun H=>?_) (fun H=>?_)))))
   ·refine ai (Tr.k O (ae (aa (aO (aD ?_)))))
    obtain rfl:=oI H
    exact cB leB
   ·refine aJ (aa (ai (Tr.k O (ae (aa (aO ?_))))))
    obtain rfl:=oI H
    exact cB leB

theorem wS(N:Nat){w:Bs}(p0:gp)(j:Option Addr)(l:Nat)(L:Sl w.R w.W iW j l p0.Classes)(c:Option Addr)(f:Nat)(t:Sl w.R w.W jh c f p0.Areas)(r:Int)(H:kS N p0=some r)(hE:HF w w.W E0):Calls Tryz.prog 25 [.agg #[iv p0.Clearance,iv p0.Width,iv p0.Ring,iv p0.Edge,iv p0.HoleGap,sL j p0.Classes l,sL c p0.Areas f]].toArray w.W fun e W'=>e= .returned (iv r)∧HF w W' E0:=by
 unfold kS at H
 have leB:=Bs.Le.refl w
 refine aV (n:=59) Tryz.func25 O O O hE (ai (fw 1 (cs:=[iv p0.Clearance,iv p0.Width,iv p0.Ring,iv p0.Edge,iv p0.HoleGap,sL j p0.Classes l,sL c p0.Areas f]) (wn O) O O O fun V=>(Tr.k O (ae (aa (av (ai (aH (ag BG) O (aC O (fun _ _ a d=>ah bG (a.ev O) (bR d (vs:=[iv p0.Clearance,iv p0.Width,iv p0.Ring,iv p0.Edge,iv p0.HoleGap,sL j p0.Classes l,sL c p0.Areas f]) (k:=1) O 0) O) (aH (ag Ob) O (aC O (fun _ _ a d=>ah bG (a.ev O) (bR d (vs:=[iv p0.Clearance,iv p0.Width,iv p0.Ring,iv p0.Edge,iv p0.HoleGap,sL j p0.Classes l,sL c p0.Areas f]) (k:=1) O 1) O) (aH (ag Oa) O (aC O (fun _ _ a d=>ah bG (a.ev O) (bR d (vs:=[iv p0.Clearance,iv p0.Width,iv p0.Ring,iv p0.Edge,iv p0.HoleGap,sL j p0.Classes l,sL c p0.Areas f]) (k:=1) O 2) O) (aH (ag N9) O (aC O (fun _ _ a d=>ah bG (a.ev O) (bR d (vs:=[iv p0.Clearance,iv p0.Width,iv p0.Ring,iv p0.Edge,iv p0.HoleGap,sL j p0.Classes l,sL c p0.Areas f]) (k:=1) O 3) O) (aH (ag N8) O (aC O (fun _ _ a d=>ah bG (a.ev O) (bR d (vs:=[iv p0.Clearance,iv p0.Width,iv p0.Ring,iv p0.Edge,iv p0.HoleGap,sL j p0.Classes l,sL c p0.Areas f]) (k:=1) O 4) O) ?_)))))))))))))))))
 refine eD 2 (e:=3) (vs:=[(0,iv p0.Clearance),(1,iv p0.Width),(2,iv p0.Ring),(3,iv p0.Edge),(4,iv p0.HoleGap)]) (cs:=[iv p0.Clearance,iv p0.Width,iv p0.Ring,iv p0.Edge,iv p0.HoleGap]) (wn O) O (bz O (bz O (bz O (bz O (bz O dE))))) (by kernel_rfl) fun T=>(Tr.own 2 az [p0.Clearance,p0.Width,p0.Ring,p0.Edge,p0.HoleGap] (css:=[[iv p0.Clearance],[iv p0.Width],[iv p0.Ring],[iv p0.Edge],[iv p0.HoleGap]]) O (.cons ⟨(),trivial,O⟩ (.cons ⟨(),trivial,O⟩ (.cons ⟨(),trivial,O⟩ (.cons ⟨(),trivial,O⟩ (.cons ⟨(),trivial,O⟩ .nil))))) O (by decide) (xU O) ?_)
 obtain⟨D,M,H⟩:=bnd H
 refine bu (r:=(bV D)) (wn O) O Tryz.call56 (aj O (aj O aG)) (fun W hW=>su [p0.Clearance,p0.Width,p0.Ring,p0.Edge,p0.HoleGap] (some ⟨T,0,none⟩) 5 (hW.oD (k:=2) O) (fun z0=>ed z0) 57 [] Tryz.call57 (fun w' he z0 y hy=>vB z0 y hy (HF.start _)) D M (HF.start _)) (ae (aa (aT O H (fun H=>?_) (fun H=>?_))))
 ·refine ai (Tr.k O (ae (aa (aO (aD ?_)))))
  obtain rfl:=oI H
  exact cB leB
 ·refine aJ (aa (av (ai (aH (ag Jh) O (aC O (fun _ _ a d=>ah Pj (a.ev O) (bR d (vs:=[iv p0.Clearance,iv p0.Width,iv p0.Ring,iv p0.Edge,iv p0.HoleGap,sL j p0.Classes l,sL c p0.Areas f]) (k:=1) O 5) O) ?_)))))
  obtain⟨E,a0,H⟩:=bnd H
  refine bu (r:=(iv E)) (wn O) O Tryz.call59 (aj O aG) (fun W hW=>vz p0.Classes j l (L.ext hW.bU) E a0 (HF.start _)) (Tr.k O (ae (aa (ai (ax O (ay fM O O (ae (aa (aT O H (fun H=>?_) (fun H=>?_))))))))))
  ·refine ai (ax O (Tr.k O (ae (aa (aO (aD ?_))))))
   obtain rfl:=oI H
   exact cB leB
  ·refine aJ (aa (av (ai (aH (ag EP) O (aC O (fun _ _ a d=>ah MO (a.ev O) (bR d (vs:=[iv p0.Clearance,iv p0.Width,iv p0.Ring,iv p0.Edge,iv p0.HoleGap,sL j p0.Classes l,sL c p0.Areas f]) (k:=1) O 6) O) (aH (bf KQ) O (ay iG O O (ae (aa (aT O H (fun H=>?_) (fun H=>?_)))))))))))
   ·refine ai (Tr.k O (ae (aa (aO (aD ?_)))))
    obtain rfl:=oI H
    exact cB leB
   ·refine aJ (aa (ai (Tr.k O (ae (aa (av (ai (aH (ag EP) O (aC O (fun _ _ a d=>ah MO (a.ev O) (bR d (vs:=[iv p0.Clearance,iv p0.Width,iv p0.Ring,iv p0.Edge,iv p0.HoleGap,sL j p0.Classes l,sL c p0.Areas f]) (k:=1) O 6) O) (aH (bf KQ) O (ax O (ae (aa (Tr.block (bO (σ:=(List mE)×Nat×Int) (fun m w s=>m=s.1.length+1∧s.1=List.drop s.2.1 p0.Areas∧s.2.1≤p0.Areas.length∧jJ N s.1 s.2.1 s.2.2=some r) (fun s=>[(4,iv s.2.2),(31,sL c p0.Areas f),(32,iv (p0.Areas.length:Int)),(33,iv (s.2.1:Int))]) (fun s=>[]) (p0.Areas.length+1) (p0.Areas,0,0) ⟨O,O,Nat.zero_le _,H⟩ (.r O) .nil (fun _ _ h=>absurd h.1 (by simp)) ?_)))))))))))))))
    intro w u m s hs
    obtain⟨o,B,v⟩:=s
    obtain⟨A,p,X,H⟩:=hs
    replace p:o=List.drop B p0.Areas:=p
    replace H:jJ N o B v=some r:=H
    replace A:m+1=o.length+1:=A
    replace t:=t.kL u
    replace leB:=leB.trans u
    obtain rfl:m=o.length:=by omega
    clear A
    dsimp only
    cases o with
    | nil=>
     rw[jJ.eq_1] at H
     refine ai (ay aR O O (ae (aa (av (bX O (bN p) (bK (aA (aA (aP (aa (av (ai (ax O (ay iG O O (ae (aa (aT O H (fun H=>?_) (fun H=>?_))))))))))))))))))
     ·refine ai (Tr.k O (ae (aa (aO (aD ?_)))))
      obtain rfl:=oI H
      exact cB leB
     ·refine aJ (aa (ai (Tr.k O (ae (aa (aO ?_))))))
      obtain rfl:=oI H
      exact cB leB
    | cons b o=>
     rw[jJ.eq_2] at H
     refine ai (ay aR O O (ae (aa (av (bY O (cu p) (aJ (aa (av (Tr.block (ai ?_))))))))))
     obtain⟨U,F,C,G⟩:=(t).el (dI p)
     obtain⟨g,i⟩:=U
     have q:=C
     replace q:Sl w.R w.W aB g i b.Region:=q
     refine aC O (fun _ _ a d=>ak Pb (a.ev O) t.form (a.ev O) (Int.natCast_nonneg _) (aX p)) (aC O (fun _ _ a d=>aM (cs:=[iv b.Layer,sL g b.Region i,iv b.Clearance]) Im BP (a.ev O) (aF.take (qY F G d) 3) O) (Tr.alloc 5 (wn O) O KG fun Z=>(bF 5 (cs:=[iv b.Layer,sL g b.Region i,iv b.Clearance]) [iv b.Layer,sL g b.Region i,iv b.Clearance] (wn O) O O O O BP O O O (ae (aa (av (ai (aH (ag CB) O (aC O (fun _ _ a d=>ah bG (a.ev O) (bR d (vs:=[iv b.Layer,sL g b.Region i,iv b.Clearance]) (k:=5) O 0) O) ?_)))))))))
     obtain⟨I,P,H⟩:=bnd H
     refine bu (r:=(bV I)) (wn O) O Tryz.call60 (aj O (aj O (aj O aG))) (fun W hW=>uz b.Layer (-1) 15 I P (HF.start _)) (aH iQ O (ae (aa (aT O H (fun H=>?_) (fun H=>?_)))))
     ·refine ai (Tr.k O (ae (aa (aO (aD (bq (aD (aD (bq (aD ?_))))))))))
      obtain rfl:=oI H
      exact cB leB
     ·refine aJ (aa (av (ai (aH (ag Cz) O (aC O (fun _ _ a d=>ah tQ (a.ev O) (bR d (vs:=[iv b.Layer,sL g b.Region i,iv b.Clearance]) (k:=5) O 1) O) ?_)))))
      obtain⟨J,Q,H⟩:=bnd H
      refine bu (r:=(iv J)) (wn O) O Tryz.call38 (aj O aG) (fun W hW=>jv N b.Region g i (q.ext hW.bU) J Q (HF.start _)) (Tr.k O (ae (aa (ai (ax O (ay fM O O (ae (aa (aT O H (fun H=>?_) (fun H=>?_))))))))))
      ·refine ai (ax O (Tr.k O (ae (aa (aO (aD (bq (aD (aD (bq (aD ?_)))))))))))
       obtain rfl:=oI H
       exact cB leB
      ·refine aJ (aa (av (ai (aH (ag Gh) O (aC O (fun _ _ a d=>ah bG (a.ev O) (bR d (vs:=[iv b.Layer,sL g b.Region i,iv b.Clearance]) (k:=5) O 2) O) ?_)))))
       obtain⟨K,S,H⟩:=bnd H
       refine bu (r:=(bV K)) (wn O) O Tryz.call58 (aj O aG) (fun W hW=>uA b.Clearance K S (HF.start _)) (aH iQ O (ae (aa (aT O H (fun H=>?_) (fun H=>?_)))))
       ·refine ai (Tr.k O (ae (aa (aO (aD (bq (aD (aD (bq (aD ?_))))))))))
        obtain rfl:=oI H
        exact cB leB
       ·exact aJ (aa (Tr.region (ax O (aH (ag Cz) O (aC O (fun _ _ a d=>ah tQ (a.ev O) (bR d (vs:=[iv b.Layer,sL g b.Region i,iv b.Clearance]) (k:=5) O 1) O) (aH (bf lS) O (ay bB O O (Tr.k O (ae (aK (aa (Tr.region (ay bB O O (ax O (ae (aI u (o,(B+1),(bJ (v+(b.Region.length:Int)))) ⟨O,bT p,aX p,H⟩ (.cons O (.cons O (.cons O (.cons (congrArg (fun z=>some (Value.int .i64 z)) (bS p t.form)) .nil)))) .nil))))))))))))))))

theorem mf{w:Bs}(p0:Int)(p1:Int)(p2:Int)(r:Bool)(H:iO p0 p1 p2=some r)(hE:HF w w.W E0):Calls Tryz.prog 19 [iv p0,iv p1,iv p2].toArray w.W fun e W'=>e= .returned (bV r)∧HF w W' E0:=by
 unfold iO at H
 have leB:=Bs.Le.refl w
 refine aV (n:=15) Tryz.func19 O O O hE (ai (Tr.k O (ae (aa (ai (ax O (ax O (ay oh O O (ax O (bP 4 [(14,bV ((decide (p1≤p0))&&(decide (p0≤p2))))] [] ?_ ?_))))))))))
 ·cases a:(decide (p1≤p0))
  ·exact Tr.ps O (Tr.ps O (Tr.ps O (ay aZ O O (ae (aS (.r O) .nil)))))
  ·exact bH run_move O (bH run_move O (Tr.e2 jY O O (ay aW O O (ae (aS (.r O) .nil)))))
 ·show Tr _ _ (LF [(14,bV ((decide (p1≤p0))&&(decide (p0≤p2))))]) (LE []) _
  refine Tr.k O (ae (aa (aO ?_)))
  obtain rfl:=oI H
  exact cB leB

theorem tY{w:Bs}(p0:fC)(r:Bool)(H:mJ p0=some r)(hE:HF w w.W E0):Calls Tryz.prog 78 [.agg #[iv p0.X,iv p0.Y]].toArray w.W fun e W'=>e= .returned (bV r)∧HF w W' E0:=by
 unfold mJ at H
 have leB:=Bs.Le.refl w
 refine aV (n:=11) Tryz.func78 O O O hE (ai (fw 1 (cs:=[iv p0.X,iv p0.Y]) (wn O) O O O fun g=>(Tr.k O (ae (aa (ai (aH (ag uu) O (aC O (fun _ _ a d=>ah bG (a.ev O) (bR d (vs:=[iv p0.X,iv p0.Y]) (k:=1) O 0) O) ?_))))))))
 obtain⟨c,j,H⟩:=bnd H
 refine bu (r:=(bV c)) (wn O) O Tryz.call119 (aj O aG) (fun W hW=>mK p0.X c j (HF.start _)) (ax O ?_)
 obtain⟨h,b,H⟩:=bnd H
 refine bP 4 [(10,bV h)] [(1,bx g #[iv p0.X,iv p0.Y] 48)] ?_ ?_
 ·cases f:c
  ·rw[f] at b
   rw[if_neg (by decide)] at b
   have H:=b
   obtain rfl:=oI H
   exact Tr.ps O (Tr.ps O (Tr.ps O (ay aZ O O (ae (aS (.r O) (.r O))))))
  ·rw[f] at b
   rw[if_pos O] at b
   have H:=b
   refine bH (ag rD) O (Tr.x (fun _ _ a d=>ah bG (a.ev O) (bR d (vs:=[iv p0.X,iv p0.Y]) (k:=1) O 1) O) ?_)
   obtain⟨i,l,H⟩:=bnd H
   refine bu (r:=(bV i)) (wg O O O) O Tryz.call119 (aj O aG) (fun W hW=>mK p0.Y i l (HF.start _)) (ay aW O O ?_)
   obtain rfl:=oI H
   exact ae (aS (.r O) (.r O))
 ·show Tr _ _ (LF [(10,bV h)]) (LE [(1,bx g #[iv p0.X,iv p0.Y] 48)]) _
  refine Tr.k O (ae (aa (aO ?_)))
  obtain rfl:=oI H
  exact cB leB

theorem jT{w:Bs}(p0:gP)(r:au)(H:iY p0=some r)(hE:HF w w.W E0):Calls Tryz.prog 42 [.agg #[iv p0.At.X,iv p0.At.Y,iv p0.Size,iv p0.From,iv p0.To,bV p0.Plated]].toArray w.W fun e W'=>e= .returned (.agg #[iv r.X0,iv r.Y0,iv r.X1,iv r.Y1])∧HF w W' E0:=by
 unfold iY at H
 have leB:=Bs.Le.refl w
 refine aV (n:=30) Tryz.func42 O O O hE (ai (fw 1 (cs:=[iv p0.At.X,iv p0.At.Y,iv p0.Size,iv p0.From,iv p0.To,bV p0.Plated]) (wn O) O O O fun b=>(Tr.alloc 2 (wn O) O lK fun c=>(ae (aa (av (ji (by kernel_rfl) (by kernel_rfl) (dA (ag CE) O (dA (ag uu) O (bv O (fun _ _ a d=>ah bG (a.ev O) (bR d (vs:=[iv p0.At.X,iv p0.At.Y,iv p0.Size,iv p0.From,iv p0.To,bV p0.Plated]) (k:=1) O 0) O) (dA (ag xm) O (bv O (fun _ _ a d=>ah bG (a.ev O) (bR d (vs:=[iv p0.At.X,iv p0.At.Y,iv p0.Size,iv p0.From,iv p0.To,bV p0.Plated]) (k:=1) O 2) O) (bv O (fun _ _ a d=>BA (a.ev O) (a.ev O) (by decide)) ?_)))))))))))))
 refine iU iP O O (dA (ag CE) O (dA (ag rD) O (bv O (fun _ _ a d=>ah bG (a.ev O) (bR d (vs:=[iv p0.At.X,iv p0.At.Y,iv p0.Size,iv p0.From,iv p0.To,bV p0.Plated]) (k:=1) O 1) O) (dA (ag xm) O (bv O (fun _ _ a d=>ah bG (a.ev O) (bR d (vs:=[iv p0.At.X,iv p0.At.Y,iv p0.Size,iv p0.From,iv p0.To,bV p0.Plated]) (k:=1) O 2) O) (bv O (fun _ _ a d=>BA (a.ev O) (a.ev O) (by decide)) (iU iP O O (nD O O (nD O O (jD (aa (ai (ax O (ax O (ax O (aH (ag xm) O (aC O (fun _ _ a d=>ah bG (a.ev O) (bR d (vs:=[iv p0.At.X,iv p0.At.Y,iv p0.Size,iv p0.From,iv p0.To,bV p0.Plated]) (k:=1) O 2) O) (ay bB O O (ax O (aH (ag xm) O (aC O (fun _ _ a d=>ah bG (a.ev O) (bR d (vs:=[iv p0.At.X,iv p0.At.Y,iv p0.Size,iv p0.From,iv p0.To,bV p0.Plated]) (k:=1) O 2) O) (ay bB O O (ko (vs:=[(0,iv (bJ (p0.At.X-(bJ (Int.tdiv p0.Size 2))))),(1,iv (bJ (p0.At.Y-(bJ (Int.tdiv p0.Size 2))))),(2,iv (bJ ((bJ (p0.At.X-(bJ (Int.tdiv p0.Size 2))))+p0.Size))),(3,iv (bJ ((bJ (p0.At.Y-(bJ (Int.tdiv p0.Size 2))))+p0.Size)))]) (cs:=[iv (bJ (p0.At.X-(bJ (Int.tdiv p0.Size 2)))),iv (bJ (p0.At.Y-(bJ (Int.tdiv p0.Size 2)))),iv (bJ ((bJ (p0.At.X-(bJ (Int.tdiv p0.Size 2))))+p0.Size)),iv (bJ ((bJ (p0.At.Y-(bJ (Int.tdiv p0.Size 2))))+p0.Size))]) (wn O) O (bz O (bz O (bz O (bz O dE)))) (by kernel_rfl) ?_)))))))))))))))))))))))
 refine bF 2 (cs:=[iv (bJ (p0.At.X-(bJ (Int.tdiv p0.Size 2)))),iv (bJ (p0.At.Y-(bJ (Int.tdiv p0.Size 2)))),iv (bJ ((bJ (p0.At.X-(bJ (Int.tdiv p0.Size 2))))+p0.Size)),iv (bJ ((bJ (p0.At.Y-(bJ (Int.tdiv p0.Size 2))))+p0.Size))]) [iv (bJ (p0.At.X-(bJ (Int.tdiv p0.Size 2)))),iv (bJ (p0.At.Y-(bJ (Int.tdiv p0.Size 2)))),iv (bJ ((bJ (p0.At.X-(bJ (Int.tdiv p0.Size 2))))+p0.Size)),iv (bJ ((bJ (p0.At.Y-(bJ (Int.tdiv p0.Size 2))))+p0.Size))] (wn O) O O O O dh O O O (ae (aa (aO ?_)))
 obtain rfl:=oI H
 exact bL (m:=[.agg #[iv (bJ (p0.At.X-(bJ (Int.tdiv p0.Size 2)))),iv (bJ (p0.At.Y-(bJ (Int.tdiv p0.Size 2)))),iv (bJ ((bJ (p0.At.X-(bJ (Int.tdiv p0.Size 2))))+p0.Size)),iv (bJ ((bJ (p0.At.Y-(bJ (Int.tdiv p0.Size 2))))+p0.Size))]]) [2] (mM O O gV dh bD) (fun W hW=>⟨O,hW.low leB⟩)

theorem wu{w:Bs}(p0:(List aQ))(c:Option Addr)(v:Nat)(o:Sl w.R w.W aY c v p0)(r:au)(H:lF p0=some r)(hE:HF w w.W E0):Calls Tryz.prog 104 [sL c p0 v].toArray w.W fun e W'=>e= .returned (.agg #[iv r.X0,iv r.Y0,iv r.X1,iv r.Y1])∧HF w W' E0:=by
 unfold lF at H
 have leB:=Bs.Le.refl w
 refine aV (n:=58) Tryz.func104 O O O hE (ai (Tr.alloc 1 (wn O) O lK fun J=>(ae (aa (av ?_)))))
 obtain⟨a1,d9,H⟩:=bnd H
 obtain⟨a2,a3,a4⟩:=bi d9
 obtain⟨f2,a5,U,a6⟩:=(o).el a4
 obtain⟨G,L⟩:=f2
 have B:=U
 replace B:Sl w.R w.W az G L a1.Xs:=B
 obtain⟨E,e0,H⟩:=bnd H
 obtain⟨a7,a8,a9⟩:=bi e0
 obtain⟨j,e3,H⟩:=bnd H
 obtain⟨b0,b1,b2⟩:=bi e3
 obtain⟨f3,b3,V,b4⟩:=(o).el b2
 obtain⟨f8,f9⟩:=f3
 have e9:=V
 obtain⟨b5,e4,H⟩:=bnd H
 obtain⟨b6,b7,b8⟩:=bi e4
 obtain⟨f4,b9,X,c0⟩:=(o).el b8
 obtain⟨I,M⟩:=f4
 have C:=X
 replace C:Sl w.R w.W az I M b5.Xs:=C
 obtain⟨F,e5,H⟩:=bnd H
 obtain⟨c3,c4,c5⟩:=bi e5
 obtain⟨l,e6,H⟩:=bnd H
 obtain⟨c6,c7,c8⟩:=bi e6
 obtain⟨f5,c9,Z,d0⟩:=(o).el c8
 obtain⟨g0,g1⟩:=f5
 have f1:=Z
 refine xz 25 [(24,.makeFunc (.func 0) #[] #[])] [(24,⟨3,2,.func (.func 0) #[] #[],fun b=>pV b,fun b=>bx b #[iv 0,iv 0,iv 0,iv 0] 111⟩)] [(0,sL c p0 v),(2,pV J),(3,.func (.func 0) #[] #[]),(6,sL c p0 v),(7,.pointer (some ⟨mY c,qj c+((0:Int)).toNat*3,none⟩)),(8,.pointer (some ⟨mY c,qj c+((0:Int)).toNat*3+2,none⟩)),(9,sL G a1.Xs L),(10,.pointer (some ⟨mY G,qj G+((0:Int)).toNat*1,none⟩)),(11,iv E),(12,sL c p0 v),(13,.pointer (some ⟨mY c,qj c+((0:Int)).toNat*3,none⟩)),(14,.pointer (some ⟨mY c,qj c+((0:Int)).toNat*3+0,none⟩)),(15,iv j.Y0),(16,sL c p0 v),(17,.pointer (some ⟨mY c,qj c+((0:Int)).toNat*3,none⟩)),(18,.pointer (some ⟨mY c,qj c+((0:Int)).toNat*3+2,none⟩)),(19,sL I b5.Xs M),(20,.pointer (some ⟨mY I,qj I+((1:Int)).toNat*1,none⟩)),(21,iv F),(22,sL c p0 v),(23,sL c p0 v),(24,iv (p0.length:Int)),(25,iv (bJ ((p0.length:Int)-1))),(26,.pointer (some ⟨mY c,qj c+((bJ ((p0.length:Int)-1))).toNat*3,none⟩)),(27,.pointer (some ⟨mY c,qj c+((bJ ((p0.length:Int)-1))).toNat*3+1,none⟩)),(28,iv l.Y1),(29,.agg #[iv E,iv j.Y0,iv F,iv l.Y1])] (by kernel_rfl) (by kernel_rfl) (by kernel_rfl) (by kernel_rfl) (by kernel_rfl) (by kernel_rfl) (by kernel_rfl) (kN (F9 O O lK) lV) (kN O lV) (kN O lV) ?_ ?_
 ·refine eY O (bv O (fun _ _ a d=>ak nL (a.ev O) o.form (a.ev O) a2 a3) (dA (ag lU) O (bv O (fun _ _ a d=>ah gU (a.ev O) (aF.drop (qY a5 a6 d) 2) O) (bv O (fun _ _ a d=>ak iX (a.ev O) B.form (a.ev O) a7 a8) (bv O (fun _ _ a d=>ah bG (a.ev O) (rP iH B a9 d) O) (eY O (bv O (fun _ _ a d=>ak nL (a.ev O) o.form (a.ev O) b0 b1) (dA (ag pX) O (bv O (fun _ _ a d=>ah bG (a.ev O) (aF.drop (qY b3 b4 d) 0) O) (eY O (bv O (fun _ _ a d=>ak nL (a.ev O) o.form (a.ev O) b6 b7) ?_)))))))))))
  refine dA (ag lU) O (bv O (fun _ _ a d=>ah gU (a.ev O) (aF.drop (qY b9 c0 d) 2) O) (bv O (fun _ _ a d=>ak iX (a.ev O) C.form (a.ev O) c3 c4) (bv O (fun _ _ a d=>ah bG (a.ev O) (rP iH C c5 d) O) (eY O (eY O (dA (bf rM) O (iU iP O O (bv O (fun _ _ a d=>ak nL (a.ev O) o.form (a.ev O) c6 c7) (dA (ag nT) O (bv O (fun _ _ a d=>ah bG (a.ev O) (aF.drop (qY c9 d0 d) 1) O) (xB (vs:=[(0,iv E),(1,iv j.Y0),(2,iv F),(3,iv l.Y1)]) (cs:=[iv E,iv j.Y0,iv F,iv l.Y1]) (wn O) O (bz O (bz O (bz O (bz O dE)))) (by kernel_rfl) (vg (vs:=[]) (wn O) O aG ?_))))))))))))
  exact bW (.r O)
 ·intro q
  refine Tr.vC (lf:=[(0,sL c p0 v),(2,pV J),(3,.pointer (some ⟨(q 24),0,none⟩)),(29,.agg #[iv E,iv j.Y0,iv F,iv l.Y1])]) (le:=[(1,bx J #[iv 0,iv 0,iv 0,iv 0] 111),(2,bx (q 24) #[iv 0,iv 0,iv 0,iv 0] 111)]) (.r O) (.r O) (bF 2 (cs:=[iv E,iv j.Y0,iv F,iv l.Y1]) [iv E,iv j.Y0,iv F,iv l.Y1] (wn O) O O O O dh O O O (ae (aa (av (ai (ax O (aH (bf rM) O (ax O (ae (aa (Tr.block (bO (σ:=(List aQ)×Nat×Int×Int) (fun m w s=>m=s.1.length+1∧s.1=List.drop s.2.1 p0∧s.2.1≤p0.length∧gJ j l s.1 s.2.1 s.2.2.1 s.2.2.2=some r) (fun s=>[(2,pV J),(3,.pointer (some ⟨(q 24),0,none⟩)),(30,sL c p0 v),(31,iv (p0.length:Int)),(32,iv (s.2.1:Int))]) (fun s=>[(1,bx J #[iv 0,iv 0,iv 0,iv 0] 111),(2,bx (q 24) #[iv s.2.2.1,iv j.Y0,iv s.2.2.2,iv l.Y1] 111)]) (p0.length+1) (p0,0,E,F) ⟨O,O,Nat.zero_le _,H⟩ (.r O) (.r O) (fun _ _ h=>absurd h.1 (by simp)) ?_))))))))))))
  intro w P m s hs
  obtain⟨A,T,t,y⟩:=s
  obtain⟨Q,D,g3,H⟩:=hs
  replace D:A=List.drop T p0:=D
  replace H:gJ j l A T t y=some r:=H
  replace Q:m+1=A.length+1:=Q
  replace o:=o.kL P
  replace leB:=leB.trans P
  obtain rfl:m=A.length:=by omega
  clear Q
  dsimp only
  cases A with
  |nil=>
   rw[gJ.eq_1] at H
   refine ai (ay aR O O (ae (aa (av (bX O (bN D) (bK (aA (aA (aP (aa (ai (aC O (fun _ _ a d=>aM (cs:=[iv t,iv j.Y0,iv y,iv l.Y1]) gV dh (a.ev O) (aF.take (bR d (vs:=[iv t,iv j.Y0,iv y,iv l.Y1]) (k:=2) O 0) 4) O) (bF 1 (cs:=[iv t,iv j.Y0,iv y,iv l.Y1]) [iv t,iv j.Y0,iv y,iv l.Y1] (wn O) O O O O dh O O O (ae (aa (aO ?_))))))))))))))))
   obtain rfl:=oI H
   exact bL (m:=[.agg #[iv t,iv j.Y0,iv y,iv l.Y1]]) [1] (mM O O gV dh bD) (fun W hW=>⟨O,hW.low leB⟩)
  |cons i A=>
   rw[gJ.eq_2] at H
   refine ai (ay aR O O (ae (aa (av (bY O (cu D) (aJ (aa (av (Tr.block (ai ?_))))))))))
   obtain⟨f6,d1,a0,d2⟩:=(o).el (dI D)
   obtain⟨f,g⟩:=f6
   have u:=a0
   replace u:Sl w.R w.W az f g i.Xs:=u
   refine aC O (fun _ _ a d=>ak nL (a.ev O) o.form (a.ev O) (Int.natCast_nonneg _) (aX D)) (aC O (fun _ _ a d=>aM (cs:=[iv i.Y0,iv i.Y1,sL f i.Xs g]) CZ uE (a.ev O) (aF.take (qY d1 d2 d) 3) O) (Tr.alloc 5 (wn O) O Eu fun S=>(bF 5 (cs:=[iv i.Y0,iv i.Y1,sL f i.Xs g]) [iv i.Y0,iv i.Y1,sL f i.Xs g] (wn O) O O O O uE O O O (ae (aa (qa 20 [(19,fun x=>x=(q 24))] [] (by kernel_rfl) (by kernel_rfl) fun N f7 g2=>(gM 0 [(36,.pointer (some ⟨(q 24),0,none⟩))] (by kernel_rfl) O O (by kernel_rfl) ?_ O O ?_)))))))
   ·exact dA (ag jd) O (bW (.r O))
   refine gM 1 [(37,iv t)] (by kernel_rfl) O O (by kernel_rfl) ?_ O O ?_
   ·exact bv O (fun _ _ a d=>ah bG (a.ev O) (bR d (vs:=[iv t,iv j.Y0,iv y,iv l.Y1]) (k:=2) O 0) O) (bW (.r O))
   refine gM 2 [(38,.pointer (some ⟨S,2,none⟩))] (by kernel_rfl) O O (by kernel_rfl) ?_ O O ?_
   ·exact dA (ag lU) O (bW (.r O))
   refine gM 3 [(39,sL f i.Xs g)] (by kernel_rfl) O O (by kernel_rfl) ?_ O O ?_
   ·exact bv O (fun _ _ a d=>ah gU (a.ev O) (bR d (vs:=[iv i.Y0,iv i.Y1,sL f i.Xs g]) (k:=5) O 2) O) (bW (.r O))
   obtain⟨K,e7,H⟩:=bnd H
   obtain⟨d3,d4,d5⟩:=bi e7
   refine gM 4 [(40,.pointer (some ⟨mY f,qj f+((0:Int)).toNat*1,none⟩))] (by kernel_rfl) O O (by kernel_rfl) ?_ O O ?_
   ·exact bv O (fun _ _ a d=>ak iX (a.ev O) u.form (a.ev O) d3 d4) (bW (.r O))
   refine gM 5 [(41,iv K)] (by kernel_rfl) O O (by kernel_rfl) ?_ O O ?_
   ·exact bv O (fun _ _ a d=>ah bG (a.ev O) (rP iH u d5 d) O) (bW (.r O))
   refine gM 6 [(42,iv (min t K))] (by kernel_rfl) O O (by kernel_rfl) ?_ O O ?_
   ·exact bv O (fun _ _ a d=>vH (a.ev O) (a.ev O) _) (bW (.r O))
   refine gM 7 [(43,.pointer (some ⟨(q 24),2,none⟩))] (by kernel_rfl) O O (by kernel_rfl) ?_ O O ?_
   ·exact dA (ag jZ) O (bW (.r O))
   refine gM 8 [(44,iv y)] (by kernel_rfl) O O (by kernel_rfl) ?_ O O ?_
   ·exact bv O (fun _ _ a d=>ah bG (a.ev O) (bR d (vs:=[iv t,iv j.Y0,iv y,iv l.Y1]) (k:=2) O 2) O) (bW (.r O))
   refine bE 9 (by kernel_rfl) O (wn O) O (by kernel_rfl) (fun _ _ a=>ag lU (a.ev O)) O (iF 10 [(46,sL f i.Xs g)] [19] false (by kernel_rfl) O O (by kernel_rfl) (fun W W' d hsW hk=>HF.pW (le:=[(5,bx S #[iv i.Y0,iv i.Y1,sL f i.Xs g] 123)]) (ks:=[(2,fun x=>x=(q 24))]) (s0:=N) false d hk (fun h=>absurd h (by decide)) (.r O) (fun b hb=>hb.elim (fun⟨p,hp,hf,hb⟩=>by simp only[List.mem_cons,List.not_mem_nil,or_false] at hp;rcases hp with rfl;exact .inl ⟨_,List.mem_cons_self,hb⟩) (fun hb=>absurd hb.1 (by decide))) (List.forall_mem_cons.2 ⟨fun b hb=>hb,(fun _ h=>nomatch h)⟩) rfl) ?_ rfl rfl ?_)
   ·exact bv O (fun _ _ a d=>ah gU (a.ev O) (bR d (vs:=[iv i.Y0,iv i.Y1,sL f i.Xs g]) (k:=5) O 2) O) (bW (.r O))
   refine bE 11 (by kernel_rfl) O (wn O) O (by kernel_rfl) (fun _ _ a=>ag lU (a.ev O)) O (iF 12 [(48,sL f i.Xs g)] [19] false (by kernel_rfl) O O (by kernel_rfl) (fun W W' d hsW hk=>HF.pW (le:=[(5,bx S #[iv i.Y0,iv i.Y1,sL f i.Xs g] 123)]) (ks:=[(2,fun x=>x=(q 24))]) (s0:=N) false d hk (fun h=>absurd h (by decide)) (.r O) (fun b hb=>hb.elim (fun⟨p,hp,hf,hb⟩=>by simp only[List.mem_cons,List.not_mem_nil,or_false] at hp;rcases hp with rfl;exact .inl ⟨_,List.mem_cons_self,hb⟩) (fun hb=>absurd hb.1 (by decide))) (List.forall_mem_cons.2 ⟨fun b hb=>hb,(fun _ h=>nomatch h)⟩) rfl) ?_ rfl rfl ?_)
   ·exact bv O (fun _ _ a d=>ah gU (a.ev O) (bR d (vs:=[iv i.Y0,iv i.Y1,sL f i.Xs g]) (k:=5) O 2) O) (bW (.r O))
   refine bE 13 (by kernel_rfl) O (wn O) O (by kernel_rfl) (fun _ _ a=>bf jN (a.ev O)) O (bE 14 (by kernel_rfl) O (wn O) O (by kernel_rfl) (fun _ _ a=>iP (a.ev O) (a.ev O)) O ?_)
   obtain⟨a',e8,H⟩:=bnd H
   obtain⟨d6,d7,d8⟩:=bi e8
   refine bE 15 (by kernel_rfl) O (wn O) O (by kernel_rfl) (fun _ _ a=>ak iX (a.ev O) u.form (a.ev O) d6 d7) O (iF 16 [(52,iv a')] [19] false (by kernel_rfl) O O (by kernel_rfl) (fun W W' d hsW hk=>HF.pW (le:=[]) (ks:=[(2,fun x=>x=(q 24))]) (s0:=N) false d hk (fun h=>absurd h (by decide)) .nil (fun b hb=>hb.elim (fun⟨p,hp,hf,hb⟩=>by simp only[List.mem_cons,List.not_mem_nil,or_false] at hp;rcases hp with rfl;exact .inl ⟨_,List.mem_cons_self,hb⟩) (fun hb=>absurd hb.1 (by decide))) (List.forall_mem_cons.2 ⟨fun b hb=>hb,(fun _ h=>nomatch h)⟩) rfl) ?_ rfl rfl ?_)
   ·exact bv O (fun _ _ a d=>ah bG (a.ev O) (rP iH u d8 d) O) (bW (.r O))
   refine bE 17 (by kernel_rfl) O (wn O) O (by kernel_rfl) (fun _ _ a=>rA (a.ev O) (a.ev O) _) O (gM 18 [(54,.pointer (some ⟨(q 24),0,none⟩))] (by kernel_rfl) O O (by kernel_rfl) ?_ O O ?_)
   ·exact dA (ag jd) O (bW (.r O))
   exact Dr.one 19 (by kernel_rfl) (vk 19 2 (cs:=[iv (min t K)]) [iv (min t K),iv j.Y0,iv y,iv l.Y1] O (wn O) (.inl ⟨_,List.mem_cons_self,O,O⟩) O O O O pI O O O (rH (by kernel_rfl) (aH (ag jZ) O (bF 2 (cs:=[iv (max y a')]) [iv (min t K),iv j.Y0,iv (max y a'),iv l.Y1] (wn O) O O O O pI O O O (ae (aK (aa (Tr.region (ay bB O O (ax O (ae (aI P (A,(T+1),(min t K),(max y a')) ⟨O,bT D,aX D,H⟩ (.cons O (.cons O (.cons O (.cons O (.cons (congrArg (fun z=>some (Value.int .i64 z)) (bS D o.form)) .nil))))) (.r O)))))))))))))

theorem rW{w:Bs}(p0:(List aQ))(c:Option Addr)(d:Nat)(i:Sl w.R w.W aY c d p0)(r:Bool)(H:lm p0=some r)(hE:HF w w.W E0):Calls Tryz.prog 50 [sL c p0 d].toArray w.W fun e W'=>e= .returned (bV r)∧HF w W' E0:=by
 unfold lm at H
 have leB:=Bs.Le.refl w
 refine aV (n:=11) Tryz.func50 O O O hE (ai (Tr.k O (ae (aa (ai (ax O (aH (bf rM) O (ay iA O O (ax O ?_)))))))))
 obtain⟨g,a,H⟩:=bnd H
 refine bP 4 [(10,bV g)] [] ?_ ?_
 ·cases f:((p0.length:Int)==0)
  ·rw[f] at a
   rw[if_neg (by decide)] at a
   have H:=a
   refine bH run_move O ?_
   obtain⟨b,j,H⟩:=bnd H
   refine bu (r:=(.agg #[iv b.X0,iv b.Y0,iv b.X1,iv b.Y1])) (wg O O O) O Tryz.call104 (aj O aG) (fun W hW=>wu p0 c d (i.ext hW.bU) b j (HF.start _)) ?_
   obtain⟨h,l,H⟩:=bnd H
   refine bu (r:=(bV h)) (wg O O O) O Tryz.call103 (aj O aG) (fun W hW=>uy b h l (HF.start _)) (ay aZ O O ?_)
   obtain rfl:=oI H
   exact ae (aS (.r O) .nil)
  ·rw[f] at a
   rw[if_pos O] at a
   have H:=a
   obtain rfl:=oI H
   exact Tr.ps O (Tr.ps O (Tr.ps O (ay aW O O (ae (aS (.r O) .nil)))))
 ·show Tr _ _ (LF [(10,bV g)]) (LE []) _
  refine Tr.k O (ae (aa (aO ?_)))
  obtain rfl:=oI H
  exact cB leB

theorem yX(N:Nat){w:Bs}(p0:gP)(r:(au×Int))(H:nW N p0=some r)(hE:HF w w.W E0):Calls Tryz.prog 76 [.agg #[iv p0.At.X,iv p0.At.Y,iv p0.Size,iv p0.From,iv p0.To,bV p0.Plated]].toArray w.W fun e W'=>e= .returned (.tuple #[.agg #[iv r.1.X0,iv r.1.Y0,iv r.1.X1,iv r.1.Y1],iv r.2])∧HF w W' E0:=by
 unfold nW at H
 have leB:=Bs.Le.refl w
 refine aV (n:=25) Tryz.func76 O O O hE (ai (fw 1 (cs:=[iv p0.At.X,iv p0.At.Y,iv p0.Size,iv p0.From,iv p0.To,bV p0.Plated]) (wn O) O O O fun i=>(Tr.alloc 2 (wn O) O lK fun j=>(Tr.k O (ae (aa (av (ai (aH (ag xm) O (aC O (fun _ _ a d=>ah bG (a.ev O) (bR d (vs:=[iv p0.At.X,iv p0.At.Y,iv p0.Size,iv p0.From,iv p0.To,bV p0.Plated]) (k:=1) O 2) O) ?_))))))))))
 obtain⟨l,v,H⟩:=bnd H
 refine bu (r:=(bV l)) (wn O) O Tryz.call19 (aj O (aj O (aj O aG))) (fun W hW=>mf p0.Size 1 10000 l v (HF.start _)) (aH iQ O (ax O ?_))
 obtain⟨q,f,H⟩:=bnd H
 refine bP 5 [(1,pV i),(2,pV j),(14,bV q)] [(1,bx i #[iv p0.At.X,iv p0.At.Y,iv p0.Size,iv p0.From,iv p0.To,bV p0.Plated] 119),(2,bx j #[iv 0,iv 0,iv 0,iv 0] 111)] ?_ ?_
 ·cases o:(!l)
  ·rw[o] at f
   rw[if_neg (by decide)] at f
   have H:=f
   refine bH (ag CE) O (Tr.x (fun _ _ a d=>aM (cs:=[iv p0.At.X,iv p0.At.Y]) tO pQ (a.ev O) (aF.take (bR d (vs:=[iv p0.At.X,iv p0.At.Y,iv p0.Size,iv p0.From,iv p0.To,bV p0.Plated]) (k:=1) O 0) 2) O) ?_)
   obtain⟨s,y,H⟩:=bnd H
   refine bu (r:=(bV s)) (wg O O O) O Tryz.call78 (aj O aG) (fun W hW=>tY p0.At s y (HF.start _)) (bH iQ O (ay aZ O O ?_))
   obtain rfl:=oI H
   exact ae (aS (.r O) (.r O))
  ·rw[o] at f
   rw[if_pos O] at f
   have H:=f
   obtain rfl:=oI H
   exact Tr.ps O (Tr.ps O (Tr.ps O (Tr.ps O (ay aW O O (ae (aS (.r O) (.r O)))))))
 ·show Tr _ _ (LF [(1,pV i),(2,pV j),(14,bV q)]) (LE [(1,bx i #[iv p0.At.X,iv p0.At.Y,iv p0.Size,iv p0.From,iv p0.To,bV p0.Plated] 119),(2,bx j #[iv 0,iv 0,iv 0,iv 0] 111)]) _
  refine ae (aa (aT O H (fun H=>?_) (fun H=>?_)))
  ·refine ai (ko (vs:=[]) (cs:=[iv 0,iv 0,iv 0,iv 0]) (wn O) O dE (by kernel_rfl) (bF 2 (cs:=[iv 0,iv 0,iv 0,iv 0]) [iv 0,iv 0,iv 0,iv 0] (wn O) O O O O dh O O O (Tr.k O (ae (aa (aO (aD ?_)))))))
   obtain rfl:=oI H
   exact bL (m:=[.agg #[iv 0,iv 0,iv 0,iv 0],iv 1]) [2] (mM O O gV dh (aU O bD)) (fun W hW=>⟨O,hW.low leB⟩)
  ·refine aJ (aa (ai (aC O (fun _ _ a d=>aM (cs:=[iv p0.At.X,iv p0.At.Y,iv p0.Size,iv p0.From,iv p0.To,bV p0.Plated]) oH lT (a.ev O) (aF.take (bR d (vs:=[iv p0.At.X,iv p0.At.Y,iv p0.Size,iv p0.From,iv p0.To,bV p0.Plated]) (k:=1) O 0) 6) O) ?_)))
   obtain⟨b,z,H⟩:=bnd H
   refine bu (r:=(.agg #[iv b.X0,iv b.Y0,iv b.X1,iv b.Y1])) (wn O) O Tryz.call42 (aj O aG) (fun W hW=>jT p0 b z (HF.start _)) (Tr.alloc 3 (wn O) O lK fun F=>(bF 3 (cs:=[iv b.X0,iv b.Y0,iv b.X1,iv b.Y1]) [iv b.X0,iv b.Y0,iv b.X1,iv b.Y1] (wn O) O O O O dh O O O (ae (aa (av (ai (aC O (fun _ _ a d=>aM (cs:=[iv b.X0,iv b.Y0,iv b.X1,iv b.Y1]) gV dh (a.ev O) (aF.take (bR d (vs:=[iv b.X0,iv b.Y0,iv b.X1,iv b.Y1]) (k:=3) O 0) 4) O) (eD 4 (e:=111) (vs:=[(0,.agg #[iv b.X0,iv b.Y0,iv b.X1,iv b.Y1])]) (cs:=[iv b.X0,iv b.Y0,iv b.X1,iv b.Y1]) (wn O) O (bz O dE) (by kernel_rfl) fun D=>(Tr.own 4 aB [b] (css:=[[iv b.X0,iv b.Y0,iv b.X1,iv b.Y1]]) O (.cons ⟨(),trivial,O⟩ .nil) O (by decide) (xU O) ?_)))))))))
   obtain⟨c,A,H⟩:=bnd H
   refine eZ [5] [emp] (U:=(Option Addr×Nat)) (fun u=>(sL u.1 c u.2)) (fun a0 W u=>cO u.1 c.length u.2) (fun u=>[ow u.1 u.2 123 aY c]) O (aN O bg) (fun _=>O) (wn O) O Tryz.call47 (aj O aG) (fun W hW hp hE=>jm N [b] (some ⟨D,0,none⟩) 1 (hW.Ha (k:=4) O hp O) c A hE) ?_
   intro w u B hu
   obtain⟨g,h⟩:=u
   have p:=hu
   replace leB:=leB.trans B
   have E:cO g c.length h:=p --@phi
   dsimp only
   obtain⟨t,C,H⟩:=bnd H
   refine bu (r:=(bV t)) (wn O) O Tryz.call50 (aj O aG) (fun W hW=>rW c g h (hW.oD (k:=5) O) t C (HF.start _)) (aH iQ O (ae (aa (aT O H (fun H=>?_) (fun H=>?_)))))
   ·refine ai (ko (vs:=[]) (cs:=[iv 0,iv 0,iv 0,iv 0]) (wn O) O dE (by kernel_rfl) (bF 2 (cs:=[iv 0,iv 0,iv 0,iv 0]) [iv 0,iv 0,iv 0,iv 0] (wn O) O O O O dh O O O (Tr.k O (ae (aa (aO (aD ?_)))))))
    obtain rfl:=oI H
    exact bL (m:=[.agg #[iv 0,iv 0,iv 0,iv 0],iv 1]) [2] (mM O O gV dh (aU O bD)) (fun W hW=>⟨O,hW.low leB⟩)
   ·refine aJ (aa (ai (aC O (fun _ _ a d=>aM (cs:=[iv b.X0,iv b.Y0,iv b.X1,iv b.Y1]) gV dh (a.ev O) (aF.take (bR d (vs:=[iv b.X0,iv b.Y0,iv b.X1,iv b.Y1]) (k:=3) O 0) 4) O) (bF 2 (cs:=[iv b.X0,iv b.Y0,iv b.X1,iv b.Y1]) [iv b.X0,iv b.Y0,iv b.X1,iv b.Y1] (wn O) O O O O dh O O O (Tr.k O (ae (aa (aO ?_))))))))
    obtain rfl:=oI H
    exact bL (m:=[.agg #[iv b.X0,iv b.Y0,iv b.X1,iv b.Y1],iv 0]) [2] (mM O O gV dh (aU O bD)) (fun W hW=>⟨O,hW.low leB⟩)

end Go.Proofs.YtkccbhbhdnobhaaGreatDoor
