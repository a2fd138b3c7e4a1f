/- The walks: each function computes its plain function. -/
import Derived.Test.YtkccbhbhdnobhaaGreatDoorXWd
namespace Go.Proofs.YtkccbhbhdnobhaaGreatDoor
open Go.RowKit
set_option maxRecDepth 100000
set_option maxHeartbeats 1000000
theorem AL{w:Bs}(p0:(List au))(y:Option Addr)(C:Nat)(F:Sl w.R w.W aB y C p0)(p1:(List au))(i:Option Addr)(j:Nat)(D:Sl w.R w.W aB i j p1)(r:AB)(H:qf p0 p1=some r)(hE:HF w w.W E0):Calls Tryz.prog 29 [sL y p0 C,sL i p1 j].toArray w.W fun e W'=>e= .returned (.agg #[iv r.A,iv r.B,iv r.Distance,iv r.From.X,iv r.From.Y,iv r.To.X,iv r.To.Y])∧HF w W' E0:=by
 unfold qf at H
 have leB:=Bs.Le.refl w
 refine aV (n:=129) Tryz.func29 O O O hE (ai (Tr.alloc 1 (wn O) O KA fun l=>(ae (aa (ai (Tr.k O (ae (aa (av (ai (ax O (aH (bf lS) O (ax O (ae (aa (Tr.block (bO (σ:=(List au)×Nat×Int) (fun m w s=>m=s.1.length+1∧s.1=List.drop s.2.1 p0∧s.2.1≤p0.length∧iT p0 p1 s.1 s.2.1 s.2.2=some r) (fun s=>[(0,sL y p0 C),(1,sL i p1 j),(4,pV l),(5,iv s.2.2),(22,sL y p0 C),(23,iv (p0.length:Int)),(24,iv (s.2.1:Int))]) (fun s=>[(1,bx l #[iv 0,iv 0,iv 0,iv 0,iv 0,iv 0,iv 0] 93)]) (p0.length+1) (p0,0,(-1)) ⟨O,O,Nat.zero_le _,H⟩ (.r O) (.r O) (fun _ _ h=>absurd h.1 (by simp)) ?_)))))))))))))))))
 intro w b8 m s hs
 obtain⟨J,b2,b⟩:=s
 obtain⟨c8,a0,f4,H⟩:=hs
 replace a0:J=List.drop b2 p0:=a0
 replace H:iT p0 p1 J b2 b=some r:=H
 replace c8:m+1=J.length+1:=c8
 replace F:=F.kL b8
 replace D:=D.kL b8
 replace leB:=leB.trans b8
 obtain rfl:m=J.length:=by omega
 clear c8
 dsimp only
 cases J with
 | nil =>
  rw[iT.eq_1] at H
  refine ai (ay aR O O (ae (aa (av (bX O (bN a0) (bK (aA (aA (aP (aa (ai (ax O (ay iP O O (ko (vs:=[(2,iv (bJ (b-1)))]) (cs:=[iv 0,iv 0,iv (bJ (b-1)),iv 0,iv 0,iv 0,iv 0]) (wn O) O (bz O dE) (by kernel_rfl) (Tr.alloc 10 (wn O) O KA fun v=>(bF 10 (cs:=[iv 0,iv 0,iv (bJ (b-1)),iv 0,iv 0,iv 0,iv 0]) [iv 0,iv 0,iv (bJ (b-1)),iv 0,iv 0,iv 0,iv 0] (wn O) O O O O Fh O O O (ae (aa (ai (Tr.k O (ae (aa (av (ai (ax O (aH (bf lS) O (ax O (ae (aa (Tr.block (bO (σ:=(List au)×Nat×Int×Int×Bool) (fun m w s=>m=s.1.length+1∧s.1=List.drop s.2.1 p0∧s.2.1≤p0.length∧iq p1 b s.1 s.2.1 s.2.2.1 s.2.2.2.1 s.2.2.2.2=some r) (fun s=>[(1,sL i p1 j),(4,pV l),(5,iv b),(11,pV v),(12,bV s.2.2.2.2),(50,sL y p0 C),(51,iv (p0.length:Int)),(52,iv (s.2.1:Int))]) (fun s=>[(1,bx l #[iv 0,iv 0,iv 0,iv 0,iv 0,iv 0,iv 0] 93),(10,bx v #[iv 0,iv 0,iv (bJ (b-1)),iv s.2.2.1,iv s.2.2.2.1,iv 0,iv 0] 93)]) (p0.length+1) (p0,0,0,0,false) ⟨O,O,Nat.zero_le _,H⟩ (.r O) (.r O) (fun _ _ h=>absurd h.1 (by simp)) ?_)))))))))))))))))))))))))))))))
  intro w b9 m s hs
  obtain⟨K,a3,c,f,c9⟩:=s
  obtain⟨d0,a1,f5,H⟩:=hs
  replace a1:K=List.drop a3 p0:=a1
  replace H:iq p1 b K a3 c f c9=some r:=H
  replace d0:m+1=K.length+1:=d0
  replace D:=D.kL b9
  replace F:=F.kL b9
  replace leB:=leB.trans b9
  obtain rfl:m=K.length:=by omega
  clear d0
  dsimp only
  cases K with
  | nil =>
   rw[iq.eq_1] at H
   refine ai (ay aR O O (ae (aa (av (bX O (bN a1) (bK (aA (aA (aP (aa (ai (aH (ag uo) O (aH (ag uu) O (aC O (fun _ _ a d=>ah bG (a.ev O) (bR d (vs:=[iv 0,iv 0,iv (bJ (b-1)),iv c,iv f,iv 0,iv 0]) (k:=10) O 3) O) (aH (ag uo) O (aH (ag rD) O (aC O (fun _ _ a d=>ah bG (a.ev O) (bR d (vs:=[iv 0,iv 0,iv (bJ (b-1)),iv c,iv f,iv 0,iv 0]) (k:=10) O 4) O) (aH (ag uo) O (aH (ag uu) O (aC O (fun _ _ a d=>ah bG (a.ev O) (bR d (vs:=[iv 0,iv 0,iv (bJ (b-1)),iv c,iv f,iv 0,iv 0]) (k:=10) O 3) O) (ay bB O O (aH (ag uo) O (aH (ag rD) O (aC O (fun _ _ a d=>ah bG (a.ev O) (bR d (vs:=[iv 0,iv 0,iv (bJ (b-1)),iv c,iv f,iv 0,iv 0]) (k:=10) O 4) O) (ay bB O O (ko (vs:=[(0,iv c),(1,iv f),(2,iv (bJ (c+1))),(3,iv (bJ (f+1)))]) (cs:=[iv c,iv f,iv (bJ (c+1)),iv (bJ (f+1))]) (wn O) O (bz O (bz O (bz O (bz O dE)))) (by kernel_rfl) (Tr.alloc 25 (wn O) O lK fun a'=>?_)))))))))))))))))))))))))))
   refine bF 25 (cs:=[iv c,iv f,iv (bJ (c+1)),iv (bJ (f+1))]) [iv c,iv f,iv (bJ (c+1)),iv (bJ (f+1))] (wn O) O O O O dh O O O (ae (aa (ai (Tr.k O (ae (aa (av (ai (ax O (aH (bf lS) O (ax O (ae (aa (Tr.block (bO (σ:=(List au)×Nat×Int×Int×Bool) (fun m w s=>m=s.1.length+1∧s.1=List.drop s.2.1 p1∧s.2.1≤p1.length∧gD b c f s.1 s.2.1 s.2.2.1 s.2.2.2.1 s.2.2.2.2=some r) (fun s=>[(4,pV l),(5,iv b),(11,pV v),(12,bV s.2.2.2.2),(18,pV a'),(100,sL i p1 j),(101,iv (p1.length:Int)),(102,iv (s.2.1:Int))]) (fun s=>[(1,bx l #[iv 0,iv 0,iv 0,iv 0,iv 0,iv 0,iv 0] 93),(10,bx v #[iv 0,iv 0,iv (bJ (b-1)),iv c,iv f,iv s.2.2.1,iv s.2.2.2.1] 93),(25,bx a' #[iv c,iv f,iv (bJ (c+1)),iv (bJ (f+1))] 111)]) (p1.length+1) (p1,0,0,0,false) ⟨O,O,Nat.zero_le _,H⟩ (.r O) (.r O) (fun _ _ h=>absurd h.1 (by simp)) ?_)))))))))))))))
   intro w c5 m s hs
   obtain⟨L,b4,G,I,a4⟩:=s
   obtain⟨d1,P,f6,H⟩:=hs
   replace P:L=List.drop b4 p1:=P
   replace H:gD b c f L b4 G I a4=some r:=H
   replace d1:m+1=L.length+1:=d1
   replace D:=D.kL c5
   replace leB:=leB.trans c5
   obtain rfl:m=L.length:=by omega
   clear d1
   dsimp only
   cases L with
   |nil=>
    rw[gD.eq_1] at H
    refine ai (ay aR O O (ae (aa (av (bX O (bN P) (bK (aA (aA (aP (aa (ai (aC O (fun _ _ a d=>aM (cs:=[iv 0,iv 0,iv (bJ (b-1)),iv c,iv f,iv G,iv I]) Pg Fh (a.ev O) (aF.take (bR d (vs:=[iv 0,iv 0,iv (bJ (b-1)),iv c,iv f,iv G,iv I]) (k:=10) O 0) 7) O) (bF 1 (cs:=[iv 0,iv 0,iv (bJ (b-1)),iv c,iv f,iv G,iv I]) [iv 0,iv 0,iv (bJ (b-1)),iv c,iv f,iv G,iv I] (wn O) O O O O Fh O O O (ae (aa (aO ?_))))))))))))))))
    obtain rfl:=oI H
    exact bL (m:=[.agg #[iv 0,iv 0,iv (bJ (b-1)),iv c,iv f,iv G,iv I]]) [1] (mM O O Pg Fh bD) (fun W hW=>⟨O,hW.low leB⟩)
   | cons o L=>
    rw[gD.eq_2] at H
    refine ai (ay aR O O (ae (aa (av (bY O (cu P) (aJ (aa (av (Tr.block (ai (aC O (fun _ _ a d=>ak mP (a.ev O) D.form (a.ev O) (Int.natCast_nonneg _) (aX P)) (aC O (fun _ _ a d=>aM (cs:=[iv o.X0,iv o.Y0,iv o.X1,iv o.Y1]) gV dh (a.ev O) (aF.take (rP gm D (dI P) d) 4) O) (Tr.alloc 30 (wn O) O lK fun c6=>(bF 30 (cs:=[iv o.X0,iv o.Y0,iv o.X1,iv o.Y1]) [iv o.X0,iv o.Y0,iv o.X1,iv o.Y1] (wn O) O O O O dh O O O (ae (aa (ai (aC O (fun _ _ a d=>aM (cs:=[iv o.X0,iv o.Y0,iv o.X1,iv o.Y1]) gV dh (a.ev O) (aF.take (bR d (vs:=[iv o.X0,iv o.Y0,iv o.X1,iv o.Y1]) (k:=30) O 0) 4) O) (aC O (fun _ _ a d=>aM (cs:=[iv c,iv f,iv (bJ (c+1)),iv (bJ (f+1))]) gV dh (a.ev O) (aF.take (bR d (vs:=[iv c,iv f,iv (bJ (c+1)),iv (bJ (f+1))]) (k:=25) O 0) 4) O) ?_)))))))))))))))))))
    refine ax O ?_
    obtain⟨q,e5,H⟩:=bnd H
    refine bu (r:=(.agg #[iv q.X,iv q.Y])) (wn O) O Tryz.call63 (aj O (aj O (aj O aG))) (fun W hW=>wG o (au.mk c f (bJ (c+1)) (bJ (f+1))) b q e5 (HF.start _)) (Tr.alloc 31 (wn O) O Iz fun a5=>(bF 31 (cs:=[iv q.X,iv q.Y]) [iv q.X,iv q.Y] (wn O) O O O O pQ O O O (ae (aa (ai (aC O (fun _ _ a d=>aM (cs:=[iv o.X0,iv o.Y0,iv o.X1,iv o.Y1]) gV dh (a.ev O) (aF.take (bR d (vs:=[iv o.X0,iv o.Y0,iv o.X1,iv o.Y1]) (k:=30) O 0) 4) O) (aC O (fun _ _ a d=>aM (cs:=[iv c,iv f,iv (bJ (c+1)),iv (bJ (f+1))]) gV dh (a.ev O) (aF.take (bR d (vs:=[iv c,iv f,iv (bJ (c+1)),iv (bJ (f+1))]) (k:=25) O 0) 4) O) ?_)))))))
    obtain⟨d2,e6,H⟩:=bnd H
    refine bu (r:=(iv d2)) (wn O) O Tryz.call41 (aj O (aj O aG)) (fun W hW=>qO o (au.mk c f (bJ (c+1)) (bJ (f+1))) d2 e6 (HF.start _)) (ax O (ay iA O O (ax O ?_)))
    obtain⟨d6,a8,H⟩:=bnd H
    refine bP 9 [(4,pV l),(5,iv b),(11,pV v),(12,bV a4),(18,pV a'),(21,pV a5),(100,sL i p1 j),(101,iv (p1.length:Int)),(102,iv (b4:Int)),(124,bV d6)] [(1,bx l #[iv 0,iv 0,iv 0,iv 0,iv 0,iv 0,iv 0] 93),(10,bx v #[iv 0,iv 0,iv (bJ (b-1)),iv c,iv f,iv G,iv I] 93),(25,bx a' #[iv c,iv f,iv (bJ (c+1)),iv (bJ (f+1))] 111),(30,bx c6 #[iv o.X0,iv o.Y0,iv o.X1,iv o.Y1] 111),(31,bx a5 #[iv q.X,iv q.Y] 48)] ?_ ?_
    ·cases b5:(d2==b)
     ·rw[b5] at a8
      rw[if_neg (by decide)] at a8
      have H:=a8
      obtain rfl:=oI H
      exact Tr.ps O (Tr.ps O (Tr.ps O (gN O (gN O (gN O (gN O (Tr.ps O (ay aZ O O (ae (aS (.r O) (.r O)))))))))))
     ·rw[b5] at a8
      rw[if_pos O] at a8
      have H:=a8
      refine bH run_move O (bH iQ O (bH run_move O ?_))
      obtain⟨d7,a9,H⟩:=bnd H
      refine bP 5 [(4,pV l),(5,iv b),(11,pV v),(12,bV a4),(18,pV a'),(21,pV a5),(100,sL i p1 j),(101,iv (p1.length:Int)),(102,iv (b4:Int)),(115,bV true),(123,bV d7)] [(1,bx l #[iv 0,iv 0,iv 0,iv 0,iv 0,iv 0,iv 0] 93),(10,bx v #[iv 0,iv 0,iv (bJ (b-1)),iv c,iv f,iv G,iv I] 93),(25,bx a' #[iv c,iv f,iv (bJ (c+1)),iv (bJ (f+1))] 111),(30,bx c6 #[iv o.X0,iv o.Y0,iv o.X1,iv o.Y1] 111),(31,bx a5 #[iv q.X,iv q.Y] 48)] ?_ ?_
      ·cases b5:(!a4)
       ·rw[b5] at a9
        rw[if_neg (by decide)] at a9
        have H:=a9
        refine Tr.x (fun _ _ a d=>aM (cs:=[iv q.X,iv q.Y]) tO pQ (a.ev O) (aF.take (bR d (vs:=[iv q.X,iv q.Y]) (k:=31) O 0) 2) O) (bH (ag I8) O (Tr.x (fun _ _ a d=>aM (cs:=[iv G,iv I]) tO pQ (a.ev O) (aF.take (bR d (vs:=[iv 0,iv 0,iv (bJ (b-1)),iv c,iv f,iv G,iv I]) (k:=10) O 5) 2) O) ?_))
        obtain⟨d8,e7,H⟩:=bnd H
        refine bu (r:=(bV d8)) (wg O O O) O Tryz.call64 (aj O (aj O aG)) (fun W hW=>wH q (fC.mk G I) d8 e7 (HF.start _)) (Tr.e2 aZ O O ?_)
        obtain rfl:=oI H
        exact ae (aS (.r O) (.r O))
       ·rw[b5] at a9
        rw[if_pos O] at a9
        have H:=a9
        obtain rfl:=oI H
        exact Tr.ps O (Tr.ps O (Tr.ps O (Tr.ps O (Tr.e2 aW O O (ae (aS (.r O) (.r O)))))))
      ·dsimp only
       refine ay aW O O ?_
       obtain rfl:=oI H
       exact ae (aS (.r O) (.r O))
    ·show Tr _ _ (LF [(4,pV l),(5,iv b),(11,pV v),(12,bV a4),(18,pV a'),(21,pV a5),(100,sL i p1 j),(101,iv (p1.length:Int)),(102,iv (b4:Int)),(124,bV d6)]) (LE [(1,bx l #[iv 0,iv 0,iv 0,iv 0,iv 0,iv 0,iv 0] 93),(10,bx v #[iv 0,iv 0,iv (bJ (b-1)),iv c,iv f,iv G,iv I] 93),(25,bx a' #[iv c,iv f,iv (bJ (c+1)),iv (bJ (f+1))] 111),(30,bx c6 #[iv o.X0,iv o.Y0,iv o.X1,iv o.Y1] 111),(31,bx a5 #[iv q.X,iv q.Y] 48)]) _
     refine ae (aa (aT O H (fun H=>?_) (fun H=>?_)))
     ·exact Tr.region (aC O (fun _ _ a d=>aM (cs:=[iv q.X,iv q.Y]) tO pQ (a.ev O) (aF.take (bR d (vs:=[iv q.X,iv q.Y]) (k:=31) O 0) 2) O) (aH (ag I8) O (bF 10 (cs:=[iv q.X,iv q.Y]) [iv 0,iv 0,iv (bJ (b-1)),iv c,iv f,iv q.X,iv q.Y] (wn O) O O O O pQ O O O (Tr.k O (ae (aK (aa (Tr.region (ay bB O O (ax O (ae (aI c5 (L,(b4+1),q.X,q.Y,true) ⟨O,bT P,aX P,H⟩ (.cons O (.cons O (.cons O (.cons O (.cons O (.cons O (.cons O (.cons (congrArg (fun z=>some (Value.int .i64 z)) (bS P D.form)) .nil)))))))) (.r O)))))))))))))
     ·exact aJ (aK (aa (Tr.region (ay bB O O (ax O (ae (aI c5 (L,(b4+1),G,I,a4) ⟨O,bT P,aX P,H⟩ (.cons O (.cons O (.cons O (.cons O (.cons O (.cons O (.cons O (.cons (congrArg (fun z=>some (Value.int .i64 z)) (bS P D.form)) .nil)))))))) (.r O))))))))
  | cons g K=>
   rw[iq.eq_2] at H
   refine ai (ay aR O O (ae (aa (av (bY O (cu a1) (aJ (aa (av (Tr.block (ai (aC O (fun _ _ a d=>ak mP (a.ev O) F.form (a.ev O) (Int.natCast_nonneg _) (aX a1)) (aC O (fun _ _ a d=>aM (cs:=[iv g.X0,iv g.Y0,iv g.X1,iv g.Y1]) gV dh (a.ev O) (aF.take (rP gm F (dI a1) d) 4) O) (Tr.alloc 32 (wn O) O lK fun Q=>(bF 32 (cs:=[iv g.X0,iv g.Y0,iv g.X1,iv g.Y1]) [iv g.X0,iv g.Y0,iv g.X1,iv g.Y1] (wn O) O O O O dh O O O (ae (aa (ai (ax O (aH (bf lS) O (ax O (ae (aa (Tr.block (bO (σ:=(List au)×Nat×Int×Int×Bool) (fun m w s=>m=s.1.length+1∧s.1=List.drop s.2.1 p1∧s.2.1≤p1.length∧iR b (iq p1 b K (a3+1)) g s.1 s.2.1 s.2.2.1 s.2.2.2.1 s.2.2.2.2=some r) (fun s=>[(1,sL i p1 j),(4,pV l),(5,iv b),(11,pV v),(12,bV s.2.2.2.2),(14,pV Q),(50,sL y p0 C),(51,iv (p0.length:Int)),(52,iv (a3:Int)),(56,sL i p1 j),(57,iv (p1.length:Int)),(58,iv (s.2.1:Int))]) (fun s=>[(1,bx l #[iv 0,iv 0,iv 0,iv 0,iv 0,iv 0,iv 0] 93),(10,bx v #[iv 0,iv 0,iv (bJ (b-1)),iv s.2.2.1,iv s.2.2.2.1,iv 0,iv 0] 93),(32,bx Q #[iv g.X0,iv g.Y0,iv g.X1,iv g.Y1] 111)]) (p1.length+1) (p1,0,c,f,c9) ⟨O,O,Nat.zero_le _,H⟩ (.r O) (.r O) (fun _ _ h=>absurd h.1 (by simp)) ?_))))))))))))))))))))))))
   intro w c0 m s hs
   obtain⟨M,b6,U,V,a2⟩:=s
   obtain⟨d3,S,f7,H⟩:=hs
   replace S:M=List.drop b6 p1:=S
   replace H:iR b (iq p1 b K (a3+1)) g M b6 U V a2=some r:=H
   replace d3:m+1=M.length+1:=d3
   replace D:=D.kL c0
   replace F:=F.kL c0
   replace b9:=b9.trans c0
   obtain rfl:m=M.length:=by omega
   clear d3
   dsimp only
   cases M with
   |nil=>
    rw[iR.eq_1] at H
    exact ai (ay aR O O (ae (aa (av (bX O (bN S) (bK (aA (aA (aP (aK (aa (Tr.region (ay bB O O (ax O (ae (aI b9 (K,(a3+1),U,V,a2) ⟨O,bT a1,aX a1,H⟩ (.cons O (.cons O (.cons O (.cons O (.cons O (.cons O (.cons O (.cons (congrArg (fun z=>some (Value.int .i64 z)) (bS a1 F.form)) .nil)))))))) (.r O)))))))))))))))))
   | cons p M=>
    rw[iR.eq_2] at H
    refine ai (ay aR O O (ae (aa (av (bY O (cu S) (aJ (aa (av (Tr.block (ai (aC O (fun _ _ a d=>ak mP (a.ev O) D.form (a.ev O) (Int.natCast_nonneg _) (aX S)) (aC O (fun _ _ a d=>aM (cs:=[iv p.X0,iv p.Y0,iv p.X1,iv p.Y1]) gV dh (a.ev O) (aF.take (rP gm D (dI S) d) 4) O) (Tr.alloc 37 (wn O) O lK fun c7=>(bF 37 (cs:=[iv p.X0,iv p.Y0,iv p.X1,iv p.Y1]) [iv p.X0,iv p.Y0,iv p.X1,iv p.Y1] (wn O) O O O O dh O O O (ae (aa (ai (aC O (fun _ _ a d=>aM (cs:=[iv g.X0,iv g.Y0,iv g.X1,iv g.Y1]) gV dh (a.ev O) (aF.take (bR d (vs:=[iv g.X0,iv g.Y0,iv g.X1,iv g.Y1]) (k:=32) O 0) 4) O) (aC O (fun _ _ a d=>aM (cs:=[iv p.X0,iv p.Y0,iv p.X1,iv p.Y1]) gV dh (a.ev O) (aF.take (bR d (vs:=[iv p.X0,iv p.Y0,iv p.X1,iv p.Y1]) (k:=37) O 0) 4) O) ?_)))))))))))))))))))
    refine ax O ?_
    obtain⟨t,e8,H⟩:=bnd H
    refine bu (r:=(.agg #[iv t.X,iv t.Y])) (wn O) O Tryz.call63 (aj O (aj O (aj O aG))) (fun W hW=>wG g p b t e8 (HF.start _)) (Tr.alloc 38 (wn O) O Iz fun a6=>(bF 38 (cs:=[iv t.X,iv t.Y]) [iv t.X,iv t.Y] (wn O) O O O O pQ O O O (ae (aa (ai (aC O (fun _ _ a d=>aM (cs:=[iv g.X0,iv g.Y0,iv g.X1,iv g.Y1]) gV dh (a.ev O) (aF.take (bR d (vs:=[iv g.X0,iv g.Y0,iv g.X1,iv g.Y1]) (k:=32) O 0) 4) O) (aC O (fun _ _ a d=>aM (cs:=[iv p.X0,iv p.Y0,iv p.X1,iv p.Y1]) gV dh (a.ev O) (aF.take (bR d (vs:=[iv p.X0,iv p.Y0,iv p.X1,iv p.Y1]) (k:=37) O 0) 4) O) ?_)))))))
    obtain⟨d4,e9,H⟩:=bnd H
    refine bu (r:=(iv d4)) (wn O) O Tryz.call41 (aj O (aj O aG)) (fun W hW=>qO g p d4 e9 (HF.start _)) (ax O (ay iA O O (ax O ?_)))
    obtain⟨d9,b0,H⟩:=bnd H
    refine bP 9 [(1,sL i p1 j),(4,pV l),(5,iv b),(11,pV v),(12,bV a2),(14,pV Q),(17,pV a6),(50,sL y p0 C),(51,iv (p0.length:Int)),(52,iv (a3:Int)),(56,sL i p1 j),(57,iv (p1.length:Int)),(58,iv (b6:Int)),(80,bV d9)] [(1,bx l #[iv 0,iv 0,iv 0,iv 0,iv 0,iv 0,iv 0] 93),(10,bx v #[iv 0,iv 0,iv (bJ (b-1)),iv U,iv V,iv 0,iv 0] 93),(32,bx Q #[iv g.X0,iv g.Y0,iv g.X1,iv g.Y1] 111),(37,bx c7 #[iv p.X0,iv p.Y0,iv p.X1,iv p.Y1] 111),(38,bx a6 #[iv t.X,iv t.Y] 48)] ?_ ?_
    ·cases b7:(d4==b)
     ·rw[b7] at b0
      rw[if_neg (by decide)] at b0
      have H:=b0
      obtain rfl:=oI H
      exact Tr.ps O (Tr.ps O (Tr.ps O (gN O (gN O (gN O (gN O (Tr.ps O (ay aZ O O (ae (aS (.r O) (.r O)))))))))))
     ·rw[b7] at b0
      rw[if_pos O] at b0
      have H:=b0
      refine bH run_move O (bH iQ O (bH run_move O ?_))
      obtain⟨e0,b1,H⟩:=bnd H
      refine bP 5 [(1,sL i p1 j),(4,pV l),(5,iv b),(11,pV v),(12,bV a2),(14,pV Q),(17,pV a6),(50,sL y p0 C),(51,iv (p0.length:Int)),(52,iv (a3:Int)),(56,sL i p1 j),(57,iv (p1.length:Int)),(58,iv (b6:Int)),(71,bV true),(79,bV e0)] [(1,bx l #[iv 0,iv 0,iv 0,iv 0,iv 0,iv 0,iv 0] 93),(10,bx v #[iv 0,iv 0,iv (bJ (b-1)),iv U,iv V,iv 0,iv 0] 93),(32,bx Q #[iv g.X0,iv g.Y0,iv g.X1,iv g.Y1] 111),(37,bx c7 #[iv p.X0,iv p.Y0,iv p.X1,iv p.Y1] 111),(38,bx a6 #[iv t.X,iv t.Y] 48)] ?_ ?_
      ·cases b7:(!a2)
       ·rw[b7] at b1
        rw[if_neg (by decide)] at b1
        have H:=b1
        refine Tr.x (fun _ _ a d=>aM (cs:=[iv t.X,iv t.Y]) tO pQ (a.ev O) (aF.take (bR d (vs:=[iv t.X,iv t.Y]) (k:=38) O 0) 2) O) (bH (ag uo) O (Tr.x (fun _ _ a d=>aM (cs:=[iv U,iv V]) tO pQ (a.ev O) (aF.take (bR d (vs:=[iv 0,iv 0,iv (bJ (b-1)),iv U,iv V,iv 0,iv 0]) (k:=10) O 3) 2) O) ?_))
        obtain⟨e3,f1,H⟩:=bnd H
        refine bu (r:=(bV e3)) (wg O O O) O Tryz.call64 (aj O (aj O aG)) (fun W hW=>wH t (fC.mk U V) e3 f1 (HF.start _)) (Tr.e2 aZ O O ?_)
        obtain rfl:=oI H
        exact ae (aS (.r O) (.r O))
       ·rw[b7] at b1
        rw[if_pos O] at b1
        have H:=b1
        obtain rfl:=oI H
        exact Tr.ps O (Tr.ps O (Tr.ps O (Tr.ps O (Tr.e2 aW O O (ae (aS (.r O) (.r O)))))))
      ·dsimp only
       refine ay aW O O ?_
       obtain rfl:=oI H
       exact ae (aS (.r O) (.r O))
    ·show Tr _ _ (LF [(1,sL i p1 j),(4,pV l),(5,iv b),(11,pV v),(12,bV a2),(14,pV Q),(17,pV a6),(50,sL y p0 C),(51,iv (p0.length:Int)),(52,iv (a3:Int)),(56,sL i p1 j),(57,iv (p1.length:Int)),(58,iv (b6:Int)),(80,bV d9)]) (LE [(1,bx l #[iv 0,iv 0,iv 0,iv 0,iv 0,iv 0,iv 0] 93),(10,bx v #[iv 0,iv 0,iv (bJ (b-1)),iv U,iv V,iv 0,iv 0] 93),(32,bx Q #[iv g.X0,iv g.Y0,iv g.X1,iv g.Y1] 111),(37,bx c7 #[iv p.X0,iv p.Y0,iv p.X1,iv p.Y1] 111),(38,bx a6 #[iv t.X,iv t.Y] 48)]) _
     refine ae (aa (aT O H (fun H=>?_) (fun H=>?_)))
     ·exact Tr.region (aC O (fun _ _ a d=>aM (cs:=[iv t.X,iv t.Y]) tO pQ (a.ev O) (aF.take (bR d (vs:=[iv t.X,iv t.Y]) (k:=38) O 0) 2) O) (aH (ag uo) O (bF 10 (cs:=[iv t.X,iv t.Y]) [iv 0,iv 0,iv (bJ (b-1)),iv t.X,iv t.Y,iv 0,iv 0] (wn O) O O O O pQ O O O (Tr.k O (ae (aK (aa (Tr.region (ay bB O O (ax O (ae (aI c0 (M,(b6+1),t.X,t.Y,true) ⟨O,bT S,aX S,H⟩ (.cons O (.cons O (.cons O (.cons O (.cons O (.cons O (.cons O (.cons O (.cons O (.cons O (.cons O (.cons (congrArg (fun z=>some (Value.int .i64 z)) (bS S D.form)) .nil)))))))))))) (.r O)))))))))))))
     ·exact aJ (aK (aa (Tr.region (ay bB O O (ax O (ae (aI c0 (M,(b6+1),U,V,a2) ⟨O,bT S,aX S,H⟩ (.cons O (.cons O (.cons O (.cons O (.cons O (.cons O (.cons O (.cons O (.cons O (.cons O (.cons O (.cons (congrArg (fun z=>some (Value.int .i64 z)) (bS S D.form)) .nil)))))))))))) (.r O))))))))
 | cons u J=>
  rw[iT.eq_2] at H
  refine ai (ay aR O O (ae (aa (av (bY O (cu a0) (aJ (aa (av (Tr.block (ai (aC O (fun _ _ a d=>ak mP (a.ev O) F.form (a.ev O) (Int.natCast_nonneg _) (aX a0)) (aC O (fun _ _ a d=>aM (cs:=[iv u.X0,iv u.Y0,iv u.X1,iv u.Y1]) gV dh (a.ev O) (aF.take (rP gm F (dI a0) d) 4) O) (Tr.alloc 39 (wn O) O lK fun a7=>(bF 39 (cs:=[iv u.X0,iv u.Y0,iv u.X1,iv u.Y1]) [iv u.X0,iv u.Y0,iv u.X1,iv u.Y1] (wn O) O O O O dh O O O (ae (aa (ai (ax O (aH (bf lS) O (ax O (ae (aa (Tr.block (bO (σ:=(List au)×Nat×Int) (fun m w s=>m=s.1.length+1∧s.1=List.drop s.2.1 p1∧s.2.1≤p1.length∧jr (iT p0 p1 J (b2+1)) u s.1 s.2.1 s.2.2=some r) (fun s=>[(0,sL y p0 C),(1,sL i p1 j),(4,pV l),(5,iv s.2.2),(7,pV a7),(22,sL y p0 C),(23,iv (p0.length:Int)),(24,iv (b2:Int)),(28,sL i p1 j),(29,iv (p1.length:Int)),(30,iv (s.2.1:Int))]) (fun s=>[(1,bx l #[iv 0,iv 0,iv 0,iv 0,iv 0,iv 0,iv 0] 93),(39,bx a7 #[iv u.X0,iv u.Y0,iv u.X1,iv u.Y1] 111)]) (p1.length+1) (p1,0,b) ⟨O,O,Nat.zero_le _,H⟩ (.r O) (.r O) (fun _ _ h=>absurd h.1 (by simp)) ?_))))))))))))))))))))))))
  intro w c3 m s hs
  obtain⟨N,c4,Z⟩:=s
  obtain⟨d5,T,f8,H⟩:=hs
  replace T:N=List.drop c4 p1:=T
  replace H:jr (iT p0 p1 J (b2+1)) u N c4 Z=some r:=H
  replace d5:m+1=N.length+1:=d5
  replace F:=F.kL c3
  replace D:=D.kL c3
  replace b8:=b8.trans c3
  obtain rfl:m=N.length:=by omega
  clear d5
  dsimp only
  cases N with
  |nil=>
   rw[jr.eq_1] at H
   exact ai (ay aR O O (ae (aa (av (bX O (bN T) (bK (aA (aA (aP (aK (aa (Tr.region (ay bB O O (ax O (ae (aI b8 (J,(b2+1),Z) ⟨O,bT a0,aX a0,H⟩ (.cons O (.cons O (.cons O (.cons O (.cons O (.cons O (.cons (congrArg (fun z=>some (Value.int .i64 z)) (bS a0 F.form)) .nil))))))) (.r O)))))))))))))))))
  | cons E N=>
   rw[jr.eq_2] at H
   refine ai (ay aR O O (ae (aa (av (bY O (cu T) (aJ (aa (av (Tr.block (ai (aC O (fun _ _ a d=>ak mP (a.ev O) D.form (a.ev O) (Int.natCast_nonneg _) (aX T)) (aC O (fun _ _ a d=>aM (cs:=[iv E.X0,iv E.Y0,iv E.X1,iv E.Y1]) gV dh (a.ev O) (aF.take (rP gm D (dI T) d) 4) O) (Tr.alloc 42 (wn O) O lK fun e4=>(bF 42 (cs:=[iv E.X0,iv E.Y0,iv E.X1,iv E.Y1]) [iv E.X0,iv E.Y0,iv E.X1,iv E.Y1] (wn O) O O O O dh O O O (ae (aa (ai (aC O (fun _ _ a d=>aM (cs:=[iv u.X0,iv u.Y0,iv u.X1,iv u.Y1]) gV dh (a.ev O) (aF.take (bR d (vs:=[iv u.X0,iv u.Y0,iv u.X1,iv u.Y1]) (k:=39) O 0) 4) O) (aC O (fun _ _ a d=>aM (cs:=[iv E.X0,iv E.Y0,iv E.X1,iv E.Y1]) gV dh (a.ev O) (aF.take (bR d (vs:=[iv E.X0,iv E.Y0,iv E.X1,iv E.Y1]) (k:=42) O 0) 4) O) ?_)))))))))))))))))))
   obtain⟨b3,f2,H⟩:=bnd H
   refine bu (r:=(iv b3)) (wn O) O Tryz.call41 (aj O (aj O aG)) (fun W hW=>qO u E b3 f2 (HF.start _)) (Tr.k O (ae (aa (ai (ax O (ay aR O O (ax O (bP 4 [(0,sL y p0 C),(1,sL i p1 j),(4,pV l),(5,iv Z),(7,pV a7),(10,iv b3),(22,sL y p0 C),(23,iv (p0.length:Int)),(24,iv (b2:Int)),(28,sL i p1 j),(29,iv (p1.length:Int)),(30,iv (c4:Int)),(43,bV ((decide (Z<0))||(decide (b3<Z))))] [(1,bx l #[iv 0,iv 0,iv 0,iv 0,iv 0,iv 0,iv 0] 93),(39,bx a7 #[iv u.X0,iv u.Y0,iv u.X1,iv u.Y1] 111),(42,bx e4 #[iv E.X0,iv E.Y0,iv E.X1,iv E.Y1] 111)] ?_ ?_))))))))
   ·cases f3:(decide (Z<0))
    ·exact bH run_move O (bH run_move O (Tr.e2 aR O O (ay aZ O O (ae (aS (.r O) (.r O))))))
    ·exact Tr.ps O (Tr.ps O (Tr.ps O (ay aW O O (ae (aS (.r O) (.r O))))))
   ·show Tr _ _ (LF [(0,sL y p0 C),(1,sL i p1 j),(4,pV l),(5,iv Z),(7,pV a7),(10,iv b3),(22,sL y p0 C),(23,iv (p0.length:Int)),(24,iv (b2:Int)),(28,sL i p1 j),(29,iv (p1.length:Int)),(30,iv (c4:Int)),(43,bV ((decide (Z<0))||(decide (b3<Z))))]) (LE [(1,bx l #[iv 0,iv 0,iv 0,iv 0,iv 0,iv 0,iv 0] 93),(39,bx a7 #[iv u.X0,iv u.Y0,iv u.X1,iv u.Y1] 111),(42,bx e4 #[iv E.X0,iv E.Y0,iv E.X1,iv E.Y1] 111)]) _
    refine ae (aa (aT O H (fun H=>?_) (fun H=>?_)))
    ·exact Tr.region (ax O (Tr.k O (ae (aK (aa (Tr.region (ay bB O O (ax O (ae (aI c3 (N,(c4+1),b3) ⟨O,bT T,aX T,H⟩ (.cons O (.cons O (.cons O (.cons O (.cons O (.cons O (.cons O (.cons O (.cons O (.cons O (.cons (congrArg (fun z=>some (Value.int .i64 z)) (bS T D.form)) .nil))))))))))) (.r O)))))))))))
    ·exact aJ (aK (aa (Tr.region (ay bB O O (ax O (ae (aI c3 (N,(c4+1),Z) ⟨O,bT T,aX T,H⟩ (.cons O (.cons O (.cons O (.cons O (.cons O (.cons O (.cons O (.cons O (.cons O (.cons O (.cons (congrArg (fun z=>some (Value.int .i64 z)) (bS T D.form)) .nil))))))))))) (.r O))))))))

theorem Bz{w:Bs}(p0:mE)(b:Option Addr)(c:Nat)(g:Sl w.R w.W aB b c p0.Region)(p1:Int)(r:Bool)(H:wy p0 p1=some r)(hE:HF w w.W E0):Calls Tryz.prog 65 [.agg #[iv p0.Layer,sL b p0.Region c,iv p0.Clearance],iv p1].toArray w.W fun e W'=>e= .returned (bV r)∧HF w W' E0:=by
 unfold wy at H
 have leB:=Bs.Le.refl w
 refine aV (n:=14) Tryz.func65 O O O hE (ai (fw 1 (cs:=[iv p0.Layer,sL b p0.Region c,iv p0.Clearance]) (wn O) O O O fun f=>(Tr.k O (ae (aa (ai (aH (ag CB) O (aC O (fun _ _ a d=>ah bG (a.ev O) (bR d (vs:=[iv p0.Layer,sL b p0.Region c,iv p0.Clearance]) (k:=1) O 0) O) (ay aR O O (ax O (bP 5 [(13,bV ((decide (p0.Layer<0))||(p0.Layer==p1)))] [(1,bx f #[iv p0.Layer,sL b p0.Region c,iv p0.Clearance] 137)] ?_ ?_)))))))))))
 ·cases h:(decide (p0.Layer<0))
  ·exact bH (ag CB) O (Tr.x (fun _ _ a d=>ah bG (a.ev O) (bR d (vs:=[iv p0.Layer,sL b p0.Region c,iv p0.Clearance]) (k:=1) O 0) O) (bH run_move O (Tr.e2 iA O O (ay aZ O O (ae (aS (.r O) (.r O)))))))
  ·exact Tr.ps O (Tr.ps O (Tr.ps O (Tr.ps O (ay aW O O (ae (aS (.r O) (.r O)))))))
 ·show Tr _ _ (LF [(13,bV ((decide (p0.Layer<0))||(p0.Layer==p1)))]) (LE [(1,bx f #[iv p0.Layer,sL b p0.Region c,iv p0.Clearance] 137)]) _
  refine Tr.k O (ae (aa (aO ?_)))
  obtain rfl:=oI H
  exact cB leB

theorem rq{w:Bs}(p0:ByteArray)(r:Bool)(H:nS p0=some r)(hE:HF w w.W E0):Calls Tryz.prog 191 [sv p0].toArray w.W fun e W'=>e= .returned (bV r)∧HF w W' E0:=by
 unfold nS at H
 have leB:=Bs.Le.refl w
 refine aV (n:=6) Tryz.func191 O O O hE (ai (Tr.k O (ae (aa (ai (ax O (ax O (ay BZ O O (Tr.k O (ae (aa (aO ?_))))))))))))
 obtain rfl:=oI H
 exact cB leB

theorem xL{w:Bs}(p0:ByteArray)(p1:ByteArray)(r:Bool)(H:qV p0 p1=some r)(hE:HF w w.W E0):Calls Tryz.prog 167 [sv p0,sv p1].toArray w.W fun e W'=>e= .returned (bV r)∧HF w W' E0:=by
 unfold qV at H
 have leB:=Bs.Le.refl w
 refine aV (n:=17) Tryz.func167 O O O hE (ai (Tr.k O (ae (aa (ai (ax O ?_))))))
 obtain⟨d,g,H⟩:=bnd H
 refine bu (r:=(bV d)) (wn O) O Tryz.call191 (aj O aG) (fun W hW=>rq p0 d g (HF.start _)) (ax O ?_)
 obtain⟨b,a,H⟩:=bnd H
 refine bP 4 [(0,sv p0),(1,sv p1),(11,bV b)] [] ?_ ?_
 ·cases c:d
  ·rw[c] at a
   rw[if_neg (by decide)] at a
   have H:=a
   obtain rfl:=oI H
   exact Tr.ps O (Tr.ps O (Tr.ps O (ay aZ O O (ae (aS (.r O) .nil)))))
  ·rw[c] at a
   rw[if_pos O] at a
   have H:=a
   refine bH run_move O ?_
   obtain⟨f,h,H⟩:=bnd H
   refine bu (r:=(bV f)) (wg O O O) O Tryz.call191 (aj O aG) (fun W hW=>rq p1 f h (HF.start _)) (bH iQ O (ay aW O O ?_))
   obtain rfl:=oI H
   exact ae (aS (.r O) .nil)
 ·show Tr _ _ (LF [(0,sv p0),(1,sv p1),(11,bV b)]) (LE []) _
  refine ax O (bP 4 [(16,bV (b||(QU p0 p1)))] [] ?_ ?_)
  ·cases c:b
   ·exact bH run_move O (bH run_move O (Tr.e2 Ld O O (ay aZ O O (ae (aS (.r O) .nil)))))
   ·exact Tr.ps O (Tr.ps O (Tr.ps O (ay aW O O (ae (aS (.r O) .nil)))))
  ·show Tr _ _ (LF [(16,bV (b||(QU p0 p1)))]) (LE []) _
   refine Tr.k O (ae (aa (aO ?_)))
   obtain rfl:=oI H
   exact cB leB

theorem qb{w:Bs}(p0:ByteArray)(r:Bool)(H:mh p0=some r)(hE:HF w w.W E0):Calls Tryz.prog 168 [sv p0].toArray w.W fun e W'=>e= .returned (bV r)∧HF w W' E0:=by
 unfold mh at H
 have leB:=Bs.Le.refl w
 refine aV (n:=6) Tryz.func168 O O O hE (ai (Tr.k O (ae (aa (ai (ax O (ax O (ay BZ O O (Tr.k O (ae (aa (aO ?_))))))))))))
 obtain rfl:=oI H
 exact cB leB

theorem qW(N:Nat){w:Bs}(p0:(List ByteArray))(l:Option Addr)(o:Nat)(c:Sl w.R w.W mD l o p0)(p1:ByteArray)(r:(Int×Bool))(H:lq N p0 p1=some r)(hE:HF w w.W E0):Calls Tryz.prog 131 [sL l p0 o,sv p1].toArray w.W fun e W'=>e= .returned (.tuple #[iv r.1,bV r.2])∧HF w W' E0:=by
 unfold lq at H
 have leB:=Bs.Le.refl w
 refine aV (n:=54) Tryz.func131 O O O hE (ai (Tr.k O (Tr.k O (ae (aa (ai (ax O (aH (bf KO) O (Tr.k O (ae (aa (ai (ax O (Tr.k O (Tr.k O (ae (aa (av (Tr.block (bO (σ:=Int×Int) (fun m w s=>fD p0 p1 m s.1 s.2=some r) (fun s=>[(0,sL l p0 o),(1,sv p1),(6,iv (p0.length:Int)),(7,iv s.1),(8,iv s.2)]) (fun s=>[]) N (0,(p0.length:Int)) H (.r O) .nil (fun _ _ h=>mW (h)) ?_))))))))))))))))))))
 intro w p a1 s hs
 obtain⟨b,q⟩:=s
 have H:=hs
 replace H:fD p0 p1 (a1+1) b q=some r:=H
 replace c:=c.kL p
 replace leB:=leB.trans p
 rw[fD.eq_2] at H
 dsimp only
 refine av (ai (ax O (ax O (ay aR O O (ae (aa (aT O H (fun H=>?_) (fun H=>?_))))))))
 ·refine aJ (aa (Tr.block (ai (ax O (ax O (ay bB O O ?_))))))
  obtain⟨a2,M,H⟩:=bnd H
  refine aC O (fun _ _ a d=>Nu GZ KS (a.ev O) M) (ay Lf O O ?_)
  obtain⟨v,a3,H⟩:=bnd H
  refine aC O (fun _ _ a d=>Nv KS GZ (a.ev O) a3) (Tr.k O (ae (aa (ai (ax O (ax O ?_))))))
  obtain⟨X,P,H⟩:=bnd H
  obtain⟨y,z,A⟩:=bi P
  refine aC O (fun _ _ a d=>ak Ee (a.ev O) c.form (a.ev O) y z) (aC O (fun _ _ a d=>ah zP (a.ev O) (rP vT c A d) O) (ax O ?_))
  obtain⟨B,Q,H⟩:=bnd H
  refine bu (r:=(bV B)) (wn O) O Tryz.call167 (aj O (aj O aG)) (fun W hW=>xL X p1 B Q (HF.start _)) (ae (aa (aT O H (fun H=>?_) (fun H=>?_))))
  ·exact Tr.region (ax O (ay bB O O (Tr.k O (ae (aK (aI p ((bJ (v+1)),q) H (.r O) .nil))))))
  ·exact Tr.region (ax O (Tr.k O (ae (aK (aI p (b,v) H (.r O) .nil)))))
 ·refine bK (aA (aA (aP (aa (ai (ax O (ax O (ax O (ay aR O O (ax O ?_))))))))))
  obtain⟨t,g,H⟩:=bnd H
  refine bP 18 [(31,iv b),(53,bV t)] [] ?_ ?_
  ·cases f:(decide (b<(p0.length:Int)))
   ·rw[f] at g
    rw[if_neg (by decide)] at g
    have H:=g
    obtain rfl:=oI H
    exact Tr.ps O (Tr.ps O (Tr.ps O (Tr.ps O (Tr.ps O (Tr.ps O (Tr.ps O (gN O (gN O (gN O (gN O (gN O (gN O (gN O (gN O (gN O (Tr.ps O (ay aZ O O (ae (aS (.r O) .nil)))))))))))))))))))
   ·rw [f] at g
    rw[if_pos O] at g
    have H:=g
    refine bH run_move O (bH run_move O ?_)
    obtain⟨Z,S,H⟩:=bnd H
    obtain⟨C,D,E⟩:=bi S
    refine Tr.x (fun _ _ a d=>ak Ee (a.ev O) c.form (a.ev O) C D) (Tr.x (fun _ _ a d=>ah zP (a.ev O) (rP vT c E d) O) (bH run_move O (Tr.e2 Cb O O (bH run_move O ?_))))
    obtain⟨F,i,H⟩:=bnd H
    refine bP 10 [(31,iv b),(35,bV true),(52,bV F)] [] ?_ ?_
    ·cases f:(DN Z p1)
     ·rw[f] at i
      rw[if_neg (by decide)] at i
      have H:=i
      refine bH run_move O (bH run_move O ?_)
      obtain⟨a0,T,H⟩:=bnd H
      obtain⟨G,I,J⟩:=bi T
      refine Tr.x (fun _ _ a d=>ak Ee (a.ev O) c.form (a.ev O) G I) (Tr.x (fun _ _ a d=>ah zP (a.ev O) (rP vT c J d) O) ?_)
      obtain⟨u,U,H⟩:=bnd H
      refine bu (r:=(bV u)) (wg O O O) O Tryz.call168 (aj O aG) (fun W hW=>qb a0 u U (HF.start _)) (bH run_move O ?_)
      obtain⟨K,j,H⟩:=bnd H
      refine bP 3 [(31,iv b),(35,bV true),(42,bV false),(51,bV K)] [] ?_ ?_
      ·cases f:u
       ·rw[f] at j
        rw[if_neg (by decide)] at j
        have H:=j
        obtain rfl:=oI H
        exact Tr.ps O (Tr.ps O (Tr.e2 aZ O O (ae (aS (.r O) .nil))))
       ·rw[f] at j
        rw[if_pos O] at j
        have H:=j
        refine bH run_move O ?_
        obtain⟨L,V,H⟩:=bnd H
        refine bu (r:=(bV L)) (wg O O O) O Tryz.call168 (aj O aG) (fun W hW=>qb p1 L V (HF.start _)) (Tr.e2 aW O O ?_)
        obtain rfl:=oI H
        exact ae (aS (.r O) .nil)
      ·dsimp only
       refine Tr.e2 aZ O O ?_
       obtain rfl:=oI H
       exact ae (aS (.r O) .nil)
     ·rw[f] at i
      rw[if_pos O] at i
      have H:=i
      obtain rfl:=oI H
      exact Tr.ps O (Tr.ps O (Tr.ps O (Tr.ps O (Tr.ps O (Tr.ps O (gN O (gN O (Tr.ps O (Tr.e2 aW O O (ae (aS (.r O) .nil)))))))))))
    ·dsimp only
     refine ay aW O O ?_
     obtain rfl:=oI H
     exact ae (aS (.r O) .nil)
  ·show Tr _ _ (LF [(31,iv b),(53,bV t)]) (LE []) _
   refine Tr.k O (Tr.k O (ae (aa (aO ?_))))
   obtain rfl:=oI H
   exact bL (m:=[iv b,bV t]) [] (aU O (aU O bD)) (fun W hW=>⟨O,hW.low leB⟩)

theorem yV(N:Nat){w:Bs}(p0:gp)(g:Option Addr)(j:Nat)(q:Sl w.O w.W iW g j p0.Classes)(v:Option Addr)(y:Nat)(K:Sl w.R w.W jh v y p0.Areas)(p1:ByteArray)(r:kw)(H:sw N p0 p1=some r)(hE:HF w w.W (iZ [])):Calls Tryz.prog 111 [.agg #[iv p0.Clearance,iv p0.Width,iv p0.Ring,iv p0.Edge,iv p0.HoleGap,sL g p0.Classes j,sL v p0.Areas y],sv p1].toArray w.W fun e W'=>∃(w':Bs) (u:(Option Addr×Nat)),w.Le w'∧e= .returned (.agg #[sv r.Name,sL u.1 r.Nets u.2,iv r.Clearance,iv r.Width])∧(Sl w'.O w'.W mD u.1 u.2 r.Nets)∧HF w' W' (iZ []):=by
 unfold sw at H
 have leB:=Bs.Le.refl w
 refine aV (n:=31) Tryz.func111 O O O hE (ai (fw 1 (cs:=[iv p0.Clearance,iv p0.Width,iv p0.Ring,iv p0.Edge,iv p0.HoleGap,sL g p0.Classes j,sL v p0.Areas y]) (wn O) O O O fun M=>(Tr.alloc 2 (wn O) O KC fun p=>(ae (aa (av (ai (aH (ag Jh) O (aC O (fun _ _ a d=>ah Pj (a.ev O) (bR d (vs:=[iv p0.Clearance,iv p0.Width,iv p0.Ring,iv p0.Edge,iv p0.HoleGap,sL g p0.Classes j,sL v p0.Areas y]) (k:=1) O 5) O) (aH (bf KR) O (ax O (ae (aa (Tr.block (bO (σ:=(List kw)×Nat) (fun m w s=>m=s.1.length+1∧s.1=List.drop s.2 p0.Classes∧s.2≤p0.Classes.length∧kR N p1 s.1 s.2=some r) (fun s=>[(1,sv p1),(4,pV p),(10,sL g p0.Classes j),(11,iv (p0.Classes.length:Int)),(12,iv (s.2:Int))]) (fun s=>[(2,bx p #[sv ⟨#[]⟩,.slice none 0 0,iv 0,iv 0] 191)]) (p0.Classes.length+1) (p0.Classes,0) ⟨O,O,Nat.zero_le _,H⟩ (.r O) (.r O) (fun _ _ h=>absurd h.1 (by simp)) ?_)))))))))))))))
 intro w D m s hs
 obtain⟨i,B⟩:=s
 obtain⟨E,o,P,H⟩:=hs
 replace o:i=List.drop B p0.Classes:=o
 replace H:kR N p1 i B=some r:=H
 replace E:m+1=i.length+1:=E
 replace q:=q.le D
 replace leB:=leB.trans D
 obtain rfl:m=i.length:=by omega
 clear E
 dsimp only
 cases i with
 |nil=>
  rw[kR.eq_1] at H
  refine ai (ay aR O O (ae (aa (av (bX O (bN o) (bK (aA (aA (aP (aa (ai (ko (vs:=[]) (cs:=[sv ⟨#[]⟩,.slice none 0 0,iv 0,iv 0]) (wn O) O dE (by kernel_rfl) (bF 2 (cs:=[sv ⟨#[]⟩,.slice none 0 0,iv 0,iv 0]) [sv ⟨#[]⟩,.slice none 0 0,iv 0,iv 0] (wn O) O O O O yK O O O (ae (aa (aO ?_))))))))))))))))
  obtain rfl:=oI H
  exact bL (m:=[.agg #[sv ⟨#[]⟩,.slice none 0 0,iv 0,iv 0]]) [2] (mM O O EW yK bD) (fun W hW=>⟨w,(none,0),leB,O,(Sl.nil _ _ _),hW.pick (ks:=[]) (by decide) bg⟩)
 | cons b i=>
  rw[kR.eq_2] at H
  refine ai (ay aR O O (ae (aa (av (bY O (cu o) (aJ (aa (av (Tr.block (ai ?_))))))))))
  obtain⟨J,A,F,G⟩:=(q).el (dI o)
  obtain⟨c,f⟩:=J
  have l:=F
  replace l:Sl w.O w.W mD c f b.Nets:=l
  replace A:w.R (mY g):=Or.inl A
  refine aC O (fun _ _ a d=>ak Ra (a.ev O) q.form (a.ev O) (Int.natCast_nonneg _) (aX o)) (aC O (fun _ _ a d=>aM (cs:=[sv b.Name,sL c b.Nets f,iv b.Clearance,iv b.Width]) EW yK (a.ev O) (aF.take (qY A G d) 4) O) (Tr.alloc 4 (wn O) O KC fun C=>(bF 4 (cs:=[sv b.Name,sL c b.Nets f,iv b.Clearance,iv b.Width]) [sv b.Name,sL c b.Nets f,iv b.Clearance,iv b.Width] (wn O) O O O O yK O O O (ae (aa (ai (aH (ag Mi) O (aC O (fun _ _ a d=>ah Rw (a.ev O) (bR d (vs:=[sv b.Name,sL c b.Nets f,iv b.Clearance,iv b.Width]) (k:=4) O 1) O) (ax O ?_)))))))))
  obtain⟨t,I,H⟩:=bnd H
  refine bu (r:=(.tuple #[iv t.1,bV t.2])) (wn O) O Tryz.call131 (aj O (aj O aG)) (fun W hW=>qW N b.Nets c f (l.rl.ext hW.bU) p1 t I (HF.start _)) (ax O (aC O (fun _ _ a d=>bA (a.ev O) O) (aC O (fun _ _ a d=>bA (a.ev O) O) (Tr.k O (Tr.k O (ae (aa (ai (ax O (ax O (bP 3 [(1,sv p1),(4,pV p),(6,pV C),(10,sL g p0.Classes j),(11,iv (p0.Classes.length:Int)),(12,iv (B:Int)),(27,bV (t.2&&(!DN p1 (⟨#[]⟩))))] [(2,bx p #[sv ⟨#[]⟩,.slice none 0 0,iv 0,iv 0] 191),(4,bx C #[sv b.Name,sL c b.Nets f,iv b.Clearance,iv b.Width] 191)] ?_ ?_)))))))))))
  ·cases L:t.2
   ·exact Tr.ps O (Tr.ps O (ay aZ O O (ae (aS (.r O) (.r O)))))
   ·exact bH run_move O (Tr.e2 BZ O O (ay aW O O (ae (aS (.r O) (.r O)))))
  ·show Tr _ _ (LF [(1,sv p1),(4,pV p),(6,pV C),(10,sL g p0.Classes j),(11,iv (p0.Classes.length:Int)),(12,iv (B:Int)),(27,bV (t.2&&(!DN p1 (⟨#[]⟩))))]) (LE [(2,bx p #[sv ⟨#[]⟩,.slice none 0 0,iv 0,iv 0] 191),(4,bx C #[sv b.Name,sL c b.Nets f,iv b.Clearance,iv b.Width] 191)]) _
   refine ae (aa (aT O H (fun H=>?_) (fun H=>?_)))
   ·refine ai (aC O (fun _ _ a d=>aM (cs:=[sv b.Name,sL c b.Nets f,iv b.Clearance,iv b.Width]) EW yK (a.ev O) (aF.take (bR d (vs:=[sv b.Name,sL c b.Nets f,iv b.Clearance,iv b.Width]) (k:=4) O 0) 4) O) (bF 2 (cs:=[sv b.Name,sL c b.Nets f,iv b.Clearance,iv b.Width]) [sv b.Name,sL c b.Nets f,iv b.Clearance,iv b.Width] (wn O) O O O O yK O O O (ae (aa (aO (bq (aD (aD (bq (aD ?_))))))))))
    obtain rfl:=oI H
    exact bL (m:=[.agg #[sv b.Name,sL c b.Nets f,iv b.Clearance,iv b.Width]]) [2] (mM O O EW yK bD) (fun W hW=>⟨w,(c,f),leB,O,l,hW.pick (ks:=[]) (by decide) bg⟩)
   ·exact aJ (aK (aa (Tr.region (ay bB O O (ax O (ae (aI D (i,(B+1)) ⟨O,bT o,aX o,H⟩ (.cons O (.cons O (.cons O (.cons O (.cons (congrArg (fun z=>some (Value.int .i64 z)) (bS o q.form)) .nil))))) (.r O))))))))

theorem rX(N:Nat){w:Bs}(p0:gp)(c:Option Addr)(f:Nat)(o:Sl w.O w.W iW c f p0.Classes)(g:Option Addr)(h:Nat)(p:Sl w.R w.W jh g h p0.Areas)(p1:ByteArray)(r:Int)(H:mR N p0 p1=some r)(hE:HF w w.W E0):Calls Tryz.prog 67 [.agg #[iv p0.Clearance,iv p0.Width,iv p0.Ring,iv p0.Edge,iv p0.HoleGap,sL c p0.Classes f,sL g p0.Areas h],sv p1].toArray w.W fun e W'=>e= .returned (iv r)∧HF w W' E0:=by
 unfold mR at H
 have leB:=Bs.Le.refl w
 refine aV (n:=15) Tryz.func67 O O O hE (ai (fw 1 (cs:=[iv p0.Clearance,iv p0.Width,iv p0.Ring,iv p0.Edge,iv p0.HoleGap,sL c p0.Classes f,sL g p0.Areas h]) (wn O) O O O fun v=>(Tr.k O (ae (aa (av (ai (aC O (fun _ _ a d=>aM (cs:=[iv p0.Clearance,iv p0.Width,iv p0.Ring,iv p0.Edge,iv p0.HoleGap,sL c p0.Classes f,sL g p0.Areas h]) zQ yu (a.ev O) (aF.take (bR d (vs:=[iv p0.Clearance,iv p0.Width,iv p0.Ring,iv p0.Edge,iv p0.HoleGap,sL c p0.Classes f,sL g p0.Areas h]) (k:=1) O 0) 7) O) (ax O ?_)))))))))
 obtain⟨b,q,H⟩:=bnd H
 refine eZ [] [] (U:=(Option Addr×Nat)) (fun u=>(.agg #[sv b.Name,sL u.1 b.Nets u.2,iv b.Clearance,iv b.Width])) (fun a0 W u=>Sl a0 W mD u.1 u.2 b.Nets) (fun u=>[]) O bg (fun _=>O) (wn O) O Tryz.call111 (aj O (aj O aG)) (fun W hW hp hE=>yV N p0 c f (o.kC (hW.dU hp)) g h (p.ext (hW.dU hp)) p1 b q hE) ?_
 intro w u s hu
 obtain⟨i,j⟩:=u
 have l:=hu
 replace leB:=leB.trans s
 have t:Sl w.O w.W mD i j b.Nets:=l --@phi
 dsimp only
 refine aC O (fun _ _ a d=>Hf Mo bG (a.ev O) O) (Tr.k O (ae (aa (ai (ax O (ay iG O O (ae (aa (aT O H (fun H=>?_) (fun H=>?_))))))))))
 ·refine ai (ax O (Tr.k O (ae (aa (aO (aD ?_))))))
  obtain rfl:=oI H
  exact cB leB
 ·refine aJ (aa (ai (aH (ag BG) O (aC O (fun _ _ a d=>ah bG (a.ev O) (bR d (vs:=[iv p0.Clearance,iv p0.Width,iv p0.Ring,iv p0.Edge,iv p0.HoleGap,sL c p0.Classes f,sL g p0.Areas h]) (k:=1) O 0) O) (Tr.k O (ae (aa (aO ?_))))))))
  obtain rfl:=oI H
  exact cB leB

theorem AO(N:Nat){w:Bs}(p0:gp)(j:Option Addr)(l:Nat)(B:Sl w.O w.W iW j l p0.Classes)(c:Option Addr)(f:Nat)(q:Sl w.R w.W jh c f p0.Areas)(p1:ByteArray)(p2:ByteArray)(p3:Int)(p4:fC)(r:Int)(H:qg N p0 p1 p2 p3 p4=some r)(hE:HF w w.W E0):Calls Tryz.prog 30 [.agg #[iv p0.Clearance,iv p0.Width,iv p0.Ring,iv p0.Edge,iv p0.HoleGap,sL j p0.Classes l,sL c p0.Areas f],sv p1,sv p2,iv p3,.agg #[iv p4.X,iv p4.Y]].toArray w.W fun e W'=>e= .returned (iv r)∧HF w W' E0:=by
 unfold qg at H
 have leB:=Bs.Le.refl w
 refine aV (n:=45) Tryz.func30 O O O hE (ai (fw 1 (cs:=[iv p0.Clearance,iv p0.Width,iv p0.Ring,iv p0.Edge,iv p0.HoleGap,sL j p0.Classes l,sL c p0.Areas f]) (wn O) O O O fun u=>(fw 2 (cs:=[iv p4.X,iv p4.Y]) (wn O) O O O fun v=>(Tr.k O (ae (aa (ai (Tr.k O (ae (aa (av (ai (aH (ag EP) O (aC O (fun _ _ a d=>ah MO (a.ev O) (bR d (vs:=[iv p0.Clearance,iv p0.Width,iv p0.Ring,iv p0.Edge,iv p0.HoleGap,sL j p0.Classes l,sL c p0.Areas f]) (k:=1) O 6) O) (aH (bf KQ) O (ax O (ae (aa (Tr.block (bO (σ:=(List mE)×Nat×Int) (fun m w s=>m=s.1.length+1∧s.1=List.drop s.2.1 p0.Areas∧s.2.1≤p0.Areas.length∧jw N p0 p1 p2 p3 p4 s.1 s.2.1 s.2.2=some r) (fun s=>[(1,sv p1),(2,sv p2),(3,iv p3),(5,pV u),(9,pV v),(11,iv s.2.2),(15,sL c p0.Areas f),(16,iv (p0.Areas.length:Int)),(17,iv (s.2.1:Int))]) (fun s=>[(1,bx u #[iv p0.Clearance,iv p0.Width,iv p0.Ring,iv p0.Edge,iv p0.HoleGap,sL j p0.Classes l,sL c p0.Areas f] 25),(2,bx v #[iv p4.X,iv p4.Y] 48)]) (p0.Areas.length+1) (p0.Areas,0,(-1)) ⟨O,O,Nat.zero_le _,H⟩ (.r O) (.r O) (fun _ _ h=>absurd h.1 (by simp)) ?_))))))))))))))))))))
 intro w C m s hs
 obtain⟨o,D,A⟩:=s
 obtain⟨F,p,a1,H⟩:=hs
 replace p:o=List.drop D p0.Areas:=p
 replace H:jw N p0 p1 p2 p3 p4 o D A=some r:=H
 replace F:m+1=o.length+1:=F
 replace B:=B.le C
 replace q:=q.kL C
 replace leB:=leB.trans C
 obtain rfl:m=o.length:=by omega
 clear F
 dsimp only
 cases o with
 | nil=>
  rw[jw.eq_1] at H
  refine ai (ay aR O O (ae (aa (av (bX O (bN p) (bK (aA (aA (aP (aa (av (ai (ax O (ay oh O O (ae (aa (aT O H (fun H=>?_) (fun H=>?_))))))))))))))))))
  ·refine ai (ax O (Tr.k O (ae (aa (aO (aD ?_))))))
   obtain rfl:=oI H
   exact cB leB
  ·refine aJ (aa (av (ji (by kernel_rfl) (by kernel_rfl) (bv O (fun _ _ a d=>aM (cs:=[iv p0.Clearance,iv p0.Width,iv p0.Ring,iv p0.Edge,iv p0.HoleGap,sL j p0.Classes l,sL c p0.Areas f]) zQ yu (a.ev O) (aF.take (bR d (vs:=[iv p0.Clearance,iv p0.Width,iv p0.Ring,iv p0.Edge,iv p0.HoleGap,sL j p0.Classes l,sL c p0.Areas f]) (k:=1) O 0) 7) O) (eY O ?_)))))
   obtain⟨K,T,H⟩:=bnd H
   refine jB (r:=(iv K)) (wn O) O Tryz.call67 (aj O (aj O aG)) (fun W hW=>rX N p0 j l (B.kC hW.bU) c f (q.ext hW.bU) p1 K T (HF.start _)) (bv O (fun _ _ a d=>aM (cs:=[iv p0.Clearance,iv p0.Width,iv p0.Ring,iv p0.Edge,iv p0.HoleGap,sL j p0.Classes l,sL c p0.Areas f]) zQ yu (a.ev O) (aF.take (bR d (vs:=[iv p0.Clearance,iv p0.Width,iv p0.Ring,iv p0.Edge,iv p0.HoleGap,sL j p0.Classes l,sL c p0.Areas f]) (k:=1) O 0) 7) O) (eY O ?_))
   obtain⟨L,U,H⟩:=bnd H
   refine jB (r:=(iv L)) (wn O) O Tryz.call67 (aj O (aj O aG)) (fun W hW=>rX N p0 j l (B.kC hW.bU) c f (q.ext hW.bU) p2 L U (HF.start _)) (bv O (fun _ _ a d=>rA (a.ev O) (a.ev O) _) (nD O O (jD (aa (aO ?_)))))
   obtain rfl:=oI H
   exact cB leB
 | cons b o=>
  rw[jw.eq_2] at H
  refine ai (ay aR O O (ae (aa (av (bY O (cu p) (aJ (aa (av (Tr.block (ai ?_))))))))))
  obtain⟨a0,M,J,P⟩:=(q).el (dI p)
  obtain⟨g,i⟩:=a0
  have t:=J
  replace t:Sl w.R w.W aB g i b.Region:=t
  refine aC O (fun _ _ a d=>ak Pb (a.ev O) q.form (a.ev O) (Int.natCast_nonneg _) (aX p)) (aC O (fun _ _ a d=>aM (cs:=[iv b.Layer,sL g b.Region i,iv b.Clearance]) Im BP (a.ev O) (aF.take (qY M P d) 3) O) (Tr.alloc 5 (wn O) O KG fun E=>(bF 5 (cs:=[iv b.Layer,sL g b.Region i,iv b.Clearance]) [iv b.Layer,sL g b.Region i,iv b.Clearance] (wn O) O O O O BP O O O (ae (aa (ai (aC O (fun _ _ a d=>aM (cs:=[iv b.Layer,sL g b.Region i,iv b.Clearance]) Im BP (a.ev O) (aF.take (bR d (vs:=[iv b.Layer,sL g b.Region i,iv b.Clearance]) (k:=5) O 0) 3) O) (ax O ?_))))))))
  obtain⟨G,V,H⟩:=bnd H
  refine bu (r:=(bV G)) (wn O) O Tryz.call65 (aj O (aj O aG)) (fun W hW=>Bz b g i (t.ext hW.bU) p3 G V (HF.start _)) (ax O ?_)
  obtain⟨Q,y,H⟩:=bnd H
  refine bP 5 [(1,sv p1),(2,sv p2),(3,iv p3),(5,pV u),(9,pV v),(11,iv A),(13,pV E),(15,sL c p0.Areas f),(16,iv (p0.Areas.length:Int)),(17,iv (D:Int)),(29,bV Q)] [(1,bx u #[iv p0.Clearance,iv p0.Width,iv p0.Ring,iv p0.Edge,iv p0.HoleGap,sL j p0.Classes l,sL c p0.Areas f] 25),(2,bx v #[iv p4.X,iv p4.Y] 48),(5,bx E #[iv b.Layer,sL g b.Region i,iv b.Clearance] 137)] ?_ ?_
  ·cases I:G
   ·rw[I] at y
    rw[if_neg (by decide)] at y
    have H:=y
    obtain rfl:=oI H
    exact Tr.ps O (Tr.ps O (Tr.ps O (Tr.ps O (ay aZ O O (ae (aS (.r O) (.r O)))))))
   ·rw[I] at y
    rw[if_pos O] at y
    have H:=y
    refine bH (ag Cz) O (Tr.x (fun _ _ a d=>ah tQ (a.ev O) (bR d (vs:=[iv b.Layer,sL g b.Region i,iv b.Clearance]) (k:=5) O 1) O) (Tr.x (fun _ _ a d=>aM (cs:=[iv p4.X,iv p4.Y]) tO pQ (a.ev O) (aF.take (bR d (vs:=[iv p4.X,iv p4.Y]) (k:=2) O 0) 2) O) ?_))
    obtain⟨S,Z,H⟩:=bnd H
    refine bu (r:=(bV S)) (wg O O O) O Tryz.call66 (aj O (aj O aG)) (fun W hW=>oN b.Region g i (t.ext hW.bU) p4 S Z (HF.start _)) (ay aW O O ?_)
    obtain rfl:=oI H
    exact ae (aS (.r O) (.r O))
  ·show Tr _ _ (LF [(1,sv p1),(2,sv p2),(3,iv p3),(5,pV u),(9,pV v),(11,iv A),(13,pV E),(15,sL c p0.Areas f),(16,iv (p0.Areas.length:Int)),(17,iv (D:Int)),(29,bV Q)]) (LE [(1,bx u #[iv p0.Clearance,iv p0.Width,iv p0.Ring,iv p0.Edge,iv p0.HoleGap,sL j p0.Classes l,sL c p0.Areas f] 25),(2,bx v #[iv p4.X,iv p4.Y] 48),(5,bx E #[iv b.Layer,sL g b.Region i,iv b.Clearance] 137)]) _
   refine ae (aa (aT O H (fun H=>?_) (fun H=>?_)))
   ·exact Tr.region (ax O (aH (ag Gh) O (aC O (fun _ _ a d=>ah bG (a.ev O) (bR d (vs:=[iv b.Layer,sL g b.Region i,iv b.Clearance]) (k:=5) O 2) O) (aC O (fun _ _ a d=>rA (a.ev O) (a.ev O) _) (Tr.k O (ae (aK (aa (Tr.region (ay bB O O (ax O (ae (aI C (o,(D+1),(max A b.Clearance)) ⟨O,bT p,aX p,H⟩ (.cons O (.cons O (.cons O (.cons O (.cons O (.cons O (.cons O (.cons O (.cons (congrArg (fun z=>some (Value.int .i64 z)) (bS p q.form)) .nil))))))))) (.r O))))))))))))))
   ·exact aJ (aK (aa (Tr.region (ay bB O O (ax O (ae (aI C (o,(D+1),A) ⟨O,bT p,aX p,H⟩ (.cons O (.cons O (.cons O (.cons O (.cons O (.cons O (.cons O (.cons O (.cons (congrArg (fun z=>some (Value.int .i64 z)) (bS p q.form)) .nil))))))))) (.r O))))))))

theorem AQ(N:Nat){w:Bs}(p0:gp)(y:Option Addr)(C:Nat)(b1:Sl w.O w.W iW y C p0.Classes)(D:Option Addr)(E:Nat)(b2:Sl w.R w.W jh D E p0.Areas)(p1:dD)(c9:Option Addr)(d0:Nat)(k9:Sl w.R w.W dF c9 d0 p1.Art.Coppers)(d1:Option Addr)(d2:Nat)(l0:Sl w.R w.W aB d1 d2 p1.Art.Outline)(d3:Option Addr)(d4:Nat)(l1:Sl w.R w.W dY d3 d4 p1.Art.Bores)(d5:Option Addr)(d6:Nat)(l3:Sl w.R w.W eH d5 d6 p1.Art.Lands)(d7:Option Addr)(d8:Nat)(l4:Sl w.R w.W bM d7 d8 p1.Drilled)(p:Option Addr)(J:Nat)(F:Sl w.R w.W dG p J p1.Pieces)(d9:Option Addr)(e0:Nat)(l5:Sl w.R w.W fE d9 e0 p1.Touched)(e3:Option Addr)(e4:Nat)(l6:Sl w.R w.W dw e3 e4 p1.Groups)(a0:Option Addr)(b7:Nat)(a1:Sl w.R w.W az a0 b7 p1.OfPiece)(e5:Option Addr)(e6:Nat)(l7:Sl w.R w.W az e5 e6 p1.OfBore)(c3:Option Addr)(c4:Nat)(k6:Sl w.R w.W az c3 c4 p1.OfLand)(c5:Option Addr)(c6:Nat)(k7:Sl w.R w.W dX c5 c6 p1.AtLand)(G:Nat)(P:w.R G)(a3:aF w.W G 0 [sL c9 p1.Art.Coppers d0,sL d1 p1.Art.Outline d2,sL d3 p1.Art.Bores d4,sL d5 p1.Art.Lands d6,sL d7 p1.Drilled d8,sL p p1.Pieces J,sL d9 p1.Touched e0,sL e3 p1.Groups e4,sL a0 p1.OfPiece b7,sL e5 p1.OfBore e6,sL c3 p1.OfLand c4,sL c5 p1.AtLand c6])(p2:(List ByteArray))(U:Option Addr)(V:Nat)(a2:Sl w.R w.W mD U V p2)(r:(List ik))(H:rG N p0 p1 p2=some r)(hE:HF w w.W (iZ [emp])):Calls Tryz.prog 14 [.agg #[iv p0.Clearance,iv p0.Width,iv p0.Ring,iv p0.Edge,iv p0.HoleGap,sL y p0.Classes C,sL D p0.Areas E],pV G,sL U p2 V].toArray w.W fun e W'=>∃u:(Option Addr×Nat),e= .returned (sL u.1 r u.2)∧(cO u.1 r.length u.2)∧HF w W' (iZ [ow u.1 u.2 97 iE r]):=by
 unfold rG at H
 have leB:=Bs.Le.refl w
 refine aV (n:=108) Tryz.func14 O O O hE (ai (fw 1 (cs:=[iv p0.Clearance,iv p0.Width,iv p0.Ring,iv p0.Edge,iv p0.HoleGap,sL y p0.Classes C,sL D p0.Areas E]) (wn O) O O O fun Q=>(Tr.k O (bC 2 97 iE ?_))))
 show Tr _ _ (uf _ 6 (sL none (([]:List ik)) 0)) _ _
 refine ae (aa (ai (Tr.k O (bC 3 97 iE ?_))))
 show Tr _ _ (uf _ 7 (sL none (([]:List ik)) 0)) _ _
 refine ae (aa (av (ai (ax O (aH bn O (aH (ag oW) O (aC O (fun _ _ a d=>ah wF (a.ev O) (aF.drop (qY P a3 d) 5) O) (aH (bf ze) O (ax O (ae (aa (Tr.block (bO (σ:=(List eQ)×Nat×(List ik)×(Option Addr)×Nat) (fun m w s=>m=s.1.length+1∧s.1=List.drop s.2.1 p1.Pieces∧s.2.1≤p1.Pieces.length∧iy N p0 p1 p2 s.1 s.2.1 s.2.2.1=some r∧cO s.2.2.2.1 s.2.2.1.length s.2.2.2.2) (fun s=>[(1,pV G),(2,sL U p2 V),(3,pV Q),(7,sL s.2.2.2.1 s.2.2.1 s.2.2.2.2),(18,sL p p1.Pieces J),(19,iv (p1.Pieces.length:Int)),(20,iv (s.2.1:Int))]) (fun s=>[(1,bx Q #[iv p0.Clearance,iv p0.Width,iv p0.Ring,iv p0.Edge,iv p0.HoleGap,sL y p0.Classes C,sL D p0.Areas E] 25),(3,ow s.2.2.2.1 s.2.2.2.2 97 iE s.2.2.1)]) (p1.Pieces.length+1) (p1.Pieces,0,([]:List ik),none,0) ⟨O,O,Nat.zero_le _,H,gZ⟩ (.r O) (.r O) (fun _ _ h=>absurd h.1 (by simp)) ?_)))))))))))))
 intro w Z m s hs
 obtain⟨I,o,b4,a8,a9⟩:=s
 obtain⟨c7,a4,l8,H,b8⟩:=hs
 replace a4:I=List.drop o p1.Pieces:=a4
 replace H:iy N p0 p1 p2 I o b4=some r:=H
 replace c7:m+1=I.length+1:=c7
 replace a3:=Z.ext.cells P a3
 replace P:=Z.r _ P
 replace F:=F.kL Z
 replace a1:=a1.kL Z
 replace a2:=a2.kL Z
 replace b1:=b1.le Z
 replace b2:=b2.kL Z
 replace leB:=leB.trans Z
 replace b8:cO a8 b4.length a9:=b8
 obtain rfl:m=I.length:=by omega
 clear c7
 dsimp only
 cases I with
 |nil=>
  rw[iy.eq_1] at H
  refine ai (ay aR O O (ae (aa (av (bX O (bN a4) (bK (aA (aA (aP (aa (ai (ax O (Tr.k O (ae (aa (aO ?_))))))))))))))))
  obtain rfl:=oI H
  exact bL (m:=[sL a8 b4 a9]) [] (aU O bD) (fun W hW=>⟨(a8,a9),O,b8,HF.ry leB (hW.pick (ks:=[3]) (by decide) (aN O bg)) ⟨kM _ _ _ _ JE,trivial⟩⟩)
 | cons f I=>
  rw[iy.eq_2] at H
  refine ai (ay aR O O (ae (aa (av (bY O (cu a4) (aJ (aa (av (Tr.block (ai (ax O ?_)))))))))))
  obtain⟨j4,f3,e9,f4⟩:=(F).el (dI a4)
  obtain⟨⟨q,v⟩,⟨g,i⟩⟩:=j4
  obtain⟨j0,M⟩:=e9
  replace M:Sl w.R w.W aB g i f.Rects:=M
  refine aC O (fun _ _ a d=>ak CL (a.ev O) F.form (a.ev O) (Int.natCast_nonneg _) (aX a4)) (aC O (fun _ _ a d=>aM (cs:=[iv f.Layer,sL q f.Set v,sL g f.Rects i]) Ju zi (a.ev O) (aF.take (qY f3 f4 d) 3) O) (Tr.alloc 18 (wn O) O Iy fun a5=>(Tr.k O (bF 18 (cs:=[iv f.Layer,sL q f.Set v,sL g f.Rects i]) [iv f.Layer,sL q f.Set v,sL g f.Rects i] (wn O) O O O O zi O O O (ae (aa (ai (ax O (ay bB O O (Tr.k O (ae (aa (Tr.block (bO (σ:=(List ik)×Int×(Option Addr)×Nat) (fun m w s=>iw N p0 p1 p2 (iy N p0 p1 p2 I (o+1)) f o m s.1 s.2.1=some r∧cO s.2.2.1 s.1.length s.2.2.2) (fun s=>[(1,pV G),(2,sL U p2 V),(3,pV Q),(7,sL s.2.2.1 s.1 s.2.2.2),(8,iv (o:Int)),(9,pV a5),(10,iv s.2.1),(18,sL p p1.Pieces J),(19,iv (p1.Pieces.length:Int)),(20,iv (o:Int))]) (fun s=>[(1,bx Q #[iv p0.Clearance,iv p0.Width,iv p0.Ring,iv p0.Edge,iv p0.HoleGap,sL y p0.Classes C,sL D p0.Areas E] 25),(3,ow s.2.2.1 s.2.2.2 97 iE s.1),(18,bx a5 #[iv f.Layer,sL q f.Set v,sL g f.Rects i] 76)]) N (b4,(bJ ((o:Int)+1)),a8,a9) ⟨H,b8⟩ (.r O) (.r O) (fun _ _ h=>mW (h.1)) ?_))))))))))))))
  intro w S k8 s hs
  obtain⟨T,j,K,L⟩:=s
  obtain⟨H,b3⟩:=hs
  replace H:iw N p0 p1 p2 (iy N p0 p1 p2 I (o+1)) f o (k8+1) T j=some r:=H
  replace a3:=S.ext.cells P a3
  replace P:=S.r _ P
  replace F:=F.kL S
  replace a1:=a1.kL S
  replace a2:=a2.kL S
  replace b1:=b1.le S
  replace b2:=b2.kL S
  replace M:=M.kL S
  replace Z:=Z.trans S
  replace b3:cO K T.length L:=b3
  rw[iw.eq_2] at H
  dsimp only
  refine av (av (ji (by kernel_rfl) (by kernel_rfl) (eY O (eY O (dA bn O (dA (ag oW) O (bv O (fun _ _ a d=>ah wF (a.ev O) (aF.drop (qY P a3 d) 5) O) (dA (bf ze) O (iU aR O O (eY O ?_))))))))))
  obtain⟨f5,b0,H⟩:=bnd H
  refine qx 12 [(1,pV G),(2,sL U p2 V),(3,pV Q),(7,sL K T L),(8,iv (o:Int)),(9,pV a5),(10,iv j),(18,sL p p1.Pieces J),(19,iv (p1.Pieces.length:Int)),(20,iv (o:Int)),(46,bV f5)] ?_ ?_
  ·cases e7:(decide (j<(p1.Pieces.length:Int)))
   ·rw[e7] at b0
    rw[if_neg (by decide)] at b0
    have H:=b0
    obtain rfl:=oI H
    exact Tq.ps O (Tq.ps O (Tq.ps O (Tq.ps O (Tq.ps O (Tq.ps O (Tq.ps O (Tq.ps O (Tq.ps O (Tq.ps O (Tq.ps O (iU aZ O O (bW (.r O)))))))))))))
   ·rw[e7] at b0
    rw[if_pos O] at b0
    have H:=b0
    refine jA run_move O (jA bn O (jA (ag oW) O (Tq.x (fun _ _ a d=>ah wF (a.ev O) (aF.drop (qY P a3 d) 5) O) (jA run_move O ?_))))
    obtain⟨l9,h9,H⟩:=bnd H
    obtain⟨f6,f7,f8⟩:=bi h9
    obtain⟨j5,f9,f1,g0⟩:=(F).el f8
    obtain⟨⟨k0,k1⟩,⟨k2,k3⟩⟩:=j5
    obtain⟨j1,j2⟩:=f1
    refine Tq.x (fun _ _ a d=>ak CL (a.ev O) F.form (a.ev O) f6 f7) (jA (ag xX) O (Tq.x (fun _ _ a d=>ah bG (a.ev O) (aF.drop (qY f9 g0 d) 0) O) (jA (ag xX) O (Tq.x (fun _ _ a d=>ah bG (a.ev O) (bR d (vs:=[iv f.Layer,sL q f.Set v,sL g f.Rects i]) (k:=18) O 0) O) (Tq.e2 iA O O (iU aW O O ?_))))))
    obtain rfl:=oI H
    exact bW (.r O)
  ·refine jD (aa (aT O H (fun H=>?_) (fun H=>?_)))
   ·refine aJ (aa (av (Tr.block (av (ji (by kernel_rfl) (by kernel_rfl) (eY O (dA bn O (dA (ag xY) O (bv O (fun _ _ a d=>ah gU (a.ev O) (aF.drop (qY P a3 d) 8) O) (eY O ?_))))))))))
    obtain⟨b9,i0,H⟩:=bnd H
    obtain⟨g1,g2,g3⟩:=bi i0
    refine bv O (fun _ _ a d=>ak iX (a.ev O) a1.form (a.ev O) g1 g2) (bv O (fun _ _ a d=>ah bG (a.ev O) (rP iH a1 g3 d) O) (eY O (dA bn O (dA (ag xY) O (bv O (fun _ _ a d=>ah gU (a.ev O) (aF.drop (qY P a3 d) 8) O) (eY O ?_))))))
    obtain⟨c0,i1,H⟩:=bnd H
    obtain⟨g4,g5,g6⟩:=bi i1
    refine bv O (fun _ _ a d=>ak iX (a.ev O) a1.form (a.ev O) g4 g5) (bv O (fun _ _ a d=>ah bG (a.ev O) (rP iH a1 g6 d) O) (nD O O (nD O O (jD (aa (av (ai (ax O (ax O (ay iA O O (ae (aa (aT O H (fun H=>?_) (fun H=>?_))))))))))))))
    ·exact bK (aA (aP (aa (Tr.region (ax O (ay bB O O (Tr.k O (ae (aI S (T,(bJ (j+1)),K,L) ⟨H,b3⟩ (.r O) (.r O))))))))))
    ·refine aJ (aa (av ?_))
     obtain⟨c8,i2,H⟩:=bnd H
     obtain⟨g7,g8,g9⟩:=bi i2
     obtain⟨j6,h0,f2,h1⟩:=(F).el g9
     obtain⟨⟨k4,k5⟩,⟨b5,b6⟩⟩:=j6
     obtain⟨j3,a7⟩:=f2
     replace a7:Sl w.R w.W aB b5 b6 c8.Rects:=a7
     obtain⟨c,i3,H⟩:=bnd H
     refine xz 12 [(11,.makeFunc (.func 0) #[] #[])] [(11,⟨13,23,.func (.func 0) #[] #[],fun b=>pV b,fun b=>bx b #[iv 0,iv 0,iv 0,iv 0,iv 0,iv 0,iv 0] 93⟩)] [(1,pV G),(2,sL U p2 V),(3,pV Q),(7,sL K T L),(8,iv (o:Int)),(9,pV a5),(10,iv j),(11,iv b9),(12,iv c0),(13,.func (.func 0) #[] #[]),(18,sL p p1.Pieces J),(19,iv (p1.Pieces.length:Int)),(20,iv (o:Int)),(46,bV f5),(49,pV G),(50,pV G),(51,.pointer (some ⟨G,0+8,none⟩)),(52,sL a0 p1.OfPiece b7),(53,iv (o:Int)),(54,.pointer (some ⟨mY a0,qj a0+((o:Int)).toNat*1,none⟩)),(55,iv b9),(56,pV G),(57,pV G),(58,.pointer (some ⟨G,0+8,none⟩)),(59,sL a0 p1.OfPiece b7),(60,iv j),(61,.pointer (some ⟨mY a0,qj a0+(j).toNat*1,none⟩)),(62,iv c0),(63,iv b9),(64,iv c0),(65,bV (b9==c0)),(66,.pointer (some ⟨a5,2,none⟩)),(67,sL g f.Rects i),(68,pV G),(69,pV G),(70,.pointer (some ⟨G,0+5,none⟩)),(71,sL p p1.Pieces J),(72,iv j),(73,.pointer (some ⟨mY p,qj p+(j).toNat*3,none⟩)),(74,.pointer (some ⟨mY p,qj p+(j).toNat*3+2,none⟩)),(75,sL b5 c8.Rects b6),(76,.agg #[iv c.A,iv c.B,iv c.Distance,iv c.From.X,iv c.From.Y,iv c.To.X,iv c.To.Y])] (by kernel_rfl) (by kernel_rfl) (by kernel_rfl) (by kernel_rfl) (by kernel_rfl) (by kernel_rfl) (by kernel_rfl) (kN (F9 O O KA) lV) (kN O lV) (kN O lV) ?_ ?_
     ·exact dA (ag xW) O (bv O (fun _ _ a d=>ah tQ (a.ev O) (bR d (vs:=[iv f.Layer,sL q f.Set v,sL g f.Rects i]) (k:=18) O 2) O) (eY O (dA bn O (dA (ag oW) O (bv O (fun _ _ a d=>ah wF (a.ev O) (aF.drop (qY P a3 d) 5) O) (eY O (bv O (fun _ _ a d=>ak CL (a.ev O) F.form (a.ev O) g7 g8) (dA (ag xW) O (bv O (fun _ _ a d=>ah tQ (a.ev O) (aF.drop (qY h0 h1 d) 2) O) (jB (r:=(.agg #[iv c.A,iv c.B,iv c.Distance,iv c.From.X,iv c.From.Y,iv c.To.X,iv c.To.Y])) (wn O) O Tryz.call29 (aj O (aj O aG)) (fun W hW=>AL f.Rects g i (M.ext hW.bU) c8.Rects b5 b6 (a7.ext hW.bU) c i3 (HF.start _)) (vg (vs:=[]) (wn O) O aG (bW (.r O)))))))))))))
     ·intro e8
      refine Tr.vC (lf:=[(1,pV G),(2,sL U p2 V),(3,pV Q),(7,sL K T L),(8,iv (o:Int)),(9,pV a5),(10,iv j),(11,iv b9),(12,iv c0),(13,.pointer (some ⟨(e8 11),0,none⟩)),(18,sL p p1.Pieces J),(19,iv (p1.Pieces.length:Int)),(20,iv (o:Int)),(76,.agg #[iv c.A,iv c.B,iv c.Distance,iv c.From.X,iv c.From.Y,iv c.To.X,iv c.To.Y])]) (le:=[(1,bx Q #[iv p0.Clearance,iv p0.Width,iv p0.Ring,iv p0.Edge,iv p0.HoleGap,sL y p0.Classes C,sL D p0.Areas E] 25),(3,ow K L 97 iE T),(18,bx a5 #[iv f.Layer,sL q f.Set v,sL g f.Rects i] 76),(23,bx (e8 11) #[iv 0,iv 0,iv 0,iv 0,iv 0,iv 0,iv 0] 93)]) (.r O) (.r O) (bF 23 (cs:=[iv c.A,iv c.B,iv c.Distance,iv c.From.X,iv c.From.Y,iv c.To.X,iv c.To.Y]) [iv c.A,iv c.B,iv c.Distance,iv c.From.X,iv c.From.Y,iv c.To.X,iv c.To.Y] (wn O) O O O O Fh O O O (ae (aa (av (ji (by kernel_rfl) (by kernel_rfl) (bv O (fun _ _ a d=>aM (cs:=[iv p0.Clearance,iv p0.Width,iv p0.Ring,iv p0.Edge,iv p0.HoleGap,sL y p0.Classes C,sL D p0.Areas E]) zQ yu (a.ev O) (aF.take (bR d (vs:=[iv p0.Clearance,iv p0.Width,iv p0.Ring,iv p0.Edge,iv p0.HoleGap,sL y p0.Classes C,sL D p0.Areas E]) (k:=1) O 0) 7) O) (eY O (eY O ?_))))))))
      obtain⟨j7,i4,H⟩:=bnd H
      obtain⟨h2,h3,h4⟩:=bi i4
      refine bv O (fun _ _ a d=>ak Ee (a.ev O) a2.form (a.ev O) h2 h3) (bv O (fun _ _ a d=>ah zP (a.ev O) (rP vT a2 h4 d) O) (eY O (eY O ?_)))
      obtain⟨j8,i5,H⟩:=bnd H
      obtain⟨h5,h6,h7⟩:=bi i5
      refine bv O (fun _ _ a d=>ak Ee (a.ev O) a2.form (a.ev O) h5 h6) (bv O (fun _ _ a d=>ah zP (a.ev O) (rP vT a2 h7 d) O) (dA (ag xX) O (bv O (fun _ _ a d=>ah bG (a.ev O) (bR d (vs:=[iv f.Layer,sL q f.Set v,sL g f.Rects i]) (k:=18) O 0) O) (dA (ag uo) O (bv O (fun _ _ a d=>aM (cs:=[iv c.From.X,iv c.From.Y]) tO pQ (a.ev O) (aF.take (bR d (vs:=[iv c.A,iv c.B,iv c.Distance,iv c.From.X,iv c.From.Y,iv c.To.X,iv c.To.Y]) (k:=23) O 3) 2) O) ?_)))))
      obtain⟨a6,i6,H⟩:=bnd H
      refine jB (r:=(iv a6)) (wn O) O Tryz.call30 (aj O (aj O (aj O (aj O (aj O aG))))) (fun W hW=>AO N p0 y C (b1.kC hW.bU) D E (b2.ext hW.bU) j7 j8 f.Layer c.From a6 i6 (HF.start _)) (nD O O (jD (aa (ai (aH (ag I9) O (aC O (fun _ _ a d=>ah bG (a.ev O) (bR d (vs:=[iv c.A,iv c.B,iv c.Distance,iv c.From.X,iv c.From.Y,iv c.To.X,iv c.To.Y]) (k:=23) O 2) O) (ax O (ay aR O O (ae (aa (aT O H (fun H=>?_) (fun H=>?_))))))))))))
      ·refine Tr.region (ax O (ax O (ax O (aH (ag I9) O (aC O (fun _ _ a d=>ah bG (a.ev O) (bR d (vs:=[iv c.A,iv c.B,iv c.Distance,iv c.From.X,iv c.From.Y,iv c.To.X,iv c.To.Y]) (k:=23) O 2) O) (ax O (aH (ag uo) O (aC O (fun _ _ a d=>aM (cs:=[iv c.From.X,iv c.From.Y]) tO pQ (a.ev O) (aF.take (bR d (vs:=[iv c.A,iv c.B,iv c.Distance,iv c.From.X,iv c.From.Y,iv c.To.X,iv c.To.Y]) (k:=23) O 3) 2) O) (ko (vs:=[(0,iv 1),(1,iv (o:Int)),(2,iv j),(3,iv c.Distance),(4,iv a6),(5,.agg #[iv c.From.X,iv c.From.Y])]) (cs:=[iv 1,iv (o:Int),iv j,iv c.Distance,iv a6,iv c.From.X,iv c.From.Y]) (wn O) O (bz O (bz O (bz O (bz O (bz O (bz O dE)))))) (by kernel_rfl) (eD 24 (e:=97) (vs:=[(0,.agg #[iv 1,iv (o:Int),iv j,iv c.Distance,iv a6,iv c.From.X,iv c.From.Y])]) (cs:=[iv 1,iv (o:Int),iv j,iv c.Distance,iv a6,iv c.From.X,iv c.From.Y]) (wn O) O (bz O dE) (by kernel_rfl) fun m0=>?_))))))))))
       obtain⟨j9,i7,H⟩:=bnd H
       exact Tr.append 3 (t:=iE) (l:=T) (l2:=[(ik.mk 1 (o:Int) j c.Distance a6 c.From)]) (wn O) O O O O (fun W hW=>⟨[[iv 1,iv (o:Int),iv j,iv c.Distance,iv a6,iv c.From.X,iv c.From.Y]],(.cons ⟨(),trivial,O⟩ .nil),bR hW (vs:=[iv 1,iv (o:Int),iv j,iv c.Distance,iv a6,iv c.From.X,iv c.From.Y]) (k:=24) O 0⟩) IB QI Qv (by decide) Rh O i7 fun i8 i9 h8=>(Tr.k O (ae (aK (aa (Tr.region (ax O (ay bB O O (Tr.k O (ae (aI S (j9,(bJ (j+1)),i8,i9) ⟨H,h8⟩ (.r O) (.r O)))))))))))
      ·exact aJ (aK (aa (Tr.region (ax O (ay bB O O (Tr.k O (ae (aI S (T,(bJ (j+1)),K,L) ⟨H,b3⟩ (.r O) (.r O)))))))))
   ·exact bK (aA (aA (aP (aK (aa (Tr.region (ay bB O O (ax O (ae (aI Z (I,(o+1),T,K,L) ⟨O,bT a4,aX a4,H,b3⟩ (.cons O (.cons O (.cons O (.cons O (.cons O (.cons O (.cons (congrArg (fun z=>some (Value.int .i64 z)) (bS a4 F.form)) .nil))))))) (.r O)))))))))))

theorem Bv{w:Bs}(p0:(List ik))(a:Option Addr)(b:Nat)(c:Sl w.O w.W iE a b p0)(r:((List ik)×Int))(H:sP p0=some r)(hE:HF w w.W (iZ [])):Calls Tryz.prog 13 [sL a p0 b].toArray w.W fun e W'=>∃(w':Bs) (u:(Option Addr×Nat)),w.Le w'∧e= .returned (.tuple #[sL u.1 r.1 u.2,iv r.2])∧(Sl w'.O w'.W iE u.1 u.2 r.1)∧HF w' W' (iZ []):=by
 unfold sP at H
 have leB:=Bs.Le.refl w
 refine aV (n:=8) Tryz.func13 O O O hE (ai (Tr.k O (bC 1 97 iE ?_)))
 show Tr _ _ (uf _ 2 (sL none (([]:List ik)) 0)) _ _
 refine Tr.k O (ae (aa (av (ai (ax O (aH (bf IB) O (ay iG O O (ae (aa (aT O H (fun H=>?_) (fun H=>?_)))))))))))
 ·refine ai (Tr.k O (bC 2 97 iE ?_))
  show Tr _ _ (uf _ 2 (sL none (([]:List ik)) 0)) _ _
  refine Tr.k O (ae (aa (aO (aD ?_))))
  obtain rfl:=oI H
  refine Tr.freeze 2 O fun w d f=>?_
  replace leB:=leB.trans d
  exact bL (m:=[sL none (([]:List ik)) 0,iv 2]) [] (aU O (aU O bD)) (fun W hW=>⟨w,(none,0),leB,O,f,hW.pick (ks:=[]) (by decide) bg⟩)
 ·refine aJ (aa (ai (ax O (Tr.k O (Tr.k O (ae (aa (aO ?_))))))))
  obtain rfl:=oI H
  exact bL (m:=[sL a p0 b,iv 0]) [] (aU O (aU O bD)) (fun W hW=>⟨w,(a,b),leB,O,c,hW.pick (ks:=[]) (by decide) bg⟩)

theorem AR(N:Nat){w:Bs}(hT:Dx Tryz.prog w)(p0:gp)(B:Option Addr)(C:Nat)(c8:Sl w.O w.W iW B C p0.Classes)(D:Option Addr)(E:Nat)(c9:Sl w.R w.W jh D E p0.Areas)(p1:nU)(b3:Option Addr)(b4:Nat)(f5:Sl w.O w.W dF b3 b4 p1.Coppers)(b5:Option Addr)(b6:Nat)(f6:Sl w.O w.W aB b5 b6 p1.Outline)(b7:Option Addr)(b8:Nat)(f7:Sl w.O w.W dY b7 b8 p1.Bores)(b9:Option Addr)(c0:Nat)(f8:Sl w.O w.W eH b9 c0 p1.Lands)(p2:(List ByteArray))(d0:Option Addr)(d1:Nat)(d2:Sl w.R w.W mD d0 d1 p2)(r:((List ik)×Int))(H:ng N p0 p1 p2=some r)(hE:HF w w.W (iZ [])):Calls Tryz.prog 4 [.agg #[iv p0.Clearance,iv p0.Width,iv p0.Ring,iv p0.Edge,iv p0.HoleGap,sL B p0.Classes C,sL D p0.Areas E],.agg #[sL b3 p1.Coppers b4,sL b5 p1.Outline b6,sL b7 p1.Bores b8,sL b9 p1.Lands c0],sL d0 p2 d1].toArray w.W fun e W'=>∃(w':Bs) (u:(Option Addr×Nat)),w.Le w'∧e= .returned (.tuple #[sL u.1 r.1 u.2,iv r.2])∧(Sl w'.O w'.W iE u.1 u.2 r.1)∧HF w' W' (iZ []):=by
 unfold ng at H
 have leB:=Bs.Le.refl w
 refine aV (n:=27) Tryz.func4 O O O hE (ai (fw 1 (cs:=[iv p0.Clearance,iv p0.Width,iv p0.Ring,iv p0.Edge,iv p0.HoleGap,sL B p0.Classes C,sL D p0.Areas E]) (wn O) O O O fun g7=>(fw 2 (cs:=[sL b3 p1.Coppers b4,sL b5 p1.Outline b6,sL b7 p1.Bores b8,sL b9 p1.Lands c0]) (wn O) O O O fun g8=>(Tr.k O (bC 3 97 iE ?_)))))
 show Tr _ _ (uf _ 6 (sL none (([]:List ik)) 0)) _ _
 refine Tr.k O (ae (aa (ai (aC O (fun _ _ a d=>aM (cs:=[iv p0.Clearance,iv p0.Width,iv p0.Ring,iv p0.Edge,iv p0.HoleGap,sL B p0.Classes C,sL D p0.Areas E]) zQ yu (a.ev O) (aF.take (bR d (vs:=[iv p0.Clearance,iv p0.Width,iv p0.Ring,iv p0.Edge,iv p0.HoleGap,sL B p0.Classes C,sL D p0.Areas E]) (k:=1) O 0) 7) O) (aC O (fun _ _ a d=>aM (cs:=[sL b3 p1.Coppers b4,sL b5 p1.Outline b6,sL b7 p1.Bores b8,sL b9 p1.Lands c0]) uZ uP (a.ev O) (aF.take (bR d (vs:=[sL b3 p1.Coppers b4,sL b5 p1.Outline b6,sL b7 p1.Bores b8,sL b9 p1.Lands c0]) (k:=2) O 0) 4) O) (ax O ?_))))))
 obtain⟨b,f9,H⟩:=bnd H
 refine eZ [4] [emp] (U:=(Option Addr×Nat)×(Option Addr×Nat)×(Option Addr×Nat)×(Option Addr×Nat)×(Option Addr×Nat)×(Option Addr×Nat)×(Option Addr×Nat)×(Option Addr×Nat)×(Option Addr×Nat)×(Option Addr×Nat)×(Option Addr×Nat)×(Option Addr×Nat)×(Option Addr×Nat)) (fun u=>(.tuple #[(Hy u.2.2.2.2.2.2.2.2.2.2.2.2.2 b.1),iv b.2])) (fun a' W u=>di b.1 (fun x0=>Sl a' W dF u.1.1 u.1.2 x0.Art.Coppers)∧di b.1 (fun x0=>Sl a' W aB u.2.1.1 u.2.1.2 x0.Art.Outline)∧di b.1 (fun x0=>Sl a' W dY u.2.2.1.1 u.2.2.1.2 x0.Art.Bores)∧di b.1 (fun x0=>Sl a' W eH u.2.2.2.1.1 u.2.2.2.1.2 x0.Art.Lands)∧di b.1 (fun x0=>Sl a' W bM u.2.2.2.2.1.1 u.2.2.2.2.1.2 x0.Drilled)∧di b.1 (fun x0=>Sl a' W dG u.2.2.2.2.2.1.1 u.2.2.2.2.2.1.2 x0.Pieces)∧di b.1 (fun x0=>Sl a' W fE u.2.2.2.2.2.2.1.1 u.2.2.2.2.2.2.1.2 x0.Touched)∧di b.1 (fun x0=>Sl a' W dw u.2.2.2.2.2.2.2.1.1 u.2.2.2.2.2.2.2.1.2 x0.Groups)∧di b.1 (fun x0=>Sl a' W az u.2.2.2.2.2.2.2.2.1.1 u.2.2.2.2.2.2.2.2.1.2 x0.OfPiece)∧di b.1 (fun x0=>Sl a' W az u.2.2.2.2.2.2.2.2.2.1.1 u.2.2.2.2.2.2.2.2.2.1.2 x0.OfBore)∧di b.1 (fun x0=>Sl a' W az u.2.2.2.2.2.2.2.2.2.2.1.1 u.2.2.2.2.2.2.2.2.2.2.1.2 x0.OfLand)∧di b.1 (fun x0=>Sl a' W dX u.2.2.2.2.2.2.2.2.2.2.2.1.1 u.2.2.2.2.2.2.2.2.2.2.2.1.2 x0.AtLand)∧True) (fun u=>[PX u.2.2.2.2.2.2.2.2.2.2.2.2.2 72 b.1 (fun x0=> #[sL u.1.1 x0.Art.Coppers u.1.2,sL u.2.1.1 x0.Art.Outline u.2.1.2,sL u.2.2.1.1 x0.Art.Bores u.2.2.1.2,sL u.2.2.2.1.1 x0.Art.Lands u.2.2.2.1.2,sL u.2.2.2.2.1.1 x0.Drilled u.2.2.2.2.1.2,sL u.2.2.2.2.2.1.1 x0.Pieces u.2.2.2.2.2.1.2,sL u.2.2.2.2.2.2.1.1 x0.Touched u.2.2.2.2.2.2.1.2,sL u.2.2.2.2.2.2.2.1.1 x0.Groups u.2.2.2.2.2.2.2.1.2,sL u.2.2.2.2.2.2.2.2.1.1 x0.OfPiece u.2.2.2.2.2.2.2.2.1.2,sL u.2.2.2.2.2.2.2.2.2.1.1 x0.OfBore u.2.2.2.2.2.2.2.2.2.1.2,sL u.2.2.2.2.2.2.2.2.2.2.1.1 x0.OfLand u.2.2.2.2.2.2.2.2.2.2.1.2,sL u.2.2.2.2.2.2.2.2.2.2.2.1.1 x0.AtLand u.2.2.2.2.2.2.2.2.2.2.2.1.2])]) O (aN O bg) (fun _=>O) (wn O) O Tryz.call12 (aj O (aj O (aj O aG))) (fun W hW hp hE=>Bw N (hT.ext (hW.dU hp)) p0 B C (c8.rl.ext (hW.dU hp)) D E (c9.ext (hW.dU hp)) p1 b3 b4 (f5.kC (hW.dU hp)) b5 b6 (f6.kC (hW.dU hp)) b7 b8 (f7.kC (hW.dU hp)) b9 c0 (f8.kC (hW.dU hp)) p2 d0 d1 (d2.ext (hW.dU hp)) b f9 hE) ?_
 intro w u c7 hu
 obtain⟨⟨L,M⟩,⟨P,Q⟩,⟨S,T⟩,⟨V,X⟩,⟨Z,a0⟩,⟨a1,a2⟩,⟨a3,a4⟩,⟨a5,a6⟩,⟨a7,a8⟩,⟨a9,b0⟩,⟨F,G⟩,⟨I,J⟩,⟨g5,K⟩⟩:=u
 obtain⟨e0,e3,e4,e5,e6,e7,e8,e9,f1,f2,d5,d6,d7⟩:=hu
 replace hT:=hT.ext c7.ext
 replace c8:=c8.le c7
 replace c9:=c9.kL c7
 replace d2:=d2.kL c7
 replace leB:=leB.trans c7
 have h:di b.1 (fun x0=>Sl w.O w.W dF L M x0.Art.Coppers):=e0 --@phi
 have i:di b.1 (fun x0=>Sl w.O w.W aB P Q x0.Art.Outline):=e3 --@phi
 have j:di b.1 (fun x0=>Sl w.O w.W dY S T x0.Art.Bores):=e4 --@phi
 have l:di b.1 (fun x0=>Sl w.O w.W eH V X x0.Art.Lands):=e5 --@phi
 have o:di b.1 (fun x0=>Sl w.O w.W bM Z a0 x0.Drilled):=e6 --@phi
 have p:di b.1 (fun x0=>Sl w.O w.W dG a1 a2 x0.Pieces):=e7 --@phi
 have q:di b.1 (fun x0=>Sl w.O w.W fE a3 a4 x0.Touched):=e8 --@phi
 have s:di b.1 (fun x0=>Sl w.O w.W dw a5 a6 x0.Groups):=e9 --@phi
 have t:di b.1 (fun x0=>Sl w.O w.W az a7 a8 x0.OfPiece):=f1 --@phi
 have v:di b.1 (fun x0=>Sl w.O w.W az a9 b0 x0.OfBore):=f2 --@phi
 have f:di b.1 (fun x0=>Sl w.O w.W az F G x0.OfLand):=d5 --@phi
 have g:di b.1 (fun x0=>Sl w.O w.W dX I J x0.AtLand):=d6 --@phi
 have g4:True:=d7 --@phi
 dsimp only
 obtain d3|⟨c,d3⟩:=Ll b.1
 ·rw[d3] at H ⊢
  dsimp only[ui] at H
  show Tr _ _ (uf _ 14 (.tuple #[.pointer none,iv b.2])) (up _ 4 (emp)) _
  refine ax O (aC O (fun _ _ a d=>bA (a.ev O) O) (aC O (fun _ _ a d=>bA (a.ev O) O) (Tr.k O (Tr.k O (ae (aa (av (ai (ax O (ay fM O O (ae (aa (aT O H (fun H=>?_) (fun H=>?_))))))))))))))
  ·refine ai (ax O (Tr.k O (bC 5 97 iE ?_)))
   show Tr _ _ (uf _ 6 (sL none (([]:List ik)) 0)) _ _
   refine Tr.k O (ae (aa (aO (aD ?_))))
   obtain rfl:=oI H
   refine Tr.freeze 5 O fun w d9 g0=>?_
   replace hT:=hT.ext d9.ext
   replace leB:=leB.trans d9
   exact bL (m:=[sL none (([]:List ik)) 0,iv b.2]) [] (aU O (aU O bD)) (fun W hW=>⟨w,(none,0),leB,O,g0,hW.pick (ks:=[]) (by decide) bg⟩)
  ·refine aJ (aa (ai (aC O (fun _ _ a d=>aM (cs:=[iv p0.Clearance,iv p0.Width,iv p0.Ring,iv p0.Edge,iv p0.HoleGap,sL B p0.Classes C,sL D p0.Areas E]) zQ yu (a.ev O) (aF.take (bR d (vs:=[iv p0.Clearance,iv p0.Width,iv p0.Ring,iv p0.Edge,iv p0.HoleGap,sL B p0.Classes C,sL D p0.Areas E]) (k:=1) O 0) 7) O) (ax O (ax O ?_)))))
   cases H
 ·rw[d3] at H h i j l o p q s t v f g ⊢
  dsimp only[ui] at H
  replace h:Sl w.O w.W dF L M c.Art.Coppers:=h
  replace i:Sl w.O w.W aB P Q c.Art.Outline:=i
  replace j:Sl w.O w.W dY S T c.Art.Bores:=j
  replace l:Sl w.O w.W eH V X c.Art.Lands:=l
  replace o:Sl w.O w.W bM Z a0 c.Drilled:=o
  replace p:Sl w.O w.W dG a1 a2 c.Pieces:=p
  replace q:Sl w.O w.W fE a3 a4 c.Touched:=q
  replace s:Sl w.O w.W dw a5 a6 c.Groups:=s
  replace t:Sl w.O w.W az a7 a8 c.OfPiece:=t
  replace v:Sl w.O w.W az a9 b0 c.OfBore:=v
  replace f:Sl w.O w.W az F G c.OfLand:=f
  replace g:Sl w.O w.W dX I J c.AtLand:=g
  show Tr _ _ (uf _ 14 (.tuple #[pV K,iv b.2])) (up _ 4 (bx K #[sL L c.Art.Coppers M,sL P c.Art.Outline Q,sL S c.Art.Bores T,sL V c.Art.Lands X,sL Z c.Drilled a0,sL a1 c.Pieces a2,sL a3 c.Touched a4,sL a5 c.Groups a6,sL a7 c.OfPiece a8,sL a9 c.OfBore b0,sL F c.OfLand G,sL I c.AtLand J] 72)) _
  refine ax O (aC O (fun _ _ a d=>bA (a.ev O) O) (aC O (fun _ _ a d=>bA (a.ev O) O) (Tr.k O (Tr.k O (ae (aa (av (ai (ax O (ay fM O O (ae (aa (aT O H (fun H=>?_) (fun H=>?_))))))))))))))
  ·refine ai (ax O (Tr.k O (bC 6 97 iE ?_)))
   show Tr _ _ (uf _ 6 (sL none (([]:List ik)) 0)) _ _
   refine Tr.k O (ae (aa (aO (aD ?_))))
   obtain rfl:=oI H
   refine Tr.freeze 6 O fun w z g1=>?_
   replace hT:=hT.ext z.ext
   replace h:=h.le z
   replace i:=i.le z
   replace j:=j.le z
   replace l:=l.le z
   replace o:=o.le z
   replace p:=p.le z
   replace q:=q.le z
   replace s:=s.le z
   replace t:=t.le z
   replace v:=v.le z
   replace f:=f.le z
   replace g:=g.le z
   replace leB:=leB.trans z
   exact bL (m:=[sL none (([]:List ik)) 0,iv b.2]) [] (aU O (aU O bD)) (fun W hW=>⟨w,(none,0),leB,O,g1,hW.pick (ks:=[]) (by decide) bg⟩)
  ·refine aJ (aa (ai (aC O (fun _ _ a d=>aM (cs:=[iv p0.Clearance,iv p0.Width,iv p0.Ring,iv p0.Edge,iv p0.HoleGap,sL B p0.Classes C,sL D p0.Areas E]) zQ yu (a.ev O) (aF.take (bR d (vs:=[iv p0.Clearance,iv p0.Width,iv p0.Ring,iv p0.Edge,iv p0.HoleGap,sL B p0.Classes C,sL D p0.Areas E]) (k:=1) O 0) 7) O) (ax O (ax O ?_)))))
   obtain⟨b2,g2,H⟩:=bnd H
   refine gG [7] [emp] (U:=(Option Addr×Nat)) (fun u=>(sL u.1 b2 u.2)) (fun u=>cO u.1 b2.length u.2) (fun u=>[ow u.1 u.2 97 iE b2]) O (aN O bg) (fun _=>O) (wn O) O Tryz.call14 (aj O (aj O (aj O aG))) (fun W hW hp hE=>AQ N p0 B C (c8.kC (hW.dU hp)) D E (c9.ext (hW.dU hp)) c L M (h.rl.ext (hW.dU hp)) P Q (i.rl.ext (hW.dU hp)) S T (j.rl.ext (hW.dU hp)) V X (l.rl.ext (hW.dU hp)) Z a0 (o.rl.ext (hW.dU hp)) a1 a2 (p.rl.ext (hW.dU hp)) a3 a4 (q.rl.ext (hW.dU hp)) a5 a6 (s.rl.ext (hW.dU hp)) a7 a8 (t.rl.ext (hW.dU hp)) a9 b0 (v.rl.ext (hW.dU hp)) F G (f.rl.ext (hW.dU hp)) I J (g.rl.ext (hW.dU hp)) K (hW.MG (k:=4) O hp O) (hW.Qi (k:=4) O) p2 d0 d1 (d2.ext (hW.dU hp)) b2 g2 hE) ?_
   intro u hu
   obtain⟨c3,c4⟩:=u
   have f3:=hu
   have g6:cO c3 b2.length c4:=f3 --@phi
   dsimp only
   refine Tr.freeze 7 O fun w A d4=>?_
   replace hT:=hT.ext A.ext
   replace h:=h.le A
   replace i:=i.le A
   replace j:=j.le A
   replace l:=l.le A
   replace o:=o.le A
   replace p:=p.le A
   replace q:=q.le A
   replace s:=s.le A
   replace t:=t.le A
   replace v:=v.le A
   replace f:=f.le A
   replace g:=g.le A
   replace leB:=leB.trans A
   obtain⟨b1,g3,H⟩:=bnd H
   refine eZ [] [] (U:=(Option Addr×Nat)) (fun u=>(.tuple #[sL u.1 b1.1 u.2,iv b1.2])) (fun a' W u=>Sl a' W iE u.1 u.2 b1.1) (fun u=>[]) O bg (fun _=>O) (wn O) O Tryz.call13 (aj O aG) (fun W hW hp hE=>Bv b2 c3 c4 (d4.kC (hW.dU hp)) b1 g3 hE) ?_
   intro w u y hu
   obtain⟨c5,c6⟩:=u
   have f4:=hu
   replace hT:=hT.ext y.ext
   replace h:=h.le y
   replace i:=i.le y
   replace j:=j.le y
   replace l:=l.le y
   replace o:=o.le y
   replace p:=p.le y
   replace q:=q.le y
   replace s:=s.le y
   replace t:=t.le y
   replace v:=v.le y
   replace f:=f.le y
   replace g:=g.le y
   replace d4:=d4.le y
   replace leB:=leB.trans y
   have d8:Sl w.O w.W iE c5 c6 b1.1:=f4 --@phi
   dsimp only
   refine aC O (fun _ _ a d=>bA (a.ev O) O) (aC O (fun _ _ a d=>bA (a.ev O) O) (Tr.k O (Tr.k O (ae (aa (aO ?_))))))
   obtain rfl:=oI H
   exact bL (m:=[sL c5 b1.1 c6,iv b1.2]) [] (aU O (aU O bD)) (fun W hW=>⟨w,(c5,c6),leB,O,d8,hW.pick (ks:=[]) (by decide) bg⟩)

theorem AU{w:Bs}(p0:Int)(p1:Int)(p2:Int)(r:Bool)(H:uG p0 p1 p2=some r)(hE:HF w w.W E0):Calls Tryz.prog 68 [iv p0,iv p1,iv p2].toArray w.W fun e W'=>e= .returned (bV r)∧HF w W' E0:=by
 unfold uG at H
 have leB:=Bs.Le.refl w
 refine aV (n:=15) Tryz.func68 O O O hE (ai (Tr.k O (ae (aa (ai (ax O (ax O (ay oh O O (ax O (bP 4 [(14,bV ((decide (p1≤p0))&&(decide (p0≤p2))))] [] ?_ ?_))))))))))
 ·cases a:(decide (p1≤p0))
  ·exact Tr.ps O (Tr.ps O (Tr.ps O (ay aZ O O (ae (aS (.r O) .nil)))))
  ·exact bH run_move O (bH run_move O (Tr.e2 jY O O (ay aW O O (ae (aS (.r O) .nil)))))
 ·show Tr _ _ (LF [(14,bV ((decide (p1≤p0))&&(decide (p0≤p2))))]) (LE []) _
  refine Tr.k O (ae (aa (aO ?_)))
  obtain rfl:=oI H
  exact cB leB

theorem zW(N:Nat)(rec:(List eF)→Option Int)(hrec:∀{w:Bs} (p0:(List eF)) (b:Option Addr) (c:Nat) (i:Sl w.R w.W ic b c p0) (r:Int) (H:rec p0=some r) (hE:HF w w.W E0),Calls Tryz.prog 70 [sL b p0 c].toArray w.W fun e W'=>e= .returned (iv r)∧HF w W' E0){w:Bs}(p0:(List eF))(b:Option Addr)(c:Nat)(i:Sl w.R w.W ic b c p0)(r:Int)(H:tZ N rec p0=some r)(hE:HF w w.W E0):Calls Tryz.prog 70 [sL b p0 c].toArray w.W fun e W'=>e= .returned (iv r)∧HF w W' E0:=by
 unfold tZ at H
 have leB:=Bs.Le.refl w
 refine aV (n:=30) Tryz.func70 O O O hE (ai (Tr.k O (ae (aa (ai (Tr.k O (ae (aa (av (ai (ax O (aH (bf KL) O (ax O (ae (aa (Tr.block (bO (σ:=(List eF)×Nat) (fun m w s=>m=s.1.length+1∧s.1=List.drop s.2 p0∧s.2≤p0.length∧nV s.1 s.2=some r) (fun s=>[(3,iv 0),(6,sL b p0 c),(7,iv (p0.length:Int)),(8,iv (s.2:Int))]) (fun s=>[]) (p0.length+1) (p0,0) ⟨O,O,Nat.zero_le _,H⟩ (.r O) .nil (fun _ _ h=>absurd h.1 (by simp)) ?_)))))))))))))))))
 intro w j m s hs
 obtain⟨a,g⟩:=s
 obtain⟨f,d,l,H⟩:=hs
 replace d:a=List.drop g p0:=d
 replace H:nV a g=some r:=H
 replace f:m+1=a.length+1:=f
 replace leB:=leB.trans j
 obtain rfl:m=a.length:=by omega
 clear f
 dsimp only
 cases a with
 |nil=>
  rw[nV.eq_1] at H
  refine ai (ay aR O O (ae (aa (av (bX O (bN d) (bK (aA (aA (aP (aa (ai (ax O (Tr.k O (ae (aa (aO ?_))))))))))))))))
  obtain rfl:=oI H
  exact cB leB
 |cons o a=>
  rw[nV.eq_2] at H
  refine ai (ay aR O O (ae (aa (av (bY O (cu d) (aJ (aa (av (Tr.block (av ?_))))))))))
  cases H
theorem wI:∀(N:Nat) {w:Bs} (p0:(List eF)) (a:Option Addr) (b:Nat) (c:Sl w.R w.W ic a b p0) (r:Int) (H:sQ N p0=some r) (hE:HF w w.W E0),Calls Tryz.prog 70 [sL a p0 b].toArray w.W fun e W'=>e= .returned (iv r)∧HF w W' E0
 |0=>by intros;rename_i H _;cases H
 |N+1=>zW N (sQ N) (wI N)

theorem wB(N:Nat)(rec:tT→(List eF)→Int→Option Int)(hrec:∀{w:Bs} (p0:tT) (a:Option Addr) (b:Nat) (q:Sl w.R w.W qI a b p0.Tools) (c:Option Addr) (d:Nat) (t:Sl w.R w.W ic c d p0.Steps) (p1:(List eF)) (g:Option Addr) (i:Nat) (u:Sl w.R w.W ic g i p1) (p2:Int) (r:Int) (H:rec p0 p1 p2=some r) (hE:HF w w.W E0),Calls Tryz.prog 71 [.agg #[iv p0.Unit,sL a p0.Tools b,sL c p0.Steps d],sL g p1 i,iv p2].toArray w.W fun e W'=>e= .returned (iv r)∧HF w W' E0){w:Bs}(p0:tT)(a:Option Addr)(b:Nat)(q:Sl w.R w.W qI a b p0.Tools)(c:Option Addr)(d:Nat)(t:Sl w.R w.W ic c d p0.Steps)(p1:(List eF))(g:Option Addr)(i:Nat)(u:Sl w.R w.W ic g i p1)(p2:Int)(r:Int)(H:pK N rec p0 p1 p2=some r)(hE:HF w w.W E0):Calls Tryz.prog 71 [.agg #[iv p0.Unit,sL a p0.Tools b,sL c p0.Steps d],sL g p1 i,iv p2].toArray w.W fun e W'=>e= .returned (iv r)∧HF w W' E0:=by
 unfold pK at H
 have leB:=Bs.Le.refl w
 refine aV (n:=34) Tryz.func71 O O O hE (ai (fw 1 (cs:=[iv p0.Unit,sL a p0.Tools b,sL c p0.Steps d]) (wn O) O O O fun j=>(Tr.k O (ae (aa (av (ai (ax O (aH (bf KL) O (ax O (ae (aa (Tr.block (bO (σ:=(List eF)×Nat) (fun m w s=>m=s.1.length+1∧s.1=List.drop s.2 p1∧s.2≤p1.length∧kY s.1 s.2=some r) (fun s=>[(2,iv p2),(3,pV j),(11,sL g p1 i),(12,iv (p1.length:Int)),(13,iv (s.2:Int))]) (fun s=>[(1,bx j #[iv p0.Unit,sL a p0.Tools b,sL c p0.Steps d] 64)]) (p1.length+1) (p1,0) ⟨O,O,Nat.zero_le _,H⟩ (.r O) (.r O) (fun _ _ h=>absurd h.1 (by simp)) ?_))))))))))))))
 intro w v m s hs
 obtain⟨f,p⟩:=s
 obtain⟨o,l,y,H⟩:=hs
 replace l:f=List.drop p p1:=l
 replace H:kY f p=some r:=H
 replace o:m+1=f.length+1:=o
 replace leB:=leB.trans v
 obtain rfl:m=f.length:=by omega
 clear o
 dsimp only
 cases f with
 |nil=>
  rw[kY.eq_1] at H
  refine ai (ay aR O O (ae (aa (av (bX O (bN l) (bK (aA (aA (aP (aa (ai (Tr.k O (ae (aa (aO ?_)))))))))))))))
  obtain rfl:=oI H
  exact cB leB
 |cons z f=>
  rw[kY.eq_2] at H
  refine ai (ay aR O O (ae (aa (av (bY O (cu l) (aJ (aa (av (Tr.block (av ?_))))))))))
  cases H
theorem rZ:∀(N:Nat) {w:Bs} (p0:tT) (a:Option Addr) (b:Nat) (h:Sl w.R w.W qI a b p0.Tools) (c:Option Addr) (d:Nat) (i:Sl w.R w.W ic c d p0.Steps) (p1:(List eF)) (f:Option Addr) (g:Nat) (j:Sl w.R w.W ic f g p1) (p2:Int) (r:Int) (H:oz N p0 p1 p2=some r) (hE:HF w w.W E0),Calls Tryz.prog 71 [.agg #[iv p0.Unit,sL a p0.Tools b,sL c p0.Steps d],sL f p1 g,iv p2].toArray w.W fun e W'=>e= .returned (iv r)∧HF w W' E0
 |0=>by intros;rename_i H _;cases H
 |N+1=>wB N (oz N) (rZ N)

theorem yt(N:Nat){w:Bs}(p0:tT)(b:Option Addr)(c:Nat)(l:Sl w.R w.W qI b c p0.Tools)(f:Option Addr)(g:Nat)(j:Sl w.R w.W ic f g p0.Steps)(r:Int)(H:pE N p0=some r)(hE:HF w w.W E0):Calls Tryz.prog 31 [.agg #[iv p0.Unit,sL b p0.Tools c,sL f p0.Steps g]].toArray w.W fun e W'=>e= .returned (iv r)∧HF w W' E0:=by
 unfold pE at H
 have leB:=Bs.Le.refl w
 refine aV (n:=52) Tryz.func31 O O O hE (ai (fw 1 (cs:=[iv p0.Unit,sL b p0.Tools c,sL f p0.Steps g]) (wn O) O O O fun o=>(Tr.k O (ae (aa (av (ai (aH (ag Je) O (aC O (fun _ _ a d=>ah bG (a.ev O) (bR d (vs:=[iv p0.Unit,sL b p0.Tools c,sL f p0.Steps g]) (k:=1) O 0) O) ?_)))))))))
 obtain⟨u,A,H⟩:=bnd H
 refine bu (r:=(bV u)) (wn O) O Tryz.call68 (aj O (aj O (aj O aG))) (fun W hW=>AU p0.Unit 1 1000 u A (HF.start _)) (aH iQ O (ae (aa (aT O H (fun H=>?_) (fun H=>?_)))))
 ·refine ai (Tr.k O (ae (aa (aO (aD ?_)))))
  obtain rfl:=oI H
  exact cB leB
 ·refine aJ (aa (av (ai (aH (ag EO) O (aC O (fun _ _ a d=>ah MM (a.ev O) (bR d (vs:=[iv p0.Unit,sL b p0.Tools c,sL f p0.Steps g]) (k:=1) O 1) O) (aH (bf KM) O (ay iG O O (ae (aa (aT O H (fun H=>?_) (fun H=>?_)))))))))))
  ·refine ai (Tr.k O (ae (aa (aO (aD ?_)))))
   obtain rfl:=oI H
   exact cB leB
  ·refine aJ (aa (av (ai (aH (ag EO) O (aC O (fun _ _ a d=>ah MM (a.ev O) (bR d (vs:=[iv p0.Unit,sL b p0.Tools c,sL f p0.Steps g]) (k:=1) O 1) O) (aH (bf KM) O (ax O (ae (aa (Tr.block (bO (σ:=(List sZ)×Nat) (fun m w s=>m=s.1.length+1∧s.1=List.drop s.2 p0.Tools∧s.2≤p0.Tools.length∧lH N p0 s.1 s.2=some r) (fun s=>[(1,pV o),(15,sL b p0.Tools c),(16,iv (p0.Tools.length:Int)),(17,iv (s.2:Int))]) (fun s=>[(1,bx o #[iv p0.Unit,sL b p0.Tools c,sL f p0.Steps g] 64)]) (p0.Tools.length+1) (p0.Tools,0) ⟨O,O,Nat.zero_le _,H⟩ (.r O) (.r O) (fun _ _ h=>absurd h.1 (by simp)) ?_)))))))))))
   intro w q m s hs
   obtain⟨i,v⟩:=s
   obtain⟨t,p,D,H⟩:=hs
   replace p:i=List.drop v p0.Tools:=p
   replace H:lH N p0 i v=some r:=H
   replace t:m+1=i.length+1:=t
   replace l:=l.kL q
   replace j:=j.kL q
   replace leB:=leB.trans q
   obtain rfl:m=i.length:=by omega
   clear t
   dsimp only
   cases i with
   | nil=>
    rw[lH.eq_1] at H
    refine ai (ay aR O O (ae (aa (av (bX O (bN p) (bK (aA (aA (aP (aa (av (ai (aH (ag EN) O (aC O (fun _ _ a d=>ah ML (a.ev O) (bR d (vs:=[iv p0.Unit,sL b p0.Tools c,sL f p0.Steps g]) (k:=1) O 2) O) ?_))))))))))))))
    obtain⟨y,B,H⟩:=bnd H
    refine bu (r:=(iv y)) (wn O) O Tryz.call70 (aj O aG) (fun W hW=>wI N p0.Steps f g (j.ext hW.bU) y B (HF.start _)) (ay iG O O (ae (aa (aT O H (fun H=>?_) (fun H=>?_)))))
    ·refine ai (Tr.k O (ae (aa (aO (aD ?_)))))
     obtain rfl:=oI H
     exact cB leB
    ·refine aJ (aa (ai (aC O (fun _ _ a d=>aM (cs:=[iv p0.Unit,sL b p0.Tools c,sL f p0.Steps g]) Pi OY (a.ev O) (aF.take (bR d (vs:=[iv p0.Unit,sL b p0.Tools c,sL f p0.Steps g]) (k:=1) O 0) 3) O) (aH (ag EN) O (aC O (fun _ _ a d=>ah ML (a.ev O) (bR d (vs:=[iv p0.Unit,sL b p0.Tools c,sL f p0.Steps g]) (k:=1) O 2) O) ?_)))))
     obtain⟨z,C,H⟩:=bnd H
     refine bu (r:=(iv z)) (wn O) O Tryz.call71 (aj O (aj O (aj O aG))) (fun W hW=>rZ N p0 b c (l.ext hW.bU) f g (j.ext hW.bU) p0.Steps f g (j.ext hW.bU) 0 z C (HF.start _)) (Tr.k O (ae (aa (aO ?_))))
     obtain rfl:=oI H
     exact cB leB
   |cons E i=>
    rw[lH.eq_2] at H
    refine ai (ay aR O O (ae (aa (av (bY O (cu p) (aJ (aa (av (Tr.block (av ?_))))))))))
    cases H

theorem zT{w:Bs}(hT:Dx Tryz.prog w)(p0:Int)(r:ByteArray)(H:D6 p0=some r)(hE:HF w w.W E0):Calls Tryz.prog 33 [iv p0].toArray w.W fun e W'=>e= .returned (sv r)∧HF w W' E0:=
 H5 (ρ:=Tryz.Ct) Tryz.PY hT H hE

end Go.Proofs.YtkccbhbhdnobhaaGreatDoor
namespace Go.Proofs
open Go.Shelf
def Tryz.Aw:Go.Shelf.Ren:=⟨fun|166=>32|240=>72|276=>116|n=>n,fun|5=>5|37=>100|70=>99|72=>102|75=>104|80=>115|164=>197|n=>n,fun n=>n⟩
theorem Tryz.Ro:Go.Proofs.Lays.n166 Tryz.prog Tryz.Aw:={
 mixed:=by kernel_rfl
 f166:=Tryz.func32.trans (congrArg some (by kernel_rfl))
 f240:=Tryz.func72.trans (congrArg some (by kernel_rfl))
 f276:=Tryz.func116.trans (congrArg some (by kernel_rfl))
 t0:=Tryz.underlying0
 a0:=Tryz.isAgg0
 z0:=Tryz.sizeOf0
 v0:=Tryz.zeroValue0
 t3:=Tryz.underlying3
 a3:=Tryz.isAgg3
 z3:=Tryz.sizeOf3
 v3:=Tryz.zeroValue3
 t4:=Tryz.underlying4
 a4:=Tryz.isAgg4
 z4:=Tryz.sizeOf4
 v4:=Tryz.zeroValue4
 t9:=Tryz.underlying9
 a9:=Tryz.isAgg9
 z9:=Tryz.sizeOf9
 v9:=Tryz.zeroValue9
 t20:=Tryz.underlying20
 a20:=Tryz.isAgg20
 z20:=Tryz.sizeOf20
 v20:=Tryz.zeroValue20
 t37:=Tryz.underlying100
 a37:=Tryz.isAgg100
 z37:=Tryz.sizeOf100
 v37:=Tryz.zeroValue100
 t70:=Tryz.underlying99
 a70:=Tryz.isAgg99
 z70:=Tryz.sizeOf99
 v70:=Tryz.zeroValue99
 t72:=Tryz.underlying102
 a72:=Tryz.isAgg102
 z72:=Tryz.sizeOf102
 v72:=Tryz.zeroValue102
 t75:=Tryz.underlying104
 a75:=Tryz.isAgg104
 z75:=Tryz.sizeOf104
 v75:=Tryz.zeroValue104
 t164:=Tryz.underlying197
 a164:=Tryz.isAgg197
 z164:=Tryz.sizeOf197
 v164:=Tryz.zeroValue197
}
end Go.Proofs
namespace Go.Proofs.YtkccbhbhdnobhaaGreatDoor
open Go.RowKit
theorem Sz:Builder.Extra Tryz.prog Tryz.Aw where
 sizeBuilder:=by kernel_rfl
 liesBuilder:=by kernel_rfl
 t5:=Tryz.underlying5
 a5:=Tryz.isAgg5
 z5:=Tryz.sizeOf5
 v5:=Tryz.zeroValue5
 infoByte:=by kernel_rfl
 cellsByte:=by kernel_rfl
 sizeByte:=by kernel_rfl
 neB5:=by decide
theorem qM{w:Bs}(p0:ByteArray)(b:Option Addr)(c:Nat)(a:Nat)(p1:ByteArray)(r:ByteArray)(H:QT p0 p1=some r)(hE:HF w w.W (iZ [sb 102 5 a b c p0])):Calls Tryz.prog 32 [pV a,.string p1].toArray w.W fun e W'=>∃u:(Option Addr×Nat),e= .returned (.tuple #[.int .i64 p1.size,.nilIface])∧(True)∧HF w W' (iZ [sb 102 5 a u.1 u.2 r]):=
 K7 (ρ:=Tryz.Aw) Tryz.Ro Sz H hE

theorem wz(N:Nat)(rec:ByteArray→(List eF)→Option ByteArray)(hrec:∀{w:Bs} (p0:ByteArray) (f:Option Addr) (g:Nat) (d:Nat) (p1:(List eF)) (b:Option Addr) (c:Nat) (o:Sl w.R w.W ic b c p1) (r:ByteArray) (H:rec p0 p1=some r) (hE:HF w w.W (iZ [sb 102 5 d f g p0])),Calls Tryz.prog 35 [pV d,sL b p1 c].toArray w.W fun e W'=>∃u:(Option Addr×Nat),e= .returned (.tuple #[])∧(True)∧HF w W' (iZ [sb 102 5 d u.1 u.2 r])){w:Bs}(p0:ByteArray)(f:Option Addr)(g:Nat)(d:Nat)(p1:(List eF))(b:Option Addr)(c:Nat)(o:Sl w.R w.W ic b c p1)(r:ByteArray)(H:pJ N rec p0 p1=some r)(hE:HF w w.W (iZ [sb 102 5 d f g p0])):Calls Tryz.prog 35 [pV d,sL b p1 c].toArray w.W fun e W'=>∃u:(Option Addr×Nat),e= .returned (.tuple #[])∧(True)∧HF w W' (iZ [sb 102 5 d u.1 u.2 r]):=by
 unfold pJ at H
 have leB:=Bs.Le.refl w
 refine aV (n:=91) Tryz.func35 O O O hE (ai (ax O (aH (bf KL) O (ax O (ae (aa (Tr.block (bO (σ:=(List eF)×Nat) (fun m w s=>m=s.1.length+1∧s.1=List.drop s.2 p1∧s.2≤p1.length∧kX p0 s.1 s.2=some r) (fun s=>[(0,pV d),(6,sL b p1 c),(7,iv (p1.length:Int)),(8,iv (s.2:Int))]) (fun s=>[(0,sb 102 5 d f g p0)]) (p1.length+1) (p1,0) ⟨O,O,Nat.zero_le _,H⟩ (.r O) (.r O) (fun _ _ h=>absurd h.1 (by simp)) ?_))))))))
 intro w p m s hs
 obtain⟨a,l⟩:=s
 obtain⟨j,i,q,H⟩:=hs
 replace i:a=List.drop l p1:=i
 replace H:kX p0 a l=some r:=H
 replace j:m+1=a.length+1:=j
 replace leB:=leB.trans p
 obtain rfl:m=a.length:=by omega
 clear j
 dsimp only
 cases a with
 |nil=>
  rw[kX.eq_1] at H
  refine ai (ay aR O O (ae (aa (av (bX O (bN i) (bK (aA (aA (aP (yf ?_))))))))))
  obtain rfl:=oI H
  exact bL (m:=[]) [] bD (fun W hW=>⟨(f,g),O,trivial,HF.ry leB (hW.pick (ks:=[0]) (by decide) (aN O bg)) ⟨PO,trivial⟩⟩)
 |cons t a=>
  rw[kX.eq_2] at H
  refine ai (ay aR O O (ae (aa (av (bY O (cu i) (aJ (aa (av (Tr.block (av ?_))))))))))
  cases H
theorem rY:∀(N:Nat) {w:Bs} (p0:ByteArray) (d:Option Addr) (f:Nat) (c:Nat) (p1:(List eF)) (a:Option Addr) (b:Nat) (g:Sl w.R w.W ic a b p1) (r:ByteArray) (H:ou N p0 p1=some r) (hE:HF w w.W (iZ [sb 102 5 c d f p0])),Calls Tryz.prog 35 [pV c,sL a p1 b].toArray w.W fun e W'=>∃u:(Option Addr×Nat),e= .returned (.tuple #[])∧(True)∧HF w W' (iZ [sb 102 5 c u.1 u.2 r])
 |0=>by intros;rename_i H _;cases H
 |N+1=>wz N (ou N) (rY N)

theorem uF{w:Bs}(p0:ByteArray)(b:Option Addr)(c:Nat)(a:Nat)(r:(Int×ByteArray))(H:Sg p0=some r)(hE:HF w w.W (iZ [sb 102 5 a b c p0])):Calls Tryz.prog 36 [pV a].toArray w.W fun e W'=>∃u:(Option Addr×Nat),e= .returned (iv r.1)∧(True)∧HF w W' (iZ [sb 102 5 a u.1 u.2 r.2]):=
 PN (ρ:=Tryz.Eg) Tryz.Rn H hE

end Go.Proofs.YtkccbhbhdnobhaaGreatDoor
namespace Go.Proofs
open Go.Shelf
def Tryz.Av:Go.Shelf.Ren:=⟨fun|169=>37|n=>n,fun|5=>5|37=>100|70=>99|72=>102|127=>150|n=>n,fun n=>n⟩
theorem Tryz.Rm:Go.Proofs.Lays.n169 Tryz.prog Tryz.Av:={
 mixed:=by kernel_rfl
 f169:=Tryz.func37.trans (congrArg some (by kernel_rfl))
 t0:=Tryz.underlying0
 a0:=Tryz.isAgg0
 z0:=Tryz.sizeOf0
 v0:=Tryz.zeroValue0
 t3:=Tryz.underlying3
 a3:=Tryz.isAgg3
 z3:=Tryz.sizeOf3
 v3:=Tryz.zeroValue3
 t9:=Tryz.underlying9
 a9:=Tryz.isAgg9
 z9:=Tryz.sizeOf9
 v9:=Tryz.zeroValue9
 t37:=Tryz.underlying100
 a37:=Tryz.isAgg100
 z37:=Tryz.sizeOf100
 v37:=Tryz.zeroValue100
 t70:=Tryz.underlying99
 a70:=Tryz.isAgg99
 z70:=Tryz.sizeOf99
 v70:=Tryz.zeroValue99
 t72:=Tryz.underlying102
 a72:=Tryz.isAgg102
 z72:=Tryz.sizeOf102
 v72:=Tryz.zeroValue102
 t127:=Tryz.underlying150
 a127:=Tryz.isAgg150
 z127:=Tryz.sizeOf150
 v127:=Tryz.zeroValue150
}
end Go.Proofs
namespace Go.Proofs.YtkccbhbhdnobhaaGreatDoor
open Go.RowKit
theorem Sy:Builder.Extra Tryz.prog Tryz.Av where
 sizeBuilder:=by kernel_rfl
 liesBuilder:=by kernel_rfl
 t5:=Tryz.underlying5
 a5:=Tryz.isAgg5
 z5:=Tryz.sizeOf5
 v5:=Tryz.zeroValue5
 infoByte:=by kernel_rfl
 cellsByte:=by kernel_rfl
 sizeByte:=by kernel_rfl
 neB5:=by decide
theorem sN{w:Bs}(p0:ByteArray)(b:Option Addr)(c:Nat)(a:Nat)(r:(ByteArray×ByteArray))(H:RL p0=some r)(hE:HF w w.W (iZ [sb 102 5 a b c p0])):Calls Tryz.prog 37 [pV a].toArray w.W fun e W'=>∃u:(Option Addr×Nat),e= .returned (sv r.1)∧(True)∧HF w W' (iZ [sb 102 5 a u.1 u.2 r.2]):=
 JI (ρ:=Tryz.Av) Tryz.Rm Sy H hE

theorem Di(N:Nat){w:Bs}(hT:Dx Tryz.prog w)(p0:tT)(c:Option Addr)(f:Nat)(V:Sl w.R w.W qI c f p0.Tools)(g:Option Addr)(i:Nat)(B:Sl w.R w.W ic g i p0.Steps)(r:(ByteArray×Int))(H:uB N p0=some r)(hE:HF w w.W E0):Calls Tryz.prog 15 [.agg #[iv p0.Unit,sL c p0.Tools f,sL g p0.Steps i]].toArray w.W fun e W'=>e= .returned (.tuple #[sv r.1,iv r.2])∧HF w W' E0:=by
 unfold uB at H
 have leB:=Bs.Le.refl w
 refine aV (n:=61) Tryz.func15 O O O hE (ai (fw 1 (cs:=[iv p0.Unit,sL c p0.Tools f,sL g p0.Steps i]) (wn O) O O O fun D=>(Tr.k O (Tr.k O (ae (aa (av (ai (aC O (fun _ _ a d=>aM (cs:=[iv p0.Unit,sL c p0.Tools f,sL g p0.Steps i]) Pi OY (a.ev O) (aF.take (bR d (vs:=[iv p0.Unit,sL c p0.Tools f,sL g p0.Steps i]) (k:=1) O 0) 3) O) ?_)))))))))
 obtain⟨F,X,H⟩:=bnd H
 refine bu (r:=(iv F)) (wn O) O Tryz.call31 (aj O aG) (fun W hW=>yt N p0 c f (V.ext hW.bU) g i (B.ext hW.bU) F X (HF.start _)) (Tr.k O (ae (aa (ai (ax O (ay fM O O (ae (aa (aT O H (fun H=>?_) (fun H=>?_))))))))))
 ·refine ai (ax O (Tr.k O (Tr.k O (ae (aa (aO (aD ?_)))))))
  obtain rfl:=oI H
  exact bL (m:=[sv ⟨#[]⟩,iv F]) [] (aU O (aU O bD)) (fun W hW=>⟨O,hW.low leB⟩)
 ·refine aJ (aa (ai (MU (e:=5) 2 (wn O) O PE fun b=>(ae (aa (ai (aH (ag Je) O (aC O (fun _ _ a d=>ah bG (a.ev O) (bR d (vs:=[iv p0.Unit,sL c p0.Tools f,sL g p0.Steps i]) (k:=1) O 0) O) ?_))))))))
  obtain⟨S,Z,H⟩:=bnd H
  refine bu (r:=(sv S)) (wn O) O Tryz.call33 (aj O aG) (fun W hW=>zT (hT.ext hW.bU) p0.Unit S Z (HF.start _)) ?_
  obtain⟨b0,a0,H⟩:=bnd H
  refine aC O (fun _ _ a d=>FI (a.ev O) (a.ev O) a0) ?_
  obtain⟨G,a1,H⟩:=bnd H
  refine aC O (fun _ _ a d=>FI (a.ev O) (a.ev O) a1) ?_
  obtain⟨p,a2,H⟩:=bnd H
  refine gG [2] [sb 102 5 b none 0 ByteArray.empty] (U:=(Option Addr×Nat)) (fun u=>(.tuple #[iv ((G:ByteArray).size:Int),.nilIface])) (fun u=>True) (fun u=>[sb 102 5 b u.1 u.2 p]) O (aN O bg) (fun _=>O) (wn O) O Tryz.call32 (aj O (aj O aG)) (fun W hW hp hE=>qM ByteArray.empty none 0 b G p a2 hE) ?_
  intro u hu
  obtain⟨j,l⟩:=u
  have K:=hu
  have a6:True:=K --@phi
  dsimp only
  refine ae (aa (av (ai (aH (ag EO) O (aC O (fun _ _ a d=>ah MM (a.ev O) (bR d (vs:=[iv p0.Unit,sL c p0.Tools f,sL g p0.Steps i]) (k:=1) O 1) O) (aH (bf KM) O (ax O (ae (aa (Tr.block (bO (σ:=(List sZ)×Nat) (fun m w s=>m=s.1.length+1∧s.1=List.drop s.2 p0.Tools∧s.2≤p0.Tools.length∧nH N p0 p s.1 s.2=some r) (fun s=>[(1,pV D),(5,pV b),(22,sL c p0.Tools f),(23,iv (p0.Tools.length:Int)),(24,iv (s.2:Int))]) (fun s=>[(1,bx D #[iv p0.Unit,sL c p0.Tools f,sL g p0.Steps i] 64),(2,sb 102 5 b j l p)]) (p0.Tools.length+1) (p0.Tools,0) ⟨O,O,Nat.zero_le _,H⟩ (.r O) (.r O) (fun _ _ h=>absurd h.1 (by simp)) ?_)))))))))))
  intro w I m s hs
  obtain⟨o,T⟩:=s
  obtain⟨J,E,b1,H⟩:=hs
  replace E:o=List.drop T p0.Tools:=E
  replace H:nH N p0 p o T=some r:=H
  replace J:m+1=o.length+1:=J
  replace hT:=hT.ext I.ext
  replace B:=B.kL I
  replace leB:=leB.trans I
  obtain rfl:m=o.length:=by omega
  clear J
  dsimp only
  cases o with
  | nil=>
   rw[nH.eq_1] at H
   refine ai (ay aR O O (ae (aa (av (bX O (bN E) (bK (aA (aA (aP (aa (ai (aH (ag EN) O (aC O (fun _ _ a d=>ah ML (a.ev O) (bR d (vs:=[iv p0.Unit,sL c p0.Tools f,sL g p0.Steps i]) (k:=1) O 2) O) ?_)))))))))))))
   obtain⟨C,a3,H⟩:=bnd H
   refine gG [2] [sb 102 5 b j l p] (U:=(Option Addr×Nat)) (fun u=>(.tuple #[])) (fun u=>True) (fun u=>[sb 102 5 b u.1 u.2 C]) O (aN O bg) (fun _=>O) (wn O) O Tryz.call35 (aj O (aj O aG)) (fun W hW hp hE=>rY N p j l b p0.Steps g i (B.ext (hW.dU hp)) C a3 hE) ?_
   intro u hu
   obtain⟨t,v⟩:=u
   have L:=hu
   have a7:True:=L --@phi
   dsimp only
   refine ae (aa (av (ai ?_)))
   obtain⟨q,a4,H⟩:=bnd H
   refine gG [2] [sb 102 5 b t v C] (U:=(Option Addr×Nat)) (fun u=>(iv q.1)) (fun u=>True) (fun u=>[sb 102 5 b u.1 u.2 q.2]) O (aN O bg) (fun _=>O) (wn O) O Tryz.call36 (aj O aG) (fun W hW hp hE=>uF C t v b q a4 hE) ?_
   intro u hu
   obtain⟨y,z⟩:=u
   have M:=hu
   have a8:True:=M --@phi
   dsimp only
   refine ay iG O O (ae (aa (aT O H (fun H=>?_) (fun H=>?_))))
   ·refine ai (Tr.k O (Tr.k O (ae (aa (aO (aD ?_))))))
    obtain rfl:=oI H
    exact bL (m:=[sv ⟨#[]⟩,iv 2]) [] (aU O (aU O bD)) (fun W hW=>⟨O,hW.low leB⟩)
   ·refine aJ (aa (ai ?_))
    obtain⟨A,a5,H⟩:=bnd H
    refine gG [2] [sb 102 5 b y z q.2] (U:=(Option Addr×Nat)) (fun u=>(sv A.1)) (fun u=>True) (fun u=>[sb 102 5 b u.1 u.2 A.2]) O (aN O bg) (fun _=>O) (wn O) O Tryz.call37 (aj O aG) (fun W hW hp hE=>sN q.2 y z b A a5 hE) ?_
    intro u hu
    obtain⟨a',P⟩:=u
    have Q:=hu
    have a9:True:=Q --@phi
    dsimp only
    refine Tr.k O (Tr.k O (ae (aa (aO ?_))))
    obtain rfl:=oI H
    exact bL (m:=[sv A.1,iv 0]) [] (aU O (aU O bD)) (fun W hW=>⟨O,hW.low leB⟩)
  |cons b2 o=>
   rw[nH.eq_2] at H
   refine ai (ay aR O O (ae (aa (av (bY O (cu E) (aJ (aa (av (Tr.block (av ?_))))))))))
   cases H

theorem qA(N:Nat){w:Bs}(hT:Dx Tryz.prog w)(r:Bool)(H:iD N=some r)(hE:HF w w.W E0):Calls Tryz.prog 5 [].toArray w.W fun e W'=>e= .returned (bV r)∧HF w W' E0:=by
 unfold iD at H
 have leB:=Bs.Le.refl w
 refine aV (n:=14) Tryz.func5 O O O hE (ai (Tr.k O (ae (aa (ai (ko (vs:=[(0,iv 3)]) (cs:=[iv 3,.slice none 0 0,.slice none 0 0]) (wn O) O (bz O dE) (by kernel_rfl) ?_))))))
 obtain⟨b,c,H⟩:=bnd H
 refine bu (r:=(.tuple #[sv b.1,iv b.2])) (wn O) O Tryz.call15 (aj O aG) (fun W hW=>Di N (hT.ext hW.bU) (tT.mk 3 [] []) none 0 (Sl.nil _ _ _) none 0 (Sl.nil _ _ _) b c (HF.start _)) (ax O (aC O (fun _ _ a d=>bA (a.ev O) O) (aC O (fun _ _ a d=>bA (a.ev O) O) (Tr.k O (Tr.k O (ae (aa (ai (ax O (ay iA O O (ax O (bP 3 [(13,bV ((b.2==0)&&(DN b.1 (⟨#[117,110,105,116,32,51,10]⟩))))] [] ?_ ?_))))))))))))
 ·cases f:(b.2==0)
  ·exact Tr.ps O (Tr.ps O (ay aZ O O (ae (aS (.r O) .nil))))
  ·exact bH run_move O (Tr.e2 Cb O O (ay aW O O (ae (aS (.r O) .nil))))
 ·show Tr _ _ (LF [(13,bV ((b.2==0)&&(DN b.1 (⟨#[117,110,105,116,32,51,10]⟩))))]) (LE []) _
  refine Tr.k O (ae (aa (aO ?_)))
  obtain rfl:=oI H
  exact cB leB

theorem wP{w:Bs}(p0:(List aQ))(h:Option Addr)(i:Nat)(c:Sl w.R w.W aY h i p0)(r:fC)(H:nQ p0=some r)(hE:HF w w.W E0):Calls Tryz.prog 17 [sL h p0 i].toArray w.W fun e W'=>e= .returned (.agg #[iv r.X,iv r.Y])∧HF w W' E0:=by
 unfold nQ at H
 have leB:=Bs.Le.refl w
 refine aV (n:=14) Tryz.func17 O O O hE (ai (Tr.alloc 1 (wn O) O Iz fun Q=>(ae (aa (av (qz 10 (by kernel_rfl) (by kernel_rfl) (eY O ?_)))))))
 obtain⟨L,G,H⟩:=bnd H
 obtain⟨q,s,t⟩:=bi G
 obtain⟨M,u,j,v⟩:=(c).el t
 obtain⟨l,o⟩:=M
 have b:=j
 replace b:Sl w.R w.W az l o L.Xs:=b
 refine bv O (fun _ _ a d=>ak nL (a.ev O) c.form (a.ev O) q s) (dA (ag lU) O (bv O (fun _ _ a d=>ah gU (a.ev O) (aF.drop (qY u v d) 2) O) ?_))
 obtain⟨f,I,H⟩:=bnd H
 obtain⟨y,z,A⟩:=bi I
 refine bv O (fun _ _ a d=>ak iX (a.ev O) b.form (a.ev O) y z) (bv O (fun _ _ a d=>ah bG (a.ev O) (rP iH b A d) O) (eY O ?_))
 obtain⟨g,J,H⟩:=bnd H
 obtain⟨B,C,D⟩:=bi J
 obtain⟨N,E,p,F⟩:=(c).el D
 obtain⟨a0,P⟩:=N
 have K:=p
 refine bv O (fun _ _ a d=>ak nL (a.ev O) c.form (a.ev O) B C) (dA (ag pX) O (bv O (fun _ _ a d=>ah bG (a.ev O) (aF.drop (qY E F d) 0) O) (jD (ko (vs:=[(0,iv f),(1,iv g.Y0)]) (cs:=[iv f,iv g.Y0]) (wn O) O (bz O (bz O dE)) (by kernel_rfl) (bF 1 (cs:=[iv f,iv g.Y0]) [iv f,iv g.Y0] (wn O) O O O O pQ O O O (ae (aa (aO ?_))))))))
 obtain rfl:=oI H
 exact bL (m:=[.agg #[iv f,iv g.Y0]]) [1] (mM O O tO pQ bD) (fun W hW=>⟨O,hW.low leB⟩)

theorem zU{w:Bs}(p0:(List au))(i:Option Addr)(j:Nat)(g:Sl w.R w.W aB i j p0)(r:Int)(H:qP p0=some r)(hE:HF w w.W E0):Calls Tryz.prog 18 [sL i p0 j].toArray w.W fun e W'=>e= .returned (iv r)∧HF w W' E0:=by
 unfold qP at H
 have leB:=Bs.Le.refl w
 refine aV (n:=27) Tryz.func18 O O O hE (ai (Tr.k O (ae (aa (ai (Tr.k O (ae (aa (av (ai (ax O (aH (bf lS) O (ax O (ae (aa (Tr.block (bO (σ:=(List au)×Nat×Int) (fun m w s=>m=s.1.length+1∧s.1=List.drop s.2.1 p0∧s.2.1≤p0.length∧jG s.1 s.2.1 s.2.2=some r) (fun s=>[(3,iv s.2.2),(6,sL i p0 j),(7,iv (p0.length:Int)),(8,iv (s.2.1:Int))]) (fun s=>[]) (p0.length+1) (p0,0,0) ⟨O,O,Nat.zero_le _,H⟩ (.r O) .nil (fun _ _ h=>absurd h.1 (by simp)) ?_)))))))))))))))))
 intro w l m s hs
 obtain⟨c,q,o⟩:=s
 obtain⟨p,f,t,H⟩:=hs
 replace f:c=List.drop q p0:=f
 replace H:jG c q o=some r:=H
 replace p:m+1=c.length+1:=p
 replace g:=g.kL l
 replace leB:=leB.trans l
 obtain rfl:m=c.length:=by omega
 clear p
 dsimp only
 cases c with
 |nil=>
  rw[jG.eq_1] at H
  refine ai (ay aR O O (ae (aa (av (bX O (bN f) (bK (aA (aA (aP (aa (ai (ax O (Tr.k O (ae (aa (aO ?_))))))))))))))))
  obtain rfl:=oI H
  exact cB leB
 |cons b c=>
  rw[jG.eq_2] at H
  refine ai (ay aR O O (ae (aa (av (bY O (cu f) (aJ (aa (av (Tr.block (ai (aC O (fun _ _ a d=>ak mP (a.ev O) g.form (a.ev O) (Int.natCast_nonneg _) (aX f)) (aC O (fun _ _ a d=>aM (cs:=[iv b.X0,iv b.Y0,iv b.X1,iv b.Y1]) gV dh (a.ev O) (aF.take (rP gm g (dI f) d) 4) O) (Tr.alloc 3 (wn O) O lK fun u=>(bF 3 (cs:=[iv b.X0,iv b.Y0,iv b.X1,iv b.Y1]) [iv b.X0,iv b.Y0,iv b.X1,iv b.Y1] (wn O) O O O O dh O O O (ae (aa (Tr.region (ax O (aH (ag jZ) O (aC O (fun _ _ a d=>ah bG (a.ev O) (bR d (vs:=[iv b.X0,iv b.Y0,iv b.X1,iv b.Y1]) (k:=3) O 2) O) (aH (ag jd) O (aC O (fun _ _ a d=>ah bG (a.ev O) (bR d (vs:=[iv b.X0,iv b.Y0,iv b.X1,iv b.Y1]) (k:=3) O 0) O) ?_))))))))))))))))))))))
  exact ay iP O O (aH (ag nA) O (aC O (fun _ _ a d=>ah bG (a.ev O) (bR d (vs:=[iv b.X0,iv b.Y0,iv b.X1,iv b.Y1]) (k:=3) O 3) O) (aH (ag jK) O (aC O (fun _ _ a d=>ah bG (a.ev O) (bR d (vs:=[iv b.X0,iv b.Y0,iv b.X1,iv b.Y1]) (k:=3) O 1) O) (ay iP O O (ay Nw O O (ay bB O O (Tr.k O (ae (aK (aa (Tr.region (ay bB O O (ax O (ae (aI l (c,(q+1),(bJ (o+(bJ ((bJ (b.X1-b.X0))*(bJ (b.Y1-b.Y0))))))) ⟨O,bT f,aX f,H⟩ (.cons O (.cons O (.cons O (.cons (congrArg (fun z=>some (Value.int .i64 z)) (bS f g.form)) .nil)))) .nil))))))))))))))))

theorem yY(N:Nat){w:Bs}(hT:Dx Tryz.prog w)(p0:nU)(b6:Option Addr)(b7:Nat)(g3:Sl w.O w.W dF b6 b7 p0.Coppers)(b8:Option Addr)(b9:Nat)(g4:Sl w.O w.W aB b8 b9 p0.Outline)(c0:Option Addr)(c3:Nat)(g5:Sl w.O w.W dY c0 c3 p0.Bores)(c4:Option Addr)(c5:Nat)(g6:Sl w.O w.W eH c4 c5 p0.Lands)(r:((List ig)×Int))(H:nX N p0=some r)(hE:HF w w.W (iZ [emp])):Calls Tryz.prog 6 [.agg #[sL b6 p0.Coppers b7,sL b8 p0.Outline b9,sL c0 p0.Bores c3,sL c4 p0.Lands c5]].toArray w.W fun e W'=>∃u:(Option Addr×Nat),e= .returned (.tuple #[sL u.1 r.1 u.2,iv r.2])∧(cO u.1 r.1.length u.2)∧HF w W' (iZ [ow u.1 u.2 50 eP r.1]):=by
 unfold nX at H
 have leB:=Bs.Le.refl w
 refine aV (n:=40) Tryz.func6 O O O hE (ai (fw 1 (cs:=[sL b6 p0.Coppers b7,sL b8 p0.Outline b9,sL c0 p0.Bores c3,sL c4 p0.Lands c5]) (wn O) O O O fun h7=>(Tr.k O (bC 2 50 eP ?_))))
 show Tr _ _ (uf _ 2 (sL none (([]:List ig)) 0)) _ _
 refine Tr.k O (ae (aa (ai (aC O (fun _ _ a d=>aM (cs:=[sL b6 p0.Coppers b7,sL b8 p0.Outline b9,sL c0 p0.Bores c3,sL c4 p0.Lands c5]) uZ uP (a.ev O) (aF.take (bR d (vs:=[sL b6 p0.Coppers b7,sL b8 p0.Outline b9,sL c0 p0.Bores c3,sL c4 p0.Lands c5]) (k:=1) O 0) 4) O) ?_))))
 obtain⟨f,g7,H⟩:=bnd H
 refine eZ [3] [emp] (U:=(Option Addr×Nat)×(Option Addr×Nat)×(Option Addr×Nat)×(Option Addr×Nat)×(Option Addr×Nat)×(Option Addr×Nat)×(Option Addr×Nat)×(Option Addr×Nat)×(Option Addr×Nat)×(Option Addr×Nat)×(Option Addr×Nat)×(Option Addr×Nat)×(Option Addr×Nat)) (fun u=>(.tuple #[(Hy u.2.2.2.2.2.2.2.2.2.2.2.2.2 f.1),iv f.2])) (fun a' W u=>di f.1 (fun x0=>Sl a' W dF u.1.1 u.1.2 x0.Art.Coppers)∧di f.1 (fun x0=>Sl a' W aB u.2.1.1 u.2.1.2 x0.Art.Outline)∧di f.1 (fun x0=>Sl a' W dY u.2.2.1.1 u.2.2.1.2 x0.Art.Bores)∧di f.1 (fun x0=>Sl a' W eH u.2.2.2.1.1 u.2.2.2.1.2 x0.Art.Lands)∧di f.1 (fun x0=>Sl a' W bM u.2.2.2.2.1.1 u.2.2.2.2.1.2 x0.Drilled)∧di f.1 (fun x0=>Sl a' W dG u.2.2.2.2.2.1.1 u.2.2.2.2.2.1.2 x0.Pieces)∧di f.1 (fun x0=>Sl a' W fE u.2.2.2.2.2.2.1.1 u.2.2.2.2.2.2.1.2 x0.Touched)∧di f.1 (fun x0=>Sl a' W dw u.2.2.2.2.2.2.2.1.1 u.2.2.2.2.2.2.2.1.2 x0.Groups)∧di f.1 (fun x0=>Sl a' W az u.2.2.2.2.2.2.2.2.1.1 u.2.2.2.2.2.2.2.2.1.2 x0.OfPiece)∧di f.1 (fun x0=>Sl a' W az u.2.2.2.2.2.2.2.2.2.1.1 u.2.2.2.2.2.2.2.2.2.1.2 x0.OfBore)∧di f.1 (fun x0=>Sl a' W az u.2.2.2.2.2.2.2.2.2.2.1.1 u.2.2.2.2.2.2.2.2.2.2.1.2 x0.OfLand)∧di f.1 (fun x0=>Sl a' W dX u.2.2.2.2.2.2.2.2.2.2.2.1.1 u.2.2.2.2.2.2.2.2.2.2.2.1.2 x0.AtLand)∧True) (fun u=>[PX u.2.2.2.2.2.2.2.2.2.2.2.2.2 72 f.1 (fun x0=> #[sL u.1.1 x0.Art.Coppers u.1.2,sL u.2.1.1 x0.Art.Outline u.2.1.2,sL u.2.2.1.1 x0.Art.Bores u.2.2.1.2,sL u.2.2.2.1.1 x0.Art.Lands u.2.2.2.1.2,sL u.2.2.2.2.1.1 x0.Drilled u.2.2.2.2.1.2,sL u.2.2.2.2.2.1.1 x0.Pieces u.2.2.2.2.2.1.2,sL u.2.2.2.2.2.2.1.1 x0.Touched u.2.2.2.2.2.2.1.2,sL u.2.2.2.2.2.2.2.1.1 x0.Groups u.2.2.2.2.2.2.2.1.2,sL u.2.2.2.2.2.2.2.2.1.1 x0.OfPiece u.2.2.2.2.2.2.2.2.1.2,sL u.2.2.2.2.2.2.2.2.2.1.1 x0.OfBore u.2.2.2.2.2.2.2.2.2.1.2,sL u.2.2.2.2.2.2.2.2.2.2.1.1 x0.OfLand u.2.2.2.2.2.2.2.2.2.2.1.2,sL u.2.2.2.2.2.2.2.2.2.2.2.1.1 x0.AtLand u.2.2.2.2.2.2.2.2.2.2.2.1.2])]) O (aN O bg) (fun _=>O) (wn O) O Tryz.call16 (aj O aG) (fun W hW hp hE=>pF N (hT.ext (hW.dU hp)) p0 b6 b7 (g3.kC (hW.dU hp)) b8 b9 (g4.kC (hW.dU hp)) c0 c3 (g5.kC (hW.dU hp)) c4 c5 (g6.kC (hW.dU hp)) f g7 hE) ?_
 intro w u e7 hu
 obtain⟨⟨L,M⟩,⟨P,Q⟩,⟨S,T⟩,⟨V,Z⟩,⟨a0,a1⟩,⟨j,A⟩,⟨a2,a3⟩,⟨a4,a5⟩,⟨a6,a7⟩,⟨a8,a9⟩,⟨E,F⟩,⟨G,I⟩,⟨h4,b0⟩⟩:=u
 obtain⟨e9,f1,f2,f3,f4,f5,f6,f7,f8,f9,e3,e4,e5⟩:=hu
 replace hT:=hT.ext e7.ext
 replace leB:=leB.trans e7
 have c6:di f.1 (fun x0=>Sl w.O w.W dF L M x0.Art.Coppers):=e9 --@phi
 have c7:di f.1 (fun x0=>Sl w.O w.W aB P Q x0.Art.Outline):=f1 --@phi
 have c8:di f.1 (fun x0=>Sl w.O w.W dY S T x0.Art.Bores):=f2 --@phi
 have c9:di f.1 (fun x0=>Sl w.O w.W eH V Z x0.Art.Lands):=f3 --@phi
 have d0:di f.1 (fun x0=>Sl w.O w.W bM a0 a1 x0.Drilled):=f4 --@phi
 have y:di f.1 (fun x0=>Sl w.O w.W dG j A x0.Pieces):=f5 --@phi
 have d1:di f.1 (fun x0=>Sl w.O w.W fE a2 a3 x0.Touched):=f6 --@phi
 have d2:di f.1 (fun x0=>Sl w.O w.W dw a4 a5 x0.Groups):=f7 --@phi
 have d3:di f.1 (fun x0=>Sl w.O w.W az a6 a7 x0.OfPiece):=f8 --@phi
 have d4:di f.1 (fun x0=>Sl w.O w.W az a8 a9 x0.OfBore):=f9 --@phi
 have b2:di f.1 (fun x0=>Sl w.O w.W az E F x0.OfLand):=e3 --@phi
 have b3:di f.1 (fun x0=>Sl w.O w.W dX G I x0.AtLand):=e4 --@phi
 have h3:True:=e5 --@phi
 dsimp only
 obtain d8|⟨c,d8⟩:=Ll f.1
 ·rw[d8] at H ⊢
  dsimp only[ui] at H
  show Tr _ _ (uf _ 11 (.tuple #[.pointer none,iv f.2])) (up _ 3 (emp)) _
  refine ax O (aC O (fun _ _ a d=>bA (a.ev O) O) (aC O (fun _ _ a d=>bA (a.ev O) O) (Tr.k O (Tr.k O (ae (aa (av (ai (ax O (ay fM O O (ae (aa (aT O H (fun H=>?_) (fun H=>?_))))))))))))))
  ·refine ai (ax O (Tr.k O (bC 4 50 eP ?_)))
   show Tr _ _ (uf _ 2 (sL none (([]:List ig)) 0)) _ _
   refine Tr.k O (ae (aa (aO (aD ?_))))
   obtain rfl:=oI H
   exact bL (m:=[sL none (([]:List ig)) 0,iv f.2]) [] (aU O (aU O bD)) (fun W hW=>⟨(none,0),O,gZ,HF.ry leB (hW.pick (ks:=[4]) (by decide) (aN O bg)) ⟨kM _ _ _ _ vG,trivial⟩⟩)
  ·refine aJ (aa (ai (Tr.k O (bC 5 50 eP ?_))))
   show Tr _ _ (uf _ 6 (sL none (([]:List ig)) 0)) _ _
   refine ae (aa (av (av ?_)))
   cases H
 ·rw [d8] at H c6 c7 c8 c9 d0 y d1 d2 d3 d4 b2 b3 ⊢
  dsimp only[ui] at H
  replace c6:Sl w.O w.W dF L M c.Art.Coppers:=c6
  replace c7:Sl w.O w.W aB P Q c.Art.Outline:=c7
  replace c8:Sl w.O w.W dY S T c.Art.Bores:=c8
  replace c9:Sl w.O w.W eH V Z c.Art.Lands:=c9
  replace d0:Sl w.O w.W bM a0 a1 c.Drilled:=d0
  replace y:Sl w.O w.W dG j A c.Pieces:=y
  replace d1:Sl w.O w.W fE a2 a3 c.Touched:=d1
  replace d2:Sl w.O w.W dw a4 a5 c.Groups:=d2
  replace d3:Sl w.O w.W az a6 a7 c.OfPiece:=d3
  replace d4:Sl w.O w.W az a8 a9 c.OfBore:=d4
  replace b2:Sl w.O w.W az E F c.OfLand:=b2
  replace b3:Sl w.O w.W dX G I c.AtLand:=b3
  show Tr _ _ (uf _ 11 (.tuple #[pV b0,iv f.2])) (up _ 3 (bx b0 #[sL L c.Art.Coppers M,sL P c.Art.Outline Q,sL S c.Art.Bores T,sL V c.Art.Lands Z,sL a0 c.Drilled a1,sL j c.Pieces A,sL a2 c.Touched a3,sL a4 c.Groups a5,sL a6 c.OfPiece a7,sL a8 c.OfBore a9,sL E c.OfLand F,sL G c.AtLand I] 72)) _
  refine ax O (aC O (fun _ _ a d=>bA (a.ev O) O) (aC O (fun _ _ a d=>bA (a.ev O) O) (Tr.k O (Tr.k O (ae (aa (av (ai (ax O (ay fM O O (ae (aa (aT O H (fun H=>?_) (fun H=>?_))))))))))))))
  ·refine ai (ax O (Tr.k O (bC 6 50 eP ?_)))
   show Tr _ _ (uf _ 2 (sL none (([]:List ig)) 0)) _ _
   refine Tr.k O (ae (aa (aO (aD ?_))))
   obtain rfl:=oI H
   exact bL (m:=[sL none (([]:List ig)) 0,iv f.2]) [] (aU O (aU O bD)) (fun W hW=>⟨(none,0),O,gZ,HF.ry leB (hW.pick (ks:=[6]) (by decide) (aN O bg)) ⟨kM _ _ _ _ vG,trivial⟩⟩)
  ·refine aJ (aa (ai (Tr.k O (bC 7 50 eP ?_))))
   show Tr _ _ (uf _ 6 (sL none (([]:List ig)) 0)) _ _
   refine ae (aa (av (ai (ax O (aH bn O (aH (ag oW) O (aC O (fun _ _ a d=>ah wF (a.ev O) (bR d (vs:=[sL L c.Art.Coppers M,sL P c.Art.Outline Q,sL S c.Art.Bores T,sL V c.Art.Lands Z,sL a0 c.Drilled a1,sL j c.Pieces A,sL a2 c.Touched a3,sL a4 c.Groups a5,sL a6 c.OfPiece a7,sL a8 c.OfBore a9,sL E c.OfLand F,sL G c.AtLand I]) (k:=3) O 5) O) (aH (bf ze) O (ax O (ae (aa (Tr.block (bO (σ:=(List eQ)×Nat×(List ig)×(Option Addr)×Nat) (fun m w s=>m=s.1.length+1∧s.1=List.drop s.2.1 c.Pieces∧s.2.1≤c.Pieces.length∧iK s.1 s.2.1 s.2.2.1=some r∧cO s.2.2.2.1 s.2.2.1.length s.2.2.2.2) (fun s=>[(6,sL s.2.2.2.1 s.2.2.1 s.2.2.2.2),(20,sL j c.Pieces A),(21,iv (c.Pieces.length:Int)),(22,iv (s.2.1:Int))]) (fun s=>[(7,ow s.2.2.2.1 s.2.2.2.2 50 eP s.2.2.1)]) (c.Pieces.length+1) (c.Pieces,0,([]:List ig),none,0) ⟨O,O,Nat.zero_le _,H,gZ⟩ (.r O) (.r O) (fun _ _ h=>absurd h.1 (by simp)) ?_)))))))))))))
   intro w d9 m s hs
   obtain⟨J,d5,K,C,D⟩:=s
   obtain⟨e6,b1,h8,H,e0⟩:=hs
   replace b1:J=List.drop d5 c.Pieces:=b1
   replace H:iK J d5 K=some r:=H
   replace e6:m+1=J.length+1:=e6
   replace hT:=hT.ext d9.ext
   replace y:=y.le d9
   replace leB:=leB.trans d9
   replace e0:cO C K.length D:=e0
   obtain rfl:m=J.length:=by omega
   clear e6
   dsimp only
   cases J with
   |nil=>
    rw[iK.eq_1] at H
    refine ai (ay aR O O (ae (aa (av (bX O (bN b1) (bK (aA (aA (aP (aa (ai (ax O (Tr.k O (Tr.k O (ae (aa (aO ?_)))))))))))))))))
    obtain rfl:=oI H
    exact bL (m:=[sL C K D,iv 0]) [] (aU O (aU O bD)) (fun W hW=>⟨(C,D),O,e0,HF.ry leB (hW.pick (ks:=[7]) (by decide) (aN O bg)) ⟨kM _ _ _ _ vG,trivial⟩⟩)
   | cons g J=>
    rw[iK.eq_2] at H
    refine ai (ay aR O O (ae (aa (av (bY O (cu b1) (aJ (aa (av (Tr.block (ai ?_))))))))))
    obtain⟨h5,d6,g0,g1⟩:=(y).el (dI b1)
    obtain⟨⟨o,p⟩,⟨q,v⟩⟩:=h5
    obtain⟨b4,b5⟩:=g0
    replace b4:Sl w.O w.W aY o p g.Set:=b4
    replace b5:Sl w.O w.W aB q v g.Rects:=b5
    replace d6:w.R (mY j):=Or.inl d6
    refine aC O (fun _ _ a d=>ak CL (a.ev O) y.form (a.ev O) (Int.natCast_nonneg _) (aX b1)) (aC O (fun _ _ a d=>aM (cs:=[iv g.Layer,sL o g.Set p,sL q g.Rects v]) Ju zi (a.ev O) (aF.take (qY d6 g1 d) 3) O) (Tr.alloc 12 (wn O) O Iy fun d7=>(bF 12 (cs:=[iv g.Layer,sL o g.Set p,sL q g.Rects v]) [iv g.Layer,sL o g.Set p,sL q g.Rects v] (wn O) O O O O zi O O O (ae (aa ?_)))))
    obtain⟨i,g8,H⟩:=bnd H
    obtain⟨B,g9,H⟩:=bnd H
    refine xz 11 [(10,.makeFunc (.func 0) #[] #[.tmp 35])] [(10,⟨36,13,.func (.func 0) #[] #[.agg #[iv g.Layer,iv i.X,iv i.Y,iv B]],fun b=>.slice (some ⟨b,0,none⟩) 1 1,fun b=>bx b #[iv g.Layer,iv i.X,iv i.Y,iv B] 50⟩)] [(6,sL C K D),(8,pV d7),(20,sL j c.Pieces A),(21,iv (c.Pieces.length:Int)),(22,iv (d5:Int)),(23,bV (decide ((d5:Int)<(c.Pieces.length:Int)))),(24,.pointer (some ⟨mY j,qj j+((d5:Int)).toNat*3,none⟩)),(25,.agg #[iv g.Layer,sL o g.Set p,sL q g.Rects v]),(26,sL C K D),(27,pV d7),(28,iv g.Layer),(29,.pointer (some ⟨d7,1,none⟩)),(30,sL o g.Set p),(31,.agg #[iv i.X,iv i.Y]),(32,.pointer (some ⟨d7,2,none⟩)),(33,sL q g.Rects v),(34,iv B),(35,.agg #[iv g.Layer,iv i.X,iv i.Y,iv B]),(36,.func (.func 0) #[] #[.agg #[iv g.Layer,iv i.X,iv i.Y,iv B]])] (by kernel_rfl) (by kernel_rfl) (by kernel_rfl) (by kernel_rfl) (by kernel_rfl) (by kernel_rfl) (by kernel_rfl) (kN (H7 (vs:=[(0,.agg #[iv g.Layer,iv i.X,iv i.Y,iv B])]) O O O (by kernel_rfl)) lV) (kN O lV) (kN O lV) ?_ ?_
    ·refine eY O (dA (ag xX) O (bv O (fun _ _ a d=>ah bG (a.ev O) (bR d (vs:=[iv g.Layer,sL o g.Set p,sL q g.Rects v]) (k:=12) O 0) O) (dA (ag N7) O (bv O (fun _ _ a d=>ah MK (a.ev O) (bR d (vs:=[iv g.Layer,sL o g.Set p,sL q g.Rects v]) (k:=12) O 1) O) (jB (r:=(.agg #[iv i.X,iv i.Y])) (wn O) O Tryz.call17 (aj O aG) (fun W hW=>wP g.Set o p (b4.rl.ext hW.bU) i g8 (HF.start _)) (dA (ag xW) O (bv O (fun _ _ a d=>ah tQ (a.ev O) (bR d (vs:=[iv g.Layer,sL o g.Set p,sL q g.Rects v]) (k:=12) O 2) O) (jB (r:=(iv B)) (wn O) O Tryz.call18 (aj O aG) (fun W hW=>zU g.Rects q v (b5.rl.ext hW.bU) B g9 (HF.start _)) (xB (vs:=[(0,iv g.Layer),(1,.agg #[iv i.X,iv i.Y]),(2,iv B)]) (cs:=[iv g.Layer,iv i.X,iv i.Y,iv B]) (wn O) O (bz O (bz O (bz O dE))) (by kernel_rfl) (vg (vs:=[.agg #[iv g.Layer,iv i.X,iv i.Y,iv B]]) (wn O) O (aj O aG) ?_))))))))))
     exact bW (.r O)
    ·intro e8
     refine Tr.vC (lf:=[(20,sL j c.Pieces A),(21,iv (c.Pieces.length:Int)),(22,iv (d5:Int)),(26,sL C K D),(36,.slice (some ⟨(e8 10),0,none⟩) 1 1)]) (le:=[(7,ow C D 50 eP K),(12,bx d7 #[iv g.Layer,sL o g.Set p,sL q g.Rects v] 76),(13,bx (e8 10) #[iv g.Layer,iv i.X,iv i.Y,iv B] 50)]) (.r O) (.r O) ?_
     obtain⟨h6,h0,H⟩:=bnd H
     exact Tr.append 7 (t:=eP) (l:=K) (l2:=[(ig.mk g.Layer i B)]) (wn O) O O O O (fun W hW=>⟨[[iv g.Layer,iv i.X,iv i.Y,iv B]],(.cons ⟨(),trivial,O⟩ .nil),bR hW (vs:=[iv g.Layer,iv i.X,iv i.Y,iv B]) (k:=13) O 0⟩) KN QO Qy (by decide) Rk O h0 fun h1 h2 g2=>(Tr.k O (ae (aK (aa (Tr.region (ay bB O O (ax O (ae (aI d9 (J,(d5+1),h6,h1,h2) ⟨O,bT b1,aX b1,H,g2⟩ (.cons O (.cons O (.cons O (.cons (congrArg (fun z=>some (Value.int .i64 z)) (bS b1 y.form)) .nil)))) (.r O))))))))))

theorem yZ(N:Nat){w:Bs}(hT:Dx Tryz.prog w)(p0:nU)(a5:Option Addr)(a6:Nat)(d1:Sl w.O w.W dF a5 a6 p0.Coppers)(a7:Option Addr)(a8:Nat)(d2:Sl w.O w.W aB a7 a8 p0.Outline)(a9:Option Addr)(b0:Nat)(d3:Sl w.O w.W dY a9 b0 p0.Bores)(b1:Option Addr)(b2:Nat)(d4:Sl w.O w.W eH b1 b2 p0.Lands)(r:((List dz)×Int))(H:nY N p0=some r)(hE:HF w w.W (iZ [])):Calls Tryz.prog 7 [.agg #[sL a5 p0.Coppers a6,sL a7 p0.Outline a8,sL a9 p0.Bores b0,sL b1 p0.Lands b2]].toArray w.W fun e W'=>∃(w':Bs) (u:(Option Addr×Nat)),w.Le w'∧e= .returned (.tuple #[sL u.1 r.1 u.2,iv r.2])∧(Sl w'.O w'.W dw u.1 u.2 r.1)∧HF w' W' (iZ []):=by
 unfold nY at H
 have leB:=Bs.Le.refl w
 refine aV (n:=18) Tryz.func7 O O O hE (ai (fw 1 (cs:=[sL a5 p0.Coppers a6,sL a7 p0.Outline a8,sL a9 p0.Bores b0,sL b1 p0.Lands b2]) (wn O) O O O fun e0=>(Tr.k O (bC 2 85 dw ?_))))
 show Tr _ _ (uf _ 2 (sL none (([]:List dz)) 0)) _ _
 refine Tr.k O (ae (aa (ai (aC O (fun _ _ a d=>aM (cs:=[sL a5 p0.Coppers a6,sL a7 p0.Outline a8,sL a9 p0.Bores b0,sL b1 p0.Lands b2]) uZ uP (a.ev O) (aF.take (bR d (vs:=[sL a5 p0.Coppers a6,sL a7 p0.Outline a8,sL a9 p0.Bores b0,sL b1 p0.Lands b2]) (k:=1) O 0) 4) O) ?_))))
 obtain⟨c,d5,H⟩:=bnd H
 refine eZ [3] [emp] (U:=(Option Addr×Nat)×(Option Addr×Nat)×(Option Addr×Nat)×(Option Addr×Nat)×(Option Addr×Nat)×(Option Addr×Nat)×(Option Addr×Nat)×(Option Addr×Nat)×(Option Addr×Nat)×(Option Addr×Nat)×(Option Addr×Nat)×(Option Addr×Nat)×(Option Addr×Nat)) (fun u=>(.tuple #[(Hy u.2.2.2.2.2.2.2.2.2.2.2.2.2 c.1),iv c.2])) (fun a' W u=>di c.1 (fun x0=>Sl a' W dF u.1.1 u.1.2 x0.Art.Coppers)∧di c.1 (fun x0=>Sl a' W aB u.2.1.1 u.2.1.2 x0.Art.Outline)∧di c.1 (fun x0=>Sl a' W dY u.2.2.1.1 u.2.2.1.2 x0.Art.Bores)∧di c.1 (fun x0=>Sl a' W eH u.2.2.2.1.1 u.2.2.2.1.2 x0.Art.Lands)∧di c.1 (fun x0=>Sl a' W bM u.2.2.2.2.1.1 u.2.2.2.2.1.2 x0.Drilled)∧di c.1 (fun x0=>Sl a' W dG u.2.2.2.2.2.1.1 u.2.2.2.2.2.1.2 x0.Pieces)∧di c.1 (fun x0=>Sl a' W fE u.2.2.2.2.2.2.1.1 u.2.2.2.2.2.2.1.2 x0.Touched)∧di c.1 (fun x0=>Sl a' W dw u.2.2.2.2.2.2.2.1.1 u.2.2.2.2.2.2.2.1.2 x0.Groups)∧di c.1 (fun x0=>Sl a' W az u.2.2.2.2.2.2.2.2.1.1 u.2.2.2.2.2.2.2.2.1.2 x0.OfPiece)∧di c.1 (fun x0=>Sl a' W az u.2.2.2.2.2.2.2.2.2.1.1 u.2.2.2.2.2.2.2.2.2.1.2 x0.OfBore)∧di c.1 (fun x0=>Sl a' W az u.2.2.2.2.2.2.2.2.2.2.1.1 u.2.2.2.2.2.2.2.2.2.2.1.2 x0.OfLand)∧di c.1 (fun x0=>Sl a' W dX u.2.2.2.2.2.2.2.2.2.2.2.1.1 u.2.2.2.2.2.2.2.2.2.2.2.1.2 x0.AtLand)∧True) (fun u=>[PX u.2.2.2.2.2.2.2.2.2.2.2.2.2 72 c.1 (fun x0=> #[sL u.1.1 x0.Art.Coppers u.1.2,sL u.2.1.1 x0.Art.Outline u.2.1.2,sL u.2.2.1.1 x0.Art.Bores u.2.2.1.2,sL u.2.2.2.1.1 x0.Art.Lands u.2.2.2.1.2,sL u.2.2.2.2.1.1 x0.Drilled u.2.2.2.2.1.2,sL u.2.2.2.2.2.1.1 x0.Pieces u.2.2.2.2.2.1.2,sL u.2.2.2.2.2.2.1.1 x0.Touched u.2.2.2.2.2.2.1.2,sL u.2.2.2.2.2.2.2.1.1 x0.Groups u.2.2.2.2.2.2.2.1.2,sL u.2.2.2.2.2.2.2.2.1.1 x0.OfPiece u.2.2.2.2.2.2.2.2.1.2,sL u.2.2.2.2.2.2.2.2.2.1.1 x0.OfBore u.2.2.2.2.2.2.2.2.2.1.2,sL u.2.2.2.2.2.2.2.2.2.2.1.1 x0.OfLand u.2.2.2.2.2.2.2.2.2.2.1.2,sL u.2.2.2.2.2.2.2.2.2.2.2.1.1 x0.AtLand u.2.2.2.2.2.2.2.2.2.2.2.1.2])]) O (aN O bg) (fun _=>O) (wn O) O Tryz.call16 (aj O aG) (fun W hW hp hE=>pF N (hT.ext (hW.dU hp)) p0 a5 a6 (d1.kC (hW.dU hp)) a7 a8 (d2.kC (hW.dU hp)) a9 b0 (d3.kC (hW.dU hp)) b1 b2 (d4.kC (hW.dU hp)) c d5 hE) ?_
 intro w u b7 hu
 obtain⟨⟨F,G⟩,⟨I,J⟩,⟨K,L⟩,⟨M,P⟩,⟨Q,S⟩,⟨T,V⟩,⟨X,Z⟩,⟨g,h⟩,⟨a0,a1⟩,⟨a2,a3⟩,⟨o,p⟩,⟨q,s⟩,⟨d9,a4⟩⟩:=u
 obtain⟨b9,c0,c3,c4,c5,c6,c7,c8,c9,d0,b4,b5,b6⟩:=hu
 replace hT:=hT.ext b7.ext
 replace leB:=leB.trans b7
 have t:di c.1 (fun x0=>Sl w.O w.W dF F G x0.Art.Coppers):=b9 --@phi
 have v:di c.1 (fun x0=>Sl w.O w.W aB I J x0.Art.Outline):=c0 --@phi
 have y:di c.1 (fun x0=>Sl w.O w.W dY K L x0.Art.Bores):=c3 --@phi
 have z:di c.1 (fun x0=>Sl w.O w.W eH M P x0.Art.Lands):=c4 --@phi
 have A:di c.1 (fun x0=>Sl w.O w.W bM Q S x0.Drilled):=c5 --@phi
 have B:di c.1 (fun x0=>Sl w.O w.W dG T V x0.Pieces):=c6 --@phi
 have C:di c.1 (fun x0=>Sl w.O w.W fE X Z x0.Touched):=c7 --@phi
 have i:di c.1 (fun x0=>Sl w.O w.W dw g h x0.Groups):=c8 --@phi
 have D:di c.1 (fun x0=>Sl w.O w.W az a0 a1 x0.OfPiece):=c9 --@phi
 have E:di c.1 (fun x0=>Sl w.O w.W az a2 a3 x0.OfBore):=d0 --@phi
 have j:di c.1 (fun x0=>Sl w.O w.W az o p x0.OfLand):=b4 --@phi
 have l:di c.1 (fun x0=>Sl w.O w.W dX q s x0.AtLand):=b5 --@phi
 have d8:True:=b6 --@phi
 dsimp only
 obtain b3|⟨b,b3⟩:=Ll c.1
 ·rw[b3] at H ⊢
  dsimp only[ui] at H
  show Tr _ _ (uf _ 8 (.tuple #[.pointer none,iv c.2])) (up _ 3 (emp)) _
  refine ax O (aC O (fun _ _ a d=>bA (a.ev O) O) (aC O (fun _ _ a d=>bA (a.ev O) O) (Tr.k O (Tr.k O (ae (aa (av (ai (ax O (ay fM O O (ae (aa (aT O H (fun H=>?_) (fun H=>?_))))))))))))))
  ·refine ai (ax O (Tr.k O (bC 4 85 dw ?_)))
   show Tr _ _ (uf _ 2 (sL none (([]:List dz)) 0)) _ _
   refine Tr.k O (ae (aa (aO (aD ?_))))
   obtain rfl:=oI H
   refine Tr.freeze 4 O fun w b8 d6=>?_
   replace hT:=hT.ext b8.ext
   replace leB:=leB.trans b8
   exact bL (m:=[sL none (([]:List dz)) 0,iv c.2]) [] (aU O (aU O bD)) (fun W hW=>⟨w,(none,0),leB,O,d6,hW.pick (ks:=[]) (by decide) bg⟩)
  ·refine aJ (aa (av ?_))
   cases H
 ·rw[b3] at H t v y z A B C i D E j l ⊢
  dsimp only[ui] at H
  replace t:Sl w.O w.W dF F G b.Art.Coppers:=t
  replace v:Sl w.O w.W aB I J b.Art.Outline:=v
  replace y:Sl w.O w.W dY K L b.Art.Bores:=y
  replace z:Sl w.O w.W eH M P b.Art.Lands:=z
  replace A:Sl w.O w.W bM Q S b.Drilled:=A
  replace B:Sl w.O w.W dG T V b.Pieces:=B
  replace C:Sl w.O w.W fE X Z b.Touched:=C
  replace i:Sl w.O w.W dw g h b.Groups:=i
  replace D:Sl w.O w.W az a0 a1 b.OfPiece:=D
  replace E:Sl w.O w.W az a2 a3 b.OfBore:=E
  replace j:Sl w.O w.W az o p b.OfLand:=j
  replace l:Sl w.O w.W dX q s b.AtLand:=l
  show Tr _ _ (uf _ 8 (.tuple #[pV a4,iv c.2])) (up _ 3 (bx a4 #[sL F b.Art.Coppers G,sL I b.Art.Outline J,sL K b.Art.Bores L,sL M b.Art.Lands P,sL Q b.Drilled S,sL T b.Pieces V,sL X b.Touched Z,sL g b.Groups h,sL a0 b.OfPiece a1,sL a2 b.OfBore a3,sL o b.OfLand p,sL q b.AtLand s] 72)) _
  refine ax O (aC O (fun _ _ a d=>bA (a.ev O) O) (aC O (fun _ _ a d=>bA (a.ev O) O) (Tr.k O (Tr.k O (ae (aa (av (ai (ax O (ay fM O O (ae (aa (aT O H (fun H=>?_) (fun H=>?_))))))))))))))
  ·refine ai (ax O (Tr.k O (bC 5 85 dw ?_)))
   show Tr _ _ (uf _ 2 (sL none (([]:List dz)) 0)) _ _
   refine Tr.k O (ae (aa (aO (aD ?_))))
   obtain rfl:=oI H
   refine Tr.freeze 5 O fun w f d7=>?_
   replace hT:=hT.ext f.ext
   replace t:=t.le f
   replace v:=v.le f
   replace y:=y.le f
   replace z:=z.le f
   replace A:=A.le f
   replace B:=B.le f
   replace C:=C.le f
   replace i:=i.le f
   replace D:=D.le f
   replace E:=E.le f
   replace j:=j.le f
   replace l:=l.le f
   replace leB:=leB.trans f
   exact bL (m:=[sL none (([]:List dz)) 0,iv c.2]) [] (aU O (aU O bD)) (fun W hW=>⟨w,(none,0),leB,O,d7,hW.pick (ks:=[]) (by decide) bg⟩)
  ·refine aJ (aa (ai (ax O (aH bn O (aH (ag uq) O (aC O (fun _ _ a d=>ah CX (a.ev O) (bR d (vs:=[sL F b.Art.Coppers G,sL I b.Art.Outline J,sL K b.Art.Bores L,sL M b.Art.Lands P,sL Q b.Drilled S,sL T b.Pieces V,sL X b.Touched Z,sL g b.Groups h,sL a0 b.OfPiece a1,sL a2 b.OfBore a3,sL o b.OfLand p,sL q b.AtLand s]) (k:=3) O 7) O) (Tr.k O (Tr.k O (ae (aa (aO ?_)))))))))))
   obtain rfl:=oI H
   exact bL (m:=[sL g b.Groups h,iv 0]) [] (aU O (aU O bD)) (fun W hW=>⟨w,(g,h),leB,O,i,hW.pick (ks:=[]) (by decide) bg⟩)

end Go.Proofs.YtkccbhbhdnobhaaGreatDoor
