/- The walks: each function computes its plain function. -/
import Derived.Test.YtblmajfbibbiaaaGreatDoorXF
namespace Go.Proofs.YtblmajfbibbiaaaGreatDoor
open Go.RowKit
set_option maxRecDepth 100000
set_option maxHeartbeats 1000000
theorem xx{w:Bs}(p0:Int)(p1:Int)(p2:Int)(r:Bool)(H:mh p0 p1 p2=some r)(hE:HF w w.W E0):Calls Tryz.prog 60 [iv p0,iv p1,iv p2].toArray w.W fun e W'=>e= .returned (bV r)∧HF w W' E0:=by
 unfold mh at H
 have leB:=Bs.Le.refl w
 refine aZ (n:=15) Tryz.func60 Z Z Z hE (ai (Tr.k Z (ae (aa (ai (aA Z (aA Z (aC wZ Z Z (aA Z (eD 4 [(14,bV ((decide (p1≤p0))&&(decide (p0≤p2))))] [] ?_ ?_))))))))))
 ·cases a:(decide (p1≤p0))
  ·exact bq Z (bq Z (bq Z (aC bH Z Z (ae (bA (.r Z) .nil)))))
  ·exact dN run_move Z (dN run_move Z (jM pQ Z Z (aC bG Z Z (ae (bA (.r Z) .nil)))))
 ·show Tr _ _ (LF [(14,bV ((decide (p1≤p0))&&(decide (p0≤p2))))]) (LE []) _
  refine Tr.k Z (ae (aa (bu ?_)))
  obtain rfl:=oI H
  exact fV leB

theorem om{w:Bs}(p0:Int)(r:Bool)(H:lF p0=some r)(hE:HF w w.W E0):Calls Tryz.prog 101 [iv p0].toArray w.W fun e W'=>e= .returned (bV r)∧HF w W' E0:=by
 unfold lF at H
 have leB:=Bs.Le.refl w
 refine aZ (n:=5) Tryz.func101 Z Z Z hE (ai (Tr.k Z (ae (aa (ai (aA Z ?_))))))
 obtain⟨a,b,H⟩:=bnd H
 refine bR (r:=(bV a)) (wn Z) Z Tryz.call60 (aj Z (aj Z (aj Z aJ))) (fun W hW=>xx p0 (-1000000) 1000000 a b (HF.start _)) (Tr.k Z (ae (aa (bu ?_))))
 obtain rfl:=oI H
 exact fV leB

theorem xy{w:Bs}(p0:aK)(r:Bool)(H:pF p0=some r)(hE:HF w w.W E0):Calls Tryz.prog 71 [.agg #[iv p0.X0,iv p0.Y0,iv p0.X1,iv p0.Y1]].toArray w.W fun e W'=>e= .returned (bV r)∧HF w W' E0:=by
 unfold pF at H
 have leB:=Bs.Le.refl w
 refine aZ (n:=21) Tryz.func71 Z Z Z hE (ai (fT 1 (cs:=[iv p0.X0,iv p0.Y0,iv p0.X1,iv p0.Y1]) (wn Z) Z Z Z fun d=>(Tr.k Z (ae (aa (ai (aQ (ag oW) Z (aG Z (fun _ _ a c=>ah bT (a.ev Z) (dB c (vs:=[iv p0.X0,iv p0.Y0,iv p0.X1,iv p0.Y1]) (k:=1) Z 0) Z) ?_))))))))
 obtain⟨i,u,H⟩:=bnd H
 refine bR (r:=(bV i)) (wn Z) Z Tryz.call101 (aj Z aJ) (fun W hW=>om p0.X0 i u (HF.start _)) (aA Z ?_)
 obtain⟨j,f,H⟩:=bnd H
 refine eD 4 [(1,pV d),(10,bV j)] [(1,bx d #[iv p0.X0,iv p0.Y0,iv p0.X1,iv p0.Y1] 45)] ?_ ?_
 ·cases b:i
  ·rw[b] at f
   rw[if_neg (by decide)] at f
   have H:=f
   obtain rfl:=oI H
   exact bq Z (bq Z (bq Z (aC bH Z Z (ae (bA (.r Z) (.r Z))))))
  ·rw[b] at f
   rw[if_pos Z] at f
   have H:=f
   refine dN (ag rq) Z (Tr.x (fun _ _ a c=>ah bT (a.ev Z) (dB c (vs:=[iv p0.X0,iv p0.Y0,iv p0.X1,iv p0.Y1]) (k:=1) Z 1) Z) ?_)
   obtain⟨o,v,H⟩:=bnd H
   refine bR (r:=(bV o)) (wg Z Z Z) Z Tryz.call101 (aj Z aJ) (fun W hW=>om p0.Y0 o v (HF.start _)) (aC bG Z Z ?_)
   obtain rfl:=oI H
   exact ae (bA (.r Z) (.r Z))
 ·show Tr _ _ (LF [(1,pV d),(10,bV j)]) (LE [(1,bx d #[iv p0.X0,iv p0.Y0,iv p0.X1,iv p0.Y1] 45)]) _
  refine aA Z ?_
  obtain⟨l,g,H⟩:=bnd H
  refine eD 4 [(1,pV d),(15,bV l)] [(1,bx d #[iv p0.X0,iv p0.Y0,iv p0.X1,iv p0.Y1] 45)] ?_ ?_
  ·cases b:j
   ·rw[b] at g
    rw[if_neg (by decide)] at g
    have H:=g
    obtain rfl:=oI H
    exact bq Z (bq Z (bq Z (aC bH Z Z (ae (bA (.r Z) (.r Z))))))
   ·rw[b] at g
    rw[if_pos Z] at g
    have H:=g
    refine dN (ag xh) Z (Tr.x (fun _ _ a c=>ah bT (a.ev Z) (dB c (vs:=[iv p0.X0,iv p0.Y0,iv p0.X1,iv p0.Y1]) (k:=1) Z 2) Z) ?_)
    obtain⟨q,y,H⟩:=bnd H
    refine bR (r:=(bV q)) (wg Z Z Z) Z Tryz.call101 (aj Z aJ) (fun W hW=>om p0.X1 q y (HF.start _)) (aC bG Z Z ?_)
    obtain rfl:=oI H
    exact ae (bA (.r Z) (.r Z))
  ·show Tr _ _ (LF [(1,pV d),(15,bV l)]) (LE [(1,bx d #[iv p0.X0,iv p0.Y0,iv p0.X1,iv p0.Y1] 45)]) _
   refine aA Z ?_
   obtain⟨s,h,H⟩:=bnd H
   refine eD 4 [(20,bV s)] [(1,bx d #[iv p0.X0,iv p0.Y0,iv p0.X1,iv p0.Y1] 45)] ?_ ?_
   ·cases b:l
    ·rw[b] at h
     rw[if_neg (by decide)] at h
     have H:=h
     obtain rfl:=oI H
     exact bq Z (bq Z (bq Z (aC bH Z Z (ae (bA (.r Z) (.r Z))))))
    ·rw[b] at h
     rw[if_pos Z] at h
     have H:=h
     refine dN (ag yP) Z (Tr.x (fun _ _ a c=>ah bT (a.ev Z) (dB c (vs:=[iv p0.X0,iv p0.Y0,iv p0.X1,iv p0.Y1]) (k:=1) Z 3) Z) ?_)
     obtain⟨t,z,H⟩:=bnd H
     refine bR (r:=(bV t)) (wg Z Z Z) Z Tryz.call101 (aj Z aJ) (fun W hW=>om p0.Y1 t z (HF.start _)) (aC bG Z Z ?_)
     obtain rfl:=oI H
     exact ae (bA (.r Z) (.r Z))
   ·show Tr _ _ (LF [(20,bV s)]) (LE [(1,bx d #[iv p0.X0,iv p0.Y0,iv p0.X1,iv p0.Y1] 45)]) _
    refine Tr.k Z (ae (aa (bu ?_)))
    obtain rfl:=oI H
    exact fV leB

theorem zo{w:Bs}(p0:(List aK))(g:Option Addr)(i:Nat)(j:Sl w.R w.W aX g i p0)(r:Int)(H:lS p0=some r)(hE:HF w w.W E0):Calls Tryz.prog 59 [sL g p0 i].toArray w.W fun e W'=>e= .returned (iv r)∧HF w W' E0:=by
 unfold lS at H
 have leB:=Bs.Le.refl w
 refine aZ (n:=30) Tryz.func59 Z Z Z hE (ai (Tr.k Z (ae (aa (av (ai (aA Z (aQ (bD rM) Z (aC jd Z Z (ae (aa (aP Z H (fun H=>?_) (fun H=>?_)))))))))))))
 ·refine ai (Tr.k Z (ae (aa (bu (bn ?_)))))
  obtain rfl:=oI H
  exact fV leB
 ·refine aO (aa (av (ai (aA Z (aQ (bD rM) Z (aA Z (ae (aa (Tr.block (cB (σ:=(List aK)×Nat) (fun m w s=>m=s.1.length+1∧s.1=List.drop s.2 p0∧s.2≤p0.length∧iw s.1 s.2=some r) (fun s=>[(8,sL g p0 i),(9,iv (p0.length:Int)),(10,iv (s.2:Int))]) (fun s=>[]) (p0.length+1) (p0,0) ⟨Z,Z,Nat.zero_le _,H⟩ (.r Z) .nil (fun _ _ h=>absurd h.1 (by simp)) ?_))))))))))
  intro w o m s hs
  obtain⟨d,l⟩:=s
  obtain⟨q,f,A,H⟩:=hs
  replace f:d=List.drop l p0:=f
  replace H:iw d l=some r:=H
  replace q:m+1=d.length+1:=q
  replace j:=j.oV o
  replace leB:=leB.trans o
  obtain rfl:m=d.length:=by omega
  clear q
  dsimp only
  cases d with
  |nil=>
   rw[iw.eq_1] at H
   refine ai (aC bv Z Z (ae (aa (av (eX Z (dY f) (cz (aD (aD (aU (aa (ai (Tr.k Z (ae (aa (bu ?_)))))))))))))))
   obtain rfl:=oI H
   exact fV leB
  | cons b d=>
   rw[iw.eq_2] at H
   refine ai (aC bv Z Z (ae (aa (av (eO Z (fI f) (aO (aa (av (Tr.block (ai (aG Z (fun _ _ a c=>au uh (a.ev Z) j.form (a.ev Z) (Int.natCast_nonneg _) (bE f)) (aG Z (fun _ _ a c=>aN (cs:=[iv b.X0,iv b.Y0,iv b.X1,iv b.Y1]) qJ kG (a.ev Z) (aI.take (vB lY j (gq f) c) 4) Z) (Tr.alloc 2 (wn Z) Z vz fun t=>(bC 2 (cs:=[iv b.X0,iv b.Y0,iv b.X1,iv b.Y1]) [iv b.X0,iv b.Y0,iv b.X1,iv b.Y1] (wn Z) Z Z Z Z kG Z Z Z (ae (aa (av (ai (aG Z (fun _ _ a c=>aN (cs:=[iv b.X0,iv b.Y0,iv b.X1,iv b.Y1]) qJ kG (a.ev Z) (aI.take (dB c (vs:=[iv b.X0,iv b.Y0,iv b.X1,iv b.Y1]) (k:=2) Z 0) 4) Z) ?_)))))))))))))))))))
   obtain⟨u,v,H⟩:=bnd H
   refine bR (r:=(bV u)) (wn Z) Z Tryz.call71 (aj Z aJ) (fun W hW=>xy b u v (HF.start _)) (aQ jc Z (ae (aa (aP Z H (fun H=>?_) (fun H=>?_)))))
   ·refine ai (Tr.k Z (ae (aa (bu (bn (fD (bn (bn (fD (bn ?_))))))))))
    obtain rfl:=oI H
    exact fV leB
   ·refine aO (aa (ai (aQ (ag xh) Z (aG Z (fun _ _ a c=>ah bT (a.ev Z) (dB c (vs:=[iv b.X0,iv b.Y0,iv b.X1,iv b.Y1]) (k:=2) Z 2) Z) (aQ (ag oW) Z (aG Z (fun _ _ a c=>ah bT (a.ev Z) (dB c (vs:=[iv b.X0,iv b.Y0,iv b.X1,iv b.Y1]) (k:=2) Z 0) Z) (aC pQ Z Z (aA Z (eD 6 [(8,sL g p0 i),(9,iv (p0.length:Int)),(10,iv (l:Int)),(28,bV ((decide (b.X1≤b.X0))||(decide (b.Y1≤b.Y0))))] [(2,bx t #[iv b.X0,iv b.Y0,iv b.X1,iv b.Y1] 45)] ?_ ?_)))))))))
    ·cases y:(decide (b.X1≤b.X0))
     ·exact dN (ag yP) Z (Tr.x (fun _ _ a c=>ah bT (a.ev Z) (dB c (vs:=[iv b.X0,iv b.Y0,iv b.X1,iv b.Y1]) (k:=2) Z 3) Z) (dN (ag rq) Z (Tr.x (fun _ _ a c=>ah bT (a.ev Z) (dB c (vs:=[iv b.X0,iv b.Y0,iv b.X1,iv b.Y1]) (k:=2) Z 1) Z) (jM pQ Z Z (aC bH Z Z (ae (bA (.r Z) (.r Z))))))))
     ·exact bq Z (bq Z (bq Z (bq Z (bq Z (aC bG Z Z (ae (bA (.r Z) (.r Z))))))))
    ·show Tr _ _ (LF [(8,sL g p0 i),(9,iv (p0.length:Int)),(10,iv (l:Int)),(28,bV ((decide (b.X1≤b.X0))||(decide (b.Y1≤b.Y0))))]) (LE [(2,bx t #[iv b.X0,iv b.Y0,iv b.X1,iv b.Y1] 45)]) _
     refine ae (aa (aP Z H (fun H=>?_) (fun H=>?_)))
     ·refine ai (Tr.k Z (ae (aa (bu (fD (bn (bn (fD (bn ?_)))))))))
      obtain rfl:=oI H
      exact fV leB
     ·exact aO (aL (aa (aM (aC bz Z Z (aA Z (ae (aF o (d,(l+1)) ⟨Z,dW f,bE f,H⟩ (.cons Z (.cons Z (.cons (congrArg (fun z=>some (Value.int .i64 z)) (dV f j.form)) .nil))) .nil)))))))

theorem yX{w:Bs}(p0:(List aK))(a:Option Addr)(b:Nat)(c:Sl w.R w.W aX a b p0)(r:(List aK))(H:nD p0=some r)(hE:HF w w.W (ig [emp])):Calls Tryz.prog 62 [sL a p0 b].toArray w.W fun e W'=>∃u:(Option Addr×Nat),e= .returned (sL u.1 r u.2)∧(bZ u.1 r.length u.2)∧HF w W' (ig [ow u.1 u.2 45 aX r]):=by
 unfold nD at H
 have leB:=Bs.Le.refl w
 refine aZ (n:=8) Tryz.func62 Z Z Z hE (ai (Tr.k Z (bO 1 45 aX ?_)))
 show Tr _ _ (uf _ 2 (sL none (([]:List aK)) 0)) _ _
 refine ae (aa (av (ai (aA Z (aC (Bt rM) Z Z (ae (aa ?_)))))))
 cases a with
 |none=>
  have hl0:=FH c.form
  replace H:(some ([]:List aK))=some r:=by simpa[wO,hl0] using H
  refine eO Z Z (ai (Tr.k Z (bO 2 45 aX ?_)))
  show Tr _ _ (uf _ 2 (sL none (([]:List aK)) 0)) _ _
  refine ae (aa (bu (bn ?_)))
  obtain rfl:=oI H
  exact Tr.out (m:=[sL none (([]:List aK)) 0]) [] (bM Z bL) (fun W hW=>⟨(none,0),Z,fQ,HF.wy leB (hW.pick (ks:=[2]) (by decide) (aH Z aY)) ⟨nQ _ _ _ _ lW,trivial⟩⟩)
 |some j=>
  refine eX Z Z (aO (aa (ai (dS 3 (e:=45) (vs:=[]) (cs:=[]) (wn Z) Z dH (by kernel_rfl) fun o=>(aA Z (Tr.own 3 aX ([]:List aK) (css:=[]) Z .nil Z (by decide) (yK Z) ?_))))))
  obtain⟨i,h,H⟩:=bnd H
  refine yT 3 (t:=aX) (l:=([]:List aK)) (l2:=p0) (wn Z) Z Z Z Z (Zd lW (fun W hW=>(Sl.En c hW))) rM kG NQ (by decide) Pw Z h fun d f g=>(Tr.k Z (ae (aa (bu ?_))))
  obtain rfl:=oI H
  exact Tr.out (m:=[sL d i f]) [] (bM Z bL) (fun W hW=>⟨(d,f),Z,g,HF.wy leB (hW.pick (ks:=[3]) (by decide) (aH Z aY)) ⟨nQ _ _ _ _ lW,trivial⟩⟩)

theorem nU{w:Bs}(p0:List aK)(a:Option Addr)(b:Nat)(p1:aK→aK→Option Int)(fid1:Nat)(c:List Value)(hg1:∀args W,(callFunc fid1 args).run Tryz.prog W= .ok (.enter fid1 args) W)(hf1:∀(w':Bs),w.Ext w'→∀(z0:aK) (z1:aK),∀y,p1 z0 z1=some y→Calls Tryz.prog fid1 (([.agg #[iv z0.X0,iv z0.Y0,iv z0.X1,iv z0.Y1],.agg #[iv z1.X0,iv z1.Y0,iv z1.X1,iv z1.Y1]]:List Value)++c).toArray w'.W fun e W''=>e= .returned (iv y)∧HF w' W'' E0)(r:List aK)(H:Bo p0 p1=some r)(hE:HF w w.W (ig [ow a b 45 aX p0])):Calls Tryz.prog 63 [sL a p0 b,.func (.func fid1) #[] c.toArray].toArray w.W fun e W'=>∃u:Unit,e= .returned (.tuple #[])∧(r.length=p0.length)∧HF w W' (ig [ow a b 45 aX r]):=
 G9 (ρ:=Tryz.H9) Tryz.XP (fun _=>AB qJ) (fun _=>run_sizeOf kG) lY lW () hg1 hf1 H hE

theorem BQ{w:Bs}(p0:aK)(p1:aK)(r:Int)(H:nu p0 p1=some r)(hE:HF w w.W E0):Calls Tryz.prog 64 [.agg #[iv p0.X0,iv p0.Y0,iv p0.X1,iv p0.Y1],.agg #[iv p1.X0,iv p1.Y0,iv p1.X1,iv p1.Y1]].toArray w.W fun e W'=>e= .returned (iv r)∧HF w W' E0:=by
 unfold nu at H
 have leB:=Bs.Le.refl w
 refine aZ (n:=10) Tryz.func64 Z Z Z hE (ai (fT 1 (cs:=[iv p0.X0,iv p0.Y0,iv p0.X1,iv p0.Y1]) (wn Z) Z Z Z fun b=>(fT 2 (cs:=[iv p1.X0,iv p1.Y0,iv p1.X1,iv p1.Y1]) (wn Z) Z Z Z fun d=>(Tr.k Z (ae (aa (ai (aQ (ag rq) Z (aG Z (fun _ _ a c=>ah bT (a.ev Z) (dB c (vs:=[iv p0.X0,iv p0.Y0,iv p0.X1,iv p0.Y1]) (k:=1) Z 1) Z) (aQ (ag rq) Z (aG Z (fun _ _ a c=>ah bT (a.ev Z) (dB c (vs:=[iv p1.X0,iv p1.Y0,iv p1.X1,iv p1.Y1]) (k:=2) Z 1) Z) (aC gu Z Z (Tr.k Z (ae (aa (bu ?_))))))))))))))))
 obtain rfl:=oI H
 exact fV leB

theorem uQ{w:Bs}(p0:List Int)(a:Option Addr)(b:Nat)(r:List Int)(H:G8 p0=some r)(hE:HF w w.W (ig [ow a b 3 bP p0])):Calls Tryz.prog 65 [sL a p0 b].toArray w.W fun e W'=>∃u:Unit,e= .returned (.tuple #[])∧(r.length=p0.length)∧HF w W' (ig [ow a b 3 bP r]):=
 Mq (ρ:=Tryz.FE) Tryz.Wd Z jm Fh () H hE

theorem sU{w:Bs}(p0:List Int)(a:Option Addr)(b:Nat)(r:List Int)(H:WU p0=some r)(hE:HF w w.W (ig [ow a b 3 bP p0])):Calls Tryz.prog 66 [sL a p0 b].toArray w.W fun e W'=>∃u:(Option Addr×Nat),e= .returned (sL u.1 r u.2)∧(bZ u.1 r.length u.2)∧HF w W' (ig [ow u.1 u.2 3 bP r]):=
 Hl (ρ:=Tryz.GH) Tryz.WW Z jm Fh () H hE

theorem BP{w:Bs}(p0:aK)(q0:(List Int))(Aq0_0:Option Addr)(cq0_0:Nat)(RV:Sl w.R w.W bP Aq0_0 cq0_0 q0)(kL:Nat)(hb0:w.R kL)(hc0:aI w.W kL 0 [sL Aq0_0 q0 cq0_0])(q1:Int)(Ey:Nat)(hb1:w.R Ey)(hc1:aI w.W Ey 0 [iv q1])(r:Bool)(H:nk p0 q0 q1=some r)(hE:HF w w.W E0):Calls Tryz.prog 68 [.agg #[iv p0.X0,iv p0.Y0,iv p0.X1,iv p0.Y1],pV kL,pV Ey].toArray w.W fun e W'=>e= .returned (bV r)∧HF w W' E0:=by
 unfold nk at H
 have leB:=Bs.Le.refl w
 refine aZ (n:=12) Tryz.func68 Z Z Z hE (ai (fT 1 (cs:=[iv p0.X0,iv p0.Y0,iv p0.X1,iv p0.Y1]) (wn Z) Z Z Z fun h=>(Tr.k Z (ae (aa (av (jF (by kernel_rfl) (by kernel_rfl) (dZ (ag yP) Z (bg Z (fun _ _ a c=>ah bT (a.ev Z) (dB c (vs:=[iv p0.X0,iv p0.Y0,iv p0.X1,iv p0.Y1]) (k:=1) Z 3) Z) (bg Z (fun _ _ a c=>ah lc (a.ev Z) (wo hb0 hc0 c) Z) (bg Z (fun _ _ a c=>ah bT (a.ev Z) (wo hb1 hc1 c) Z) ?_)))))))))))
 obtain⟨i,g,H⟩:=bnd H
 obtain⟨b,d,f⟩:=aW g
 refine bg Z (fun _ _ a c=>au iX (a.ev Z) RV.form (a.ev Z) b d) (bg Z (fun _ _ a c=>ah bT (a.ev Z) (vB jm RV f c) Z) (fZ pQ Z Z (sM Z Z (iC (aa (bu ?_))))))
 obtain rfl:=oI H
 exact fV leB

theorem wF{w:Bs}(p0:(List aK))(g:Option Addr)(i:Nat)(f:Sl w.R w.W aX g i p0)(p1:aK→Option Bool)(fid1:Nat)(j:List Value)(hg1:∀args W,(callFunc fid1 args).run Tryz.prog W= .ok (.enter fid1 args) W)(hf1:∀(w':Bs),w.Ext w'→∀(z0:aK),∀y,p1 z0=some y→Calls Tryz.prog fid1 (([.agg #[iv z0.X0,iv z0.Y0,iv z0.X1,iv z0.Y1]]:List Value)++j).toArray w'.W fun e W''=>e= .returned (bV y)∧HF w' W'' E0)(r:Int)(H:mQ p0 p1=some r)(hE:HF w w.W E0):Calls Tryz.prog 105 [sL g p0 i,.func (.func fid1) #[] j.toArray].toArray w.W fun e W'=>e= .returned (iv r)∧HF w W' E0:=by
 unfold mQ at H
 have leB:=Bs.Le.refl w
 refine aZ (n:=19) Tryz.func105 Z Z Z hE (ai (Tr.k Z (ae (aa (av (ai (aA Z (aQ (bD rM) Z (aA Z (ae (aa (Tr.block (cB (σ:=(List aK)×Nat) (fun m w s=>m=s.1.length+1∧s.1=List.drop s.2 p0∧s.2≤p0.length∧gG p1 s.1 s.2=some r) (fun s=>[(0,sL g p0 i),(1,.func (.func fid1) #[] j.toArray),(7,iv (p0.length:Int)),(8,iv (s.2:Int))]) (fun s=>[]) (p0.length+1) (p0,0) ⟨Z,Z,Nat.zero_le _,H⟩ (.r Z) .nil (fun _ _ h=>absurd h.1 (by simp)) ?_)))))))))))))
 intro w l m s hs
 obtain⟨b,t⟩:=s
 obtain⟨q,d,A,H⟩:=hs
 replace d:b=List.drop t p0:=d
 replace H:gG p1 b t=some r:=H
 replace q:m+1=b.length+1:=q
 replace f:=f.oV l
 replace hf1:=fun w' he=>hf1 w' (l.ext.trans he)
 replace leB:=leB.trans l
 obtain rfl:m=b.length:=by omega
 clear q
 dsimp only
 cases b with
 |nil=>
  rw[gG.eq_1] at H
  refine ai (aC bv Z Z (ae (aa (av (eX Z (dY d) (cz (aD (aD (aU (aa (ai (Tr.k Z (ae (aa (bu ?_)))))))))))))))
  obtain rfl:=oI H
  exact fV leB
 | cons o b=>
  rw[gG.eq_2] at H
  refine ai (aC bv Z Z (ae (aa (av (eO Z (fI d) (aO (aa (av (Tr.block (ai (aA Z (Tr.k Z (ae (aa (ai (aA Z (aA Z (aA Z (aG Z (fun _ _ a c=>au uh (a.ev Z) f.form (a.ev Z) (Int.natCast_nonneg _) (bE d)) (aG Z (fun _ _ a c=>aN (cs:=[iv o.X0,iv o.Y0,iv o.X1,iv o.Y1]) qJ kG (a.ev Z) (aI.take (vB lY f (gq d) c) 4) Z) ?_))))))))))))))))))))
  obtain⟨v,u,H⟩:=bnd H
  refine x9 (r:=(bV v)) (wn Z) Z Z hg1 (aj Z aJ) (fun W hW=>hf1 hW.all hW.dz o _ u) (ae (aa (aP Z H (fun H=>?_) (fun H=>?_))))
  ·refine ai (aA Z (Tr.k Z (ae (aa (bu (fD (bn (bn (fD (bn ?_))))))))))
   obtain rfl:=oI H
   exact fV leB
  ·exact aO (aL (aa (aM (aC bz Z Z (aA Z (ae (aF l (b,(t+1)) ⟨Z,dW d,bE d,H⟩ (.cons Z (.cons Z (.cons Z (.cons (congrArg (fun z=>some (Value.int .i64 z)) (dV d f.form)) .nil)))) .nil)))))))

theorem vO(N:Nat){w:Bs}(p0:(List aK))(d:Option Addr)(f:Nat)(p1:aK→Option Bool)(fid1:Nat)(z:List Value)(hg1:∀args W,(callFunc fid1 args).run Tryz.prog W= .ok (.enter fid1 args) W)(hf1:∀(w':Bs),w.Ext w'→∀(z0:aK),∀y,p1 z0=some y→Calls Tryz.prog fid1 (([.agg #[iv z0.X0,iv z0.Y0,iv z0.X1,iv z0.Y1]]:List Value)++z).toArray w'.W fun e W''=>e= .returned (bV y)∧HF w' W'' E0)(r:(List aK))(H:jA N p0 p1=some r)(hE:HF w w.W (ig [ow d f 45 aX p0])):Calls Tryz.prog 67 [sL d p0 f,.func (.func fid1) #[] z.toArray].toArray w.W fun e W'=>∃u:(Option Addr×Nat),e= .returned (sL u.1 r u.2)∧(bZ u.1 r.length u.2)∧HF w W' (ig [ow u.1 u.2 45 aX r]):=by
 unfold jA at H
 have F:=(hE.sl (k:=0) Z).form
 have leB:=Bs.Le.refl w
 refine aZ (n:=42) Tryz.func67 Z Z Z hE (ai (Tr.k Z (bO 1 45 aX ?_)))
 show Tr _ _ (uf _ 4 (sL none (([]:List aK)) 0)) _ _
 refine ae (aa (ai (aA Z (aA Z ?_))))
 obtain⟨G,a8,H⟩:=bnd H
 refine bR (r:=(iv G)) (wn Z) Z Tryz.call105 (aj Z (aj Z aJ)) (fun W hW=>wF p0 d f (hW.sH (k:=0) Z) p1 fid1 z hg1 (fun w' he=>hf1 w' (hW.dz.trans he)) G a8 (HF.start _)) (Tr.k Z (ae (aa (av (ai (aA Z (aC eU Z Z (ae (aa (aP Z H (fun H=>?_) (fun H=>?_)))))))))))
 ·refine ai (aA Z (Tr.k Z (ae (aa (bu (bn ?_))))))
  obtain rfl:=oI H
  exact Tr.out (m:=[sL d p0 f]) [] (bM Z bL) (fun W hW=>⟨(d,f),Z,F,HF.wy leB (hW.pick (ks:=[0]) (by decide) (aH Z aY)) ⟨nQ _ _ _ _ lW,trivial⟩⟩)
 ·refine aO (aa (av (ai (aA Z (aC bz Z Z (Tr.k Z (ae (aa (Tr.block (cB (σ:=(List aK)×Int×Int) (fun m w s=>fF p1 m s.1 s.2.1 s.2.2=some r∧s.1.length=p0.length) (fun s=>[(0,sL d s.1 f),(1,.func (.func fid1) #[] z.toArray),(5,iv s.2.1),(6,iv s.2.2)]) (fun s=>[(0,ow d f 45 aX s.1)]) N (p0,G,(bF (G+1))) ⟨H,Z⟩ (.r Z) (.r Z) (fun _ _ h=>jZ (h.1)) ?_))))))))))
  intro w I a5 s hs
  obtain⟨g,j,o⟩:=s
  obtain⟨H,B⟩:=hs
  replace H:fF p1 (a5+1) g j o=some r:=H
  replace hf1:=fun w' he=>hf1 w' (I.ext.trans he)
  replace leB:=leB.trans I
  replace B:g.length=p0.length:=B
  have A:bZ d g.length f:=(by rw[B];exact F)
  rw[fF.eq_2] at H
  dsimp only
  refine av (ai (aA Z (aA Z (aQ (bD rM) Z (aC bv Z Z (ae (aa (aP Z H (fun H=>?_) (fun H=>?_)))))))))
  ·refine aO (aa (av (Tr.block (ai (aA Z (aA Z ?_))))))
   obtain⟨b,a0,H⟩:=bnd H
   obtain⟨O,P,Q⟩:=aW a0
   refine aG Z (fun _ _ a c=>au uh (a.ev Z) A (a.ev Z) O P) (aG Z (fun _ _ a c=>aN (cs:=[iv b.X0,iv b.Y0,iv b.X1,iv b.Y1]) qJ kG (a.ev Z) (aI.take (yF lY (k:=0) c Z Q) 4) Z) (Tr.alloc 4 (wn Z) Z vz fun S=>(bC 4 (cs:=[iv b.X0,iv b.Y0,iv b.X1,iv b.Y1]) [iv b.X0,iv b.Y0,iv b.X1,iv b.Y1] (wn Z) Z Z Z Z kG Z Z Z (ae (aa (ai (aA Z (aG Z (fun _ _ a c=>aN (cs:=[iv b.X0,iv b.Y0,iv b.X1,iv b.Y1]) qJ kG (a.ev Z) (aI.take (dB c (vs:=[iv b.X0,iv b.Y0,iv b.X1,iv b.Y1]) (k:=4) Z 0) 4) Z) ?_))))))))
   obtain⟨L,a1,H⟩:=bnd H
   refine x9 (r:=(bV L)) (wn Z) Z Z hg1 (aj Z aJ) (fun W hW=>hf1 hW.all hW.dz b _ a1) (aQ jc Z (ae (aa (aP Z H (fun H=>?_) (fun H=>?_)))))
   ·refine ai (aA Z (aA Z (aG Z (fun _ _ a c=>aN (cs:=[iv b.X0,iv b.Y0,iv b.X1,iv b.Y1]) qJ kG (a.ev Z) (aI.take (dB c (vs:=[iv b.X0,iv b.Y0,iv b.X1,iv b.Y1]) (k:=4) Z 0) 4) Z) ?_)))
    obtain⟨a7,a2,H⟩:=bnd H
    obtain⟨T,U,V⟩:=aW a2
    refine aG Z (fun _ _ a c=>au uh (a.ev Z) A (a.ev Z) T U) ?_
    obtain⟨C,M,H⟩:=bnd H
    have v:=lN M
    refine ng 0 (t:=aX) (l:=g) (i:=j) (fo:=0) (cs:=[iv b.X0,iv b.Y0,iv b.X1,iv b.Y1]) b (wn Z) Z Z Z Z Z V kG Z (fun u _=>⟨u,trivial,Z⟩) Z M ?_
    have a6:bZ d C.length f:=by rw[v];exact A
    have X:=v.trans B
    exact Tr.vD (lf:=[(0,sL d C f),(1,.func (.func fid1) #[] z.toArray),(5,iv j),(6,iv o),(7,pV S),(16,iv o),(17,sL d C f),(18,iv (g.length:Int)),(19,bV (decide (o<(g.length:Int)))),(22,sL d C f),(23,iv o),(25,.agg #[iv b.X0,iv b.Y0,iv b.X1,iv b.Y1]),(26,.func (.func fid1) #[] z.toArray),(27,.agg #[iv b.X0,iv b.Y0,iv b.X1,iv b.Y1]),(28,bV L),(29,bV (!L)),(30,sL d C f),(31,iv j),(32,.agg #[iv b.X0,iv b.Y0,iv b.X1,iv b.Y1])]) (le:=[(0,ow d f 45 aX C),(4,bx S #[iv b.X0,iv b.Y0,iv b.X1,iv b.Y1] 45)]) (.cons (dM Z (by unfold sL;rw[v])) (.cons Z (.cons Z (.cons Z (.cons Z (.cons Z (.cons (dM Z (by unfold sL;rw[v])) (.cons Z (.cons Z (.cons (dM Z (by unfold sL;rw[v])) (.cons Z (.cons Z (.cons Z (.cons Z (.cons Z (.cons Z (.cons (dM Z (by unfold sL;rw[v])) (.r Z)))))))))))))))))) (.r Z) (ae (aa (aM (aA Z (aC bz Z Z (Tr.k Z (ae (aL (aa (aM (aA Z (aC bz Z Z (Tr.k Z (ae (aF I (C,(bF (j+1)),(bF (o+1))) ⟨H,X⟩ (.r Z) (.r Z))))))))))))))))
   ·exact aO (aL (aa (aM (aA Z (aC bz Z Z (Tr.k Z (ae (aF I (g,j,(bF (o+1))) ⟨H,B⟩ (.r Z) (.r Z)))))))))
  ·refine cz (aD (aD (aU (aa (ai (aA Z (aA Z ?_)))))))
   obtain⟨D,J,H⟩:=bnd H
   refine aG Z (fun _ _ a c=>uI uh (a.ev Z) A (a.ev Z) J) ?_
   have q:=UT (aK.mk 0 0 0 0) J
   refine LY 0 (lo:=j) (t:=aX) (l:=g) (aK.mk 0 0 0 0) (wn Z) Z J Z rM vz ⟨(),lW _ _ _ _,lY _ _⟩ Z Z ?_
   have E:bZ d ((Sy g j D.length (aK.mk 0 0 0 0))).length f:=by rw[q];exact A
   have a3:=q.trans B
   refine Tr.vD (lf:=[(0,sL d ((Sy g j D.length (aK.mk 0 0 0 0))) f),(1,.func (.func fid1) #[] z.toArray),(5,iv j),(6,iv o),(16,iv o),(17,sL d ((Sy g j D.length (aK.mk 0 0 0 0))) f),(18,iv (g.length:Int)),(19,bV (decide (o<(g.length:Int)))),(36,sL d ((Sy g j D.length (aK.mk 0 0 0 0))) f),(37,iv j)]) (le:=[(0,ow d f 45 aX (Sy g j D.length (aK.mk 0 0 0 0)))]) (.cons (dM Z (by unfold sL;rw[q])) (.cons Z (.cons Z (.cons Z (.cons Z (.cons (dM Z (by unfold sL;rw[q])) (.cons Z (.cons Z (.cons (dM Z (by unfold sL;rw[q])) (.r Z)))))))))) (.r Z) (ae (aa (ai (aA Z (aA Z ?_)))))
   obtain⟨a4,K,H⟩:=bnd H
   refine aG Z (fun _ _ a c=>Jn uh (a.ev Z) E (a.ev Z) K) (Tr.k Z (ae (aa (bu ?_))))
   obtain rfl:=oI H
   exact GR 0 K Z (Tr.out (m:=[sL d a4 f]) [] (bM Z bL) (fun W hW=>⟨(d,f),Z,(FX E K),HF.wy leB (hW.pick (ks:=[0]) (by decide) (aH Z aY)) ⟨nQ _ _ _ _ lW,trivial⟩⟩))

theorem yY{w:Bs}(p0:aK)(p1:aK)(r:Int)(H:kg p0 p1=some r)(hE:HF w w.W E0):Calls Tryz.prog 107 [.agg #[iv p0.X0,iv p0.Y0,iv p0.X1,iv p0.Y1],.agg #[iv p1.X0,iv p1.Y0,iv p1.X1,iv p1.Y1]].toArray w.W fun e W'=>e= .returned (iv r)∧HF w W' E0:=by
 unfold kg at H
 have leB:=Bs.Le.refl w
 refine aZ (n:=10) Tryz.func107 Z Z Z hE (ai (fT 1 (cs:=[iv p0.X0,iv p0.Y0,iv p0.X1,iv p0.Y1]) (wn Z) Z Z Z fun b=>(fT 2 (cs:=[iv p1.X0,iv p1.Y0,iv p1.X1,iv p1.Y1]) (wn Z) Z Z Z fun d=>(Tr.k Z (ae (aa (ai (aQ (ag oW) Z (aG Z (fun _ _ a c=>ah bT (a.ev Z) (dB c (vs:=[iv p0.X0,iv p0.Y0,iv p0.X1,iv p0.Y1]) (k:=1) Z 0) Z) (aQ (ag oW) Z (aG Z (fun _ _ a c=>ah bT (a.ev Z) (dB c (vs:=[iv p1.X0,iv p1.Y0,iv p1.X1,iv p1.Y1]) (k:=2) Z 0) Z) (aC gu Z Z (Tr.k Z (ae (aa (bu ?_))))))))))))))))
 obtain rfl:=oI H
 exact fV leB

theorem Af{w:Bs}(p0:(List aK))(f:Option Addr)(g:Nat)(r:((List Int)×(List aK)))(H:ku p0=some r)(hE:HF w w.W (ig [ow f g 45 aX p0,emp])):Calls Tryz.prog 70 [sL f p0 g].toArray w.W fun e W'=>∃u:(Option Addr×Nat),e= .returned (sL u.1 r.1 u.2)∧(bZ u.1 r.1.length u.2∧r.2.length=p0.length)∧HF w W' (ig [ow f g 45 aX r.2,ow u.1 u.2 3 bP r.1]):=by
 unfold ku at H
 have S:=(hE.sl (k:=0) Z).form
 have leB:=Bs.Le.refl w
 refine aZ (n:=48) Tryz.func70 Z Z Z hE (ai (Tr.k Z (bO 1 3 bP ?_)))
 show Tr _ _ (uf _ 2 (sL none (([]:List Int)) 0)) _ _
 refine ae (aa (ai (aA Z ?_)))
 obtain⟨d,a8,H⟩:=bnd H
 refine gD [0] [ow f g 45 aX p0] (U:=Unit) (fun u=>(.tuple #[])) (fun u=>d.length=p0.length) (fun u=>[ow f g 45 aX d]) Z (aH Z aY) (fun _=>Z) (wn Z) Z Tryz.call63 (aj Z (aj Z aJ)) (fun W hW hp hE=>nU p0 f g (fun z0 z1=>kg z0 z1) 107 [] Tryz.call107 (fun w' he z0 z1 y hy=>yY z0 z1 y hy (HF.start _)) d a8 hE) ?_
 intro u hu
 have M:=hu
 have B:d.length=p0.length:=M --@phi
 have D:bZ f d.length g:=by rw[B];exact S
 have L:=B.trans Z
 show Tr _ _ (uf _ 8 (.tuple #[])) (up _ 0 (ow f g 45 aX d)) _
 refine Tr.vD (lf:=[(0,sL f d g),(2,sL none (([]:List Int)) 0),(7,sL f d g),(8,(.tuple #[]))]) (le:=[(0,ow f g 45 aX d),(1,ow none 0 3 bP ([]:List Int))]) (.cons (dM Z (by unfold sL;rw[B])) (.cons Z (.cons (dM Z (by unfold sL;rw[B])) (.r Z)))) (.r Z) (ae (aa (ai (Tr.k Z (bO 2 3 bP ?_)))))
 show Tr _ _ (uf _ 3 (sL none (([]:List Int)) 0)) _ _
 refine ae (aa (av (ai (aA Z (aQ (bD rM) Z (aA Z (ae (aa (Tr.block (cB (σ:=(List aK)×Nat×(List Int)×(Option Addr)×Nat) (fun m w s=>m=s.1.length+1∧s.1=List.drop s.2.1 d∧s.2.1≤d.length∧gY d s.1 s.2.1 s.2.2.1=some r∧bZ s.2.2.2.1 s.2.2.1.length s.2.2.2.2) (fun s=>[(3,sL s.2.2.2.1 s.2.2.1 s.2.2.2.2),(9,sL f d g),(10,iv (d.length:Int)),(11,iv (s.2.1:Int))]) (fun s=>[(0,ow f g 45 aX d),(2,ow s.2.2.2.1 s.2.2.2.2 3 bP s.2.2.1)]) (d.length+1) (d,0,([]:List Int),none,0) ⟨Z,Z,Nat.zero_le _,H,fQ⟩ (.r Z) (.r Z) (fun _ _ h=>absurd h.1 (by simp)) ?_))))))))))
 intro w N m s hs
 obtain⟨v,I,q,j,o⟩:=s
 obtain⟨O,A,b6,H,C⟩:=hs
 replace A:v=List.drop I d:=A
 replace H:gY d v I q=some r:=H
 replace O:m+1=v.length+1:=O
 replace leB:=leB.trans N
 replace C:bZ j q.length o:=C
 obtain rfl:m=v.length:=by omega
 clear O
 dsimp only
 cases v with
 |nil=>
  rw[gY.eq_1] at H
  refine ai (aC bv Z Z (ae (aa (av (eX Z (dY A) (cz (aD (aD (aU (aa (ai (aA Z (Tr.k Z (ae (aa (bu ?_))))))))))))))))
  obtain rfl:=oI H
  exact Tr.out (m:=[sL j q o]) [] (bM Z bL) (fun W hW=>⟨(j,o),Z,⟨C,L⟩,HF.wy leB (hW.pick (ks:=[0,2]) (by decide) (aH Z (aH Z aY))) ⟨nQ _ _ _ _ lW,nQ _ _ _ _ Fh,trivial⟩⟩)
 | cons b v=>
  rw[gY.eq_2] at H
  refine ai (aC bv Z Z (ae (aa (av (eO Z (fI A) (aO (aa (av (Tr.block (ai (aG Z (fun _ _ a c=>au uh (a.ev Z) D (a.ev Z) (Int.natCast_nonneg _) (bE A)) (aG Z (fun _ _ a c=>aN (cs:=[iv b.X0,iv b.Y0,iv b.X1,iv b.Y1]) qJ kG (a.ev Z) (aI.take (yF lY (k:=0) c Z (gq A)) 4) Z) (Tr.alloc 7 (wn Z) Z vz fun J=>(bC 7 (cs:=[iv b.X0,iv b.Y0,iv b.X1,iv b.Y1]) [iv b.X0,iv b.Y0,iv b.X1,iv b.Y1] (wn Z) Z Z Z Z kG Z Z Z (ae (aa (ai (aA Z (aQ (bD kF) Z (aC gu Z Z (Tr.k Z (ae (aa (av (jF (by kernel_rfl) (by kernel_rfl) (dG Z (fZ wZ Z Z (dG Z ?_))))))))))))))))))))))))))))
  obtain⟨T,E,H⟩:=bnd H
  refine sK 8 [(3,sL j q o),(5,pV J),(6,iv (bF ((q.length:Int)-1))),(9,sL f d g),(10,iv (d.length:Int)),(11,iv (I:Int)),(28,bV T)] ?_ ?_
  ·cases P:(decide (0≤(bF ((q.length:Int)-1))))
   ·rw[P] at E
    rw[if_neg (by decide)] at E
    have H:=E
    obtain rfl:=oI H
    exact di Z (di Z (di Z (di Z (di Z (di Z (di Z (fZ bH Z Z (Tq.fin (.r Z)))))))))
   ·rw[P] at E
    rw[if_pos Z] at E
    have H:=E
    refine kH (ag oW) Z (Tq.x (fun _ _ a c=>ah bT (a.ev Z) (dB c (vs:=[iv b.X0,iv b.Y0,iv b.X1,iv b.Y1]) (k:=7) Z 0) Z) (kH run_move Z (kH run_move Z ?_)))
    obtain⟨b7,a9,H⟩:=bnd H
    obtain⟨V,X,a'⟩:=aW a9
    refine Tq.x (fun _ _ a c=>au iX (a.ev Z) C (a.ev Z) V X) (Tq.x (fun _ _ a c=>ah bT (a.ev Z) (yF jm (k:=2) c Z a') Z) (uN pQ Z Z (fZ bG Z Z ?_)))
    obtain rfl:=oI H
    exact Tq.fin (.r Z)
  ·refine iC (aa (aP Z H (fun H=>?_) (fun H=>?_)))
   ·refine jN 9 (by kernel_rfl) (by kernel_rfl) (dG Z (dG Z (dG Z (dG Z ?_))))
    obtain⟨K,b0,H⟩:=bnd H
    obtain⟨a0,a1,a2⟩:=aW b0
    refine bg Z (fun _ _ a c=>au iX (a.ev Z) C (a.ev Z) a0 a1) (bg Z (fun _ _ a c=>ah bT (a.ev Z) (yF jm (k:=2) c Z a2) Z) (dZ (ag xh) Z (bg Z (fun _ _ a c=>ah bT (a.ev Z) (dB c (vs:=[iv b.X0,iv b.Y0,iv b.X1,iv b.Y1]) (k:=7) Z 2) Z) (bg Z (fun _ _ a c=>wY (a.ev Z) (a.ev Z) _) (iC ?_)))))
    obtain⟨b8,b1,H⟩:=bnd H
    obtain⟨a3,a4,a5⟩:=aW b1
    refine aG Z (fun _ _ a c=>au iX (a.ev Z) C (a.ev Z) a3 a4) ?_
    obtain⟨G,Q,H⟩:=bnd H
    have F:=lN Q
    refine ng 2 (t:=bP) (l:=q) (i:=(bF ((q.length:Int)-1))) (fo:=0) (cs:=[iv (max K b.X1)]) (max K b.X1) (wn Z) Z Z Z Z Z a5 wP Z (fun u _=>⟨u,trivial,Z⟩) Z Q ?_
    have a6:bZ j G.length o:=by rw[F];exact C
    exact Tr.vD (lf:=[(3,sL j G o),(5,pV J),(6,iv (bF ((q.length:Int)-1))),(9,sL f d g),(10,iv (d.length:Int)),(11,iv (I:Int)),(28,bV T),(29,sL j G o),(30,iv (bF ((q.length:Int)-1))),(31,sL j G o),(32,iv (bF ((q.length:Int)-1))),(34,iv K),(35,.pointer (some ⟨J,2,none⟩)),(36,iv b.X1),(37,iv (max K b.X1))]) (le:=[(0,ow f g 45 aX d),(2,ow j o 3 bP G),(7,bx J #[iv b.X0,iv b.Y0,iv b.X1,iv b.Y1] 45)]) (.cons (dM Z (by unfold sL;rw[F])) (.cons Z (.cons Z (.cons Z (.cons Z (.cons Z (.cons Z (.cons (dM Z (by unfold sL;rw[F])) (.cons Z (.cons (dM Z (by unfold sL;rw[F])) (.r Z))))))))))) (.r Z) (ae (aL (aa (aM (aC bz Z Z (aA Z (ae (aF N (v,(I+1),G,j,o) ⟨Z,dW A,bE A,H,a6⟩ (.cons Z (.cons Z (.cons Z (.cons (congrArg (fun z=>some (Value.int .i64 z)) (dV A D)) .nil)))) (.r Z)))))))))
   ·refine aM (aA Z (aQ (ag oW) Z (aG Z (fun _ _ a c=>ah bT (a.ev Z) (dB c (vs:=[iv b.X0,iv b.Y0,iv b.X1,iv b.Y1]) (k:=7) Z 0) Z) (aQ (ag xh) Z (aG Z (fun _ _ a c=>ah bT (a.ev Z) (dB c (vs:=[iv b.X0,iv b.Y0,iv b.X1,iv b.Y1]) (k:=7) Z 2) Z) (dS 8 (e:=3) (vs:=[(0,iv b.X0),(1,iv b.X1)]) (cs:=[iv b.X0,iv b.X1]) (wn Z) Z (bB Z (bB Z dH)) (by kernel_rfl) fun b9=>?_))))))
    obtain⟨b5,b2,H⟩:=bnd H
    exact Tr.append 2 (t:=bP) (l:=q) (l2:=[b.X0,b.X1]) (wn Z) Z Z Z Z (fun W hW=>⟨[[iv b.X0],[iv b.X1]],(.cons ⟨(),trivial,Z⟩ (.cons ⟨(),trivial,Z⟩ .nil)),dB hW (vs:=[iv b.X0,iv b.X1]) (k:=8) Z 0⟩) kF wP Mf (by decide) Np Z b2 fun b3 b4 a7=>(Tr.k Z (ae (aL (aa (aM (aC bz Z Z (aA Z (ae (aF N (v,(I+1),b5,b3,b4) ⟨Z,dW A,bE A,H,a7⟩ (.cons Z (.cons Z (.cons Z (.cons (congrArg (fun z=>some (Value.int .i64 z)) (dV A D)) .nil)))) (.r Z))))))))))

theorem zm{w:Bs}(p0:(List Int))(g:Option Addr)(i:Nat)(f:Sl w.R w.W bP g i p0)(p1:(List Int))(j:Option Addr)(l:Nat)(o:Sl w.R w.W bP j l p1)(r:Bool)(H:nV p0 p1=some r)(hE:HF w w.W E0):Calls Tryz.prog 106 [sL g p0 i,sL j p1 l].toArray w.W fun e W'=>e= .returned (bV r)∧HF w W' E0:=by
 unfold nV at H
 have leB:=Bs.Le.refl w
 refine aZ (n:=26) Tryz.func106 Z Z Z hE (ai (Tr.k Z (ae (aa (av (ai (aA Z (aQ (bD kF) Z (aA Z (aQ (bD kF) Z (aC iP Z Z (ae (aa (aP Z H (fun H=>?_) (fun H=>?_)))))))))))))))
 ·refine ai (Tr.k Z (ae (aa (bu (bn ?_)))))
  obtain rfl:=oI H
  exact fV leB
 ·refine aO (aa (av (ai (aA Z (aQ (bD kF) Z (aA Z (ae (aa (Tr.block (cB (σ:=(List Int)×Nat) (fun m w s=>m=s.1.length+1∧s.1=List.drop s.2 p0∧s.2≤p0.length∧il p1 s.1 s.2=some r) (fun s=>[(0,sL g p0 i),(1,sL j p1 l),(12,iv (p0.length:Int)),(13,iv (s.2:Int))]) (fun s=>[]) (p0.length+1) (p0,0) ⟨Z,Z,Nat.zero_le _,H⟩ (.r Z) .nil (fun _ _ h=>absurd h.1 (by simp)) ?_))))))))))
  intro w q m s hs
  obtain⟨b,u⟩:=s
  obtain⟨t,d,C,H⟩:=hs
  replace d:b=List.drop u p0:=d
  replace H:il p1 b u=some r:=H
  replace t:m+1=b.length+1:=t
  replace f:=f.oV q
  replace o:=o.oV q
  replace leB:=leB.trans q
  obtain rfl:m=b.length:=by omega
  clear t
  dsimp only
  cases b with
  |nil=>
   rw[il.eq_1] at H
   refine ai (aC bv Z Z (ae (aa (av (eX Z (dY d) (cz (aD (aD (aU (aa (ai (Tr.k Z (ae (aa (bu ?_)))))))))))))))
   obtain rfl:=oI H
   exact fV leB
  | cons E b=>
   rw[il.eq_2] at H
   refine ai (aC bv Z Z (ae (aa (av (eO Z (fI d) (aO (aa (av (Tr.block (ai (aA Z (Tr.k Z (ae (aa (av (jF (by kernel_rfl) (by kernel_rfl) (dG Z (dG Z (bg Z (fun _ _ a c=>au iX (a.ev Z) f.form (a.ev Z) (Int.natCast_nonneg _) (bE d)) (bg Z (fun _ _ a c=>ah bT (a.ev Z) (vB jm f (gq d) c) Z) (dG Z (dG Z ?_))))))))))))))))))))))
   obtain⟨D,B,H⟩:=bnd H
   obtain⟨v,y,A⟩:=aW B
   refine bg Z (fun _ _ a c=>au iX (a.ev Z) o.form (a.ev Z) v y) (bg Z (fun _ _ a c=>ah bT (a.ev Z) (vB jm o A c) Z) (fZ iP Z Z (iC (aa (aP Z H (fun H=>?_) (fun H=>?_))))))
   ·refine ai (Tr.k Z (ae (aa (bu (fD (bn (bn (fD (bn ?_)))))))))
    obtain rfl:=oI H
    exact fV leB
   ·exact aO (aL (aa (aM (aC bz Z Z (aA Z (ae (aF q (b,(u+1)) ⟨Z,dW d,bE d,H⟩ (.cons Z (.cons Z (.cons Z (.cons (congrArg (fun z=>some (Value.int .i64 z)) (dV d f.form)) .nil)))) .nil)))))))

theorem qV{w:Bs}(p0:(List bf))(f:Option Addr)(g:Nat)(p1:bf)(b:Option Addr)(d:Nat)(D:Sl w.O w.W bP b d p1.Xs)(r:(List bf))(H:gJ p0 p1=some r)(hE:HF w w.W (ig [ow f g 133 aT p0])):Calls Tryz.prog 69 [sL f p0 g,.agg #[iv p1.Y0,iv p1.Y1,sL b p1.Xs d]].toArray w.W fun e W'=>∃(w':Bs) (u:(Option Addr×Nat)),w.Le w'∧e= .returned (sL u.1 r u.2)∧(bZ u.1 r.length u.2)∧HF w' W' (ig [ow u.1 u.2 133 aT r]):=by
 unfold gJ at H
 have h:=(hE.sl (k:=0) Z).form
 have leB:=Bs.Le.refl w
 refine aZ (n:=54) Tryz.func69 Z Z Z hE (ai (fT 1 (cs:=[iv p1.Y0,iv p1.Y1,sL b p1.Xs d]) (wn Z) Z Z Z fun j=>(Tr.k Z (bO 2 133 aT ?_))))
 show Tr _ _ (uf _ 4 (sL none (([]:List bf)) 0)) _ _
 refine ae (aa (av (ai (aQ (ag jU) Z (aG Z (fun _ _ a c=>ah lc (a.ev Z) (dB c (vs:=[iv p1.Y0,iv p1.Y1,sL b p1.Xs d]) (k:=1) Z 2) Z) (aQ (bD kF) Z (aC eU Z Z (aA Z (eD 6 [(0,sL f p0 g),(3,pV j),(16,bV (((p1.Xs.length:Int)==0)||(decide (p1.Y1≤p1.Y0))))] [(0,ow f g 133 aT p0),(1,bx j #[iv p1.Y0,iv p1.Y1,sL b p1.Xs d] 133),(2,ow none 0 133 aT ([]:List bf))] ?_ ?_)))))))))
 ·cases q:((p1.Xs.length:Int)==0)
  ·exact dN (ag nC) Z (Tr.x (fun _ _ a c=>ah bT (a.ev Z) (dB c (vs:=[iv p1.Y0,iv p1.Y1,sL b p1.Xs d]) (k:=1) Z 1) Z) (dN (ag oz) Z (Tr.x (fun _ _ a c=>ah bT (a.ev Z) (dB c (vs:=[iv p1.Y0,iv p1.Y1,sL b p1.Xs d]) (k:=1) Z 0) Z) (jM pQ Z Z (aC bH Z Z (ae (bA (.r Z) (.r Z))))))))
  ·exact bq Z (bq Z (bq Z (bq Z (bq Z (aC bG Z Z (ae (bA (.r Z) (.r Z))))))))
 ·show Tr _ _ (LF [(0,sL f p0 g),(3,pV j),(16,bV (((p1.Xs.length:Int)==0)||(decide (p1.Y1≤p1.Y0))))]) (LE [(0,ow f g 133 aT p0),(1,bx j #[iv p1.Y0,iv p1.Y1,sL b p1.Xs d] 133),(2,ow none 0 133 aT ([]:List bf))]) _
  refine ae (aa (aP Z H (fun H=>?_) (fun H=>?_)))
  ·refine ai (aA Z (Tr.k Z (ae (aa (bu (bn ?_))))))
   obtain rfl:=oI H
   exact Tr.out (m:=[sL f p0 g]) [] (bM Z bL) (fun W hW=>⟨w,(f,g),leB,Z,h,hW.pick (ks:=[0]) (by decide) (aH Z aY)⟩)
  ·refine aO (aa (av (ai (aA Z (aQ (bD ug) Z (aC gu Z Z (Tr.k Z (ae (aa (av (jF (by kernel_rfl) (by kernel_rfl) (dG Z (fZ wZ Z Z (dG Z ?_))))))))))))))
   obtain⟨J,s,H⟩:=bnd H
   refine sK 9 [(0,sL f p0 g),(3,pV j),(5,iv (bF ((p0.length:Int)-1))),(32,bV J)] ?_ ?_
   ·cases q:(decide (0≤(bF ((p0.length:Int)-1))))
    ·rw[q] at s
     rw[if_neg (by decide)] at s
     have H:=s
     obtain rfl:=oI H
     exact di Z (di Z (di Z (di Z (di Z (di Z (di Z (di Z (fZ bH Z Z (Tq.fin (.r Z))))))))))
    ·rw[q] at s
     rw[if_pos Z] at s
     have H:=s
     refine kH run_move Z (kH run_move Z ?_)
     obtain⟨b2,a4,H⟩:=bnd H
     obtain⟨K,L,M⟩:=aW a4
     refine Tq.x (fun _ _ a c=>au pM (a.ev Z) h (a.ev Z) K L) (kH (ag nC) Z (Tq.x (fun _ _ a c=>(HF.YB (k:=0) c Z M).elim fun u hu=>ah bT (a.ev Z) (hu.2.drop 1) Z) (kH (ag oz) Z (Tq.x (fun _ _ a c=>ah bT (a.ev Z) (dB c (vs:=[iv p1.Y0,iv p1.Y1,sL b p1.Xs d]) (k:=1) Z 0) Z) (uN eU Z Z (fZ bG Z Z ?_))))))
     obtain rfl:=oI H
     exact Tq.fin (.r Z)
   ·refine dG Z ?_
    obtain⟨N,v,H⟩:=bnd H
    refine sK 9 [(0,sL f p0 g),(3,pV j),(5,iv (bF ((p0.length:Int)-1))),(42,bV N)] ?_ ?_
    ·cases q:J
     ·rw[q] at v
      rw[if_neg (by decide)] at v
      have H:=v
      obtain rfl:=oI H
      exact di Z (di Z (di Z (di Z (di Z (di Z (di Z (di Z (fZ bH Z Z (Tq.fin (.r Z))))))))))
     ·rw[q] at v
      rw[if_pos Z] at v
      have H:=v
      refine kH run_move Z (kH run_move Z ?_)
      obtain⟨z,a5,H⟩:=bnd H
      obtain⟨P,Q,S⟩:=aW a5
      refine Tq.x (fun _ _ a c=>au pM (a.ev Z) h (a.ev Z) P Q) (kH (ag jU) Z (vK (U:=(aT).Ad) (fun u=>(aT).ok w.O w.W u z) (fun u=>(sL u.1 z.Xs u.2)) (wg Z Z Z) Z (Iy (κ:=0) (t:=aT) (V:=fun u=>(sL u.1 z.Xs u.2)) Z S (fun _ _ u a hc=>ah lc (a.ev Z) (hc.drop 2) Z)) ?_))
      intro a9 I
      obtain⟨A,B⟩:=a9
      have o:=I
      replace o:Sl w.O w.W bP A B z.Xs:=o
      dsimp only
      refine kH (ag jU) Z (Tq.x (fun _ _ a c=>ah lc (a.ev Z) (dB c (vs:=[iv p1.Y0,iv p1.Y1,sL b p1.Xs d]) (k:=1) Z 2) Z) ?_)
      obtain⟨T,a6,H⟩:=bnd H
      refine nT (r:=(bV T)) (wg Z Z Z) Z Tryz.call106 (aj Z (aj Z aJ)) (fun W hW=>zm z.Xs A B (o.rl.ext hW.dz) p1.Xs b d (D.rl.ext hW.dz) T a6 (HF.start _)) (fZ bG Z Z ?_)
      obtain rfl:=oI H
      exact Tq.fin (.r Z)
    ·refine iC (aa (aP Z H (fun H=>?_) (fun H=>?_)))
     ·refine ai (aA Z (aA Z (aQ (ag nC) Z (aG Z (fun _ _ a c=>ah bT (a.ev Z) (dB c (vs:=[iv p1.Y0,iv p1.Y1,sL b p1.Xs d]) (k:=1) Z 1) Z) ?_))))
      obtain⟨X,a7,H⟩:=bnd H
      obtain⟨a',a0,a1⟩:=aW a7
      refine aG Z (fun _ _ a c=>au pM (a.ev Z) h (a.ev Z) a' a0) (aQ (ag nC) Z ?_)
      obtain⟨C,E,H⟩:=bnd H
      have y:=lN E
      refine ng 0 (t:=aT) (l:=p0) (i:=(bF ((p0.length:Int)-1))) (fo:=1) (cs:=[iv p1.Y1]) (bf.mk X.Y0 p1.Y1 X.Xs) (wn Z) Z Z Z Z Z a1 wP Z (fun u hu=>⟨u,hu,Z⟩) Z E ?_
      have a2:bZ f C.length g:=by rw[y];exact h
      have b1:=y.trans Z
      refine Tr.vD (lf:=[(0,sL f C g),(3,pV j),(5,iv (bF ((p0.length:Int)-1))),(42,bV N),(43,sL f C g),(44,iv (bF ((p0.length:Int)-1))),(45,.pointer (some ⟨j,1,none⟩)),(46,iv p1.Y1)]) (le:=[(0,ow f g 133 aT C),(1,bx j #[iv p1.Y0,iv p1.Y1,sL b p1.Xs d] 133),(2,ow none 0 133 aT ([]:List bf))]) (.cons (dM Z (by unfold sL;rw[y])) (.cons Z (.cons Z (.cons Z (.cons (dM Z (by unfold sL;rw[y])) (.r Z)))))) (.r Z) (ae (aa (ai (aA Z (Tr.k Z (ae (aa (bu (bn ?_)))))))))
      obtain rfl:=oI H
      exact Tr.out (m:=[sL f C g]) [] (bM Z bL) (fun W hW=>⟨w,(f,g),leB,Z,a2,hW.pick (ks:=[0]) (by decide) (aH Z aY)⟩)
     ·refine aO (aa (ai (aA Z (aG Z (fun _ _ a c=>aN (cs:=[iv p1.Y0,iv p1.Y1,sL b p1.Xs d]) GQ xC (a.ev Z) (aI.take (dB c (vs:=[iv p1.Y0,iv p1.Y1,sL b p1.Xs d]) (k:=1) Z 0) 3) Z) (dS 3 (e:=133) (vs:=[(0,.agg #[iv p1.Y0,iv p1.Y1,sL b p1.Xs d])]) (cs:=[iv p1.Y0,iv p1.Y1,sL b p1.Xs d]) (wn Z) Z (bB Z dH) (by kernel_rfl) fun b3=>?_)))))
      obtain⟨b0,a8,H⟩:=bnd H
      refine Tr.append 0 (t:=aT) (l:=p0) (l2:=[p1]) (wn Z) Z Z Z Z (fun W hW=>⟨[[iv p1.Y0,iv p1.Y1,sL b p1.Xs d]],(.cons ⟨(b,d),D,Z⟩ .nil),dB hW (vs:=[iv p1.Y0,iv p1.Y1,sL b p1.Xs d]) (k:=3) Z 0⟩) ug xC VJ (by decide) W9 Z a8 fun F G a3=>(Tr.k Z (ae (aa (bu ?_))))
      obtain rfl:=oI H
      exact Tr.out (m:=[sL F b0 G]) [] (bM Z bL) (fun W hW=>⟨w,(F,G),leB,Z,a3,hW.pick (ks:=[0]) (by decide) (aH Z aY)⟩)

theorem ru(N:Nat){w:Bs}(p0:(List aK))(b8:Option Addr)(b9:Nat)(h3:Sl w.R w.W aX b8 b9 p0)(r:(List bf))(H:jP N p0=some r)(hE:HF w w.W (ig [emp])):Calls Tryz.prog 29 [sL b8 p0 b9].toArray w.W fun e W'=>∃(w':Bs) (u:(Option Addr×Nat)),w.Le w'∧e= .returned (sL u.1 r u.2)∧(bZ u.1 r.length u.2)∧HF w' W' (ig [ow u.1 u.2 133 aT r]):=by
 unfold jP at H
 have leB:=Bs.Le.refl w
 refine aZ (n:=83) Tryz.func29 Z Z Z hE (ai (Tr.k Z (bO 1 133 aT ?_)))
 show Tr _ _ (uf _ 2 (sL none (([]:List bf)) 0)) _ _
 refine ae (aa (ai (aA Z ?_)))
 obtain⟨V,h4,H⟩:=bnd H
 refine gD [2] [emp] (U:=(Option Addr×Nat)) (fun u=>(sL u.1 V u.2)) (fun u=>bZ u.1 V.length u.2) (fun u=>[ow u.1 u.2 45 aX V]) Z (aH Z aY) (fun _=>Z) (wn Z) Z Tryz.call62 (aj Z aJ) (fun W hW hp hE=>yX p0 b8 b9 (h3.ext (hW.gL hp)) V h4 hE) ?_
 intro u hu
 obtain⟨d,f⟩:=u
 have e6:=hu
 have d3:bZ d V.length f:=e6 --@phi
 dsimp only
 refine Tr.k Z (ae (aa (ai (aA Z ?_))))
 obtain⟨j,h5,H⟩:=bnd H
 refine gD [2] [ow d f 45 aX V] (U:=Unit) (fun u=>(.tuple #[])) (fun u=>j.length=V.length) (fun u=>[ow d f 45 aX j]) Z (aH Z aY) (fun _=>Z) (wn Z) Z Tryz.call63 (aj Z (aj Z aJ)) (fun W hW hp hE=>nU V d f (fun z0 z1=>nu z0 z1) 64 [] Tryz.call64 (fun w' he z0 z1 y hy=>BQ z0 z1 y hy (HF.start _)) j h5 hE) ?_
 intro u hu
 have d4:=hu
 have a0:j.length=V.length:=d4 --@phi
 have a1:bZ d j.length f:=by rw[a0];exact d3
 show Tr _ _ (uf _ 13 (.tuple #[])) (up _ 2 (ow d f 45 aX j)) _
 refine Tr.vD (lf:=[(0,sL d j f),(2,sL none (([]:List bf)) 0),(10,sL b8 p0 b9),(11,sL d j f),(12,sL d j f),(13,(.tuple #[]))]) (le:=[(1,ow none 0 133 aT ([]:List bf)),(2,ow d f 45 aX j)]) (.cons (dM Z (by unfold sL;rw[a0])) (.cons Z (.cons Z (.cons (dM Z (by unfold sL;rw[a0])) (.cons (dM Z (by unfold sL;rw[a0])) (.r Z)))))) (.r Z) (ae (aa (ai (Tr.alloc 3 (wn Z) Z VP fun C=>(ae (aa (av (ai (aA Z (aQ (bD rM) Z (aA Z (ae (aa (Tr.block (bO 12 3 bP (cB (σ:=(List aK)×Nat×(List Int)×(Option Addr)×Nat) (fun m w s=>m=s.1.length+1∧s.1=List.drop s.2.1 j∧s.2.1≤j.length∧iZ N j s.1 s.2.1 s.2.2.1=some r∧bZ s.2.2.2.1 s.2.2.1.length s.2.2.2.2) (fun s=>[(0,sL d j f),(3,pV C),(14,sL d j f),(15,iv (j.length:Int)),(16,iv (s.2.1:Int))]) (fun s=>[(2,ow d f 45 aX j),(3,bx C #[sL s.2.2.2.1 s.2.2.1 s.2.2.2.2] 118),(12,ow s.2.2.2.1 s.2.2.2.2 3 bP s.2.2.1)]) (j.length+1) (j,0,([]:List Int),none,0) ⟨Z,Z,Nat.zero_le _,H,fQ⟩ (.r Z) (.r Z) (fun _ _ h=>absurd h.1 (by simp)) ?_))))))))))))))))
 intro w f2 m s hs
 obtain⟨X,c5,a',F,G⟩:=s
 obtain⟨d5,a2,k1,H,c6⟩:=hs
 replace a2:X=List.drop c5 j:=a2
 replace H:iZ N j X c5 a'=some r:=H
 replace d5:m+1=X.length+1:=d5
 replace leB:=leB.trans f2
 replace c6:bZ F a'.length G:=c6
 obtain rfl:m=X.length:=by omega
 clear d5
 dsimp only
 cases X with
 | nil=>
  rw[iZ.eq_1] at H
  refine ai (aC bv Z Z (ae (aa (av (eX Z (dY a2) (cz (aD (aD (aU (aa (ai (aG Z (fun _ _ a c=>ah lc (a.ev Z) (dB c (vs:=[sL F a' G]) (k:=3) Z 0) Z) ?_))))))))))))
  obtain⟨T,h6,H⟩:=bnd H
  refine gD [12] [ow F G 3 bP a'] (U:=Unit) (fun u=>(.tuple #[])) (fun u=>T.length=a'.length) (fun u=>[ow F G 3 bP T]) Z (aH Z aY) (fun _=>Z) (wn Z) Z Tryz.call65 (aj Z aJ) (fun W hW hp hE=>uQ a' F G T h6 hE) ?_
  intro u hu
  have d6:=hu
  have a3:T.length=a'.length:=d6 --@phi
  have j1:bZ F T.length G:=by rw[a3];exact c6
  show Tr _ _ (uf _ 29 (.tuple #[])) (up _ 12 (ow F G 3 bP T)) _
  refine Tr.vD (lf:=[(0,sL d j f),(3,pV C),(14,sL d j f),(15,iv (j.length:Int)),(16,iv (c5:Int)),(17,bV (decide ((c5:Int)<(j.length:Int)))),(28,sL F T G),(29,(.tuple #[]))]) (le:=[(2,ow d f 45 aX j),(3,bx C #[sL F T G] 118),(12,ow F G 3 bP T)]) (.cons Z (.cons Z (.cons Z (.cons Z (.cons Z (.cons Z (.cons (dM Z (by unfold sL;rw[a3])) (.r Z)))))))) (.cons Z (.cons (Xr Z (by unfold sL;rw[a3])) (.r Z))) (ae (aa (ai (aG Z (fun _ _ a c=>ah lc (a.ev Z) (dB c (vs:=[sL F T G]) (k:=3) Z 0) Z) ?_))))
  obtain⟨o,h7,H⟩:=bnd H
  refine gD [12] [ow F G 3 bP T] (U:=(Option Addr×Nat)) (fun u=>(sL u.1 o u.2)) (fun u=>bZ u.1 o.length u.2) (fun u=>[ow u.1 u.2 3 bP o]) Z (aH Z aY) (fun _=>Z) (wn Z) Z Tryz.call66 (aj Z aJ) (fun W hW hp hE=>sU T F G o h7 hE) ?_
  intro u hu
  obtain⟨g,i⟩:=u
  have e7:=hu
  have b4:bZ g o.length i:=e7 --@phi
  dsimp only
  refine bC 3 (cs:=[sL g o i]) [sL g o i] (wn Z) Z Z Z Z QX Z Z Z (ae (aa (ai (Tr.k Z (bO 13 133 aT ?_)))))
  show Tr _ _ (uf _ 6 (sL none (([]:List bf)) 0)) _ _
  refine ae (aa (ai (Tr.k Z (bO 14 45 aX ?_))))
  show Tr _ _ (uf _ 7 (sL none (([]:List aK)) 0)) _ _
  refine ae (aa (ai (Tr.k Z (ae (aa (av (ai (Tr.alloc 15 (wn Z) Z Xz fun j2=>(bC 15 (cs:=[iv 0]) [iv 0] (wn Z) Z Z Z Z wP Z Z Z (ae (aa (Tr.block (DX 15 29 Z Z Z (cB (σ:=Int×(List bf)×(List aK)×Int×Nat×(Option Addr)×Nat×(Option Addr)×Nat) (fun m w s=>eF N j o m s.1 s.2.1 s.2.2.1 s.2.2.2.1=some r∧bZ s.2.2.2.2.2.1 s.2.1.length s.2.2.2.2.2.2.1∧bZ s.2.2.2.2.2.2.2.1 s.2.2.1.length s.2.2.2.2.2.2.2.2) (fun s=>[(0,sL d j f),(3,pV C),(6,sL s.2.2.2.2.2.1 s.2.1 s.2.2.2.2.2.2.1),(7,sL s.2.2.2.2.2.2.2.1 s.2.2.1 s.2.2.2.2.2.2.2.2),(8,iv s.2.2.2.1),(9,.pointer (some ⟨s.2.2.2.2.1,0,none⟩))]) (fun s=>[(2,ow d f 45 aX j),(3,bx C #[sL g o i] 118),(12,ow g i 3 bP o),(13,ow s.2.2.2.2.2.1 s.2.2.2.2.2.2.1 133 aT s.2.1),(14,ow s.2.2.2.2.2.2.2.1 s.2.2.2.2.2.2.2.2 45 aX s.2.2.1),(29,bx s.2.2.2.2.1 #[iv s.1] 3)]) N (0,([]:List bf),([]:List aK),0,j2,none,0,none,0) ⟨H,fQ,fQ⟩ (.r Z) (.r Z) (fun _ _ h=>jZ (h.1)) ?_))))))))))))))
  intro w a4 f3 s hs
  obtain⟨q,M,c4,d7,L,I,J,c0,c3⟩:=s
  obtain⟨H,c7,k0⟩:=hs
  replace H:eF N j o (f3+1) q M c4 d7=some r:=H
  replace leB:=leB.trans a4
  replace c7:bZ I M.length J:=c7
  rw[eF.eq_2] at H
  dsimp only
  refine av (ai (aG Z (fun _ _ a c=>ah bT (a.ev Z) (dB c (vs:=[iv q]) (k:=29) Z 0) Z) (aC bz Z Z (aG Z (fun _ _ a c=>ah lc (a.ev Z) (dB c (vs:=[sL g o i]) (k:=3) Z 0) Z) (aQ (bD kF) Z (aC bv Z Z (ae (aa (aP Z H (fun H=>?_) (fun H=>?_))))))))))
  ·refine aO (aa (av (Tr.block (ai (aA Z (sS (vs:=[pV C,pV L]) (wn Z) Z (aj Z (aj Z aJ)) ?_))))))
   obtain⟨a5,h8,H⟩:=bnd H
   refine gD [14] [ow c0 c3 45 aX c4] (U:=(Option Addr×Nat)) (fun u=>(sL u.1 a5 u.2)) (fun u=>bZ u.1 a5.length u.2) (fun u=>[ow u.1 u.2 45 aX a5]) Z (aH Z aY) (fun _=>Z) (wn Z) Z Tryz.call67 (aj Z (aj Z aJ)) (fun W hW hp hE=>vO N c4 c0 c3 (fun z0=>nk z0 o q) 68 [pV C,pV L] Tryz.call68 (fun w' he z0 y hy=>BP z0 o g i ((hW.Ms (k:=12) Z hp Z).ext he) C (he.r _ (hW.Hm (k:=3) Z hp Z)) (he.cells (hW.Hm (k:=3) Z hp Z) (hW.Nq (k:=3) Z)) q L (he.r _ (hW.Hm (k:=29) Z hp Z)) (he.cells (hW.Hm (k:=29) Z hp Z) (hW.Nq (k:=29) Z)) y hy (HF.start _)) a5 h8 hE) ?_
   intro u hu
   obtain⟨a8,a9⟩:=u
   have e8:=hu
   have d8:bZ a8 a5.length a9:=e8 --@phi
   dsimp only
   refine Tr.k Z (ae (aa (av (Tr.block (cB (σ:=(List aK)×Int×(Option Addr)×Nat) (fun m w s=>iB j o q M (eF N j o f3) m s.1 s.2.1=some r∧bZ s.2.2.1 s.1.length s.2.2.2) (fun s=>[(0,sL d j f),(3,pV C),(6,sL I M J),(7,sL s.2.2.1 s.1 s.2.2.2),(8,iv s.2.1),(9,pV L)]) (fun s=>[(2,ow d f 45 aX j),(3,bx C #[sL g o i] 118),(12,ow g i 3 bP o),(13,ow I J 133 aT M),(14,ow s.2.2.1 s.2.2.2 45 aX s.1),(29,bx L #[iv q] 3)]) N (a5,d7,a8,a9) ⟨H,d8⟩ (.r Z) (.r Z) (fun _ _ h=>jZ (h.1)) ?_)))))
   intro w f4 j8 s hs
   obtain⟨K,b5,v,A⟩:=s
   obtain⟨H,c8⟩:=hs
   replace H:iB j o q M (eF N j o f3) (j8+1) K b5=some r:=H
   replace a4:=a4.trans f4
   replace c8:bZ v K.length A:=c8
   rw[iB.eq_2] at H
   dsimp only
   refine av (av (jF (by kernel_rfl) (by kernel_rfl) (dG Z (dG Z (dZ (bD rM) Z (fZ bv Z Z (dG Z ?_)))))))
   obtain⟨f5,b0,H⟩:=bnd H
   refine sK 11 [(0,sL d j f),(3,pV C),(6,sL I M J),(7,sL v K A),(8,iv b5),(9,pV L),(57,bV f5)] ?_ ?_
   ·cases e4:(decide (b5<(j.length:Int)))
    ·rw[e4] at b0
     rw[if_neg (by decide)] at b0
     have H:=b0
     obtain rfl:=oI H
     exact di Z (di Z (di Z (di Z (di Z (di Z (di Z (di Z (di Z (di Z (fZ bH Z Z (Tq.fin (.r Z))))))))))))
    ·rw[e4] at b0
     rw[if_pos Z] at b0
     have H:=b0
     refine kH run_move Z (kH run_move Z ?_)
     obtain⟨k2,h9,H⟩:=bnd H
     obtain⟨f6,f7,f8⟩:=aW h9
     refine Tq.x (fun _ _ a c=>au uh (a.ev Z) a1 (a.ev Z) f6 f7) (kH (ag rq) Z (Tq.x (fun _ _ a c=>ah bT (a.ev Z) (aI.drop (yF lY (k:=2) c Z f8) 1) Z) (Tq.x (fun _ _ a c=>ah lc (a.ev Z) (dB c (vs:=[sL g o i]) (k:=3) Z 0) Z) (Tq.x (fun _ _ a c=>ah bT (a.ev Z) (dB c (vs:=[iv q]) (k:=29) Z 0) Z) ?_))))
     obtain⟨k3,i0,H⟩:=bnd H
     obtain⟨f9,g0,g1⟩:=aW i0
     refine Tq.x (fun _ _ a c=>au iX (a.ev Z) b4 (a.ev Z) f9 g0) (Tq.x (fun _ _ a c=>ah bT (a.ev Z) (yF jm (k:=12) c Z g1) Z) (uN pQ Z Z (fZ bG Z Z ?_)))
     obtain rfl:=oI H
     exact Tq.fin (.r Z)
   ·refine iC (aa (aP Z H (fun H=>?_) (fun H=>?_)))
    ·refine aO (aa (Tr.block (aM (aA Z (aA Z (aA Z ?_))))))
     obtain⟨E,i1,H⟩:=bnd H
     obtain⟨g2,g3,g4⟩:=aW i1
     refine aG Z (fun _ _ a c=>au uh (a.ev Z) a1 (a.ev Z) g2 g3) (aG Z (fun _ _ a c=>aN (cs:=[iv E.X0,iv E.Y0,iv E.X1,iv E.Y1]) qJ kG (a.ev Z) (aI.take (yF lY (k:=2) c Z g4) 4) Z) (dS 32 (e:=45) (vs:=[(0,.agg #[iv E.X0,iv E.Y0,iv E.X1,iv E.Y1])]) (cs:=[iv E.X0,iv E.Y0,iv E.X1,iv E.Y1]) (wn Z) Z (bB Z dH) (by kernel_rfl) fun k4=>?_))
     obtain⟨j3,i2,H⟩:=bnd H
     exact Tr.append 14 (t:=aX) (l:=K) (l2:=[E]) (wn Z) Z Z Z Z (fun W hW=>⟨[[iv E.X0,iv E.Y0,iv E.X1,iv E.Y1]],(.cons ⟨(),trivial,Z⟩ .nil),dB hW (vs:=[iv E.X0,iv E.Y0,iv E.X1,iv E.Y1]) (k:=32) Z 0⟩) rM kG NQ (by decide) Pw Z i2 fun i3 i4 g5=>(aA Z (aC bz Z Z (Tr.k Z (Tr.k Z (ae (aL (aF f4 (j3,(bF (b5+1)),i3,i4) ⟨H,g5⟩ (.r Z) (.r Z))))))))
    ·refine cz (aD (aD (aU (aa (rU 13 [(11,(ow v A 45 aX K).S)] [] (by kernel_rfl) (by kernel_rfl) fun b1 j4 j7=>(dI 0 (by kernel_rfl) Z (wn Z) Z (by kernel_rfl) (fun _ _ a=>run_move (a.ev Z)) Z (pG 1 [(68,sL g o i)] [11] false (by kernel_rfl) Z Z (by kernel_rfl) (fun W W' c hsW hk=>HF.Bg (le:=[(3,bx C #[sL g o i] 118)]) (ks:=[(14,(ow v A 45 aX K).S)]) (s0:=b1) false c hk (fun h=>absurd h (by decide)) (.r Z) (fun b hb=>hb.elim (fun⟨p,hp,hf,hb⟩=>by simp only[List.mem_cons,List.not_mem_nil,or_false] at hp;rcases hp with rfl;exact .inl ⟨_,List.mem_cons_self,hb⟩) (fun hb=>absurd hb.1 (by decide))) (List.forall_mem_cons.2 ⟨fun b hb=>hb,(fun _ h=>nomatch h)⟩) rfl) ?_ rfl rfl ?_)))))))
     ·exact bg Z (fun _ _ a c=>ah lc (a.ev Z) (dB c (vs:=[sL g o i]) (k:=3) Z 0) Z) (Tq.fin (.r Z))
     refine pG 2 [(69,iv q)] [11] false (by kernel_rfl) Z Z (by kernel_rfl) (fun W W' c hsW hk=>HF.Bg (le:=[(29,bx L #[iv q] 3)]) (ks:=[(14,(ow v A 45 aX K).S)]) (s0:=b1) false c hk (fun h=>absurd h (by decide)) (.r Z) (fun b hb=>hb.elim (fun⟨p,hp,hf,hb⟩=>by simp only[List.mem_cons,List.not_mem_nil,or_false] at hp;rcases hp with rfl;exact .inl ⟨_,List.mem_cons_self,hb⟩) (fun hb=>absurd hb.1 (by decide))) (List.forall_mem_cons.2 ⟨fun b hb=>hb,(fun _ h=>nomatch h)⟩) rfl) ?_ rfl rfl ?_
     ·exact bg Z (fun _ _ a c=>ah bT (a.ev Z) (dB c (vs:=[iv q]) (k:=29) Z 0) Z) (Tq.fin (.r Z))
     obtain⟨b6,i5,H⟩:=bnd H
     obtain⟨g6,g7,g8⟩:=aW i5
     refine dI 3 (by kernel_rfl) Z (wn Z) Z (by kernel_rfl) (fun _ _ a=>au iX (a.ev Z) b4 (a.ev Z) g6 g7) Z (pG 4 [(71,iv b6)] [11] false (by kernel_rfl) Z Z (by kernel_rfl) (fun W W' c hsW hk=>HF.Bg (le:=[(12,ow g i 3 bP o)]) (ks:=[(14,(ow v A 45 aX K).S)]) (s0:=b1) false c hk (fun h=>absurd h (by decide)) (.r Z) (fun b hb=>hb.elim (fun⟨p,hp,hf,hb⟩=>by simp only[List.mem_cons,List.not_mem_nil,or_false] at hp;rcases hp with rfl;exact .inl ⟨_,List.mem_cons_self,hb⟩) (fun hb=>absurd hb.1 (by decide))) (List.forall_mem_cons.2 ⟨fun b hb=>hb,(fun _ h=>nomatch h)⟩) rfl) ?_ rfl rfl ?_)
     ·exact bg Z (fun _ _ a c=>ah bT (a.ev Z) (yF jm (k:=12) c Z g8) Z) (Tq.fin (.r Z))
     refine pG 5 [(72,sL g o i)] [11] false (by kernel_rfl) Z Z (by kernel_rfl) (fun W W' c hsW hk=>HF.Bg (le:=[(3,bx C #[sL g o i] 118)]) (ks:=[(14,(ow v A 45 aX K).S)]) (s0:=b1) false c hk (fun h=>absurd h (by decide)) (.r Z) (fun b hb=>hb.elim (fun⟨p,hp,hf,hb⟩=>by simp only[List.mem_cons,List.not_mem_nil,or_false] at hp;rcases hp with rfl;exact .inl ⟨_,List.mem_cons_self,hb⟩) (fun hb=>absurd hb.1 (by decide))) (List.forall_mem_cons.2 ⟨fun b hb=>hb,(fun _ h=>nomatch h)⟩) rfl) ?_ rfl rfl ?_
     ·exact bg Z (fun _ _ a c=>ah lc (a.ev Z) (dB c (vs:=[sL g o i]) (k:=3) Z 0) Z) (Tq.fin (.r Z))
     refine pG 6 [(73,iv q)] [11] false (by kernel_rfl) Z Z (by kernel_rfl) (fun W W' c hsW hk=>HF.Bg (le:=[(29,bx L #[iv q] 3)]) (ks:=[(14,(ow v A 45 aX K).S)]) (s0:=b1) false c hk (fun h=>absurd h (by decide)) (.r Z) (fun b hb=>hb.elim (fun⟨p,hp,hf,hb⟩=>by simp only[List.mem_cons,List.not_mem_nil,or_false] at hp;rcases hp with rfl;exact .inl ⟨_,List.mem_cons_self,hb⟩) (fun hb=>absurd hb.1 (by decide))) (List.forall_mem_cons.2 ⟨fun b hb=>hb,(fun _ h=>nomatch h)⟩) rfl) ?_ rfl rfl ?_
     ·exact bg Z (fun _ _ a c=>ah bT (a.ev Z) (dB c (vs:=[iv q]) (k:=29) Z 0) Z) (Tq.fin (.r Z))
     refine dI 7 (by kernel_rfl) Z (wn Z) Z (by kernel_rfl) (fun _ _ a=>bz (a.ev Z) (a.ev Z)) Z ?_
     obtain⟨b7,i6,H⟩:=bnd H
     obtain⟨g9,h0,h1⟩:=aW i6
     refine dI 8 (by kernel_rfl) Z (wn Z) Z (by kernel_rfl) (fun _ _ a=>au iX (a.ev Z) b4 (a.ev Z) g9 h0) Z (pG 9 [(76,iv b7)] [11] false (by kernel_rfl) Z Z (by kernel_rfl) (fun W W' c hsW hk=>HF.Bg (le:=[(12,ow g i 3 bP o)]) (ks:=[(14,(ow v A 45 aX K).S)]) (s0:=b1) false c hk (fun h=>absurd h (by decide)) (.r Z) (fun b hb=>hb.elim (fun⟨p,hp,hf,hb⟩=>by simp only[List.mem_cons,List.not_mem_nil,or_false] at hp;rcases hp with rfl;exact .inl ⟨_,List.mem_cons_self,hb⟩) (fun hb=>absurd hb.1 (by decide))) (List.forall_mem_cons.2 ⟨fun b hb=>hb,(fun _ h=>nomatch h)⟩) rfl) ?_ rfl rfl ?_)
     ·exact bg Z (fun _ _ a c=>ah bT (a.ev Z) (yF jm (k:=12) c Z h1) Z) (Tq.fin (.r Z))
     refine bY 10 [(77,sL v K A)] (by kernel_rfl) Z Z (by kernel_rfl) ?_ Z Z ?_
     ·exact dG Z (Tq.fin (.r Z))
     obtain⟨D,i7,H⟩:=bnd H
     refine Dr.one 11 (by kernel_rfl) (Ty 11 [14,33] [ow v A 45 aX K,emp] (U:=(Option Addr×Nat)) (fun u=>(sL u.1 D.1 u.2)) (fun u=>bZ u.1 D.1.length u.2∧D.2.length=K.length) (fun u=>[ow v A 45 aX D.2,ow u.1 u.2 3 bP D.1]) Z (aH Z (aH Z aY)) (fun _=>Z) (fun b ⟨e,he,hS⟩=>by simp only[List.mem_cons,List.not_mem_nil,or_false] at he;rcases he with rfl|rfl;exact .inl ⟨_,List.mem_cons_self,rfl,hS⟩;exact hS.elim) rfl (wn rfl) rfl Tryz.call70 (aj rfl aJ) (fun W hW hp hE=>Af K v A D i7 hE) ?_)
     intro u hu j9
     obtain⟨P,Q⟩:=u
     obtain⟨e9,d9⟩:=hu
     have j5:bZ P D.1.length Q:=e9
     have a6:D.2.length=K.length:=d9
     have d2:bZ v D.2.length A:=by rw[a6];exact c8
     dsimp only
     refine Dr.use (lf:=[(0,sL d j f),(3,pV C),(6,sL I M J),(7,sL v D.2 A),(8,iv b5),(9,pV L),(57,bV f5),(67,sL I M J),(68,sL g o i),(69,iv q),(70,.pointer (some ⟨pu g,rT g+(q).toNat*1,none⟩)),(71,iv b6),(72,sL g o i),(73,iv q),(74,iv (bF (q+1))),(75,.pointer (some ⟨pu g,rT g+((bF (q+1))).toNat*1,none⟩)),(76,iv b7),(77,sL v D.2 A),(78,sL P D.1 Q)]) (le:=[(2,ow d f 45 aX j),(3,bx C #[sL g o i] 118),(12,ow g i 3 bP o),(13,ow I J 133 aT M),(14,ow v A 45 aX D.2),(29,bx L #[iv q] 3),(33,ow P Q 3 bP D.1)]) ?_ Z (.cons Z (.cons Z (.cons Z (.cons (dM Z (by unfold sL;rw[a6])) (.cons Z (.cons Z (.cons Z (.cons Z (.cons Z (.cons Z (.cons Z (.cons Z (.cons Z (.cons Z (.cons Z (.cons Z (.cons Z (.cons (dM Z (by unfold sL;rw[a6])) (.r Z))))))))))))))))))) (.r Z)
     refine bY 12 [(79,.agg #[iv b6,iv b7,sL P D.1 Q])] (by kernel_rfl) Z Z (by kernel_rfl) ?_ Z Z ?_
     ·exact uP (vs:=[(0,iv b6),(1,iv b7),(2,sL P D.1 Q)]) (cs:=[iv b6,iv b7,sL P D.1 Q]) (wn Z) Z (bB Z (bB Z (bB Z dH))) (by kernel_rfl) (Tq.fin (.r Z))
     refine tX (by kernel_rfl) (Tr.freeze 33 Z fun w i8 c9=>?_)
     replace a4:=a4.trans i8
     obtain⟨a7,i9,H⟩:=bnd H
     refine dU [13] [ow I J 133 aT M] (U:=(Option Addr×Nat)) (fun u=>(sL u.1 a7 u.2)) (fun O W u=>bZ u.1 a7.length u.2) (fun u=>[ow u.1 u.2 133 aT a7]) Z (aH Z aY) (fun _=>Z) (wn Z) Z Tryz.call69 (aj Z (aj Z aJ)) (fun W hW hp hE=>qV M I J (bf.mk b6 b7 D.1) P Q (c9.rF (hW.gL hp)) a7 i9 hE) ?_
     intro w u e5 hu
     obtain⟨b2,b3⟩:=u
     have f1:=hu
     replace c9:=c9.le e5
     replace a4:=a4.trans e5
     have e0:bZ b2 a7.length b3:=f1 --@phi
     dsimp only
     refine Tr.k Z (ae (aL (aa (av (ai (aG Z (fun _ _ a c=>ah bT (a.ev Z) (dB c (vs:=[iv q]) (k:=29) Z 0) Z) (ae (aa (aM (Tr.alloc 34 (wn Z) Z Xz fun j6=>(bC 34 (cs:=[iv q]) [iv q] (wn Z) Z Z Z Z wP Z Z Z (ae (aa (aM (aG Z (fun _ _ a c=>ah bT (a.ev Z) (dB c (vs:=[iv q]) (k:=34) Z 0) Z) (aC bz Z Z (bC 34 (cs:=[iv (bF (q+1))]) [iv (bF (q+1))] (wn Z) Z Z Z Z wP Z Z Z (ae (Tk 29 (DX 34 29 Z Z Z ?_))))))))))))))))))))
     exact aF a4 ((bF (q+1)),a7,D.2,b5,j6,b2,b3,v,A) ⟨H,e0,d2⟩ (.r Z) (.r Z)
  ·refine cz (aD (aD (aU (aa (ai (aA Z (Tr.k Z (ae (aa (bu ?_))))))))))
   obtain rfl:=oI H
   exact Tr.out (m:=[sL I M J]) [] (bM Z bL) (fun W hW=>⟨w,(I,J),leB,Z,c7,hW.pick (ks:=[13]) (by decide) (aH Z aY)⟩)
 |cons B X=>
  rw[iZ.eq_2] at H
  refine ai (aC bv Z Z (ae (aa (av (eO Z (fI a2) (aO (aa (av (Tr.block (ai (aG Z (fun _ _ a c=>au uh (a.ev Z) a1 (a.ev Z) (Int.natCast_nonneg _) (bE a2)) (aG Z (fun _ _ a c=>aN (cs:=[iv B.X0,iv B.Y0,iv B.X1,iv B.Y1]) qJ kG (a.ev Z) (aI.take (yF lY (k:=2) c Z (gq a2)) 4) Z) (Tr.alloc 35 (wn Z) Z vz fun k5=>(bC 35 (cs:=[iv B.X0,iv B.Y0,iv B.X1,iv B.Y1]) [iv B.X0,iv B.Y0,iv B.X1,iv B.Y1] (wn Z) Z Z Z Z kG Z Z Z (ae (aa (aM (aG Z (fun _ _ a c=>ah lc (a.ev Z) (dB c (vs:=[sL F a' G]) (k:=3) Z 0) Z) (aQ (ag rq) Z (aG Z (fun _ _ a c=>ah bT (a.ev Z) (dB c (vs:=[iv B.X0,iv B.Y0,iv B.X1,iv B.Y1]) (k:=35) Z 1) Z) ?_))))))))))))))))))))
  refine aQ (ag yP) Z (aG Z (fun _ _ a c=>ah bT (a.ev Z) (dB c (vs:=[iv B.X0,iv B.Y0,iv B.X1,iv B.Y1]) (k:=35) Z 3) Z) (dS 36 (e:=3) (vs:=[(0,iv B.Y0),(1,iv B.Y1)]) (cs:=[iv B.Y0,iv B.Y1]) (wn Z) Z (bB Z (bB Z dH)) (by kernel_rfl) fun k6=>?_))
  obtain⟨e3,j0,H⟩:=bnd H
  exact Tr.append 12 (t:=bP) (l:=a') (l2:=[B.Y0,B.Y1]) (wn Z) Z Z Z Z (fun W hW=>⟨[[iv B.Y0],[iv B.Y1]],(.cons ⟨(),trivial,Z⟩ (.cons ⟨(),trivial,Z⟩ .nil)),dB hW (vs:=[iv B.Y0,iv B.Y1]) (k:=36) Z 0⟩) kF wP Mf (by decide) Np Z j0 fun d0 d1 h2=>(bC 3 (cs:=[sL d0 e3 d1]) [sL d0 e3 d1] (wn Z) Z Z Z Z QX Z Z Z (ae (aL (aa (aM (aC bz Z Z (aA Z (ae (aF f2 (X,(c5+1),e3,d0,d1) ⟨Z,dW a2,bE a2,H,h2⟩ (.cons Z (.cons Z (.cons Z (.cons Z (.cons (congrArg (fun z=>some (Value.int .i64 z)) (dV a2 a1)) .nil))))) (.r Z))))))))))

theorem nY(N:Nat){w:Bs}(p0:(List bf))(A:Option Addr)(B:Nat)(F:Sl w.R w.W aT A B p0)(r:(List aK))(H:jr N p0=some r)(hE:HF w w.W (ig [emp])):Calls Tryz.prog 41 [sL A p0 B].toArray w.W fun e W'=>∃u:(Option Addr×Nat),e= .returned (sL u.1 r u.2)∧(bZ u.1 r.length u.2)∧HF w W' (ig [ow u.1 u.2 45 aX r]):=by
 unfold jr at H
 have leB:=Bs.Le.refl w
 refine aZ (n:=41) Tryz.func41 Z Z Z hE (ai (Tr.k Z (bO 1 45 aX ?_)))
 show Tr _ _ (uf _ 2 (sL none (([]:List aK)) 0)) _ _
 refine ae (aa (ai (Tr.k Z (bO 2 45 aX ?_))))
 show Tr _ _ (uf _ 3 (sL none (([]:List aK)) 0)) _ _
 refine ae (aa (av (ai (aA Z (aQ (bD ug) Z (aA Z (ae (aa (Tr.block (cB (σ:=(List bf)×Nat×(List aK)×(Option Addr)×Nat) (fun m w s=>m=s.1.length+1∧s.1=List.drop s.2.1 p0∧s.2.1≤p0.length∧fH N s.1 s.2.1 s.2.2.1=some r∧bZ s.2.2.2.1 s.2.2.1.length s.2.2.2.2) (fun s=>[(3,sL s.2.2.2.1 s.2.2.1 s.2.2.2.2),(7,sL A p0 B),(8,iv (p0.length:Int)),(9,iv (s.2.1:Int))]) (fun s=>[(2,ow s.2.2.2.1 s.2.2.2.2 45 aX s.2.2.1)]) (p0.length+1) (p0,0,([]:List aK),none,0) ⟨Z,Z,Nat.zero_le _,H,fQ⟩ (.r Z) (.r Z) (fun _ _ h=>absurd h.1 (by simp)) ?_))))))))))
 intro w O m s hs
 obtain⟨j,K,L,I,J⟩:=s
 obtain⟨S,G,b4,H,M⟩:=hs
 replace G:j=List.drop K p0:=G
 replace H:fH N j K L=some r:=H
 replace S:m+1=j.length+1:=S
 replace F:=F.oV O
 replace leB:=leB.trans O
 replace M:bZ I L.length J:=M
 obtain rfl:m=j.length:=by omega
 clear S
 dsimp only
 cases j with
 |nil=>
  rw[fH.eq_1] at H
  refine ai (aC bv Z Z (ae (aa (av (eX Z (dY G) (cz (aD (aD (aU (aa (ai (aA Z (Tr.k Z (ae (aa (bu ?_))))))))))))))))
  obtain rfl:=oI H
  exact Tr.out (m:=[sL I L J]) [] (bM Z bL) (fun W hW=>⟨(I,J),Z,M,HF.wy leB (hW.pick (ks:=[2]) (by decide) (aH Z aY)) ⟨nQ _ _ _ _ lW,trivial⟩⟩)
 | cons d j=>
  rw[fH.eq_2] at H
  refine ai (aC bv Z Z (ae (aa (av (eO Z (fI G) (aO (aa (av (Tr.block (ai ?_))))))))))
  obtain⟨b1,V,U,X⟩:=(F).el (gq G)
  obtain⟨f,g⟩:=b1
  have i:=U
  replace i:Sl w.R w.W bP f g d.Xs:=i
  refine aG Z (fun _ _ a c=>au pM (a.ev Z) F.form (a.ev Z) (Int.natCast_nonneg _) (bE G)) (aG Z (fun _ _ a c=>aN (cs:=[iv d.Y0,iv d.Y1,sL f d.Xs g]) GQ xC (a.ev Z) (aI.take (wo V X c) 3) Z) (Tr.alloc 11 (wn Z) Z I8 fun v=>(bC 11 (cs:=[iv d.Y0,iv d.Y1,sL f d.Xs g]) [iv d.Y0,iv d.Y1,sL f d.Xs g] (wn Z) Z Z Z Z xC Z Z Z (ae (aa (ai (Tr.k Z (ae (aa (Tr.block (cB (σ:=(List aK)×Int×(Option Addr)×Nat) (fun m w s=>iq (fH N j (K+1)) d m s.1 s.2.1=some r∧bZ s.2.2.1 s.1.length s.2.2.2) (fun s=>[(3,sL s.2.2.1 s.1 s.2.2.2),(5,pV v),(6,iv s.2.1),(7,sL A p0 B),(8,iv (p0.length:Int)),(9,iv (K:Int))]) (fun s=>[(2,ow s.2.2.1 s.2.2.2 45 aX s.1),(11,bx v #[iv d.Y0,iv d.Y1,sL f d.Xs g] 133)]) N (L,0,I,J) ⟨H,M⟩ (.r Z) (.r Z) (fun _ _ h=>jZ (h.1)) ?_)))))))))))
  intro w P b3 s hs
  obtain⟨E,y,C,D⟩:=s
  obtain⟨H,Q⟩:=hs
  replace H:iq (fH N j (K+1)) d (b3+1) E y=some r:=H
  replace i:=i.oV P
  replace F:=F.oV P
  replace O:=O.trans P
  replace Q:bZ C E.length D:=Q
  rw[iq.eq_2] at H
  dsimp only
  refine av (ai (aA Z (aQ (ag jU) Z (aG Z (fun _ _ a c=>ah lc (a.ev Z) (dB c (vs:=[iv d.Y0,iv d.Y1,sL f d.Xs g]) (k:=11) Z 2) Z) (aQ (bD kF) Z (aC bv Z Z (ae (aa (aP Z H (fun H=>?_) (fun H=>?_))))))))))
  ·refine aO (aa (av (Tr.block ?_)))
   obtain⟨o,a6,H⟩:=bnd H
   obtain⟨a',a0,a1⟩:=aW a6
   obtain⟨q,a7,H⟩:=bnd H
   obtain⟨a2,a3,a4⟩:=aW a7
   refine CK 18 [(17,.makeFunc (.func 0) #[] #[.tmp 36])] [(17,⟨37,14,.func (.func 0) #[] #[.agg #[iv o,iv d.Y0,iv q,iv d.Y1]],fun b=>.slice (some ⟨b,0,none⟩) 1 1,fun b=>bx b #[iv o,iv d.Y0,iv q,iv d.Y1] 45⟩)] [(3,sL C E D),(5,pV v),(6,iv y),(7,sL A p0 B),(8,iv (p0.length:Int)),(9,iv (K:Int)),(13,iv y),(14,.pointer (some ⟨v,2,none⟩)),(15,sL f d.Xs g),(16,iv (d.Xs.length:Int)),(17,bV (decide (y<(d.Xs.length:Int)))),(20,sL C E D),(21,.pointer (some ⟨v,2,none⟩)),(22,sL f d.Xs g),(23,iv y),(24,.pointer (some ⟨pu f,rT f+(y).toNat*1,none⟩)),(25,iv o),(26,pV v),(27,iv d.Y0),(28,.pointer (some ⟨v,2,none⟩)),(29,sL f d.Xs g),(30,iv y),(31,iv (bF (y+1))),(32,.pointer (some ⟨pu f,rT f+((bF (y+1))).toNat*1,none⟩)),(33,iv q),(34,.pointer (some ⟨v,1,none⟩)),(35,iv d.Y1),(36,.agg #[iv o,iv d.Y0,iv q,iv d.Y1]),(37,.func (.func 0) #[] #[.agg #[iv o,iv d.Y0,iv q,iv d.Y1]])] (by kernel_rfl) (by kernel_rfl) (by kernel_rfl) (by kernel_rfl) (by kernel_rfl) (by kernel_rfl) (by kernel_rfl) (lQ (R3 (vs:=[(0,.agg #[iv o,iv d.Y0,iv q,iv d.Y1])]) Z Z Z (by kernel_rfl)) qj) (lQ Z qj) (lQ Z qj) ?_ ?_
   ·refine dG Z (dZ (ag jU) Z (bg Z (fun _ _ a c=>ah lc (a.ev Z) (dB c (vs:=[iv d.Y0,iv d.Y1,sL f d.Xs g]) (k:=11) Z 2) Z) (dG Z (bg Z (fun _ _ a c=>au iX (a.ev Z) i.form (a.ev Z) a' a0) (bg Z (fun _ _ a c=>ah bT (a.ev Z) (vB jm i a1 c) Z) (dZ (ag oz) Z (bg Z (fun _ _ a c=>ah bT (a.ev Z) (dB c (vs:=[iv d.Y0,iv d.Y1,sL f d.Xs g]) (k:=11) Z 0) Z) (dZ (ag jU) Z (bg Z (fun _ _ a c=>ah lc (a.ev Z) (dB c (vs:=[iv d.Y0,iv d.Y1,sL f d.Xs g]) (k:=11) Z 2) Z) (dG Z (fZ bz Z Z (bg Z (fun _ _ a c=>au iX (a.ev Z) i.form (a.ev Z) a2 a3) (bg Z (fun _ _ a c=>ah bT (a.ev Z) (vB jm i a4 c) Z) ?_)))))))))))))
    exact dZ (ag nC) Z (bg Z (fun _ _ a c=>ah bT (a.ev Z) (dB c (vs:=[iv d.Y0,iv d.Y1,sL f d.Xs g]) (k:=11) Z 1) Z) (uP (vs:=[(0,iv o),(1,iv d.Y0),(2,iv q),(3,iv d.Y1)]) (cs:=[iv o,iv d.Y0,iv q,iv d.Y1]) (wn Z) Z (bB Z (bB Z (bB Z (bB Z dH)))) (by kernel_rfl) (yc (vs:=[.agg #[iv o,iv d.Y0,iv q,iv d.Y1]]) (wn Z) Z (aj Z aJ) (Tq.fin (.r Z)))))
   ·intro T
    refine Tr.vD (lf:=[(5,pV v),(6,iv y),(7,sL A p0 B),(8,iv (p0.length:Int)),(9,iv (K:Int)),(20,sL C E D),(37,.slice (some ⟨(T 17),0,none⟩) 1 1)]) (le:=[(2,ow C D 45 aX E),(11,bx v #[iv d.Y0,iv d.Y1,sL f d.Xs g] 133),(14,bx (T 17) #[iv o,iv d.Y0,iv q,iv d.Y1] 45)]) (.r Z) (.r Z) ?_
    obtain⟨b2,a8,H⟩:=bnd H
    exact Tr.append 2 (t:=aX) (l:=E) (l2:=[(aK.mk o d.Y0 q d.Y1)]) (wn Z) Z Z Z Z (fun W hW=>⟨[[iv o,iv d.Y0,iv q,iv d.Y1]],(.cons ⟨(),trivial,Z⟩ .nil),dB hW (vs:=[iv o,iv d.Y0,iv q,iv d.Y1]) (k:=14) Z 0⟩) rM kG NQ (by decide) Pw Z a8 fun a9 b0 a5=>(Tr.k Z (ae (aL (aa (aM (aA Z (aC bz Z Z (Tr.k Z (ae (aF P (b2,(bF (y+2)),a9,b0) ⟨H,a5⟩ (.r Z) (.r Z)))))))))))
  ·exact cz (aD (aD (aU (aL (aa (aM (aC bz Z Z (aA Z (ae (aF O (j,(K+1),E,C,D) ⟨Z,dW G,bE G,H,Q⟩ (.cons Z (.cons Z (.cons Z (.cons (congrArg (fun z=>some (Value.int .i64 z)) (dV G F.form)) .nil)))) (.r Z)))))))))))

theorem tO{w:Bs}(p0:(List aK))(g:Option Addr)(i:Nat)(f:Sl w.R w.W aX g i p0)(p1:(List aK))(j:Option Addr)(l:Nat)(o:Sl w.R w.W aX j l p1)(r:Bool)(H:jB p0 p1=some r)(hE:HF w w.W E0):Calls Tryz.prog 11 [sL g p0 i,sL j p1 l].toArray w.W fun e W'=>e= .returned (bV r)∧HF w W' E0:=by
 unfold jB at H
 have leB:=Bs.Le.refl w
 refine aZ (n:=26) Tryz.func11 Z Z Z hE (ai (Tr.k Z (ae (aa (av (ai (aA Z (aQ (bD rM) Z (aA Z (aQ (bD rM) Z (aC iP Z Z (ae (aa (aP Z H (fun H=>?_) (fun H=>?_)))))))))))))))
 ·refine ai (Tr.k Z (ae (aa (bu (bn ?_)))))
  obtain rfl:=oI H
  exact fV leB
 ·refine aO (aa (av (ai (aA Z (aQ (bD rM) Z (aA Z (ae (aa (Tr.block (cB (σ:=(List aK)×Nat) (fun m w s=>m=s.1.length+1∧s.1=List.drop s.2 p0∧s.2≤p0.length∧gX p1 s.1 s.2=some r) (fun s=>[(0,sL g p0 i),(1,sL j p1 l),(12,iv (p0.length:Int)),(13,iv (s.2:Int))]) (fun s=>[]) (p0.length+1) (p0,0) ⟨Z,Z,Nat.zero_le _,H⟩ (.r Z) .nil (fun _ _ h=>absurd h.1 (by simp)) ?_))))))))))
  intro w t m s hs
  obtain⟨b,y⟩:=s
  obtain⟨v,d,E,H⟩:=hs
  replace d:b=List.drop y p0:=d
  replace H:gX p1 b y=some r:=H
  replace v:m+1=b.length+1:=v
  replace f:=f.oV t
  replace o:=o.oV t
  replace leB:=leB.trans t
  obtain rfl:m=b.length:=by omega
  clear v
  dsimp only
  cases b with
  |nil=>
   rw[gX.eq_1] at H
   refine ai (aC bv Z Z (ae (aa (av (eX Z (dY d) (cz (aD (aD (aU (aa (ai (Tr.k Z (ae (aa (bu ?_)))))))))))))))
   obtain rfl:=oI H
   exact fV leB
  | cons u b=>
   rw[gX.eq_2] at H
   refine ai (aC bv Z Z (ae (aa (av (eO Z (fI d) (aO (aa (av (Tr.block (ai (aA Z (Tr.k Z (ae (aa (av (jF (by kernel_rfl) (by kernel_rfl) (dG Z (dG Z (bg Z (fun _ _ a c=>au uh (a.ev Z) f.form (a.ev Z) (Int.natCast_nonneg _) (bE d)) (bg Z (fun _ _ a c=>aN (cs:=[iv u.X0,iv u.Y0,iv u.X1,iv u.Y1]) qJ kG (a.ev Z) (aI.take (vB lY f (gq d) c) 4) Z) (dG Z (dG Z ?_))))))))))))))))))))))
   obtain⟨q,D,H⟩:=bnd H
   obtain⟨A,B,C⟩:=aW D
   refine bg Z (fun _ _ a c=>au uh (a.ev Z) o.form (a.ev Z) A B) (bg Z (fun _ _ a c=>aN (cs:=[iv q.X0,iv q.Y0,iv q.X1,iv q.Y1]) qJ kG (a.ev Z) (aI.take (vB lY o C c) 4) Z) (fZ (ME u q) Z Z (iC (aa (aP Z H (fun H=>?_) (fun H=>?_))))))
   ·refine ai (Tr.k Z (ae (aa (bu (fD (bn (bn (fD (bn ?_)))))))))
    obtain rfl:=oI H
    exact fV leB
   ·exact aO (aL (aa (aM (aC bz Z Z (aA Z (ae (aF t (b,(y+1)) ⟨Z,dW d,bE d,H⟩ (.cons Z (.cons Z (.cons Z (.cons (congrArg (fun z=>some (Value.int .i64 z)) (dV d f.form)) .nil)))) .nil)))))))

theorem qc(N:Nat){w:Bs}(p0:(List aK))(g:Option Addr)(j:Nat)(l:Sl w.R w.W aX g j p0)(r:Int)(H:jC N p0=some r)(hE:HF w w.W E0):Calls Tryz.prog 27 [sL g p0 j].toArray w.W fun e W'=>e= .returned (iv r)∧HF w W' E0:=by
 unfold jC at H
 have leB:=Bs.Le.refl w
 refine aZ (n:=52) Tryz.func27 Z Z Z hE (ai (Tr.k Z (ae (aa (av (ai (aA Z ?_)))))))
 obtain⟨L,a',H⟩:=bnd H
 refine bR (r:=(iv L)) (wn Z) Z Tryz.call59 (aj Z aJ) (fun W hW=>zo p0 g j (l.ext hW.dz) L a' (HF.start _)) (Tr.k Z (ae (aa (ai (aA Z (aC iP Z Z (ae (aa (aP Z H (fun H=>?_) (fun H=>?_))))))))))
 ·refine ai (aA Z (Tr.k Z (ae (aa (bu (bn ?_))))))
  obtain rfl:=oI H
  exact fV leB
 ·refine aO (aa (av (ai (Tr.k Z (ae (aa (Tr.block (cB (σ:=Int) (fun m w s=>eG N p0 m s=some r) (fun s=>[(0,sL g p0 j),(4,iv s)]) (fun s=>[]) N 1 H (.r Z) .nil (fun _ _ h=>jZ (h)) ?_))))))))
  intro w F a9 i hs
  have H:=hs
  replace H:eG N p0 (a9+1) i=some r:=H
  replace l:=l.oV F
  replace leB:=leB.trans F
  rw[eG.eq_2] at H
  show Tr _ _ (LF [(0,sL g p0 j),(4,iv i)]) (LE []) _
  refine av (ai (aA Z (aA Z (aQ (bD rM) Z (aC bv Z Z (ae (aa (aP Z H (fun H=>?_) (fun H=>?_)))))))))
  ·refine aO (aa (av (Tr.block (av (rU 12 [] [11] (by kernel_rfl) (by kernel_rfl) fun D G a8=>(bY 0 [(18,sL g p0 j)] (by kernel_rfl) Z Z (by kernel_rfl) ?_ Z Z ?_))))))
   ·exact dG Z (Tq.fin (.r Z))
   refine bY 1 [(19,iv i)] (by kernel_rfl) Z Z (by kernel_rfl) ?_ Z Z ?_
   ·exact dG Z (Tq.fin (.r Z))
   refine bY 2 [(20,iv (bF (i-1)))] (by kernel_rfl) Z Z (by kernel_rfl) ?_ Z Z ?_
   ·exact fZ gu Z Z (Tq.fin (.r Z))
   obtain⟨d,a0,H⟩:=bnd H
   obtain⟨M,P,Q⟩:=aW a0
   refine bY 3 [(21,.pointer (some ⟨pu g,rT g+((bF (i-1))).toNat*4,none⟩))] (by kernel_rfl) Z Z (by kernel_rfl) ?_ Z Z ?_
   ·exact bg Z (fun _ _ a c=>au uh (a.ev Z) l.form (a.ev Z) M P) (Tq.fin (.r Z))
   refine bY 4 [(22,.agg #[iv d.X0,iv d.Y0,iv d.X1,iv d.Y1])] (by kernel_rfl) Z Z (by kernel_rfl) ?_ Z Z ?_
   ·exact bg Z (fun _ _ a c=>aN (cs:=[iv d.X0,iv d.Y0,iv d.X1,iv d.Y1]) qJ kG (a.ev Z) (aI.take (vB lY l Q c) 4) Z) (Tq.fin (.r Z))
   refine dI 5 (by kernel_rfl) Z (wn Z) Z (by kernel_rfl) (fun _ _ a=>run_move (a.ev Z)) Z (dI 6 (by kernel_rfl) Z (wn Z) Z (by kernel_rfl) (fun _ _ a=>run_move (a.ev Z)) Z ?_)
   obtain⟨f,a1,H⟩:=bnd H
   obtain⟨S,T,V⟩:=aW a1
   refine dI 7 (by kernel_rfl) Z (wn Z) Z (by kernel_rfl) (fun _ _ a=>au uh (a.ev Z) l.form (a.ev Z) S T) Z (pG 8 [(26,.agg #[iv f.X0,iv f.Y0,iv f.X1,iv f.Y1])] [] true (by kernel_rfl) Z Z (by kernel_rfl) (fun W W' c hsW hk=>HF.Bg (le:=[]) (ks:=[]) (s0:=D) true c hk (fun _=>G) .nil (fun b hb=>hb.elim (fun⟨_,hp,_⟩=>nomatch hp) (fun hb=>.inr ⟨Z,hb.2,(fun _ h=>nomatch h)⟩)) (fun _ h=>nomatch h) Z) ?_ Z Z ?_)
   ·exact bg Z (fun _ _ a c=>aN (cs:=[iv f.X0,iv f.Y0,iv f.X1,iv f.Y1]) qJ kG (a.ev Z) (aI.take (vB lY l V c) 4) Z) (Tq.fin (.r Z))
   refine Dr.cut (U:=Nat×Nat) [9,10] 1 (fun u=>D≤u.1∧D≤u.2) (fun u=>[(0,sL g p0 j),(4,iv i),(5,.pointer (some ⟨u.1,0,none⟩)),(6,.pointer (some ⟨u.2,0,none⟩)),(12,iv i),(13,sL g p0 j),(14,iv (p0.length:Int)),(15,bV (decide (i<(p0.length:Int)))),(18,sL g p0 j),(19,iv i),(20,iv (bF (i-1))),(21,.pointer (some ⟨pu g,rT g+((bF (i-1))).toNat*4,none⟩)),(22,.agg #[iv d.X0,iv d.Y0,iv d.X1,iv d.Y1]),(23,sL g p0 j),(24,iv i),(25,.pointer (some ⟨pu g,rT g+(i).toNat*4,none⟩)),(26,.agg #[iv f.X0,iv f.Y0,iv f.X1,iv f.Y1])]) (fun u=>[(5,bx u.1 #[iv 0,iv 0,iv 0,iv 0] 45),(6,bx u.2 #[iv 0,iv 0,iv 0,iv 0] 45)]) ?_ ?_
   ·intro hC
    refine PN 9 10 (by kernel_rfl) ?_ ?_
    ·exact St.alloc 9 5 Z (wn Z) Z vz fun o t=>(Dr.one 10 (by kernel_rfl) (St.alloc 10 6 Z (wn Z) Z vz fun q E=>((hC ⟨o,q⟩ ⟨t,E⟩).use (by kernel_rfl) (.r Z) (.r Z))))
    ·exact St.alloc 10 6 Z (wn Z) Z vz fun q E=>(Dr.one 9 (by kernel_rfl) (St.alloc 9 5 Z (wn Z) Z vz fun o t=>((hC ⟨o,q⟩ ⟨t,E⟩).use (by kernel_rfl) (.r Z) (.r Z))))
   intro u hu
   obtain⟨o,q⟩:=u
   obtain⟨t,E⟩:=hu
   replace t:D≤o:=t
   dsimp only
   refine Dr.one 11 (by kernel_rfl) (CL 11 5 (cs:=[iv d.X0,iv d.Y0,iv d.X1,iv d.Y1]) [iv d.X0,iv d.Y0,iv d.X1,iv d.Y1] Z (wn Z) (.inr ⟨by simp,t⟩) Z Z Z Z kG Z Z Z (tX (by kernel_rfl) (bC 6 (cs:=[iv f.X0,iv f.Y0,iv f.X1,iv f.Y1]) [iv f.X0,iv f.Y0,iv f.X1,iv f.Y1] (wn Z) Z Z Z Z kG Z Z Z (ae (aa (ai (aQ (ag rq) Z (aG Z (fun _ _ a c=>ah bT (a.ev Z) (dB c (vs:=[iv f.X0,iv f.Y0,iv f.X1,iv f.Y1]) (k:=6) Z 1) Z) (aQ (ag rq) Z (aG Z (fun _ _ a c=>ah bT (a.ev Z) (dB c (vs:=[iv d.X0,iv d.Y0,iv d.X1,iv d.Y1]) (k:=5) Z 1) Z) (aC bv Z Z (aA Z (eD 13 [(0,sL g p0 j),(4,iv i),(45,bV ((decide (f.Y0<d.Y0))||((f.Y0==d.Y0)&&(decide (f.X0≤d.X0)))))] [(5,bx o #[iv d.X0,iv d.Y0,iv d.X1,iv d.Y1] 45),(6,bx q #[iv f.X0,iv f.Y0,iv f.X1,iv f.Y1] 45)] ?_ ?_)))))))))))))
   ·cases a2:(decide (f.Y0<d.Y0))
    ·refine dN (ag rq) Z (Tr.x (fun _ _ a c=>ah bT (a.ev Z) (dB c (vs:=[iv f.X0,iv f.Y0,iv f.X1,iv f.Y1]) (k:=6) Z 1) Z) (dN (ag rq) Z (Tr.x (fun _ _ a c=>ah bT (a.ev Z) (dB c (vs:=[iv d.X0,iv d.Y0,iv d.X1,iv d.Y1]) (k:=5) Z 1) Z) (jM eU Z Z (dN run_move Z (eD 6 [(0,sL g p0 j),(4,iv i),(32,bV false),(44,bV ((f.Y0==d.Y0)&&(decide (f.X0≤d.X0))))] [(5,bx o #[iv d.X0,iv d.Y0,iv d.X1,iv d.Y1] 45),(6,bx q #[iv f.X0,iv f.Y0,iv f.X1,iv f.Y1] 45)] ?_ ?_))))))
     ·cases a2:(f.Y0==d.Y0)
      ·exact bq Z (bq Z (bq Z (bq Z (bq Z (jM bH Z Z (ae (bA (.r Z) (.r Z))))))))
      ·exact dN (ag oW) Z (Tr.x (fun _ _ a c=>ah bT (a.ev Z) (dB c (vs:=[iv f.X0,iv f.Y0,iv f.X1,iv f.Y1]) (k:=6) Z 0) Z) (dN (ag oW) Z (Tr.x (fun _ _ a c=>ah bT (a.ev Z) (dB c (vs:=[iv d.X0,iv d.Y0,iv d.X1,iv d.Y1]) (k:=5) Z 0) Z) (jM pQ Z Z (jM bG Z Z (ae (bA (.r Z) (.r Z))))))))
     ·dsimp only
      exact aC bH Z Z (ae (bA (.r Z) (.r Z)))
    ·exact bq Z (bq Z (bq Z (bq Z (bq Z (bq Z (rD Z (rD Z (rD Z (rD Z (rD Z (bq Z (aC bG Z Z (ae (bA (.r Z) (.r Z)))))))))))))))
   ·show Tr _ _ (LF [(0,sL g p0 j),(4,iv i),(45,bV ((decide (f.Y0<d.Y0))||((f.Y0==d.Y0)&&(decide (f.X0≤d.X0)))))]) (LE [(5,bx o #[iv d.X0,iv d.Y0,iv d.X1,iv d.Y1] 45),(6,bx q #[iv f.X0,iv f.Y0,iv f.X1,iv f.Y1] 45)]) _
    refine ae (aa (aP Z H (fun H=>?_) (fun H=>?_)))
    ·refine ai (Tr.k Z (ae (aa (bu (fD (bn (bn (fD (bn ?_)))))))))
     obtain rfl:=oI H
     exact fV leB
    ·exact aO (aL (aa (aM (aA Z (aC bz Z Z (Tr.k Z (ae (aF F (bF (i+1)) H (.r Z) .nil))))))))
  ·refine cz (aD (aD (aU (aa (av (ai (aA Z ?_)))))))
   obtain⟨v,a3,H⟩:=bnd H
   refine dU [7] [emp] (U:=(Option Addr×Nat)) (fun u=>(sL u.1 v u.2)) (fun O W u=>bZ u.1 v.length u.2) (fun u=>[ow u.1 u.2 133 aT v]) Z (aH Z aY) (fun _=>Z) (wn Z) Z Tryz.call29 (aj Z aJ) (fun W hW hp hE=>ru N p0 g j (l.ext (hW.gL hp)) v a3 hE) ?_
   intro w u I hu
   obtain⟨z,A⟩:=u
   have J:=hu
   replace l:=l.oV I
   replace leB:=leB.trans I
   have a6:bZ z v.length A:=J --@phi
   dsimp only
   obtain⟨y,a4,H⟩:=bnd H
   refine gD [8] [emp] (U:=(Option Addr×Nat)) (fun u=>(sL u.1 y u.2)) (fun u=>bZ u.1 y.length u.2) (fun u=>[ow u.1 u.2 45 aX y]) Z (aH Z aY) (fun _=>Z) (wn Z) Z Tryz.call41 (aj Z aJ) (fun W hW hp hE=>nY N v z A (hW.Ms (k:=7) Z hp Z) y a4 hE) ?_
   intro u hu
   obtain⟨B,C⟩:=u
   have K:=hu
   have a7:bZ B y.length C:=K --@phi
   dsimp only
   refine aA Z ?_
   obtain⟨X,a5,H⟩:=bnd H
   refine bR (r:=(bV X)) (wn Z) Z Tryz.call11 (aj Z (aj Z aJ)) (fun W hW=>tO y B C (hW.sH (k:=8) Z) p0 g j (l.ext hW.dz) X a5 (HF.start _)) (aQ jc Z (ae (aa (aP Z H (fun H=>?_) (fun H=>?_)))))
   ·refine ai (Tr.k Z (ae (aa (bu (bn ?_)))))
    obtain rfl:=oI H
    exact fV leB
   ·refine aO (aa (ai (Tr.k Z (ae (aa (bu ?_))))))
    obtain rfl:=oI H
    exact fV leB

theorem mR{w:Bs}(p0:Int)(p1:Int)(p2:Int)(p3:Int)(q0:(List fJ))(Aq0_0:Option Addr)(cq0_0:Nat)(kL:Nat)(r:(List fJ))(H:jh p0 p1 p2 p3 q0=some r)(hE:HF w w.W (ig [bx kL #[sL Aq0_0 q0 cq0_0] 143,ow Aq0_0 cq0_0 147 fe q0])):Calls Tryz.prog 111 [iv p0,iv p1,iv p2,iv p3,pV kL].toArray w.W fun e W'=>∃u:(Option Addr×Nat),e= .returned (.tuple #[])∧(bZ u.1 r.length u.2)∧HF w W' (ig [bx kL #[sL u.1 r u.2] 143,ow u.1 u.2 147 fe r]):=by
 unfold jh at H
 have Yw:=(hE.sl (k:=1) Z).form
 have leB:=Bs.Le.refl w
 refine aZ (n:=19) Tryz.func111 Z Z Z hE (aM (aG Z (fun _ _ a c=>ah vg (a.ev Z) (dB c (vs:=[sL Aq0_0 q0 cq0_0]) (k:=0) Z 0) Z) (aA Z (aA Z (iR (vs:=[(0,iv p0),(1,iv p1)]) (cs:=[iv p0,iv p1]) (wn Z) Z (bB Z (bB Z dH)) (by kernel_rfl) (aA Z (aA Z (iR (vs:=[(0,iv p2),(1,iv p3)]) (cs:=[iv p2,iv p3]) (wn Z) Z (bB Z (bB Z dH)) (by kernel_rfl) (iR (vs:=[(0,.agg #[iv p0,iv p1]),(1,.agg #[iv p2,iv p3])]) (cs:=[iv p0,iv p1,iv p2,iv p3]) (wn Z) Z (bB Z (bB Z dH)) (by kernel_rfl) (dS 2 (e:=147) (vs:=[(0,.agg #[iv p0,iv p1,iv p2,iv p3])]) (cs:=[iv p0,iv p1,iv p2,iv p3]) (wn Z) Z (bB Z dH) (by kernel_rfl) fun i=>?_))))))))))
 obtain⟨f,h,H⟩:=bnd H
 refine Tr.append 1 (t:=fe) (l:=q0) (l2:=[(fJ.mk (ak.mk p0 p1) (ak.mk p2 p3))]) (wn Z) Z Z Z Z (fun W hW=>⟨[[iv p0,iv p1,iv p2,iv p3]],(.cons ⟨(),trivial,Z⟩ .nil),dB hW (vs:=[iv p0,iv p1,iv p2,iv p3]) (k:=2) Z 0⟩) zC qN QG (by decide) SF Z h fun b d g=>(bC 0 (cs:=[sL b f d]) [sL b f d] (wn Z) Z Z Z Z QV Z Z Z (ae (og ?_)))
 obtain rfl:=oI H
 exact Tr.out (m:=[]) [] bL (fun W hW=>⟨(b,d),Z,g,HF.wy leB (hW.pick (ks:=[0,1]) (by decide) (aH Z (aH Z aY))) ⟨SH _ _ _,nQ _ _ _ _ Fj,trivial⟩⟩)

theorem vo(N:Nat){w:Bs}(p0:(List Int))(a5:Option Addr)(a6:Nat)(e4:Sl w.R w.W bP a5 a6 p0)(p1:(List Int))(a7:Option Addr)(a8:Nat)(e5:Sl w.R w.W bP a7 a8 p1)(p2:Bool→Bool→Option Bool)(fid2:Nat)(B:List Value)(hg2:∀args W,(callFunc fid2 args).run Tryz.prog W= .ok (.enter fid2 args) W)(hf2:∀(w':Bs),w.Ext w'→∀(z0:Bool) (z1:Bool),∀y,p2 z0 z1=some y→Calls Tryz.prog fid2 (([bV z0,bV z1]:List Value)++B).toArray w'.W fun e W''=>e= .returned (bV y)∧HF w' W'' E0)(r:(List Int))(H:lw N p0 p1 p2=some r)(hE:HF w w.W (ig [emp])):Calls Tryz.prog 113 [sL a5 p0 a6,sL a7 p1 a8,.func (.func fid2) #[] B.toArray].toArray w.W fun e W'=>∃u:(Option Addr×Nat),e= .returned (sL u.1 r u.2)∧(bZ u.1 r.length u.2)∧HF w W' (ig [ow u.1 u.2 3 bP r]):=by
 unfold lw at H
 have leB:=Bs.Le.refl w
 refine aZ (n:=85) Tryz.func113 Z Z Z hE (ai (Tr.k Z (bO 1 3 bP ?_)))
 show Tr _ _ (uf _ 6 (sL none (([]:List Int)) 0)) _ _
 refine ae (aa (ai (Tr.k Z (bO 2 3 bP ?_))))
 show Tr _ _ (uf _ 7 (sL none (([]:List Int)) 0)) _ _
 refine ae (aa (ai (Tr.k Z (Tr.k Z (Tr.k Z (ae (aa (av (Tr.block (cB (σ:=(List Int)×(List Int)×(List Int)×Bool×Bool×Bool×(Option Addr)×Nat×(Option Addr)×Nat×(Option Addr)×Nat) (fun m w s=>fB p2 m s.1 s.2.1 s.2.2.1 s.2.2.2.1 s.2.2.2.2.1 s.2.2.2.2.2.1=some r∧Sl w.R w.W bP s.2.2.2.2.2.2.1 s.2.2.2.2.2.2.2.1 s.1∧Sl w.R w.W bP s.2.2.2.2.2.2.2.2.1 s.2.2.2.2.2.2.2.2.2.1 s.2.1∧bZ s.2.2.2.2.2.2.2.2.2.2.1 s.2.2.1.length s.2.2.2.2.2.2.2.2.2.2.2) (fun s=>[(0,sL s.2.2.2.2.2.2.1 s.1 s.2.2.2.2.2.2.2.1),(1,sL s.2.2.2.2.2.2.2.2.1 s.2.1 s.2.2.2.2.2.2.2.2.2.1),(2,.func (.func fid2) #[] B.toArray),(7,sL s.2.2.2.2.2.2.2.2.2.2.1 s.2.2.1 s.2.2.2.2.2.2.2.2.2.2.2),(8,bV s.2.2.2.1),(9,bV s.2.2.2.2.1),(10,bV s.2.2.2.2.2.1)]) (fun s=>[(2,ow s.2.2.2.2.2.2.2.2.2.2.1 s.2.2.2.2.2.2.2.2.2.2.2 3 bP s.2.2.1)]) N (p0,p1,([]:List Int),false,false,false,a5,a6,a7,a8,none,0) ⟨H,e4,e5,fQ⟩ (.r Z) (.r Z) (fun _ _ h=>jZ (h.1)) ?_))))))))))
 intro w L a0 s hs
 obtain⟨v,g,f,F,q,i,E,C,o,j,b,d⟩:=s
 obtain⟨H,D,z,U⟩:=hs
 replace H:fB p2 (a0+1) v g f F q i=some r:=H
 replace hf2:=fun w' he=>hf2 w' (L.ext.trans he)
 replace leB:=leB.trans L
 replace D:Sl w.R w.W bP E C v:=D
 replace z:Sl w.R w.W bP o j g:=z
 replace U:bZ b f.length d:=U
 rw[fB.eq_2] at H
 dsimp only
 refine av (ai (aA Z (aQ (bD kF) Z (aC jd Z Z (aA Z (eD 4 [(0,sL E v C),(1,sL o g j),(2,.func (.func fid2) #[] B.toArray),(7,sL b f d),(8,bV F),(9,bV q),(10,bV i),(20,bV ((decide (0<(v.length:Int)))||(decide (0<(g.length:Int)))))] [(2,ow b d 3 bP f)] ?_ ?_))))))
 ·cases a9:(decide (0<(v.length:Int)))
  ·exact dN run_move Z (dN (bD kF) Z (jM jd Z Z (aC bH Z Z (ae (bA (.r Z) (.r Z))))))
  ·exact bq Z (bq Z (bq Z (aC bG Z Z (ae (bA (.r Z) (.r Z))))))
 ·show Tr _ _ (LF [(0,sL E v C),(1,sL o g j),(2,.func (.func fid2) #[] B.toArray),(7,sL b f d),(8,bV F),(9,bV q),(10,bV i),(20,bV ((decide (0<(v.length:Int)))||(decide (0<(g.length:Int)))))]) (LE [(2,ow b d 3 bP f)]) _
  refine ae (aa (aP Z H (fun H=>?_) (fun H=>?_)))
  ·refine aO (aa (Tr.block (ai (Tr.k Z (ae (aa ?_))))))
   have b0:=Bs.Le.refl w
   refine kZ (σ:=Int) (fun w s=>jS p2 v g f F q i (fB p2 a0) s=some r) (fun s=>[(0,sL E v C),(1,sL o g j),(2,.func (.func fid2) #[] B.toArray),(7,sL b f d),(8,bV F),(9,bV q),(10,bV i),(11,iv s)]) (fun s=>[(2,ow b d 3 bP f)]) ?_ ?_
   ·refine av (jF (by kernel_rfl) (by kernel_rfl) (dG Z (dZ (bD kF) Z (fZ eU Z Z (dG Z ?_)))))
    obtain⟨f7,M,H⟩:=bnd H
    refine sK 13 [(0,sL E v C),(1,sL o g j),(2,.func (.func fid2) #[] B.toArray),(7,sL b f d),(8,bV F),(9,bV q),(10,bV i),(37,bV f7)] ?_ ?_
    ·cases a9:((g.length:Int)==0)
     ·rw[a9] at M
      rw[if_neg (by decide)] at M
      have H:=M
      refine kH run_move Z (kH (bD kF) Z (uN jd Z Z (kH run_move Z ?_)))
      obtain⟨f8,O,H⟩:=bnd H
      refine sK 8 [(0,sL E v C),(1,sL o g j),(2,.func (.func fid2) #[] B.toArray),(7,sL b f d),(8,bV F),(9,bV q),(10,bV i),(24,bV false),(36,bV f8)] ?_ ?_
      ·cases b3:(decide (0<(v.length:Int)))
       ·rw[b3] at O
        rw[if_neg (by decide)] at O
        have H:=O
        obtain rfl:=oI H
        exact di Z (di Z (di Z (di Z (di Z (di Z (di Z (uN bH Z Z (Tq.fin (.r Z)))))))))
       ·rw[b3] at O
        rw[if_pos Z] at O
        have H:=O
        refine kH run_move Z ?_
        obtain⟨g4,e6,H⟩:=bnd H
        obtain⟨b8,b9,c0⟩:=aW e6
        refine Tq.x (fun _ _ a c=>au iX (a.ev Z) D.form (a.ev Z) b8 b9) (Tq.x (fun _ _ a c=>ah bT (a.ev Z) (vB jm D c0 c) Z) (kH run_move Z ?_))
        obtain⟨g5,e7,H⟩:=bnd H
        obtain⟨c3,c4,c5⟩:=aW e7
        refine Tq.x (fun _ _ a c=>au iX (a.ev Z) z.form (a.ev Z) c3 c4) (Tq.x (fun _ _ a c=>ah bT (a.ev Z) (vB jm z c5 c) Z) (uN pQ Z Z (uN bG Z Z ?_)))
        obtain rfl:=oI H
        exact Tq.fin (.r Z)
      ·refine fZ bH Z Z ?_
       obtain rfl:=oI H
       exact Tq.fin (.r Z)
     ·rw[a9] at M
      rw[if_pos Z] at M
      have H:=M
      obtain rfl:=oI H
      exact di Z (di Z (di Z (di Z (GU Z (GU Z (GU Z (GU Z (GU Z (GU Z (GU Z (di Z (fZ bG Z Z (Tq.fin (.r Z))))))))))))))
    ·refine iC (aa (aP Z H (fun H=>?_) (fun H=>?_)))
     ·refine aM (aA Z ?_)
      obtain⟨f9,e8,H⟩:=bnd H
      obtain⟨c6,c7,c8⟩:=aW e8
      exact aG Z (fun _ _ a c=>au iX (a.ev Z) D.form (a.ev Z) c6 c7) (aG Z (fun _ _ a c=>ah bT (a.ev Z) (vB jm D c8 c) Z) (Tr.k Z (ae (aF b0 f9 H (.r Z) (.r Z)))))
     ·refine aM (aA Z ?_)
      obtain⟨g0,e9,H⟩:=bnd H
      obtain⟨c9,d0,d1⟩:=aW e9
      exact aG Z (fun _ _ a c=>au iX (a.ev Z) z.form (a.ev Z) c9 d0) (aG Z (fun _ _ a c=>ah bT (a.ev Z) (vB jm z d1 c) Z) (Tr.k Z (ae (aF b0 g0 H (.r Z) (.r Z)))))
   ·intro w A T hs
    have H:=hs
    replace H:jS p2 v g f F q i (fB p2 a0) A=some r:=H
    replace D:=D.oV T
    replace z:=z.oV T
    replace hf2:=fun w' he=>hf2 w' (T.ext.trans he)
    replace L:=L.trans T
    unfold jS at H
    show Tr _ _ (LF [(0,sL E v C),(1,sL o g j),(2,.func (.func fid2) #[] B.toArray),(7,sL b f d),(8,bV F),(9,bV q),(10,bV i),(11,iv A)]) (LE [(2,ow b d 3 bP f)]) _
    have b1:=Bs.Le.refl w
    refine kZ (σ:=(List Int)×Bool×(Option Addr)×Nat) (fun w s=>kJ p2 g f q i (fB p2 a0) A s.1 s.2.1=some r∧Sl w.R w.W bP s.2.2.1 s.2.2.2 s.1) (fun s=>[(0,sL s.2.2.1 s.1 s.2.2.2),(1,sL o g j),(2,.func (.func fid2) #[] B.toArray),(7,sL b f d),(8,bV s.2.1),(9,bV q),(10,bV i),(11,iv A)]) (fun s=>[(2,ow b d 3 bP f)]) ?_ ?_
    ·refine ai (aA Z (aQ (bD kF) Z (aC jd Z Z (aA Z ?_))))
     obtain⟨d2,P,H⟩:=bnd H
     refine eD 6 [(0,sL E v C),(1,sL o g j),(2,.func (.func fid2) #[] B.toArray),(7,sL b f d),(8,bV F),(9,bV q),(10,bV i),(11,iv A),(53,bV d2)] [(2,ow b d 3 bP f)] ?_ ?_
     ·cases b4:(decide (0<(v.length:Int)))
      ·rw[b4] at P
       rw[if_neg (by decide)] at P
       have H:=P
       obtain rfl:=oI H
       exact bq Z (bq Z (bq Z (bq Z (bq Z (aC bH Z Z (ae (bA (.r Z) (.r Z))))))))
      ·rw[b4] at P
       rw[if_pos Z] at P
       have H:=P
       refine dN run_move Z ?_
       obtain⟨g6,f1,H⟩:=bnd H
       obtain⟨d3,d4,d5⟩:=aW f1
       refine Tr.x (fun _ _ a c=>au iX (a.ev Z) D.form (a.ev Z) d3 d4) (Tr.x (fun _ _ a c=>ah bT (a.ev Z) (vB jm D d5 c) Z) (dN run_move Z (jM eU Z Z (aC bG Z Z ?_))))
       obtain rfl:=oI H
       exact ae (bA (.r Z) (.r Z))
     ·show Tr _ _ (LF [(0,sL E v C),(1,sL o g j),(2,.func (.func fid2) #[] B.toArray),(7,sL b f d),(8,bV F),(9,bV q),(10,bV i),(11,iv A),(53,bV d2)]) (LE [(2,ow b d 3 bP f)]) _
      refine ae (aa (aP Z H (fun H=>?_) (fun H=>?_)))
      ·refine aM (aA Z ?_)
       obtain⟨g1,b5,H⟩:=bnd H
       exact aG Z (fun _ _ a c=>uI iX (a.ev Z) D.form (a.ev Z) b5) (aA Z (aQ jc Z (Tr.k Z (Tr.k Z (ae (aF b1 (g1,(!F),(ve E (1:Int).toNat 1 C),(C-(1:Int).toNat)) ⟨H,(Sl.cut D b5)⟩ (.r Z) (.r Z)))))))
      ·exact aO (aF b1 (v,F,E,C) ⟨H,D⟩ (.r Z) (.r Z))
    ·intro w s a1 hs
     obtain⟨G,I,J,K⟩:=s
     obtain⟨H,Q⟩:=hs
     replace H:kJ p2 g f q i (fB p2 a0) A G I=some r:=H
     replace z:=z.oV a1
     replace hf2:=fun w' he=>hf2 w' (a1.ext.trans he)
     replace L:=L.trans a1
     replace Q:Sl w.R w.W bP J K G:=Q
     unfold kJ at H
     dsimp only
     have b2:=Bs.Le.refl w
     refine kZ (σ:=(List Int)×Bool×(Option Addr)×Nat) (fun w s=>ni p2 f i (fB p2 a0) A G I s.1 s.2.1=some r∧Sl w.R w.W bP s.2.2.1 s.2.2.2 s.1) (fun s=>[(0,sL J G K),(1,sL s.2.2.1 s.1 s.2.2.2),(2,.func (.func fid2) #[] B.toArray),(7,sL b f d),(8,bV I),(9,bV s.2.1),(10,bV i),(11,iv A)]) (fun s=>[(2,ow b d 3 bP f)]) ?_ ?_
     ·refine ai (aA Z (aQ (bD kF) Z (aC jd Z Z (aA Z ?_))))
      obtain⟨d6,S,H⟩:=bnd H
      refine eD 6 [(0,sL J G K),(1,sL o g j),(2,.func (.func fid2) #[] B.toArray),(7,sL b f d),(8,bV I),(9,bV q),(10,bV i),(11,iv A),(67,bV d6)] [(2,ow b d 3 bP f)] ?_ ?_
      ·cases b6:(decide (0<(g.length:Int)))
       ·rw[b6] at S
        rw[if_neg (by decide)] at S
        have H:=S
        obtain rfl:=oI H
        exact bq Z (bq Z (bq Z (bq Z (bq Z (aC bH Z Z (ae (bA (.r Z) (.r Z))))))))
       ·rw[b6] at S
        rw[if_pos Z] at S
        have H:=S
        refine dN run_move Z ?_
        obtain⟨g7,f2,H⟩:=bnd H
        obtain⟨d7,d8,d9⟩:=aW f2
        refine Tr.x (fun _ _ a c=>au iX (a.ev Z) z.form (a.ev Z) d7 d8) (Tr.x (fun _ _ a c=>ah bT (a.ev Z) (vB jm z d9 c) Z) (dN run_move Z (jM eU Z Z (aC bG Z Z ?_))))
        obtain rfl:=oI H
        exact ae (bA (.r Z) (.r Z))
      ·show Tr _ _ (LF [(0,sL J G K),(1,sL o g j),(2,.func (.func fid2) #[] B.toArray),(7,sL b f d),(8,bV I),(9,bV q),(10,bV i),(11,iv A),(67,bV d6)]) (LE [(2,ow b d 3 bP f)]) _
       refine ae (aa (aP Z H (fun H=>?_) (fun H=>?_)))
       ·refine aM (aA Z ?_)
        obtain⟨g2,b7,H⟩:=bnd H
        exact aG Z (fun _ _ a c=>uI iX (a.ev Z) z.form (a.ev Z) b7) (aA Z (aQ jc Z (Tr.k Z (Tr.k Z (ae (aF b2 (g2,(!q),(ve o (1:Int).toNat 1 j),(j-(1:Int).toNat)) ⟨H,(Sl.cut z b7)⟩ (.r Z) (.r Z)))))))
       ·exact aO (aF b2 (g,q,o,j) ⟨H,z⟩ (.r Z) (.r Z))
     ·intro w s a2 hs
      obtain⟨a3,a4,V,X⟩:=s
      obtain⟨H,a'⟩:=hs
      replace H:ni p2 f i (fB p2 a0) A G I a3 a4=some r:=H
      replace Q:=Q.oV a2
      replace hf2:=fun w' he=>hf2 w' (a2.ext.trans he)
      replace L:=L.trans a2
      replace a':Sl w.R w.W bP V X a3:=a'
      unfold ni at H
      dsimp only
      refine ai (aA Z (aA Z (aA Z ?_)))
      obtain⟨e0,f3,H⟩:=bnd H
      refine x9 (r:=(bV e0)) (wn Z) Z Z hg2 (aj Z (aj Z aJ)) (fun W hW=>hf2 hW.all hW.dz I a4 _ f3) (Tr.k Z (ae (aa (ai (aA Z (aA Z (aC (Rh XD) Z Z (ae (aa (aP Z H (fun H=>?_) (fun H=>?_)))))))))))
      ·refine aM (aA Z (aA Z (dS 5 (e:=3) (vs:=[(0,iv A)]) (cs:=[iv A]) (wn Z) Z (bB Z dH) (by kernel_rfl) fun g8=>?_)))
       obtain⟨g3,f4,H⟩:=bnd H
       exact Tr.append 2 (t:=bP) (l:=f) (l2:=[A]) (wn Z) Z Z Z Z (fun W hW=>⟨[[iv A]],(.cons ⟨(),trivial,Z⟩ .nil),dB hW (vs:=[iv A]) (k:=5) Z 0⟩) kF wP Mf (by decide) Np Z f4 fun f5 f6 e3=>(aA Z (Tr.k Z (Tr.k Z (ae (aL (aF L (G,a3,g3,I,a4,e0,J,K,V,X,f5,f6) ⟨H,Q,a',e3⟩ (.r Z) (.r Z)))))))
      ·exact aO (aL (aF L (G,a3,f,I,a4,i,J,K,V,X,b,d) ⟨H,Q,a',U⟩ (.r Z) (.r Z)))
  ·refine cz (aD (aD (aU (aa (ai (aA Z (Tr.k Z (ae (aa (bu ?_))))))))))
   obtain rfl:=oI H
   exact Tr.out (m:=[sL b f d]) [] (bM Z bL) (fun W hW=>⟨(b,d),Z,U,HF.wy leB (hW.pick (ks:=[2]) (by decide) (aH Z aY)) ⟨nQ _ _ _ _ Fh,trivial⟩⟩)

theorem wR{w:Bs}(p0:Bool)(p1:Bool)(r:Bool)(H:jq p0 p1=some r)(hE:HF w w.W E0):Calls Tryz.prog 114 [bV p0,bV p1].toArray w.W fun e W'=>e= .returned (bV r)∧HF w W' E0:=by
 unfold jq at H
 have leB:=Bs.Le.refl w
 refine aZ (n:=10) Tryz.func114 Z Z Z hE (ai (Tr.k Z (ae (aa (ai (aA Z (aA Z (eD 3 [(9,bV (p0&&(!p1)))] [] ?_ ?_))))))))
 ·cases a:p0
  ·exact bq Z (bq Z (aC bH Z Z (ae (bA (.r Z) .nil))))
  ·exact dN run_move Z (dN jc Z (aC bG Z Z (ae (bA (.r Z) .nil))))
 ·show Tr _ _ (LF [(9,bV (p0&&(!p1)))]) (LE []) _
  refine Tr.k Z (ae (aa (bu ?_)))
  obtain rfl:=oI H
  exact fV leB

theorem wQ{w:Bs}(p0:Bool)(p1:Bool)(r:Bool)(H:jo p0 p1=some r)(hE:HF w w.W E0):Calls Tryz.prog 115 [bV p0,bV p1].toArray w.W fun e W'=>e= .returned (bV r)∧HF w W' E0:=by
 unfold jo at H
 have leB:=Bs.Le.refl w
 refine aZ (n:=10) Tryz.func115 Z Z Z hE (ai (Tr.k Z (ae (aa (ai (aA Z (aA Z (eD 3 [(9,bV (p1&&(!p0)))] [] ?_ ?_))))))))
 ·cases a:p1
  ·exact bq Z (bq Z (aC bH Z Z (ae (bA (.r Z) .nil))))
  ·exact dN run_move Z (dN jc Z (aC bG Z Z (ae (bA (.r Z) .nil))))
 ·show Tr _ _ (LF [(9,bV (p1&&(!p0)))]) (LE []) _
  refine Tr.k Z (ae (aa (bu ?_)))
  obtain rfl:=oI H
  exact fV leB

theorem lC(N:Nat){w:Bs}(p0:Int)(p1:(List Int))(B:Option Addr)(C:Nat)(M:Sl w.R w.W bP B C p1)(p2:(List Int))(D:Option Addr)(E:Nat)(O:Sl w.R w.W bP D E p2)(kL:Nat)(q1:(List fJ))(Aq1_0:Option Addr)(cq1_0:Nat)(Ey:Nat)(hb0:w.R kL)(hc0:aI w.W kL 0 [.func (.func 111) #[] #[pV Ey]])(r:(List fJ))(H:fM N p0 p1 p2 q1=some r)(hE:HF w w.W (ig [bx Ey #[sL Aq1_0 q1 cq1_0] 143,ow Aq1_0 cq1_0 147 fe q1])):Calls Tryz.prog 112 [iv p0,sL B p1 C,sL D p2 E,pV kL].toArray w.W fun e W'=>∃u:(Option Addr×Nat),e= .returned (.tuple #[])∧(bZ u.1 r.length u.2)∧HF w W' (ig [bx Ey #[sL u.1 r u.2] 143,ow u.1 u.2 147 fe r]):=by
 unfold fM at H
 have Ux:=(hE.sl (k:=1) Z).form
 have leB:=Bs.Le.refl w
 refine aZ (n:=54) Tryz.func112 Z Z Z hE (ai (aA Z (aA Z ?_)))
 obtain⟨b,b8,H⟩:=bnd H
 refine gD [2] [emp] (U:=(Option Addr×Nat)) (fun u=>(sL u.1 b u.2)) (fun u=>bZ u.1 b.length u.2) (fun u=>[ow u.1 u.2 3 bP b]) Z (aH Z aY) (fun _=>Z) (wn Z) Z Tryz.call113 (aj Z (aj Z (aj Z aJ))) (fun W hW hp hE=>vo N p1 B C (M.ext (hW.gL hp)) p2 D E (O.ext (hW.gL hp)) (fun z0 z1=>jq z0 z1) 114 [] Tryz.call114 (fun w' he z0 z1 y hy=>wR z0 z1 y hy (HF.start _)) b b8 hE) ?_
 intro u hu
 obtain⟨d,f⟩:=u
 have a2:=hu
 have P:bZ d b.length f:=a2 --@phi
 dsimp only
 refine Tr.k Z (ae (aa (av (ai (Tr.k Z (ae (aa (Tr.block (cB (σ:=(List fJ)×Int×(Option Addr)×Nat) (fun m w s=>eY N p0 p1 p2 b m s.1 s.2.1=some r∧bZ s.2.2.1 s.1.length s.2.2.2) (fun s=>[(0,iv p0),(1,sL B p1 C),(2,sL D p2 E),(3,pV kL),(7,sL d b f),(8,iv s.2.1)]) (fun s=>[(0,bx Ey #[sL s.2.2.1 s.1 s.2.2.2] 143),(1,ow s.2.2.1 s.2.2.2 147 fe s.1),(2,ow d f 3 bP b)]) N (q1,0,Aq1_0,cq1_0) ⟨H,Ux⟩ (.r Z) (.r Z) (fun _ _ h=>jZ (h.1)) ?_)))))))))
 intro w L d2 s hs
 obtain⟨v,X,l,o⟩:=s
 obtain⟨H,S⟩:=hs
 replace H:eY N p0 p1 p2 b (d2+1) v X=some r:=H
 replace M:=M.oV L
 replace O:=O.oV L
 replace hc0:=L.ext.cells hb0 hc0
 replace hb0:=L.r _ hb0
 replace leB:=leB.trans L
 replace S:bZ l v.length o:=S
 rw[eY.eq_2] at H
 dsimp only
 refine av (ai (aA Z (aA Z (aQ (bD kF) Z (aC bv Z Z (ae (aa (aP Z H (fun H=>?_) (fun H=>?_)))))))))
 ·refine aO (aa (av (Tr.block (jN 12 (by kernel_rfl) (by kernel_rfl) (bg Z (fun _ _ a c=>ah JY (a.ev Z) (wo hb0 hc0 c) Z) (dG Z (dG Z (fZ bz Z Z ?_))))))))
  obtain⟨c8,b9,H⟩:=bnd H
  obtain⟨a6,a7,a8⟩:=aW b9
  refine bg Z (fun _ _ a c=>au iX (a.ev Z) P (a.ev Z) a6 a7) (bg Z (fun _ _ a c=>ah bT (a.ev Z) (yF jm (k:=2) c Z a8) Z) (dG Z (dG Z (dG Z ?_))))
  obtain⟨c9,c0,H⟩:=bnd H
  obtain⟨a9,b0,b1⟩:=aW c0
  refine bg Z (fun _ _ a c=>au iX (a.ev Z) P (a.ev Z) a9 b0) (bg Z (fun _ _ a c=>ah bT (a.ev Z) (yF jm (k:=2) c Z b1) Z) (dG Z (iC ?_)))
  obtain⟨z,c3,H⟩:=bnd H
  refine ut [0,1] [bx Ey #[sL l v o] 143,ow l o 147 fe v] (U:=(Option Addr×Nat)) (fun u=>(.tuple #[])) (fun u=>bZ u.1 z.length u.2) (fun u=>[bx Ey #[sL u.1 z u.2] 143,ow u.1 u.2 147 fe z]) Z (aH Z (aH Z aY)) (fun _=>Z) (wn Z) Z Z Tryz.call111 (aj Z (aj Z (aj Z (aj Z aJ)))) (fun W hW hp hE=>mR c8 p0 c9 p0 v l o Ey z c3 hE) ?_
  intro u hu
  obtain⟨F,G⟩:=u
  have a3:=hu
  have a':bZ F z.length G:=a3 --@phi
  dsimp only
  exact ae (aL (aa (aM (aA Z (aC bz Z Z (Tr.k Z (ae (aF L (z,(bF (X+2)),F,G) ⟨H,a'⟩ (.r Z) (.r Z)))))))))
 ·refine cz (aD (aD (aU (aa (ai (aA Z (aA Z ?_)))))))
  obtain⟨g,c4,H⟩:=bnd H
  refine gD [3] [emp] (U:=(Option Addr×Nat)) (fun u=>(sL u.1 g u.2)) (fun u=>bZ u.1 g.length u.2) (fun u=>[ow u.1 u.2 3 bP g]) Z (aH Z aY) (fun _=>Z) (wn Z) Z Tryz.call113 (aj Z (aj Z (aj Z aJ))) (fun W hW hp hE=>vo N p1 B C (M.ext (hW.gL hp)) p2 D E (O.ext (hW.gL hp)) (fun z0 z1=>jo z0 z1) 115 [] Tryz.call115 (fun w' he z0 z1 y hy=>wQ z0 z1 y hy (HF.start _)) g c4 hE) ?_
  intro u hu
  obtain⟨i,j⟩:=u
  have a4:=hu
  have Q:bZ i g.length j:=a4 --@phi
  dsimp only
  refine Tr.k Z (ae (aa (ai (Tr.k Z (ae (aa (Tr.block (cB (σ:=(List fJ)×Int×(Option Addr)×Nat) (fun m w s=>dQ p0 g m s.1 s.2.1=some r∧bZ s.2.2.1 s.1.length s.2.2.2) (fun s=>[(0,iv p0),(3,pV kL),(7,sL i g j),(9,iv s.2.1)]) (fun s=>[(0,bx Ey #[sL s.2.2.1 s.1 s.2.2.2] 143),(1,ow s.2.2.1 s.2.2.2 147 fe s.1),(3,ow i j 3 bP g)]) N (v,0,l,o) ⟨H,S⟩ (.r Z) (.r Z) (fun _ _ h=>jZ (h.1)) ?_))))))))
  intro w T d3 s hs
  obtain⟨K,a0,q,t⟩:=s
  obtain⟨H,V⟩:=hs
  replace H:dQ p0 g (d3+1) K a0=some r:=H
  replace hc0:=T.ext.cells hb0 hc0
  replace hb0:=T.r _ hb0
  replace leB:=leB.trans T
  replace V:bZ q K.length t:=V
  rw[dQ.eq_2] at H
  dsimp only
  refine av (ai (aA Z (aA Z (aQ (bD kF) Z (aC bv Z Z (ae (aa (aP Z H (fun H=>?_) (fun H=>?_)))))))))
  ·refine aO (aa (av (Tr.block (jN 12 (by kernel_rfl) (by kernel_rfl) (bg Z (fun _ _ a c=>ah JY (a.ev Z) (wo hb0 hc0 c) Z) (dG Z (dG Z ?_)))))))
   obtain⟨d0,c5,H⟩:=bnd H
   obtain⟨b2,b3,b4⟩:=aW c5
   refine bg Z (fun _ _ a c=>au iX (a.ev Z) Q (a.ev Z) b2 b3) (bg Z (fun _ _ a c=>ah bT (a.ev Z) (yF jm (k:=3) c Z b4) Z) (dG Z (dG Z (dG Z (fZ bz Z Z ?_)))))
   obtain⟨d1,c6,H⟩:=bnd H
   obtain⟨b5,b6,b7⟩:=aW c6
   refine bg Z (fun _ _ a c=>au iX (a.ev Z) Q (a.ev Z) b5 b6) (bg Z (fun _ _ a c=>ah bT (a.ev Z) (yF jm (k:=3) c Z b7) Z) (dG Z (iC ?_)))
   obtain⟨A,c7,H⟩:=bnd H
   refine ut [0,1] [bx Ey #[sL q K t] 143,ow q t 147 fe K] (U:=(Option Addr×Nat)) (fun u=>(.tuple #[])) (fun u=>bZ u.1 A.length u.2) (fun u=>[bx Ey #[sL u.1 A u.2] 143,ow u.1 u.2 147 fe A]) Z (aH Z (aH Z aY)) (fun _=>Z) (wn Z) Z Z Tryz.call111 (aj Z (aj Z (aj Z (aj Z aJ)))) (fun W hW hp hE=>mR d0 p0 d1 p0 K q t Ey A c7 hE) ?_
   intro u hu
   obtain⟨I,J⟩:=u
   have a5:=hu
   have a1:bZ I A.length J:=a5 --@phi
   dsimp only
   exact ae (aL (aa (aM (aA Z (aC bz Z Z (Tr.k Z (ae (aF T (A,(bF (a0+2)),I,J) ⟨H,a1⟩ (.r Z) (.r Z)))))))))
  ·refine cz (aD (aD (aU (og ?_))))
   obtain rfl:=oI H
   exact Tr.out (m:=[]) [] bL (fun W hW=>⟨(q,t),Z,V,HF.wy leB (hW.pick (ks:=[0,1]) (by decide) (aH Z (aH Z aY))) ⟨SH _ _ _,nQ _ _ _ _ Fj,trivial⟩⟩)

theorem zn(N:Nat){w:Bs}(p0:(List bf))(l:Option Addr)(o:Nat)(q:Sl w.R w.W aT l o p0)(r:(List fJ))(H:qb N p0=some r)(hE:HF w w.W (ig [emp])):Calls Tryz.prog 78 [sL l p0 o].toArray w.W fun e W'=>∃u:(Option Addr×Nat),e= .returned (sL u.1 r u.2)∧(bZ u.1 r.length u.2)∧HF w W' (ig [ow u.1 u.2 147 fe r]):=by
 unfold qb at H
 have leB:=Bs.Le.refl w
 refine aZ (n:=114) Tryz.func78 Z Z Z hE (ai (Tr.k Z (bO 1 147 fe ?_)))
 show Tr _ _ (uf _ 2 (sL none (([]:List fJ)) 0)) _ _
 refine ae (aa (ai (Tr.alloc 2 (wn Z) Z QI fun g=>(ae (aa (ai (sS (vs:=[pV g]) (wn Z) Z (aj Z aJ) (Tr.alloc 3 (wn Z) Z VK fun j=>(bC 3 (cs:=[.func (.func 111) #[] #[pV g]]) [.func (.func 111) #[] #[pV g]] (wn Z) Z Z Z Z VZ Z Z Z (ae (aa (ai (sS (vs:=[pV j]) (wn Z) Z (aj Z aJ) (Tr.k Z (ae (aa (av (ai (aA Z (aQ (bD ug) Z (aA Z (ae (aa (Tr.block (bO 14 147 fe ?_)))))))))))))))))))))))))
 refine cB (σ:=(List bf)×Nat×(List fJ)×(Option Addr)×Nat) (fun m w s=>m=s.1.length+1∧s.1=List.drop s.2.1 p0∧s.2.1≤p0.length∧dw N p0 s.1 s.2.1 s.2.2.1=some r∧bZ s.2.2.2.1 s.2.2.1.length s.2.2.2.2) (fun s=>[(0,sL l p0 o),(3,pV g),(4,pV j),(5,.func (.func 112) #[] #[pV j]),(11,sL l p0 o),(12,iv (p0.length:Int)),(13,iv (s.2.1:Int))]) (fun s=>[(2,bx g #[sL s.2.2.2.1 s.2.2.1 s.2.2.2.2] 143),(3,bx j #[.func (.func 111) #[] #[pV g]] 181),(14,ow s.2.2.2.1 s.2.2.2.2 147 fe s.2.2.1)]) (p0.length+1) (p0,0,([]:List fJ),none,0) ⟨Z,Z,Nat.zero_le _,H,fQ⟩ (.r Z) (.r Z) (fun _ _ h=>absurd h.1 (by simp)) ?_
 intro w M m s hs
 obtain⟨v,t,a8,I,J⟩:=s
 obtain⟨b6,B,j9,H,a9⟩:=hs
 replace B:v=List.drop t p0:=B
 replace H:dw N p0 v t a8=some r:=H
 replace b6:m+1=v.length+1:=b6
 replace q:=q.oV M
 replace leB:=leB.trans M
 replace a9:bZ I a8.length J:=a9
 obtain rfl:m=v.length:=by omega
 clear b6
 dsimp only
 cases v with
 |nil=>
  rw[dw.eq_1] at H
  refine ai (aC bv Z Z (ae (aa (av (eX Z (dY B) (cz (aD (aD (aU (aa (ai (aG Z (fun _ _ a c=>ah vg (a.ev Z) (dB c (vs:=[sL I a8 J]) (k:=2) Z 0) Z) (Tr.k Z (ae (aa (bu ?_))))))))))))))))
  obtain rfl:=oI H
  exact Tr.out (m:=[sL I a8 J]) [] (bM Z bL) (fun W hW=>⟨(I,J),Z,a9,HF.wy leB (hW.pick (ks:=[14]) (by decide) (aH Z aY)) ⟨nQ _ _ _ _ Fj,trivial⟩⟩)
 | cons b v=>
  rw[dw.eq_2] at H
  refine ai (aC bv Z Z (ae (aa (av (eO Z (fI B) (aO (aa (av (Tr.block (ai (aA Z ?_)))))))))))
  obtain⟨i2,d5,c6,d6⟩:=(q).el (gq B)
  obtain⟨d,f⟩:=i2
  have i:=c6
  replace i:Sl w.R w.W bP d f b.Xs:=i
  refine aG Z (fun _ _ a c=>au pM (a.ev Z) q.form (a.ev Z) (Int.natCast_nonneg _) (bE B)) (aG Z (fun _ _ a c=>aN (cs:=[iv b.Y0,iv b.Y1,sL d b.Xs f]) GQ xC (a.ev Z) (aI.take (wo d5 d6 c) 3) Z) (Tr.alloc 15 (wn Z) Z I8 fun F=>(Tr.k Z (bC 15 (cs:=[iv b.Y0,iv b.Y1,sL d b.Xs f]) [iv b.Y0,iv b.Y1,sL d b.Xs f] (wn Z) Z Z Z Z xC Z Z Z (ae (aa (av (ai (Tr.k Z (ae (aa (Tr.block (cB (σ:=(List fJ)×Int×(Option Addr)×Nat) (fun m w s=>fU N p0 (dw N p0 v (t+1)) b t m s.1 s.2.1=some r∧bZ s.2.2.1 s.1.length s.2.2.2) (fun s=>[(0,sL l p0 o),(3,pV g),(4,pV j),(5,.func (.func 112) #[] #[pV j]),(6,iv (t:Int)),(7,pV F),(8,iv s.2.1),(11,sL l p0 o),(12,iv (p0.length:Int)),(13,iv (t:Int))]) (fun s=>[(2,bx g #[sL s.2.2.1 s.1 s.2.2.2] 143),(3,bx j #[.func (.func 111) #[] #[pV g]] 181),(14,ow s.2.2.1 s.2.2.2 147 fe s.1),(15,bx F #[iv b.Y0,iv b.Y1,sL d b.Xs f] 133)]) N (a8,0,I,J) ⟨H,a9⟩ (.r Z) (.r Z) (fun _ _ h=>jZ (h.1)) ?_)))))))))))))
  intro w b3 j7 s hs
  obtain⟨C,b7,y,A⟩:=s
  obtain⟨H,j8⟩:=hs
  replace H:fU N p0 (dw N p0 v (t+1)) b t (j7+1) C b7=some r:=H
  replace q:=q.oV b3
  replace i:=i.oV b3
  replace M:=M.trans b3
  rw[fU.eq_2] at H
  dsimp only
  refine av (ai (aA Z (aQ (ag jU) Z (aG Z (fun _ _ a c=>ah lc (a.ev Z) (dB c (vs:=[iv b.Y0,iv b.Y1,sL d b.Xs f]) (k:=15) Z 2) Z) (aQ (bD kF) Z (aC bv Z Z (ae (aa (aP Z H (fun H=>?_) (fun H=>?_))))))))))
  ·refine aO (aa (av (Tr.block (av (jN 15 (by kernel_rfl) (by kernel_rfl) (bg Z (fun _ _ a c=>ah JY (a.ev Z) (dB c (vs:=[.func (.func 111) #[] #[pV g]]) (k:=3) Z 0) Z) (dZ (ag jU) Z (bg Z (fun _ _ a c=>ah lc (a.ev Z) (dB c (vs:=[iv b.Y0,iv b.Y1,sL d b.Xs f]) (k:=15) Z 2) Z) (dG Z ?_)))))))))
   obtain⟨i3,g8,H⟩:=bnd H
   obtain⟨d7,d8,d9⟩:=aW g8
   refine bg Z (fun _ _ a c=>au iX (a.ev Z) i.form (a.ev Z) d7 d8) (bg Z (fun _ _ a c=>ah bT (a.ev Z) (vB jm i d9 c) Z) (dZ (ag nC) Z (bg Z (fun _ _ a c=>ah bT (a.ev Z) (dB c (vs:=[iv b.Y0,iv b.Y1,sL d b.Xs f]) (k:=15) Z 1) Z) (dZ (ag jU) Z (bg Z (fun _ _ a c=>ah lc (a.ev Z) (dB c (vs:=[iv b.Y0,iv b.Y1,sL d b.Xs f]) (k:=15) Z 2) Z) (dG Z ?_))))))
   obtain⟨i4,g9,H⟩:=bnd H
   obtain⟨e0,e3,e4⟩:=aW g9
   refine bg Z (fun _ _ a c=>au iX (a.ev Z) i.form (a.ev Z) e0 e3) (bg Z (fun _ _ a c=>ah bT (a.ev Z) (vB jm i e4 c) Z) (dZ (ag oz) Z (bg Z (fun _ _ a c=>ah bT (a.ev Z) (dB c (vs:=[iv b.Y0,iv b.Y1,sL d b.Xs f]) (k:=15) Z 0) Z) (iC ?_))))
   obtain⟨G,h0,H⟩:=bnd H
   refine ut [2,14] [bx g #[sL y C A] 143,ow y A 147 fe C] (U:=(Option Addr×Nat)) (fun u=>(.tuple #[])) (fun u=>bZ u.1 G.length u.2) (fun u=>[bx g #[sL u.1 G u.2] 143,ow u.1 u.2 147 fe G]) Z (aH Z (aH Z aY)) (fun _=>Z) (wn Z) Z Z Tryz.call111 (aj Z (aj Z (aj Z (aj Z aJ)))) (fun W hW hp hE=>mR i3 b.Y1 i4 b.Y0 C y A g G h0 hE) ?_
   intro u hu
   obtain⟨D,E⟩:=u
   have c7:=hu
   have i5:bZ D G.length E:=c7 --@phi
   dsimp only
   refine ae (aa (jN 17 (by kernel_rfl) (by kernel_rfl) (bg Z (fun _ _ a c=>ah JY (a.ev Z) (dB c (vs:=[.func (.func 111) #[] #[pV g]]) (k:=3) Z 0) Z) (dZ (ag jU) Z (bg Z (fun _ _ a c=>ah lc (a.ev Z) (dB c (vs:=[iv b.Y0,iv b.Y1,sL d b.Xs f]) (k:=15) Z 2) Z) (dG Z (fZ bz Z Z ?_)))))))
   obtain⟨i6,h1,H⟩:=bnd H
   obtain⟨e5,e6,e7⟩:=aW h1
   refine bg Z (fun _ _ a c=>au iX (a.ev Z) i.form (a.ev Z) e5 e6) (bg Z (fun _ _ a c=>ah bT (a.ev Z) (vB jm i e7 c) Z) (dZ (ag oz) Z (bg Z (fun _ _ a c=>ah bT (a.ev Z) (dB c (vs:=[iv b.Y0,iv b.Y1,sL d b.Xs f]) (k:=15) Z 0) Z) (dZ (ag jU) Z (bg Z (fun _ _ a c=>ah lc (a.ev Z) (dB c (vs:=[iv b.Y0,iv b.Y1,sL d b.Xs f]) (k:=15) Z 2) Z) (dG Z (fZ bz Z Z ?_)))))))
   obtain⟨i7,h2,H⟩:=bnd H
   obtain⟨e8,e9,f1⟩:=aW h2
   refine bg Z (fun _ _ a c=>au iX (a.ev Z) i.form (a.ev Z) e8 e9) (bg Z (fun _ _ a c=>ah bT (a.ev Z) (vB jm i f1 c) Z) (dZ (ag nC) Z (bg Z (fun _ _ a c=>ah bT (a.ev Z) (dB c (vs:=[iv b.Y0,iv b.Y1,sL d b.Xs f]) (k:=15) Z 1) Z) (iC ?_))))
   obtain⟨O,h3,H⟩:=bnd H
   refine ut [2,14] [bx g #[sL D G E] 143,ow D E 147 fe G] (U:=(Option Addr×Nat)) (fun u=>(.tuple #[])) (fun u=>bZ u.1 O.length u.2) (fun u=>[bx g #[sL u.1 O u.2] 143,ow u.1 u.2 147 fe O]) Z (aH Z (aH Z aY)) (fun _=>Z) (wn Z) Z Z Tryz.call111 (aj Z (aj Z (aj Z (aj Z aJ)))) (fun W hW hp hE=>mR i6 b.Y0 i7 b.Y1 G D E g O h3 hE) ?_
   intro u hu
   obtain⟨X,a'⟩:=u
   have c8:=hu
   have b8:bZ X O.length a':=c8 --@phi
   dsimp only
   exact ae (aL (aa (aM (aA Z (aC bz Z Z (Tr.k Z (ae (aF b3 (O,(bF (b7+2)),X,a') ⟨H,b8⟩ (.r Z) (.r Z)))))))))
  ·refine cz (aD (aD (aU (aa ?_))))
   have b5:=Bs.Le.refl w
   refine kZ (σ:=(List fJ)×(Option Addr)×Nat) (fun w s=>jD N p0 (dw N p0 v (t+1)) b t s.1=some r∧bZ s.2.1 s.1.length s.2.2) (fun s=>[(0,sL l p0 o),(3,pV g),(4,pV j),(5,.func (.func 112) #[] #[pV j]),(6,iv (t:Int)),(7,pV F),(11,sL l p0 o),(12,iv (p0.length:Int)),(13,iv (t:Int))]) (fun s=>[(2,bx g #[sL s.2.1 s.1 s.2.2] 143),(3,bx j #[.func (.func 111) #[] #[pV g]] 181),(14,ow s.2.1 s.2.2 147 fe s.1),(15,bx F #[iv b.Y0,iv b.Y1,sL d b.Xs f] 133)]) ?_ ?_
   ·refine av (jF (by kernel_rfl) (by kernel_rfl) (dG Z (fZ eU Z Z (dG Z ?_))))
    obtain⟨i8,a0,H⟩:=bnd H
    refine sK 10 [(0,sL l p0 o),(3,pV g),(4,pV j),(5,.func (.func 112) #[] #[pV j]),(6,iv (t:Int)),(7,pV F),(11,sL l p0 o),(12,iv (p0.length:Int)),(13,iv (t:Int)),(71,bV i8)] ?_ ?_
    ·cases c4:((t:Int)==0)
     ·rw[c4] at a0
      rw[if_neg (by decide)] at a0
      have H:=a0
      refine kH run_move Z (kH run_move Z (uN gu Z Z ?_))
      obtain⟨k0,h4,H⟩:=bnd H
      obtain⟨f2,f3,f4⟩:=aW h4
      obtain⟨i9,f5,c9,f6⟩:=(q).el f4
      obtain⟨j3,j4⟩:=i9
      have i0:=c9
      refine Tq.x (fun _ _ a c=>au pM (a.ev Z) q.form (a.ev Z) f2 f3) (kH (ag nC) Z (Tq.x (fun _ _ a c=>ah bT (a.ev Z) (aI.drop (wo f5 f6 c) 1) Z) (kH (ag oz) Z (Tq.x (fun _ _ a c=>ah bT (a.ev Z) (dB c (vs:=[iv b.Y0,iv b.Y1,sL d b.Xs f]) (k:=15) Z 0) Z) (uN bv Z Z (fZ bH Z Z ?_))))))
      obtain rfl:=oI H
      exact Tq.fin (.r Z)
     ·rw[c4] at a0
      rw[if_pos Z] at a0
      have H:=a0
      obtain rfl:=oI H
      exact di Z (di Z (di Z (di Z (di Z (di Z (di Z (di Z (di Z (fZ bG Z Z (Tq.fin (.r Z)))))))))))
    ·refine iC (aa (aP Z H (fun H=>?_) (fun H=>?_)))
     ·refine aM (aA Z (aQ (ag oz) Z (aG Z (fun _ _ a c=>ah bT (a.ev Z) (dB c (vs:=[iv b.Y0,iv b.Y1,sL d b.Xs f]) (k:=15) Z 0) Z) (aQ (ag jU) Z (aG Z (fun _ _ a c=>ah lc (a.ev Z) (dB c (vs:=[iv b.Y0,iv b.Y1,sL d b.Xs f]) (k:=15) Z 2) Z) ?_)))))
      obtain⟨P,h5,H⟩:=bnd H
      refine ut [2,14] [bx g #[sL y C A] 143,ow y A 147 fe C] (U:=(Option Addr×Nat)) (fun u=>(.tuple #[])) (fun u=>bZ u.1 P.length u.2) (fun u=>[bx g #[sL u.1 P u.2] 143,ow u.1 u.2 147 fe P]) Z (aH Z (aH Z aY)) (fun _=>Z) (wn Z) Z Z Tryz.call112 (aj Z (aj Z (aj Z aJ))) (fun W hW hp hE=>lC N b.Y0 [] none 0 (Sl.nil _ _ _) b.Xs d f (i.ext (hW.gL hp)) j C y A g (hW.Hm (k:=3) Z hp Z) (hW.Nq (k:=3) Z) P h5 hE) ?_
      intro u hu
      obtain⟨a1,a2⟩:=u
      have d0:=hu
      have b9:bZ a1 P.length a2:=d0 --@phi
      dsimp only
      exact ae (aF b5 (P,a1,a2) ⟨H,b9⟩ (.r Z) (.r Z))
     ·refine jN 11 (by kernel_rfl) (by kernel_rfl) (dG Z (dZ (ag oz) Z (bg Z (fun _ _ a c=>ah bT (a.ev Z) (dB c (vs:=[iv b.Y0,iv b.Y1,sL d b.Xs f]) (k:=15) Z 0) Z) (dG Z (dG Z (fZ gu Z Z ?_))))))
      obtain⟨f7,h6,H⟩:=bnd H
      obtain⟨f8,f9,g0⟩:=aW h6
      obtain⟨j0,g1,d1,g2⟩:=(q).el g0
      obtain⟨b1,b2⟩:=j0
      have Q:=d1
      replace Q:Sl w.R w.W bP b1 b2 f7.Xs:=Q
      refine bg Z (fun _ _ a c=>au pM (a.ev Z) q.form (a.ev Z) f8 f9) (dZ (ag jU) Z (bg Z (fun _ _ a c=>ah lc (a.ev Z) (aI.drop (wo g1 g2 c) 2) Z) (dZ (ag jU) Z (bg Z (fun _ _ a c=>ah lc (a.ev Z) (dB c (vs:=[iv b.Y0,iv b.Y1,sL d b.Xs f]) (k:=15) Z 2) Z) (iC ?_)))))
      obtain⟨S,h7,H⟩:=bnd H
      refine ut [2,14] [bx g #[sL y C A] 143,ow y A 147 fe C] (U:=(Option Addr×Nat)) (fun u=>(.tuple #[])) (fun u=>bZ u.1 S.length u.2) (fun u=>[bx g #[sL u.1 S u.2] 143,ow u.1 u.2 147 fe S]) Z (aH Z (aH Z aY)) (fun _=>Z) (wn Z) Z Z Tryz.call112 (aj Z (aj Z (aj Z aJ))) (fun W hW hp hE=>lC N b.Y0 f7.Xs b1 b2 (Q.ext (hW.gL hp)) b.Xs d f (i.ext (hW.gL hp)) j C y A g (hW.Hm (k:=3) Z hp Z) (hW.Nq (k:=3) Z) S h7 hE) ?_
      intro u hu
      obtain⟨a3,a4⟩:=u
      have d2:=hu
      have c0:bZ a3 S.length a4:=d2 --@phi
      dsimp only
      exact ae (aF b5 (S,a3,a4) ⟨H,c0⟩ (.r Z) (.r Z))
   ·intro w s b0 hs
    obtain⟨T,K,L⟩:=s
    obtain⟨H,b4⟩:=hs
    replace H:jD N p0 (dw N p0 v (t+1)) b t T=some r:=H
    replace q:=q.oV b0
    replace i:=i.oV b0
    replace M:=M.trans b0
    replace b4:bZ K T.length L:=b4
    unfold jD at H
    dsimp only
    refine av (jF (by kernel_rfl) (by kernel_rfl) (dG Z (fZ bz Z Z (dG Z (dZ (bD ug) Z (fZ eU Z Z (dG Z ?_)))))))
    obtain⟨j1,a5,H⟩:=bnd H
    refine sK 10 [(0,sL l p0 o),(3,pV g),(4,pV j),(5,.func (.func 112) #[] #[pV j]),(7,pV F),(11,sL l p0 o),(12,iv (p0.length:Int)),(13,iv (t:Int)),(105,bV j1)] ?_ ?_
    ·cases c5:((bF ((t:Int)+1))==(p0.length:Int))
     ·rw[c5] at a5
      rw[if_neg (by decide)] at a5
      have H:=a5
      refine kH run_move Z (kH run_move Z (uN bz Z Z ?_))
      obtain⟨k1,h8,H⟩:=bnd H
      obtain⟨g3,g4,g5⟩:=aW h8
      obtain⟨j2,g6,d3,g7⟩:=(q).el g5
      obtain⟨j5,j6⟩:=j2
      have i1:=d3
      refine Tq.x (fun _ _ a c=>au pM (a.ev Z) q.form (a.ev Z) g3 g4) (kH (ag oz) Z (Tq.x (fun _ _ a c=>ah bT (a.ev Z) (aI.drop (wo g6 g7 c) 0) Z) (kH (ag nC) Z (Tq.x (fun _ _ a c=>ah bT (a.ev Z) (dB c (vs:=[iv b.Y0,iv b.Y1,sL d b.Xs f]) (k:=15) Z 1) Z) (uN jd Z Z (fZ bH Z Z ?_))))))
      obtain rfl:=oI H
      exact Tq.fin (.r Z)
     ·rw[c5] at a5
      rw[if_pos Z] at a5
      have H:=a5
      obtain rfl:=oI H
      exact di Z (di Z (di Z (di Z (di Z (di Z (di Z (di Z (di Z (fZ bG Z Z (Tq.fin (.r Z)))))))))))
    ·refine iC (aa (aP Z H (fun H=>?_) (fun H=>?_)))
     ·refine aM (aA Z (aQ (ag nC) Z (aG Z (fun _ _ a c=>ah bT (a.ev Z) (dB c (vs:=[iv b.Y0,iv b.Y1,sL d b.Xs f]) (k:=15) Z 1) Z) (aQ (ag jU) Z (aG Z (fun _ _ a c=>ah lc (a.ev Z) (dB c (vs:=[iv b.Y0,iv b.Y1,sL d b.Xs f]) (k:=15) Z 2) Z) ?_)))))
      obtain⟨V,h9,H⟩:=bnd H
      refine ut [2,14] [bx g #[sL K T L] 143,ow K L 147 fe T] (U:=(Option Addr×Nat)) (fun u=>(.tuple #[])) (fun u=>bZ u.1 V.length u.2) (fun u=>[bx g #[sL u.1 V u.2] 143,ow u.1 u.2 147 fe V]) Z (aH Z (aH Z aY)) (fun _=>Z) (wn Z) Z Z Tryz.call112 (aj Z (aj Z (aj Z aJ))) (fun W hW hp hE=>lC N b.Y1 b.Xs d f (i.ext (hW.gL hp)) [] none 0 (Sl.nil _ _ _) j T K L g (hW.Hm (k:=3) Z hp Z) (hW.Nq (k:=3) Z) V h9 hE) ?_
      intro u hu
      obtain⟨a6,a7⟩:=u
      have d4:=hu
      have c3:bZ a6 V.length a7:=d4 --@phi
      dsimp only
      exact ae (aL (aa (aM (aC bz Z Z (aA Z (ae (aF M (v,(t+1),V,a6,a7) ⟨Z,dW B,bE B,H,c3⟩ (.cons Z (.cons Z (.cons Z (.cons Z (.cons Z (.cons Z (.cons (congrArg (fun z=>some (Value.int .i64 z)) (dV B q.form)) .nil))))))) (.r Z))))))))
     ·exact aO (aL (aa (aM (aC bz Z Z (aA Z (ae (aF M (v,(t+1),T,K,L) ⟨Z,dW B,bE B,H,b4⟩ (.cons Z (.cons Z (.cons Z (.cons Z (.cons Z (.cons Z (.cons (congrArg (fun z=>some (Value.int .i64 z)) (dV B q.form)) .nil))))))) (.r Z))))))))

theorem qw{w:Bs}(p0:Int)(r:Int)(H:jY p0=some r)(hE:HF w w.W E0):Calls Tryz.prog 116 [iv p0].toArray w.W fun e W'=>e= .returned (iv r)∧HF w W' E0:=by
 unfold jY at H
 have leB:=Bs.Le.refl w
 refine aZ (n:=6) Tryz.func116 Z Z Z hE (ai (Tr.k Z (ae (aa (ai (aA Z (aG Z (fun _ _ a c=>wY (a.ev Z) (a.ev Z) _) (aG Z (fun _ _ a c=>vE (a.ev Z) (a.ev Z) _) (Tr.k Z (ae (aa (bu ?_))))))))))))
 obtain rfl:=oI H
 exact fV leB

theorem lv{w:Bs}(p0:fJ)(r:ak)(H:gI p0=some r)(hE:HF w w.W E0):Calls Tryz.prog 80 [.agg #[iv p0.from_.X,iv p0.from_.Y,iv p0.to_.X,iv p0.to_.Y]].toArray w.W fun e W'=>e= .returned (.agg #[iv r.X,iv r.Y])∧HF w W' E0:=by
 unfold gI at H
 have leB:=Bs.Le.refl w
 refine aZ (n:=23) Tryz.func80 Z Z Z hE (ai (fT 1 (cs:=[iv p0.from_.X,iv p0.from_.Y,iv p0.to_.X,iv p0.to_.Y]) (wn Z) Z Z Z fun h=>(Tr.alloc 2 (wn Z) Z tZ fun i=>(ae (aa (ai (Tr.k Z (ae (aa (av (jN 17 (by kernel_rfl) (by kernel_rfl) (dG Z (dZ (ag zS) Z (dZ (ag je) Z (bg Z (fun _ _ a c=>ah bT (a.ev Z) (dB c (vs:=[iv p0.from_.X,iv p0.from_.Y,iv p0.to_.X,iv p0.to_.Y]) (k:=1) Z 2) Z) (dZ (ag zT) Z (dZ (ag je) Z (bg Z (fun _ _ a c=>ah bT (a.ev Z) (dB c (vs:=[iv p0.from_.X,iv p0.from_.Y,iv p0.to_.X,iv p0.to_.Y]) (k:=1) Z 0) Z) (fZ gu Z Z ?_)))))))))))))))))))
 obtain⟨b,f,H⟩:=bnd H
 refine rV (r:=(iv b)) (wn Z) Z Z Tryz.call116 (aj Z aJ) (fun W hW=>qw (bF (p0.to_.X-p0.from_.X)) b f (HF.start _)) (dG Z (dZ (ag zS) Z (dZ (ag iQ) Z (bg Z (fun _ _ a c=>ah bT (a.ev Z) (dB c (vs:=[iv p0.from_.X,iv p0.from_.Y,iv p0.to_.X,iv p0.to_.Y]) (k:=1) Z 3) Z) (dZ (ag zT) Z (dZ (ag iQ) Z (bg Z (fun _ _ a c=>ah bT (a.ev Z) (dB c (vs:=[iv p0.from_.X,iv p0.from_.Y,iv p0.to_.X,iv p0.to_.Y]) (k:=1) Z 1) Z) (fZ gu Z Z (iC ?_)))))))))
 obtain⟨d,g,H⟩:=bnd H
 refine x9 (r:=(iv d)) (wn Z) Z Z Tryz.call116 (aj Z aJ) (fun W hW=>qw (bF (p0.to_.Y-p0.from_.Y)) d g (HF.start _)) (iR (vs:=[(0,iv b),(1,iv d)]) (cs:=[iv b,iv d]) (wn Z) Z (bB Z (bB Z dH)) (by kernel_rfl) (bC 2 (cs:=[iv b,iv d]) [iv b,iv d] (wn Z) Z Z Z Z gQ Z Z Z (ae (aa (bu ?_)))))
 obtain rfl:=oI H
 exact Tr.out (m:=[.agg #[iv b,iv d]]) [2] (nA Z Z kP gQ bL) (fun W hW=>⟨Z,hW.low leB⟩)

theorem wT{w:Bs}(p0:fJ)(r:ak)(H:lD p0=some r)(hE:HF w w.W E0):Calls Tryz.prog 79 [.agg #[iv p0.from_.X,iv p0.from_.Y,iv p0.to_.X,iv p0.to_.Y]].toArray w.W fun e W'=>e= .returned (.agg #[iv r.X,iv r.Y])∧HF w W' E0:=by
 unfold lD at H
 have leB:=Bs.Le.refl w
 refine aZ (n:=12) Tryz.func79 Z Z Z hE (ai (fT 1 (cs:=[iv p0.from_.X,iv p0.from_.Y,iv p0.to_.X,iv p0.to_.Y]) (wn Z) Z Z Z fun f=>(Tr.alloc 2 (wn Z) Z tZ fun g=>(ae (aa (ai (aG Z (fun _ _ a c=>aN (cs:=[iv p0.from_.X,iv p0.from_.Y,iv p0.to_.X,iv p0.to_.Y]) uq qN (a.ev Z) (aI.take (dB c (vs:=[iv p0.from_.X,iv p0.from_.Y,iv p0.to_.X,iv p0.to_.Y]) (k:=1) Z 0) 4) Z) ?_)))))))
 obtain⟨b,d,H⟩:=bnd H
 refine bR (r:=(.agg #[iv b.X,iv b.Y])) (wn Z) Z Tryz.call80 (aj Z aJ) (fun W hW=>lv p0 b d (HF.start _)) (Tr.alloc 3 (wn Z) Z tZ fun h=>(bC 3 (cs:=[iv b.X,iv b.Y]) [iv b.X,iv b.Y] (wn Z) Z Z Z Z gQ Z Z Z (ae (aa (ai (aQ (ag iQ) Z (aG Z (fun _ _ a c=>ah bT (a.ev Z) (dB c (vs:=[iv b.X,iv b.Y]) (k:=3) Z 1) Z) (aQ EK Z (aQ (ag je) Z (aG Z (fun _ _ a c=>ah bT (a.ev Z) (dB c (vs:=[iv b.X,iv b.Y]) (k:=3) Z 0) Z) (iR (vs:=[(0,iv (bF (0-b.Y))),(1,iv b.X)]) (cs:=[iv (bF (0-b.Y)),iv b.X]) (wn Z) Z (bB Z (bB Z dH)) (by kernel_rfl) (bC 2 (cs:=[iv (bF (0-b.Y)),iv b.X]) [iv (bF (0-b.Y)),iv b.X] (wn Z) Z Z Z Z gQ Z Z Z ?_))))))))))))
 refine ae (aa (bu ?_))
 obtain rfl:=oI H
 exact Tr.out (m:=[.agg #[iv (bF (0-b.Y)),iv b.X]]) [2] (nA Z Z kP gQ bL) (fun W hW=>⟨Z,hW.low leB⟩)

theorem vv{w:Bs}(p0:ak)(p1:ak)(r:Bool)(H:qa p0 p1=some r)(hE:HF w w.W E0):Calls Tryz.prog 86 [.agg #[iv p0.X,iv p0.Y],.agg #[iv p1.X,iv p1.Y]].toArray w.W fun e W'=>e= .returned (bV r)∧HF w W' E0:=by
 unfold qa at H
 have leB:=Bs.Le.refl w
 refine aZ (n:=24) Tryz.func86 Z Z Z hE (ai (fT 1 (cs:=[iv p0.X,iv p0.Y]) (wn Z) Z Z Z fun b=>(fT 2 (cs:=[iv p1.X,iv p1.Y]) (wn Z) Z Z Z fun d=>(Tr.k Z (ae (aa (ai (aQ (ag iQ) Z (aG Z (fun _ _ a c=>ah bT (a.ev Z) (dB c (vs:=[iv p0.X,iv p0.Y]) (k:=1) Z 1) Z) (aQ (ag iQ) Z (aG Z (fun _ _ a c=>ah bT (a.ev Z) (dB c (vs:=[iv p1.X,iv p1.Y]) (k:=2) Z 1) Z) (aC bv Z Z (aA Z (eD 13 [(23,bV ((decide (p0.Y<p1.Y))||((p0.Y==p1.Y)&&(decide (p0.X<p1.X)))))] [(1,bx b #[iv p0.X,iv p0.Y] 24),(2,bx d #[iv p1.X,iv p1.Y] 24)] ?_ ?_))))))))))))))
 ·cases f:(decide (p0.Y<p1.Y))
  ·refine dN (ag iQ) Z (Tr.x (fun _ _ a c=>ah bT (a.ev Z) (dB c (vs:=[iv p0.X,iv p0.Y]) (k:=1) Z 1) Z) (dN (ag iQ) Z (Tr.x (fun _ _ a c=>ah bT (a.ev Z) (dB c (vs:=[iv p1.X,iv p1.Y]) (k:=2) Z 1) Z) (jM eU Z Z (dN run_move Z (eD 6 [(10,bV false),(22,bV ((p0.Y==p1.Y)&&(decide (p0.X<p1.X))))] [(1,bx b #[iv p0.X,iv p0.Y] 24),(2,bx d #[iv p1.X,iv p1.Y] 24)] ?_ ?_))))))
   ·cases f:(p0.Y==p1.Y)
    ·exact bq Z (bq Z (bq Z (bq Z (bq Z (jM bH Z Z (ae (bA (.r Z) (.r Z))))))))
    ·exact dN (ag je) Z (Tr.x (fun _ _ a c=>ah bT (a.ev Z) (dB c (vs:=[iv p0.X,iv p0.Y]) (k:=1) Z 0) Z) (dN (ag je) Z (Tr.x (fun _ _ a c=>ah bT (a.ev Z) (dB c (vs:=[iv p1.X,iv p1.Y]) (k:=2) Z 0) Z) (jM bv Z Z (jM bG Z Z (ae (bA (.r Z) (.r Z))))))))
   ·dsimp only
    exact aC bH Z Z (ae (bA (.r Z) (.r Z)))
  ·exact bq Z (bq Z (bq Z (bq Z (bq Z (bq Z (rD Z (rD Z (rD Z (rD Z (rD Z (bq Z (aC bG Z Z (ae (bA (.r Z) (.r Z)))))))))))))))
 ·show Tr _ _ (LF [(23,bV ((decide (p0.Y<p1.Y))||((p0.Y==p1.Y)&&(decide (p0.X<p1.X)))))]) (LE [(1,bx b #[iv p0.X,iv p0.Y] 24),(2,bx d #[iv p1.X,iv p1.Y] 24)]) _
  refine Tr.k Z (ae (aa (bu ?_)))
  obtain rfl:=oI H
  exact fV leB

theorem yh{w:Bs}(p1:Int)(r:(List ak))(H:Ya p1=some r)(hE:HF w w.W (ig [emp])):Calls Tryz.prog 161 [.slice none 0 0,iv p1].toArray w.W fun e W'=>∃u:(Option Addr×Nat),e= .returned (sL u.1 r u.2)∧(bZ u.1 r.length u.2)∧HF w W' (ig [ow u.1 u.2 24 bi r]):=
 M8 (ρ:=Tryz.Eo) Tryz.Uy Z gQ Hw (by decide) IW Z H hE

theorem xJ{w:Bs}(p0:(List (List ak)))(g:Option Addr)(i:Nat)(b:Sl w.R w.W eu g i p0)(r:(List ak))(H:kD p0=some r)(hE:HF w w.W (ig [emp])):Calls Tryz.prog 117 [sL g p0 i].toArray w.W fun e W'=>∃u:(Option Addr×Nat),e= .returned (sL u.1 r u.2)∧(bZ u.1 r.length u.2)∧HF w W' (ig [ow u.1 u.2 24 bi r]):=by
 unfold kD at H
 have leB:=Bs.Le.refl w
 refine aZ (n:=36) Tryz.func117 Z Z Z hE (ai (Tr.k Z (bO 1 24 bi ?_)))
 show Tr _ _ (uf _ 2 (sL none (([]:List ak)) 0)) _ _
 refine ae (aa (ai (Tr.k Z (ae (aa (av (ai (aA Z (aQ (bD HV) Z (aA Z (ae (aa (Tr.block (cB (σ:=(List (List ak))×Nat×Int) (fun m w s=>m=s.1.length+1∧s.1=List.drop s.2.1 p0∧s.2.1≤p0.length∧gz p0 s.1 s.2.1 s.2.2=some r) (fun s=>[(0,sL g p0 i),(3,iv s.2.2),(9,sL g p0 i),(10,iv (p0.length:Int)),(11,iv (s.2.1:Int))]) (fun s=>[]) (p0.length+1) (p0,0,0) ⟨Z,Z,Nat.zero_le _,H⟩ (.r Z) .nil (fun _ _ h=>absurd h.1 (by simp)) ?_))))))))))))))
 intro w G m s hs
 obtain⟨d,M,E⟩:=s
 obtain⟨I,j,b4,H⟩:=hs
 replace j:d=List.drop M p0:=j
 replace H:gz p0 d M E=some r:=H
 replace I:m+1=d.length+1:=I
 replace b:=b.oV G
 replace leB:=leB.trans G
 obtain rfl:m=d.length:=by omega
 clear I
 dsimp only
 cases d with
 | nil=>
  rw[gz.eq_1] at H
  refine ai (aC bv Z Z (ae (aa (av (eX Z (dY j) (cz (aD (aD (aU (aa (ai (aA Z ?_))))))))))))
  obtain⟨q,a2,H⟩:=bnd H
  refine gD [2] [emp] (U:=(Option Addr×Nat)) (fun u=>(sL u.1 q u.2)) (fun u=>bZ u.1 q.length u.2) (fun u=>[ow u.1 u.2 24 bi q]) Z (aH Z aY) (fun _=>Z) (wn Z) Z Tryz.call161 (aj Z (aj Z aJ)) (fun W hW hp hE=>yh E q a2 hE) ?_
  intro u hu
  obtain⟨y,A⟩:=u
  have O:=hu
  have J:bZ y q.length A:=O --@phi
  dsimp only
  refine Tr.k Z (ae (aa (av (ai (aA Z (aQ (bD HV) Z (aA Z (ae (aa (Tr.block (cB (σ:=(List (List ak))×Nat×(List ak)×(Option Addr)×Nat) (fun m w s=>m=s.1.length+1∧s.1=List.drop s.2.1 p0∧s.2.1≤p0.length∧gy s.1 s.2.1 s.2.2.1=some r∧bZ s.2.2.2.1 s.2.2.1.length s.2.2.2.2) (fun s=>[(6,sL s.2.2.2.1 s.2.2.1 s.2.2.2.2),(25,sL g p0 i),(26,iv (p0.length:Int)),(27,iv (s.2.1:Int))]) (fun s=>[(2,ow s.2.2.2.1 s.2.2.2.2 24 bi s.2.2.1)]) (p0.length+1) (p0,0,q,y,A) ⟨Z,Z,Nat.zero_le _,H,J⟩ (.r Z) (.r Z) (fun _ _ h=>absurd h.1 (by simp)) ?_)))))))))))
  intro w K m s hs
  obtain⟨f,N,D,B,C⟩:=s
  obtain⟨L,o,b5,H,F⟩:=hs
  replace o:f=List.drop N p0:=o
  replace H:gy f N D=some r:=H
  replace L:m+1=f.length+1:=L
  replace b:=b.oV K
  replace leB:=leB.trans K
  replace F:bZ B D.length C:=F
  obtain rfl:m=f.length:=by omega
  clear L
  dsimp only
  cases f with
  |nil=>
   rw[gy.eq_1] at H
   refine ai (aC bv Z Z (ae (aa (av (eX Z (dY o) (cz (aD (aD (aU (aa (ai (aA Z (Tr.k Z (ae (aa (bu ?_))))))))))))))))
   obtain rfl:=oI H
   exact Tr.out (m:=[sL B D C]) [] (bM Z bL) (fun W hW=>⟨(B,C),Z,F,HF.wy leB (hW.pick (ks:=[2]) (by decide) (aH Z aY)) ⟨nQ _ _ _ _ vS,trivial⟩⟩)
  |cons a6 f=>
   rw[gy.eq_2] at H
   refine ai (aC bv Z Z (ae (aa (av (eO Z (fI o) (aO (aa (av (Tr.block (ai ?_))))))))))
   obtain⟨a8,V,P,X⟩:=(b).el (gq o)
   obtain⟨Q,S⟩:=a8
   have v:=P
   replace v:Sl w.R w.W bi Q S a6:=v
   refine aG Z (fun _ _ a c=>au Ls (a.ev Z) b.form (a.ev Z) (Int.natCast_nonneg _) (bE o)) (aG Z (fun _ _ a c=>ah tF (a.ev Z) (wo V X c) Z) (Tr.k Z (ae (aa (aM (aA Z (aA Z ?_)))))))
   obtain⟨a9,a3,H⟩:=bnd H
   exact yT 2 (t:=bi) (l:=D) (l2:=a6) (wn Z) Z Z Z Z (Zd vS (fun W hW=>(Sl.En v hW))) qM gQ Hw (by decide) IW Z a3 fun a4 a5 a'=>(Tr.k Z (ae (aL (aa (aM (aC bz Z Z (aA Z (ae (aF K (f,(N+1),a9,a4,a5) ⟨Z,dW o,bE o,H,a'⟩ (.cons Z (.cons Z (.cons Z (.cons (congrArg (fun z=>some (Value.int .i64 z)) (dV o b.form)) .nil)))) (.r Z))))))))))
 |cons b3 d=>
  rw[gz.eq_2] at H
  refine ai (aC bv Z Z (ae (aa (av (eO Z (fI j) (aO (aa (av (Tr.block (ai ?_))))))))))
  obtain⟨b0,a0,T,a1⟩:=(b).el (gq j)
  obtain⟨b1,b2⟩:=b0
  have a7:=T
  refine aG Z (fun _ _ a c=>au Ls (a.ev Z) b.form (a.ev Z) (Int.natCast_nonneg _) (bE j)) (aG Z (fun _ _ a c=>ah tF (a.ev Z) (wo a0 a1 c) Z) (Tr.k Z (ae (aa (ai (aA Z (aA Z (aQ (bD qM) Z (aC bz Z Z (Tr.k Z (ae (aa (ai (aA Z (aC bv Z Z (ae (aa (aP Z H (fun H=>?_) (fun H=>?_)))))))))))))))))))
  ·cases H
  ·exact aO (aL (aa (aM (aC bz Z Z (aA Z (ae (aF G (d,(M+1),(bF (E+(b3.length:Int)))) ⟨Z,dW j,bE j,H⟩ (.cons Z (.cons Z (.cons Z (.cons Z (.cons (congrArg (fun z=>some (Value.int .i64 z)) (dV j b.form)) .nil))))) .nil)))))))

end Go.Proofs.YtblmajfbibbiaaaGreatDoor
