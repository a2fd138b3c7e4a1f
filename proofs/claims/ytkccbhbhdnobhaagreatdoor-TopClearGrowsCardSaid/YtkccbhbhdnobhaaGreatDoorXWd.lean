/- The walks: each function computes its plain function. -/
import Derived.Test.YtkccbhbhdnobhaaGreatDoorXWc
namespace Go.Proofs.YtkccbhbhdnobhaaGreatDoor
open Go.RowKit
set_option maxRecDepth 100000
set_option maxHeartbeats 1000000
theorem uh(N:Nat){w:Bs}(p0:dD)(E:Option Addr)(F:Nat)(i6:Sl w.R w.W dF E F p0.Art.Coppers)(G:Option Addr)(I:Nat)(i7:Sl w.R w.W aB G I p0.Art.Outline)(f:Option Addr)(C:Nat)(g0:Sl w.R w.W dY f C p0.Art.Bores)(g:Option Addr)(j:Nat)(f1:Sl w.R w.W eH g j p0.Art.Lands)(J:Option Addr)(K:Nat)(i8:Sl w.R w.W bM J K p0.Drilled)(M:Option Addr)(P:Nat)(i9:Sl w.R w.W dG M P p0.Pieces)(A:Option Addr)(B:Nat)(f2:Sl w.R w.W fE A B p0.Touched)(d4:Option Addr)(d5:Nat)(h4:List (DE dw))(t9:DC h4 p0.Groups∧cO d4 p0.Groups.length d5)(a6:Option Addr)(a7:Nat)(T:Option Addr)(V:Nat)(o:Option Addr)(q:Nat)(v:Option Addr)(y:Nat)(c:Nat)(r:((List dz)×(List Int)×(List Int)×(List Int)×(List oC)))(H:jW N p0=some r)(hE:HF w w.W (iZ [bx c #[sL E p0.Art.Coppers F,sL G p0.Art.Outline I,sL f p0.Art.Bores C,sL g p0.Art.Lands j,sL J p0.Drilled K,sL M p0.Pieces P,sL A p0.Touched B,sL d4 p0.Groups d5,sL a6 p0.OfPiece a7,sL T p0.OfBore V,sL o p0.OfLand q,sL v p0.AtLand y] 72,dq d4 p0.Groups.length d5 85 159 eu h4,ow a6 a7 3 az p0.OfPiece,ow T V 3 az p0.OfBore,ow o q 3 az p0.OfLand,ow v y 172 dX p0.AtLand])):Calls Tryz.prog 45 [pV c].toArray w.W fun e W'=>∃(w':Bs) (u:(Option Addr×Nat×List (DE dw))×(Option Addr×Nat)×(Option Addr×Nat)×(Option Addr×Nat)×(Option Addr×Nat)),w.Le w'∧e= .returned (.tuple #[])∧((DC u.1.2.2 r.1∧cO u.1.1 r.1.length u.1.2.1)∧cO u.2.1.1 r.2.1.length u.2.1.2∧cO u.2.2.1.1 r.2.2.1.length u.2.2.1.2∧cO u.2.2.2.1.1 r.2.2.2.1.length u.2.2.2.1.2∧cO u.2.2.2.2.1 r.2.2.2.2.length u.2.2.2.2.2)∧HF w' W' (iZ [bx c #[sL E p0.Art.Coppers F,sL G p0.Art.Outline I,sL f p0.Art.Bores C,sL g p0.Art.Lands j,sL J p0.Drilled K,sL M p0.Pieces P,sL A p0.Touched B,sL u.1.1 r.1 u.1.2.1,sL u.2.1.1 r.2.1 u.2.1.2,sL u.2.2.1.1 r.2.2.1 u.2.2.1.2,sL u.2.2.2.1.1 r.2.2.2.1 u.2.2.2.1.2,sL u.2.2.2.2.1 r.2.2.2.2 u.2.2.2.2.2] 72,dq u.1.1 r.1.length u.1.2.1 85 159 eu u.1.2.2,ow u.2.1.1 u.2.1.2 3 az r.2.1,ow u.2.2.1.1 u.2.2.1.2 3 az r.2.2.1,ow u.2.2.2.1.1 u.2.2.2.1.2 3 az r.2.2.2.1,ow u.2.2.2.2.1 u.2.2.2.2.2 172 dX r.2.2.2.2]):=by
 unfold jW at H
 have B4:=(hE.sl (k:=2) O).form
 have B5:=(hE.sl (k:=3) O).form
 have s8:=(hE.sl (k:=4) O).form
 have s9:=(hE.sl (k:=5) O).form
 have leB:=Bs.Le.refl w
 refine aV (n:=226) Tryz.func45 O O O hE (ai (ax O (aH bn O (aH (ag oW) O (aC O (fun _ _ a d=>ah wF (a.ev O) (bR d (vs:=[sL E p0.Art.Coppers F,sL G p0.Art.Outline I,sL f p0.Art.Bores C,sL g p0.Art.Lands j,sL J p0.Drilled K,sL M p0.Pieces P,sL A p0.Touched B,sL d4 p0.Groups d5,sL a6 p0.OfPiece a7,sL T p0.OfBore V,sL o p0.OfLand q,sL v p0.AtLand y]) (k:=0) O 5) O) (aH (bf ze) O (Tr.k O (ae (aa (ai (ax O (ax O (aH bn O (aH (ag ut) O (aH (ag rE) O (aC O (fun _ _ a d=>ah yG (a.ev O) (bR d (vs:=[sL E p0.Art.Coppers F,sL G p0.Art.Outline I,sL f p0.Art.Bores C,sL g p0.Art.Lands j,sL J p0.Drilled K,sL M p0.Pieces P,sL A p0.Touched B,sL d4 p0.Groups d5,sL a6 p0.OfPiece a7,sL T p0.OfBore V,sL o p0.OfLand q,sL v p0.AtLand y]) (k:=0) O 2) O) (aH (bf zf) O (ay bB O O ?_))))))))))))))))))
 obtain⟨l6,y7,H⟩:=bnd H
 refine gG [6,7] [emp,emp] (U:=(Option Addr×Nat)×(Option Addr×Nat)) (fun u=>(.pointer (some ⟨u.2.2,0,none⟩))) (fun u=>cO u.1.1 l6.up.length u.1.2∧True) (fun u=>[ow u.1.1 u.1.2 3 az l6.up,bx u.2.2 #[sL u.1.1 l6.up u.1.2] 207]) O (aN O (aN O bg)) (fun _=>O) (wn O) O Tryz.call88 (aj O aG) (fun W hW hp hE=>wT (bJ ((p0.Pieces.length:Int)+(p0.Art.Bores.length:Int))) l6 y7 hE) ?_
 intro u hu
 obtain⟨⟨m2,m3⟩,⟨B6,b2⟩⟩:=u
 obtain⟨u8,u9⟩:=hu
 have t0:cO m2 l6.up.length m3:=u8 --@phi
 have A4:True:=u9 --@phi
 dsimp only
 refine Tr.k O (ae (aa (av (ai (ax O (aH bn O (aH (ag EM) O (aC O (fun _ _ a d=>ah Ph (a.ev O) (bR d (vs:=[sL E p0.Art.Coppers F,sL G p0.Art.Outline I,sL f p0.Art.Bores C,sL g p0.Art.Lands j,sL J p0.Drilled K,sL M p0.Pieces P,sL A p0.Touched B,sL d4 p0.Groups d5,sL a6 p0.OfPiece a7,sL T p0.OfBore V,sL o p0.OfLand q,sL v p0.AtLand y]) (k:=0) O 6) O) (aH (bf Fe) O (ax O (ae (aa (Tr.block (bO (σ:=(List (List Int))×Nat×(List Int)×(Option Addr)×Nat) (fun m w s=>m=s.1.length+1∧s.1=List.drop s.2.1 p0.Touched∧s.2.1≤p0.Touched.length∧dn N p0 s.1 s.2.1 s.2.2.1=some r∧cO s.2.2.2.1 s.2.2.1.length s.2.2.2.2) (fun s=>[(0,pV c),(2,iv (p0.Pieces.length:Int)),(3,pV b2),(35,sL A p0.Touched B),(36,iv (p0.Touched.length:Int)),(37,iv (s.2.1:Int))]) (fun s=>[(0,bx c #[sL E p0.Art.Coppers F,sL G p0.Art.Outline I,sL f p0.Art.Bores C,sL g p0.Art.Lands j,sL J p0.Drilled K,sL M p0.Pieces P,sL A p0.Touched B,sL d4 p0.Groups d5,sL a6 p0.OfPiece a7,sL T p0.OfBore V,sL o p0.OfLand q,sL v p0.AtLand y] 72),(1,dq d4 p0.Groups.length d5 85 159 eu h4),(2,ow a6 a7 3 az p0.OfPiece),(3,ow T V 3 az p0.OfBore),(4,ow o q 3 az p0.OfLand),(5,ow v y 172 dX p0.AtLand),(6,ow s.2.2.2.1 s.2.2.2.2 3 az s.2.2.1),(7,bx b2 #[sL s.2.2.2.1 s.2.2.1 s.2.2.2.2] 207)]) (p0.Touched.length+1) (p0.Touched,0,l6.up,m2,m3) ⟨O,O,Nat.zero_le _,H,t0⟩ (.r O) (.r O) (fun _ _ h=>absurd h.1 (by simp)) ?_))))))))))))))
 intro w j8 m s hs
 obtain⟨h5,j1,j3,h6,h7⟩:=s
 obtain⟨t1,k8,C5,H,p5⟩:=hs
 replace k8:h5=List.drop j1 p0.Touched:=k8
 replace H:dn N p0 h5 j1 j3=some r:=H
 replace t1:m+1=h5.length+1:=t1
 replace i6:=i6.kL j8
 replace i7:=i7.kL j8
 replace g0:=g0.kL j8
 replace f1:=f1.kL j8
 replace i8:=i8.kL j8
 replace i9:=i9.kL j8
 replace f2:=f2.kL j8
 replace leB:=leB.trans j8
 replace p5:cO h6 j3.length h7:=p5
 obtain rfl:m=h5.length:=by omega
 clear t1
 dsimp only
 cases h5 with
 | nil =>
  rw[dn.eq_1] at H
  refine ai (ay aR O O (ae (aa (av (bX O (bN k8) (bK (aA (aA (aP (aa (av (qa 14 [(13,fun x=>x=c)] [] (by kernel_rfl) (by kernel_rfl) fun u0 A5 B7=>(gM 0 [(56,pV c)] (by kernel_rfl) O O (by kernel_rfl) ?_ O O ?_)))))))))))))
  ·exact eY O (bW (.r O))
  refine bE 1 (by kernel_rfl) O (wn O) O (by kernel_rfl) (fun _ _ a=>run_move (a.ev O)) O (gM 2 [(58,iv (p0.Pieces.length:Int))] (by kernel_rfl) O O (by kernel_rfl) ?_ O O ?_)
  ·exact eY O (bW (.r O))
  refine bE 4 (by kernel_rfl) O (wn O) O (by kernel_rfl) (fun _ _ a=>run_move (a.ev O)) O (bE 5 (by kernel_rfl) O (wn O) O (by kernel_rfl) (fun _ _ a=>bn (a.ev O)) O (bE 6 (by kernel_rfl) O (wn O) O (by kernel_rfl) (fun _ _ a=>ag ut (a.ev O)) O (bE 7 (by kernel_rfl) O (wn O) O (by kernel_rfl) (fun _ _ a=>ag rE (a.ev O)) O (gM 8 [(64,sL f p0.Art.Bores C)] (by kernel_rfl) O O (by kernel_rfl) ?_ O O ?_))))
  ·exact bv O (fun _ _ a d=>ah yG (a.ev O) (bR d (vs:=[sL E p0.Art.Coppers F,sL G p0.Art.Outline I,sL f p0.Art.Bores C,sL g p0.Art.Lands j,sL J p0.Drilled K,sL M p0.Pieces P,sL A p0.Touched B,sL d4 p0.Groups d5,sL a6 p0.OfPiece a7,sL T p0.OfBore V,sL o p0.OfLand q,sL v p0.AtLand y]) (k:=0) O 2) O) (bW (.r O))
  refine bE 9 (by kernel_rfl) O (wn O) O (by kernel_rfl) (fun _ _ a=>bf zf (a.ev O)) O ?_
  obtain⟨d1,u1,H⟩:=bnd H
  obtain⟨f8,p6,H⟩:=bnd H
  refine Dr.cut (U:=Nat×Nat) [3,11,12,10,13] 0 (fun u=>u0≤u.1∧cO (some ⟨u.1,0,none⟩) d1.length d1.length∧u0≤u.2∧cO (some ⟨u.2,0,none⟩) f8.length f8.length) (fun u=>[(0,pV c),(2,iv (p0.Pieces.length:Int)),(3,pV b2),(35,sL A p0.Touched B),(36,iv (p0.Touched.length:Int)),(37,iv (j1:Int)),(38,bV (decide ((j1:Int)<(p0.Touched.length:Int)))),(56,pV c),(57,pV c),(58,iv (p0.Pieces.length:Int)),(59,sL (some ⟨u.1,0,none⟩) d1 d1.length),(60,pV c),(61,pV c),(62,pV c),(63,.pointer (some ⟨c,2,none⟩)),(64,sL f p0.Art.Bores C),(65,iv (p0.Art.Bores.length:Int)),(66,sL (some ⟨u.2,0,none⟩) f8 f8.length),(67,pV c),(68,.pointer (some ⟨c,8,none⟩))]) (fun u=>[(0,bx c #[sL E p0.Art.Coppers F,sL G p0.Art.Outline I,sL f p0.Art.Bores C,sL g p0.Art.Lands j,sL J p0.Drilled K,sL M p0.Pieces P,sL A p0.Touched B,sL d4 p0.Groups d5,sL (some ⟨u.1,0,none⟩) d1 d1.length,sL T p0.OfBore V,sL o p0.OfLand q,sL v p0.AtLand y] 72),(1,dq d4 p0.Groups.length d5 85 159 eu h4),(2,ow a6 a7 3 az p0.OfPiece),(3,ow T V 3 az p0.OfBore),(4,ow o q 3 az p0.OfLand),(5,ow v y 172 dX p0.AtLand),(6,ow h6 h7 3 az j3),(7,bx b2 #[sL h6 j3 h7] 207),(8,ow (some ⟨u.1,0,none⟩) d1.length 3 az d1),(9,ow (some ⟨u.2,0,none⟩) f8.length 3 az f8)]) ?_ ?_
  ·intro hC
   refine Dr.pair 3 10 (by kernel_rfl) ?_ ?_
   ·refine qK 3 8 az 0 O (wn O) O O O jN pI O Et xx O ⟨(),fun _ _=>ql _ _ _ _,O⟩ u1 fun g3 n0 j2=>(bE 11 (by kernel_rfl) O (wn O) O (by kernel_rfl) (fun _ _ a=>bn (a.ev O)) O (gM 12 [(68,.pointer (some ⟨c,8,none⟩))] (by kernel_rfl) O O (by kernel_rfl) ?_ O O ?_))
    ·exact dA (ag xY) O (bW (.r O))
    refine Dr.pair 10 13 (by kernel_rfl) ?_ ?_
    ·exact qK 10 9 az 0 O (wn O) O O O jN pI O Et xx O ⟨(),fun _ _=>ql _ _ _ _,O⟩ p6 fun j4 m4 h8=>(Dr.one 13 (by kernel_rfl) (vk 13 0 (cs:=[sL (some ⟨g3,0,none⟩) d1 d1.length]) [sL E p0.Art.Coppers F,sL G p0.Art.Outline I,sL f p0.Art.Bores C,sL g p0.Art.Lands j,sL J p0.Drilled K,sL M p0.Pieces P,sL A p0.Touched B,sL d4 p0.Groups d5,sL (some ⟨g3,0,none⟩) d1 d1.length,sL T p0.OfBore V,sL o p0.OfLand q,sL v p0.AtLand y] O (wn O) (.inl ⟨_,List.mem_cons_self,O,O⟩) O O O O uN O O O ((hC ⟨g3,j4⟩ ⟨n0,j2,m4,h8⟩).use (by kernel_rfl) (.r O) (.r O))))
    ·exact vk 13 0 (cs:=[sL (some ⟨g3,0,none⟩) d1 d1.length]) [sL E p0.Art.Coppers F,sL G p0.Art.Outline I,sL f p0.Art.Bores C,sL g p0.Art.Lands j,sL J p0.Drilled K,sL M p0.Pieces P,sL A p0.Touched B,sL d4 p0.Groups d5,sL (some ⟨g3,0,none⟩) d1 d1.length,sL T p0.OfBore V,sL o p0.OfLand q,sL v p0.AtLand y] O (wn O) (.inl ⟨_,List.mem_cons_self,O,O⟩) O O O O uN O O O (Dr.one 10 (by kernel_rfl) (qK 10 9 az 0 O (wn O) O O O jN pI O Et xx O ⟨(),fun _ _=>ql _ _ _ _,O⟩ p6 fun j4 m4 h8=>((hC ⟨g3,j4⟩ ⟨n0,j2,m4,h8⟩).use (by kernel_rfl) (.r O) (.r O))))
   ·refine qK 10 9 az 0 O (wn O) O O O jN pI O Et xx O ⟨(),fun _ _=>ql _ _ _ _,O⟩ p6 fun j4 m4 h8=>(Dr.one 3 (by kernel_rfl) (qK 3 8 az 0 O (wn O) O O O jN pI O Et xx O ⟨(),fun _ _=>ql _ _ _ _,O⟩ u1 fun g3 n0 j2=>(bE 11 (by kernel_rfl) O (wn O) O (by kernel_rfl) (fun _ _ a=>bn (a.ev O)) O (gM 12 [(68,.pointer (some ⟨c,8,none⟩))] (by kernel_rfl) O O (by kernel_rfl) ?_ O O ?_))))
    ·exact dA (ag xY) O (bW (.r O))
    exact Dr.one 13 (by kernel_rfl) (vk 13 0 (cs:=[sL (some ⟨g3,0,none⟩) d1 d1.length]) [sL E p0.Art.Coppers F,sL G p0.Art.Outline I,sL f p0.Art.Bores C,sL g p0.Art.Lands j,sL J p0.Drilled K,sL M p0.Pieces P,sL A p0.Touched B,sL d4 p0.Groups d5,sL (some ⟨g3,0,none⟩) d1 d1.length,sL T p0.OfBore V,sL o p0.OfLand q,sL v p0.AtLand y] O (wn O) (.inl ⟨_,List.mem_cons_self,O,O⟩) O O O O uN O O O ((hC ⟨g3,j4⟩ ⟨n0,j2,m4,h8⟩).use (by kernel_rfl) (.r O) (.r O)))
  intro u hu
  obtain⟨g3,j4⟩:=u
  obtain⟨n0,j2,m4,h8⟩:=hu
  replace j2:cO (some ⟨g3,0,none⟩) d1.length d1.length:=j2
  replace h8:cO (some ⟨j4,0,none⟩) f8.length f8.length:=h8
  dsimp only
  refine rH (by kernel_rfl) (aH bn O (aH (ag BD) O (bF 0 (cs:=[sL (some ⟨j4,0,none⟩) f8 f8.length]) [sL E p0.Art.Coppers F,sL G p0.Art.Outline I,sL f p0.Art.Bores C,sL g p0.Art.Lands j,sL J p0.Drilled K,sL M p0.Pieces P,sL A p0.Touched B,sL d4 p0.Groups d5,sL (some ⟨g3,0,none⟩) d1 d1.length,sL (some ⟨j4,0,none⟩) f8 f8.length,sL o p0.OfLand q,sL v p0.AtLand y] (wn O) O O O O uN O O O (ae (aa (av (ai (ax O ?_))))))))
  obtain⟨c6,y8,H⟩:=bnd H
  refine eZ [7,6] [bx b2 #[sL h6 j3 h7] 207,ow h6 h7 3 az j3] (U:=(Option Addr×Nat)×(Option Addr×Nat)) (fun u=>(sL u.1.1 c6.1 u.1.2)) (fun a' W u=>Sl a' W fE u.1.1 u.1.2 c6.1∧cO u.2.1 c6.2.length u.2.2) (fun u=>[bx b2 #[sL u.2.1 c6.2 u.2.2] 207,ow u.2.1 u.2.2 3 az c6.2]) O (aN O (aN O bg)) (fun _=>O) (wn O) O Tryz.call90 (aj O aG) (fun W hW hp hE=>uH N (og.mk j3) h6 h7 b2 c6 y8 hE) ?_
  intro w u k2 hu
  obtain⟨⟨e5,e7⟩,⟨n3,n4⟩⟩:=u
  obtain⟨v0,v3⟩:=hu
  replace i6:=i6.kL k2
  replace i7:=i7.kL k2
  replace g0:=g0.kL k2
  replace f1:=f1.kL k2
  replace i8:=i8.kL k2
  replace i9:=i9.kL k2
  replace f2:=f2.kL k2
  replace leB:=leB.trans k2
  have d9:Sl w.O w.W fE e5 e7 c6.1:=v0 --@phi
  have A6:cO n3 c6.2.length n4:=v3 --@phi
  dsimp only
  refine aH (bf Fe) O (ax O (ae (aa (Tr.block (bO (σ:=(List (List Int))×Nat×(List dz)×(List Int)×(List Int)×(Option Addr)×Nat×(List (DE dw))×(Option Addr)×Nat×(Option Addr)×Nat) (fun m w s=>m=s.1.length+1∧s.1=List.drop s.2.1 c6.1∧s.2.1≤c6.1.length∧dm p0 s.1 s.2.1 s.2.2.1 s.2.2.2.1 s.2.2.2.2.1=some r∧(DC s.2.2.2.2.2.2.2.1 s.2.2.1∧cO s.2.2.2.2.2.1 s.2.2.1.length s.2.2.2.2.2.2.1)∧cO s.2.2.2.2.2.2.2.2.1 s.2.2.2.1.length s.2.2.2.2.2.2.2.2.2.1∧cO s.2.2.2.2.2.2.2.2.2.2.1 s.2.2.2.2.1.length s.2.2.2.2.2.2.2.2.2.2.2) (fun s=>[(0,pV c),(2,iv (p0.Pieces.length:Int)),(72,sL e5 c6.1 e7),(73,iv (c6.1.length:Int)),(74,iv (s.2.1:Int))]) (fun s=>[(0,bx c #[sL E p0.Art.Coppers F,sL G p0.Art.Outline I,sL f p0.Art.Bores C,sL g p0.Art.Lands j,sL J p0.Drilled K,sL M p0.Pieces P,sL A p0.Touched B,sL s.2.2.2.2.2.1 s.2.2.1 s.2.2.2.2.2.2.1,sL s.2.2.2.2.2.2.2.2.1 s.2.2.2.1 s.2.2.2.2.2.2.2.2.2.1,sL s.2.2.2.2.2.2.2.2.2.2.1 s.2.2.2.2.1 s.2.2.2.2.2.2.2.2.2.2.2,sL o p0.OfLand q,sL v p0.AtLand y] 72),(1,dq s.2.2.2.2.2.1 s.2.2.1.length s.2.2.2.2.2.2.1 85 159 eu s.2.2.2.2.2.2.2.1),(2,ow a6 a7 3 az p0.OfPiece),(3,ow T V 3 az p0.OfBore),(4,ow o q 3 az p0.OfLand),(5,ow v y 172 dX p0.AtLand),(8,ow s.2.2.2.2.2.2.2.2.1 s.2.2.2.2.2.2.2.2.2.1 3 az s.2.2.2.1),(9,ow s.2.2.2.2.2.2.2.2.2.2.1 s.2.2.2.2.2.2.2.2.2.2.2 3 az s.2.2.2.2.1)]) (c6.1.length+1) (c6.1,0,p0.Groups,d1,f8,d4,d5,h4,(some ⟨g3,0,none⟩),d1.length,(some ⟨j4,0,none⟩),f8.length) ⟨O,O,Nat.zero_le _,H,⟨t9.1,t9.2⟩,j2,h8⟩ (.r O) (.r O) (fun _ _ h=>absurd h.1 (by simp)) ?_)))))
  intro w g4 m s hs
  obtain⟨h1,k3,c7,b9,c0,b3,b4,d2,a8,a9,b0,b1⟩:=s
  obtain⟨t2,j5,C6,H,j0,n7,n8⟩:=hs
  replace j5:h1=List.drop k3 c6.1:=j5
  replace H:dm p0 h1 k3 c7 b9 c0=some r:=H
  replace t2:m+1=h1.length+1:=t2
  replace i6:=i6.kL g4
  replace i7:=i7.kL g4
  replace g0:=g0.kL g4
  replace f1:=f1.kL g4
  replace i8:=i8.kL g4
  replace i9:=i9.kL g4
  replace f2:=f2.kL g4
  replace d9:=d9.le g4
  replace leB:=leB.trans g4
  replace j0:DC d2 c7∧cO b3 c7.length b4:=j0
  replace n7:cO a8 b9.length a9:=n7
  replace n8:cO b0 c0.length b1:=n8
  obtain rfl:m=h1.length:=by omega
  clear t2
  dsimp only
  cases h1 with
  | nil=>
   rw[dm.eq_1] at H
   refine ai (ay aR O O (ae (aa (av (bX O (bN j5) (bK (aA (aA (aP (aa (ai (ax O (aH bn O (aH (ag ut) O (aH (ag BF) O (aC O (fun _ _ a d=>ah Jv (a.ev O) (bR d (vs:=[sL E p0.Art.Coppers F,sL G p0.Art.Outline I,sL f p0.Art.Bores C,sL g p0.Art.Lands j,sL J p0.Drilled K,sL M p0.Pieces P,sL A p0.Touched B,sL b3 c7 b4,sL a8 b9 a9,sL b0 c0 b1,sL o p0.OfLand q,sL v p0.AtLand y]) (k:=0) O 3) O) (aH (bf KP) O (ax O (ae (aa (Tr.block (bO (σ:=(List pG)×Nat×(List dz)×(List Int)×(List oC)×(Option Addr)×Nat×(List (DE dw))×(Option Addr)×Nat×(Option Addr)×Nat) (fun m w s=>m=s.1.length+1∧s.1=List.drop s.2.1 p0.Art.Lands∧s.2.1≤p0.Art.Lands.length∧cK p0 b9 c0 s.1 s.2.1 s.2.2.1 s.2.2.2.1 s.2.2.2.2.1=some r∧(DC s.2.2.2.2.2.2.2.1 s.2.2.1∧cO s.2.2.2.2.2.1 s.2.2.1.length s.2.2.2.2.2.2.1)∧cO s.2.2.2.2.2.2.2.2.1 s.2.2.2.1.length s.2.2.2.2.2.2.2.2.2.1∧cO s.2.2.2.2.2.2.2.2.2.2.1 s.2.2.2.2.1.length s.2.2.2.2.2.2.2.2.2.2.2) (fun s=>[(0,pV c),(170,sL g p0.Art.Lands j),(171,iv (p0.Art.Lands.length:Int)),(172,iv (s.2.1:Int))]) (fun s=>[(0,bx c #[sL E p0.Art.Coppers F,sL G p0.Art.Outline I,sL f p0.Art.Bores C,sL g p0.Art.Lands j,sL J p0.Drilled K,sL M p0.Pieces P,sL A p0.Touched B,sL s.2.2.2.2.2.1 s.2.2.1 s.2.2.2.2.2.2.1,sL a8 b9 a9,sL b0 c0 b1,sL s.2.2.2.2.2.2.2.2.1 s.2.2.2.1 s.2.2.2.2.2.2.2.2.2.1,sL s.2.2.2.2.2.2.2.2.2.2.1 s.2.2.2.2.1 s.2.2.2.2.2.2.2.2.2.2.2] 72),(1,dq s.2.2.2.2.2.1 s.2.2.1.length s.2.2.2.2.2.2.1 85 159 eu s.2.2.2.2.2.2.2.1),(2,ow a6 a7 3 az p0.OfPiece),(3,ow T V 3 az p0.OfBore),(4,ow s.2.2.2.2.2.2.2.2.1 s.2.2.2.2.2.2.2.2.2.1 3 az s.2.2.2.1),(5,ow s.2.2.2.2.2.2.2.2.2.2.1 s.2.2.2.2.2.2.2.2.2.2.2 172 dX s.2.2.2.2.1),(8,ow a8 a9 3 az b9),(9,ow b0 b1 3 az c0)]) (p0.Art.Lands.length+1) (p0.Art.Lands,0,c7,p0.OfLand,p0.AtLand,b3,b4,d2,o,q,v,y) ⟨O,O,Nat.zero_le _,H,⟨j0.1,j0.2⟩,s8,s9⟩ (.r O) (.r O) (fun _ _ h=>absurd h.1 (by simp)) ?_))))))))))))))))))))))
   intro w j9 m s hs
   obtain⟨h9,k7,e3,d3,c8,d6,d7,k0,c9,d0,b5,b6⟩:=s
   obtain⟨t3,k9,C7,H,h2,p7,p8⟩:=hs
   replace k9:h9=List.drop k7 p0.Art.Lands:=k9
   replace H:cK p0 b9 c0 h9 k7 e3 d3 c8=some r:=H
   replace t3:m+1=h9.length+1:=t3
   replace i6:=i6.kL j9
   replace i7:=i7.kL j9
   replace g0:=g0.kL j9
   replace f1:=f1.kL j9
   replace i8:=i8.kL j9
   replace i9:=i9.kL j9
   replace f2:=f2.kL j9
   replace leB:=leB.trans j9
   replace h2:DC k0 e3∧cO d6 e3.length d7:=h2
   replace p7:cO c9 d3.length d0:=p7
   replace p8:cO b5 c8.length b6:=p8
   obtain rfl:m=h9.length:=by omega
   clear t3
   dsimp only
   cases h9 with
   |nil=>
    rw[cK.eq_1] at H
    refine ai (ay aR O O (ae (aa (av (bX O (bN k9) (bK (aA (aA (aP (yf ?_))))))))))
    obtain rfl:=oI H
    exact bL (m:=[]) [] bD (fun W hW=>⟨w,((d6,d7,k0),(a8,a9),(b0,b1),(c9,d0),(b5,b6)),leB,O,⟨⟨h2.1,h2.2⟩,n7,n8,p7,p8⟩,hW.pick (ks:=[0,1,8,9,4,5]) (by decide) (aN O (aN O (aN O (aN O (aN O (aN O bg))))))⟩)
   | cons Q h9=>
    rw[cK.eq_2] at H
    refine ai (ay aR O O (ae (aa (av (bY O (cu k9) (aJ (aa (av (Tr.block (ai (aC O (fun _ _ a d=>ak Mr (a.ev O) f1.form (a.ev O) (Int.natCast_nonneg _) (aX k9)) (aC O (fun _ _ a d=>aM (cs:=[sv Q.Part,sv Q.Pin,iv Q.Layer,iv Q.At.X,iv Q.At.Y]) Az wZ (a.ev O) (aF.take (rP zM f1 (dI k9) d) 5) O) (Tr.alloc 70 (wn O) O KF fun t4=>(bF 70 (cs:=[sv Q.Part,sv Q.Pin,iv Q.Layer,iv Q.At.X,iv Q.At.Y]) [sv Q.Part,sv Q.Pin,iv Q.Layer,iv Q.At.X,iv Q.At.Y] (wn O) O O O O wZ O O O (ae (aa (ai (ax O (aC O (fun _ _ a d=>aM (cs:=[sv Q.Part,sv Q.Pin,iv Q.Layer,iv Q.At.X,iv Q.At.Y]) Az wZ (a.ev O) (aF.take (bR d (vs:=[sv Q.Part,sv Q.Pin,iv Q.Layer,iv Q.At.X,iv Q.At.Y]) (k:=70) O 0) 5) O) ?_)))))))))))))))))))
    obtain⟨D,y9,H⟩:=bnd H
    refine bu (r:=(.tuple #[.agg #[bV D.1.Bore,iv D.1.Number],bV D.2])) (wn O) O Tryz.call91 (aj O (aj O aG)) (fun W hW=>uL (dD.mk p0.Art p0.Drilled p0.Pieces p0.Touched e3 b9 c0 d3 c8) E F (i6.ext hW.bU) G I (i7.ext hW.bU) f C (g0.ext hW.bU) g j (f1.ext hW.bU) J K (i8.ext hW.bU) M P (i9.ext hW.bU) A B (f2.ext hW.bU) d6 d7 (hW.Mv (k:=1) O h2.1) a8 a9 (hW.oD (k:=8) O) b0 b1 (hW.oD (k:=9) O) c9 d0 (hW.oD (k:=4) O) b5 b6 (hW.oD (k:=5) O) c (hW.Kb (k:=0) O) (hW.Ot (k:=0) O) Q D y9 (HF.start _)) (ax O (aC O (fun _ _ a d=>bA (a.ev O) O) (aC O (fun _ _ a d=>bA (a.ev O) O) (Tr.alloc 71 (wn O) O KD fun k1=>(bF 71 (cs:=[bV D.1.Bore,iv D.1.Number]) [bV D.1.Bore,iv D.1.Number] (wn O) O O O O uD O O O (Tr.k O (ae (aa (ai (Tr.k O (ae (aa ?_))))))))))))
    have s1:=Bs.Le.refl w
    refine sM (σ:=(List dz)×Int×(Option Addr)×Nat×(List (DE dw))) (fun w s=>fH d3 c8 (cK p0 b9 c0 h9 (k7+1)) D s.1 s.2.1=some r∧(DC s.2.2.2.2 s.1∧cO s.2.2.1 s.1.length s.2.2.2.1)) (fun s=>[(0,pV c),(15,pV k1),(17,iv s.2.1),(170,sL g p0.Art.Lands j),(171,iv (p0.Art.Lands.length:Int)),(172,iv (k7:Int))]) (fun s=>[(0,bx c #[sL E p0.Art.Coppers F,sL G p0.Art.Outline I,sL f p0.Art.Bores C,sL g p0.Art.Lands j,sL J p0.Drilled K,sL M p0.Pieces P,sL A p0.Touched B,sL s.2.2.1 s.1 s.2.2.2.1,sL a8 b9 a9,sL b0 c0 b1,sL c9 d3 d0,sL b5 c8 b6] 72),(1,dq s.2.2.1 s.1.length s.2.2.2.1 85 159 eu s.2.2.2.2),(2,ow a6 a7 3 az p0.OfPiece),(3,ow T V 3 az p0.OfBore),(4,ow c9 d0 3 az d3),(5,ow b5 b6 172 dX c8),(8,ow a8 a9 3 az b9),(9,ow b0 b1 3 az c0),(71,bx k1 #[bV D.1.Bore,iv D.1.Number] 172)]) ?_ ?_
    ·refine ai (ax O (ae (aa (aT O H (fun H=>?_) (fun H=>?_)))))
     ·refine ai (ax O (aC O (fun _ _ a d=>aM (cs:=[bV D.1.Bore,iv D.1.Number]) CY uD (a.ev O) (aF.take (bR d (vs:=[bV D.1.Bore,iv D.1.Number]) (k:=71) O 0) 2) O) ?_))
      obtain⟨f9,z0,H⟩:=bnd H
      refine bu (r:=(iv f9)) (wn O) O Tryz.call92 (aj O (aj O aG)) (fun W hW=>si (dD.mk p0.Art p0.Drilled p0.Pieces p0.Touched e3 b9 c0 d3 c8) E F (i6.ext hW.bU) G I (i7.ext hW.bU) f C (g0.ext hW.bU) g j (f1.ext hW.bU) J K (i8.ext hW.bU) M P (i9.ext hW.bU) A B (f2.ext hW.bU) d6 d7 (hW.Mv (k:=1) O h2.1) a8 a9 (hW.oD (k:=8) O) b0 b1 (hW.oD (k:=9) O) c9 d0 (hW.oD (k:=4) O) b5 b6 (hW.oD (k:=5) O) c (hW.Kb (k:=0) O) (hW.Ot (k:=0) O) D.1 f9 z0 (HF.start _)) (Tr.k O (ae (aa ?_)))
      obtain⟨c3,z1,H⟩:=bnd H
      obtain⟨s2,s3,w3⟩:=bi z1
      refine Kg 1 77 78 (i:=(f9).toNat) O O O w3 O h2.1 fun A7 p4 s4 l7=>?_
      obtain⟨⟨i1,i2⟩,⟨i3,i4⟩,⟨e8,e9⟩⟩:=A7
      have s5:Sl w.O w.W az i1 i2 c3.Pieces:=p4.1
      have s6:Sl w.O w.W az i3 i4 c3.Bores:=p4.2
      replace s4:cO e8 c3.Pins.length e9:=s4
      replace l7:DT k0 e3 (f9).toNat ((i1,i2),(i3,i4),(e8,e9)) c3:=l7
      show Tr _ _ _ (up (up (up _ 1 (ow d6 d7 85 (HV (Ea eu)) (qo k0 (f9).toNat (raw (Ea eu) [sL i1 c3.Pieces i2,sL i3 c3.Bores i4,sL e8 c3.Pins e9] O O)))) 77 (ins 159 om ((List.set k0 (f9).toNat ⟨((i1,i2),(i3,i4),(e8,e9)),c3,false⟩).map (ne eu)))) 78 (ow e8 e9 159 om c3.Pins)) _
      refine qa 17 [(16,(ow e8 e9 159 om c3.Pins).S)] [] (by kernel_rfl) (by kernel_rfl) fun p9 A8 B8=>(bE 0 (by kernel_rfl) O (wn O) O (by kernel_rfl) (fun _ _ a=>run_move (a.ev O)) O (bE 1 (by kernel_rfl) O (wn O) O (by kernel_rfl) (fun _ _ a=>bn (a.ev O)) O (bE 2 (by kernel_rfl) O (wn O) O (by kernel_rfl) (fun _ _ a=>ag uq (a.ev O)) O (iF 3 [(189,sL d6 e3 d7)] [16] false (by kernel_rfl) O O (by kernel_rfl) (fun W W' d hsW hk=>HF.pW (le:=[(0,bx c #[sL E p0.Art.Coppers F,sL G p0.Art.Outline I,sL f p0.Art.Bores C,sL g p0.Art.Lands j,sL J p0.Drilled K,sL M p0.Pieces P,sL A p0.Touched B,sL d6 e3 d7,sL a8 b9 a9,sL b0 c0 b1,sL c9 d3 d0,sL b5 c8 b6] 72)]) (ks:=[(78,(ow e8 e9 159 om c3.Pins).S)]) (s0:=p9) false d hk (fun h=>absurd h (by decide)) (.r O) (fun b hb=>hb.elim (fun⟨p,hp,hf,hb⟩=>by simp only[List.mem_cons,List.not_mem_nil,or_false] at hp;rcases hp with rfl;exact .inl ⟨_,List.mem_cons_self,hb⟩) (fun hb=>absurd hb.1 (by decide))) (List.forall_mem_cons.2 ⟨fun b hb=>hb,(fun _ h=>nomatch h)⟩) rfl) ?_ rfl rfl ?_))))
      ·exact bv O (fun _ _ a d=>ah CX (a.ev O) (bR d (vs:=[sL E p0.Art.Coppers F,sL G p0.Art.Outline I,sL f p0.Art.Bores C,sL g p0.Art.Lands j,sL J p0.Drilled K,sL M p0.Pieces P,sL A p0.Touched B,sL d6 e3 d7,sL a8 b9 a9,sL b0 c0 b1,sL c9 d3 d0,sL b5 c8 b6]) (k:=0) O 7) O) (bW (.r O))
      refine bE 4 (by kernel_rfl) O (wn O) O (by kernel_rfl) (fun _ _ a=>run_move (a.ev O)) O (bE 5 (by kernel_rfl) O (wn O) O (by kernel_rfl) (fun _ _ a=>run_move (a.ev O)) O (bE 6 (by kernel_rfl) O (wn O) O (by kernel_rfl) (fun _ _ a=>bn (a.ev O)) O (bE 7 (by kernel_rfl) O (wn O) O (by kernel_rfl) (fun _ _ a=>ag uq (a.ev O)) O (iF 8 [(194,sL d6 e3 d7)] [16] false (by kernel_rfl) O O (by kernel_rfl) (fun W W' d hsW hk=>HF.pW (le:=[(0,bx c #[sL E p0.Art.Coppers F,sL G p0.Art.Outline I,sL f p0.Art.Bores C,sL g p0.Art.Lands j,sL J p0.Drilled K,sL M p0.Pieces P,sL A p0.Touched B,sL d6 e3 d7,sL a8 b9 a9,sL b0 c0 b1,sL c9 d3 d0,sL b5 c8 b6] 72)]) (ks:=[(78,(ow e8 e9 159 om c3.Pins).S)]) (s0:=p9) false d hk (fun h=>absurd h (by decide)) (.r O) (fun b hb=>hb.elim (fun⟨p,hp,hf,hb⟩=>by simp only[List.mem_cons,List.not_mem_nil,or_false] at hp;rcases hp with rfl;exact .inl ⟨_,List.mem_cons_self,hb⟩) (fun hb=>absurd hb.1 (by decide))) (List.forall_mem_cons.2 ⟨fun b hb=>hb,(fun _ h=>nomatch h)⟩) rfl) ?_ rfl rfl ?_))))
      ·exact bv O (fun _ _ a d=>ah CX (a.ev O) (bR d (vs:=[sL E p0.Art.Coppers F,sL G p0.Art.Outline I,sL f p0.Art.Bores C,sL g p0.Art.Lands j,sL J p0.Drilled K,sL M p0.Pieces P,sL A p0.Touched B,sL d6 e3 d7,sL a8 b9 a9,sL b0 c0 b1,sL c9 d3 d0,sL b5 c8 b6]) (k:=0) O 7) O) (bW (.r O))
      refine bE 9 (by kernel_rfl) O (wn O) O (by kernel_rfl) (fun _ _ a=>run_move (a.ev O)) O (bE 10 (by kernel_rfl) O (wn O) O (by kernel_rfl) (fun _ _ a=>ak Jo (a.ev O) h2.2 (a.ev O) s2 s3) O (bE 11 (by kernel_rfl) O (wn O) O (by kernel_rfl) (fun _ _ a=>ag Ja (a.ev O)) O (gM 12 [(198,sL e8 c3.Pins e9)] (by kernel_rfl) O O (by kernel_rfl) ?_ O O ?_)))
      ·exact bv O (fun _ _ a d=>ah Rs (a.ev O) (aF.drop (Ta (cs:=raw (Ea eu) [sL i1 c3.Pieces i2,sL i3 c3.Bores i4,sL e8 c3.Pins e9] O O) d (κ:=1) O (l7.hi)) 2) O) (bW (.r O))
      refine iF 13 [(199,.agg #[sv Q.Part,sv Q.Pin,iv Q.Layer,iv Q.At.X,iv Q.At.Y])] [16] false (by kernel_rfl) O O (by kernel_rfl) (fun W W' d hsW hk=>HF.pW (le:=[(70,bx t4 #[sv Q.Part,sv Q.Pin,iv Q.Layer,iv Q.At.X,iv Q.At.Y] 155)]) (ks:=[(78,(ow e8 e9 159 om c3.Pins).S)]) (s0:=p9) false d hk (fun h=>absurd h (by decide)) (.r O) (fun b hb=>hb.elim (fun⟨p,hp,hf,hb⟩=>by simp only[List.mem_cons,List.not_mem_nil,or_false] at hp;rcases hp with rfl;exact .inl ⟨_,List.mem_cons_self,hb⟩) (fun hb=>absurd hb.1 (by decide))) (List.forall_mem_cons.2 ⟨fun b hb=>hb,(fun _ h=>nomatch h)⟩) rfl) ?_ rfl rfl ?_
      ·exact bv O (fun _ _ a d=>aM (cs:=[sv Q.Part,sv Q.Pin,iv Q.Layer,iv Q.At.X,iv Q.At.Y]) Az wZ (a.ev O) (aF.take (bR d (vs:=[sv Q.Part,sv Q.Pin,iv Q.Layer,iv Q.At.X,iv Q.At.Y]) (k:=70) O 0) 5) O) (bW (.r O))
      obtain⟨g5,z2,H⟩:=bnd H
      refine gM 14 [(200,.agg #[sv g5.Part,sv g5.Pin])] (by kernel_rfl) O O (by kernel_rfl) ?_ O O ?_
      ·exact jB (r:=(.agg #[sv g5.Part,sv g5.Pin])) (wn O) O Tryz.call80 (aj O aG) (fun W hW=>qU Q g5 z2 (HF.start _)) (bW (.r O))
      refine Dr.one 15 (by kernel_rfl) (jX 15 79 (e:=159) (vs:=[(0,.agg #[sv g5.Part,sv g5.Pin])]) (cs:=[sv g5.Part,sv g5.Pin]) O (wn O) O (bz O dE) (by kernel_rfl) fun C8 C1=>?_)
      obtain⟨k5,z3,H⟩:=bnd H
      refine Dr.one 16 (by kernel_rfl) (St.append 16 78 (t':=om) (ll:=c3.Pins) (l2:=[(wK.mk g5.Part g5.Pin)]) (fun b hb=>.inl ⟨_,List.mem_cons_self,O,hb⟩) O (wn O) O O O O (fun W hW=>⟨[[sv g5.Part,sv g5.Pin]],(.cons ⟨(),trivial,O⟩ .nil),bR hW (vs:=[sv g5.Part,sv g5.Pin]) (k:=79) O 0⟩) QE G6 Px (by decide) Qf O z3 fun q0 q1 w4=>(rH (by kernel_rfl) (aC O (fun _ _ a d=>ak Jo (a.ev O) h2.2 (a.ev O) s2 s3) (aH (ag Ja) O (GA 1 (raw (Ea eu) [sL i1 c3.Pieces i2,sL i3 c3.Bores i4,sL q0 k5 q1] O O) (cs:=[sL q0 k5 q1]) (fo:=2) (wn O) O O O O O (l7.hi) QJ O O O (ae (MW (L:=eu) 1 77 78 (u:=((i1,i2),(i3,i4),(q0,q1))) (x':=(dz.mk c3.Pieces c3.Bores k5)) O O O O O O l7 ⟨s5,s6⟩ O O O w4 fun u2 v4=>?_)))))))
      have m5:(List.set e3 (f9).toNat (dz.mk c3.Pieces c3.Bores k5)).length=e3.length:=List.length_set
      have v5:cO d6 (List.set e3 (f9).toNat (dz.mk c3.Pieces c3.Bores k5)).length d7:=by rw[m5];exact h2.2
      exact Tr.vC (lf:=[(0,pV c),(14,pV t4),(15,pV k1),(16,bV D.2),(17,iv f9),(170,sL g p0.Art.Lands j),(171,iv (p0.Art.Lands.length:Int)),(172,iv (k7:Int)),(173,bV (decide ((k7:Int)<(p0.Art.Lands.length:Int)))),(174,.pointer (some ⟨mY g,qj g+((k7:Int)).toNat*5,none⟩)),(175,.agg #[sv Q.Part,sv Q.Pin,iv Q.Layer,iv Q.At.X,iv Q.At.Y]),(176,(.tuple #[.agg #[bV D.1.Bore,iv D.1.Number],bV D.2])),(177,pV c),(178,.agg #[sv Q.Part,sv Q.Pin,iv Q.Layer,iv Q.At.X,iv Q.At.Y]),(179,(.tuple #[.agg #[bV D.1.Bore,iv D.1.Number],bV D.2])),(180,.agg #[bV D.1.Bore,iv D.1.Number]),(181,bV D.2),(182,bV D.2),(183,pV c),(184,.agg #[bV D.1.Bore,iv D.1.Number]),(185,iv f9),(186,pV c),(187,pV c),(188,.pointer (some ⟨c,7,none⟩)),(189,sL d6 ((List.set e3 (f9).toNat (dz.mk c3.Pieces c3.Bores k5))) d7),(190,iv f9),(191,pV c),(192,pV c),(193,.pointer (some ⟨c,7,none⟩)),(194,sL d6 ((List.set e3 (f9).toNat (dz.mk c3.Pieces c3.Bores k5))) d7),(195,iv f9),(199,.agg #[sv Q.Part,sv Q.Pin,iv Q.Layer,iv Q.At.X,iv Q.At.Y]),(200,.agg #[sv g5.Part,sv g5.Pin])]) (le:=[(0,bx c #[sL E p0.Art.Coppers F,sL G p0.Art.Outline I,sL f p0.Art.Bores C,sL g p0.Art.Lands j,sL J p0.Drilled K,sL M p0.Pieces P,sL A p0.Touched B,sL d6 ((List.set e3 (f9).toNat (dz.mk c3.Pieces c3.Bores k5))) d7,sL a8 b9 a9,sL b0 c0 b1,sL c9 d3 d0,sL b5 c8 b6] 72),(1,dq d6 ((List.set e3 (f9).toNat (dz.mk c3.Pieces c3.Bores k5))).length d7 85 159 eu u2),(2,ow a6 a7 3 az p0.OfPiece),(3,ow T V 3 az p0.OfBore),(4,ow c9 d0 3 az d3),(5,ow b5 b6 172 dX c8),(8,ow a8 a9 3 az b9),(9,ow b0 b1 3 az c0),(70,bx t4 #[sv Q.Part,sv Q.Pin,iv Q.Layer,iv Q.At.X,iv Q.At.Y] 155),(71,bx k1 #[bV D.1.Bore,iv D.1.Number] 172)]) (.cons O (.cons O (.cons O (.cons O (.cons O (.cons O (.cons O (.cons O (.cons O (.cons O (.cons O (.cons O (.cons O (.cons O (.cons O (.cons O (.cons O (.cons O (.cons O (.cons O (.cons O (.cons O (.cons O (.cons O (.cons (jc O (by unfold sL;rw[m5])) (.cons O (.cons O (.cons O (.cons O (.cons (jc O (by unfold sL;rw[m5])) (.r O))))))))))))))))))))))))))))))) (.cons (J4 O (by unfold sL;rw[m5])) (.r O)) (aI s1 ((List.set e3 (f9).toNat (dz.mk c3.Pieces c3.Bores k5)),f9,d6,d7,u2) ⟨H,⟨v4,v5⟩⟩ (.r O) (.r O))
     ·exact aJ (aI s1 (e3,(-1),d6,d7,k0) ⟨H,⟨h2.1,h2.2⟩⟩ (.r O) (.r O))
    ·intro w s s7 hs
     obtain⟨h0,f3,g1,g2,l8⟩:=s
     obtain⟨H,n9⟩:=hs
     replace H:fH d3 c8 (cK p0 b9 c0 h9 (k7+1)) D h0 f3=some r:=H
     replace f1:=f1.kL s7
     replace j9:=j9.trans s7
     replace n9:DC l8 h0∧cO g1 h0.length g2:=n9
     unfold fH at H
     dsimp only
     refine qa 19 [(8,(ow c9 d0 3 az d3).S),(15,(ow b5 b6 172 dX c8).S),(18,fun x=>x=c)] [] (by kernel_rfl) (by kernel_rfl) fun n1 A9 B9=>(bE 0 (by kernel_rfl) O (wn O) O (by kernel_rfl) (fun _ _ a=>run_move (a.ev O)) O (bE 1 (by kernel_rfl) O (wn O) O (by kernel_rfl) (fun _ _ a=>run_move (a.ev O)) O (bE 2 (by kernel_rfl) O (wn O) O (by kernel_rfl) (fun _ _ a=>run_move (a.ev O)) O (bE 3 (by kernel_rfl) O (wn O) O (by kernel_rfl) (fun _ _ a=>bn (a.ev O)) O (bE 4 (by kernel_rfl) O (wn O) O (by kernel_rfl) (fun _ _ a=>ag Jc (a.ev O)) O (iF 5 [(210,sL c9 d3 d0)] [15] false (by kernel_rfl) O O (by kernel_rfl) (fun W W' d hsW hk=>HF.pW (le:=[(0,bx c #[sL E p0.Art.Coppers F,sL G p0.Art.Outline I,sL f p0.Art.Bores C,sL g p0.Art.Lands j,sL J p0.Drilled K,sL M p0.Pieces P,sL A p0.Touched B,sL g1 h0 g2,sL a8 b9 a9,sL b0 c0 b1,sL c9 d3 d0,sL b5 c8 b6] 72)]) (ks:=[(5,(ow b5 b6 172 dX c8).S)]) (s0:=n1) false d hk (fun h=>absurd h (by decide)) (.r O) (fun b hb=>hb.elim (fun⟨p,hp,hf,hb⟩=>by simp only[List.mem_cons,List.not_mem_nil,or_false] at hp;rcases hp with rfl|rfl|rfl;exact absurd hf (by simp);exact .inl ⟨_,List.mem_cons_self,hb⟩;exact absurd hf (by simp)) (fun hb=>absurd hb.1 (by decide))) (List.forall_mem_cons.2 ⟨fun b hb=>hb,(fun _ h=>nomatch h)⟩) rfl) ?_ rfl rfl ?_))))))
     ·exact bv O (fun _ _ a d=>ah gU (a.ev O) (bR d (vs:=[sL E p0.Art.Coppers F,sL G p0.Art.Outline I,sL f p0.Art.Bores C,sL g p0.Art.Lands j,sL J p0.Drilled K,sL M p0.Pieces P,sL A p0.Touched B,sL g1 h0 g2,sL a8 b9 a9,sL b0 c0 b1,sL c9 d3 d0,sL b5 c8 b6]) (k:=0) O 10) O) (bW (.r O))
     refine bE 6 (by kernel_rfl) O (wn O) O (by kernel_rfl) (fun _ _ a=>run_move (a.ev O)) O (bE 9 (by kernel_rfl) O (wn O) O (by kernel_rfl) (fun _ _ a=>run_move (a.ev O)) O (bE 10 (by kernel_rfl) O (wn O) O (by kernel_rfl) (fun _ _ a=>bn (a.ev O)) O (bE 11 (by kernel_rfl) O (wn O) O (by kernel_rfl) (fun _ _ a=>ag Jb (a.ev O)) O (iF 12 [(217,sL b5 c8 b6)] [8] false (by kernel_rfl) O O (by kernel_rfl) (fun W W' d hsW hk=>HF.pW (le:=[(0,bx c #[sL E p0.Art.Coppers F,sL G p0.Art.Outline I,sL f p0.Art.Bores C,sL g p0.Art.Lands j,sL J p0.Drilled K,sL M p0.Pieces P,sL A p0.Touched B,sL g1 h0 g2,sL a8 b9 a9,sL b0 c0 b1,sL c9 d3 d0,sL b5 c8 b6] 72)]) (ks:=[(4,(ow c9 d0 3 az d3).S)]) (s0:=n1) false d hk (fun h=>absurd h (by decide)) (.r O) (fun b hb=>hb.elim (fun⟨p,hp,hf,hb⟩=>by simp only[List.mem_cons,List.not_mem_nil,or_false] at hp;rcases hp with rfl|rfl|rfl;exact .inl ⟨_,List.mem_cons_self,hb⟩;exact absurd hf (by simp);exact absurd hf (by simp)) (fun hb=>absurd hb.1 (by decide))) (List.forall_mem_cons.2 ⟨fun b hb=>hb,(fun _ h=>nomatch h)⟩) rfl) ?_ rfl rfl ?_))))
     ·exact bv O (fun _ _ a d=>ah Ru (a.ev O) (bR d (vs:=[sL E p0.Art.Coppers F,sL G p0.Art.Outline I,sL f p0.Art.Bores C,sL g p0.Art.Lands j,sL J p0.Drilled K,sL M p0.Pieces P,sL A p0.Touched B,sL g1 h0 g2,sL a8 b9 a9,sL b0 c0 b1,sL c9 d3 d0,sL b5 c8 b6]) (k:=0) O 11) O) (bW (.r O))
     refine iF 13 [(218,.agg #[bV D.1.Bore,iv D.1.Number])] [8,15,18] false (by kernel_rfl) O O (by kernel_rfl) (fun W W' d hsW hk=>HF.pW (le:=[(71,bx k1 #[bV D.1.Bore,iv D.1.Number] 172)]) (ks:=[(4,(ow c9 d0 3 az d3).S),(5,(ow b5 b6 172 dX c8).S),(0,fun x=>x=c)]) (s0:=n1) false d hk (fun h=>absurd h (by decide)) (.r O) (fun b hb=>hb.elim (fun⟨p,hp,hf,hb⟩=>by simp only[List.mem_cons,List.not_mem_nil,or_false] at hp;rcases hp with rfl|rfl|rfl;exact .inl ⟨_,List.mem_cons_self,hb⟩;exact .inl ⟨_,(List.mem_cons_of_mem _ List.mem_cons_self),hb⟩;exact .inl ⟨_,(List.mem_cons_of_mem _ (List.mem_cons_of_mem _ List.mem_cons_self)),hb⟩) (fun hb=>absurd hb.1 (by decide))) (List.forall_mem_cons.2 ⟨fun b hb=>hb,(List.forall_mem_cons.2 ⟨fun b hb=>hb,(List.forall_mem_cons.2 ⟨fun b hb=>hb,(fun _ h=>nomatch h)⟩)⟩)⟩) rfl) ?_ rfl rfl ?_
     ·exact bv O (fun _ _ a d=>aM (cs:=[bV D.1.Bore,iv D.1.Number]) CY uD (a.ev O) (aF.take (bR d (vs:=[bV D.1.Bore,iv D.1.Number]) (k:=71) O 0) 2) O) (bW (.r O))
     obtain⟨k6,q2,H⟩:=bnd H
     refine Dr.cut (U:=Nat×Option Addr×Nat×Nat) [7,8,14] 4 (fun u=>n1≤u.1∧cO u.2.1 k6.length u.2.2.1∧n1≤u.2.2.2) (fun u=>[(0,pV c),(15,pV k1),(17,iv f3),(170,sL g p0.Art.Lands j),(171,iv (p0.Art.Lands.length:Int)),(172,iv (k7:Int)),(205,pV c),(206,pV c),(207,pV c),(208,pV c),(209,.pointer (some ⟨c,10,none⟩)),(211,iv f3),(213,sL u.2.1 k6 u.2.2.1),(214,pV c),(215,pV c),(216,.pointer (some ⟨c,11,none⟩)),(217,sL b5 c8 b6),(218,.agg #[bV D.1.Bore,iv D.1.Number]),(219,.slice (some ⟨u.2.2.2,0,none⟩) 1 1)]) (fun u=>[(0,bx c #[sL E p0.Art.Coppers F,sL G p0.Art.Outline I,sL f p0.Art.Bores C,sL g p0.Art.Lands j,sL J p0.Drilled K,sL M p0.Pieces P,sL A p0.Touched B,sL g1 h0 g2,sL a8 b9 a9,sL b0 c0 b1,sL c9 d3 d0,sL b5 c8 b6] 72),(1,dq g1 h0.length g2 85 159 eu l8),(2,ow a6 a7 3 az p0.OfPiece),(3,ow T V 3 az p0.OfBore),(4,ow u.2.1 u.2.2.1 3 az k6),(5,ow b5 b6 172 dX c8),(8,ow a8 a9 3 az b9),(9,ow b0 b1 3 az c0),(71,bx k1 #[bV D.1.Bore,iv D.1.Number] 172),(76,bx u.2.2.2 #[bV D.1.Bore,iv D.1.Number] 172)]) ?_ ?_
     ·intro hC
      refine Dr.pair 7 14 (by kernel_rfl) ?_ ?_
      ·refine jX 7 75 (e:=3) (vs:=[(0,iv f3)]) (cs:=[iv f3]) O (wn O) O (bz O dE) (by kernel_rfl) fun o4 n2=>(Dr.pair 8 14 (by kernel_rfl) ?_ ?_)
       ·exact St.append 8 4 (t':=az) (ll:=d3) (l2:=[f3]) (fun b hb=>.inl ⟨_,List.mem_cons_self,O,hb⟩) O (wn O) O O O O (fun W hW=>⟨[[iv f3]],(.cons ⟨(),trivial,O⟩ .nil),bR hW (vs:=[iv f3]) (k:=75) O 0⟩) jN pI Dl (by decide) xx O q2 fun g7 g8 i0=>(Dr.one 14 (by kernel_rfl) (jX 14 76 (e:=172) (vs:=[(0,.agg #[bV D.1.Bore,iv D.1.Number])]) (cs:=[bV D.1.Bore,iv D.1.Number]) O (wn O) O (bz O dE) (by kernel_rfl) fun l9 m6=>((hC ⟨o4,g7,g8,l9⟩ ⟨n2,i0,m6⟩).use (by kernel_rfl) (.r O) (.r O))))
       ·exact jX 14 76 (e:=172) (vs:=[(0,.agg #[bV D.1.Bore,iv D.1.Number])]) (cs:=[bV D.1.Bore,iv D.1.Number]) O (wn O) O (bz O dE) (by kernel_rfl) fun l9 m6=>(Dr.one 8 (by kernel_rfl) (St.append 8 4 (t':=az) (ll:=d3) (l2:=[f3]) (fun b hb=>.inl ⟨_,List.mem_cons_self,O,hb⟩) O (wn O) O O O O (fun W hW=>⟨[[iv f3]],(.cons ⟨(),trivial,O⟩ .nil),bR hW (vs:=[iv f3]) (k:=75) O 0⟩) jN pI Dl (by decide) xx O q2 fun g7 g8 i0=>((hC ⟨o4,g7,g8,l9⟩ ⟨n2,i0,m6⟩).use (by kernel_rfl) (.r O) (.r O))))
      ·exact jX 14 76 (e:=172) (vs:=[(0,.agg #[bV D.1.Bore,iv D.1.Number])]) (cs:=[bV D.1.Bore,iv D.1.Number]) O (wn O) O (bz O dE) (by kernel_rfl) fun l9 m6=>(Dr.one 7 (by kernel_rfl) (jX 7 75 (e:=3) (vs:=[(0,iv f3)]) (cs:=[iv f3]) O (wn O) O (bz O dE) (by kernel_rfl) fun o4 n2=>(Dr.one 8 (by kernel_rfl) (St.append 8 4 (t':=az) (ll:=d3) (l2:=[f3]) (fun b hb=>.inl ⟨_,List.mem_cons_self,O,hb⟩) O (wn O) O O O O (fun W hW=>⟨[[iv f3]],(.cons ⟨(),trivial,O⟩ .nil),bR hW (vs:=[iv f3]) (k:=75) O 0⟩) jN pI Dl (by decide) xx O q2 fun g7 g8 i0=>((hC ⟨o4,g7,g8,l9⟩ ⟨n2,i0,m6⟩).use (by kernel_rfl) (.r O) (.r O))))))
     intro u hu
     obtain⟨o4,g7,g8,l9⟩:=u
     obtain⟨n2,i0,m6⟩:=hu
     replace i0:cO g7 k6.length g8:=i0
     dsimp only
     obtain⟨t5,z4,H⟩:=bnd H
     refine Dr.one 15 (by kernel_rfl) (St.append 15 5 (t':=dX) (ll:=c8) (l2:=[D.1]) (fun b hb=>.inl ⟨_,(List.mem_cons_of_mem _ List.mem_cons_self),O,hb⟩) O (wn O) O O O O (fun W hW=>⟨[[bV D.1.Bore,iv D.1.Number]],(.cons ⟨(),trivial,O⟩ .nil),bR hW (vs:=[bV D.1.Bore,iv D.1.Number]) (k:=76) O 0⟩) QF uD Pw (by decide) Qe O z4 fun q3 q4 w5=>(bE 16 (by kernel_rfl) O (wn O) O (by kernel_rfl) (fun _ _ a=>bn (a.ev O)) O (gM 17 [(222,.pointer (some ⟨c,10,none⟩))] (by kernel_rfl) O O (by kernel_rfl) ?_ O O ?_)))
     ·exact dA (ag Jc) O (bW (.r O))
     exact Dr.one 18 (by kernel_rfl) (vk 18 0 (cs:=[sL g7 k6 g8]) [sL E p0.Art.Coppers F,sL G p0.Art.Outline I,sL f p0.Art.Bores C,sL g p0.Art.Lands j,sL J p0.Drilled K,sL M p0.Pieces P,sL A p0.Touched B,sL g1 h0 g2,sL a8 b9 a9,sL b0 c0 b1,sL g7 k6 g8,sL b5 c8 b6] O (wn O) (.inl ⟨_,(List.mem_cons_of_mem _ (List.mem_cons_of_mem _ List.mem_cons_self)),O,O⟩) O O O O uN O O O (rH (by kernel_rfl) (aH bn O (aH (ag Jb) O (bF 0 (cs:=[sL q3 t5 q4]) [sL E p0.Art.Coppers F,sL G p0.Art.Outline I,sL f p0.Art.Bores C,sL g p0.Art.Lands j,sL J p0.Drilled K,sL M p0.Pieces P,sL A p0.Touched B,sL g1 h0 g2,sL a8 b9 a9,sL b0 c0 b1,sL g7 k6 g8,sL q3 t5 q4] (wn O) O O O O QK O O O (ae (aK (aa (Tr.region (ay bB O O (ax O (ae (aI j9 (h9,(k7+1),h0,k6,t5,g1,g2,l8,g7,g8,q3,q4) ⟨O,bT k9,aX k9,H,⟨n9.1,n9.2⟩,i0,w5⟩ (.cons O (.cons O (.cons O (.cons (congrArg (fun z=>some (Value.int .i64 z)) (bS k9 f1.form)) .nil)))) (.r O))))))))))))))
  | cons f7 h1=>
   rw[dm.eq_2] at H
   refine ai (ay aR O O (ae (aa (av (bY O (cu j5) (aJ (aa (av (Tr.block (ai ?_))))))))))
   obtain⟨B0,o5,v6,w6⟩:=(d9).el (dI j5)
   obtain⟨d8,h3⟩:=B0
   have e6:=v6
   replace e6:Sl w.O w.W az d8 h3 f7:=e6
   replace o5:w.R (mY e5):=Or.inl o5
   refine aC O (fun _ _ a d=>ak Jn (a.ev O) d9.form (a.ev O) (Int.natCast_nonneg _) (aX j5)) (aC O (fun _ _ a d=>ah gU (a.ev O) (qY o5 w6 d) O) (Tr.k O (ae (aa (ai (Tr.alloc 80 (wn O) O QA fun f4=>(ae (aa (av (ai (ax O (aH (bf jN) O (ax O (ae (aa (Tr.block (bC 93 3 az (bC 94 3 az (bO (σ:=(List Int)×Nat×(List Int)×(List Int)×(List Int)×(List Int)×(Option Addr)×Nat×(Option Addr)×Nat×(Option Addr)×Nat×(Option Addr)×Nat) (fun m w s=>m=s.1.length+1∧s.1=List.drop s.2.1 f7∧s.2.1≤f7.length∧cZ p0 c7 (dm p0 h1 (k3+1)) s.1 s.2.1 s.2.2.1 s.2.2.2.1 s.2.2.2.2.1 s.2.2.2.2.2.1=some r∧cO s.2.2.2.2.2.2.1 s.2.2.1.length s.2.2.2.2.2.2.2.1∧cO s.2.2.2.2.2.2.2.2.1 s.2.2.2.1.length s.2.2.2.2.2.2.2.2.2.1∧cO s.2.2.2.2.2.2.2.2.2.2.1 s.2.2.2.2.1.length s.2.2.2.2.2.2.2.2.2.2.2.1∧cO s.2.2.2.2.2.2.2.2.2.2.2.2.1 s.2.2.2.2.2.1.length s.2.2.2.2.2.2.2.2.2.2.2.2.2) (fun s=>[(0,pV c),(2,iv (p0.Pieces.length:Int)),(10,pV f4),(72,sL e5 c6.1 e7),(73,iv (c6.1.length:Int)),(74,iv (k3:Int)),(78,sL d8 f7 h3),(79,iv (f7.length:Int)),(80,iv (s.2.1:Int))]) (fun s=>[(0,bx c #[sL E p0.Art.Coppers F,sL G p0.Art.Outline I,sL f p0.Art.Bores C,sL g p0.Art.Lands j,sL J p0.Drilled K,sL M p0.Pieces P,sL A p0.Touched B,sL b3 c7 b4,sL s.2.2.2.2.2.2.1 s.2.2.1 s.2.2.2.2.2.2.2.1,sL s.2.2.2.2.2.2.2.2.1 s.2.2.2.1 s.2.2.2.2.2.2.2.2.2.1,sL o p0.OfLand q,sL v p0.AtLand y] 72),(1,dq b3 c7.length b4 85 159 eu d2),(2,ow a6 a7 3 az p0.OfPiece),(3,ow T V 3 az p0.OfBore),(4,ow o q 3 az p0.OfLand),(5,ow v y 172 dX p0.AtLand),(8,ow s.2.2.2.2.2.2.1 s.2.2.2.2.2.2.2.1 3 az s.2.2.1),(9,ow s.2.2.2.2.2.2.2.2.1 s.2.2.2.2.2.2.2.2.2.1 3 az s.2.2.2.1),(80,bx f4 #[sL s.2.2.2.2.2.2.2.2.2.2.1 s.2.2.2.2.1 s.2.2.2.2.2.2.2.2.2.2.2.1,sL s.2.2.2.2.2.2.2.2.2.2.2.2.1 s.2.2.2.2.2.1 s.2.2.2.2.2.2.2.2.2.2.2.2.2,.slice none 0 0] 85),(93,ow s.2.2.2.2.2.2.2.2.2.2.1 s.2.2.2.2.2.2.2.2.2.2.2.1 3 az s.2.2.2.2.1),(94,ow s.2.2.2.2.2.2.2.2.2.2.2.2.1 s.2.2.2.2.2.2.2.2.2.2.2.2.2 3 az s.2.2.2.2.2.1)]) (f7.length+1) (f7,0,b9,c0,([]:List Int),([]:List Int),a8,a9,b0,b1,none,0,none,0) ⟨O,O,Nat.zero_le _,H,n7,n8,gZ,gZ⟩ (.r O) (.r O) (fun _ _ h=>absurd h.1 (by simp)) ?_)))))))))))))))))))
   intro w l0 m s hs
   obtain⟨g9,f5,e0,e4,a3,a4,c4,c5,b7,b8,Z,a0,a1,a2⟩:=s
   obtain⟨q5,f6,C2,H,k4,j6,o0,o2⟩:=hs
   replace f6:g9=List.drop f5 f7:=f6
   replace H:cZ p0 c7 (dm p0 h1 (k3+1)) g9 f5 e0 e4 a3 a4=some r:=H
   replace q5:m+1=g9.length+1:=q5
   replace g0:=g0.kL l0
   replace d9:=d9.le l0
   replace e6:=e6.le l0
   replace g4:=g4.trans l0
   replace k4:cO c4 e0.length c5:=k4
   replace j6:cO b7 e4.length b8:=j6
   replace o0:cO Z a3.length a0:=o0
   replace o2:cO a1 a4.length a2:=o2
   obtain rfl:m=g9.length:=by omega
   clear q5
   dsimp only
   cases g9 with
   | nil=>
    rw[cZ.eq_1] at H
    refine ai (ay aR O O (ae (aa (av (bX O (bN f6) (bK (aA (aA (aP (aa (ai (aH (ag zG) O (aC O (fun _ _ a d=>ah gU (a.ev O) (bR d (vs:=[sL Z a3 a0,sL a1 a4 a2,.slice none 0 0]) (k:=80) O 0) O) (aH (bf jN) O (aH (ag EL) O (aC O (fun _ _ a d=>ah gU (a.ev O) (bR d (vs:=[sL Z a3 a0,sL a1 a4 a2,.slice none 0 0]) (k:=80) O 1) O) (aH (bf jN) O (ay bB O O (ay iG O O (ae (aa (aT O H (fun H=>?_) (fun H=>?_)))))))))))))))))))))))
    ·refine Tr.freeze 93 O fun w u3 q6=>?_
     replace d9:=d9.le u3
     replace g4:=g4.trans u3
     refine Tr.freeze 94 O fun w q7 z5=>?_
     replace q6:=q6.le q7
     replace d9:=d9.le q7
     replace g4:=g4.trans q7
     refine Ki 1 95 O O ?_
     show Tr _ _ _ (up (up _ 1 (ow b3 b4 85 (Ea eu) d2)) 95 (ins 159 om (d2.map (ne eu)))) _
     refine Tr.vC (lf:=[(0,pV c),(2,iv (p0.Pieces.length:Int)),(10,pV f4),(72,sL e5 c6.1 e7),(73,iv (c6.1.length:Int)),(74,iv (k3:Int)),(78,sL d8 f7 h3),(79,iv (f7.length:Int)),(80,iv (f5:Int)),(81,bV (decide ((f5:Int)<(f7.length:Int)))),(147,pV f4),(148,sL Z a3 a0),(149,iv (a3.length:Int)),(150,.pointer (some ⟨f4,1,none⟩)),(151,sL a1 a4 a2),(152,iv (a4.length:Int)),(153,iv (bJ ((a3.length:Int)+(a4.length:Int)))),(154,bV (decide (0<(bJ ((a3.length:Int)+(a4.length:Int))))))]) (le:=[(0,bx c #[sL E p0.Art.Coppers F,sL G p0.Art.Outline I,sL f p0.Art.Bores C,sL g p0.Art.Lands j,sL J p0.Drilled K,sL M p0.Pieces P,sL A p0.Touched B,sL b3 d2 b4,sL c4 e0 c5,sL b7 e4 b8,sL o p0.OfLand q,sL v p0.AtLand y] 72),(1,ow b3 b4 85 (Ea eu) d2),(2,ow a6 a7 3 az p0.OfPiece),(3,ow T V 3 az p0.OfBore),(4,ow o q 3 az p0.OfLand),(5,ow v y 172 dX p0.AtLand),(8,ow c4 c5 3 az e0),(9,ow b7 b8 3 az e4),(80,bx f4 #[sL Z a3 a0,sL a1 a4 a2,.slice none 0 0] 85),(95,ins 159 om (d2.map (ne eu)))]) (.r O) (.cons (J4 O (by unfold sL;rw[(DC.len j0.1)])) (.r O)) (qa 8 [(7,(ow b3 b4 85 (Ea eu) d2).S)] [] (by kernel_rfl) (by kernel_rfl) fun z6 B1 C0=>(bE 0 (by kernel_rfl) O (wn O) O (by kernel_rfl) (fun _ _ a=>run_move (a.ev O)) O (bE 1 (by kernel_rfl) O (wn O) O (by kernel_rfl) (fun _ _ a=>run_move (a.ev O)) O (bE 2 (by kernel_rfl) O (wn O) O (by kernel_rfl) (fun _ _ a=>bn (a.ev O)) O (bE 3 (by kernel_rfl) O (wn O) O (by kernel_rfl) (fun _ _ a=>ag uq (a.ev O)) O (gM 4 [(159,sL b3 d2 b4)] (by kernel_rfl) O O (by kernel_rfl) ?_ O O ?_))))))
     ·exact bv O (fun _ _ a d=>ah CX (a.ev O) (bR d (vs:=[sL E p0.Art.Coppers F,sL G p0.Art.Outline I,sL f p0.Art.Bores C,sL g p0.Art.Lands j,sL J p0.Drilled K,sL M p0.Pieces P,sL A p0.Touched B,sL b3 d2 b4,sL c4 e0 c5,sL b7 e4 b8,sL o p0.OfLand q,sL v p0.AtLand y]) (k:=0) O 7) O) (bW (.r O))
     refine iF 5 [(160,.agg #[sL Z a3 a0,sL a1 a4 a2,.slice none 0 0])] [7] false (by kernel_rfl) O O (by kernel_rfl) (fun W W' d hsW hk=>HF.pW (le:=[(80,bx f4 #[sL Z a3 a0,sL a1 a4 a2,.slice none 0 0] 85)]) (ks:=[(1,(ow b3 b4 85 (Ea eu) d2).S)]) (s0:=z6) false d hk (fun h=>absurd h (by decide)) (.r O) (fun b hb=>hb.elim (fun⟨p,hp,hf,hb⟩=>by simp only[List.mem_cons,List.not_mem_nil,or_false] at hp;rcases hp with rfl;exact .inl ⟨_,List.mem_cons_self,hb⟩) (fun hb=>absurd hb.1 (by decide))) (List.forall_mem_cons.2 ⟨fun b hb=>hb,(fun _ h=>nomatch h)⟩) rfl) ?_ rfl rfl ?_
     ·exact bv O (fun _ _ a d=>aM (cs:=[sL Z a3 a0,sL a1 a4 a2,.slice none 0 0]) Rq OW (a.ev O) (aF.take (bR d (vs:=[sL Z a3 a0,sL a1 a4 a2,.slice none 0 0]) (k:=80) O 0) 3) O) (bW (.r O))
     refine Dr.one 6 (by kernel_rfl) (jX 6 96 (e:=85) (vs:=[(0,.agg #[sL Z a3 a0,sL a1 a4 a2,.slice none 0 0])]) (cs:=[sL Z a3 a0,sL a1 a4 a2,.slice none 0 0]) O (wn O) O (bz O dE) (by kernel_rfl) fun C9 C3=>?_)
     obtain⟨o6,q8,H⟩:=bnd H
     refine Dr.one 7 (by kernel_rfl) (St.append 7 1 (t':=(Ea eu)) (ll:=d2) (l2:=[(DE.mk (t:=dw) ((Z,a0),(a1,a2),(none,0)) (dz.mk a3 a4 []) true)]) (fun b hb=>.inl ⟨_,List.mem_cons_self,O,hb⟩) O (wn O) O O O O (fun W hW=>⟨[[sL Z a3 a0,sL a1 a4 a2,.slice none 0 0]],.cons ⟨(),⟨q6,z5⟩,O⟩ .nil,bR hW (vs:=[sL Z a3 a0,sL a1 a4 a2,.slice none 0 0]) (k:=96) O 0⟩) Ff OW Qw (by decide) Ri O (Qj j0.1 q8) fun l1 l3 w7=>(rH (by kernel_rfl) (aH bn O (aH (ag uq) O (bF 0 (cs:=[sL l1 (d2++[(DE.mk (t:=dw) ((Z,a0),(a1,a2),(none,0)) (dz.mk a3 a4 []) true)]) l3]) [sL E p0.Art.Coppers F,sL G p0.Art.Outline I,sL f p0.Art.Bores C,sL g p0.Art.Lands j,sL J p0.Drilled K,sL M p0.Pieces P,sL A p0.Touched B,sL l1 (d2++[(DE.mk (t:=dw) ((Z,a0),(a1,a2),(none,0)) (dz.mk a3 a4 []) true)]) l3,sL c4 e0 c5,sL b7 e4 b8,sL o p0.OfLand q,sL v p0.AtLand y] (wn O) O O O O QP O O O (bC 97 159 om (Kh (L:=eu) 1 95 97 (u:=((Z,a0),(a1,a2),(none,0))) (x:=(dz.mk a3 a4 [])) O O O O O O O O gZ j0.1 q8 fun u4 v7=>?_)))))))
     have q9:=Oo (e:=(DE.mk (t:=dw) ((Z,a0),(a1,a2),(none,0)) (dz.mk a3 a4 []) true)) j0.1 q8
     have v8:cO l1 o6.length l3:=by rw[←q9];exact w7
     exact Tr.vC (lf:=[(0,pV c),(2,iv (p0.Pieces.length:Int)),(10,pV f4),(72,sL e5 c6.1 e7),(73,iv (c6.1.length:Int)),(74,iv (k3:Int)),(78,sL d8 f7 h3),(79,iv (f7.length:Int)),(80,iv (f5:Int)),(81,bV (decide ((f5:Int)<(f7.length:Int)))),(147,pV f4),(148,sL Z a3 a0),(149,iv (a3.length:Int)),(150,.pointer (some ⟨f4,1,none⟩)),(151,sL a1 a4 a2),(152,iv (a4.length:Int)),(153,iv (bJ ((a3.length:Int)+(a4.length:Int)))),(154,bV (decide (0<(bJ ((a3.length:Int)+(a4.length:Int)))))),(155,pV c),(156,pV c),(157,pV c),(158,.pointer (some ⟨c,7,none⟩)),(160,.agg #[sL Z a3 a0,sL a1 a4 a2,.slice none 0 0]),(162,sL l1 o6 l3),(163,pV c),(164,.pointer (some ⟨c,7,none⟩))]) (le:=[(0,bx c #[sL E p0.Art.Coppers F,sL G p0.Art.Outline I,sL f p0.Art.Bores C,sL g p0.Art.Lands j,sL J p0.Drilled K,sL M p0.Pieces P,sL A p0.Touched B,sL l1 o6 l3,sL c4 e0 c5,sL b7 e4 b8,sL o p0.OfLand q,sL v p0.AtLand y] 72),(1,dq l1 o6.length l3 85 159 eu u4),(2,ow a6 a7 3 az p0.OfPiece),(3,ow T V 3 az p0.OfBore),(4,ow o q 3 az p0.OfLand),(5,ow v y 172 dX p0.AtLand),(8,ow c4 c5 3 az e0),(9,ow b7 b8 3 az e4),(80,bx f4 #[sL Z a3 a0,sL a1 a4 a2,.slice none 0 0] 85)]) (.cons O (.cons O (.cons O (.cons O (.cons O (.cons O (.cons O (.cons O (.cons O (.cons O (.cons O (.cons O (.cons O (.cons O (.cons O (.cons O (.cons O (.cons O (.cons O (.cons O (.cons O (.cons O (.cons O (.cons (jc O (by unfold sL;rw[q9])) (.r O))))))))))))))))))))))))) (.cons (J4 O (by unfold sL;rw[q9])) (.r O)) (ae (aK (aa (Tr.region (ay bB O O (ax O (ae (aI g4 (h1,(k3+1),o6,e0,e4,l1,l3,u4,c4,c5,b7,b8) ⟨O,bT j5,aX j5,H,⟨v7,v8⟩,k4,j6⟩ (.cons O (.cons O (.cons O (.cons O (.cons (congrArg (fun z=>some (Value.int .i64 z)) (bS j5 d9.form)) .nil))))) (.r O)))))))))
    ·exact aJ (aK (aa (Tr.region (ay bB O O (ax O (ae (aI g4 (h1,(k3+1),c7,e0,e4,b3,b4,d2,c4,c5,b7,b8) ⟨O,bT j5,aX j5,H,⟨j0.1,j0.2⟩,k4,j6⟩ (.cons O (.cons O (.cons O (.cons O (.cons (congrArg (fun z=>some (Value.int .i64 z)) (bS j5 d9.form)) .nil))))) (.r O))))))))
   | cons a5 g9=>
    rw[cZ.eq_2] at H
    refine ai (ay aR O O (ae (aa (av (bY O (cu f6) (aJ (aa (av (Tr.block (ai (aC O (fun _ _ a d=>ak iX (a.ev O) e6.form (a.ev O) (Int.natCast_nonneg _) (aX f6)) (aC O (fun _ _ a d=>ah bG (a.ev O) (rP iH (e6.rl) (dI f6) d) O) (Tr.k O (ae (aa (Tr.block (ai (ax O (ax O (ay aR O O (Tr.k O (ae (aa (aT O H (fun H=>?_) (fun H=>?_)))))))))))))))))))))))))
    ·refine av (qz 10 (by kernel_rfl) (by kernel_rfl) (eY O (dA bn O (dA (ag xY) O (bv O (fun _ _ a d=>ah gU (a.ev O) (bR d (vs:=[sL E p0.Art.Coppers F,sL G p0.Art.Outline I,sL f p0.Art.Bores C,sL g p0.Art.Lands j,sL J p0.Drilled K,sL M p0.Pieces P,sL A p0.Touched B,sL b3 c7 b4,sL c4 e0 c5,sL b7 e4 b8,sL o p0.OfLand q,sL v p0.AtLand y]) (k:=0) O 8) O) (eY O (eY O (dA bn O (dA (ag uq) O (bv O (fun _ _ a d=>ah CX (a.ev O) (bR d (vs:=[sL E p0.Art.Coppers F,sL G p0.Art.Outline I,sL f p0.Art.Bores C,sL g p0.Art.Lands j,sL J p0.Drilled K,sL M p0.Pieces P,sL A p0.Touched B,sL b3 c7 b4,sL c4 e0 c5,sL b7 e4 b8,sL o p0.OfLand q,sL v p0.AtLand y]) (k:=0) O 7) O) (dA (bf Ff) O (jD ?_))))))))))))
     obtain⟨D0,z7,H⟩:=bnd H
     obtain⟨w8,w9,x0⟩:=bi z7
     refine aC O (fun _ _ a d=>ak iX (a.ev O) k4 (a.ev O) w8 w9) ?_
     obtain⟨o7,u5,H⟩:=bnd H
     have o8:=lv u5
     refine kg 8 (t:=az) (l:=e0) (i:=a5) (fo:=0) (cs:=[iv (c7.length:Int)]) (c7.length:Int) (wn O) O O O O O x0 pI O (fun u _=>⟨u,trivial,O⟩) O u5 ?_
     have x1:cO c4 o7.length c5:=by rw[o8];exact k4
     refine Tr.vC (lf:=[(0,pV c),(2,iv (p0.Pieces.length:Int)),(10,pV f4),(12,iv a5),(72,sL e5 c6.1 e7),(73,iv (c6.1.length:Int)),(74,iv (k3:Int)),(78,sL d8 f7 h3),(79,iv (f7.length:Int)),(80,iv (f5:Int)),(81,bV (decide ((f5:Int)<(f7.length:Int)))),(82,.pointer (some ⟨mY d8,qj d8+((f5:Int)).toNat*1,none⟩)),(83,iv a5),(92,bV (decide (a5<(p0.Pieces.length:Int)))),(93,iv a5),(94,iv (p0.Pieces.length:Int)),(95,bV (decide (a5<(p0.Pieces.length:Int)))),(96,pV c),(97,pV c),(98,.pointer (some ⟨c,8,none⟩)),(99,sL c4 o7 c5),(100,iv a5),(101,pV c),(102,pV c),(103,.pointer (some ⟨c,7,none⟩)),(104,sL b3 c7 b4),(105,iv (c7.length:Int))]) (le:=[(0,bx c #[sL E p0.Art.Coppers F,sL G p0.Art.Outline I,sL f p0.Art.Bores C,sL g p0.Art.Lands j,sL J p0.Drilled K,sL M p0.Pieces P,sL A p0.Touched B,sL b3 c7 b4,sL c4 o7 c5,sL b7 e4 b8,sL o p0.OfLand q,sL v p0.AtLand y] 72),(1,dq b3 c7.length b4 85 159 eu d2),(2,ow a6 a7 3 az p0.OfPiece),(3,ow T V 3 az p0.OfBore),(4,ow o q 3 az p0.OfLand),(5,ow v y 172 dX p0.AtLand),(8,ow c4 c5 3 az o7),(9,ow b7 b8 3 az e4),(80,bx f4 #[sL Z a3 a0,sL a1 a4 a2,.slice none 0 0] 85),(93,ow Z a0 3 az a3),(94,ow a1 a2 3 az a4)]) (.cons O (.cons O (.cons O (.cons O (.cons O (.cons O (.cons O (.cons O (.cons O (.cons O (.cons O (.cons O (.cons O (.cons O (.cons O (.cons O (.cons O (.cons O (.cons O (.cons O (.cons (jc O (by unfold sL;rw[o8])) (.r O)))))))))))))))))))))) (.cons (J4 O (by unfold sL;rw[o8])) (.r O)) (ae (aa (Tr.region (aH (ag zG) O (aC O (fun _ _ a d=>ah gU (a.ev O) (bR d (vs:=[sL Z a3 a0,sL a1 a4 a2,.slice none 0 0]) (k:=80) O 0) O) (ax O (eD 98 (e:=3) (vs:=[(0,iv a5)]) (cs:=[iv a5]) (wn O) O (bz O dE) (by kernel_rfl) fun D1=>?_)))))))
     obtain⟨t6,z8,H⟩:=bnd H
     exact Tr.append 93 (t:=az) (l:=a3) (l2:=[a5]) (wn O) O O O O (fun W hW=>⟨[[iv a5]],(.cons ⟨(),trivial,O⟩ .nil),bR hW (vs:=[iv a5]) (k:=98) O 0⟩) jN pI Dl (by decide) xx O z8 fun r0 r1 x2=>(aH (ag zG) O (bF 80 (cs:=[sL r0 t6 r1]) [sL r0 t6 r1,sL a1 a4 a2,.slice none 0 0] (wn O) O O O O uN O O O (ae (aK (aK (aa (Tr.region (ay bB O O (ax O (ae (aI l0 (g9,(f5+1),o7,e4,t6,a4,c4,c5,b7,b8,r0,r1,a1,a2) ⟨O,bT f6,aX f6,H,x1,j6,x2,o2⟩ (.cons O (.cons O (.cons O (.cons O (.cons O (.cons O (.cons O (.cons O (.cons (congrArg (fun z=>some (Value.int .i64 z)) (bS f6 e6.form)) .nil))))))))) (.r O))))))))))))
    ·refine ai (ax O (aH bn O (aH (ag ut) O (aH (ag rE) O (aC O (fun _ _ a d=>ah yG (a.ev O) (bR d (vs:=[sL E p0.Art.Coppers F,sL G p0.Art.Outline I,sL f p0.Art.Bores C,sL g p0.Art.Lands j,sL J p0.Drilled K,sL M p0.Pieces P,sL A p0.Touched B,sL b3 c7 b4,sL c4 e0 c5,sL b7 e4 b8,sL o p0.OfLand q,sL v p0.AtLand y]) (k:=0) O 2) O) (ax O (ax O (ay iP O O ?_))))))))
     obtain⟨r3,z9,H⟩:=bnd H
     obtain⟨x3,x4,x5⟩:=bi z9
     refine aC O (fun _ _ a d=>ak Bg (a.ev O) g0.form (a.ev O) x3 x4) (aH (ag zI) O (aC O (fun _ _ a d=>ah MN (a.ev O) (aF.drop (rP rT g0 x5 d) 5) O) (Tr.k O (ae (aa (aT O H (fun H=>?_) (fun H=>?_)))))))
     ·refine av (qz 12 (by kernel_rfl) (by kernel_rfl) (eY O (dA bn O (dA (ag BD) O (bv O (fun _ _ a d=>ah gU (a.ev O) (bR d (vs:=[sL E p0.Art.Coppers F,sL G p0.Art.Outline I,sL f p0.Art.Bores C,sL g p0.Art.Lands j,sL J p0.Drilled K,sL M p0.Pieces P,sL A p0.Touched B,sL b3 c7 b4,sL c4 e0 c5,sL b7 e4 b8,sL o p0.OfLand q,sL v p0.AtLand y]) (k:=0) O 9) O) (eY O (eY O (iU iP O O (eY O (dA bn O (dA (ag uq) O (bv O (fun _ _ a d=>ah CX (a.ev O) (bR d (vs:=[sL E p0.Art.Coppers F,sL G p0.Art.Outline I,sL f p0.Art.Bores C,sL g p0.Art.Lands j,sL J p0.Drilled K,sL M p0.Pieces P,sL A p0.Touched B,sL b3 c7 b4,sL c4 e0 c5,sL b7 e4 b8,sL o p0.OfLand q,sL v p0.AtLand y]) (k:=0) O 7) O) (dA (bf Ff) O (jD ?_))))))))))))))
      obtain⟨D2,A0,H⟩:=bnd H
      obtain⟨x6,x7,x8⟩:=bi A0
      refine aC O (fun _ _ a d=>ak iX (a.ev O) j6 (a.ev O) x6 x7) ?_
      obtain⟨o9,u6,H⟩:=bnd H
      have p1:=lv u6
      refine kg 9 (t:=az) (l:=e4) (i:=(bJ (a5-(p0.Pieces.length:Int)))) (fo:=0) (cs:=[iv (c7.length:Int)]) (c7.length:Int) (wn O) O O O O O x8 pI O (fun u _=>⟨u,trivial,O⟩) O u6 ?_
      have x9:cO b7 o9.length b8:=by rw[p1];exact j6
      refine Tr.vC (lf:=[(0,pV c),(2,iv (p0.Pieces.length:Int)),(10,pV f4),(12,iv a5),(72,sL e5 c6.1 e7),(73,iv (c6.1.length:Int)),(74,iv (k3:Int)),(78,sL d8 f7 h3),(79,iv (f7.length:Int)),(80,iv (f5:Int)),(81,bV (decide ((f5:Int)<(f7.length:Int)))),(82,.pointer (some ⟨mY d8,qj d8+((f5:Int)).toNat*1,none⟩)),(83,iv a5),(92,bV (decide (a5<(p0.Pieces.length:Int)))),(93,iv a5),(94,iv (p0.Pieces.length:Int)),(95,bV (decide (a5<(p0.Pieces.length:Int)))),(113,bV r3.Plated),(114,pV c),(115,pV c),(116,pV c),(117,.pointer (some ⟨c,2,none⟩)),(118,sL f p0.Art.Bores C),(119,iv a5),(120,iv (p0.Pieces.length:Int)),(121,iv (bJ (a5-(p0.Pieces.length:Int)))),(122,.pointer (some ⟨mY f,qj f+((bJ (a5-(p0.Pieces.length:Int)))).toNat*6,none⟩)),(123,.pointer (some ⟨mY f,qj f+((bJ (a5-(p0.Pieces.length:Int)))).toNat*6+5,none⟩)),(124,bV r3.Plated),(125,pV c),(126,pV c),(127,.pointer (some ⟨c,9,none⟩)),(128,sL b7 o9 b8),(129,iv a5),(130,iv (p0.Pieces.length:Int)),(131,iv (bJ (a5-(p0.Pieces.length:Int)))),(132,pV c),(133,pV c),(134,.pointer (some ⟨c,7,none⟩)),(135,sL b3 c7 b4),(136,iv (c7.length:Int))]) (le:=[(0,bx c #[sL E p0.Art.Coppers F,sL G p0.Art.Outline I,sL f p0.Art.Bores C,sL g p0.Art.Lands j,sL J p0.Drilled K,sL M p0.Pieces P,sL A p0.Touched B,sL b3 c7 b4,sL c4 e0 c5,sL b7 o9 b8,sL o p0.OfLand q,sL v p0.AtLand y] 72),(1,dq b3 c7.length b4 85 159 eu d2),(2,ow a6 a7 3 az p0.OfPiece),(3,ow T V 3 az p0.OfBore),(4,ow o q 3 az p0.OfLand),(5,ow v y 172 dX p0.AtLand),(8,ow c4 c5 3 az e0),(9,ow b7 b8 3 az o9),(80,bx f4 #[sL Z a3 a0,sL a1 a4 a2,.slice none 0 0] 85),(93,ow Z a0 3 az a3),(94,ow a1 a2 3 az a4)]) (.cons O (.cons O (.cons O (.cons O (.cons O (.cons O (.cons O (.cons O (.cons O (.cons O (.cons O (.cons O (.cons O (.cons O (.cons O (.cons O (.cons O (.cons O (.cons O (.cons O (.cons O (.cons O (.cons O (.cons O (.cons O (.cons O (.cons O (.cons O (.cons O (.cons O (.cons O (.cons O (.cons (jc O (by unfold sL;rw[p1])) (.r O)))))))))))))))))))))))))))))))))) (.cons (J4 O (by unfold sL;rw[p1])) (.r O)) (ae (aa (Tr.region (aH (ag EL) O (aC O (fun _ _ a d=>ah gU (a.ev O) (bR d (vs:=[sL Z a3 a0,sL a1 a4 a2,.slice none 0 0]) (k:=80) O 1) O) (ax O (ax O (ay iP O O (eD 99 (e:=3) (vs:=[(0,iv (bJ (a5-(p0.Pieces.length:Int))))]) (cs:=[iv (bJ (a5-(p0.Pieces.length:Int)))]) (wn O) O (bz O dE) (by kernel_rfl) fun D3=>?_)))))))))
      obtain⟨t7,A1,H⟩:=bnd H
      exact Tr.append 94 (t:=az) (l:=a4) (l2:=[(bJ (a5-(p0.Pieces.length:Int)))]) (wn O) O O O O (fun W hW=>⟨[[iv (bJ (a5-(p0.Pieces.length:Int)))]],(.cons ⟨(),trivial,O⟩ .nil),bR hW (vs:=[iv (bJ (a5-(p0.Pieces.length:Int)))]) (k:=99) O 0⟩) jN pI Dl (by decide) xx O A1 fun r4 r5 y0=>(aH (ag EL) O (bF 80 (cs:=[sL r4 t7 r5]) [sL Z a3 a0,sL r4 t7 r5,.slice none 0 0] (wn O) O O O O uN O O O (ae (aK (aK (aa (Tr.region (ay bB O O (ax O (ae (aI l0 (g9,(f5+1),e0,o9,a3,t7,c4,c5,b7,b8,Z,a0,r4,r5) ⟨O,bT f6,aX f6,H,k4,x9,o0,y0⟩ (.cons O (.cons O (.cons O (.cons O (.cons O (.cons O (.cons O (.cons O (.cons (congrArg (fun z=>some (Value.int .i64 z)) (bS f6 e6.form)) .nil))))))))) (.r O))))))))))))
     ·refine Tr.region (ax O (aH bn O (aH (ag BD) O (aC O (fun _ _ a d=>ah gU (a.ev O) (bR d (vs:=[sL E p0.Art.Coppers F,sL G p0.Art.Outline I,sL f p0.Art.Bores C,sL g p0.Art.Lands j,sL J p0.Drilled K,sL M p0.Pieces P,sL A p0.Touched B,sL b3 c7 b4,sL c4 e0 c5,sL b7 e4 b8,sL o p0.OfLand q,sL v p0.AtLand y]) (k:=0) O 9) O) (ax O (ax O (ay iP O O ?_)))))))
      obtain⟨D4,A2,H⟩:=bnd H
      obtain⟨y1,y2,y3⟩:=bi A2
      refine aC O (fun _ _ a d=>ak iX (a.ev O) j6 (a.ev O) y1 y2) ?_
      obtain⟨p2,u7,H⟩:=bnd H
      have p3:=lv u7
      refine kg 9 (t:=az) (l:=e4) (i:=(bJ (a5-(p0.Pieces.length:Int)))) (fo:=0) (cs:=[iv (-1)]) (-1) (wn O) O O O O O y3 pI O (fun u _=>⟨u,trivial,O⟩) O u7 ?_
      have y4:cO b7 p2.length b8:=by rw[p3];exact j6
      exact Tr.vC (lf:=[(0,pV c),(2,iv (p0.Pieces.length:Int)),(10,pV f4),(12,iv a5),(72,sL e5 c6.1 e7),(73,iv (c6.1.length:Int)),(74,iv (k3:Int)),(78,sL d8 f7 h3),(79,iv (f7.length:Int)),(80,iv (f5:Int)),(81,bV (decide ((f5:Int)<(f7.length:Int)))),(82,.pointer (some ⟨mY d8,qj d8+((f5:Int)).toNat*1,none⟩)),(83,iv a5),(84,pV c),(85,pV c),(86,.pointer (some ⟨c,9,none⟩)),(87,sL b7 p2 b8),(88,iv a5),(89,iv (p0.Pieces.length:Int)),(90,iv (bJ (a5-(p0.Pieces.length:Int)))),(92,bV (decide (a5<(p0.Pieces.length:Int)))),(93,iv a5),(94,iv (p0.Pieces.length:Int)),(95,bV (decide (a5<(p0.Pieces.length:Int)))),(113,bV r3.Plated),(114,pV c),(115,pV c),(116,pV c),(117,.pointer (some ⟨c,2,none⟩)),(118,sL f p0.Art.Bores C),(119,iv a5),(120,iv (p0.Pieces.length:Int)),(121,iv (bJ (a5-(p0.Pieces.length:Int)))),(122,.pointer (some ⟨mY f,qj f+((bJ (a5-(p0.Pieces.length:Int)))).toNat*6,none⟩)),(123,.pointer (some ⟨mY f,qj f+((bJ (a5-(p0.Pieces.length:Int)))).toNat*6+5,none⟩)),(124,bV r3.Plated)]) (le:=[(0,bx c #[sL E p0.Art.Coppers F,sL G p0.Art.Outline I,sL f p0.Art.Bores C,sL g p0.Art.Lands j,sL J p0.Drilled K,sL M p0.Pieces P,sL A p0.Touched B,sL b3 c7 b4,sL c4 e0 c5,sL b7 p2 b8,sL o p0.OfLand q,sL v p0.AtLand y] 72),(1,dq b3 c7.length b4 85 159 eu d2),(2,ow a6 a7 3 az p0.OfPiece),(3,ow T V 3 az p0.OfBore),(4,ow o q 3 az p0.OfLand),(5,ow v y 172 dX p0.AtLand),(8,ow c4 c5 3 az e0),(9,ow b7 b8 3 az p2),(80,bx f4 #[sL Z a3 a0,sL a1 a4 a2,.slice none 0 0] 85),(93,ow Z a0 3 az a3),(94,ow a1 a2 3 az a4)]) (.cons O (.cons O (.cons O (.cons O (.cons O (.cons O (.cons O (.cons O (.cons O (.cons O (.cons O (.cons O (.cons O (.cons O (.cons O (.cons O (.cons (jc O (by unfold sL;rw[p3])) (.r O)))))))))))))))))) (.cons (J4 O (by unfold sL;rw[p3])) (.r O)) (ae (aK (aK (aa (Tr.region (ay bB O O (ax O (ae (aI l0 (g9,(f5+1),e0,p2,a3,a4,c4,c5,b7,b8,Z,a0,a1,a2) ⟨O,bT f6,aX f6,H,k4,y4,o0,o2⟩ (.cons O (.cons O (.cons O (.cons O (.cons O (.cons O (.cons O (.cons O (.cons (congrArg (fun z=>some (Value.int .i64 z)) (bS f6 e6.form)) .nil))))))))) (.r O))))))))))
 | cons m9 h5=>
  rw[dn.eq_2] at H
  refine ai (ay aR O O (ae (aa (av (bY O (cu k8) (aJ (aa (av (Tr.block (ai (ax O ?_)))))))))))
  obtain⟨B2,y5,v9,y6⟩:=(f2).el (dI k8)
  obtain⟨n5,n6⟩:=B2
  have g6:=v9
  replace g6:Sl w.R w.W az n5 n6 m9:=g6
  refine aC O (fun _ _ a d=>ak Jn (a.ev O) f2.form (a.ev O) (Int.natCast_nonneg _) (aX k8)) (aC O (fun _ _ a d=>ah gU (a.ev O) (qY y5 y6 d) O) (Tr.k O (Tr.k O (ae (aa (ai (ax O (aH (bf jN) O (ax O (ae (aa (Tr.block (bO (σ:=(List Int)×Nat×(List Int)×(Option Addr)×Nat) (fun m w s=>m=s.1.length+1∧s.1=List.drop s.2.1 m9∧s.2.1≤m9.length∧eO N p0 (dn N p0 h5 (j1+1)) j1 s.1 s.2.1 s.2.2.1=some r∧cO s.2.2.2.1 s.2.2.1.length s.2.2.2.2) (fun s=>[(0,pV c),(2,iv (p0.Pieces.length:Int)),(3,pV b2),(4,iv (j1:Int)),(35,sL A p0.Touched B),(36,iv (p0.Touched.length:Int)),(37,iv (j1:Int)),(42,sL n5 m9 n6),(43,iv (m9.length:Int)),(44,iv (s.2.1:Int))]) (fun s=>[(0,bx c #[sL E p0.Art.Coppers F,sL G p0.Art.Outline I,sL f p0.Art.Bores C,sL g p0.Art.Lands j,sL J p0.Drilled K,sL M p0.Pieces P,sL A p0.Touched B,sL d4 p0.Groups d5,sL a6 p0.OfPiece a7,sL T p0.OfBore V,sL o p0.OfLand q,sL v p0.AtLand y] 72),(1,dq d4 p0.Groups.length d5 85 159 eu h4),(2,ow a6 a7 3 az p0.OfPiece),(3,ow T V 3 az p0.OfBore),(4,ow o q 3 az p0.OfLand),(5,ow v y 172 dX p0.AtLand),(6,ow s.2.2.2.1 s.2.2.2.2 3 az s.2.2.1),(7,bx b2 #[sL s.2.2.2.1 s.2.2.1 s.2.2.2.2] 207)]) (m9.length+1) (m9,0,j3,h6,h7) ⟨O,O,Nat.zero_le _,H,p5⟩ (.r O) (.r O) (fun _ _ h=>absurd h.1 (by simp)) ?_)))))))))))))
  intro w o3 m s hs
  obtain⟨i5,r6,m0,l4,l5⟩:=s
  obtain⟨r7,j7,C4,H,r8⟩:=hs
  replace j7:i5=List.drop r6 m9:=j7
  replace H:eO N p0 (dn N p0 h5 (j1+1)) j1 i5 r6 m0=some r:=H
  replace r7:m+1=i5.length+1:=r7
  replace f2:=f2.kL o3
  replace g6:=g6.kL o3
  replace j8:=j8.trans o3
  replace r8:cO l4 m0.length l5:=r8
  obtain rfl:m=i5.length:=by omega
  clear r7
  dsimp only
  cases i5 with
  |nil=>
   rw[eO.eq_1] at H
   exact ai (ay aR O O (ae (aa (av (bX O (bN j7) (bK (aA (aA (aP (aK (aa (Tr.region (ay bB O O (ax O (ae (aI j8 (h5,(j1+1),m0,l4,l5) ⟨O,bT k8,aX k8,H,r8⟩ (.cons O (.cons O (.cons O (.cons O (.cons O (.cons (congrArg (fun z=>some (Value.int .i64 z)) (bS k8 f2.form)) .nil)))))) (.r O)))))))))))))))))
  |cons B3 i5=>
   rw[eO.eq_2] at H
   refine ai (ay aR O O (ae (aa (av (bY O (cu j7) (aJ (aa (av (Tr.block (ai (aC O (fun _ _ a d=>ak iX (a.ev O) g6.form (a.ev O) (Int.natCast_nonneg _) (aX j7)) (aC O (fun _ _ a d=>ah bG (a.ev O) (rP iH g6 (dI j7) d) O) (Tr.k O (ae (aa (Tr.region (ax O (ax O (ax O (ax O (ay bB O O ?_)))))))))))))))))))))
   obtain⟨m1,A3,H⟩:=bnd H
   refine gG [7,6] [bx b2 #[sL l4 m0 l5] 207,ow l4 l5 3 az m0] (U:=(Option Addr×Nat)) (fun u=>(.tuple #[])) (fun u=>cO u.1 m1.length u.2) (fun u=>[bx b2 #[sL u.1 m1 u.2] 207,ow u.1 u.2 3 az m1]) O (aN O (aN O bg)) (fun _=>O) (wn O) O Tryz.call89 (aj O (aj O (aj O aG))) (fun W hW hp hE=>uI N (og.mk m0) l4 l5 b2 B3 (bJ ((p0.Pieces.length:Int)+(j1:Int))) m1 A3 hE) ?_
   intro u hu
   obtain⟨m7,m8⟩:=u
   have w0:=hu
   have t8:cO m7 m1.length m8:=w0 --@phi
   dsimp only
   exact ae (aK (aa (Tr.region (ay bB O O (ax O (ae (aI o3 (i5,(r6+1),m1,m7,m8) ⟨O,bT j7,aX j7,H,t8⟩ (.cons O (.cons O (.cons O (.cons O (.cons O (.cons O (.cons O (.cons O (.cons O (.cons (congrArg (fun z=>some (Value.int .i64 z)) (bS j7 g6.form)) .nil)))))))))) (.r O))))))))

theorem pF(N:Nat){w:Bs}(hT:Dx Tryz.prog w)(p0:nU)(f:Option Addr)(g:Nat)(v:Sl w.O w.W dF f g p0.Coppers)(i:Option Addr)(j:Nat)(y:Sl w.O w.W aB i j p0.Outline)(b:Option Addr)(c:Nat)(l:Sl w.O w.W dY b c p0.Bores)(o:Option Addr)(p:Nat)(A:Sl w.O w.W eH o p p0.Lands)(r:((Option dD)×Int))(H:jf N p0=some r)(hE:HF w w.W (iZ [emp])):Calls Tryz.prog 16 [.agg #[sL f p0.Coppers g,sL i p0.Outline j,sL b p0.Bores c,sL o p0.Lands p]].toArray w.W fun e W'=>∃(w':Bs) (u:(Option Addr×Nat)×(Option Addr×Nat)×(Option Addr×Nat)×(Option Addr×Nat)×(Option Addr×Nat)×(Option Addr×Nat)×(Option Addr×Nat)×(Option Addr×Nat)×(Option Addr×Nat)×(Option Addr×Nat)×(Option Addr×Nat)×(Option Addr×Nat)×(Option Addr×Nat)),w.Le w'∧e= .returned (.tuple #[(Hy u.2.2.2.2.2.2.2.2.2.2.2.2.2 r.1),iv r.2])∧(di r.1 (fun x0=>Sl w'.O w'.W dF u.1.1 u.1.2 x0.Art.Coppers)∧di r.1 (fun x0=>Sl w'.O w'.W aB u.2.1.1 u.2.1.2 x0.Art.Outline)∧di r.1 (fun x0=>Sl w'.O w'.W dY u.2.2.1.1 u.2.2.1.2 x0.Art.Bores)∧di r.1 (fun x0=>Sl w'.O w'.W eH u.2.2.2.1.1 u.2.2.2.1.2 x0.Art.Lands)∧di r.1 (fun x0=>Sl w'.O w'.W bM u.2.2.2.2.1.1 u.2.2.2.2.1.2 x0.Drilled)∧di r.1 (fun x0=>Sl w'.O w'.W dG u.2.2.2.2.2.1.1 u.2.2.2.2.2.1.2 x0.Pieces)∧di r.1 (fun x0=>Sl w'.O w'.W fE u.2.2.2.2.2.2.1.1 u.2.2.2.2.2.2.1.2 x0.Touched)∧di r.1 (fun x0=>Sl w'.O w'.W dw u.2.2.2.2.2.2.2.1.1 u.2.2.2.2.2.2.2.1.2 x0.Groups)∧di r.1 (fun x0=>Sl w'.O w'.W az u.2.2.2.2.2.2.2.2.1.1 u.2.2.2.2.2.2.2.2.1.2 x0.OfPiece)∧di r.1 (fun x0=>Sl w'.O w'.W az u.2.2.2.2.2.2.2.2.2.1.1 u.2.2.2.2.2.2.2.2.2.1.2 x0.OfBore)∧di r.1 (fun x0=>Sl w'.O w'.W az u.2.2.2.2.2.2.2.2.2.2.1.1 u.2.2.2.2.2.2.2.2.2.2.1.2 x0.OfLand)∧di r.1 (fun x0=>Sl w'.O w'.W dX u.2.2.2.2.2.2.2.2.2.2.2.1.1 u.2.2.2.2.2.2.2.2.2.2.2.1.2 x0.AtLand)∧True)∧HF w' W' (iZ [PX u.2.2.2.2.2.2.2.2.2.2.2.2.2 72 r.1 (fun x0=> #[sL u.1.1 x0.Art.Coppers u.1.2,sL u.2.1.1 x0.Art.Outline u.2.1.2,sL u.2.2.1.1 x0.Art.Bores u.2.2.1.2,sL u.2.2.2.1.1 x0.Art.Lands u.2.2.2.1.2,sL u.2.2.2.2.1.1 x0.Drilled u.2.2.2.2.1.2,sL u.2.2.2.2.2.1.1 x0.Pieces u.2.2.2.2.2.1.2,sL u.2.2.2.2.2.2.1.1 x0.Touched u.2.2.2.2.2.2.1.2,sL u.2.2.2.2.2.2.2.1.1 x0.Groups u.2.2.2.2.2.2.2.1.2,sL u.2.2.2.2.2.2.2.2.1.1 x0.OfPiece u.2.2.2.2.2.2.2.2.1.2,sL u.2.2.2.2.2.2.2.2.2.1.1 x0.OfBore u.2.2.2.2.2.2.2.2.2.1.2,sL u.2.2.2.2.2.2.2.2.2.2.1.1 x0.OfLand u.2.2.2.2.2.2.2.2.2.2.1.2,sL u.2.2.2.2.2.2.2.2.2.2.2.1.1 x0.AtLand u.2.2.2.2.2.2.2.2.2.2.2.1.2])]):=by
 unfold jf at H
 have leB:=Bs.Le.refl w
 refine aV (n:=112) Tryz.func16 O O O hE (ai (fw 1 (cs:=[sL f p0.Coppers g,sL i p0.Outline j,sL b p0.Bores c,sL o p0.Lands p]) (wn O) O O O fun Q=>(Tr.k O (Tr.k O (ae (aa (av (ai (aH (ag xZ) O (aC O (fun _ _ a d=>ah Ej (a.ev O) (bR d (vs:=[sL f p0.Coppers g,sL i p0.Outline j,sL b p0.Bores c,sL o p0.Lands p]) (k:=1) O 0) O) (aH (bf zg) O (ay iA O O (ae (aa (aT O H (fun H=>?_) (fun H=>?_))))))))))))))))
 ·refine ai (Tr.k O (Tr.k O (ae (aa (aO (aD ?_))))))
  obtain rfl:=oI H
  exact bL (m:=[.pointer none,iv 9]) [] (aU O (aU O bD)) (fun W hW=>⟨w,((none,0),(none,0),(none,0),(none,0),(none,0),(none,0),(none,0),(none,0),(none,0),(none,0),(none,0),(none,0),(none,0)),leB,O,⟨trivial,trivial,trivial,trivial,trivial,trivial,trivial,trivial,trivial,trivial,trivial,trivial,trivial⟩,hW.pick (ks:=[950]) (by decide) (aN O bg)⟩)
 ·refine aJ (aa (av (ai (aH (ag xZ) O (aC O (fun _ _ a d=>ah Ej (a.ev O) (bR d (vs:=[sL f p0.Coppers g,sL i p0.Outline j,sL b p0.Bores c,sL o p0.Lands p]) (k:=1) O 0) O) (aH (bf zg) O (ay iG O O (ae (aa (aT O H (fun H=>?_) (fun H=>?_)))))))))))
  ·refine ai (Tr.k O (Tr.k O (ae (aa (aO (aD ?_))))))
   obtain rfl:=oI H
   exact bL (m:=[.pointer none,iv 2]) [] (aU O (aU O bD)) (fun W hW=>⟨w,((none,0),(none,0),(none,0),(none,0),(none,0),(none,0),(none,0),(none,0),(none,0),(none,0),(none,0),(none,0),(none,0)),leB,O,⟨trivial,trivial,trivial,trivial,trivial,trivial,trivial,trivial,trivial,trivial,trivial,trivial,trivial⟩,hW.pick (ks:=[950]) (by decide) (aN O bg)⟩)
  ·refine aJ (aa (ai (aH (ag Jg) O (aC O (fun _ _ a d=>ah tQ (a.ev O) (bR d (vs:=[sL f p0.Coppers g,sL i p0.Outline j,sL b p0.Bores c,sL o p0.Lands p]) (k:=1) O 1) O) (aH (bf lS) O (Tr.k O (ae (aa (av (ai (aH (ag xZ) O (aC O (fun _ _ a d=>ah Ej (a.ev O) (bR d (vs:=[sL f p0.Coppers g,sL i p0.Outline j,sL b p0.Bores c,sL o p0.Lands p]) (k:=1) O 0) O) (aH (bf zg) O (ax O (ae (aa (Tr.block (bO (σ:=(List (List au))×Nat×Int) (fun m w s=>m=s.1.length+1∧s.1=List.drop s.2.1 p0.Coppers∧s.2.1≤p0.Coppers.length∧jy N p0 s.1 s.2.1 s.2.2=some r) (fun s=>[(1,pV Q),(4,iv s.2.2),(28,sL f p0.Coppers g),(29,iv (p0.Coppers.length:Int)),(30,iv (s.2.1:Int))]) (fun s=>[(1,bx Q #[sL f p0.Coppers g,sL i p0.Outline j,sL b p0.Bores c,sL o p0.Lands p] 31)]) (p0.Coppers.length+1) (p0.Coppers,0,(p0.Outline.length:Int)) ⟨O,O,Nat.zero_le _,H⟩ (.r O) (.r O) (fun _ _ h=>absurd h.1 (by simp)) ?_))))))))))))))))))
   intro w d2 m s hs
   obtain⟨a3,g3,f4⟩:=s
   obtain⟨f5,a8,k1,H⟩:=hs
   replace a8:a3=List.drop g3 p0.Coppers:=a8
   replace H:jy N p0 a3 g3 f4=some r:=H
   replace f5:m+1=a3.length+1:=f5
   replace hT:=hT.ext d2.ext
   replace v:=v.le d2
   replace y:=y.le d2
   replace l:=l.le d2
   replace A:=A.le d2
   replace leB:=leB.trans d2
   obtain rfl:m=a3.length:=by omega
   clear f5
   dsimp only
   cases a3 with
   | nil =>
    rw[jy.eq_1] at H
    refine ai (ay aR O O (ae (aa (av (bX O (bN a8) (bK (aA (aA (aP (aa (av (ai (aH (ag Jg) O (aC O (fun _ _ a d=>ah tQ (a.ev O) (bR d (vs:=[sL f p0.Coppers g,sL i p0.Outline j,sL b p0.Bores c,sL o p0.Lands p]) (k:=1) O 1) O) ?_))))))))))))))
    obtain⟨f6,h9,H⟩:=bnd H
    refine bu (r:=(iv f6)) (wn O) O Tryz.call38 (aj O aG) (fun W hW=>jv N p0.Outline i j (y.rl.ext hW.bU) f6 h9 (HF.start _)) (Tr.k O (ae (aa (ai (ax O (ay fM O O (ae (aa (aT O H (fun H=>?_) (fun H=>?_))))))))))
    ·refine ai (ax O (Tr.k O (Tr.k O (ae (aa (aO (aD ?_)))))))
     obtain rfl:=oI H
     exact bL (m:=[.pointer none,iv f6]) [] (aU O (aU O bD)) (fun W hW=>⟨w,((none,0),(none,0),(none,0),(none,0),(none,0),(none,0),(none,0),(none,0),(none,0),(none,0),(none,0),(none,0),(none,0)),leB,O,⟨trivial,trivial,trivial,trivial,trivial,trivial,trivial,trivial,trivial,trivial,trivial,trivial,trivial⟩,hW.pick (ks:=[950]) (by decide) (aN O bg)⟩)
    ·refine aJ (aa (av (ai (ax O (ay iG O O (ae (aa (aT O H (fun H=>?_) (fun H=>?_)))))))))
     ·refine ai (Tr.k O (Tr.k O (ae (aa (aO (aD ?_))))))
      obtain rfl:=oI H
      exact bL (m:=[.pointer none,iv 2]) [] (aU O (aU O bD)) (fun W hW=>⟨w,((none,0),(none,0),(none,0),(none,0),(none,0),(none,0),(none,0),(none,0),(none,0),(none,0),(none,0),(none,0),(none,0)),leB,O,⟨trivial,trivial,trivial,trivial,trivial,trivial,trivial,trivial,trivial,trivial,trivial,trivial,trivial⟩,hW.pick (ks:=[950]) (by decide) (aN O bg)⟩)
     ·refine aJ (aa (av (ai (aC O (fun _ _ a d=>aM (cs:=[sL f p0.Coppers g,sL i p0.Outline j,sL b p0.Bores c,sL o p0.Lands p]) uZ uP (a.ev O) (aF.take (bR d (vs:=[sL f p0.Coppers g,sL i p0.Outline j,sL b p0.Bores c,sL o p0.Lands p]) (k:=1) O 0) 4) O) ?_))))
      obtain⟨f7,i0,H⟩:=bnd H
      refine bu (r:=(iv f7)) (wn O) O Tryz.call39 (aj O aG) (fun W hW=>wD N p0 f g (v.rl.ext hW.bU) i j (y.rl.ext hW.bU) b c (l.rl.ext hW.bU) o p (A.rl.ext hW.bU) f7 i0 (HF.start _)) (Tr.k O (ae (aa (ai (ax O (ay fM O O (ae (aa (aT O H (fun H=>?_) (fun H=>?_))))))))))
      ·refine ai (ax O (Tr.k O (Tr.k O (ae (aa (aO (aD ?_)))))))
       obtain rfl:=oI H
       exact bL (m:=[.pointer none,iv f7]) [] (aU O (aU O bD)) (fun W hW=>⟨w,((none,0),(none,0),(none,0),(none,0),(none,0),(none,0),(none,0),(none,0),(none,0),(none,0),(none,0),(none,0),(none,0)),leB,O,⟨trivial,trivial,trivial,trivial,trivial,trivial,trivial,trivial,trivial,trivial,trivial,trivial,trivial⟩,hW.pick (ks:=[950]) (by decide) (aN O bg)⟩)
      ·refine aJ (aa (av (ai (aC O (fun _ _ a d=>aM (cs:=[sL f p0.Coppers g,sL i p0.Outline j,sL b p0.Bores c,sL o p0.Lands p]) uZ uP (a.ev O) (aF.take (bR d (vs:=[sL f p0.Coppers g,sL i p0.Outline j,sL b p0.Bores c,sL o p0.Lands p]) (k:=1) O 0) 4) O) ?_))))
       obtain⟨f8,i1,H⟩:=bnd H
       refine bu (r:=(iv f8)) (wn O) O Tryz.call40 (aj O aG) (fun W hW=>wC N (hT.ext hW.bU) p0 f g (v.rl.ext hW.bU) i j (y.rl.ext hW.bU) b c (l.rl.ext hW.bU) o p (A.rl.ext hW.bU) f8 i1 (HF.start _)) (Tr.k O (ae (aa (ai (ax O (ay fM O O (ae (aa (aT O H (fun H=>?_) (fun H=>?_))))))))))
       ·refine ai (ax O (Tr.k O (Tr.k O (ae (aa (aO (aD ?_)))))))
        obtain rfl:=oI H
        exact bL (m:=[.pointer none,iv f8]) [] (aU O (aU O bD)) (fun W hW=>⟨w,((none,0),(none,0),(none,0),(none,0),(none,0),(none,0),(none,0),(none,0),(none,0),(none,0),(none,0),(none,0),(none,0)),leB,O,⟨trivial,trivial,trivial,trivial,trivial,trivial,trivial,trivial,trivial,trivial,trivial,trivial,trivial⟩,hW.pick (ks:=[950]) (by decide) (aN O bg)⟩)
       ·refine aJ (aa (av (ai (aH (ag rE) O (aC O (fun _ _ a d=>ah yG (a.ev O) (bR d (vs:=[sL f p0.Coppers g,sL i p0.Outline j,sL b p0.Bores c,sL o p0.Lands p]) (k:=1) O 2) O) (aH (bf zf) O (ax O (ae (aa (Tr.block (bO (σ:=(List gP)×Nat) (fun m w s=>m=s.1.length+1∧s.1=List.drop s.2 p0.Bores∧s.2≤p0.Bores.length∧gF N p0 s.1 s.2=some r) (fun s=>[(1,pV Q),(63,sL b p0.Bores c),(64,iv (p0.Bores.length:Int)),(65,iv (s.2:Int))]) (fun s=>[(1,bx Q #[sL f p0.Coppers g,sL i p0.Outline j,sL b p0.Bores c,sL o p0.Lands p] 31)]) (p0.Bores.length+1) (p0.Bores,0) ⟨O,O,Nat.zero_le _,H⟩ (.r O) (.r O) (fun _ _ h=>absurd h.1 (by simp)) ?_)))))))))))
        intro w a9 m s hs
        obtain⟨S,d1⟩:=s
        obtain⟨f9,b0,k2,H⟩:=hs
        replace b0:S=List.drop d1 p0.Bores:=b0
        replace H:gF N p0 S d1=some r:=H
        replace f9:m+1=S.length+1:=f9
        replace hT:=hT.ext a9.ext
        replace v:=v.le a9
        replace y:=y.le a9
        replace l:=l.le a9
        replace A:=A.le a9
        replace leB:=leB.trans a9
        obtain rfl:m=S.length:=by omega
        clear f9
        dsimp only
        cases S with
        | nil=>
         rw[gF.eq_1] at H
         refine ai (ay aR O O (ae (aa (av (bX O (bN b0) (bK (aA (aA (aP (aa (ai (aC O (fun _ _ a d=>aM (cs:=[sL f p0.Coppers g,sL i p0.Outline j,sL b p0.Bores c,sL o p0.Lands p]) uZ uP (a.ev O) (aF.take (bR d (vs:=[sL f p0.Coppers g,sL i p0.Outline j,sL b p0.Bores c,sL o p0.Lands p]) (k:=1) O 0) 4) O) (ko (vs:=[(0,.agg #[sL f p0.Coppers g,sL i p0.Outline j,sL b p0.Bores c,sL o p0.Lands p])]) (cs:=[sL f p0.Coppers g,sL i p0.Outline j,sL b p0.Bores c,sL o p0.Lands p,.slice none 0 0,.slice none 0 0,.slice none 0 0,.slice none 0 0,.slice none 0 0,.slice none 0 0,.slice none 0 0,.slice none 0 0]) (wn O) O (bz O dE) (by kernel_rfl) (fw 5 (cs:=[sL f p0.Coppers g,sL i p0.Outline j,sL b p0.Bores c,sL o p0.Lands p,.slice none 0 0,.slice none 0 0,.slice none 0 0,.slice none 0 0,.slice none 0 0,.slice none 0 0,.slice none 0 0,.slice none 0 0]) (wn O) O O O fun T=>(Tr.k O (ae (aa (av (ai (ax O (bC 6 74 bM (bC 7 76 dG ?_))))))))))))))))))))))
         obtain⟨C,i2,H⟩:=bnd H
         refine eZ [5,6,7] [bx T #[sL f p0.Coppers g,sL i p0.Outline j,sL b p0.Bores c,sL o p0.Lands p,.slice none 0 0,.slice none 0 0,.slice none 0 0,.slice none 0 0,.slice none 0 0,.slice none 0 0,.slice none 0 0,.slice none 0 0] 72,ow none 0 74 bM ([]:List (List aQ)),ow none 0 76 dG ([]:List eQ)] (U:=(Option Addr×Nat)×(Option Addr×Nat)) (fun u=>(bV C.1)) (fun a' W u=>cO u.1.1 C.2.1.length u.1.2∧cO u.2.1 C.2.2.length u.2.2) (fun u=>[bx T #[sL f p0.Coppers g,sL i p0.Outline j,sL b p0.Bores c,sL o p0.Lands p,sL u.1.1 C.2.1 u.1.2,sL u.2.1 C.2.2 u.2.2,.slice none 0 0,.slice none 0 0,.slice none 0 0,.slice none 0 0,.slice none 0 0,.slice none 0 0] 72,ow u.1.1 u.1.2 74 bM C.2.1,ow u.2.1 u.2.2 76 dG C.2.2]) O (aN O (aN O (aN O bg))) (fun _=>O) (wn O) O Tryz.call43 (aj O aG) (fun W hW hp hE=>uM N (dD.mk p0 ([]:List (List aQ)) ([]:List eQ) [] [] [] [] [] []) f g (v.rl.ext (hW.dU hp)) i j (y.rl.ext (hW.dU hp)) b c (l.rl.ext (hW.dU hp)) o p (A.rl.ext (hW.dU hp)) none 0 none 0 none 0 (Sl.nil _ _ _) none 0 (Sl.nil _ _ _) none 0 (Sl.nil _ _ _) none 0 (Sl.nil _ _ _) none 0 (Sl.nil _ _ _) none 0 (Sl.nil _ _ _) T C i2 hE) ?_
         intro w u b4 hu
         obtain⟨⟨D,E⟩,⟨F,G⟩⟩:=u
         obtain⟨g4,g5⟩:=hu
         replace hT:=hT.ext b4.ext
         replace v:=v.le b4
         replace y:=y.le b4
         replace l:=l.le b4
         replace A:=A.le b4
         replace leB:=leB.trans b4
         have j1:cO D C.2.1.length E:=g4 --@phi
         have j2:cO F C.2.2.length G:=g5 --@phi
         dsimp only
         refine aH iQ O (ae (aa (aT O H (fun H=>?_) (fun H=>?_))))
         ·refine ai (Tr.k O (Tr.k O (ae (aa (aO (aD ?_))))))
          obtain rfl:=oI H
          exact bL (m:=[.pointer none,iv 2]) [] (aU O (aU O bD)) (fun W hW=>⟨w,((none,0),(none,0),(none,0),(none,0),(none,0),(none,0),(none,0),(none,0),(none,0),(none,0),(none,0),(none,0),(none,0)),leB,O,⟨trivial,trivial,trivial,trivial,trivial,trivial,trivial,trivial,trivial,trivial,trivial,trivial,trivial⟩,hW.pick (ks:=[950]) (by decide) (aN O bg)⟩)
         ·refine aJ (aa (ai (ax O (bC 8 69 fE ?_))))
          obtain⟨a4,i3,H⟩:=bnd H
          refine eZ [5,8] [bx T #[sL f p0.Coppers g,sL i p0.Outline j,sL b p0.Bores c,sL o p0.Lands p,sL D C.2.1 E,sL F C.2.2 G,.slice none 0 0,.slice none 0 0,.slice none 0 0,.slice none 0 0,.slice none 0 0,.slice none 0 0] 72,ow none 0 69 fE ([]:List (List Int))] (U:=(Option Addr×Nat)) (fun u=>(.tuple #[])) (fun a' W u=>cO u.1 a4.length u.2) (fun u=>[bx T #[sL f p0.Coppers g,sL i p0.Outline j,sL b p0.Bores c,sL o p0.Lands p,sL D C.2.1 E,sL F C.2.2 G,sL u.1 a4 u.2,.slice none 0 0,.slice none 0 0,.slice none 0 0,.slice none 0 0,.slice none 0 0] 72,ow u.1 u.2 69 fE a4]) O (aN O (aN O bg)) (fun _=>O) (wn O) O Tryz.call44 (aj O aG) (fun W hW hp hE=>uK (dD.mk p0 C.2.1 C.2.2 ([]:List (List Int)) [] [] [] [] []) f g (v.rl.ext (hW.dU hp)) i j (y.rl.ext (hW.dU hp)) b c (l.rl.ext (hW.dU hp)) o p (A.rl.ext (hW.dU hp)) D E (hW.Ha (k:=6) O hp O) F G (hW.Ha (k:=7) O hp O) none 0 none 0 (Sl.nil _ _ _) none 0 (Sl.nil _ _ _) none 0 (Sl.nil _ _ _) none 0 (Sl.nil _ _ _) none 0 (Sl.nil _ _ _) T a4 i3 hE) ?_
          intro w u b5 hu
          obtain⟨M,P⟩:=u
          have g6:=hu
          replace hT:=hT.ext b5.ext
          replace v:=v.le b5
          replace y:=y.le b5
          replace l:=l.le b5
          replace A:=A.le b5
          replace leB:=leB.trans b5
          have j3:cO M a4.length P:=g6 --@phi
          dsimp only
          refine ae (aa (ai (ax O (MX 9 85 159 eu (bC 10 3 az (bC 11 3 az (bC 12 3 az (bC 13 172 dX ?_))))))))
          obtain⟨B,i4,H⟩:=bnd H
          refine eZ [5,9,10,11,12,13] [bx T #[sL f p0.Coppers g,sL i p0.Outline j,sL b p0.Bores c,sL o p0.Lands p,sL D C.2.1 E,sL F C.2.2 G,sL M a4 P,.slice none 0 0,.slice none 0 0,.slice none 0 0,.slice none 0 0,.slice none 0 0] 72,dq none (([]:List dz)).length 0 85 159 eu [],ow none 0 3 az ([]:List Int),ow none 0 3 az ([]:List Int),ow none 0 3 az ([]:List Int),ow none 0 172 dX ([]:List oC)] (U:=(Option Addr×Nat×List (DE dw))×(Option Addr×Nat)×(Option Addr×Nat)×(Option Addr×Nat)×(Option Addr×Nat)) (fun u=>(.tuple #[])) (fun a' W u=>(DC u.1.2.2 B.1∧cO u.1.1 B.1.length u.1.2.1)∧cO u.2.1.1 B.2.1.length u.2.1.2∧cO u.2.2.1.1 B.2.2.1.length u.2.2.1.2∧cO u.2.2.2.1.1 B.2.2.2.1.length u.2.2.2.1.2∧cO u.2.2.2.2.1 B.2.2.2.2.length u.2.2.2.2.2) (fun u=>[bx T #[sL f p0.Coppers g,sL i p0.Outline j,sL b p0.Bores c,sL o p0.Lands p,sL D C.2.1 E,sL F C.2.2 G,sL M a4 P,sL u.1.1 B.1 u.1.2.1,sL u.2.1.1 B.2.1 u.2.1.2,sL u.2.2.1.1 B.2.2.1 u.2.2.1.2,sL u.2.2.2.1.1 B.2.2.2.1 u.2.2.2.1.2,sL u.2.2.2.2.1 B.2.2.2.2 u.2.2.2.2.2] 72,dq u.1.1 B.1.length u.1.2.1 85 159 eu u.1.2.2,ow u.2.1.1 u.2.1.2 3 az B.2.1,ow u.2.2.1.1 u.2.2.1.2 3 az B.2.2.1,ow u.2.2.2.1.1 u.2.2.2.1.2 3 az B.2.2.2.1,ow u.2.2.2.2.1 u.2.2.2.2.2 172 dX B.2.2.2.2]) O (aN O (aN O (aN O (aN O (aN O (aN O bg)))))) (fun _=>O) (wn O) O Tryz.call45 (aj O aG) (fun W hW hp hE=>uh N (dD.mk p0 C.2.1 C.2.2 a4 ([]:List dz) ([]:List Int) ([]:List Int) ([]:List Int) ([]:List oC)) f g (v.rl.ext (hW.dU hp)) i j (y.rl.ext (hW.dU hp)) b c (l.rl.ext (hW.dU hp)) o p (A.rl.ext (hW.dU hp)) D E (hW.Ha (k:=6) O hp O) F G (hW.Ha (k:=7) O hp O) M P (hW.Ha (k:=8) O hp O) none 0 [] ⟨DC.nil,gZ⟩ none 0 none 0 none 0 none 0 T B i4 hE) ?_
          intro w u b6 hu
          obtain⟨⟨b7,b8,e6⟩,⟨b9,c0⟩,⟨c3,c4⟩,⟨c5,c6⟩,⟨c7,c8⟩⟩:=u
          obtain⟨g7,g8,g9,h0,h1⟩:=hu
          replace hT:=hT.ext b6.ext
          replace v:=v.le b6
          replace y:=y.le b6
          replace l:=l.le b6
          replace A:=A.le b6
          replace leB:=leB.trans b6
          have g0:(DC e6 B.1∧cO b7 B.1.length b8):=g7 --@phi
          have j4:cO b9 B.2.1.length c0:=g8 --@phi
          have j5:cO c3 B.2.2.1.length c4:=g9 --@phi
          have j6:cO c5 B.2.2.2.1.length c6:=h0 --@phi
          have j7:cO c7 B.2.2.2.2.length c8:=h1 --@phi
          dsimp only
          refine ae (aa (ai (ax O (Tr.k O (Tr.k O (ae (aa (aO ?_))))))))
          obtain rfl:=oI H
          refine Tr.freeze 6 O fun w c9 I=>?_
          replace hT:=hT.ext c9.ext
          replace v:=v.le c9
          replace y:=y.le c9
          replace l:=l.le c9
          replace A:=A.le c9
          replace leB:=leB.trans c9
          refine Tr.freeze 7 O fun w b1 J=>?_
          replace hT:=hT.ext b1.ext
          replace v:=v.le b1
          replace y:=y.le b1
          replace l:=l.le b1
          replace A:=A.le b1
          replace I:=I.le b1
          replace leB:=leB.trans b1
          refine Tr.freeze 8 O fun w a6 V=>?_
          replace hT:=hT.ext a6.ext
          replace v:=v.le a6
          replace y:=y.le a6
          replace l:=l.le a6
          replace A:=A.le a6
          replace I:=I.le a6
          replace J:=J.le a6
          replace leB:=leB.trans a6
          refine GI 9 O g0.1 fun w a1 a2=>?_
          replace hT:=hT.ext a1.ext
          replace v:=v.le a1
          replace y:=y.le a1
          replace l:=l.le a1
          replace A:=A.le a1
          replace I:=I.le a1
          replace J:=J.le a1
          replace V:=V.le a1
          replace leB:=leB.trans a1
          refine Tr.freeze 10 O fun w a0 b2=>?_
          replace hT:=hT.ext a0.ext
          replace v:=v.le a0
          replace y:=y.le a0
          replace l:=l.le a0
          replace A:=A.le a0
          replace I:=I.le a0
          replace J:=J.le a0
          replace V:=V.le a0
          replace a2:=a2.le a0
          replace leB:=leB.trans a0
          refine Tr.freeze 11 O fun w Z d4=>?_
          replace hT:=hT.ext Z.ext
          replace v:=v.le Z
          replace y:=y.le Z
          replace l:=l.le Z
          replace A:=A.le Z
          replace I:=I.le Z
          replace J:=J.le Z
          replace V:=V.le Z
          replace a2:=a2.le Z
          replace b2:=b2.le Z
          replace leB:=leB.trans Z
          refine Tr.freeze 12 O fun w L f1=>?_
          replace hT:=hT.ext L.ext
          replace v:=v.le L
          replace y:=y.le L
          replace l:=l.le L
          replace A:=A.le L
          replace I:=I.le L
          replace J:=J.le L
          replace V:=V.le L
          replace a2:=a2.le L
          replace b2:=b2.le L
          replace d4:=d4.le L
          replace leB:=leB.trans L
          refine Tr.freeze 13 O fun w K i5=>?_
          replace hT:=hT.ext K.ext
          replace v:=v.le K
          replace y:=y.le K
          replace l:=l.le K
          replace A:=A.le K
          replace I:=I.le K
          replace J:=J.le K
          replace V:=V.le K
          replace a2:=a2.le K
          replace b2:=b2.le K
          replace d4:=d4.le K
          replace f1:=f1.le K
          replace leB:=leB.trans K
          exact bL (m:=[pV T,iv 0]) [] (aU O (aU O bD)) (fun W hW=>⟨w,((f,g),(i,j),(b,c),(o,p),(D,E),(F,G),(M,P),(b7,b8),(b9,c0),(c3,c4),(c5,c6),(c7,c8),(none,T)),leB,O,⟨v,y,l,A,I,J,V,a2,b2,d4,f1,i5,trivial⟩,hW.pick (ks:=[5]) (by decide) (aN O bg)⟩)
        | cons t S=>
         rw[gF.eq_2] at H
         refine ai (ay aR O O (ae (aa (av (bY O (cu b0) (aJ (aa (av (Tr.block (ai (ax O (aC O (fun _ _ a d=>ak Bg (a.ev O) l.form (a.ev O) (Int.natCast_nonneg _) (aX b0)) (aC O (fun _ _ a d=>aM (cs:=[iv t.At.X,iv t.At.Y,iv t.Size,iv t.From,iv t.To,bV t.Plated]) oH lT (a.ev O) (aF.take (rP rT (l.rl) (dI b0) d) 6) O) (Tr.alloc 14 (wn O) O Aa fun d8=>(Tr.k O (bF 14 (cs:=[iv t.At.X,iv t.At.Y,iv t.Size,iv t.From,iv t.To,bV t.Plated]) [iv t.At.X,iv t.At.Y,iv t.Size,iv t.From,iv t.To,bV t.Plated] (wn O) O O O O lT O O O (ae (aa (ai (aH (ag rE) O (aC O (fun _ _ a d=>ah yG (a.ev O) (bR d (vs:=[sL f p0.Coppers g,sL i p0.Outline j,sL b p0.Bores c,sL o p0.Lands p]) (k:=1) O 2) O) (ax O ?_))))))))))))))))))))))
         obtain⟨a7,f2,H⟩:=bnd H
         refine aC O (fun _ _ a d=>IK Bg (a.ev O) l.form (a.ev O) f2) (aH (bf zf) O (ax O (ae (aa (Tr.block (bO (σ:=(List gP)×Nat×(List gP)×(Option Addr)×Nat) (fun m w s=>m=s.1.length+1∧s.1=List.drop s.2.1 a7∧s.2.1≤a7.length∧jV (gF N p0 S (d1+1)) t s.1 s.2.1 s.2.2.1=some r∧Sl w.O w.W dY s.2.2.2.1 s.2.2.2.2 s.2.2.1) (fun s=>[(1,pV Q),(12,pV d8),(63,sL b p0.Bores c),(64,iv (p0.Bores.length:Int)),(65,iv (d1:Int)),(73,sL s.2.2.2.1 s.2.2.1 s.2.2.2.2),(74,iv (a7.length:Int)),(75,iv (s.2.1:Int))]) (fun s=>[(1,bx Q #[sL f p0.Coppers g,sL i p0.Outline j,sL b p0.Bores c,sL o p0.Lands p] 31),(14,bx d8 #[iv t.At.X,iv t.At.Y,iv t.Size,iv t.From,iv t.To,bV t.Plated] 119)]) (a7.length+1) (a7,0,a7,b,c) ⟨O,O,Nat.zero_le _,H,(Sl.pre l f2)⟩ (.r O) (.r O) (fun _ _ h=>absurd h.1 (by simp)) ?_))))))
         intro w e4 m s hs
         obtain⟨a5,e7,d9,d5,d6⟩:=s
         obtain⟨g1,d3,k3,H,d7⟩:=hs
         replace d3:a5=List.drop e7 a7:=d3
         replace H:jV (gF N p0 S (d1+1)) t a5 e7 d9=some r:=H
         replace g1:m+1=a5.length+1:=g1
         replace hT:=hT.ext e4.ext
         replace l:=l.le e4
         replace leB:=leB.trans e4
         replace a9:=a9.trans e4
         replace d7:Sl w.O w.W dY d5 d6 d9:=d7
         obtain rfl:m=a5.length:=by omega
         clear g1
         dsimp only
         cases a5 with
         |nil=>
          rw[jV.eq_1] at H
          exact ai (ay aR O O (ae (aa (av (bX O (bN d3) (bK (aA (aA (aP (aK (aa (Tr.region (ay bB O O (ax O (ae (aI a9 (S,(d1+1)) ⟨O,bT b0,aX b0,H⟩ (.cons O (.cons O (.cons O (.cons (congrArg (fun z=>some (Value.int .i64 z)) (bS b0 l.form)) .nil)))) (.r O)))))))))))))))))
         | cons k4 a5=>
          rw[jV.eq_2] at H
          refine ai (ay aR O O (ae (aa (av (bY O (cu d3) (aJ (aa (av (Tr.block (ai ?_))))))))))
          obtain⟨q,i6,H⟩:=bnd H
          obtain⟨h3,h4,h5⟩:=bi i6
          refine aC O (fun _ _ a d=>ak Bg (a.ev O) d7.form (a.ev O) h3 h4) (aC O (fun _ _ a d=>aM (cs:=[iv q.At.X,iv q.At.Y,iv q.Size,iv q.From,iv q.To,bV q.Plated]) oH lT (a.ev O) (aF.take (rP rT (d7.rl) h5 d) 6) O) (Tr.alloc 16 (wn O) O Aa fun j8=>(bF 16 (cs:=[iv q.At.X,iv q.At.Y,iv q.Size,iv q.From,iv q.To,bV q.Plated]) [iv q.At.X,iv q.At.Y,iv q.Size,iv q.From,iv q.To,bV q.Plated] (wn O) O O O O lT O O O (ae (aa (av (ji (by kernel_rfl) (by kernel_rfl) (dA (ag xk) O (bv O (fun _ _ a d=>ah bG (a.ev O) (bR d (vs:=[iv t.At.X,iv t.At.Y,iv t.Size,iv t.From,iv t.To,bV t.Plated]) (k:=14) O 3) O) (dA (ag zJ) O (bv O (fun _ _ a d=>ah bG (a.ev O) (bR d (vs:=[iv q.At.X,iv q.At.Y,iv q.Size,iv q.From,iv q.To,bV q.Plated]) (k:=16) O 4) O) ?_)))))))))))
          refine iU jY O O (eY O (qx 6 [(1,pV Q),(12,pV d8),(14,pV j8),(63,sL b p0.Bores c),(64,iv (p0.Bores.length:Int)),(65,iv (d1:Int)),(73,sL d5 d9 d6),(74,iv (a7.length:Int)),(75,iv (e7:Int)),(90,bV ((decide (t.From≤q.To))&&(decide (q.From≤t.To))))] ?_ ?_))
          ·cases f3:(decide (t.From≤q.To))
           ·exact Tq.ps O (Tq.ps O (Tq.ps O (Tq.ps O (Tq.ps O (iU aZ O O (bW (.r O)))))))
           ·exact jA (ag xk) O (Tq.x (fun _ _ a d=>ah bG (a.ev O) (bR d (vs:=[iv q.At.X,iv q.At.Y,iv q.Size,iv q.From,iv q.To,bV q.Plated]) (k:=16) O 3) O) (jA (ag zJ) O (Tq.x (fun _ _ a d=>ah bG (a.ev O) (bR d (vs:=[iv t.At.X,iv t.At.Y,iv t.Size,iv t.From,iv t.To,bV t.Plated]) (k:=14) O 4) O) (Tq.e2 jY O O (iU aW O O (bW (.r O)))))))
          ·refine eY O ?_
           obtain⟨j9,d0,H⟩:=bnd H
           refine qx 7 [(1,pV Q),(12,pV d8),(63,sL b p0.Bores c),(64,iv (p0.Bores.length:Int)),(65,iv (d1:Int)),(73,sL d5 d9 d6),(74,iv (a7.length:Int)),(75,iv (e7:Int)),(98,bV j9)] ?_ ?_
           ·cases f3:((decide (t.From≤q.To))&&(decide (q.From≤t.To)))
            ·rw[f3] at d0
             rw[if_neg (by decide)] at d0
             have H:=d0
             obtain rfl:=oI H
             exact Tq.ps O (Tq.ps O (Tq.ps O (Tq.ps O (Tq.ps O (Tq.ps O (iU aZ O O (bW (.r O))))))))
            ·rw[f3] at d0
             rw[if_pos O] at d0
             have H:=d0
             refine Tq.x (fun _ _ a d=>aM (cs:=[iv t.At.X,iv t.At.Y,iv t.Size,iv t.From,iv t.To,bV t.Plated]) oH lT (a.ev O) (aF.take (bR d (vs:=[iv t.At.X,iv t.At.Y,iv t.Size,iv t.From,iv t.To,bV t.Plated]) (k:=14) O 0) 6) O) ?_
             obtain⟨e0,i7,H⟩:=bnd H
             refine jB (r:=(.agg #[iv e0.X0,iv e0.Y0,iv e0.X1,iv e0.Y1])) (wg O O O) O Tryz.call42 (aj O aG) (fun W hW=>jT t e0 i7 (HF.start _)) (Tq.x (fun _ _ a d=>aM (cs:=[iv q.At.X,iv q.At.Y,iv q.Size,iv q.From,iv q.To,bV q.Plated]) oH lT (a.ev O) (aF.take (bR d (vs:=[iv q.At.X,iv q.At.Y,iv q.Size,iv q.From,iv q.To,bV q.Plated]) (k:=16) O 0) 6) O) ?_)
             obtain⟨e3,i8,H⟩:=bnd H
             refine jB (r:=(.agg #[iv e3.X0,iv e3.Y0,iv e3.X1,iv e3.Y1])) (wg O O O) O Tryz.call42 (aj O aG) (fun W hW=>jT q e3 i8 (HF.start _)) ?_
             obtain⟨h6,i9,H⟩:=bnd H
             refine jB (r:=(iv h6)) (wg O O O) O Tryz.call41 (aj O (aj O aG)) (fun W hW=>qO e0 e3 h6 i9 (HF.start _)) (Tq.e2 iA O O (iU aW O O ?_))
             obtain rfl:=oI H
             exact bW (.r O)
           ·refine jD (aa (aT O H (fun H=>?_) (fun H=>?_)))
            ·refine ai (Tr.k O (Tr.k O (ae (aa (aO (bq (aD (aD (bq (bq (aD (aD (bq (aD ?_))))))))))))))
             obtain rfl:=oI H
             exact bL (m:=[.pointer none,iv 12]) [] (aU O (aU O bD)) (fun W hW=>⟨w,((none,0),(none,0),(none,0),(none,0),(none,0),(none,0),(none,0),(none,0),(none,0),(none,0),(none,0),(none,0),(none,0)),leB,O,⟨trivial,trivial,trivial,trivial,trivial,trivial,trivial,trivial,trivial,trivial,trivial,trivial,trivial⟩,hW.pick (ks:=[950]) (by decide) (aN O bg)⟩)
            ·exact aJ (aK (aa (Tr.region (ay bB O O (ax O (ae (aI e4 (a5,(e7+1),d9,d5,d6) ⟨O,bT d3,aX d3,H,d7⟩ (.cons O (.cons O (.cons O (.cons O (.cons O (.cons O (.cons O (.cons (congrArg (fun z=>some (Value.int .i64 z)) (bS d3 (Ci l.form f2))) .nil)))))))) (.r O))))))))
   | cons h7 a3=>
    rw[jy.eq_2] at H
    refine ai (ay aR O O (ae (aa (av (bY O (cu a8) (aJ (aa (av (Tr.block (ai ?_))))))))))
    obtain⟨k0,e5,h2,h8⟩:=(v).el (dI a8)
    obtain⟨e8,e9⟩:=k0
    have b3:=h2
    replace b3:Sl w.O w.W aB e8 e9 h7:=b3
    replace e5:w.R (mY f):=Or.inl e5
    refine aC O (fun _ _ a d=>ak Gn (a.ev O) v.form (a.ev O) (Int.natCast_nonneg _) (aX a8)) (aC O (fun _ _ a d=>ah tQ (a.ev O) (qY e5 h8 d) O) (Tr.k O (ae (aa (av (ai (ax O ?_)))))))
    obtain⟨g2,j0,H⟩:=bnd H
    refine bu (r:=(iv g2)) (wn O) O Tryz.call38 (aj O aG) (fun W hW=>jv N h7 e8 e9 (b3.rl.ext hW.bU) g2 j0 (HF.start _)) (Tr.k O (ae (aa (ai (ax O (ay fM O O (ae (aa (aT O H (fun H=>?_) (fun H=>?_))))))))))
    ·refine ai (ax O (Tr.k O (Tr.k O (ae (aa (aO (aD (bq (aD (aD (bq (aD ?_))))))))))))
     obtain rfl:=oI H
     exact bL (m:=[.pointer none,iv g2]) [] (aU O (aU O bD)) (fun W hW=>⟨w,((none,0),(none,0),(none,0),(none,0),(none,0),(none,0),(none,0),(none,0),(none,0),(none,0),(none,0),(none,0),(none,0)),leB,O,⟨trivial,trivial,trivial,trivial,trivial,trivial,trivial,trivial,trivial,trivial,trivial,trivial,trivial⟩,hW.pick (ks:=[950]) (by decide) (aN O bg)⟩)
    ·exact aJ (aa (Tr.region (ax O (ax O (aH (bf lS) O (ay bB O O (Tr.k O (ae (aK (aa (Tr.region (ay bB O O (ax O (ae (aI d2 (a3,(g3+1),(bJ (f4+(h7.length:Int)))) ⟨O,bT a8,aX a8,H⟩ (.cons O (.cons O (.cons O (.cons O (.cons (congrArg (fun z=>some (Value.int .i64 z)) (bS a8 v.form)) .nil))))) (.r O))))))))))))))))

theorem AP(N:Nat){w:Bs}(hT:Dx Tryz.prog w)(p0:ByteArray)(r:Bool)(H:qh N p0=some r)(hE:HF w w.W E0):Calls Tryz.prog 28 [sv p0].toArray w.W fun e W'=>e= .returned (bV r)∧HF w W' E0:=by
 unfold qh at H
 have leB:=Bs.Le.refl w
 refine aV (n:=9) Tryz.func28 O O O hE (ai (Tr.k O (ae (aa (ai (ax O (ay Cb O O (ax O ?_))))))))
 obtain⟨c,a,H⟩:=bnd H
 refine bP 3 [(8,bV c)] [] ?_ ?_
 ·cases b:(DN p0 (⟨#[]⟩))
  ·rw[b] at a
   rw[if_neg (by decide)] at a
   have H:=a
   refine bH run_move O ?_
   obtain⟨d,f,H⟩:=bnd H
   refine bu (r:=(bV d)) (wg O O O) O Tryz.call62 (aj O aG) (fun W hW=>sH N (hT.ext hW.bU) p0 d f (HF.start _)) (ay aZ O O ?_)
   obtain rfl:=oI H
   exact ae (aS (.r O) .nil)
  ·rw[b] at a
   rw[if_pos O] at a
   have H:=a
   obtain rfl:=oI H
   exact Tr.ps O (Tr.ps O (ay aW O O (ae (aS (.r O) .nil))))
 ·show Tr _ _ (LF [(8,bV c)]) (LE []) _
  refine Tr.k O (ae (aa (aO ?_)))
  obtain rfl:=oI H
  exact cB leB

theorem zV(N:Nat){w:Bs}(hT:Dx Tryz.prog w)(p0:ByteArray)(r:Bool)(H:kW N p0=some r)(hE:HF w w.W E0):Calls Tryz.prog 27 [sv p0].toArray w.W fun e W'=>e= .returned (bV r)∧HF w W' E0:=by
 unfold kW at H
 have leB:=Bs.Le.refl w
 refine aV (n:=6) Tryz.func27 O O O hE (ai (Tr.k O (ae (aa (ai (ax O ?_))))))
 obtain⟨a,b,H⟩:=bnd H
 refine bu (r:=(bV a)) (wn O) O Tryz.call28 (aj O aG) (fun W hW=>AP N (hT.ext hW.bU) p0 a b (HF.start _)) (aH iQ O (Tr.k O (ae (aa (aO ?_)))))
 obtain rfl:=oI H
 exact cB leB

theorem Bw(N:Nat){w:Bs}(hT:Dx Tryz.prog w)(p0:gp)(a5:Option Addr)(a6:Nat)(d9:Sl w.R w.W iW a5 a6 p0.Classes)(a7:Option Addr)(a8:Nat)(e0:Sl w.R w.W jh a7 a8 p0.Areas)(p1:nU)(a9:Option Addr)(b0:Nat)(e3:Sl w.O w.W dF a9 b0 p1.Coppers)(b1:Option Addr)(b2:Nat)(e4:Sl w.O w.W aB b1 b2 p1.Outline)(b3:Option Addr)(b4:Nat)(e5:Sl w.O w.W dY b3 b4 p1.Bores)(b5:Option Addr)(b6:Nat)(e6:Sl w.O w.W eH b5 b6 p1.Lands)(p2:(List ByteArray))(b7:Option Addr)(b8:Nat)(b9:Sl w.R w.W mD b7 b8 p2)(r:((Option dD)×Int))(H:kU N p0 p1 p2=some r)(hE:HF w w.W (iZ [emp])):Calls Tryz.prog 12 [.agg #[iv p0.Clearance,iv p0.Width,iv p0.Ring,iv p0.Edge,iv p0.HoleGap,sL a5 p0.Classes a6,sL a7 p0.Areas a8],.agg #[sL a9 p1.Coppers b0,sL b1 p1.Outline b2,sL b3 p1.Bores b4,sL b5 p1.Lands b6],sL b7 p2 b8].toArray w.W fun e W'=>∃(w':Bs) (u:(Option Addr×Nat)×(Option Addr×Nat)×(Option Addr×Nat)×(Option Addr×Nat)×(Option Addr×Nat)×(Option Addr×Nat)×(Option Addr×Nat)×(Option Addr×Nat)×(Option Addr×Nat)×(Option Addr×Nat)×(Option Addr×Nat)×(Option Addr×Nat)×(Option Addr×Nat)),w.Le w'∧e= .returned (.tuple #[(Hy u.2.2.2.2.2.2.2.2.2.2.2.2.2 r.1),iv r.2])∧(di r.1 (fun x0=>Sl w'.O w'.W dF u.1.1 u.1.2 x0.Art.Coppers)∧di r.1 (fun x0=>Sl w'.O w'.W aB u.2.1.1 u.2.1.2 x0.Art.Outline)∧di r.1 (fun x0=>Sl w'.O w'.W dY u.2.2.1.1 u.2.2.1.2 x0.Art.Bores)∧di r.1 (fun x0=>Sl w'.O w'.W eH u.2.2.2.1.1 u.2.2.2.1.2 x0.Art.Lands)∧di r.1 (fun x0=>Sl w'.O w'.W bM u.2.2.2.2.1.1 u.2.2.2.2.1.2 x0.Drilled)∧di r.1 (fun x0=>Sl w'.O w'.W dG u.2.2.2.2.2.1.1 u.2.2.2.2.2.1.2 x0.Pieces)∧di r.1 (fun x0=>Sl w'.O w'.W fE u.2.2.2.2.2.2.1.1 u.2.2.2.2.2.2.1.2 x0.Touched)∧di r.1 (fun x0=>Sl w'.O w'.W dw u.2.2.2.2.2.2.2.1.1 u.2.2.2.2.2.2.2.1.2 x0.Groups)∧di r.1 (fun x0=>Sl w'.O w'.W az u.2.2.2.2.2.2.2.2.1.1 u.2.2.2.2.2.2.2.2.1.2 x0.OfPiece)∧di r.1 (fun x0=>Sl w'.O w'.W az u.2.2.2.2.2.2.2.2.2.1.1 u.2.2.2.2.2.2.2.2.2.1.2 x0.OfBore)∧di r.1 (fun x0=>Sl w'.O w'.W az u.2.2.2.2.2.2.2.2.2.2.1.1 u.2.2.2.2.2.2.2.2.2.2.1.2 x0.OfLand)∧di r.1 (fun x0=>Sl w'.O w'.W dX u.2.2.2.2.2.2.2.2.2.2.2.1.1 u.2.2.2.2.2.2.2.2.2.2.2.1.2 x0.AtLand)∧True)∧HF w' W' (iZ [PX u.2.2.2.2.2.2.2.2.2.2.2.2.2 72 r.1 (fun x0=> #[sL u.1.1 x0.Art.Coppers u.1.2,sL u.2.1.1 x0.Art.Outline u.2.1.2,sL u.2.2.1.1 x0.Art.Bores u.2.2.1.2,sL u.2.2.2.1.1 x0.Art.Lands u.2.2.2.1.2,sL u.2.2.2.2.1.1 x0.Drilled u.2.2.2.2.1.2,sL u.2.2.2.2.2.1.1 x0.Pieces u.2.2.2.2.2.1.2,sL u.2.2.2.2.2.2.1.1 x0.Touched u.2.2.2.2.2.2.1.2,sL u.2.2.2.2.2.2.2.1.1 x0.Groups u.2.2.2.2.2.2.2.1.2,sL u.2.2.2.2.2.2.2.2.1.1 x0.OfPiece u.2.2.2.2.2.2.2.2.1.2,sL u.2.2.2.2.2.2.2.2.2.1.1 x0.OfBore u.2.2.2.2.2.2.2.2.2.1.2,sL u.2.2.2.2.2.2.2.2.2.2.1.1 x0.OfLand u.2.2.2.2.2.2.2.2.2.2.1.2,sL u.2.2.2.2.2.2.2.2.2.2.2.1.1 x0.AtLand u.2.2.2.2.2.2.2.2.2.2.2.1.2])]):=by
 unfold kU at H
 have leB:=Bs.Le.refl w
 refine aV (n:=35) Tryz.func12 O O O hE (ai (fw 1 (cs:=[iv p0.Clearance,iv p0.Width,iv p0.Ring,iv p0.Edge,iv p0.HoleGap,sL a5 p0.Classes a6,sL a7 p0.Areas a8]) (wn O) O O O fun f3=>(fw 2 (cs:=[sL a9 p1.Coppers b0,sL b1 p1.Outline b2,sL b3 p1.Bores b4,sL b5 p1.Lands b6]) (wn O) O O O fun f4=>(Tr.k O (Tr.k O (ae (aa (av (ai (aC O (fun _ _ a d=>aM (cs:=[iv p0.Clearance,iv p0.Width,iv p0.Ring,iv p0.Edge,iv p0.HoleGap,sL a5 p0.Classes a6,sL a7 p0.Areas a8]) zQ yu (a.ev O) (aF.take (bR d (vs:=[iv p0.Clearance,iv p0.Width,iv p0.Ring,iv p0.Edge,iv p0.HoleGap,sL a5 p0.Classes a6,sL a7 p0.Areas a8]) (k:=1) O 0) 7) O) ?_))))))))))
 obtain⟨c4,e7,H⟩:=bnd H
 refine bu (r:=(iv c4)) (wn O) O Tryz.call25 (aj O aG) (fun W hW=>wS N p0 a5 a6 (d9.ext hW.bU) a7 a8 (e0.ext hW.bU) c4 e7 (HF.start _)) (Tr.k O (ae (aa (ai (ax O (ay fM O O (ae (aa (aT O H (fun H=>?_) (fun H=>?_))))))))))
 ·refine ai (ax O (Tr.k O (Tr.k O (ae (aa (aO (aD ?_)))))))
  obtain rfl:=oI H
  exact bL (m:=[.pointer none,iv c4]) [] (aU O (aU O bD)) (fun W hW=>⟨w,((none,0),(none,0),(none,0),(none,0),(none,0),(none,0),(none,0),(none,0),(none,0),(none,0),(none,0),(none,0),(none,0)),leB,O,⟨trivial,trivial,trivial,trivial,trivial,trivial,trivial,trivial,trivial,trivial,trivial,trivial,trivial⟩,hW.pick (ks:=[950]) (by decide) (aN O bg)⟩)
 ·refine aJ (aa (ai (aC O (fun _ _ a d=>aM (cs:=[sL a9 p1.Coppers b0,sL b1 p1.Outline b2,sL b3 p1.Bores b4,sL b5 p1.Lands b6]) uZ uP (a.ev O) (aF.take (bR d (vs:=[sL a9 p1.Coppers b0,sL b1 p1.Outline b2,sL b3 p1.Bores b4,sL b5 p1.Lands b6]) (k:=2) O 0) 4) O) ?_)))
  obtain⟨b,e8,H⟩:=bnd H
  refine eZ [3] [emp] (U:=(Option Addr×Nat)×(Option Addr×Nat)×(Option Addr×Nat)×(Option Addr×Nat)×(Option Addr×Nat)×(Option Addr×Nat)×(Option Addr×Nat)×(Option Addr×Nat)×(Option Addr×Nat)×(Option Addr×Nat)×(Option Addr×Nat)×(Option Addr×Nat)×(Option Addr×Nat)) (fun u=>(.tuple #[(Hy u.2.2.2.2.2.2.2.2.2.2.2.2.2 b.1),iv b.2])) (fun a' W u=>di b.1 (fun x0=>Sl a' W dF u.1.1 u.1.2 x0.Art.Coppers)∧di b.1 (fun x0=>Sl a' W aB u.2.1.1 u.2.1.2 x0.Art.Outline)∧di b.1 (fun x0=>Sl a' W dY u.2.2.1.1 u.2.2.1.2 x0.Art.Bores)∧di b.1 (fun x0=>Sl a' W eH u.2.2.2.1.1 u.2.2.2.1.2 x0.Art.Lands)∧di b.1 (fun x0=>Sl a' W bM u.2.2.2.2.1.1 u.2.2.2.2.1.2 x0.Drilled)∧di b.1 (fun x0=>Sl a' W dG u.2.2.2.2.2.1.1 u.2.2.2.2.2.1.2 x0.Pieces)∧di b.1 (fun x0=>Sl a' W fE u.2.2.2.2.2.2.1.1 u.2.2.2.2.2.2.1.2 x0.Touched)∧di b.1 (fun x0=>Sl a' W dw u.2.2.2.2.2.2.2.1.1 u.2.2.2.2.2.2.2.1.2 x0.Groups)∧di b.1 (fun x0=>Sl a' W az u.2.2.2.2.2.2.2.2.1.1 u.2.2.2.2.2.2.2.2.1.2 x0.OfPiece)∧di b.1 (fun x0=>Sl a' W az u.2.2.2.2.2.2.2.2.2.1.1 u.2.2.2.2.2.2.2.2.2.1.2 x0.OfBore)∧di b.1 (fun x0=>Sl a' W az u.2.2.2.2.2.2.2.2.2.2.1.1 u.2.2.2.2.2.2.2.2.2.2.1.2 x0.OfLand)∧di b.1 (fun x0=>Sl a' W dX u.2.2.2.2.2.2.2.2.2.2.2.1.1 u.2.2.2.2.2.2.2.2.2.2.2.1.2 x0.AtLand)∧True) (fun u=>[PX u.2.2.2.2.2.2.2.2.2.2.2.2.2 72 b.1 (fun x0=> #[sL u.1.1 x0.Art.Coppers u.1.2,sL u.2.1.1 x0.Art.Outline u.2.1.2,sL u.2.2.1.1 x0.Art.Bores u.2.2.1.2,sL u.2.2.2.1.1 x0.Art.Lands u.2.2.2.1.2,sL u.2.2.2.2.1.1 x0.Drilled u.2.2.2.2.1.2,sL u.2.2.2.2.2.1.1 x0.Pieces u.2.2.2.2.2.1.2,sL u.2.2.2.2.2.2.1.1 x0.Touched u.2.2.2.2.2.2.1.2,sL u.2.2.2.2.2.2.2.1.1 x0.Groups u.2.2.2.2.2.2.2.1.2,sL u.2.2.2.2.2.2.2.2.1.1 x0.OfPiece u.2.2.2.2.2.2.2.2.1.2,sL u.2.2.2.2.2.2.2.2.2.1.1 x0.OfBore u.2.2.2.2.2.2.2.2.2.1.2,sL u.2.2.2.2.2.2.2.2.2.2.1.1 x0.OfLand u.2.2.2.2.2.2.2.2.2.2.1.2,sL u.2.2.2.2.2.2.2.2.2.2.2.1.1 x0.AtLand u.2.2.2.2.2.2.2.2.2.2.2.1.2])]) O (aN O bg) (fun _=>O) (wn O) O Tryz.call16 (aj O aG) (fun W hW hp hE=>pF N (hT.ext (hW.dU hp)) p1 a9 b0 (e3.kC (hW.dU hp)) b1 b2 (e4.kC (hW.dU hp)) b3 b4 (e5.kC (hW.dU hp)) b5 b6 (e6.kC (hW.dU hp)) b e8 hE) ?_
  intro w u c0 hu
  obtain⟨⟨l,o⟩,⟨p,q⟩,⟨s,t⟩,⟨v,z⟩,⟨A,B⟩,⟨C,D⟩,⟨E,F⟩,⟨G,I⟩,⟨J,K⟩,⟨L,M⟩,⟨f,g⟩,⟨h,i⟩,⟨f2,j⟩⟩:=u
  obtain⟨c8,c9,d0,d1,d2,d3,d4,d5,d6,d7,c5,c6,c7⟩:=hu
  replace hT:=hT.ext c0.ext
  replace b9:=b9.kL c0
  replace leB:=leB.trans c0
  have S:di b.1 (fun x0=>Sl w.O w.W dF l o x0.Art.Coppers):=c8 --@phi
  have T:di b.1 (fun x0=>Sl w.O w.W aB p q x0.Art.Outline):=c9 --@phi
  have V:di b.1 (fun x0=>Sl w.O w.W dY s t x0.Art.Bores):=d0 --@phi
  have X:di b.1 (fun x0=>Sl w.O w.W eH v z x0.Art.Lands):=d1 --@phi
  have Z:di b.1 (fun x0=>Sl w.O w.W bM A B x0.Drilled):=d2 --@phi
  have a0:di b.1 (fun x0=>Sl w.O w.W dG C D x0.Pieces):=d3 --@phi
  have a1:di b.1 (fun x0=>Sl w.O w.W fE E F x0.Touched):=d4 --@phi
  have a2:di b.1 (fun x0=>Sl w.O w.W dw G I x0.Groups):=d5 --@phi
  have a3:di b.1 (fun x0=>Sl w.O w.W az J K x0.OfPiece):=d6 --@phi
  have a4:di b.1 (fun x0=>Sl w.O w.W az L M x0.OfBore):=d7 --@phi
  have P:di b.1 (fun x0=>Sl w.O w.W az f g x0.OfLand):=c5 --@phi
  have Q:di b.1 (fun x0=>Sl w.O w.W dX h i x0.AtLand):=c6 --@phi
  have f1:True:=c7 --@phi
  dsimp only
  obtain c3|⟨c,c3⟩:=Ll b.1
  ·rw[c3] at H ⊢
   dsimp only[ui] at H
   show Tr _ _ (uf _ 18 (.tuple #[.pointer none,iv b.2])) (up _ 3 (emp)) _
   refine ax O (aC O (fun _ _ a d=>bA (a.ev O) O) (aC O (fun _ _ a d=>bA (a.ev O) O) (Tr.k O (Tr.k O (ae (aa (av (ai (ax O (ay fM O O (ae (aa (aT O H (fun H=>?_) (fun H=>?_))))))))))))))
   ·refine ai (ax O (Tr.k O (Tr.k O (ae (aa (aO (aD ?_)))))))
    obtain rfl:=oI H
    exact bL (m:=[.pointer none,iv b.2]) [] (aU O (aU O bD)) (fun W hW=>⟨w,((none,0),(none,0),(none,0),(none,0),(none,0),(none,0),(none,0),(none,0),(none,0),(none,0),(none,0),(none,0),(none,0)),leB,O,⟨trivial,trivial,trivial,trivial,trivial,trivial,trivial,trivial,trivial,trivial,trivial,trivial,trivial⟩,hW.pick (ks:=[950]) (by decide) (aN O bg)⟩)
   ·refine aJ (aa (av (av ?_)))
    cases H
  ·rw [c3] at H S T V X Z a0 a1 a2 a3 a4 P Q ⊢
   dsimp only[ui] at H
   replace S:Sl w.O w.W dF l o c.Art.Coppers:=S
   replace T:Sl w.O w.W aB p q c.Art.Outline:=T
   replace V:Sl w.O w.W dY s t c.Art.Bores:=V
   replace X:Sl w.O w.W eH v z c.Art.Lands:=X
   replace Z:Sl w.O w.W bM A B c.Drilled:=Z
   replace a0:Sl w.O w.W dG C D c.Pieces:=a0
   replace a1:Sl w.O w.W fE E F c.Touched:=a1
   replace a2:Sl w.O w.W dw G I c.Groups:=a2
   replace a3:Sl w.O w.W az J K c.OfPiece:=a3
   replace a4:Sl w.O w.W az L M c.OfBore:=a4
   replace P:Sl w.O w.W az f g c.OfLand:=P
   replace Q:Sl w.O w.W dX h i c.AtLand:=Q
   show Tr _ _ (uf _ 18 (.tuple #[pV j,iv b.2])) (up _ 3 (bx j #[sL l c.Art.Coppers o,sL p c.Art.Outline q,sL s c.Art.Bores t,sL v c.Art.Lands z,sL A c.Drilled B,sL C c.Pieces D,sL E c.Touched F,sL G c.Groups I,sL J c.OfPiece K,sL L c.OfBore M,sL f c.OfLand g,sL h c.AtLand i] 72)) _
   refine ax O (aC O (fun _ _ a d=>bA (a.ev O) O) (aC O (fun _ _ a d=>bA (a.ev O) O) (Tr.k O (Tr.k O (ae (aa (av (ai (ax O (ay fM O O (ae (aa (aT O H (fun H=>?_) (fun H=>?_))))))))))))))
   ·refine ai (ax O (Tr.k O (Tr.k O (ae (aa (aO (aD ?_)))))))
    obtain rfl:=oI H
    exact bL (m:=[.pointer none,iv b.2]) [] (aU O (aU O bD)) (fun W hW=>⟨w,((none,0),(none,0),(none,0),(none,0),(none,0),(none,0),(none,0),(none,0),(none,0),(none,0),(none,0),(none,0),(none,0)),leB,O,⟨trivial,trivial,trivial,trivial,trivial,trivial,trivial,trivial,trivial,trivial,trivial,trivial,trivial⟩,hW.pick (ks:=[950]) (by decide) (aN O bg)⟩)
   ·refine aJ (aa (av (ai (ax O (aH (bf KO) O (ax O (aH bn O (aH (ag uq) O (aC O (fun _ _ a d=>ah CX (a.ev O) (bR d (vs:=[sL l c.Art.Coppers o,sL p c.Art.Outline q,sL s c.Art.Bores t,sL v c.Art.Lands z,sL A c.Drilled B,sL C c.Pieces D,sL E c.Touched F,sL G c.Groups I,sL J c.OfPiece K,sL L c.OfBore M,sL f c.OfLand g,sL h c.AtLand i]) (k:=3) O 7) O) (aH (bf Ff) O (ay fM O O (ae (aa (aT O H (fun H=>?_) (fun H=>?_)))))))))))))))
    ·refine ai (Tr.k O (Tr.k O (ae (aa (aO (aD ?_))))))
     obtain rfl:=oI H
     exact bL (m:=[.pointer none,iv 3]) [] (aU O (aU O bD)) (fun W hW=>⟨w,((none,0),(none,0),(none,0),(none,0),(none,0),(none,0),(none,0),(none,0),(none,0),(none,0),(none,0),(none,0),(none,0)),leB,O,⟨trivial,trivial,trivial,trivial,trivial,trivial,trivial,trivial,trivial,trivial,trivial,trivial,trivial⟩,hW.pick (ks:=[950]) (by decide) (aN O bg)⟩)
    ·refine aJ (aa (av (ai (ax O ?_))))
     obtain⟨d8,e9,H⟩:=bnd H
     refine bu (r:=(bV d8)) (wn O) O Tryz.call26 (aj O (aj O aG)) (fun W hW=>ni p2 b7 b8 (b9.ext hW.bU) (fun z0=>kW N z0) 27 [] Tryz.call27 (fun w' he z0 y hy=>zV N (hT.ext (hW.bU.trans he)) z0 y hy (HF.start _)) d8 e9 (HF.start _)) (ae (aa (aT O H (fun H=>?_) (fun H=>?_))))
     ·refine ai (Tr.k O (Tr.k O (ae (aa (aO (aD ?_))))))
      obtain rfl:=oI H
      exact bL (m:=[.pointer none,iv 5]) [] (aU O (aU O bD)) (fun W hW=>⟨w,((none,0),(none,0),(none,0),(none,0),(none,0),(none,0),(none,0),(none,0),(none,0),(none,0),(none,0),(none,0),(none,0)),leB,O,⟨trivial,trivial,trivial,trivial,trivial,trivial,trivial,trivial,trivial,trivial,trivial,trivial,trivial⟩,hW.pick (ks:=[950]) (by decide) (aN O bg)⟩)
     ·refine aJ (aa (ai (ax O (Tr.k O (Tr.k O (ae (aa (aO ?_))))))))
      obtain rfl:=oI H
      exact bL (m:=[pV j,iv 0]) [] (aU O (aU O bD)) (fun W hW=>⟨w,((l,o),(p,q),(s,t),(v,z),(A,B),(C,D),(E,F),(G,I),(J,K),(L,M),(f,g),(h,i),(none,j)),leB,O,⟨S,T,V,X,Z,a0,a1,a2,a3,a4,P,Q,trivial⟩,hW.pick (ks:=[3]) (by decide) (aN O bg)⟩)

theorem wG{w:Bs}(p0:au)(p1:au)(p2:Int)(r:fC)(H:nP p0 p1 p2=some r)(hE:HF w w.W E0):Calls Tryz.prog 63 [.agg #[iv p0.X0,iv p0.Y0,iv p0.X1,iv p0.Y1],.agg #[iv p1.X0,iv p1.Y0,iv p1.X1,iv p1.Y1],iv p2].toArray w.W fun e W'=>e= .returned (.agg #[iv r.X,iv r.Y])∧HF w W' E0:=by
 unfold nP at H
 have leB:=Bs.Le.refl w
 refine aV (n:=22) Tryz.func63 O O O hE (ai (fw 1 (cs:=[iv p0.X0,iv p0.Y0,iv p0.X1,iv p0.Y1]) (wn O) O O O fun b=>(fw 2 (cs:=[iv p1.X0,iv p1.Y0,iv p1.X1,iv p1.Y1]) (wn O) O O O fun c=>(Tr.alloc 3 (wn O) O Iz fun f=>(ae (aa (ai (aH (ag jd) O (aC O (fun _ _ a d=>ah bG (a.ev O) (bR d (vs:=[iv p0.X0,iv p0.Y0,iv p0.X1,iv p0.Y1]) (k:=1) O 0) O) (aH (ag jd) O (aC O (fun _ _ a d=>ah bG (a.ev O) (bR d (vs:=[iv p1.X0,iv p1.Y0,iv p1.X1,iv p1.Y1]) (k:=2) O 0) O) (ax O (ay iP O O (aC O (fun _ _ a d=>rA (a.ev O) (a.ev O) _) ?_))))))))))))))
 refine aH (ag jK) O (aC O (fun _ _ a d=>ah bG (a.ev O) (bR d (vs:=[iv p0.X0,iv p0.Y0,iv p0.X1,iv p0.Y1]) (k:=1) O 1) O) (aH (ag jK) O (aC O (fun _ _ a d=>ah bG (a.ev O) (bR d (vs:=[iv p1.X0,iv p1.Y0,iv p1.X1,iv p1.Y1]) (k:=2) O 1) O) (ax O (ay iP O O (aC O (fun _ _ a d=>rA (a.ev O) (a.ev O) _) (ko (vs:=[(0,iv (max p0.X0 (bJ (p1.X0-p2)))),(1,iv (max p0.Y0 (bJ (p1.Y0-p2))))]) (cs:=[iv (max p0.X0 (bJ (p1.X0-p2))),iv (max p0.Y0 (bJ (p1.Y0-p2)))]) (wn O) O (bz O (bz O dE)) (by kernel_rfl) (bF 3 (cs:=[iv (max p0.X0 (bJ (p1.X0-p2))),iv (max p0.Y0 (bJ (p1.Y0-p2)))]) [iv (max p0.X0 (bJ (p1.X0-p2))),iv (max p0.Y0 (bJ (p1.Y0-p2)))] (wn O) O O O O pQ O O O (ae (aa (aO ?_)))))))))))
 obtain rfl:=oI H
 exact bL (m:=[.agg #[iv (max p0.X0 (bJ (p1.X0-p2))),iv (max p0.Y0 (bJ (p1.Y0-p2)))]]) [3] (mM O O tO pQ bD) (fun W hW=>⟨O,hW.low leB⟩)

theorem wH{w:Bs}(p0:fC)(p1:fC)(r:Bool)(H:pq p0 p1=some r)(hE:HF w w.W E0):Calls Tryz.prog 64 [.agg #[iv p0.X,iv p0.Y],.agg #[iv p1.X,iv p1.Y]].toArray w.W fun e W'=>e= .returned (bV r)∧HF w W' E0:=by
 unfold pq at H
 have leB:=Bs.Le.refl w
 refine aV (n:=24) Tryz.func64 O O O hE (ai (fw 1 (cs:=[iv p0.X,iv p0.Y]) (wn O) O O O fun b=>(fw 2 (cs:=[iv p1.X,iv p1.Y]) (wn O) O O O fun c=>(Tr.k O (ae (aa (ai (aH (ag rD) O (aC O (fun _ _ a d=>ah bG (a.ev O) (bR d (vs:=[iv p0.X,iv p0.Y]) (k:=1) O 1) O) (aH (ag rD) O (aC O (fun _ _ a d=>ah bG (a.ev O) (bR d (vs:=[iv p1.X,iv p1.Y]) (k:=2) O 1) O) (ay aR O O (ax O (bP 13 [(23,bV ((decide (p0.Y<p1.Y))||((p0.Y==p1.Y)&&(decide (p0.X<p1.X)))))] [(1,bx b #[iv p0.X,iv p0.Y] 48),(2,bx c #[iv p1.X,iv p1.Y] 48)] ?_ ?_))))))))))))))
 ·cases f:(decide (p0.Y<p1.Y))
  ·refine bH (ag rD) O (Tr.x (fun _ _ a d=>ah bG (a.ev O) (bR d (vs:=[iv p0.X,iv p0.Y]) (k:=1) O 1) O) (bH (ag rD) O (Tr.x (fun _ _ a d=>ah bG (a.ev O) (bR d (vs:=[iv p1.X,iv p1.Y]) (k:=2) O 1) O) (Tr.e2 iA O O (bH run_move O (bP 6 [(10,bV false),(22,bV ((p0.Y==p1.Y)&&(decide (p0.X<p1.X))))] [(1,bx b #[iv p0.X,iv p0.Y] 48),(2,bx c #[iv p1.X,iv p1.Y] 48)] ?_ ?_))))))
   ·cases f:(p0.Y==p1.Y)
    ·exact Tr.ps O (Tr.ps O (Tr.ps O (Tr.ps O (Tr.ps O (Tr.e2 aZ O O (ae (aS (.r O) (.r O))))))))
    ·exact bH (ag uu) O (Tr.x (fun _ _ a d=>ah bG (a.ev O) (bR d (vs:=[iv p0.X,iv p0.Y]) (k:=1) O 0) O) (bH (ag uu) O (Tr.x (fun _ _ a d=>ah bG (a.ev O) (bR d (vs:=[iv p1.X,iv p1.Y]) (k:=2) O 0) O) (Tr.e2 aR O O (Tr.e2 aW O O (ae (aS (.r O) (.r O))))))))
   ·dsimp only
    exact ay aZ O O (ae (aS (.r O) (.r O)))
  ·exact Tr.ps O (Tr.ps O (Tr.ps O (Tr.ps O (Tr.ps O (Tr.ps O (gN O (gN O (gN O (gN O (gN O (Tr.ps O (ay aW O O (ae (aS (.r O) (.r O)))))))))))))))
 ·show Tr _ _ (LF [(23,bV ((decide (p0.Y<p1.Y))||((p0.Y==p1.Y)&&(decide (p0.X<p1.X)))))]) (LE [(1,bx b #[iv p0.X,iv p0.Y] 48),(2,bx c #[iv p1.X,iv p1.Y] 48)]) _
  refine Tr.k O (ae (aa (aO ?_)))
  obtain rfl:=oI H
  exact cB leB

end Go.Proofs.YtkccbhbhdnobhaaGreatDoor
