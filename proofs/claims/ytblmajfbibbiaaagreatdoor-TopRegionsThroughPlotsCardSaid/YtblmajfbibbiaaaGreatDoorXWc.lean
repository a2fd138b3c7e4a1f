/- The walks: each function computes its plain function. -/
import Derived.Test.YtblmajfbibbiaaaGreatDoorXWb
namespace Go.Proofs.YtblmajfbibbiaaaGreatDoor
open Go.RowKit
set_option maxRecDepth 100000
set_option maxHeartbeats 1000000
theorem J9(N:Nat){w:Bs}(p0:(List aK))(b7:Option Addr)(b8:Nat)(f4:Sl w.R w.W aX b7 b8 p0)(r:(ed×Int))(H:uy N p0=some r)(hE:HF w w.W (ig [emp,emp])):Calls Tryz.prog 4 [sL b7 p0 b8].toArray w.W fun e W'=>∃(w':Bs) (u:(Option Addr×Nat)×(Option Addr×Nat)),w.Le w'∧e= .returned (.tuple #[.agg #[iv r.1.Unit,sL u.1.1 r.1.Tools u.1.2,sL u.2.1 r.1.Steps u.2.2],iv r.2])∧(bZ u.1.1 r.1.Tools.length u.1.2∧bZ u.2.1 r.1.Steps.length u.2.2)∧HF w' W' (ig [ow u.1.1 u.1.2 73 aR r.1.Tools,ow u.2.1 u.2.2 59 az r.1.Steps]):=by
 unfold uy at H
 have leB:=Bs.Le.refl w
 refine aZ (n:=106) Tryz.func4 Z Z Z hE (ai (Tr.alloc 1 (wn Z) Z BU fun D=>(Tr.k Z (ae (aa (ai (aA Z ?_)))))))
 obtain⟨f,f5,H⟩:=bnd H
 refine dU [2] [emp] (U:=(Option Addr×Nat)) (fun u=>(.tuple #[sL u.1 f.1 u.2,iv f.2])) (fun O W u=>bZ u.1 f.1.length u.2) (fun u=>[ow u.1 u.2 51 eu f.1]) Z (aH Z aY) (fun _=>Z) (wn Z) Z Tryz.call12 (aj Z aJ) (fun W hW hp hE=>Ba N p0 b7 b8 (f4.ext (hW.gL hp)) f f5 hE) ?_
 intro w u f6 hu
 obtain⟨A,B⟩:=u
 have e3:=hu
 replace leB:=leB.trans f6
 have b1:bZ A f.1.length B:=e3 --@phi
 dsimp only
 refine aA Z (aG Z (fun _ _ a c=>cu (a.ev Z) Z) (aG Z (fun _ _ a c=>cu (a.ev Z) Z) (Tr.k Z (Tr.k Z (ae (aa (av (ai (aA Z (aC iP Z Z (ae (aa (aP Z H (fun H=>?_) (fun H=>?_))))))))))))))
 ·refine ai (iR (vs:=[]) (cs:=[iv 0,.slice none 0 0,.slice none 0 0]) (wn Z) Z dH (by kernel_rfl) (aA Z (bC 1 (cs:=[iv 0,.slice none 0 0,.slice none 0 0]) [iv 0,.slice none 0 0,.slice none 0 0] (wn Z) Z Z Z Z lK Z Z Z (Tr.k Z (ae (aa (bu (bn ?_))))))))
  obtain rfl:=oI H
  exact bO 3 73 aR (bO 4 59 az (Tr.out (m:=[.agg #[iv 0,.slice none 0 0,.slice none 0 0],iv f.2]) [1] (nA Z Z pq lK (bM Z bL)) (fun W hW=>⟨w,((none,0),(none,0)),leB,Z,⟨fQ,fQ⟩,hW.pick (ks:=[3,4]) (by decide) (aH Z (aH Z aY))⟩)))
 ·refine aO (aa (ai (Tr.k Z (bO 5 53 aS ?_))))
  show Tr _ _ (uf _ 6 (sL none (([]:List dO)) 0)) _ _
  refine ae (aa (av (ai (aA Z (aQ (bD HV) Z (aA Z (ae (aa (Tr.block (cB (σ:=(List (List ak))×Nat×(List dO)×(Option Addr)×Nat) (fun m w s=>m=s.1.length+1∧s.1=List.drop s.2.1 f.1∧s.2.1≤f.1.length∧kK N s.1 s.2.1 s.2.2.1=some r∧bZ s.2.2.2.1 s.2.2.1.length s.2.2.2.2) (fun s=>[(2,pV D),(6,sL s.2.2.2.1 s.2.2.1 s.2.2.2.2),(28,sL A f.1 B),(29,iv (f.1.length:Int)),(30,iv (s.2.1:Int))]) (fun s=>[(1,bx D #[iv 0,.slice none 0 0,.slice none 0 0] 30),(2,ow A B 51 eu f.1),(5,ow s.2.2.2.1 s.2.2.2.2 53 aS s.2.2.1)]) (f.1.length+1) (f.1,0,([]:List dO),none,0) ⟨Z,Z,Nat.zero_le _,H,fQ⟩ (.r Z) (.r Z) (fun _ _ h=>absurd h.1 (by simp)) ?_))))))))))
  intro w b9 m s hs
  obtain⟨P,a7,M,j,o⟩:=s
  obtain⟨d5,a2,h3,H,c0⟩:=hs
  replace a2:P=List.drop a7 f.1:=a2
  replace H:kK N P a7 M=some r:=H
  replace d5:m+1=P.length+1:=d5
  replace leB:=leB.trans b9
  replace c0:bZ j M.length o:=c0
  obtain rfl:m=P.length:=by omega
  clear d5
  dsimp only
  cases P with
  | nil=>
   rw[kK.eq_1] at H
   refine ai (aC bv Z Z (ae (aa (av (eX Z (dY a2) (cz (aD (aD (aU (aa (ai (Tr.alloc 22 (wn Z) Z Xy fun b2=>(bC 22 (cs:=[.func (.func 13) #[] #[]]) [.func (.func 13) #[] #[]] (wn Z) Z Z Z Z XL Z Z Z (ae (aa (ai (aA Z (sS (vs:=[pV b2]) (wn Z) Z (aj Z aJ) ?_))))))))))))))))))
   obtain⟨q,f7,H⟩:=bnd H
   refine dU [5] [ow j o 53 aS M] (U:=Unit) (fun u=>(.tuple #[])) (fun O W u=>q.length=M.length) (fun u=>[ow j o 53 aS q]) Z (aH Z aY) (fun _=>Z) (wn Z) Z Tryz.call14 (aj Z (aj Z aJ)) (fun W hW hp hE=>pY N M j o b2 (hW.Hm (k:=22) Z hp Z) (hW.Nq (k:=22) Z) q f7 hE) ?_
   intro w u f8 hu
   have d6:=hu
   replace leB:=leB.trans f8
   have a5:q.length=M.length:=d6 --@phi
   have g7:bZ j q.length o:=by rw[a5];exact c0
   show Tr _ _ (uf _ 74 (.tuple #[])) (up _ 5 (ow j o 53 aS q)) _
   refine Tr.vD (lf:=[(2,pV D),(6,sL j q o),(13,pV b2),(28,sL A f.1 B),(29,iv (f.1.length:Int)),(30,iv (a7:Int)),(31,bV (decide ((a7:Int)<(f.1.length:Int)))),(72,sL j q o),(73,.func (.func 15) #[] #[pV b2]),(74,(.tuple #[]))]) (le:=[(1,bx D #[iv 0,.slice none 0 0,.slice none 0 0] 30),(2,ow A B 51 eu f.1),(5,ow j o 53 aS q),(22,bx b2 #[.func (.func 13) #[] #[]] 54)]) (.cons Z (.cons (dM Z (by unfold sL;rw[a5])) (.cons Z (.cons Z (.cons Z (.cons Z (.cons Z (.cons (dM Z (by unfold sL;rw[a5])) (.r Z))))))))) (.r Z) (ae (aa (ai (iR (vs:=[(0,iv 1)]) (cs:=[iv 1,.slice none 0 0,.slice none 0 0]) (wn Z) Z (bB Z dH) (by kernel_rfl) (Tr.alloc 23 (wn Z) Z BU fun T=>(bC 23 (cs:=[iv 1,.slice none 0 0,.slice none 0 0]) [iv 1,.slice none 0 0,.slice none 0 0] (wn Z) Z Z Z Z lK Z Z Z (ae (aa (ai (Tr.k Z (ae (aa (av (av (Tr.freeze 5 Z fun w f9 a'=>?_)))))))))))))))
   replace leB:=leB.trans f9
   refine aM (aA Z (aQ (bD QO) Z (aA Z (ae (aa (Tr.block (bO 38 59 az (cB (σ:=(List dO)×Nat×(List aB)×Int×(Option Addr)×Nat) (fun m w s=>m=s.1.length+1∧s.1=List.drop s.2.1 q∧s.2.1≤q.length∧iW s.1 s.2.1 s.2.2.1 s.2.2.2.1=some r∧bZ s.2.2.2.2.1 s.2.2.1.length s.2.2.2.2.2) (fun s=>[(2,pV D),(14,pV T),(15,iv s.2.2.2.1),(76,sL j q o),(77,iv (q.length:Int)),(78,iv (s.2.1:Int))]) (fun s=>[(1,bx D #[iv 0,.slice none 0 0,.slice none 0 0] 30),(23,bx T #[iv 1,.slice none 0 0,sL s.2.2.2.2.1 s.2.2.1 s.2.2.2.2.2] 30),(38,ow s.2.2.2.2.1 s.2.2.2.2.2 59 az s.2.2.1)]) (q.length+1) (q,0,([]:List aB),1,none,0) ⟨Z,Z,Nat.zero_le _,H,fQ⟩ (.r Z) (.r Z) (fun _ _ h=>absurd h.1 (by simp)) ?_))))))))
   intro w a8 m s hs
   obtain⟨I,a4,G,a9,E,F⟩:=s
   obtain⟨d7,a3,h4,H,b0⟩:=hs
   replace a3:I=List.drop a4 q:=a3
   replace H:iW I a4 G a9=some r:=H
   replace d7:m+1=I.length+1:=d7
   replace a':=a'.le a8
   replace leB:=leB.trans a8
   replace b0:bZ E G.length F:=b0
   obtain rfl:m=I.length:=by omega
   clear d7
   dsimp only
   cases I with
   |nil=>
    rw[iW.eq_1] at H
    refine ai (aC bv Z Z (ae (aa (av (eX Z (dY a3) (cz (aD (aD (aU (aa (ai (aG Z (fun _ _ a c=>aN (cs:=[iv 1,.slice none 0 0,sL E G F]) pq lK (a.ev Z) (aI.take (dB c (vs:=[iv 1,.slice none 0 0,sL E G F]) (k:=23) Z 0) 3) Z) (bC 1 (cs:=[iv 1,.slice none 0 0,sL E G F]) [iv 1,.slice none 0 0,sL E G F] (wn Z) Z Z Z Z lK Z Z Z (Tr.k Z (ae (aa (bu ?_)))))))))))))))))
    obtain rfl:=oI H
    exact bO 39 73 aR (Tr.out (m:=[.agg #[iv 1,.slice none 0 0,sL E G F],iv 0]) [1] (nA Z Z pq lK (bM Z bL)) (fun W hW=>⟨w,((none,0),(E,F)),leB,Z,⟨fQ,b0⟩,hW.pick (ks:=[39,38]) (by decide) (aH Z (aH Z aY))⟩))
   | cons C I=>
    rw[iW.eq_2] at H
    refine ai (aC bv Z Z (ae (aa (av (eO Z (fI a3) (aO (aa (av (Tr.block (ai ?_))))))))))
    obtain⟨g8,b3,e4,e6⟩:=(a').el (gq a3)
    obtain⟨g,i⟩:=g8
    have J:=e4
    replace J:Sl w.O w.W bi g i C.points:=J
    replace b3:w.R (pu j):=Or.inl b3
    refine aG Z (fun _ _ a c=>au qm (a.ev Z) a'.form (a.ev Z) (Int.natCast_nonneg _) (bE a3)) (aG Z (fun _ _ a c=>aN (cs:=[sL g C.points i,iv C.area]) sQ nP (a.ev Z) (aI.take (wo b3 e6 c) 2) Z) (Tr.alloc 40 (wn Z) Z Vi fun a6=>(bC 40 (cs:=[sL g C.points i,iv C.area]) [sL g C.points i,iv C.area] (wn Z) Z Z Z Z nP Z Z Z (ae (aa (ai (Tr.k Z (ae (aa ?_)))))))))
    have d3:=Bs.Le.refl w
    refine kZ (σ:=Int) (fun w s=>oP G a9 (iW I (a4+1)) C s=some r) (fun s=>[(2,pV D),(14,pV T),(15,iv a9),(17,pV a6),(18,iv s),(76,sL j q o),(77,iv (q.length:Int)),(78,iv (a4:Int))]) (fun s=>[(1,bx D #[iv 0,.slice none 0 0,.slice none 0 0] 30),(23,bx T #[iv 1,.slice none 0 0,sL E G F] 30),(38,ow E F 59 az G),(40,bx a6 #[sL g C.points i,iv C.area] 53)]) ?_ ?_
    ·refine ai (aQ (ag CB) Z (aG Z (fun _ _ a c=>ah bT (a.ev Z) (dB c (vs:=[sL g C.points i,iv C.area]) (k:=40) Z 1) Z) (aC bv Z Z (ae (aa (aP Z H (fun H=>?_) (fun H=>?_)))))))
     ·exact aM (Tr.k Z (ae (aF d3 2 H (.r Z) (.r Z))))
     ·exact aO (aF d3 1 H (.r Z) (.r Z))
    ·intro w a1 b4 hs
     have H:=hs
     replace H:oP G a9 (iW I (a4+1)) C a1=some r:=H
     replace J:=J.le b4
     replace a':=a'.le b4
     replace a8:=a8.trans b4
     unfold oP at H
     show Tr _ _ (LF [(2,pV D),(14,pV T),(15,iv a9),(17,pV a6),(18,iv a1),(76,sL j q o),(77,iv (q.length:Int)),(78,iv (a4:Int))]) (LE [(1,bx D #[iv 0,.slice none 0 0,.slice none 0 0] 30),(23,bx T #[iv 1,.slice none 0 0,sL E G F] 30),(38,ow E F 59 az G),(40,bx a6 #[sL g C.points i,iv C.area] 53)]) _
     have d4:=Bs.Le.refl w
     refine kZ (σ:=(List aB)×Int×(Option Addr)×Nat) (fun w s=>ry (iW I (a4+1)) C s.1 s.2.1=some r∧bZ s.2.2.1 s.1.length s.2.2.2) (fun s=>[(2,pV D),(14,pV T),(15,iv s.2.1),(17,pV a6),(76,sL j q o),(77,iv (q.length:Int)),(78,iv (a4:Int))]) (fun s=>[(1,bx D #[iv 0,.slice none 0 0,.slice none 0 0] 30),(23,bx T #[iv 1,.slice none 0 0,sL s.2.2.1 s.1 s.2.2.2] 30),(38,ow s.2.2.1 s.2.2.2 59 az s.1),(40,bx a6 #[sL g C.points i,iv C.area] 53)]) ?_ ?_
     ·refine ai (aA Z (aA Z (aC iP Z Z (ae (aa (aP Z H (fun H=>?_) (fun H=>?_)))))))
      ·refine aM (aQ (ag qI) Z (aG Z (fun _ _ a c=>ah xw (a.ev Z) (dB c (vs:=[iv 1,.slice none 0 0,sL E G F]) (k:=23) Z 2) Z) (aA Z (iR (vs:=[(0,iv a1)]) (cs:=[iv a1,sv ⟨#[]⟩,iv 0,iv 0,.slice none 0 0,iv 0,iv 0,.slice none 0 0]) (wn Z) Z (bB Z dH) (by kernel_rfl) (dS 43 (e:=59) (vs:=[(0,.agg #[iv a1,sv ⟨#[]⟩,iv 0,iv 0,.slice none 0 0,iv 0,iv 0,.slice none 0 0])]) (cs:=[iv a1,sv ⟨#[]⟩,iv 0,iv 0,.slice none 0 0,iv 0,iv 0,.slice none 0 0]) (wn Z) Z (bB Z dH) (by kernel_rfl) fun h5=>?_)))))
       obtain⟨d8,g0,H⟩:=bnd H
       exact Tr.append 38 (t:=az) (l:=G) (l2:=[(aB.mk a1 (⟨#[]⟩) (ak.mk 0 0) [] 0 0 [])]) (wn Z) Z Z Z Z (fun W hW=>⟨[[iv a1,sv ⟨#[]⟩,iv 0,iv 0,.slice none 0 0,iv 0,iv 0,.slice none 0 0]],(.cons ⟨((none,0),(none,0)),(lu.2 ⟨(Sl.nil _ _ _),(Sl.nil _ _ _)⟩),Z⟩ .nil),dB hW (vs:=[iv a1,sv ⟨#[]⟩,iv 0,iv 0,.slice none 0 0,iv 0,iv 0,.slice none 0 0]) (k:=43) Z 0⟩) wV rA NP (by decide) Pv Z g0 fun c3 c4 e7=>(aA Z (aQ (ag qI) Z (bC 23 (cs:=[sL c3 d8 c4]) [iv 1,.slice none 0 0,sL c3 d8 c4] (wn Z) Z Z Z Z NW Z Z Z (Tr.k Z (ae (aF d4 (d8,a1,c3,c4) ⟨H,e7⟩ (.r Z) (.r Z)))))))
      ·exact aO (aF d4 (G,a9,E,F) ⟨H,b0⟩ (.r Z) (.r Z))
     ·intro w s b5 hs
      obtain⟨b6,d9,c5,c6⟩:=s
      obtain⟨H,h1⟩:=hs
      replace H:ry (iW I (a4+1)) C b6 d9=some r:=H
      replace J:=J.le b5
      replace a':=a'.le b5
      replace a8:=a8.trans b5
      unfold ry at H
      dsimp only
      refine aM (aQ (ag qI) Z (aG Z (fun _ _ a c=>ah xw (a.ev Z) (dB c (vs:=[iv 1,.slice none 0 0,sL c5 b6 c6]) (k:=23) Z 2) Z) (aQ (ag UF) Z (aG Z (fun _ _ a c=>ah tF (a.ev Z) (dB c (vs:=[sL g C.points i,iv C.area]) (k:=40) Z 0) Z) (iR (vs:=[(0,iv 7),(3,sL g C.points i)]) (cs:=[iv 7,sv ⟨#[]⟩,iv 0,iv 0,sL g C.points i,iv 0,iv 0,.slice none 0 0]) (wn Z) Z (bB Z (bB Z dH)) (by kernel_rfl) (dS 42 (e:=59) (vs:=[(0,.agg #[iv 7,sv ⟨#[]⟩,iv 0,iv 0,sL g C.points i,iv 0,iv 0,.slice none 0 0])]) (cs:=[iv 7,sv ⟨#[]⟩,iv 0,iv 0,sL g C.points i,iv 0,iv 0,.slice none 0 0]) (wn Z) Z (bB Z dH) (by kernel_rfl) fun h6=>?_))))))
      obtain⟨e0,g1,H⟩:=bnd H
      exact Tr.append 38 (t:=az) (l:=b6) (l2:=[(aB.mk 7 (⟨#[]⟩) (ak.mk 0 0) C.points 0 0 [])]) (wn Z) Z Z Z Z (fun W hW=>⟨[[iv 7,sv ⟨#[]⟩,iv 0,iv 0,sL g C.points i,iv 0,iv 0,.slice none 0 0]],(.cons ⟨((g,i),(none,0)),(lu.2 ⟨J,(Sl.nil _ _ _)⟩),Z⟩ .nil),dB hW (vs:=[iv 7,sv ⟨#[]⟩,iv 0,iv 0,sL g C.points i,iv 0,iv 0,.slice none 0 0]) (k:=42) Z 0⟩) wV rA NP (by decide) Pv Z g1 fun c7 c8 e8=>(aQ (ag qI) Z (bC 23 (cs:=[sL c7 e0 c8]) [iv 1,.slice none 0 0,sL c7 e0 c8] (wn Z) Z Z Z Z NW Z Z Z (ae (aL (aa (aM (aC bz Z Z (aA Z (ae (aF a8 (I,(a4+1),e0,d9,c7,c8) ⟨Z,dW a3,bE a3,H,e8⟩ (.cons Z (.cons Z (.cons Z (.cons Z (.cons Z (.cons (congrArg (fun z=>some (Value.int .i64 z)) (dV a3 a'.form)) .nil)))))) (.r Z)))))))))))
  | cons v P=>
   rw[kK.eq_2] at H
   refine ai (aC bv Z Z (ae (aa (av (eO Z (fI a2) (aO (aa (av (Tr.block (ai (aG Z (fun _ _ a c=>au Ls (a.ev Z) b1 (a.ev Z) (Int.natCast_nonneg _) (bE a2)) (J2 (U:=(eu).Ad) (fun u=>(eu).ok w.O w.W u v) (fun u=>(sL u.1 v u.2)) (wn Z) Z (Iy (κ:=2) (t:=eu) (V:=fun u=>(sL u.1 v u.2)) Z (gq a2) (fun _ _ u a hc=>ah tF (a.ev Z) hc Z)) ?_))))))))))))
   intro g9 e5
   obtain⟨b,d⟩:=g9
   have y:=e5
   replace y:Sl w.O w.W bi b d v:=y
   dsimp only
   refine Tr.k Z (ae (aa (ai (aA Z (iR (vs:=[(0,sL b v d)]) (cs:=[sL b v d,iv 0]) (wn Z) Z (bB Z dH) (by kernel_rfl) (Tr.alloc 44 (wn Z) Z Vi fun c9=>(bC 44 (cs:=[sL b v d,iv 0]) [sL b v d,iv 0] (wn Z) Z Z Z Z nP Z Z Z (ae (aa (av (ai (aA Z (aQ (bD qM) Z (aA Z (ae (aa (Tr.block (cB (σ:=(List ak)×Nat×Int) (fun m w s=>m=s.1.length+1∧s.1=List.drop s.2.1 v∧s.2.1≤v.length∧lV M (kK N P (a7+1)) v s.1 s.2.1 s.2.2=some r) (fun s=>[(2,pV D),(6,sL j M o),(8,sL b v d),(9,pV c9),(28,sL A f.1 B),(29,iv (f.1.length:Int)),(30,iv (a7:Int)),(36,sL b v d),(37,iv (v.length:Int)),(38,iv (s.2.1:Int))]) (fun s=>[(1,bx D #[iv 0,.slice none 0 0,.slice none 0 0] 30),(2,ow A B 51 eu f.1),(5,ow j o 53 aS M),(44,bx c9 #[sL b v d,iv s.2.2] 53)]) (v.length+1) (v,0,0) ⟨Z,Z,Nat.zero_le _,H⟩ (.r Z) (.r Z) (fun _ _ h=>absurd h.1 (by simp)) ?_))))))))))))))))))
   intro w d0 m s hs
   obtain⟨Q,d1,S⟩:=s
   obtain⟨d2,a0,h2,H⟩:=hs
   replace a0:Q=List.drop d1 v:=a0
   replace H:lV M (kK N P (a7+1)) v Q d1 S=some r:=H
   replace d2:m+1=Q.length+1:=d2
   replace y:=y.le d0
   replace b9:=b9.trans d0
   obtain rfl:m=Q.length:=by omega
   clear d2
   dsimp only
   cases Q with
   |nil=>
    rw[lV.eq_1] at H
    refine ai (aC bv Z Z (ae (aa (av (eX Z (dY a0) (cz (aD (aD (aU (aa (aM (aA Z (aG Z (fun _ _ a c=>aN (cs:=[sL b v d,iv S]) sQ nP (a.ev Z) (aI.take (dB c (vs:=[sL b v d,iv S]) (k:=44) Z 0) 2) Z) (dS 49 (e:=53) (vs:=[(0,.agg #[sL b v d,iv S])]) (cs:=[sL b v d,iv S]) (wn Z) Z (bB Z dH) (by kernel_rfl) fun h7=>?_))))))))))))))
    obtain⟨h0,g2,H⟩:=bnd H
    exact Tr.append 5 (t:=aS) (l:=M) (l2:=[(dO.mk v S)]) (wn Z) Z Z Z Z (fun W hW=>⟨[[sL b v d,iv S]],(.cons ⟨(b,d),y,Z⟩ .nil),dB hW (vs:=[sL b v d,iv S]) (k:=49) Z 0⟩) QO nP Xw (by decide) Yg Z g2 fun g3 g4 e9=>(Tr.k Z (ae (aL (aa (aM (aC bz Z Z (aA Z (ae (aF b9 (P,(a7+1),h0,g3,g4) ⟨Z,dW a2,bE a2,H,e9⟩ (.cons Z (.cons Z (.cons Z (.cons Z (.cons (congrArg (fun z=>some (Value.int .i64 z)) (dV a2 b1)) .nil))))) (.r Z))))))))))
   |cons K Q=>
    rw[lV.eq_2] at H
    refine ai (aC bv Z Z (ae (aa (av (eO Z (fI a0) (aO (aa (av (Tr.block (ai (aA Z (aG Z (fun _ _ a c=>au ql (a.ev Z) y.form (a.ev Z) (Int.natCast_nonneg _) (bE a0)) (aG Z (fun _ _ a c=>aN (cs:=[iv K.X,iv K.Y]) kP gQ (a.ev Z) (aI.take (vB jI (y.rl) (gq a0) c) 2) Z) (Tr.alloc 50 (wn Z) Z tZ fun h8=>(Tr.k Z (bC 50 (cs:=[iv K.X,iv K.Y]) [iv K.X,iv K.Y] (wn Z) Z Z Z Z gQ Z Z Z (ae (aa (ai (aA Z (aA Z (aC bz Z Z (aA Z (aQ (bD qM) Z ?_))))))))))))))))))))))))
    obtain⟨h9,g5,H⟩:=bnd H
    refine aG Z (fun _ _ a c=>Df (a.ev Z) (a.ev Z) g5) ?_
    obtain⟨L,g6,H⟩:=bnd H
    obtain⟨f1,f2,f3⟩:=aW g6
    refine aG Z (fun _ _ a c=>au ql (a.ev Z) y.form (a.ev Z) f1 f2) (aG Z (fun _ _ a c=>aN (cs:=[iv L.X,iv L.Y]) kP gQ (a.ev Z) (aI.take (vB jI (y.rl) f3 c) 2) Z) (Tr.alloc 51 (wn Z) Z tZ fun i0=>(bC 51 (cs:=[iv L.X,iv L.Y]) [iv L.X,iv L.Y] (wn Z) Z Z Z Z gQ Z Z Z (ae (aa (aM (aQ (ag CB) Z (aG Z (fun _ _ a c=>ah bT (a.ev Z) (dB c (vs:=[sL b v d,iv S]) (k:=44) Z 1) Z) (aQ (ag je) Z (aG Z (fun _ _ a c=>ah bT (a.ev Z) (dB c (vs:=[iv K.X,iv K.Y]) (k:=50) Z 0) Z) (aQ (ag iQ) Z (aG Z (fun _ _ a c=>ah bT (a.ev Z) (dB c (vs:=[iv L.X,iv L.Y]) (k:=51) Z 1) Z) ?_))))))))))))
    exact aC wX Z Z (aQ (ag je) Z (aG Z (fun _ _ a c=>ah bT (a.ev Z) (dB c (vs:=[iv L.X,iv L.Y]) (k:=51) Z 0) Z) (aQ (ag iQ) Z (aG Z (fun _ _ a c=>ah bT (a.ev Z) (dB c (vs:=[iv K.X,iv K.Y]) (k:=50) Z 1) Z) (aC wX Z Z (aC gu Z Z (aC bz Z Z (aQ (ag CB) Z (bC 44 (cs:=[iv (bF (S+(bF ((bF (K.X*L.Y))-(bF (L.X*K.Y))))))]) [sL b v d,iv (bF (S+(bF ((bF (K.X*L.Y))-(bF (L.X*K.Y))))))] (wn Z) Z Z Z Z wP Z Z Z (ae (aL (aa (aM (aC bz Z Z (aA Z (ae (aF d0 (Q,(d1+1),(bF (S+(bF ((bF (K.X*L.Y))-(bF (L.X*K.Y))))))) ⟨Z,dW a0,bE a0,H⟩ (.cons Z (.cons Z (.cons Z (.cons Z (.cons Z (.cons Z (.cons Z (.cons Z (.cons Z (.cons (congrArg (fun z=>some (Value.int .i64 z)) (dV a0 y.form)) .nil)))))))))) (.r Z))))))))))))))))))

theorem CS{w:Bs}(p0:(List aK))(i:Option Addr)(j:Nat)(g:Sl w.R w.W aX i j p0)(r:Int)(H:wJ p0=some r)(hE:HF w w.W E0):Calls Tryz.prog 45 [sL i p0 j].toArray w.W fun e W'=>e= .returned (iv r)∧HF w W' E0:=by
 unfold wJ at H
 have leB:=Bs.Le.refl w
 refine aZ (n:=27) Tryz.func45 Z Z Z hE (ai (Tr.k Z (ae (aa (ai (Tr.k Z (ae (aa (av (ai (aA Z (aQ (bD rM) Z (aA Z (ae (aa (Tr.block (cB (σ:=(List aK)×Nat×Int) (fun m w s=>m=s.1.length+1∧s.1=List.drop s.2.1 p0∧s.2.1≤p0.length∧mY s.1 s.2.1 s.2.2=some r) (fun s=>[(3,iv s.2.2),(6,sL i p0 j),(7,iv (p0.length:Int)),(8,iv (s.2.1:Int))]) (fun s=>[]) (p0.length+1) (p0,0,0) ⟨Z,Z,Nat.zero_le _,H⟩ (.r Z) .nil (fun _ _ h=>absurd h.1 (by simp)) ?_)))))))))))))))))
 intro w l m s hs
 obtain⟨d,t,o⟩:=s
 obtain⟨q,f,u,H⟩:=hs
 replace f:d=List.drop t p0:=f
 replace H:mY d t o=some r:=H
 replace q:m+1=d.length+1:=q
 replace g:=g.oV l
 replace leB:=leB.trans l
 obtain rfl:m=d.length:=by omega
 clear q
 dsimp only
 cases d with
 |nil=>
  rw[mY.eq_1] at H
  refine ai (aC bv Z Z (ae (aa (av (eX Z (dY f) (cz (aD (aD (aU (aa (ai (aA Z (Tr.k Z (ae (aa (bu ?_))))))))))))))))
  obtain rfl:=oI H
  exact fV leB
 |cons b d=>
  rw[mY.eq_2] at H
  refine ai (aC bv Z Z (ae (aa (av (eO Z (fI f) (aO (aa (av (Tr.block (ai (aG Z (fun _ _ a c=>au uh (a.ev Z) g.form (a.ev Z) (Int.natCast_nonneg _) (bE f)) (aG Z (fun _ _ a c=>aN (cs:=[iv b.X0,iv b.Y0,iv b.X1,iv b.Y1]) qJ kG (a.ev Z) (aI.take (vB lY g (gq f) c) 4) Z) (Tr.alloc 3 (wn Z) Z vz fun v=>(bC 3 (cs:=[iv b.X0,iv b.Y0,iv b.X1,iv b.Y1]) [iv b.X0,iv b.Y0,iv b.X1,iv b.Y1] (wn Z) Z Z Z Z kG Z Z Z (ae (aa (aM (aA Z (aQ (ag xh) Z (aG Z (fun _ _ a c=>ah bT (a.ev Z) (dB c (vs:=[iv b.X0,iv b.Y0,iv b.X1,iv b.Y1]) (k:=3) Z 2) Z) (aQ (ag oW) Z (aG Z (fun _ _ a c=>ah bT (a.ev Z) (dB c (vs:=[iv b.X0,iv b.Y0,iv b.X1,iv b.Y1]) (k:=3) Z 0) Z) ?_))))))))))))))))))))))
  exact aC gu Z Z (aQ (ag yP) Z (aG Z (fun _ _ a c=>ah bT (a.ev Z) (dB c (vs:=[iv b.X0,iv b.Y0,iv b.X1,iv b.Y1]) (k:=3) Z 3) Z) (aQ (ag rq) Z (aG Z (fun _ _ a c=>ah bT (a.ev Z) (dB c (vs:=[iv b.X0,iv b.Y0,iv b.X1,iv b.Y1]) (k:=3) Z 1) Z) (aC gu Z Z (aC wX Z Z (aC bz Z Z (Tr.k Z (ae (aL (aa (aM (aC bz Z Z (aA Z (ae (aF l (d,(t+1),(bF (o+(bF ((bF (b.X1-b.X0))*(bF (b.Y1-b.Y0))))))) ⟨Z,dW f,bE f,H⟩ (.cons Z (.cons Z (.cons Z (.cons (congrArg (fun z=>some (Value.int .i64 z)) (dV f g.form)) .nil)))) .nil))))))))))))))))

theorem EA(N:Nat){w:Bs}(p0:(List aK))(a:Option Addr)(b:Nat)(f:Sl w.R w.W aX a b p0)(r:(Int×Int))(H:vP N p0=some r)(hE:HF w w.W E0):Calls Tryz.prog 17 [sL a p0 b].toArray w.W fun e W'=>e= .returned (.tuple #[iv r.1,iv r.2])∧HF w W' E0:=by
 unfold vP at H
 have leB:=Bs.Le.refl w
 refine aZ (n:=12) Tryz.func17 Z Z Z hE (ai (Tr.k Z (Tr.k Z (ae (aa (av (ai (aA Z ?_))))))))
 obtain⟨c,g,H⟩:=bnd H
 refine bR (r:=(iv c)) (wn Z) Z Tryz.call27 (aj Z aJ) (fun W hW=>qc N p0 a b (f.ext hW.dz) c g (HF.start _)) (Tr.k Z (ae (aa (ai (aA Z (aC iP Z Z (ae (aa (aP Z H (fun H=>?_) (fun H=>?_))))))))))
 ·refine ai (aA Z (Tr.k Z (Tr.k Z (ae (aa (bu (bn ?_)))))))
  obtain rfl:=oI H
  exact Tr.out (m:=[iv 0,iv c]) [] (bM Z (bM Z bL)) (fun W hW=>⟨Z,hW.low leB⟩)
 ·refine aO (aa (ai (aA Z ?_)))
  obtain⟨d,h,H⟩:=bnd H
  refine bR (r:=(iv d)) (wn Z) Z Tryz.call45 (aj Z aJ) (fun W hW=>CS p0 a b (f.ext hW.dz) d h (HF.start _)) (Tr.k Z (Tr.k Z (ae (aa (bu ?_)))))
  obtain rfl:=oI H
  exact Tr.out (m:=[iv d,iv 0]) [] (bM Z (bM Z bL)) (fun W hW=>⟨Z,hW.low leB⟩)

theorem mZ(N:Nat){w:Bs}(r:Bool)(H:jk N=some r)(hE:HF w w.W E0):Calls Tryz.prog 5 [].toArray w.W fun e W'=>e= .returned (bV r)∧HF w W' E0:=by
 unfold jk at H
 have leB:=Bs.Le.refl w
 refine aZ (n:=15) Tryz.func5 Z Z Z hE (ai (Tr.k Z (ae (aa (ai (iR (vs:=[(2,iv 2),(3,iv 3)]) (cs:=[iv 0,iv 0,iv 2,iv 3]) (wn Z) Z (bB Z (bB Z dH)) (by kernel_rfl) (dS 1 (e:=45) (vs:=[(0,.agg #[iv 0,iv 0,iv 2,iv 3])]) (cs:=[iv 0,iv 0,iv 2,iv 3]) (wn Z) Z (bB Z dH) (by kernel_rfl) fun d=>(Tr.own 1 aX [(aK.mk 0 0 2 3)] (css:=[[iv 0,iv 0,iv 2,iv 3]]) Z (.cons ⟨(),trivial,Z⟩ .nil) Z (by decide) (yK Z) ?_))))))))
 obtain⟨b,f,H⟩:=bnd H
 refine bR (r:=(.tuple #[iv b.1,iv b.2])) (wn Z) Z Tryz.call17 (aj Z aJ) (fun W hW=>EA N [(aK.mk 0 0 2 3)] (some ⟨d,0,none⟩) 1 (hW.sH (k:=1) Z) b f (HF.start _)) (aA Z (aG Z (fun _ _ a c=>cu (a.ev Z) Z) (aG Z (fun _ _ a c=>cu (a.ev Z) Z) (Tr.k Z (Tr.k Z (ae (aa (ai (aA Z (aC eU Z Z (aA Z (eD 3 [(14,bV ((b.2==0)&&(b.1==6)))] [(1,ow (some ⟨d,0,none⟩) 1 45 aX [(aK.mk 0 0 2 3)])] ?_ ?_))))))))))))
 ·cases g:(b.2==0)
  ·exact bq Z (bq Z (aC bH Z Z (ae (bA (.r Z) (.r Z)))))
  ·exact dN run_move Z (jM eU Z Z (aC bG Z Z (ae (bA (.r Z) (.r Z)))))
 ·show Tr _ _ (LF [(14,bV ((b.2==0)&&(b.1==6)))]) (LE [(1,ow (some ⟨d,0,none⟩) 1 45 aX [(aK.mk 0 0 2 3)])]) _
  refine Tr.k Z (ae (aa (bu ?_)))
  obtain rfl:=oI H
  exact fV leB

theorem uw{w:Bs}(p0:Int)(p1:Int)(p2:Int)(r:Bool)(H:nL p0 p1 p2=some r)(hE:HF w w.W E0):Calls Tryz.prog 46 [iv p0,iv p1,iv p2].toArray w.W fun e W'=>e= .returned (bV r)∧HF w W' E0:=by
 unfold nL at H
 have leB:=Bs.Le.refl w
 refine aZ (n:=15) Tryz.func46 Z Z Z hE (ai (Tr.k Z (ae (aa (ai (aA Z (aA Z (aC wZ Z Z (aA Z (eD 4 [(14,bV ((decide (p1≤p0))&&(decide (p0≤p2))))] [] ?_ ?_))))))))))
 ·cases a:(decide (p1≤p0))
  ·exact bq Z (bq Z (bq Z (aC bH Z Z (ae (bA (.r Z) .nil)))))
  ·exact dN run_move Z (dN run_move Z (jM pQ Z Z (aC bG Z Z (ae (bA (.r Z) .nil)))))
 ·show Tr _ _ (LF [(14,bV ((decide (p1≤p0))&&(decide (p0≤p2))))]) (LE []) _
  refine Tr.k Z (ae (aa (bu ?_)))
  obtain rfl:=oI H
  exact fV leB

theorem Ak{w:Bs}(p0:Int)(p1:Int)(r:Bool)(H:sV p0 p1=some r)(hE:HF w w.W E0):Calls Tryz.prog 90 [iv p0,iv p1].toArray w.W fun e W'=>e= .returned (bV r)∧HF w W' E0:=by
 unfold sV at H
 have leB:=Bs.Le.refl w
 refine aZ (n:=11) Tryz.func90 Z Z Z hE (ai (Tr.k Z (ae (aa (av (jF (by kernel_rfl) (by kernel_rfl) (dG Z (dG Z ?_))))))))
 obtain⟨h,d,H⟩:=bnd H
 refine bg Z (fun _ _ a c=>Jo (a.ev Z) (a.ev Z) d) (dG Z ?_)
 obtain⟨i,f,H⟩:=bnd H
 refine bg Z (fun _ _ a c=>Jo (a.ev Z) (a.ev Z) f) ?_
 obtain⟨b,g,H⟩:=bnd H
 refine nT (r:=(bV b)) (wn Z) Z Tryz.call46 (aj Z (aj Z (aj Z aJ))) (fun W hW=>uw p0 h i b g (HF.start _)) (sM Z Z (iC (aa (bu ?_))))
 obtain rfl:=oI H
 exact fV leB

theorem CU(N:Nat)(rec:(List aB)→Option Int)(hrec:∀{w:Bs} (p0:(List aB)) (f:Option Addr) (g:Nat) (i:Sl w.R w.W az f g p0) (r:Int) (H:rec p0=some r) (hE:HF w w.W E0),Calls Tryz.prog 48 [sL f p0 g].toArray w.W fun e W'=>e= .returned (iv r)∧HF w W' E0){w:Bs}(p0:(List aB))(f:Option Addr)(g:Nat)(i:Sl w.R w.W az f g p0)(r:Int)(H:wM N rec p0=some r)(hE:HF w w.W E0):Calls Tryz.prog 48 [sL f p0 g].toArray w.W fun e W'=>e= .returned (iv r)∧HF w W' E0:=by
 unfold wM at H
 have leB:=Bs.Le.refl w
 refine aZ (n:=30) Tryz.func48 Z Z Z hE (ai (Tr.k Z (ae (aa (ai (Tr.k Z (ae (aa (av (ai (aA Z (aQ (bD wV) Z (aA Z (ae (aa (Tr.block (cB (σ:=(List aB)×Nat×Int) (fun m w s=>m=s.1.length+1∧s.1=List.drop s.2.1 p0∧s.2.1≤p0.length∧jQ s.1 s.2.1 s.2.2=some r) (fun s=>[(3,iv s.2.2),(6,sL f p0 g),(7,iv (p0.length:Int)),(8,iv (s.2.1:Int))]) (fun s=>[]) (p0.length+1) (p0,0,0) ⟨Z,Z,Nat.zero_le _,H⟩ (.r Z) .nil (fun _ _ h=>absurd h.1 (by simp)) ?_)))))))))))))))))
 intro w y m s hs
 obtain⟨d,v,u⟩:=s
 obtain⟨B,j,K,H⟩:=hs
 replace j:d=List.drop v p0:=j
 replace H:jQ d v u=some r:=H
 replace B:m+1=d.length+1:=B
 replace i:=i.oV y
 replace leB:=leB.trans y
 obtain rfl:m=d.length:=by omega
 clear B
 dsimp only
 cases d with
 |nil=>
  rw[jQ.eq_1] at H
  refine ai (aC bv Z Z (ae (aa (av (eX Z (dY j) (cz (aD (aD (aU (aa (ai (aA Z (Tr.k Z (ae (aa (bu ?_))))))))))))))))
  obtain rfl:=oI H
  exact fV leB
 | cons b d=>
  rw[jQ.eq_2] at H
  refine ai (aC bv Z Z (ae (aa (av (eO Z (fI j) (aO (aa (av (Tr.block (ai ?_))))))))))
  obtain⟨J,D,C,E⟩:=(i).el (gq j)
  obtain⟨⟨l,o⟩,⟨q,t⟩⟩:=J
  obtain⟨G,I⟩:=lu.1 C
  refine aG Z (fun _ _ a c=>au Gx (a.ev Z) i.form (a.ev Z) (Int.natCast_nonneg _) (bE j)) (aG Z (fun _ _ a c=>aN (cs:=[iv b.Kind,sv b.Name,iv b.At.X,iv b.At.Y,sL l b.Points o,iv b.NX,iv b.NY,sL q b.Steps t]) Bj rA (a.ev Z) (aI.take (wo D E c) 8) Z) (Tr.alloc 3 (wn Z) Z Hy fun L=>(bC 3 (cs:=[iv b.Kind,sv b.Name,iv b.At.X,iv b.At.Y,sL l b.Points o,iv b.NX,iv b.NY,sL q b.Steps t]) [iv b.Kind,sv b.Name,iv b.At.X,iv b.At.Y,sL l b.Points o,iv b.NX,iv b.NY,sL q b.Steps t] (wn Z) Z Z Z Z rA Z Z Z (ae (aa (ai (aA Z (aC bz Z Z (Tr.k Z (ae (aa ?_)))))))))))
  have F:=Bs.Le.refl w
  refine kZ (σ:=Unit) (fun w _=>qz u (jQ d (v+1))=some r) (fun _=>[(3,iv (bF (u+1))),(6,sL f p0 g),(7,iv (p0.length:Int)),(8,iv (v:Int))]) (fun _=>[]) ?_ ?_
  ·refine ai (aQ (ag JN) Z (aG Z (fun _ _ a c=>ah xw (a.ev Z) (dB c (vs:=[iv b.Kind,sv b.Name,iv b.At.X,iv b.At.Y,sL l b.Points o,iv b.NX,iv b.NY,sL q b.Steps t]) (k:=3) Z 7) Z) (aQ (bD wV) Z (aC jd Z Z (ae (aa (aP Z H (fun H=>?_) (fun H=>?_))))))))
   ·cases H
   ·exact aO (aF F () H (.r Z) .nil)
  ·intro w _ A hs
   have H:=hs
   replace H:qz u (jQ d (v+1))=some r:=H
   replace i:=i.oV A
   replace y:=y.trans A
   unfold qz at H
   show Tr _ _ (LF [(3,iv (bF (u+1))),(6,sL f p0 g),(7,iv (p0.length:Int)),(8,iv (v:Int))]) (LE []) _
   refine ai (aA Z (aC jd Z Z (ae (aa (aP Z H (fun H=>?_) (fun H=>?_))))))
   ·refine av ?_
    cases H
   ·exact aO (aL (aa (aM (aC bz Z Z (aA Z (ae (aF y (d,(v+1),(bF (u+1))) ⟨Z,dW j,bE j,H⟩ (.cons Z (.cons Z (.cons Z (.cons (congrArg (fun z=>some (Value.int .i64 z)) (dV j i.form)) .nil)))) .nil)))))))
theorem zi:∀(N:Nat) {w:Bs} (p0:(List aB)) (a:Option Addr) (b:Nat) (c:Sl w.R w.W az a b p0) (r:Int) (H:tT N p0=some r) (hE:HF w w.W E0),Calls Tryz.prog 48 [sL a p0 b].toArray w.W fun e W'=>e= .returned (iv r)∧HF w W' E0
 |0=>by intros;rename_i H _;cases H
 |N+1=>CU N (tT N) (zi N)

theorem sO{w:Bs}(p0:Int)(r:AV)(H:lM p0=some r)(hE:HF w w.W E0):Calls Tryz.prog 37 [iv p0].toArray w.W fun e W'=>e= .returned (.agg #[bV r.name,bV r.at_,bV r.points,bV r.repeat_])∧HF w W' E0:=by
 unfold lM at H
 have leB:=Bs.Le.refl w
 refine aZ (n:=19) Tryz.func37 Z Z Z hE (ai (Tr.alloc 1 (wn Z) Z Vh fun b=>(ae (aa (av (ai (aA Z (ae (aa (Tr.block (ai (aC eU Z Z (Tr.k Z (ae (aa (aP Z H (fun H=>?_) (fun H=>?_)))))))))))))))))
 ·refine av ?_
  cases H
 ·have a:=Bs.Le.refl w
  refine kZ (σ:=Bool) (fun w s=>lT p0 s=some r) (fun s=>[(2,pV b),(3,iv p0),(7,bV s)]) (fun s=>[(1,bx b #[bV false,bV false,bV false,bV false] 98)]) ?_ ?_
  ·refine ai (aC eU Z Z (Tr.k Z (ae (aa (aP Z H (fun H=>?_) (fun H=>?_))))))
   ·exact aO (aF a (p0==4) H (.r Z) (.r Z))
   ·refine ai (aC eU Z Z (Tr.k Z (ae (aa (aP Z H (fun H=>?_) (fun H=>?_))))))
    ·exact aO (aF a (p0==5) H (.r Z) (.r Z))
    ·exact aM (aC eU Z Z (Tr.k Z (ae (aF a (p0==6) H (.r Z) (.r Z)))))
  ·intro w c d hs
   have H:=hs
   replace H:lT p0 c=some r:=H
   replace leB:=leB.trans d
   unfold lT at H
   show Tr _ _ (LF [(2,pV b),(3,iv p0),(7,bV c)]) (LE [(1,bx b #[bV false,bV false,bV false,bV false] 98)]) _
   refine aP Z H (fun H=>?_) (fun H=>?_)
   ·refine av ?_
    cases H
   ·refine ai (aC eU Z Z (Tr.k Z (ae (aa (aP Z H (fun H=>?_) (fun H=>?_))))))
    ·refine ai (iR (vs:=[(2,bV true)]) (cs:=[bV false,bV false,bV true,bV false]) (wn Z) Z (bB Z dH) (by kernel_rfl) (bC 1 (cs:=[bV false,bV false,bV true,bV false]) [bV false,bV false,bV true,bV false] (wn Z) Z Z Z Z Kq Z Z Z (ae (aa (bu (fD (bn ?_)))))))
     obtain rfl:=oI H
     exact Tr.out (m:=[.agg #[bV false,bV false,bV true,bV false]]) [1] (nA Z Z VD Kq bL) (fun W hW=>⟨Z,hW.low leB⟩)
    ·refine ai (aC eU Z Z (Tr.k Z (ae (aa (aP Z H (fun H=>?_) (fun H=>?_))))))
     ·refine av ?_
      cases H
     ·refine aO (aL (aa (ai (iR (vs:=[]) (cs:=[bV false,bV false,bV false,bV false]) (wn Z) Z dH (by kernel_rfl) (bC 1 (cs:=[bV false,bV false,bV false,bV false]) [bV false,bV false,bV false,bV false] (wn Z) Z Z Z Z Kq Z Z Z (ae (aa (bu ?_))))))))
      obtain rfl:=oI H
      exact Tr.out (m:=[.agg #[bV false,bV false,bV false,bV false]]) [1] (nA Z Z VD Kq bL) (fun W hW=>⟨Z,hW.low leB⟩)

theorem D6{w:Bs}(p0:ed)(a:Option Addr)(b:Nat)(f:Sl w.R w.W aR a b p0.Tools)(c:Option Addr)(d:Nat)(g:Sl w.R w.W az c d p0.Steps)(p1:ByteArray)(r:Int)(H:xK p0 p1=some r)(hE:HF w w.W E0):Calls Tryz.prog 121 [.agg #[iv p0.Unit,sL a p0.Tools b,sL c p0.Steps d],sv p1].toArray w.W fun e W'=>e= .returned (iv r)∧HF w W' E0:=by
 unfold xK at H
 refine aZ (n:=9) Tryz.func121 Z Z Z hE (av ?_)
 cases H

theorem xA{w:Bs}(p0:ak)(p1:Int)(r:Bool)(H:mG p0 p1=some r)(hE:HF w w.W E0):Calls Tryz.prog 122 [.agg #[iv p0.X,iv p0.Y],iv p1].toArray w.W fun e W'=>e= .returned (bV r)∧HF w W' E0:=by
 unfold mG at H
 have leB:=Bs.Le.refl w
 refine aZ (n:=15) Tryz.func122 Z Z Z hE (ai (fT 1 (cs:=[iv p0.X,iv p0.Y]) (wn Z) Z Z Z fun g=>(Tr.k Z (ae (aa (ai (aQ (ag je) Z (aG Z (fun _ _ a c=>ah bT (a.ev Z) (dB c (vs:=[iv p0.X,iv p0.Y]) (k:=1) Z 0) Z) (aA Z ?_)))))))))
 obtain⟨d,j,H⟩:=bnd H
 refine bR (r:=(bV d)) (wn Z) Z Tryz.call90 (aj Z (aj Z aJ)) (fun W hW=>Ak p0.X p1 d j (HF.start _)) (aA Z ?_)
 obtain⟨h,b,H⟩:=bnd H
 refine eD 5 [(14,bV h)] [(1,bx g #[iv p0.X,iv p0.Y] 24)] ?_ ?_
 ·cases f:d
  ·rw[f] at b
   rw[if_neg (by decide)] at b
   have H:=b
   obtain rfl:=oI H
   exact bq Z (bq Z (bq Z (bq Z (aC bH Z Z (ae (bA (.r Z) (.r Z)))))))
  ·rw[f] at b
   rw[if_pos Z] at b
   have H:=b
   refine dN (ag iQ) Z (Tr.x (fun _ _ a c=>ah bT (a.ev Z) (dB c (vs:=[iv p0.X,iv p0.Y]) (k:=1) Z 1) Z) (dN run_move Z ?_))
   obtain⟨i,l,H⟩:=bnd H
   refine bR (r:=(bV i)) (wg Z Z Z) Z Tryz.call90 (aj Z (aj Z aJ)) (fun W hW=>Ak p0.Y p1 i l (HF.start _)) (aC bG Z Z ?_)
   obtain rfl:=oI H
   exact ae (bA (.r Z) (.r Z))
 ·show Tr _ _ (LF [(14,bV h)]) (LE [(1,bx g #[iv p0.X,iv p0.Y] 24)]) _
  refine Tr.k Z (ae (aa (bu ?_)))
  obtain rfl:=oI H
  exact fV leB

theorem zq{w:Bs}(p0:ak)(q0:ed)(Aq0_0:Option Addr)(cq0_0:Nat)(RV:Sl w.R w.W aR Aq0_0 cq0_0 q0.Tools)(Aq0_1:Option Addr)(cq0_1:Nat)(Zo:Sl w.R w.W az Aq0_1 cq0_1 q0.Steps)(kL:Nat)(hb0:w.R kL)(hc0:aI w.W kL 0 [iv q0.Unit,sL Aq0_0 q0.Tools cq0_0,sL Aq0_1 q0.Steps cq0_1])(r:Bool)(H:iO p0 q0=some r)(hE:HF w w.W E0):Calls Tryz.prog 124 [.agg #[iv p0.X,iv p0.Y],pV kL].toArray w.W fun e W'=>e= .returned (bV r)∧HF w W' E0:=by
 unfold iO at H
 have leB:=Bs.Le.refl w
 refine aZ (n:=9) Tryz.func124 Z Z Z hE (ai (fT 1 (cs:=[iv p0.X,iv p0.Y]) (wn Z) Z Z Z fun f=>(Tr.k Z (ae (aa (ai (aG Z (fun _ _ a c=>aN (cs:=[iv p0.X,iv p0.Y]) kP gQ (a.ev Z) (aI.take (dB c (vs:=[iv p0.X,iv p0.Y]) (k:=1) Z 0) 2) Z) (aQ (ag sD) Z (aG Z (fun _ _ a c=>ah bT (a.ev Z) (aI.drop (wo hb0 hc0 c) 0) Z) ?_)))))))))
 obtain⟨b,d,H⟩:=bnd H
 refine bR (r:=(bV b)) (wn Z) Z Tryz.call122 (aj Z (aj Z aJ)) (fun W hW=>xA p0 q0.Unit b d (HF.start _)) (aQ jc Z (Tr.k Z (ae (aa (bu ?_)))))
 obtain rfl:=oI H
 exact fV leB

theorem vN{w:Bs}(p0:(List ak))(g:Option Addr)(i:Nat)(f:Sl w.R w.W bi g i p0)(p1:ak→Option Bool)(fid1:Nat)(j:List Value)(hg1:∀args W,(callFunc fid1 args).run Tryz.prog W= .ok (.enter fid1 args) W)(hf1:∀(w':Bs),w.Ext w'→∀(z0:ak),∀y,p1 z0=some y→Calls Tryz.prog fid1 (([.agg #[iv z0.X,iv z0.Y]]:List Value)++j).toArray w'.W fun e W''=>e= .returned (bV y)∧HF w' W'' E0)(r:Int)(H:kI p0 p1=some r)(hE:HF w w.W E0):Calls Tryz.prog 173 [sL g p0 i,.func (.func fid1) #[] j.toArray].toArray w.W fun e W'=>e= .returned (iv r)∧HF w W' E0:=by
 unfold kI at H
 have leB:=Bs.Le.refl w
 refine aZ (n:=19) Tryz.func173 Z Z Z hE (ai (Tr.k Z (ae (aa (av (ai (aA Z (aQ (bD qM) Z (aA Z (ae (aa (Tr.block (cB (σ:=(List ak)×Nat) (fun m w s=>m=s.1.length+1∧s.1=List.drop s.2 p0∧s.2≤p0.length∧eP p1 s.1 s.2=some r) (fun s=>[(0,sL g p0 i),(1,.func (.func fid1) #[] j.toArray),(7,iv (p0.length:Int)),(8,iv (s.2:Int))]) (fun s=>[]) (p0.length+1) (p0,0) ⟨Z,Z,Nat.zero_le _,H⟩ (.r Z) .nil (fun _ _ h=>absurd h.1 (by simp)) ?_)))))))))))))
 intro w l m s hs
 obtain⟨b,q⟩:=s
 obtain⟨o,d,A,H⟩:=hs
 replace d:b=List.drop q p0:=d
 replace H:eP p1 b q=some r:=H
 replace o:m+1=b.length+1:=o
 replace f:=f.oV l
 replace hf1:=fun w' he=>hf1 w' (l.ext.trans he)
 replace leB:=leB.trans l
 obtain rfl:m=b.length:=by omega
 clear o
 dsimp only
 cases b with
 |nil=>
  rw[eP.eq_1] at H
  refine ai (aC bv Z Z (ae (aa (av (eX Z (dY d) (cz (aD (aD (aU (aa (ai (Tr.k Z (ae (aa (bu ?_)))))))))))))))
  obtain rfl:=oI H
  exact fV leB
 | cons t b=>
  rw[eP.eq_2] at H
  refine ai (aC bv Z Z (ae (aa (av (eO Z (fI d) (aO (aa (av (Tr.block (ai (aA Z (Tr.k Z (ae (aa (ai (aA Z (aA Z (aA Z (aG Z (fun _ _ a c=>au ql (a.ev Z) f.form (a.ev Z) (Int.natCast_nonneg _) (bE d)) (aG Z (fun _ _ a c=>aN (cs:=[iv t.X,iv t.Y]) kP gQ (a.ev Z) (aI.take (vB jI f (gq d) c) 2) Z) ?_))))))))))))))))))))
  obtain⟨v,u,H⟩:=bnd H
  refine x9 (r:=(bV v)) (wn Z) Z Z hg1 (aj Z aJ) (fun W hW=>hf1 hW.all hW.dz t _ u) (ae (aa (aP Z H (fun H=>?_) (fun H=>?_))))
  ·refine ai (aA Z (Tr.k Z (ae (aa (bu (fD (bn (bn (fD (bn ?_))))))))))
   obtain rfl:=oI H
   exact fV leB
  ·exact aO (aL (aa (aM (aC bz Z Z (aA Z (ae (aF l (b,(q+1)) ⟨Z,dW d,bE d,H⟩ (.cons Z (.cons Z (.cons Z (.cons (congrArg (fun z=>some (Value.int .i64 z)) (dV d f.form)) .nil)))) .nil)))))))

theorem pz{w:Bs}(p0:(List ak))(a:Option Addr)(b:Nat)(f:Sl w.R w.W bi a b p0)(p1:ak→Option Bool)(fid1:Nat)(c:List Value)(hg1:∀args W,(callFunc fid1 args).run Tryz.prog W= .ok (.enter fid1 args) W)(hf1:∀(w':Bs),w.Ext w'→∀(z0:ak),∀y,p1 z0=some y→Calls Tryz.prog fid1 (([.agg #[iv z0.X,iv z0.Y]]:List Value)++c).toArray w'.W fun e W''=>e= .returned (bV y)∧HF w' W'' E0)(r:Bool)(H:dF p0 p1=some r)(hE:HF w w.W E0):Calls Tryz.prog 123 [sL a p0 b,.func (.func fid1) #[] c.toArray].toArray w.W fun e W'=>e= .returned (bV r)∧HF w W' E0:=by
 unfold dF at H
 have leB:=Bs.Le.refl w
 refine aZ (n:=9) Tryz.func123 Z Z Z hE (ai (Tr.k Z (ae (aa (ai (aA Z (aA Z ?_)))))))
 obtain⟨d,g,H⟩:=bnd H
 refine bR (r:=(iv d)) (wn Z) Z Tryz.call173 (aj Z (aj Z aJ)) (fun W hW=>vN p0 a b (f.ext hW.dz) p1 fid1 c hg1 (fun w' he=>hf1 w' (hW.dz.trans he)) d g (HF.start _)) (aC wZ Z Z (Tr.k Z (ae (aa (bu ?_)))))
 obtain rfl:=oI H
 exact fV leB

theorem D5{w:Bs}(p0:(List ak))(i:Option Addr)(j:Nat)(f:Sl w.R w.W bi i j p0)(r:Bool)(H:oO p0=some r)(hE:HF w w.W E0):Calls Tryz.prog 125 [sL i p0 j].toArray w.W fun e W'=>e= .returned (bV r)∧HF w W' E0:=by
 unfold oO at H
 have leB:=Bs.Le.refl w
 refine aZ (n:=36) Tryz.func125 Z Z Z hE (ai (Tr.k Z (ae (aa (av (ai (aA Z (aQ (bD qM) Z (aC bv Z Z (ae (aa (aP Z H (fun H=>?_) (fun H=>?_)))))))))))))
 ·refine ai (Tr.k Z (ae (aa (bu (bn ?_)))))
  obtain rfl:=oI H
  exact fV leB
 ·refine aO (aa (av (ai (aA Z (aQ (bD qM) Z (aA Z (ae (aa (Tr.block (cB (σ:=(List ak)×Nat) (fun m w s=>m=s.1.length+1∧s.1=List.drop s.2 p0∧s.2≤p0.length∧kU p0 s.1 s.2=some r) (fun s=>[(0,sL i p0 j),(9,sL i p0 j),(10,iv (p0.length:Int)),(11,iv (s.2:Int))]) (fun s=>[]) (p0.length+1) (p0,0) ⟨Z,Z,Nat.zero_le _,H⟩ (.r Z) .nil (fun _ _ h=>absurd h.1 (by simp)) ?_))))))))))
  intro w o m s hs
  obtain⟨b,t⟩:=s
  obtain⟨q,g,C,H⟩:=hs
  replace g:b=List.drop t p0:=g
  replace H:kU p0 b t=some r:=H
  replace q:m+1=b.length+1:=q
  replace f:=f.oV o
  replace leB:=leB.trans o
  obtain rfl:m=b.length:=by omega
  clear q
  dsimp only
  cases b with
  |nil=>
   rw[kU.eq_1] at H
   refine ai (aC bv Z Z (ae (aa (av (eX Z (dY g) (cz (aD (aD (aU (aa (ai (Tr.k Z (ae (aa (bu ?_)))))))))))))))
   obtain rfl:=oI H
   exact fV leB
  | cons l b=>
   rw[kU.eq_2] at H
   refine ai (aC bv Z Z (ae (aa (av (eO Z (fI g) (aO (aa (av (Tr.block (ai (aA Z (aG Z (fun _ _ a c=>au ql (a.ev Z) f.form (a.ev Z) (Int.natCast_nonneg _) (bE g)) (aG Z (fun _ _ a c=>aN (cs:=[iv l.X,iv l.Y]) kP gQ (a.ev Z) (aI.take (vB jI f (gq g) c) 2) Z) (Tr.alloc 3 (wn Z) Z tZ fun D=>(Tr.k Z (bC 3 (cs:=[iv l.X,iv l.Y]) [iv l.X,iv l.Y] (wn Z) Z Z Z Z gQ Z Z Z (ae (aa (ai (aA Z (aA Z (aC bz Z Z (aA Z (aQ (bD qM) Z ?_))))))))))))))))))))))))
   obtain⟨E,A,H⟩:=bnd H
   refine aG Z (fun _ _ a c=>Df (a.ev Z) (a.ev Z) A) ?_
   obtain⟨d,B,H⟩:=bnd H
   obtain⟨u,v,y⟩:=aW B
   refine aG Z (fun _ _ a c=>au ql (a.ev Z) f.form (a.ev Z) u v) (aG Z (fun _ _ a c=>aN (cs:=[iv d.X,iv d.Y]) kP gQ (a.ev Z) (aI.take (vB jI f y c) 2) Z) (Tr.alloc 4 (wn Z) Z tZ fun F=>(bC 4 (cs:=[iv d.X,iv d.Y]) [iv d.X,iv d.Y] (wn Z) Z Z Z Z gQ Z Z Z (ae (aa (ai (aQ (ag je) Z (aG Z (fun _ _ a c=>ah bT (a.ev Z) (dB c (vs:=[iv l.X,iv l.Y]) (k:=3) Z 0) Z) (aQ (ag je) Z (aG Z (fun _ _ a c=>ah bT (a.ev Z) (dB c (vs:=[iv d.X,iv d.Y]) (k:=4) Z 0) Z) (aC eU Z Z (aQ (ag iQ) Z (aG Z (fun _ _ a c=>ah bT (a.ev Z) (dB c (vs:=[iv l.X,iv l.Y]) (k:=3) Z 1) Z) ?_)))))))))))))
   refine aQ (ag iQ) Z (aG Z (fun _ _ a c=>ah bT (a.ev Z) (dB c (vs:=[iv d.X,iv d.Y]) (k:=4) Z 1) Z) (aC eU Z Z (aC (Ri XD) Z Z (ae (aa (aP Z H (fun H=>?_) (fun H=>?_)))))))
   ·refine ai (Tr.k Z (ae (aa (bu (fD (bn (bn (fD (bn ?_)))))))))
    obtain rfl:=oI H
    exact fV leB
   ·exact aO (aL (aa (aM (aC bz Z Z (aA Z (ae (aF o (b,(t+1)) ⟨Z,dW g,bE g,H⟩ (.cons Z (.cons Z (.cons Z (.cons (congrArg (fun z=>some (Value.int .i64 z)) (dV g f.form)) .nil)))) .nil)))))))

theorem Bc{w:Bs}(p0:ed)(o:Option Addr)(q:Nat)(E:Sl w.R w.W aR o q p0.Tools)(t:Option Addr)(u:Nat)(F:Sl w.R w.W az t u p0.Steps)(p1:aB)(d:Option Addr)(f:Nat)(G:Sl w.R w.W bi d f p1.Points)(g:Option Addr)(h:Nat)(a1:Sl w.R w.W az g h p1.Steps)(p2:Int)(r:Int)(H:kY p0 p1 p2=some r)(hE:HF w w.W E0):Calls Tryz.prog 92 [.agg #[iv p0.Unit,sL o p0.Tools q,sL t p0.Steps u],.agg #[iv p1.Kind,sv p1.Name,iv p1.At.X,iv p1.At.Y,sL d p1.Points f,iv p1.NX,iv p1.NY,sL g p1.Steps h],iv p2].toArray w.W fun e W'=>e= .returned (iv r)∧HF w W' E0:=by
 unfold kY at H
 have leB:=Bs.Le.refl w
 refine aZ (n:=120) Tryz.func92 Z Z Z hE (ai (fT 1 (cs:=[iv p0.Unit,sL o p0.Tools q,sL t p0.Steps u]) (wn Z) Z Z Z fun l=>(fT 2 (cs:=[iv p1.Kind,sv p1.Name,iv p1.At.X,iv p1.At.Y,sL d p1.Points f,iv p1.NX,iv p1.NY,sL g p1.Steps h]) (wn Z) Z Z Z fun i=>(Tr.k Z (ae (aa (av (ai (aQ (ag vH) Z (aG Z (fun _ _ a c=>ah bT (a.ev Z) (dB c (vs:=[iv p1.Kind,sv p1.Name,iv p1.At.X,iv p1.At.Y,sL d p1.Points f,iv p1.NX,iv p1.NY,sL g p1.Steps h]) (k:=2) Z 0) Z) ?_))))))))))
 obtain⟨J,S,H⟩:=bnd H
 refine bR (r:=(bV J)) (wn Z) Z Tryz.call46 (aj Z (aj Z (aj Z aJ))) (fun W hW=>uw p1.Kind 1 8 J S (HF.start _)) (aQ jc Z (ae (aa (aP Z H (fun H=>?_) (fun H=>?_)))))
 ·refine av ?_
  cases H
 ·refine aO (aa (ai (aQ (ag vH) Z (aG Z (fun _ _ a c=>ah bT (a.ev Z) (dB c (vs:=[iv p1.Kind,sv p1.Name,iv p1.At.X,iv p1.At.Y,sL d p1.Points f,iv p1.NX,iv p1.NY,sL g p1.Steps h]) (k:=2) Z 0) Z) ?_))))
  obtain⟨b,T,H⟩:=bnd H
  refine bR (r:=(.agg #[bV b.name,bV b.at_,bV b.points,bV b.repeat_])) (wn Z) Z Tryz.call37 (aj Z aJ) (fun W hW=>sO p1.Kind b T (HF.start _)) (Tr.alloc 3 (wn Z) Z Vh fun j=>(bC 3 (cs:=[bV b.name,bV b.at_,bV b.points,bV b.repeat_]) [bV b.name,bV b.at_,bV b.points,bV b.repeat_] (wn Z) Z Z Z Z Kq Z Z Z (ae (aa (av (Tr.block ?_))))))
  have C:=Bs.Le.refl w
  refine kZ (σ:=Bool) (fun w s=>iV p0 p1 b s=some r) (fun s=>[(2,iv p2),(3,pV l),(4,pV i),(7,pV j),(15,bV s)]) (fun s=>[(1,bx l #[iv p0.Unit,sL o p0.Tools q,sL t p0.Steps u] 30),(2,bx i #[iv p1.Kind,sv p1.Name,iv p1.At.X,iv p1.At.Y,sL d p1.Points f,iv p1.NX,iv p1.NY,sL g p1.Steps h] 59),(3,bx j #[bV b.name,bV b.at_,bV b.points,bV b.repeat_] 98)]) ?_ ?_
  ·refine ai (aQ (ag O1) Z (aG Z (fun _ _ a c=>ah z8 (a.ev Z) (dB c (vs:=[bV b.name,bV b.at_,bV b.points,bV b.repeat_]) (k:=3) Z 0) Z) (aQ jc Z (aA Z (eD 4 [(2,iv p2),(3,pV l),(4,pV i),(7,pV j),(23,bV ((!b.name)&&(!sw p1.Name (⟨#[]⟩))))] [(1,bx l #[iv p0.Unit,sL o p0.Tools q,sL t p0.Steps u] 30),(2,bx i #[iv p1.Kind,sv p1.Name,iv p1.At.X,iv p1.At.Y,sL d p1.Points f,iv p1.NX,iv p1.NY,sL g p1.Steps h] 59),(3,bx j #[bV b.name,bV b.at_,bV b.points,bV b.repeat_] 98)] ?_ ?_)))))
   ·cases v:(!b.name)
    ·exact bq Z (bq Z (bq Z (aC bH Z Z (ae (bA (.r Z) (.r Z))))))
    ·exact dN (ag O4) Z (Tr.x (fun _ _ a c=>ah LK (a.ev Z) (dB c (vs:=[iv p1.Kind,sv p1.Name,iv p1.At.X,iv p1.At.Y,sL d p1.Points f,iv p1.NX,iv p1.NY,sL g p1.Steps h]) (k:=2) Z 1) Z) (jM Cc Z Z (aC bG Z Z (ae (bA (.r Z) (.r Z))))))
   ·show Tr _ _ (LF [(2,iv p2),(3,pV l),(4,pV i),(7,pV j),(23,bV ((!b.name)&&(!sw p1.Name (⟨#[]⟩))))]) (LE [(1,bx l #[iv p0.Unit,sL o p0.Tools q,sL t p0.Steps u] 30),(2,bx i #[iv p1.Kind,sv p1.Name,iv p1.At.X,iv p1.At.Y,sL d p1.Points f,iv p1.NX,iv p1.NY,sL g p1.Steps h] 59),(3,bx j #[bV b.name,bV b.at_,bV b.points,bV b.repeat_] 98)]) _
    refine Tr.k Z (ae (aa (aP Z H (fun H=>?_) (fun H=>?_))))
    ·exact aO (aF C ((!b.name)&&(!sw p1.Name (⟨#[]⟩))) H (.r Z) (.r Z))
    ·refine ai (aQ (ag UB) Z (aG Z (fun _ _ a c=>ah z8 (a.ev Z) (dB c (vs:=[bV b.name,bV b.at_,bV b.points,bV b.repeat_]) (k:=3) Z 1) Z) (aQ jc Z (aA Z (eD 5 [(2,iv p2),(3,pV l),(4,pV i),(7,pV j),(32,bV ((!b.at_)&&(!(jV p1.At (ak.mk 0 0)))))] [(1,bx l #[iv p0.Unit,sL o p0.Tools q,sL t p0.Steps u] 30),(2,bx i #[iv p1.Kind,sv p1.Name,iv p1.At.X,iv p1.At.Y,sL d p1.Points f,iv p1.NX,iv p1.NY,sL g p1.Steps h] 59),(3,bx j #[bV b.name,bV b.at_,bV b.points,bV b.repeat_] 98)] ?_ ?_)))))
     ·cases v:(!b.at_)
      ·exact bq Z (bq Z (bq Z (bq Z (aC bH Z Z (ae (bA (.r Z) (.r Z)))))))
      ·exact dN (ag JO) Z (Tr.x (fun _ _ a c=>aN (cs:=[iv p1.At.X,iv p1.At.Y]) kP gQ (a.ev Z) (aI.take (dB c (vs:=[iv p1.Kind,sv p1.Name,iv p1.At.X,iv p1.At.Y,sL d p1.Points f,iv p1.NX,iv p1.NY,sL g p1.Steps h]) (k:=2) Z 2) 2) Z) (iR (vs:=[]) (cs:=[iv 0,iv 0]) (wg Z Z Z) Z dH (by kernel_rfl) (PH (wg Z Z Z) Z (FN p1.At (ak.mk 0 0)) Z Z (aC bG Z Z (ae (bA (.r Z) (.r Z)))))))
     ·show Tr _ _ (LF [(2,iv p2),(3,pV l),(4,pV i),(7,pV j),(32,bV ((!b.at_)&&(!(jV p1.At (ak.mk 0 0)))))]) (LE [(1,bx l #[iv p0.Unit,sL o p0.Tools q,sL t p0.Steps u] 30),(2,bx i #[iv p1.Kind,sv p1.Name,iv p1.At.X,iv p1.At.Y,sL d p1.Points f,iv p1.NX,iv p1.NY,sL g p1.Steps h] 59),(3,bx j #[bV b.name,bV b.at_,bV b.points,bV b.repeat_] 98)]) _
      refine Tr.k Z (ae (aa (aP Z H (fun H=>?_) (fun H=>?_))))
      ·exact aO (aF C ((!b.at_)&&(!(jV p1.At (ak.mk 0 0)))) H (.r Z) (.r Z))
      ·refine ai (aQ (ag O0) Z (aG Z (fun _ _ a c=>ah z8 (a.ev Z) (dB c (vs:=[bV b.name,bV b.at_,bV b.points,bV b.repeat_]) (k:=3) Z 2) Z) (aQ jc Z (aA Z (eD 5 [(2,iv p2),(3,pV l),(4,pV i),(7,pV j),(41,bV ((!b.points)&&(decide (0<(p1.Points.length:Int)))))] [(1,bx l #[iv p0.Unit,sL o p0.Tools q,sL t p0.Steps u] 30),(2,bx i #[iv p1.Kind,sv p1.Name,iv p1.At.X,iv p1.At.Y,sL d p1.Points f,iv p1.NX,iv p1.NY,sL g p1.Steps h] 59),(3,bx j #[bV b.name,bV b.at_,bV b.points,bV b.repeat_] 98)] ?_ ?_)))))
       ·cases v:(!b.points)
        ·exact bq Z (bq Z (bq Z (bq Z (aC bH Z Z (ae (bA (.r Z) (.r Z)))))))
        ·exact dN (ag pR) Z (Tr.x (fun _ _ a c=>ah tF (a.ev Z) (dB c (vs:=[iv p1.Kind,sv p1.Name,iv p1.At.X,iv p1.At.Y,sL d p1.Points f,iv p1.NX,iv p1.NY,sL g p1.Steps h]) (k:=2) Z 4) Z) (dN (bD qM) Z (jM jd Z Z (aC bG Z Z (ae (bA (.r Z) (.r Z)))))))
       ·show Tr _ _ (LF [(2,iv p2),(3,pV l),(4,pV i),(7,pV j),(41,bV ((!b.points)&&(decide (0<(p1.Points.length:Int)))))]) (LE [(1,bx l #[iv p0.Unit,sL o p0.Tools q,sL t p0.Steps u] 30),(2,bx i #[iv p1.Kind,sv p1.Name,iv p1.At.X,iv p1.At.Y,sL d p1.Points f,iv p1.NX,iv p1.NY,sL g p1.Steps h] 59),(3,bx j #[bV b.name,bV b.at_,bV b.points,bV b.repeat_] 98)]) _
        refine Tr.k Z (ae (aa (aP Z H (fun H=>?_) (fun H=>?_))))
        ·exact aO (aF C ((!b.points)&&(decide (0<(p1.Points.length:Int)))) H (.r Z) (.r Z))
        ·refine aM (aQ (ag OZ) Z (aG Z (fun _ _ a c=>ah z8 (a.ev Z) (dB c (vs:=[bV b.name,bV b.at_,bV b.points,bV b.repeat_]) (k:=3) Z 3) Z) (aQ jc Z (aA Z (eD 15 [(2,iv p2),(3,pV l),(4,pV i),(7,pV j),(60,bV ((!b.repeat_)&&(((p1.NX !=0)||(p1.NY !=0))||(decide (0<(p1.Steps.length:Int))))))] [(1,bx l #[iv p0.Unit,sL o p0.Tools q,sL t p0.Steps u] 30),(2,bx i #[iv p1.Kind,sv p1.Name,iv p1.At.X,iv p1.At.Y,sL d p1.Points f,iv p1.NX,iv p1.NY,sL g p1.Steps h] 59),(3,bx j #[bV b.name,bV b.at_,bV b.points,bV b.repeat_] 98)] ?_ ?_)))))
         ·cases v:(!b.repeat_)
          ·exact bq Z (bq Z (bq Z (bq Z (rD Z (rD Z (rD Z (bq Z (bq Z (rD Z (rD Z (rD Z (rD Z (bq Z (aC bH Z Z (ae (bA (.r Z) (.r Z)))))))))))))))))
          ·refine dN (ag UE) Z (Tr.x (fun _ _ a c=>ah bT (a.ev Z) (dB c (vs:=[iv p1.Kind,sv p1.Name,iv p1.At.X,iv p1.At.Y,sL d p1.Points f,iv p1.NX,iv p1.NY,sL g p1.Steps h]) (k:=2) Z 5) Z) (jM iP Z Z (dN run_move Z (eD 4 [(2,iv p2),(3,pV l),(4,pV i),(7,pV j),(45,bV true),(53,bV ((p1.NX !=0)||(p1.NY !=0)))] [(1,bx l #[iv p0.Unit,sL o p0.Tools q,sL t p0.Steps u] 30),(2,bx i #[iv p1.Kind,sv p1.Name,iv p1.At.X,iv p1.At.Y,sL d p1.Points f,iv p1.NX,iv p1.NY,sL g p1.Steps h] 59),(3,bx j #[bV b.name,bV b.at_,bV b.points,bV b.repeat_] 98)] ?_ ?_))))
           ·cases v:(p1.NX !=0)
            ·exact dN (ag UD) Z (Tr.x (fun _ _ a c=>ah bT (a.ev Z) (dB c (vs:=[iv p1.Kind,sv p1.Name,iv p1.At.X,iv p1.At.Y,sL d p1.Points f,iv p1.NX,iv p1.NY,sL g p1.Steps h]) (k:=2) Z 6) Z) (jM iP Z Z (jM bH Z Z (ae (bA (.r Z) (.r Z))))))
            ·exact bq Z (bq Z (bq Z (jM bG Z Z (ae (bA (.r Z) (.r Z))))))
           ·dsimp only
            refine dN run_move Z (eD 5 [(2,iv p2),(3,pV l),(4,pV i),(7,pV j),(45,bV true),(59,bV (((p1.NX !=0)||(p1.NY !=0))||(decide (0<(p1.Steps.length:Int)))))] [(1,bx l #[iv p0.Unit,sL o p0.Tools q,sL t p0.Steps u] 30),(2,bx i #[iv p1.Kind,sv p1.Name,iv p1.At.X,iv p1.At.Y,sL d p1.Points f,iv p1.NX,iv p1.NY,sL g p1.Steps h] 59),(3,bx j #[bV b.name,bV b.at_,bV b.points,bV b.repeat_] 98)] ?_ ?_)
            ·cases v:((p1.NX !=0)||(p1.NY !=0))
             ·exact dN (ag JN) Z (Tr.x (fun _ _ a c=>ah xw (a.ev Z) (dB c (vs:=[iv p1.Kind,sv p1.Name,iv p1.At.X,iv p1.At.Y,sL d p1.Points f,iv p1.NX,iv p1.NY,sL g p1.Steps h]) (k:=2) Z 7) Z) (dN (bD wV) Z (jM jd Z Z (jM bH Z Z (ae (bA (.r Z) (.r Z)))))))
             ·exact bq Z (bq Z (bq Z (bq Z (jM bG Z Z (ae (bA (.r Z) (.r Z)))))))
            ·dsimp only
             exact aC bG Z Z (ae (bA (.r Z) (.r Z)))
         ·show Tr _ _ (LF [(2,iv p2),(3,pV l),(4,pV i),(7,pV j),(60,bV ((!b.repeat_)&&(((p1.NX !=0)||(p1.NY !=0))||(decide (0<(p1.Steps.length:Int))))))]) (LE [(1,bx l #[iv p0.Unit,sL o p0.Tools q,sL t p0.Steps u] 30),(2,bx i #[iv p1.Kind,sv p1.Name,iv p1.At.X,iv p1.At.Y,sL d p1.Points f,iv p1.NX,iv p1.NY,sL g p1.Steps h] 59),(3,bx j #[bV b.name,bV b.at_,bV b.points,bV b.repeat_] 98)]) _
          exact Tr.k Z (ae (aF C ((!b.repeat_)&&(((p1.NX !=0)||(p1.NY !=0))||(decide (0<(p1.Steps.length:Int))))) H (.r Z) (.r Z)))
  ·intro w K D hs
   have H:=hs
   replace H:iV p0 p1 b K=some r:=H
   replace E:=E.oV D
   replace F:=F.oV D
   replace G:=G.oV D
   replace leB:=leB.trans D
   unfold iV at H
   show Tr _ _ (LF [(2,iv p2),(3,pV l),(4,pV i),(7,pV j),(15,bV K)]) (LE [(1,bx l #[iv p0.Unit,sL o p0.Tools q,sL t p0.Steps u] 30),(2,bx i #[iv p1.Kind,sv p1.Name,iv p1.At.X,iv p1.At.Y,sL d p1.Points f,iv p1.NX,iv p1.NY,sL g p1.Steps h] 59),(3,bx j #[bV b.name,bV b.at_,bV b.points,bV b.repeat_] 98)]) _
   refine aP Z H (fun H=>?_) (fun H=>?_)
   ·refine av ?_
    cases H
   ·refine ai (aQ (ag O1) Z (aG Z (fun _ _ a c=>ah z8 (a.ev Z) (dB c (vs:=[bV b.name,bV b.at_,bV b.points,bV b.repeat_]) (k:=3) Z 0) Z) (aA Z ?_)))
    obtain⟨L,z,H⟩:=bnd H
    refine eD 6 [(2,iv p2),(3,pV l),(4,pV i),(7,pV j),(70,bV L)] [(1,bx l #[iv p0.Unit,sL o p0.Tools q,sL t p0.Steps u] 30),(2,bx i #[iv p1.Kind,sv p1.Name,iv p1.At.X,iv p1.At.Y,sL d p1.Points f,iv p1.NX,iv p1.NY,sL g p1.Steps h] 59),(3,bx j #[bV b.name,bV b.at_,bV b.points,bV b.repeat_] 98)] ?_ ?_
    ·cases v:b.name
     ·rw[v] at z
      rw[if_neg (by decide)] at z
      have H:=z
      obtain rfl:=oI H
      exact bq Z (bq Z (bq Z (bq Z (bq Z (aC bH Z Z (ae (bA (.r Z) (.r Z))))))))
     ·rw[v] at z
      rw[if_pos Z] at z
      have H:=z
      refine Tr.x (fun _ _ a c=>aN (cs:=[iv p0.Unit,sL o p0.Tools q,sL t p0.Steps u]) pq lK (a.ev Z) (aI.take (dB c (vs:=[iv p0.Unit,sL o p0.Tools q,sL t p0.Steps u]) (k:=1) Z 0) 3) Z) (dN (ag O4) Z (Tr.x (fun _ _ a c=>ah LK (a.ev Z) (dB c (vs:=[iv p1.Kind,sv p1.Name,iv p1.At.X,iv p1.At.Y,sL d p1.Points f,iv p1.NX,iv p1.NY,sL g p1.Steps h]) (k:=2) Z 1) Z) ?_))
      obtain⟨M,U,H⟩:=bnd H
      refine bR (r:=(iv M)) (wg Z Z Z) Z Tryz.call121 (aj Z (aj Z aJ)) (fun W hW=>D6 p0 o q (E.ext hW.dz) t u (F.ext hW.dz) p1.Name M U (HF.start _)) (jM bv Z Z (aC bG Z Z ?_))
      obtain rfl:=oI H
      exact ae (bA (.r Z) (.r Z))
    ·show Tr _ _ (LF [(2,iv p2),(3,pV l),(4,pV i),(7,pV j),(70,bV L)]) (LE [(1,bx l #[iv p0.Unit,sL o p0.Tools q,sL t p0.Steps u] 30),(2,bx i #[iv p1.Kind,sv p1.Name,iv p1.At.X,iv p1.At.Y,sL d p1.Points f,iv p1.NX,iv p1.NY,sL g p1.Steps h] 59),(3,bx j #[bV b.name,bV b.at_,bV b.points,bV b.repeat_] 98)]) _
     refine Tr.k Z (ae (aa (aP Z H (fun H=>?_) (fun H=>?_))))
     ·refine av ?_
      cases H
     ·refine ai (aQ (ag JO) Z (aG Z (fun _ _ a c=>aN (cs:=[iv p1.At.X,iv p1.At.Y]) kP gQ (a.ev Z) (aI.take (dB c (vs:=[iv p1.Kind,sv p1.Name,iv p1.At.X,iv p1.At.Y,sL d p1.Points f,iv p1.NX,iv p1.NY,sL g p1.Steps h]) (k:=2) Z 2) 2) Z) (aQ (ag sD) Z (aG Z (fun _ _ a c=>ah bT (a.ev Z) (dB c (vs:=[iv p0.Unit,sL o p0.Tools q,sL t p0.Steps u]) (k:=1) Z 0) Z) ?_))))
      obtain⟨I,V,H⟩:=bnd H
      refine bR (r:=(bV I)) (wn Z) Z Tryz.call122 (aj Z (aj Z aJ)) (fun W hW=>xA p1.At p0.Unit I V (HF.start _)) (aQ jc Z (aA Z ?_))
      obtain⟨N,A,H⟩:=bnd H
      refine eD 5 [(2,iv p2),(4,pV i),(7,pV j),(83,bV N)] [(1,bx l #[iv p0.Unit,sL o p0.Tools q,sL t p0.Steps u] 30),(2,bx i #[iv p1.Kind,sv p1.Name,iv p1.At.X,iv p1.At.Y,sL d p1.Points f,iv p1.NX,iv p1.NY,sL g p1.Steps h] 59),(3,bx j #[bV b.name,bV b.at_,bV b.points,bV b.repeat_] 98)] ?_ ?_
      ·cases v:(!I)
       ·rw[v] at A
        rw[if_neg (by decide)] at A
        have H:=A
        refine dN (ag pR) Z (Tr.x (fun _ _ a c=>ah tF (a.ev Z) (dB c (vs:=[iv p1.Kind,sv p1.Name,iv p1.At.X,iv p1.At.Y,sL d p1.Points f,iv p1.NX,iv p1.NY,sL g p1.Steps h]) (k:=2) Z 4) Z) (sS (vs:=[pV l]) (wg Z Z Z) Z (aj Z aJ) ?_))
        obtain⟨O,a2,H⟩:=bnd H
        refine bR (r:=(bV O)) (wg Z Z Z) Z Tryz.call123 (aj Z (aj Z aJ)) (fun W hW=>pz p1.Points d f (G.ext hW.dz) (fun z0=>iO z0 p0) 124 [pV l] Tryz.call124 (fun w' he z0 y hy=>zq z0 p0 o q (E.ext (hW.dz.trans he)) t u (F.ext (hW.dz.trans he)) l (he.r _ (hW.Ex (k:=1) Z)) (he.cells (hW.Ex (k:=1) Z) (hW.GI (k:=1) Z)) y hy (HF.start _)) O a2 (HF.start _)) (aC bH Z Z ?_)
        obtain rfl:=oI H
        exact ae (bA (.r Z) (.r Z))
       ·rw[v] at A
        rw[if_pos Z] at A
        have H:=A
        obtain rfl:=oI H
        exact bq Z (bq Z (bq Z (bq Z (aC bG Z Z (ae (bA (.r Z) (.r Z)))))))
      ·show Tr _ _ (LF [(2,iv p2),(4,pV i),(7,pV j),(83,bV N)]) (LE [(1,bx l #[iv p0.Unit,sL o p0.Tools q,sL t p0.Steps u] 30),(2,bx i #[iv p1.Kind,sv p1.Name,iv p1.At.X,iv p1.At.Y,sL d p1.Points f,iv p1.NX,iv p1.NY,sL g p1.Steps h] 59),(3,bx j #[bV b.name,bV b.at_,bV b.points,bV b.repeat_] 98)]) _
       refine Tr.k Z (ae (aa (aP Z H (fun H=>?_) (fun H=>?_))))
       ·refine av ?_
        cases H
       ·refine ai (aQ (ag pR) Z (aG Z (fun _ _ a c=>ah tF (a.ev Z) (dB c (vs:=[iv p1.Kind,sv p1.Name,iv p1.At.X,iv p1.At.Y,sL d p1.Points f,iv p1.NX,iv p1.NY,sL g p1.Steps h]) (k:=2) Z 4) Z) (aQ (bD qM) Z (aC jd Z Z (Tr.k Z (ae (aa (aP Z H (fun H=>?_) (fun H=>?_)))))))))
        ·refine av ?_
         cases H
        ·refine ai (aQ (ag O0) Z (aG Z (fun _ _ a c=>ah z8 (a.ev Z) (dB c (vs:=[bV b.name,bV b.at_,bV b.points,bV b.repeat_]) (k:=3) Z 2) Z) (aA Z ?_)))
         obtain⟨P,B,H⟩:=bnd H
         refine eD 5 [(2,iv p2),(4,pV i),(7,pV j),(97,bV P)] [(1,bx l #[iv p0.Unit,sL o p0.Tools q,sL t p0.Steps u] 30),(2,bx i #[iv p1.Kind,sv p1.Name,iv p1.At.X,iv p1.At.Y,sL d p1.Points f,iv p1.NX,iv p1.NY,sL g p1.Steps h] 59),(3,bx j #[bV b.name,bV b.at_,bV b.points,bV b.repeat_] 98)] ?_ ?_
         ·cases v:b.points
          ·rw[v] at B
           rw[if_neg (by decide)] at B
           have H:=B
           obtain rfl:=oI H
           exact bq Z (bq Z (bq Z (bq Z (aC bH Z Z (ae (bA (.r Z) (.r Z)))))))
          ·rw[v] at B
           rw[if_pos Z] at B
           have H:=B
           refine dN (ag pR) Z (Tr.x (fun _ _ a c=>ah tF (a.ev Z) (dB c (vs:=[iv p1.Kind,sv p1.Name,iv p1.At.X,iv p1.At.Y,sL d p1.Points f,iv p1.NX,iv p1.NY,sL g p1.Steps h]) (k:=2) Z 4) Z) ?_)
           obtain⟨Q,a0,H⟩:=bnd H
           refine bR (r:=(bV Q)) (wg Z Z Z) Z Tryz.call125 (aj Z aJ) (fun W hW=>D5 p1.Points d f (G.ext hW.dz) Q a0 (HF.start _)) (dN jc Z (aC bG Z Z ?_))
           obtain rfl:=oI H
           exact ae (bA (.r Z) (.r Z))
         ·show Tr _ _ (LF [(2,iv p2),(4,pV i),(7,pV j),(97,bV P)]) (LE [(1,bx l #[iv p0.Unit,sL o p0.Tools q,sL t p0.Steps u] 30),(2,bx i #[iv p1.Kind,sv p1.Name,iv p1.At.X,iv p1.At.Y,sL d p1.Points f,iv p1.NX,iv p1.NY,sL g p1.Steps h] 59),(3,bx j #[bV b.name,bV b.at_,bV b.points,bV b.repeat_] 98)]) _
          refine Tr.k Z (ae (aa (aP Z H (fun H=>?_) (fun H=>?_))))
          ·refine av ?_
           cases H
          ·refine aO (aL (aa (av (ai (aQ (ag OZ) Z (aG Z (fun _ _ a c=>ah z8 (a.ev Z) (dB c (vs:=[bV b.name,bV b.at_,bV b.points,bV b.repeat_]) (k:=3) Z 3) Z) (aQ jc Z (ae (aa (aP Z H (fun H=>?_) (fun H=>?_)))))))))))
           ·refine ai (Tr.k Z (ae (aa (bu (bn ?_)))))
            obtain rfl:=oI H
            exact fV leB
           ·refine aO (aa (av (Tr.block (av ?_))))
            cases H

theorem za(N:Nat)(rec:ed→(List aB)→Int→Option Int)(hrec:∀{w:Bs} (p0:ed) (d:Option Addr) (f:Nat) (D:Sl w.R w.W aR d f p0.Tools) (g:Option Addr) (i:Nat) (E:Sl w.R w.W az g i p0.Steps) (p1:(List aB)) (v:Option Addr) (y:Nat) (C:Sl w.R w.W az v y p1) (p2:Int) (r:Int) (H:rec p0 p1 p2=some r) (hE:HF w w.W E0),Calls Tryz.prog 49 [.agg #[iv p0.Unit,sL d p0.Tools f,sL g p0.Steps i],sL v p1 y,iv p2].toArray w.W fun e W'=>e= .returned (iv r)∧HF w W' E0){w:Bs}(p0:ed)(d:Option Addr)(f:Nat)(D:Sl w.R w.W aR d f p0.Tools)(g:Option Addr)(i:Nat)(E:Sl w.R w.W az g i p0.Steps)(p1:(List aB))(v:Option Addr)(y:Nat)(C:Sl w.R w.W az v y p1)(p2:Int)(r:Int)(H:rH N rec p0 p1 p2=some r)(hE:HF w w.W E0):Calls Tryz.prog 49 [.agg #[iv p0.Unit,sL d p0.Tools f,sL g p0.Steps i],sL v p1 y,iv p2].toArray w.W fun e W'=>e= .returned (iv r)∧HF w W' E0:=by
 unfold rH at H
 have leB:=Bs.Le.refl w
 refine aZ (n:=34) Tryz.func49 Z Z Z hE (ai (fT 1 (cs:=[iv p0.Unit,sL d p0.Tools f,sL g p0.Steps i]) (wn Z) Z Z Z fun G=>(Tr.k Z (ae (aa (av (ai (aA Z (aQ (bD wV) Z (aA Z (ae (aa (Tr.block (cB (σ:=(List aB)×Nat) (fun m w s=>m=s.1.length+1∧s.1=List.drop s.2 p1∧s.2≤p1.length∧ji p0 p2 rec s.1 s.2=some r) (fun s=>[(2,iv p2),(3,pV G),(11,sL v p1 y),(12,iv (p1.length:Int)),(13,iv (s.2:Int))]) (fun s=>[(1,bx G #[iv p0.Unit,sL d p0.Tools f,sL g p0.Steps i] 30)]) (p1.length+1) (p1,0) ⟨Z,Z,Nat.zero_le _,H⟩ (.r Z) (.r Z) (fun _ _ h=>absurd h.1 (by simp)) ?_))))))))))))))
 intro w F m s hs
 obtain⟨t,J⟩:=s
 obtain⟨I,A,U,H⟩:=hs
 replace A:t=List.drop J p1:=A
 replace H:ji p0 p2 rec t J=some r:=H
 replace I:m+1=t.length+1:=I
 replace D:=D.oV F
 replace E:=E.oV F
 replace C:=C.oV F
 replace leB:=leB.trans F
 obtain rfl:m=t.length:=by omega
 clear I
 dsimp only
 cases t with
 |nil=>
  rw[ji.eq_1] at H
  refine ai (aC bv Z Z (ae (aa (av (eX Z (dY A) (cz (aD (aD (aU (aa (ai (Tr.k Z (ae (aa (bu ?_)))))))))))))))
  obtain rfl:=oI H
  exact fV leB
 | cons b t=>
  rw[ji.eq_2] at H
  refine ai (aC bv Z Z (ae (aa (av (eO Z (fI A) (aO (aa (av (Tr.block (ai ?_))))))))))
  obtain⟨T,L,K,M⟩:=(C).el (gq A)
  obtain⟨⟨o,q⟩,⟨j,l⟩⟩:=T
  obtain⟨B,u⟩:=lu.1 K
  replace B:Sl w.R w.W bi o q b.Points:=B
  replace u:Sl w.R w.W az j l b.Steps:=u
  refine aG Z (fun _ _ a c=>au Gx (a.ev Z) C.form (a.ev Z) (Int.natCast_nonneg _) (bE A)) (aG Z (fun _ _ a c=>aN (cs:=[iv b.Kind,sv b.Name,iv b.At.X,iv b.At.Y,sL o b.Points q,iv b.NX,iv b.NY,sL j b.Steps l]) Bj rA (a.ev Z) (aI.take (wo L M c) 8) Z) (Tr.alloc 3 (wn Z) Z Hy fun V=>(bC 3 (cs:=[iv b.Kind,sv b.Name,iv b.At.X,iv b.At.Y,sL o b.Points q,iv b.NX,iv b.NY,sL j b.Steps l]) [iv b.Kind,sv b.Name,iv b.At.X,iv b.At.Y,sL o b.Points q,iv b.NX,iv b.NY,sL j b.Steps l] (wn Z) Z Z Z Z rA Z Z Z (ae (aa (av (ai (aG Z (fun _ _ a c=>aN (cs:=[iv p0.Unit,sL d p0.Tools f,sL g p0.Steps i]) pq lK (a.ev Z) (aI.take (dB c (vs:=[iv p0.Unit,sL d p0.Tools f,sL g p0.Steps i]) (k:=1) Z 0) 3) Z) (aG Z (fun _ _ a c=>aN (cs:=[iv b.Kind,sv b.Name,iv b.At.X,iv b.At.Y,sL o b.Points q,iv b.NX,iv b.NY,sL j b.Steps l]) Bj rA (a.ev Z) (aI.take (dB c (vs:=[iv b.Kind,sv b.Name,iv b.At.X,iv b.At.Y,sL o b.Points q,iv b.NX,iv b.NY,sL j b.Steps l]) (k:=3) Z 0) 8) Z) (aA Z ?_))))))))))
  obtain⟨O,Q,H⟩:=bnd H
  refine bR (r:=(iv O)) (wn Z) Z Tryz.call92 (aj Z (aj Z (aj Z aJ))) (fun W hW=>Bc p0 d f (D.ext hW.dz) g i (E.ext hW.dz) b o q (B.ext hW.dz) j l (u.ext hW.dz) p2 O Q (HF.start _)) (Tr.k Z (ae (aa (ai (aA Z (aC iP Z Z (ae (aa (aP Z H (fun H=>?_) (fun H=>?_))))))))))
  ·refine av ?_
   cases H
  ·refine aO (aa (ai (aG Z (fun _ _ a c=>aN (cs:=[iv p0.Unit,sL d p0.Tools f,sL g p0.Steps i]) pq lK (a.ev Z) (aI.take (dB c (vs:=[iv p0.Unit,sL d p0.Tools f,sL g p0.Steps i]) (k:=1) Z 0) 3) Z) (aQ (ag JN) Z (aG Z (fun _ _ a c=>ah xw (a.ev Z) (dB c (vs:=[iv b.Kind,sv b.Name,iv b.At.X,iv b.At.Y,sL o b.Points q,iv b.NX,iv b.NY,sL j b.Steps l]) (k:=3) Z 7) Z) (aA Z (aC bz Z Z ?_)))))))
   obtain⟨P,S,H⟩:=bnd H
   refine bR (r:=(iv P)) (wn Z) Z Tryz.call49 (aj Z (aj Z (aj Z aJ))) (fun W hW=>hrec p0 d f (D.ext hW.dz) g i (E.ext hW.dz) b.Steps j l (u.ext hW.dz) (bF (p2+1)) P S (HF.start _)) (Tr.k Z (ae (aa (ai (aA Z (aC iP Z Z (ae (aa (aP Z H (fun H=>?_) (fun H=>?_))))))))))
   ·refine av ?_
    cases H
   ·exact aO (aL (aa (aM (aC bz Z Z (aA Z (ae (aF F (t,(J+1)) ⟨Z,dW A,bE A,H⟩ (.cons Z (.cons Z (.cons Z (.cons Z (.cons (congrArg (fun z=>some (Value.int .i64 z)) (dV A C.form)) .nil))))) (.r Z))))))))
theorem uV:∀(N:Nat) {w:Bs} (p0:ed) (a:Option Addr) (b:Nat) (h:Sl w.R w.W aR a b p0.Tools) (c:Option Addr) (d:Nat) (i:Sl w.R w.W az c d p0.Steps) (p1:(List aB)) (f:Option Addr) (g:Nat) (j:Sl w.R w.W az f g p1) (p2:Int) (r:Int) (H:lG N p0 p1 p2=some r) (hE:HF w w.W E0),Calls Tryz.prog 49 [.agg #[iv p0.Unit,sL a p0.Tools b,sL c p0.Steps d],sL f p1 g,iv p2].toArray w.W fun e W'=>e= .returned (iv r)∧HF w W' E0
 |0=>by intros;rename_i H _;cases H
 |N+1=>za N (lG N) (uV N)

theorem nJ(N:Nat){w:Bs}(p0:ed)(b:Option Addr)(d:Nat)(l:Sl w.R w.W aR b d p0.Tools)(f:Option Addr)(g:Nat)(j:Sl w.R w.W az f g p0.Steps)(r:Int)(H:ib N p0=some r)(hE:HF w w.W E0):Calls Tryz.prog 18 [.agg #[iv p0.Unit,sL b p0.Tools d,sL f p0.Steps g]].toArray w.W fun e W'=>e= .returned (iv r)∧HF w W' E0:=by
 unfold ib at H
 have leB:=Bs.Le.refl w
 refine aZ (n:=52) Tryz.func18 Z Z Z hE (ai (fT 1 (cs:=[iv p0.Unit,sL b p0.Tools d,sL f p0.Steps g]) (wn Z) Z Z Z fun o=>(Tr.k Z (ae (aa (av (ai (aQ (ag sD) Z (aG Z (fun _ _ a c=>ah bT (a.ev Z) (dB c (vs:=[iv p0.Unit,sL b p0.Tools d,sL f p0.Steps g]) (k:=1) Z 0) Z) ?_)))))))))
 obtain⟨v,B,H⟩:=bnd H
 refine bR (r:=(bV v)) (wn Z) Z Tryz.call46 (aj Z (aj Z (aj Z aJ))) (fun W hW=>uw p0.Unit 1 1000 v B (HF.start _)) (aQ jc Z (ae (aa (aP Z H (fun H=>?_) (fun H=>?_)))))
 ·refine av ?_
  cases H
 ·refine aO (aa (av (ai (aQ (ag yQ) Z (aG Z (fun _ _ a c=>ah I1 (a.ev Z) (dB c (vs:=[iv p0.Unit,sL b p0.Tools d,sL f p0.Steps g]) (k:=1) Z 1) Z) (aQ (bD Ff) Z (aC jd Z Z (ae (aa (aP Z H (fun H=>?_) (fun H=>?_)))))))))))
  ·refine av ?_
   cases H
  ·refine aO (aa (av (ai (aQ (ag yQ) Z (aG Z (fun _ _ a c=>ah I1 (a.ev Z) (dB c (vs:=[iv p0.Unit,sL b p0.Tools d,sL f p0.Steps g]) (k:=1) Z 1) Z) (aQ (bD Ff) Z (aA Z (ae (aa (Tr.block (cB (σ:=(List gU)×Nat) (fun m w s=>m=s.1.length+1∧s.1=List.drop s.2 p0.Tools∧s.2≤p0.Tools.length∧kr N p0 s.1 s.2=some r) (fun s=>[(1,pV o),(15,sL b p0.Tools d),(16,iv (p0.Tools.length:Int)),(17,iv (s.2:Int))]) (fun s=>[(1,bx o #[iv p0.Unit,sL b p0.Tools d,sL f p0.Steps g] 30)]) (p0.Tools.length+1) (p0.Tools,0) ⟨Z,Z,Nat.zero_le _,H⟩ (.r Z) (.r Z) (fun _ _ h=>absurd h.1 (by simp)) ?_)))))))))))
   intro w t m s hs
   obtain⟨i,y⟩:=s
   obtain⟨u,q,E,H⟩:=hs
   replace q:i=List.drop y p0.Tools:=q
   replace H:kr N p0 i y=some r:=H
   replace u:m+1=i.length+1:=u
   replace l:=l.oV t
   replace j:=j.oV t
   replace leB:=leB.trans t
   obtain rfl:m=i.length:=by omega
   clear u
   dsimp only
   cases i with
   | nil=>
    rw[kr.eq_1] at H
    refine ai (aC bv Z Z (ae (aa (av (eX Z (dY q) (cz (aD (aD (aU (aa (av (ai (aQ (ag qI) Z (aG Z (fun _ _ a c=>ah xw (a.ev Z) (dB c (vs:=[iv p0.Unit,sL b p0.Tools d,sL f p0.Steps g]) (k:=1) Z 2) Z) ?_))))))))))))))
    obtain⟨z,C,H⟩:=bnd H
    refine bR (r:=(iv z)) (wn Z) Z Tryz.call48 (aj Z aJ) (fun W hW=>zi N p0.Steps f g (j.ext hW.dz) z C (HF.start _)) (aC jd Z Z (ae (aa (aP Z H (fun H=>?_) (fun H=>?_)))))
    ·refine av ?_
     cases H
    ·refine aO (aa (ai (aG Z (fun _ _ a c=>aN (cs:=[iv p0.Unit,sL b p0.Tools d,sL f p0.Steps g]) pq lK (a.ev Z) (aI.take (dB c (vs:=[iv p0.Unit,sL b p0.Tools d,sL f p0.Steps g]) (k:=1) Z 0) 3) Z) (aQ (ag qI) Z (aG Z (fun _ _ a c=>ah xw (a.ev Z) (dB c (vs:=[iv p0.Unit,sL b p0.Tools d,sL f p0.Steps g]) (k:=1) Z 2) Z) ?_)))))
     obtain⟨A,D,H⟩:=bnd H
     refine bR (r:=(iv A)) (wn Z) Z Tryz.call49 (aj Z (aj Z (aj Z aJ))) (fun W hW=>uV N p0 b d (l.ext hW.dz) f g (j.ext hW.dz) p0.Steps f g (j.ext hW.dz) 0 A D (HF.start _)) (Tr.k Z (ae (aa (bu ?_))))
     obtain rfl:=oI H
     exact fV leB
   |cons F i=>
    rw[kr.eq_2] at H
    refine ai (aC bv Z Z (ae (aa (av (eO Z (fI q) (aO (aa (av (Tr.block (av ?_))))))))))
    cases H

theorem tN{w:Bs}(hT:Kg Tryz.prog w)(p0:Int)(r:ByteArray)(H:Ej p0=some r)(hE:HF w w.W E0):Calls Tryz.prog 20 [iv p0].toArray w.W fun e W'=>e= .returned (sv r)∧HF w W' E0:=
 M6 (ρ:=Tryz.Gd) Tryz.WI hT H hE

end Go.Proofs.YtblmajfbibbiaaaGreatDoor
namespace Go.Proofs
open Go.Shelf
def Tryz.DR:Go.Shelf.Ren:=⟨fun|166=>19|240=>50|276=>93|n=>n,fun|5=>5|37=>64|70=>63|72=>66|75=>68|80=>77|164=>162|n=>n,fun n=>n⟩
theorem Tryz.Ym:Go.Proofs.Lays.n166 Tryz.prog Tryz.DR:={
 mixed:=by kernel_rfl
 f166:=Tryz.func19.trans (congrArg some (by kernel_rfl))
 f240:=Tryz.func50.trans (congrArg some (by kernel_rfl))
 f276:=Tryz.func93.trans (congrArg some (by kernel_rfl))
 t0:=Tryz.underlying0
 a0:=Tryz.isAgg0
 z0:=Tryz.sizeOf0
 v0:=Tryz.zeroValue0
 t3:=Tryz.underlying3
 a3:=Tryz.isAgg3
 z3:=Tryz.sizeOf3
 v3:=Tryz.zeroValue3
 t4:=Tryz.underlying4
 a4:=Tryz.isAgg4
 z4:=Tryz.sizeOf4
 v4:=Tryz.zeroValue4
 t9:=Tryz.underlying9
 a9:=Tryz.isAgg9
 z9:=Tryz.sizeOf9
 v9:=Tryz.zeroValue9
 t20:=Tryz.underlying20
 a20:=Tryz.isAgg20
 z20:=Tryz.sizeOf20
 v20:=Tryz.zeroValue20
 t37:=Tryz.underlying64
 a37:=Tryz.isAgg64
 z37:=Tryz.sizeOf64
 v37:=Tryz.zeroValue64
 t70:=Tryz.underlying63
 a70:=Tryz.isAgg63
 z70:=Tryz.sizeOf63
 v70:=Tryz.zeroValue63
 t72:=Tryz.underlying66
 a72:=Tryz.isAgg66
 z72:=Tryz.sizeOf66
 v72:=Tryz.zeroValue66
 t75:=Tryz.underlying68
 a75:=Tryz.isAgg68
 z75:=Tryz.sizeOf68
 v75:=Tryz.zeroValue68
 t164:=Tryz.underlying162
 a164:=Tryz.isAgg162
 z164:=Tryz.sizeOf162
 v164:=Tryz.zeroValue162
}
end Go.Proofs
namespace Go.Proofs.YtblmajfbibbiaaaGreatDoor
open Go.RowKit
theorem Zb:Builder.Extra Tryz.prog Tryz.DR where
 sizeBuilder:=by kernel_rfl
 liesBuilder:=by kernel_rfl
 t5:=Tryz.underlying5
 a5:=Tryz.isAgg5
 z5:=Tryz.sizeOf5
 v5:=Tryz.zeroValue5
 infoByte:=by kernel_rfl
 cellsByte:=by kernel_rfl
 sizeByte:=by kernel_rfl
 neB5:=by decide
theorem jG{w:Bs}(p0:ByteArray)(b:Option Addr)(c:Nat)(a:Nat)(p1:ByteArray)(r:ByteArray)(H:Re p0 p1=some r)(hE:HF w w.W (ig [sb 66 5 a b c p0])):Calls Tryz.prog 19 [pV a,.string p1].toArray w.W fun e W'=>∃u:(Option Addr×Nat),e= .returned (.tuple #[.int .i64 p1.size,.nilIface])∧(True)∧HF w W' (ig [sb 66 5 a u.1 u.2 r]):=
 Q9 (ρ:=Tryz.DR) Tryz.Ym Zb H hE

theorem D7{w:Bs}(hT:Kg Tryz.prog w)(p0:(List ak))(i:Option Addr)(j:Nat)(g:Sl w.R w.W bi i j p0)(r:ByteArray)(H:rZ p0=some r)(hE:HF w w.W E0):Calls Tryz.prog 21 [sL i p0 j].toArray w.W fun e W'=>e= .returned (sv r)∧HF w W' E0:=by
 unfold rZ at H
 have leB:=Bs.Le.refl w
 refine aZ (n:=25) Tryz.func21 Z Z Z hE (ai (Tr.k Z (ae (aa (ai (Tr.k Z (ae (aa (av (ai (aA Z (aQ (bD qM) Z (aA Z (ae (aa (Tr.block (cB (σ:=(List ak)×Nat×ByteArray) (fun m w s=>m=s.1.length+1∧s.1=List.drop s.2.1 p0∧s.2.1≤p0.length∧jT s.1 s.2.1 s.2.2=some r) (fun s=>[(3,sv s.2.2),(6,sL i p0 j),(7,iv (p0.length:Int)),(8,iv (s.2.1:Int))]) (fun s=>[]) (p0.length+1) (p0,0,⟨#[]⟩) ⟨Z,Z,Nat.zero_le _,H⟩ (.r Z) .nil (fun _ _ h=>absurd h.1 (by simp)) ?_)))))))))))))))))
 intro w l m s hs
 obtain⟨b,q,t⟩:=s
 obtain⟨o,d,G,H⟩:=hs
 replace d:b=List.drop q p0:=d
 replace H:jT b q t=some r:=H
 replace o:m+1=b.length+1:=o
 replace hT:=hT.ext l.ext
 replace g:=g.oV l
 replace leB:=leB.trans l
 obtain rfl:m=b.length:=by omega
 clear o
 dsimp only
 cases b with
 |nil=>
  rw[jT.eq_1] at H
  refine ai (aC bv Z Z (ae (aa (av (eX Z (dY d) (cz (aD (aD (aU (aa (ai (aA Z (Tr.k Z (ae (aa (bu ?_))))))))))))))))
  obtain rfl:=oI H
  exact fV leB
 |cons f b=>
  rw[jT.eq_2] at H
  refine ai (aC bv Z Z (ae (aa (av (eO Z (fI d) (aO (aa (av (Tr.block (ai (aG Z (fun _ _ a c=>au ql (a.ev Z) g.form (a.ev Z) (Int.natCast_nonneg _) (bE d)) (aG Z (fun _ _ a c=>aN (cs:=[iv f.X,iv f.Y]) kP gQ (a.ev Z) (aI.take (vB jI g (gq d) c) 2) Z) (Tr.alloc 3 (wn Z) Z tZ fun I=>(bC 3 (cs:=[iv f.X,iv f.Y]) [iv f.X,iv f.Y] (wn Z) Z Z Z Z gQ Z Z Z (ae (aa (jF (by kernel_rfl) (by kernel_rfl) (dG Z (dZ (ag je) Z (bg Z (fun _ _ a c=>ah bT (a.ev Z) (dB c (vs:=[iv f.X,iv f.Y]) (k:=3) Z 0) Z) ?_))))))))))))))))))))
  obtain⟨u,y,H⟩:=bnd H
  refine nT (r:=(sv u)) (wn Z) Z Tryz.call20 (aj Z aJ) (fun W hW=>tN (hT.ext hW.dz) f.X u y (HF.start _)) ?_
  obtain⟨J,A,H⟩:=bnd H
  refine bg Z (fun _ _ a c=>uJ (a.ev Z) (a.ev Z) A) ?_
  obtain⟨K,B,H⟩:=bnd H
  refine bg Z (fun _ _ a c=>uJ (a.ev Z) (a.ev Z) B) (dZ (ag iQ) Z (bg Z (fun _ _ a c=>ah bT (a.ev Z) (dB c (vs:=[iv f.X,iv f.Y]) (k:=3) Z 1) Z) ?_))
  obtain⟨v,C,H⟩:=bnd H
  refine nT (r:=(sv v)) (wn Z) Z Tryz.call20 (aj Z aJ) (fun W hW=>tN (hT.ext hW.dz) f.Y v C (HF.start _)) ?_
  obtain⟨L,D,H⟩:=bnd H
  refine bg Z (fun _ _ a c=>uJ (a.ev Z) (a.ev Z) D) ?_
  obtain⟨F,E,H⟩:=bnd H
  exact bg Z (fun _ _ a c=>uJ (a.ev Z) (a.ev Z) E) (sM Z Z (iC (aL (aa (aM (aC bz Z Z (aA Z (ae (aF l (b,(q+1),F) ⟨Z,dW d,bE d,H⟩ (.cons Z (.cons Z (.cons Z (.cons (congrArg (fun z=>some (Value.int .i64 z)) (dV d g.form)) .nil)))) .nil)))))))))

theorem y7(N:Nat)(rec:ByteArray→(List aB)→Option ByteArray)(hrec:∀{w:Bs} (hT:Kg Tryz.prog w) (p0:ByteArray) (E:Option Addr) (F:Nat) (d:Nat) (p1:(List aB)) (y:Option Addr) (A:Nat) (l:Sl w.R w.W az y A p1) (r:ByteArray) (H:rec p0 p1=some r) (hE:HF w w.W (ig [sb 66 5 d E F p0])),Calls Tryz.prog 22 [pV d,sL y p1 A].toArray w.W fun e W'=>∃u:(Option Addr×Nat),e= .returned (.tuple #[])∧(True)∧HF w W' (ig [sb 66 5 d u.1 u.2 r])){w:Bs}(hT:Kg Tryz.prog w)(p0:ByteArray)(E:Option Addr)(F:Nat)(d:Nat)(p1:(List aB))(y:Option Addr)(A:Nat)(l:Sl w.R w.W az y A p1)(r:ByteArray)(H:rG N rec p0 p1=some r)(hE:HF w w.W (ig [sb 66 5 d E F p0])):Calls Tryz.prog 22 [pV d,sL y p1 A].toArray w.W fun e W'=>∃u:(Option Addr×Nat),e= .returned (.tuple #[])∧(True)∧HF w W' (ig [sb 66 5 d u.1 u.2 r]):=by
 unfold rG at H
 have leB:=Bs.Le.refl w
 refine aZ (n:=91) Tryz.func22 Z Z Z hE (ai (aA Z (aQ (bD wV) Z (aA Z (ae (aa (Tr.block (cB (σ:=(List aB)×Nat×ByteArray×(Option Addr)×Nat) (fun m w s=>m=s.1.length+1∧s.1=List.drop s.2.1 p1∧s.2.1≤p1.length∧fO s.1 s.2.1 s.2.2.1=some r) (fun s=>[(0,pV d),(6,sL y p1 A),(7,iv (p1.length:Int)),(8,iv (s.2.1:Int))]) (fun s=>[(0,sb 66 5 d s.2.2.2.1 s.2.2.2.2 s.2.2.1)]) (p1.length+1) (p1,0,p0,E,F) ⟨Z,Z,Nat.zero_le _,H⟩ (.r Z) (.r Z) (fun _ _ h=>absurd h.1 (by simp)) ?_))))))))
 intro w D m s hs
 obtain⟨g,G,B,o,q⟩:=s
 obtain⟨T,f,b7,H⟩:=hs
 replace f:g=List.drop G p1:=f
 replace H:fO g G B=some r:=H
 replace T:m+1=g.length+1:=T
 replace hT:=hT.ext D.ext
 replace l:=l.oV D
 replace leB:=leB.trans D
 obtain rfl:m=g.length:=by omega
 clear T
 dsimp only
 cases g with
 |nil=>
  rw[fO.eq_1] at H
  refine ai (aC bv Z Z (ae (aa (av (eX Z (dY f) (cz (aD (aD (aU (og ?_))))))))))
  obtain rfl:=oI H
  exact Tr.out (m:=[]) [] bL (fun W hW=>⟨(o,q),Z,trivial,HF.wy leB (hW.pick (ks:=[0]) (by decide) (aH Z aY)) ⟨Wl,trivial⟩⟩)
 | cons b g=>
  rw[fO.eq_2] at H
  refine ai (aC bv Z Z (ae (aa (av (eO Z (fI f) (aO (aa (av (Tr.block (ai ?_))))))))))
  obtain⟨b3,a3,a',a4⟩:=(l).el (gq f)
  obtain⟨⟨i,j⟩,⟨t,v⟩⟩:=b3
  obtain⟨C,b2⟩:=lu.1 a'
  replace C:Sl w.R w.W bi i j b.Points:=C
  refine aG Z (fun _ _ a c=>au Gx (a.ev Z) l.form (a.ev Z) (Int.natCast_nonneg _) (bE f)) (aG Z (fun _ _ a c=>aN (cs:=[iv b.Kind,sv b.Name,iv b.At.X,iv b.At.Y,sL i b.Points j,iv b.NX,iv b.NY,sL t b.Steps v]) Bj rA (a.ev Z) (aI.take (wo a3 a4 c) 8) Z) (Tr.alloc 3 (wn Z) Z Hy fun b8=>(bC 3 (cs:=[iv b.Kind,sv b.Name,iv b.At.X,iv b.At.Y,sL i b.Points j,iv b.NX,iv b.NY,sL t b.Steps v]) [iv b.Kind,sv b.Name,iv b.At.X,iv b.At.Y,sL i b.Points j,iv b.NX,iv b.NY,sL t b.Steps v] (wn Z) Z Z Z Z rA Z Z Z (ae (aa (ai (aQ (ag vH) Z (aG Z (fun _ _ a c=>ah bT (a.ev Z) (dB c (vs:=[iv b.Kind,sv b.Name,iv b.At.X,iv b.At.Y,sL i b.Points j,iv b.NX,iv b.NY,sL t b.Steps v]) (k:=3) Z 0) Z) (ae (aa (Tr.block (ai (aC eU Z Z (Tr.k Z (ae (aa (aP Z H (fun H=>?_) (fun H=>?_))))))))))))))))))
  ·refine aM (aA Z ?_)
   obtain⟨P,a6,H⟩:=bnd H
   refine gD [0] [sb 66 5 d o q B] (U:=(Option Addr×Nat)) (fun u=>(.tuple #[iv (((⟨#[100,97,114,107,10]⟩):ByteArray).size:Int),.nilIface])) (fun u=>True) (fun u=>[sb 66 5 d u.1 u.2 P]) Z (aH Z aY) (fun _=>Z) (wn Z) Z Tryz.call19 (aj Z (aj Z aJ)) (fun W hW hp hE=>jG B o q d (⟨#[100,97,114,107,10]⟩) P a6 hE) ?_
   intro u hu
   obtain⟨I,J⟩:=u
   have a0:=hu
   have b4:True:=a0 --@phi
   dsimp only
   exact ae (aL (aL (aa (aM (aC bz Z Z (aA Z (ae (aF D (g,(G+1),P,I,J) ⟨Z,dW f,bE f,H⟩ (.cons Z (.cons Z (.cons Z (.cons (congrArg (fun z=>some (Value.int .i64 z)) (dV f l.form)) .nil)))) (.r Z)))))))))
  ·refine ai (aC eU Z Z (Tr.k Z (ae (aa (aP Z H (fun H=>?_) (fun H=>?_))))))
   ·refine aM (aA Z ?_)
    obtain⟨Q,a7,H⟩:=bnd H
    refine gD [0] [sb 66 5 d o q B] (U:=(Option Addr×Nat)) (fun u=>(.tuple #[iv (((⟨#[99,108,101,97,114,10]⟩):ByteArray).size:Int),.nilIface])) (fun u=>True) (fun u=>[sb 66 5 d u.1 u.2 Q]) Z (aH Z aY) (fun _=>Z) (wn Z) Z Tryz.call19 (aj Z (aj Z aJ)) (fun W hW hp hE=>jG B o q d (⟨#[99,108,101,97,114,10]⟩) Q a7 hE) ?_
    intro u hu
    obtain⟨K,L⟩:=u
    have a1:=hu
    have b5:True:=a1 --@phi
    dsimp only
    exact ae (aL (aL (aa (aM (aC bz Z Z (aA Z (ae (aF D (g,(G+1),Q,K,L) ⟨Z,dW f,bE f,H⟩ (.cons Z (.cons Z (.cons Z (.cons (congrArg (fun z=>some (Value.int .i64 z)) (dV f l.form)) .nil)))) (.r Z)))))))))
   ·refine ai (aC eU Z Z (Tr.k Z (ae (aa (aP Z H (fun H=>?_) (fun H=>?_))))))
    ·cases H
    ·refine ai (aC eU Z Z (Tr.k Z (ae (aa (aP Z H (fun H=>?_) (fun H=>?_))))))
     ·cases H
     ·refine ai (aC eU Z Z (Tr.k Z (ae (aa (aP Z H (fun H=>?_) (fun H=>?_))))))
      ·cases H
      ·refine ai (aC eU Z Z (Tr.k Z (ae (aa (aP Z H (fun H=>?_) (fun H=>?_))))))
       ·cases H
       ·refine ai (aC eU Z Z (Tr.k Z (ae (aa (aP Z H (fun H=>?_) (fun H=>?_))))))
        ·refine aM (aA Z (aQ (ag pR) Z (aG Z (fun _ _ a c=>ah tF (a.ev Z) (dB c (vs:=[iv b.Kind,sv b.Name,iv b.At.X,iv b.At.Y,sL i b.Points j,iv b.NX,iv b.NY,sL t b.Steps v]) (k:=3) Z 4) Z) ?_)))
         obtain⟨a5,a8,H⟩:=bnd H
         refine bR (r:=(sv a5)) (wn Z) Z Tryz.call21 (aj Z aJ) (fun W hW=>D7 (hT.ext hW.dz) b.Points i j (C.ext hW.dz) a5 a8 (HF.start _)) ?_
         obtain⟨b9,a9,H⟩:=bnd H
         refine aG Z (fun _ _ a c=>uJ (a.ev Z) (a.ev Z) a9) ?_
         obtain⟨V,b0,H⟩:=bnd H
         refine aG Z (fun _ _ a c=>uJ (a.ev Z) (a.ev Z) b0) ?_
         obtain⟨S,b1,H⟩:=bnd H
         refine gD [0] [sb 66 5 d o q B] (U:=(Option Addr×Nat)) (fun u=>(.tuple #[iv ((V:ByteArray).size:Int),.nilIface])) (fun u=>True) (fun u=>[sb 66 5 d u.1 u.2 S]) Z (aH Z aY) (fun _=>Z) (wn Z) Z Tryz.call19 (aj Z (aj Z aJ)) (fun W hW hp hE=>jG B o q d V S b1 hE) ?_
         intro u hu
         obtain⟨M,O⟩:=u
         have a2:=hu
         have b6:True:=a2 --@phi
         dsimp only
         exact ae (aL (aL (aa (aM (aC bz Z Z (aA Z (ae (aF D (g,(G+1),S,M,O) ⟨Z,dW f,bE f,H⟩ (.cons Z (.cons Z (.cons Z (.cons (congrArg (fun z=>some (Value.int .i64 z)) (dV f l.form)) .nil)))) (.r Z)))))))))
        ·refine av ?_
         cases H
theorem uT:∀(N:Nat) {w:Bs} (hT:Kg Tryz.prog w) (p0:ByteArray) (d:Option Addr) (f:Nat) (c:Nat) (p1:(List aB)) (a:Option Addr) (b:Nat) (g:Sl w.R w.W az a b p1) (r:ByteArray) (H:oG N p0 p1=some r) (hE:HF w w.W (ig [sb 66 5 c d f p0])),Calls Tryz.prog 22 [pV c,sL a p1 b].toArray w.W fun e W'=>∃u:(Option Addr×Nat),e= .returned (.tuple #[])∧(True)∧HF w W' (ig [sb 66 5 c u.1 u.2 r])
 |0=>by intros;rename_i H _;cases H
 |N+1=>y7 N (oG N) (uT N)

theorem xI{w:Bs}(p0:ByteArray)(b:Option Addr)(c:Nat)(a:Nat)(r:(Int×ByteArray))(H:Yu p0=some r)(hE:HF w w.W (ig [sb 66 5 a b c p0])):Calls Tryz.prog 23 [pV a].toArray w.W fun e W'=>∃u:(Option Addr×Nat),e= .returned (iv r.1)∧(True)∧HF w W' (ig [sb 66 5 a u.1 u.2 r.2]):=
 Wj (ρ:=Tryz.IX) Tryz.Yl H hE

end Go.Proofs.YtblmajfbibbiaaaGreatDoor
namespace Go.Proofs
open Go.Shelf
def Tryz.DN:Go.Shelf.Ren:=⟨fun|169=>24|n=>n,fun|5=>5|37=>64|70=>63|72=>66|127=>113|n=>n,fun n=>n⟩
theorem Tryz.Yk:Go.Proofs.Lays.n169 Tryz.prog Tryz.DN:={
 mixed:=by kernel_rfl
 f169:=Tryz.func24.trans (congrArg some (by kernel_rfl))
 t0:=Tryz.underlying0
 a0:=Tryz.isAgg0
 z0:=Tryz.sizeOf0
 v0:=Tryz.zeroValue0
 t3:=Tryz.underlying3
 a3:=Tryz.isAgg3
 z3:=Tryz.sizeOf3
 v3:=Tryz.zeroValue3
 t9:=Tryz.underlying9
 a9:=Tryz.isAgg9
 z9:=Tryz.sizeOf9
 v9:=Tryz.zeroValue9
 t37:=Tryz.underlying64
 a37:=Tryz.isAgg64
 z37:=Tryz.sizeOf64
 v37:=Tryz.zeroValue64
 t70:=Tryz.underlying63
 a70:=Tryz.isAgg63
 z70:=Tryz.sizeOf63
 v70:=Tryz.zeroValue63
 t72:=Tryz.underlying66
 a72:=Tryz.isAgg66
 z72:=Tryz.sizeOf66
 v72:=Tryz.zeroValue66
 t127:=Tryz.underlying113
 a127:=Tryz.isAgg113
 z127:=Tryz.sizeOf113
 v127:=Tryz.zeroValue113
}
end Go.Proofs
namespace Go.Proofs.YtblmajfbibbiaaaGreatDoor
open Go.RowKit
theorem Za:Builder.Extra Tryz.prog Tryz.DN where
 sizeBuilder:=by kernel_rfl
 liesBuilder:=by kernel_rfl
 t5:=Tryz.underlying5
 a5:=Tryz.isAgg5
 z5:=Tryz.sizeOf5
 v5:=Tryz.zeroValue5
 infoByte:=by kernel_rfl
 cellsByte:=by kernel_rfl
 sizeByte:=by kernel_rfl
 neB5:=by decide
theorem vM{w:Bs}(p0:ByteArray)(b:Option Addr)(c:Nat)(a:Nat)(r:(ByteArray×ByteArray))(H:XT p0=some r)(hE:HF w w.W (ig [sb 66 5 a b c p0])):Calls Tryz.prog 24 [pV a].toArray w.W fun e W'=>∃u:(Option Addr×Nat),e= .returned (sv r.1)∧(True)∧HF w W' (ig [sb 66 5 a u.1 u.2 r.2]):=
 P8 (ρ:=Tryz.DN) Tryz.Yk Za H hE

theorem GZ(N:Nat){w:Bs}(hT:Kg Tryz.prog w)(p0:ed)(d:Option Addr)(f:Nat)(X:Sl w.R w.W aR d f p0.Tools)(g:Option Addr)(i:Nat)(C:Sl w.R w.W az g i p0.Steps)(r:(ByteArray×Int))(H:qZ N p0=some r)(hE:HF w w.W E0):Calls Tryz.prog 6 [.agg #[iv p0.Unit,sL d p0.Tools f,sL g p0.Steps i]].toArray w.W fun e W'=>e= .returned (.tuple #[sv r.1,iv r.2])∧HF w W' E0:=by
 unfold qZ at H
 have leB:=Bs.Le.refl w
 refine aZ (n:=61) Tryz.func6 Z Z Z hE (ai (fT 1 (cs:=[iv p0.Unit,sL d p0.Tools f,sL g p0.Steps i]) (wn Z) Z Z Z fun E=>(Tr.k Z (Tr.k Z (ae (aa (av (ai (aG Z (fun _ _ a c=>aN (cs:=[iv p0.Unit,sL d p0.Tools f,sL g p0.Steps i]) pq lK (a.ev Z) (aI.take (dB c (vs:=[iv p0.Unit,sL d p0.Tools f,sL g p0.Steps i]) (k:=1) Z 0) 3) Z) ?_)))))))))
 obtain⟨S,a',H⟩:=bnd H
 refine bR (r:=(iv S)) (wn Z) Z Tryz.call18 (aj Z aJ) (fun W hW=>nJ N p0 d f (X.ext hW.dz) g i (C.ext hW.dz) S a' (HF.start _)) (Tr.k Z (ae (aa (ai (aA Z (aC iP Z Z (ae (aa (aP Z H (fun H=>?_) (fun H=>?_))))))))))
 ·refine av ?_
  cases H
 ·refine aO (aa (ai (Ti (e:=5) 2 (wn Z) Z XB fun b=>(ae (aa (ai (aQ (ag sD) Z (aG Z (fun _ _ a c=>ah bT (a.ev Z) (dB c (vs:=[iv p0.Unit,sL d p0.Tools f,sL g p0.Steps i]) (k:=1) Z 0) Z) ?_))))))))
  obtain⟨T,a0,H⟩:=bnd H
  refine bR (r:=(sv T)) (wn Z) Z Tryz.call20 (aj Z aJ) (fun W hW=>tN (hT.ext hW.dz) p0.Unit T a0 (HF.start _)) ?_
  obtain⟨b1,a1,H⟩:=bnd H
  refine aG Z (fun _ _ a c=>uJ (a.ev Z) (a.ev Z) a1) ?_
  obtain⟨G,a2,H⟩:=bnd H
  refine aG Z (fun _ _ a c=>uJ (a.ev Z) (a.ev Z) a2) ?_
  obtain⟨q,a3,H⟩:=bnd H
  refine gD [2] [sb 66 5 b none 0 ByteArray.empty] (U:=(Option Addr×Nat)) (fun u=>(.tuple #[iv ((G:ByteArray).size:Int),.nilIface])) (fun u=>True) (fun u=>[sb 66 5 b u.1 u.2 q]) Z (aH Z aY) (fun _=>Z) (wn Z) Z Tryz.call19 (aj Z (aj Z aJ)) (fun W hW hp hE=>jG ByteArray.empty none 0 b G q a3 hE) ?_
  intro u hu
  obtain⟨j,l⟩:=u
  have K:=hu
  have a7:True:=K --@phi
  dsimp only
  refine ae (aa (av (ai (aQ (ag yQ) Z (aG Z (fun _ _ a c=>ah I1 (a.ev Z) (dB c (vs:=[iv p0.Unit,sL d p0.Tools f,sL g p0.Steps i]) (k:=1) Z 1) Z) (aQ (bD Ff) Z (aA Z (ae (aa (Tr.block (cB (σ:=(List gU)×Nat) (fun m w s=>m=s.1.length+1∧s.1=List.drop s.2 p0.Tools∧s.2≤p0.Tools.length∧nW N p0 q s.1 s.2=some r) (fun s=>[(1,pV E),(5,pV b),(22,sL d p0.Tools f),(23,iv (p0.Tools.length:Int)),(24,iv (s.2:Int))]) (fun s=>[(1,bx E #[iv p0.Unit,sL d p0.Tools f,sL g p0.Steps i] 30),(2,sb 66 5 b j l q)]) (p0.Tools.length+1) (p0.Tools,0) ⟨Z,Z,Nat.zero_le _,H⟩ (.r Z) (.r Z) (fun _ _ h=>absurd h.1 (by simp)) ?_)))))))))))
  intro w I m s hs
  obtain⟨o,V⟩:=s
  obtain⟨J,F,b2,H⟩:=hs
  replace F:o=List.drop V p0.Tools:=F
  replace H:nW N p0 q o V=some r:=H
  replace J:m+1=o.length+1:=J
  replace hT:=hT.ext I.ext
  replace C:=C.oV I
  replace leB:=leB.trans I
  obtain rfl:m=o.length:=by omega
  clear J
  dsimp only
  cases o with
  | nil=>
   rw[nW.eq_1] at H
   refine ai (aC bv Z Z (ae (aa (av (eX Z (dY F) (cz (aD (aD (aU (aa (ai (aQ (ag qI) Z (aG Z (fun _ _ a c=>ah xw (a.ev Z) (dB c (vs:=[iv p0.Unit,sL d p0.Tools f,sL g p0.Steps i]) (k:=1) Z 2) Z) ?_)))))))))))))
   obtain⟨D,a4,H⟩:=bnd H
   refine gD [2] [sb 66 5 b j l q] (U:=(Option Addr×Nat)) (fun u=>(.tuple #[])) (fun u=>True) (fun u=>[sb 66 5 b u.1 u.2 D]) Z (aH Z aY) (fun _=>Z) (wn Z) Z Tryz.call22 (aj Z (aj Z aJ)) (fun W hW hp hE=>uT N (hT.ext (hW.gL hp)) q j l b p0.Steps g i (C.ext (hW.gL hp)) D a4 hE) ?_
   intro u hu
   obtain⟨v,y⟩:=u
   have L:=hu
   have a8:True:=L --@phi
   dsimp only
   refine ae (aa (av (ai ?_)))
   obtain⟨t,a5,H⟩:=bnd H
   refine gD [2] [sb 66 5 b v y D] (U:=(Option Addr×Nat)) (fun u=>(iv t.1)) (fun u=>True) (fun u=>[sb 66 5 b u.1 u.2 t.2]) Z (aH Z aY) (fun _=>Z) (wn Z) Z Tryz.call23 (aj Z aJ) (fun W hW hp hE=>xI D v y b t a5 hE) ?_
   intro u hu
   obtain⟨z,A⟩:=u
   have M:=hu
   have a9:True:=M --@phi
   dsimp only
   refine aC jd Z Z (ae (aa (aP Z H (fun H=>?_) (fun H=>?_))))
   ·refine ai (Tr.k Z (Tr.k Z (ae (aa (bu (bn ?_))))))
    obtain rfl:=oI H
    exact Tr.out (m:=[sv ⟨#[]⟩,iv 2]) [] (bM Z (bM Z bL)) (fun W hW=>⟨Z,hW.low leB⟩)
   ·refine aO (aa (ai ?_))
    obtain⟨B,a6,H⟩:=bnd H
    refine gD [2] [sb 66 5 b z A t.2] (U:=(Option Addr×Nat)) (fun u=>(sv B.1)) (fun u=>True) (fun u=>[sb 66 5 b u.1 u.2 B.2]) Z (aH Z aY) (fun _=>Z) (wn Z) Z Tryz.call24 (aj Z aJ) (fun W hW hp hE=>vM t.2 z A b B a6 hE) ?_
    intro u hu
    obtain⟨O,P⟩:=u
    have Q:=hu
    have b0:True:=Q --@phi
    dsimp only
    refine Tr.k Z (Tr.k Z (ae (aa (bu ?_))))
    obtain rfl:=oI H
    exact Tr.out (m:=[sv B.1,iv 0]) [] (bM Z (bM Z bL)) (fun W hW=>⟨Z,hW.low leB⟩)
  |cons b3 o=>
   rw[nW.eq_2] at H
   refine ai (aC bv Z Z (ae (aa (av (eO Z (fI F) (aO (aa (av (Tr.block (av ?_))))))))))
   cases H

theorem DZ{w:Bs}(hT:Kg Tryz.prog w)(p0:ByteArray)(p1:ByteArray)(r:(ByteArray×ByteArray×Bool))(H:Qo p0 p1=some r)(hE:HF w w.W E0):Calls Tryz.prog 25 [sv p0,sv p1].toArray w.W fun e W'=>e= .returned (.tuple #[sv r.1,sv r.2.1,bV r.2.2])∧HF w W' E0:=
 Qn (ρ:=Tryz.IQ) {Tryz.Pj with} hT Tryz.Pj.g1 H hE

theorem BM{w:Bs}(hT:Kg Tryz.prog w)(p0:ByteArray)(p1:ByteArray)(r:(List ByteArray))(H:yD p0 p1=some r)(hE:HF w w.W (ig [emp])):Calls Tryz.prog 53 [sv p0,sv p1].toArray w.W fun e W'=>∃u:(Option Addr×Nat),e= .returned (sL u.1 r u.2)∧(bZ u.1 r.length u.2)∧HF w W' (ig [ow u.1 u.2 9 yR r]):=
 Ky (ρ:=Tryz.Ef) Tryz.Oa hT Tryz.Oa.g1 (t:=yR) Z BG () VV (by kernel_rfl) H hE

theorem wE{w:Bs}(p0:ByteArray)(p1:ByteArray)(r:Bool)(H:kQ p0 p1=some r)(hE:HF w w.W E0):Calls Tryz.prog 213 [sv p0,sv p1].toArray w.W fun e W'=>e= .returned (bV r)∧HF w W' E0:=by
 unfold kQ at H
 have leB:=Bs.Le.refl w
 refine aZ (n:=18) Tryz.func213 Z Z Z hE (ai (Tr.k Z (ae (aa (ai (aA Z (aQ (wh G7) Z (aA Z (aQ (wh G7) Z (aC wZ Z Z (aA Z ?_)))))))))))
 obtain⟨f,b,H⟩:=bnd H
 refine eD 7 [(17,bV f)] [] ?_ ?_
 ·cases d:(decide ((p1.size:Int)≤(p0.size:Int)))
  ·rw[d] at b
   rw[if_neg (by decide)] at b
   have H:=b
   obtain rfl:=oI H
   exact bq Z (bq Z (bq Z (bq Z (bq Z (bq Z (aC bH Z Z (ae (bA (.r Z) .nil))))))))
  ·rw[d] at b
   rw[if_pos Z] at b
   have H:=b
   refine dN run_move Z (dN run_move Z (dN (wh G7) Z ?_))
   obtain⟨h,g,H⟩:=bnd H
   refine Tr.x (fun _ _ a c=>Qa G7 (a.ev Z) (a.ev Z) g) (dN run_move Z (jM qg Z Z (aC bG Z Z ?_)))
   obtain rfl:=oI H
   exact ae (bA (.r Z) .nil)
 ·show Tr _ _ (LF [(17,bV f)]) (LE []) _
  refine Tr.k Z (ae (aa (bu ?_)))
  obtain rfl:=oI H
  exact fV leB

theorem vL{w:Bs}(p0:ByteArray)(p1:ByteArray)(r:ByteArray)(H:lU p0 p1=some r)(hE:HF w w.W E0):Calls Tryz.prog 184 [sv p0,sv p1].toArray w.W fun e W'=>e= .returned (sv r)∧HF w W' E0:=by
 unfold lU at H
 have leB:=Bs.Le.refl w
 refine aZ (n:=13) Tryz.func184 Z Z Z hE (ai (Tr.k Z (ae (aa (av (ai (aA Z (aA Z ?_))))))))
 obtain⟨b,d,H⟩:=bnd H
 refine bR (r:=(bV b)) (wn Z) Z Tryz.call213 (aj Z (aj Z aJ)) (fun W hW=>wE p0 p1 b d (HF.start _)) (ae (aa (aP Z H (fun H=>?_) (fun H=>?_))))
 ·refine ai (aA Z (aA Z (aQ (wh G7) Z ?_)))
  obtain⟨g,f,H⟩:=bnd H
  refine aG Z (fun _ _ a c=>P9 G7 (a.ev Z) (a.ev Z) f) (Tr.k Z (ae (aa (bu (bn ?_)))))
  obtain rfl:=oI H
  exact fV leB
 ·refine aO (aa (ai (aA Z (Tr.k Z (ae (aa (bu ?_)))))))
  obtain rfl:=oI H
  exact fV leB

theorem yg{w:Bs}(p0:ByteArray)(p1:ByteArray)(r:ByteArray)(H:lZ p0 p1=some r)(hE:HF w w.W E0):Calls Tryz.prog 138 [sv p0,sv p1].toArray w.W fun e W'=>e= .returned (sv r)∧HF w W' E0:=by
 unfold lZ at H
 have leB:=Bs.Le.refl w
 refine aZ (n:=8) Tryz.func138 Z Z Z hE (ai (Tr.k Z (ae (aa (ai (aA Z (aA Z ?_)))))))
 obtain⟨a,b,H⟩:=bnd H
 refine bR (r:=(sv a)) (wn Z) Z Tryz.call184 (aj Z (aj Z aJ)) (fun W hW=>vL p0 p1 a b (HF.start _)) (Tr.k Z (ae (aa (bu ?_))))
 obtain rfl:=oI H
 exact fV leB

theorem CP{w:Bs}(p0:ByteArray)(p1:ByteArray)(r:ByteArray)(H:trimF p0 p1=some r)(hE:HF w w.W E0):Calls Tryz.prog 139 [sv p0,sv p1].toArray w.W fun e W'=>e= .returned (sv r)∧HF w W' E0:=
 Ml (ρ:=Tryz.Ec) Tryz.TU (by kernel_rfl) H hE

theorem CQ{w:Bs}(p0:ByteArray)(r:Int)(H:IZ p0=some r)(hE:HF w w.W E0):Calls Tryz.prog 140 [sv p0].toArray w.W fun e W'=>e= .returned (.tuple #[iv r,.nilIface])∧HF w W' E0:=
 Nu (ρ:=Tryz.Et) Tryz.U2 H hE

theorem Ea{w:Bs}(p0:ByteArray)(r:(Int×Bool))(H:su p0=some r)(hE:HF w w.W E0):Calls Tryz.prog 99 [sv p0].toArray w.W fun e W'=>e= .returned (.tuple #[iv r.1,bV r.2])∧HF w W' E0:=by
 unfold su at H
 have leB:=Bs.Le.refl w
 refine aZ (n:=37) Tryz.func99 Z Z Z hE (ai (Tr.k Z (Tr.k Z (ae (aa (ai (aA Z ?_)))))))
 obtain⟨b,q,H⟩:=bnd H
 refine bR (r:=(sv b)) (wn Z) Z Tryz.call138 (aj Z (aj Z aJ)) (fun W hW=>yg p0 (⟨#[45]⟩) b q (HF.start _)) (Tr.k Z (ae (aa (av (ai (aA Z (aQ (wh G7) Z (aC bv Z Z (aA Z (eD 4 [(0,sv p0),(4,sv b),(16,bV ((decide ((b.size:Int)<1))||(decide (9<(b.size:Int)))))] [] ?_ ?_))))))))))
 ·cases d:(decide ((b.size:Int)<1))
  ·exact dN run_move Z (dN (wh G7) Z (jM jd Z Z (aC bH Z Z (ae (bA (.r Z) .nil)))))
  ·exact bq Z (bq Z (bq Z (aC bG Z Z (ae (bA (.r Z) .nil)))))
 ·show Tr _ _ (LF [(0,sv p0),(4,sv b),(16,bV ((decide ((b.size:Int)<1))||(decide (9<(b.size:Int)))))]) (LE []) _
  refine aA Z ?_
  obtain⟨h,f,H⟩:=bnd H
  refine eD 4 [(0,sv p0),(4,sv b),(21,bV h)] [] ?_ ?_
  ·cases d:((decide ((b.size:Int)<1))||(decide (9<(b.size:Int))))
   ·rw[d] at f
    rw[if_neg (by decide)] at f
    have H:=f
    refine dN run_move Z ?_
    obtain⟨l,s,H⟩:=bnd H
    refine bR (r:=(sv l)) (wg Z Z Z) Z Tryz.call139 (aj Z (aj Z aJ)) (fun W hW=>CP b (⟨#[48,49,50,51,52,53,54,55,56,57]⟩) l s (HF.start _)) (jM Cc Z Z (aC bH Z Z ?_))
    obtain rfl:=oI H
    exact ae (bA (.r Z) .nil)
   ·rw[d] at f
    rw[if_pos Z] at f
    have H:=f
    obtain rfl:=oI H
    exact bq Z (bq Z (bq Z (aC bG Z Z (ae (bA (.r Z) .nil)))))
  ·show Tr _ _ (LF [(0,sv p0),(4,sv b),(21,bV h)]) (LE []) _
   refine aA Z ?_
   obtain⟨o,g,H⟩:=bnd H
   refine eD 8 [(0,sv p0),(30,bV o)] [] ?_ ?_
   ·cases d:h
    ·rw[d] at g
     rw[if_neg (by decide)] at g
     have H:=g
     refine dN run_move Z ?_
     obtain⟨i,t,H⟩:=bnd H
     refine Tr.x (fun _ _ a c=>MF G7 (a.ev Z) (a.ev Z) t) (jM eU Z Z (dN run_move Z (eD 3 [(0,sv p0),(22,bV false),(29,bV ((i==48)&&(!sw p0 (⟨#[48]⟩))))] [] ?_ ?_)))
     ·cases v:(i==48)
      ·exact bq Z (bq Z (jM bH Z Z (ae (bA (.r Z) .nil))))
      ·exact dN run_move Z (jM Cc Z Z (jM bG Z Z (ae (bA (.r Z) .nil))))
     ·dsimp only
      refine aC bH Z Z ?_
      obtain rfl:=oI H
      exact ae (bA (.r Z) .nil)
    ·rw[d] at g
     rw[if_pos Z] at g
     have H:=g
     obtain rfl:=oI H
     exact bq Z (bq Z (bq Z (bq Z (rD Z (rD Z (bq Z (aC bG Z Z (ae (bA (.r Z) .nil)))))))))
   ·show Tr _ _ (LF [(0,sv p0),(30,bV o)]) (LE []) _
    refine ae (aa (aP Z H (fun H=>?_) (fun H=>?_)))
    ·refine av ?_
     cases H
    ·refine aO (aa (ai (aA Z ?_)))
     obtain⟨j,u,H⟩:=bnd H
     refine bR (r:=(.tuple #[iv j,.nilIface])) (wn Z) Z Tryz.call140 (aj Z aJ) (fun W hW=>CQ p0 j u (HF.start _)) (aA Z (aG Z (fun _ _ a c=>cu (a.ev Z) Z) (aG Z (fun _ _ a c=>cu (a.ev Z) Z) (Tr.k Z (Tr.k Z (ae (aa (ai (aA Z (Tr.k Z (Tr.k Z (ae (aa (bu ?_))))))))))))))
     obtain rfl:=oI H
     exact Tr.out (m:=[iv j,bV true]) [] (bM Z (bM Z bL)) (fun W hW=>⟨Z,hW.low leB⟩)

theorem xB{w:Bs}(p0:(List ByteArray))(q:Option Addr)(v:Nat)(g:Sl w.R w.W yR q v p0)(r:((List Int)×Bool))(H:nX p0=some r)(hE:HF w w.W (ig [emp])):Calls Tryz.prog 57 [sL q p0 v].toArray w.W fun e W'=>∃u:(Option Addr×Nat),e= .returned (.tuple #[sL u.1 r.1 u.2,bV r.2])∧(bZ u.1 r.1.length u.2)∧HF w W' (ig [ow u.1 u.2 3 bP r.1]):=by
 unfold nX at H
 have leB:=Bs.Le.refl w
 refine aZ (n:=28) Tryz.func57 Z Z Z hE (ai (Tr.k Z (bO 1 3 bP ?_)))
 show Tr _ _ (uf _ 2 (sL none (([]:List Int)) 0)) _ _
 refine Tr.k Z (ae (aa (ai (Tr.k Z (bO 2 3 bP ?_)))))
 show Tr _ _ (uf _ 4 (sL none (([]:List Int)) 0)) _ _
 refine ae (aa (av (ai (aA Z (aQ (bD VU) Z (aA Z (ae (aa (Tr.block (cB (σ:=(List ByteArray)×Nat×(List Int)×(Option Addr)×Nat) (fun m w s=>m=s.1.length+1∧s.1=List.drop s.2.1 p0∧s.2.1≤p0.length∧jH s.1 s.2.1 s.2.2.1=some r∧bZ s.2.2.2.1 s.2.2.1.length s.2.2.2.2) (fun s=>[(4,sL s.2.2.2.1 s.2.2.1 s.2.2.2.2),(9,sL q p0 v),(10,iv (p0.length:Int)),(11,iv (s.2.1:Int))]) (fun s=>[(2,ow s.2.2.2.1 s.2.2.2.2 3 bP s.2.2.1)]) (p0.length+1) (p0,0,([]:List Int),none,0) ⟨Z,Z,Nat.zero_le _,H,fQ⟩ (.r Z) (.r Z) (fun _ _ h=>absurd h.1 (by simp)) ?_))))))))))
 intro w A m s hs
 obtain⟨b,C,o,i,j⟩:=s
 obtain⟨B,d,L,H,y⟩:=hs
 replace d:b=List.drop C p0:=d
 replace H:jH b C o=some r:=H
 replace B:m+1=b.length+1:=B
 replace g:=g.oV A
 replace leB:=leB.trans A
 replace y:bZ i o.length j:=y
 obtain rfl:m=b.length:=by omega
 clear B
 dsimp only
 cases b with
 |nil=>
  rw[jH.eq_1] at H
  refine ai (aC bv Z Z (ae (aa (av (eX Z (dY d) (cz (aD (aD (aU (aa (ai (aA Z (Tr.k Z (Tr.k Z (ae (aa (bu ?_)))))))))))))))))
  obtain rfl:=oI H
  exact Tr.out (m:=[sL i o j,bV true]) [] (bM Z (bM Z bL)) (fun W hW=>⟨(i,j),Z,y,HF.wy leB (hW.pick (ks:=[2]) (by decide) (aH Z aY)) ⟨nQ _ _ _ _ Fh,trivial⟩⟩)
 | cons K b=>
  rw[jH.eq_2] at H
  refine ai (aC bv Z Z (ae (aa (av (eO Z (fI d) (aO (aa (av (Tr.block (ai (aG Z (fun _ _ a c=>au zW (a.ev Z) g.form (a.ev Z) (Int.natCast_nonneg _) (bE d)) (aG Z (fun _ _ a c=>ah LK (a.ev Z) (vB BG g (gq d) c) Z) (Tr.k Z (ae (aa (ai (aA Z ?_)))))))))))))))))
  obtain⟨f,E,H⟩:=bnd H
  refine bR (r:=(.tuple #[iv f.1,bV f.2])) (wn Z) Z Tryz.call99 (aj Z aJ) (fun W hW=>Ea K f E (HF.start _)) (aA Z (aG Z (fun _ _ a c=>cu (a.ev Z) Z) (aG Z (fun _ _ a c=>cu (a.ev Z) Z) (Tr.k Z (Tr.k Z (ae (aa (av (ai (aA Z (aQ jc Z (ae (aa (aP Z H (fun H=>?_) (fun H=>?_)))))))))))))))
  ·refine av ?_
   cases H
  ·refine aO (aa (aM (aA Z (aA Z (dS 5 (e:=3) (vs:=[(0,iv f.1)]) (cs:=[iv f.1]) (wn Z) Z (bB Z dH) (by kernel_rfl) fun M=>?_)))))
   obtain⟨J,F,H⟩:=bnd H
   exact Tr.append 2 (t:=bP) (l:=o) (l2:=[f.1]) (wn Z) Z Z Z Z (fun W hW=>⟨[[iv f.1]],(.cons ⟨(),trivial,Z⟩ .nil),dB hW (vs:=[iv f.1]) (k:=5) Z 0⟩) kF wP Mf (by decide) Np Z F fun G I D=>(Tr.k Z (ae (aL (aa (aM (aC bz Z Z (aA Z (ae (aF A (b,(C+1),J,G,I) ⟨Z,dW d,bE d,H,D⟩ (.cons Z (.cons Z (.cons Z (.cons (congrArg (fun z=>some (Value.int .i64 z)) (dV d g.form)) .nil)))) (.r Z))))))))))

theorem y9{w:Bs}(p0:mO)(i:Option Addr)(j:Nat)(Q:Sl w.R w.W aR i j p0.p.Tools)(l:Option Addr)(o:Nat)(S:Sl w.R w.W az l o p0.p.Steps)(g:Option Addr)(h:Nat)(q:List (PE az))(B:SK q p0.open_∧bZ g p0.open_.length h)(s:Nat)(p1:(List ByteArray))(y:Option Addr)(t:Nat)(v:Sl w.R w.W yR y t p1)(r:(Bool×Int×Bool×(List aB)))(H:oZ p0 p1=some r)(hE:HF w w.W (ig [bx s #[iv p0.p.Unit,sL i p0.p.Tools j,sL l p0.p.Steps o,bV p0.unit,sL g p0.open_ h,bV p0.step] 81,sk g h 96 59 24 aV q])):Calls Tryz.prog 54 [pV s,sL y p1 t].toArray w.W fun e W'=>∃(w':Bs) (u:(Option Addr×Nat×List (PE az))),w.Le w'∧e= .returned (bV r.1)∧((SK u.2.2 r.2.2.2∧bZ u.1 r.2.2.2.length u.2.1))∧HF w' W' (ig [bx s #[iv r.2.1,sL i p0.p.Tools j,sL l p0.p.Steps o,bV r.2.2.1,sL u.1 r.2.2.2 u.2.1,bV p0.step] 81,sk u.1 u.2.1 96 59 24 aV u.2.2]):=by
 unfold oZ at H
 have leB:=Bs.Le.refl w
 refine aZ (n:=133) Tryz.func54 Z Z Z hE (ai (Tr.k Z (ae (aa (av (ai (aA Z ?_)))))))
 obtain⟨T,L,H⟩:=bnd H
 obtain⟨E,F,G⟩:=aW L
 refine aG Z (fun _ _ a c=>au zW (a.ev Z) v.form (a.ev Z) E F) (aG Z (fun _ _ a c=>ah LK (a.ev Z) (vB BG v G c) Z) (aC qg Z Z (ae (aa (aP Z H (fun H=>?_) (fun H=>?_))))))
 ·refine ai (aA Z ?_)
  obtain⟨P,C,H⟩:=bnd H
  refine aG Z (fun _ _ a c=>uI zW (a.ev Z) v.form (a.ev Z) C) ?_
  obtain⟨b,M,H⟩:=bnd H
  refine gD [2] [emp] (U:=(Option Addr×Nat)) (fun u=>(.tuple #[sL u.1 b.1 u.2,bV b.2])) (fun u=>bZ u.1 b.1.length u.2) (fun u=>[ow u.1 u.2 3 bP b.1]) Z (aH Z aY) (fun _=>Z) (wn Z) Z Tryz.call57 (aj Z aJ) (fun W hW hp hE=>xB P (ve y (1:Int).toNat 1 t) (t-(1:Int).toNat) (Sl.cut (v.ext (hW.gL hp)) C) b M hE) ?_
  intro u hu
  obtain⟨d,f⟩:=u
  have D:=hu
  have z:bZ d b.1.length f:=D --@phi
  dsimp only
  refine aA Z (aG Z (fun _ _ a c=>cu (a.ev Z) Z) (aG Z (fun _ _ a c=>cu (a.ev Z) Z) (Tr.k Z (Tr.k Z (ae (aa (av (ai (aA Z (aQ fw Z (aQ (ag ER) Z (aG Z (fun _ _ a c=>ah z8 (a.ev Z) (dB c (vs:=[iv p0.p.Unit,sL i p0.p.Tools j,sL l p0.p.Steps o,bV p0.unit,sL g p0.open_ h,bV p0.step]) (k:=0) Z 3) Z) (aA Z (eD 3 [(0,pV s),(5,sL d b.1 f),(28,bV (p0.unit||(!b.2)))] [(0,bx s #[iv p0.p.Unit,sL i p0.p.Tools j,sL l p0.p.Steps o,bV p0.unit,sL g p0.open_ h,bV p0.step] 81),(1,sk g h 96 59 24 aV q),(2,ow d f 3 bP b.1)] ?_ ?_))))))))))))))
  ·cases N:p0.unit
   ·exact dN run_move Z (dN jc Z (aC bH Z Z (ae (bA (.r Z) (.r Z)))))
   ·exact bq Z (bq Z (aC bG Z Z (ae (bA (.r Z) (.r Z)))))
  ·show Tr _ _ (LF [(0,pV s),(5,sL d b.1 f),(28,bV (p0.unit||(!b.2)))]) (LE [(0,bx s #[iv p0.p.Unit,sL i p0.p.Tools j,sL l p0.p.Steps o,bV p0.unit,sL g p0.open_ h,bV p0.step] 81),(1,sk g h 96 59 24 aV q),(2,ow d f 3 bP b.1)]) _
   refine aA Z (eD 4 [(0,pV s),(5,sL d b.1 f),(33,bV ((p0.unit||(!b.2))||((b.1.length:Int) !=1)))] [(0,bx s #[iv p0.p.Unit,sL i p0.p.Tools j,sL l p0.p.Steps o,bV p0.unit,sL g p0.open_ h,bV p0.step] 81),(1,sk g h 96 59 24 aV q),(2,ow d f 3 bP b.1)] ?_ ?_)
   ·cases N:(p0.unit||(!b.2))
    ·exact dN run_move Z (dN (bD kF) Z (jM iP Z Z (aC bH Z Z (ae (bA (.r Z) (.r Z))))))
    ·exact bq Z (bq Z (bq Z (aC bG Z Z (ae (bA (.r Z) (.r Z))))))
   ·show Tr _ _ (LF [(0,pV s),(5,sL d b.1 f),(33,bV ((p0.unit||(!b.2))||((b.1.length:Int) !=1)))]) (LE [(0,bx s #[iv p0.p.Unit,sL i p0.p.Tools j,sL l p0.p.Steps o,bV p0.unit,sL g p0.open_ h,bV p0.step] 81),(1,sk g h 96 59 24 aV q),(2,ow d f 3 bP b.1)]) _
    refine ae (aa (aP Z H (fun H=>?_) (fun H=>?_)))
    ·refine av ?_
     cases H
    ·refine aO (aa (ai (aA Z (aA Z (aA Z ?_)))))
     obtain⟨A,O,H⟩:=bnd H
     obtain⟨I,J,K⟩:=aW O
     refine aG Z (fun _ _ a c=>au iX (a.ev Z) z (a.ev Z) I J) (aG Z (fun _ _ a c=>ah bT (a.ev Z) (yF jm (k:=2) c Z K) Z) (aQ fw Z (aQ (ag Cz) Z (aQ (ag sD) Z (bC 0 (cs:=[iv A]) [iv A,sL i p0.p.Tools j,sL l p0.p.Steps o,bV p0.unit,sL g p0.open_ h,bV p0.step] (wn Z) Z Z Z Z wP Z Z Z (aQ fw Z (aQ (ag ER) Z (bC 0 (cs:=[bV true]) [iv A,sL i p0.p.Tools j,sL l p0.p.Steps o,bV true,sL g p0.open_ h,bV p0.step] (wn Z) Z Z Z Z QU Z Z Z (ae (aa (ai (Tr.k Z (ae (aa (bu (bn ?_))))))))))))))))
     obtain rfl:=oI H
     exact Tr.out (m:=[bV true]) [] (bM Z bL) (fun W hW=>⟨w,(g,h,q),leB,Z,⟨B.1,B.2⟩,hW.pick (ks:=[0,1]) (by decide) (aH Z (aH Z aY))⟩)
 ·refine aO (aa (av (av ?_)))
  cases H

theorem qF{w:Bs}(p0:mO)(t:Option Addr)(v:Nat)(a4:Sl w.R w.W aR t v p0.p.Tools)(y:Option Addr)(z:Nat)(l:Option Addr)(o:Nat)(A:List (PE az))(C:SK A p0.open_∧bZ l p0.open_.length o)(d:Nat)(p1:aB)(f:Option Addr)(g:Nat)(L:Sl w.O w.W bi f g p1.Points)(i:Option Addr)(j:Nat)(M:Sl w.O w.W az i j p1.Steps)(r:((List aB)×(List aB)))(H:kM p0 p1=some r)(hE:HF w w.W (ig [bx d #[iv p0.p.Unit,sL t p0.p.Tools v,sL y p0.p.Steps z,bV p0.unit,sL l p0.open_ o,bV p0.step] 81,ow y z 59 az p0.p.Steps,sk l o 96 59 24 aV A])):Calls Tryz.prog 55 [pV d,.agg #[iv p1.Kind,sv p1.Name,iv p1.At.X,iv p1.At.Y,sL f p1.Points g,iv p1.NX,iv p1.NY,sL i p1.Steps j]].toArray w.W fun e W'=>∃(w':Bs) (u:(Option Addr×Nat)×(Option Addr×Nat×List (PE az))),w.Le w'∧e= .returned (.tuple #[])∧(bZ u.1.1 r.1.length u.1.2∧(SK u.2.2.2 r.2∧bZ u.2.1 r.2.length u.2.2.1))∧HF w' W' (ig [bx d #[iv p0.p.Unit,sL t p0.p.Tools v,sL u.1.1 r.1 u.1.2,bV p0.unit,sL u.2.1 r.2 u.2.2.1,bV p0.step] 81,ow u.1.1 u.1.2 59 az r.1,sk u.2.1 u.2.2.1 96 59 24 aV u.2.2.2]):=by
 unfold kM at H
 have a2:=(hE.sl (k:=1) Z).form
 have leB:=Bs.Le.refl w
 refine aZ (n:=67) Tryz.func55 Z Z Z hE (ai (fT 3 (cs:=[iv p1.Kind,sv p1.Name,iv p1.At.X,iv p1.At.Y,sL f p1.Points g,iv p1.NX,iv p1.NY,sL i p1.Steps j]) (wn Z) Z Z Z fun I=>(ae (aa (ai (aA Z (aQ fw Z (aQ (ag O3) Z (aG Z (fun _ _ a c=>ah VE (a.ev Z) (dB c (vs:=[iv p0.p.Unit,sL t p0.p.Tools v,sL y p0.p.Steps z,bV p0.unit,sL l p0.open_ o,bV p0.step]) (k:=0) Z 4) Z) (aQ (bD Vk) Z (aC gu Z Z (Tr.k Z (ae (aa (ai (aA Z (aC wZ Z Z (ae (aa (aP Z H (fun H=>?_) (fun H=>?_)))))))))))))))))))))
 ·refine av ?_
  cases H
 ·refine rU 15 [(8,(ow y z 59 az p0.p.Steps).S),(10,(ow y z 59 az p0.p.Steps).S),(14,fun x=>x=d)] [10] (by kernel_rfl) (by kernel_rfl) fun a5 a1 a3=>(bY 0 [(54,pV d)] (by kernel_rfl) Z Z (by kernel_rfl) ?_ Z Z ?_)
  ·exact dG Z (Tq.fin (.r Z))
  refine bY 1 [(55,pV d)] (by kernel_rfl) Z Z (by kernel_rfl) ?_ Z Z ?_
  ·exact dZ fw Z (Tq.fin (.r Z))
  refine bY 2 [(56,pV d)] (by kernel_rfl) Z Z (by kernel_rfl) ?_ Z Z ?_
  ·exact dZ (ag Cz) Z (Tq.fin (.r Z))
  refine bY 3 [(57,.pointer (some ⟨d,2,none⟩))] (by kernel_rfl) Z Z (by kernel_rfl) ?_ Z Z ?_
  ·exact dZ (ag qI) Z (Tq.fin (.r Z))
  refine bY 4 [(58,sL y p0.p.Steps z)] (by kernel_rfl) Z Z (by kernel_rfl) ?_ Z Z ?_
  ·exact bg Z (fun _ _ a c=>ah xw (a.ev Z) (dB c (vs:=[iv p0.p.Unit,sL t p0.p.Tools v,sL y p0.p.Steps z,bV p0.unit,sL l p0.open_ o,bV p0.step]) (k:=0) Z 2) Z) (Tq.fin (.r Z))
  refine bY 5 [(59,.agg #[iv p1.Kind,sv p1.Name,iv p1.At.X,iv p1.At.Y,sL f p1.Points g,iv p1.NX,iv p1.NY,sL i p1.Steps j])] (by kernel_rfl) Z Z (by kernel_rfl) ?_ Z Z ?_
  ·exact bg Z (fun _ _ a c=>aN (cs:=[iv p1.Kind,sv p1.Name,iv p1.At.X,iv p1.At.Y,sL f p1.Points g,iv p1.NX,iv p1.NY,sL i p1.Steps j]) Bj rA (a.ev Z) (aI.take (dB c (vs:=[iv p1.Kind,sv p1.Name,iv p1.At.X,iv p1.At.Y,sL f p1.Points g,iv p1.NX,iv p1.NY,sL i p1.Steps j]) (k:=3) Z 0) 8) Z) (Tq.fin (.r Z))
  refine bY 6 [(60,iv (p0.p.Steps.length:Int))] (by kernel_rfl) Z Z (by kernel_rfl) ?_ Z Z ?_
  ·exact dZ (bD wV) Z (Tq.fin (.r Z))
  refine Dr.one 7 (by kernel_rfl) (Hr 7 4 (e:=59) (vs:=[(0,.agg #[iv 0,sv ⟨#[]⟩,iv 0,iv 0,.slice none 0 0,iv 0,iv 0,.slice none 0 0])]) (cs:=[iv 0,sv ⟨#[]⟩,iv 0,iv 0,.slice none 0 0,iv 0,iv 0,.slice none 0 0]) Z (wn Z) Z (bB Z dH) (by kernel_rfl) fun a7 a6=>?_)
  obtain⟨D,a9,H⟩:=bnd H
  refine Dr.one 8 (by kernel_rfl) (NF 8 1 (t':=az) (ll:=p0.p.Steps) (l2:=[(aB.mk 0 (⟨#[]⟩) (ak.mk 0 0) [] 0 0 [])]) (fun b hb=>.inl ⟨_,List.mem_cons_self,Z,hb⟩) Z (wn Z) Z Z Z Z (fun W hW=>⟨[[iv 0,sv ⟨#[]⟩,iv 0,iv 0,.slice none 0 0,iv 0,iv 0,.slice none 0 0]],(.cons ⟨((none,0),(none,0)),(lu.2 ⟨(Sl.nil _ _ _),(Sl.nil _ _ _)⟩),Z⟩ .nil),dB hW (vs:=[iv 0,sv ⟨#[]⟩,iv 0,iv 0,.slice none 0 0,iv 0,iv 0,.slice none 0 0]) (k:=4) Z 0⟩) wV rA NP (by decide) Pv Z a9 fun q s E hn8_sz101=>?_)
  obtain⟨a8,a0,H⟩:=bnd H
  obtain⟨Q,T,J⟩:=aW a0
  refine dI 9 (by kernel_rfl) Z (wn Z) Z (by kernel_rfl) (fun _ _ a=>au Gx (a.ev Z) E (a.ev Z) Q T) Z (dI 11 (by kernel_rfl) Z (wn Z) Z (by kernel_rfl) (fun _ _ a=>fw (a.ev Z)) Z (dI 12 (by kernel_rfl) Z (wn Z) Z (by kernel_rfl) (fun _ _ a=>ag Cz (a.ev Z)) Z (dI 13 (by kernel_rfl) Z (wn Z) Z (by kernel_rfl) (fun _ _ a=>ag qI (a.ev Z)) Z (PN 10 14 (by kernel_rfl) ?_ ?_))))
  ·obtain⟨F,N,H⟩:=bnd H
   have K:=lN N
   refine uu 10 1 (t':=az) (ll:=D) (ix:=(p0.p.Steps.length:Int)) (fo:=0) (cs:=[iv p1.Kind,sv p1.Name,iv p1.At.X,iv p1.At.Y,sL f p1.Points g,iv p1.NX,iv p1.NY,sL i p1.Steps j]) p1 (fun b hb=>(hn8_sz101 b hb).elim (fun h=>.inr ⟨by simp,h⟩) (fun h=>.inl ⟨_,(List.mem_cons_of_mem _ List.mem_cons_self),Z,h⟩)) Z (wn Z) Z Z Z Z Z J rA Z (fun u hu=>⟨((f,g),(i,j)),(lu.2 ⟨L,M⟩),Z⟩) Z N ?_
   have U:bZ q F.length s:=by rw[K];exact E
   refine Dr.use (lf:=[(0,pV d),(1,.agg #[iv p1.Kind,sv p1.Name,iv p1.At.X,iv p1.At.Y,sL f p1.Points g,iv p1.NX,iv p1.NY,sL i p1.Steps j]),(3,pV I),(4,iv (bF ((p0.open_.length:Int)-1))),(5,pV d),(6,pV d),(7,.pointer (some ⟨d,4,none⟩)),(8,sL l p0.open_ o),(9,iv (p0.open_.length:Int)),(10,iv (bF ((p0.open_.length:Int)-1))),(11,iv (bF ((p0.open_.length:Int)-1))),(12,bV (decide (0≤(bF ((p0.open_.length:Int)-1))))),(54,pV d),(55,pV d),(56,pV d),(57,.pointer (some ⟨d,2,none⟩)),(59,.agg #[iv p1.Kind,sv p1.Name,iv p1.At.X,iv p1.At.Y,sL f p1.Points g,iv p1.NX,iv p1.NY,sL i p1.Steps j]),(60,iv (p0.p.Steps.length:Int)),(62,sL q F s),(64,pV d),(65,pV d),(66,.pointer (some ⟨d,2,none⟩))]) (le:=[(0,bx d #[iv p0.p.Unit,sL t p0.p.Tools v,sL y p0.p.Steps z,bV p0.unit,sL l p0.open_ o,bV p0.step] 81),(1,ow q s 59 az F),(2,sk l o 96 59 24 aV A),(3,bx I #[iv p1.Kind,sv p1.Name,iv p1.At.X,iv p1.At.Y,sL f p1.Points g,iv p1.NX,iv p1.NY,sL i p1.Steps j] 59)]) ?_ Z (.cons Z (.cons Z (.cons Z (.cons Z (.cons Z (.cons Z (.cons Z (.cons Z (.cons Z (.cons Z (.cons Z (.cons Z (.cons Z (.cons Z (.cons Z (.cons Z (.cons Z (.cons Z (.cons (dM Z (by unfold sL;rw[K])) (.r Z)))))))))))))))))))) (.r Z)
   refine Dr.one 14 (by kernel_rfl) (CL 14 0 (cs:=[sL q F s]) [iv p0.p.Unit,sL t p0.p.Tools v,sL q F s,bV p0.unit,sL l p0.open_ o,bV p0.step] Z (wn Z) (.inl ⟨_,(List.mem_cons_of_mem _ (List.mem_cons_of_mem _ List.mem_cons_self)),Z,Z⟩) Z Z Z Z NW Z Z Z (tX (by kernel_rfl) (ae (og ?_))))
   obtain rfl:=oI H
   exact Tr.out (m:=[]) [] bL (fun W hW=>⟨w,((q,s),(l,o,A)),leB,Z,⟨U,⟨C.1,C.2⟩⟩,hW.pick (ks:=[0,1,2]) (by decide) (aH Z (aH Z (aH Z aY)))⟩)
  ·replace H:((sets D (p0.p.Steps.length:Int) p1).bind fun B=>some (B,p0.open_))=some r:=by simpa only[S9] using H
   refine CL 14 0 (cs:=[sL q D s]) [iv p0.p.Unit,sL t p0.p.Tools v,sL q D s,bV p0.unit,sL l p0.open_ o,bV p0.step] Z (wn Z) (.inl ⟨_,(List.mem_cons_of_mem _ (List.mem_cons_of_mem _ List.mem_cons_self)),Z,Z⟩) Z Z Z Z NW Z Z Z ?_
   obtain⟨B,P,H⟩:=bnd H
   refine Dr.one 10 (by kernel_rfl) ?_
   have G:=lN P
   refine uu 10 1 (t':=az) (ll:=D) (ix:=(p0.p.Steps.length:Int)) (fo:=0) (cs:=[iv p1.Kind,sv p1.Name,iv p1.At.X,iv p1.At.Y,sL f p1.Points g,iv p1.NX,iv p1.NY,sL i p1.Steps j]) p1 (fun b hb=>(hn8_sz101 b hb).elim (fun h=>.inr ⟨by simp,h⟩) (fun h=>.inl ⟨_,(List.mem_cons_of_mem _ List.mem_cons_self),Z,h⟩)) Z (wn Z) Z Z Z Z Z J rA Z (fun u hu=>⟨((f,g),(i,j)),(lu.2 ⟨L,M⟩),Z⟩) Z P ?_
   have V:bZ q B.length s:=by rw[G];exact E
   refine Dr.use (lf:=[(0,pV d),(1,.agg #[iv p1.Kind,sv p1.Name,iv p1.At.X,iv p1.At.Y,sL f p1.Points g,iv p1.NX,iv p1.NY,sL i p1.Steps j]),(3,pV I),(4,iv (bF ((p0.open_.length:Int)-1))),(5,pV d),(6,pV d),(7,.pointer (some ⟨d,4,none⟩)),(8,sL l p0.open_ o),(9,iv (p0.open_.length:Int)),(10,iv (bF ((p0.open_.length:Int)-1))),(11,iv (bF ((p0.open_.length:Int)-1))),(12,bV (decide (0≤(bF ((p0.open_.length:Int)-1))))),(54,pV d),(55,pV d),(56,pV d),(57,.pointer (some ⟨d,2,none⟩)),(59,.agg #[iv p1.Kind,sv p1.Name,iv p1.At.X,iv p1.At.Y,sL f p1.Points g,iv p1.NX,iv p1.NY,sL i p1.Steps j]),(60,iv (p0.p.Steps.length:Int)),(62,sL q B s),(64,pV d),(65,pV d),(66,.pointer (some ⟨d,2,none⟩))]) (le:=[(0,bx d #[iv p0.p.Unit,sL t p0.p.Tools v,sL q B s,bV p0.unit,sL l p0.open_ o,bV p0.step] 81),(1,ow q s 59 az B),(2,sk l o 96 59 24 aV A),(3,bx I #[iv p1.Kind,sv p1.Name,iv p1.At.X,iv p1.At.Y,sL f p1.Points g,iv p1.NX,iv p1.NY,sL i p1.Steps j] 59)]) ?_ Z (.cons Z (.cons Z (.cons Z (.cons Z (.cons Z (.cons Z (.cons Z (.cons Z (.cons Z (.cons Z (.cons Z (.cons Z (.cons Z (.cons Z (.cons Z (.cons Z (.cons Z (.cons Z (.cons (dM Z (by unfold sL;rw[G])) (.r Z)))))))))))))))))))) (.cons (Xr Z (by unfold sL;rw[G])) (.r Z))
   refine tX (by kernel_rfl) (ae (og ?_))
   obtain rfl:=oI H
   exact Tr.out (m:=[]) [] bL (fun W hW=>⟨w,((q,s),(l,o,A)),leB,Z,⟨V,⟨C.1,C.2⟩⟩,hW.pick (ks:=[0,1,2]) (by decide) (aH Z (aH Z (aH Z aY)))⟩)

theorem wK(N:Nat){w:Bs}(p0:mO)(o:Option Addr)(q:Nat)(S:Sl w.R w.W aR o q p0.p.Tools)(g:Option Addr)(i:Nat)(d:Option Addr)(f:Nat)(v:List (PE az))(b1:SK v p0.open_∧bZ d p0.open_.length f)(y:Nat)(p1:ByteArray)(p2:(List Int))(j:Option Addr)(A:Nat)(J:Sl w.R w.W bP j A p2)(r:(Bool×(List aB)×(List aB)))(H:kV N p0 p1 p2=some r)(hE:HF w w.W (ig [bx y #[iv p0.p.Unit,sL o p0.p.Tools q,sL g p0.p.Steps i,bV p0.unit,sL d p0.open_ f,bV p0.step] 81,ow g i 59 az p0.p.Steps,sk d f 96 59 24 aV v])):Calls Tryz.prog 58 [pV y,sv p1,sL j p2 A].toArray w.W fun e W'=>∃(w':Bs) (u:(Option Addr×Nat)×(Option Addr×Nat×List (PE az))),w.Le w'∧e= .returned (bV r.1)∧(bZ u.1.1 r.2.1.length u.1.2∧(SK u.2.2.2 r.2.2∧bZ u.2.1 r.2.2.length u.2.2.1))∧HF w' W' (ig [bx y #[iv p0.p.Unit,sL o p0.p.Tools q,sL u.1.1 r.2.1 u.1.2,bV p0.unit,sL u.2.1 r.2.2 u.2.2.1,bV p0.step] 81,ow u.1.1 u.1.2 59 az r.2.1,sk u.2.1 u.2.2.1 96 59 24 aV u.2.2.2]):=by
 unfold kV at H
 have d1:=(hE.sl (k:=1) Z).form
 have leB:=Bs.Le.refl w
 refine aZ (n:=91) Tryz.func58 Z Z Z hE (ai (Tr.k Z (ae (aa (ai (iR (vs:=[]) (cs:=[iv 0,sv ⟨#[]⟩,iv 0,iv 0,.slice none 0 0,iv 0,iv 0,.slice none 0 0]) (wn Z) Z dH (by kernel_rfl) (Tr.alloc 3 (wn Z) Z Hy fun z=>(bC 3 (cs:=[iv 0,sv ⟨#[]⟩,iv 0,iv 0,.slice none 0 0,iv 0,iv 0,.slice none 0 0]) [iv 0,sv ⟨#[]⟩,iv 0,iv 0,.slice none 0 0,iv 0,iv 0,.slice none 0 0] (wn Z) Z Z Z Z rA Z Z Z (ae (aa ?_))))))))))
 have K:=Bs.Le.refl w
 refine kZ (σ:=(List ak)×(Option Addr)×Nat) (fun w s=>ja p0 s.1=some r∧bZ s.2.1 s.1.length s.2.2) (fun s=>[(0,pV y),(7,pV z)]) (fun s=>[(0,bx y #[iv p0.p.Unit,sL o p0.p.Tools q,sL g p0.p.Steps i,bV p0.unit,sL d p0.open_ f,bV p0.step] 81),(1,ow g i 59 az p0.p.Steps),(2,sk d f 96 59 24 aV v),(3,bx z #[iv 7,sv ⟨#[]⟩,iv 0,iv 0,sL s.2.1 s.1 s.2.2,iv 0,iv 0,.slice none 0 0] 59),(10,ow s.2.1 s.2.2 24 bi s.1)]) ?_ ?_
 ·refine ai (aA Z (ae (aa (Tr.block ?_))))
  have a0:=Bs.Le.refl w
  refine kZ (σ:=Bool) (fun w s=>ik N p0 p1 p2 s=some r) (fun s=>[(0,pV y),(1,sv p1),(2,sL j p2 A),(7,pV z),(10,sv p1),(11,bV s)]) (fun s=>[(0,bx y #[iv p0.p.Unit,sL o p0.p.Tools q,sL g p0.p.Steps i,bV p0.unit,sL d p0.open_ f,bV p0.step] 81),(1,ow g i 59 az p0.p.Steps),(2,sk d f 96 59 24 aV v),(3,bx z #[iv 0,sv ⟨#[]⟩,iv 0,iv 0,.slice none 0 0,iv 0,iv 0,.slice none 0 0] 59)]) ?_ ?_
  ·refine ai (aC qg Z Z (Tr.k Z (ae (aa (aP Z H (fun H=>?_) (fun H=>?_))))))
   ·exact aO (aF a0 (sw p1 (⟨#[109,111,118,101]⟩)) H (.r Z) (.r Z))
   ·refine ai (aC qg Z Z (Tr.k Z (ae (aa (aP Z H (fun H=>?_) (fun H=>?_))))))
    ·exact aO (aF a0 (sw p1 (⟨#[102,108,97,115,104]⟩)) H (.r Z) (.r Z))
    ·exact aM (aC qg Z Z (Tr.k Z (ae (aF a0 (sw p1 (⟨#[108,105,110,101]⟩)) H (.r Z) (.r Z)))))
  ·intro w b7 a6 hs
   have H:=hs
   replace H:ik N p0 p1 p2 b7=some r:=H
   replace J:=J.oV a6
   replace K:=K.trans a6
   unfold ik at H
   show Tr _ _ (LF [(0,pV y),(1,sv p1),(2,sL j p2 A),(7,pV z),(10,sv p1),(11,bV b7)]) (LE [(0,bx y #[iv p0.p.Unit,sL o p0.p.Tools q,sL g p0.p.Steps i,bV p0.unit,sL d p0.open_ f,bV p0.step] 81),(1,ow g i 59 az p0.p.Steps),(2,sk d f 96 59 24 aV v),(3,bx z #[iv 0,sv ⟨#[]⟩,iv 0,iv 0,.slice none 0 0,iv 0,iv 0,.slice none 0 0] 59)]) _
   refine aP Z H (fun H=>?_) (fun H=>?_)
   ·refine av (av ?_)
    cases H
   ·refine ai (aC qg Z Z (Tr.k Z (ae (aa (aP Z H (fun H=>?_) (fun H=>?_))))))
    ·refine av (ai (aA Z (aQ (bD kF) Z (aG Z (fun _ _ a c=>Od (a.ev Z) (a.ev Z) (by decide)) (aC iP Z Z (ae (aa (aP Z H (fun H=>?_) (fun H=>?_)))))))))
     ·refine av ?_
      cases H
     ·refine aO (aa (ai (aQ (ag vH) Z (bC 3 (cs:=[iv 7]) [iv 7,sv ⟨#[]⟩,iv 0,iv 0,.slice none 0 0,iv 0,iv 0,.slice none 0 0] (wn Z) Z Z Z Z wP Z Z Z (ae (aa (ai (Tr.k Z (ae (aa (Tr.block (bO 18 24 bi (cB (σ:=(List ak)×Int×(Option Addr)×Nat) (fun m w s=>gH p0 p2 m s.1 s.2.1=some r∧bZ s.2.2.1 s.1.length s.2.2.2) (fun s=>[(0,pV y),(2,sL j p2 A),(7,pV z),(8,iv s.2.1)]) (fun s=>[(0,bx y #[iv p0.p.Unit,sL o p0.p.Tools q,sL g p0.p.Steps i,bV p0.unit,sL d p0.open_ f,bV p0.step] 81),(1,ow g i 59 az p0.p.Steps),(2,sk d f 96 59 24 aV v),(3,bx z #[iv 7,sv ⟨#[]⟩,iv 0,iv 0,sL s.2.2.1 s.1 s.2.2.2,iv 0,iv 0,.slice none 0 0] 59),(18,ow s.2.2.1 s.2.2.2 24 bi s.1)]) N (([]:List ak),0,none,0) ⟨H,fQ⟩ (.r Z) (.r Z) (fun _ _ h=>jZ (h.1)) ?_)))))))))))))
      intro w a8 d2 s hs
      obtain⟨I,E,F,G⟩:=s
      obtain⟨H,a2⟩:=hs
      replace H:gH p0 p2 (d2+1) I E=some r:=H
      replace J:=J.oV a8
      replace K:=K.trans a8
      replace a2:bZ F I.length G:=a2
      rw[gH.eq_2] at H
      dsimp only
      refine av (ai (aA Z (aA Z (aQ (bD kF) Z (aC bv Z Z (ae (aa (aP Z H (fun H=>?_) (fun H=>?_)))))))))
      ·refine aO (aa (av (Tr.block ?_)))
       obtain⟨B,c7,H⟩:=bnd H
       obtain⟨b8,b9,c0⟩:=aW c7
       obtain⟨C,c8,H⟩:=bnd H
       obtain⟨c3,c4,c5⟩:=aW c8
       refine CK 13 [(12,.makeFunc (.func 0) #[] #[.tmp 55])] [(12,⟨56,19,.func (.func 0) #[] #[.agg #[iv B,iv C]],fun b=>.slice (some ⟨b,0,none⟩) 1 1,fun b=>bx b #[iv B,iv C] 24⟩)] [(0,pV y),(2,sL j p2 A),(7,pV z),(8,iv E),(38,iv E),(39,sL j p2 A),(40,iv (p2.length:Int)),(41,bV (decide (E<(p2.length:Int)))),(44,.pointer (some ⟨z,4,none⟩)),(45,sL F I G),(46,sL j p2 A),(47,iv E),(48,.pointer (some ⟨pu j,rT j+(E).toNat*1,none⟩)),(49,iv B),(50,sL j p2 A),(51,iv E),(52,iv (bF (E+1))),(53,.pointer (some ⟨pu j,rT j+((bF (E+1))).toNat*1,none⟩)),(54,iv C),(55,.agg #[iv B,iv C]),(56,.func (.func 0) #[] #[.agg #[iv B,iv C]])] (by kernel_rfl) (by kernel_rfl) (by kernel_rfl) (by kernel_rfl) (by kernel_rfl) (by kernel_rfl) (by kernel_rfl) (lQ (R3 (vs:=[(0,.agg #[iv B,iv C])]) Z Z Z (by kernel_rfl)) qj) (lQ Z qj) (lQ Z qj) ?_ ?_
       ·refine dZ (ag pR) Z (bg Z (fun _ _ a c=>ah tF (a.ev Z) (dB c (vs:=[iv 7,sv ⟨#[]⟩,iv 0,iv 0,sL F I G,iv 0,iv 0,.slice none 0 0]) (k:=3) Z 4) Z) (dG Z (dG Z (bg Z (fun _ _ a c=>au iX (a.ev Z) J.form (a.ev Z) b8 b9) (bg Z (fun _ _ a c=>ah bT (a.ev Z) (vB jm J c0 c) Z) (dG Z (dG Z (fZ bz Z Z (bg Z (fun _ _ a c=>au iX (a.ev Z) J.form (a.ev Z) c3 c4) (bg Z (fun _ _ a c=>ah bT (a.ev Z) (vB jm J c5 c) Z) (uP (vs:=[(0,iv B),(1,iv C)]) (cs:=[iv B,iv C]) (wn Z) Z (bB Z (bB Z dH)) (by kernel_rfl) (yc (vs:=[.agg #[iv B,iv C]]) (wn Z) Z (aj Z aJ) ?_))))))))))))
        exact Tq.fin (.r Z)
       ·intro b2
        refine Tr.vD (lf:=[(0,pV y),(2,sL j p2 A),(7,pV z),(8,iv E),(45,sL F I G),(56,.slice (some ⟨(b2 12),0,none⟩) 1 1)]) (le:=[(0,bx y #[iv p0.p.Unit,sL o p0.p.Tools q,sL g p0.p.Steps i,bV p0.unit,sL d p0.open_ f,bV p0.step] 81),(1,ow g i 59 az p0.p.Steps),(2,sk d f 96 59 24 aV v),(3,bx z #[iv 7,sv ⟨#[]⟩,iv 0,iv 0,sL F I G,iv 0,iv 0,.slice none 0 0] 59),(18,ow F G 24 bi I),(19,bx (b2 12) #[iv B,iv C] 24)]) (.r Z) (.r Z) ?_
        obtain⟨a9,c9,H⟩:=bnd H
        exact Tr.append 18 (t:=bi) (l:=I) (l2:=[(ak.mk B C)]) (wn Z) Z Z Z Z (fun W hW=>⟨[[iv B,iv C]],(.cons ⟨(),trivial,Z⟩ .nil),dB hW (vs:=[iv B,iv C]) (k:=19) Z 0⟩) qM gQ Hw (by decide) IW Z c9 fun a3 a4 c6=>(aQ (ag pR) Z (bC 3 (cs:=[sL a3 a9 a4]) [iv 7,sv ⟨#[]⟩,iv 0,iv 0,sL a3 a9 a4,iv 0,iv 0,.slice none 0 0] (wn Z) Z Z Z Z QR Z Z Z (ae (aL (aa (aM (aA Z (aC bz Z Z (Tr.k Z (ae (aF a8 (a9,(bF (E+2)),a3,a4) ⟨H,c6⟩ (.r Z) (.r Z))))))))))))
      ·exact cz (aD (aD (aU (aL (DX 18 10 Z Z Z (aF K (I,F,G) ⟨H,a2⟩ (.r Z) (.r Z)))))))
    ·refine av ?_
     cases H
 ·intro w s a7 hs
  obtain⟨X,T,V⟩:=s
  obtain⟨H,d3⟩:=hs
  replace H:ja p0 X=some r:=H
  replace S:=S.oV a7
  replace leB:=leB.trans a7
  unfold ja at H
  dsimp only
  refine ai (aA Z (aG Z (fun _ _ a c=>aN (cs:=[iv 7,sv ⟨#[]⟩,iv 0,iv 0,sL T X V,iv 0,iv 0,.slice none 0 0]) Bj rA (a.ev Z) (aI.take (dB c (vs:=[iv 7,sv ⟨#[]⟩,iv 0,iv 0,sL T X V,iv 0,iv 0,.slice none 0 0]) (k:=3) Z 0) 8) Z) (Tr.freeze 10 Z fun w b3 a5=>?_)))
  replace S:=S.oV b3
  replace leB:=leB.trans b3
  obtain⟨D,d0,H⟩:=bnd H
  refine dU [0,1,2] [bx y #[iv p0.p.Unit,sL o p0.p.Tools q,sL g p0.p.Steps i,bV p0.unit,sL d p0.open_ f,bV p0.step] 81,ow g i 59 az p0.p.Steps,sk d f 96 59 24 aV v] (U:=(Option Addr×Nat)×(Option Addr×Nat×List (PE az))) (fun u=>(.tuple #[])) (fun O W u=>bZ u.1.1 D.1.length u.1.2∧(SK u.2.2.2 D.2∧bZ u.2.1 D.2.length u.2.2.1)) (fun u=>[bx y #[iv p0.p.Unit,sL o p0.p.Tools q,sL u.1.1 D.1 u.1.2,bV p0.unit,sL u.2.1 D.2 u.2.2.1,bV p0.step] 81,ow u.1.1 u.1.2 59 az D.1,sk u.2.1 u.2.2.1 96 59 24 aV u.2.2.2]) Z (aH Z (aH Z (aH Z aY))) (fun _=>Z) (wn Z) Z Tryz.call55 (aj Z (aj Z aJ)) (fun W hW hp hE=>qF p0 o q (S.ext (hW.gL hp)) g i d f v ⟨b1.1,b1.2⟩ y (aB.mk 7 (⟨#[]⟩) (ak.mk 0 0) X 0 0 []) T V (a5.rF (hW.gL hp)) none 0 (Sl.nil _ _ _) D d0 hE) ?_
  intro w u b4 hu
  obtain⟨⟨L,M⟩,⟨P,Q,a'⟩⟩:=u
  obtain⟨b5,b6⟩:=hu
  replace a5:=a5.le b4
  replace leB:=leB.trans b4
  have b0:bZ L D.1.length M:=b5 --@phi
  have a1:(SK a' D.2∧bZ P D.2.length Q):=b6 --@phi
  dsimp only
  refine ae (aa (ai (Tr.k Z (ae (aa (bu ?_))))))
  obtain rfl:=oI H
  exact Tr.out (m:=[bV true]) [] (bM Z bL) (fun W hW=>⟨w,((L,M),(P,Q,a')),leB,Z,⟨b0,⟨a1.1,a1.2⟩⟩,hW.pick (ks:=[0,1,2]) (by decide) (aH Z (aH Z (aH Z aY)))⟩)

end Go.Proofs.YtblmajfbibbiaaaGreatDoor
