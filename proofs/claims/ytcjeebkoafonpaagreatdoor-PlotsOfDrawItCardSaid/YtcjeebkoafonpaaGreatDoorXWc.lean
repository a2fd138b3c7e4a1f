/- The walks: each function computes its plain function. -/
import Derived.Test.YtcjeebkoafonpaaGreatDoorXWb
namespace Go.Proofs.YtcjeebkoafonpaaGreatDoor
open Go.RowKit
set_option maxRecDepth 100000
set_option maxHeartbeats 1000000
theorem Ih (N : Nat) {w : Bs} (p0 : (List aQ)) (b7 : Option Addr) (b8 : Nat) (f4 : Sl w.R w.W bq b7 b8 p0) (r : (gu × Int)) (H : sV N p0 = some r) (hE : HF w w.W (iF [emp, emp])) : Calls Tryz.prog 5 [sL b7 p0 b8].toArray w.W fun e W' => ∃ (w' : Bs) (u : (Option Addr × Nat) × (Option Addr × Nat)), w.Le w' ∧ e = .returned (.tuple #[.agg #[iv r.1.Unit, sL u.1.1 r.1.Tools u.1.2, sL u.2.1 r.1.Steps u.2.2], iv r.2]) ∧ (dM u.1.1 r.1.Tools.length u.1.2 ∧ dM u.2.1 r.1.Steps.length u.2.2) ∧ HF w' W' (iF [ow u.1.1 u.1.2 58 aY r.1.Tools, ow u.2.1 u.2.2 53 ay r.1.Steps]) := by
 unfold sV at H
 have leB := Bs.Le.refl w
 refine aZ (n := 106) Tryz.func5 rfl rfl rfl hE (ai (Tr.alloc 1 (wn rfl) rfl Dq fun D => (Tr.k rfl (ae (aa (ai (aA rfl ?_)))))))
 obtain ⟨f, f5, H⟩ := bnd H
 refine fq [2] [emp] (U := (Option Addr × Nat)) (fun u => (.tuple #[sL u.1 f.1 u.2, iv f.2])) (fun O W u => dM u.1 f.1.length u.2) (fun u => [ow u.1 u.2 43 dV f.1]) rfl (aH rfl bn) (fun _ => rfl) (wn rfl) rfl Tryz.call12 (aj rfl aL) (fun W hW hp hE => zO N p0 b7 b8 (f4.ext (hW.gM hp)) f f5 hE) ?_
 intro w u f6 hu
 obtain ⟨A, B⟩ := u
 have e3 := hu
 replace leB := leB.trans f6
 have b1 : dM A f.1.length B := e3 --@phi
 dsimp only
 refine aA rfl (aG rfl (fun _ _ a c => ib (a.ev rfl) rfl) (aG rfl (fun _ _ a c => ib (a.ev rfl) rfl) (Tr.k rfl (Tr.k rfl (ae (aa (az (ai (aA rfl (aC jD rfl rfl (ae (aa (aP rfl H (fun H => ?_) (fun H => ?_))))))))))))))
 ·refine ai (jh (vs := []) (cs := [iv 0, .slice none 0 0, .slice none 0 0]) (wn rfl) rfl eF (by kernel_rfl) (aA rfl (bJ 1 (cs := [iv 0, .slice none 0 0, .slice none 0 0]) [iv 0, .slice none 0 0, .slice none 0 0] (wn rfl) rfl rfl rfl rfl mr rfl rfl rfl (Tr.k rfl (ae (aa (aW (aK ?_))))))))
  obtain rfl := oI H
  exact bM 3 58 aY (bM 4 53 ay (Tr.out (m := [.agg #[iv 0, .slice none 0 0, .slice none 0 0], iv f.2]) [1] (og rfl rfl ql mr (cO rfl bO)) (fun W hW => ⟨w, ((none, 0), (none, 0)), leB, rfl, ⟨gL, gL⟩, hW.pick (ks := [3, 4]) (by decide) (aH rfl (aH rfl bn))⟩)))
 ·refine aN (aa (ai (Tr.k rfl (bM 5 45 aO ?_))))
  show Tr _ _ (uf _ 6 (sL none (([] : List dK)) 0)) _ _
  refine ae (aa (az (ai (aA rfl (aT (bz Fy) rfl (aA rfl (ae (aa (Tr.block (df (σ := (List (List au)) × Nat × (List dK) × (Option Addr) × Nat) (fun m w s => m = s.1.length + 1 ∧ s.1 = List.drop s.2.1 f.1 ∧ s.2.1 ≤ f.1.length ∧ kz N s.1 s.2.1 s.2.2.1 = some r ∧ dM s.2.2.2.1 s.2.2.1.length s.2.2.2.2) (fun s => [(2, pV D), (6, sL s.2.2.2.1 s.2.2.1 s.2.2.2.2), (28, sL A f.1 B), (29, iv (f.1.length : Int)), (30, iv (s.2.1 : Int))]) (fun s => [(1, bx D #[iv 0, .slice none 0 0, .slice none 0 0] 26), (2, ow A B 43 dV f.1), (5, ow s.2.2.2.1 s.2.2.2.2 45 aO s.2.2.1)]) (f.1.length + 1) (f.1, 0, ([] : List dK), none, 0) ⟨rfl, rfl, Nat.zero_le _, H, gL⟩ (.r rfl) (.r rfl) (fun _ _ h => absurd h.1 (by simp)) ?_))))))))))
  intro w b9 m s hs
  obtain ⟨P, a7, M, j, o⟩ := s
  obtain ⟨d5, a2, h3, H, c0⟩ := hs
  replace a2 : P = List.drop a7 f.1 := a2
  replace H : kz N P a7 M = some r := H
  replace d5 : m + 1 = P.length + 1 := d5
  replace leB := leB.trans b9
  replace c0 : dM j M.length o := c0
  obtain rfl : m = P.length := by omega
  clear d5
  dsimp only
  cases P with
  | nil =>
   rw [kz.eq_1] at H
   refine ai (aC bg rfl rfl (ae (aa (az (eQ rfl (dZ a2) (bW (aB (aB (aR (aa (ai (Tr.alloc 22 (wn rfl) rfl TM fun b2 => (bJ 22 (cs := [.func (.func 13) #[] #[]]) [.func (.func 13) #[] #[]] (wn rfl) rfl rfl rfl rfl TZ rfl rfl rfl (ae (aa (ai (aA rfl (pK (vs := [pV b2]) (wn rfl) rfl (aj rfl aL) ?_))))))))))))))))))
   obtain ⟨q, f7, H⟩ := bnd H
   refine fq [5] [ow j o 45 aO M] (U := Unit) (fun u => (.tuple #[])) (fun O W u => q.length = M.length) (fun u => [ow j o 45 aO q]) rfl (aH rfl bn) (fun _ => rfl) (wn rfl) rfl Tryz.call14 (aj rfl (aj rfl aL)) (fun W hW hp hE => oM N M j o b2 (hW.EM (k := 22) rfl hp rfl) (hW.H5 (k := 22) rfl) q f7 hE) ?_
   intro w u f8 hu
   have d6 := hu
   replace leB := leB.trans f8
   have a5 : q.length = M.length := d6 --@phi
   have g7 : dM j q.length o := by rw [a5]; exact c0
   show Tr _ _ (uf _ 74 (.tuple #[])) (up _ 5 (ow j o 45 aO q)) _
   refine Tr.vJ (lf := [(2, pV D), (6, sL j q o), (13, pV b2), (28, sL A f.1 B), (29, iv (f.1.length : Int)), (30, iv (a7 : Int)), (31, bV (decide ((a7 : Int) < (f.1.length : Int)))), (72, sL j q o), (73, .func (.func 15) #[] #[pV b2]), (74, (.tuple #[]))]) (le := [(1, bx D #[iv 0, .slice none 0 0, .slice none 0 0] 26), (2, ow A B 43 dV f.1), (5, ow j o 45 aO q), (22, bx b2 #[.func (.func 13) #[] #[]] 48)]) (.cons rfl (.cons (dJ rfl (by unfold sL; rw [a5])) (.cons rfl (.cons rfl (.cons rfl (.cons rfl (.cons rfl (.cons (dJ rfl (by unfold sL; rw [a5])) (.r rfl))))))))) (.r rfl) (ae (aa (ai (jh (vs := [(0, iv 1)]) (cs := [iv 1, .slice none 0 0, .slice none 0 0]) (wn rfl) rfl (bH rfl eF) (by kernel_rfl) (Tr.alloc 23 (wn rfl) rfl Dq fun T => (bJ 23 (cs := [iv 1, .slice none 0 0, .slice none 0 0]) [iv 1, .slice none 0 0, .slice none 0 0] (wn rfl) rfl rfl rfl rfl mr rfl rfl rfl (ae (aa (ai (Tr.k rfl (ae (aa (az (az (Tr.freeze 5 rfl fun w f9 Z => ?_)))))))))))))))
   replace leB := leB.trans f9
   refine aI (aA rfl (aT (bz NM) rfl (aA rfl (ae (aa (Tr.block (bM 38 53 ay (df (σ := (List dK) × Nat × (List av) × Int × (Option Addr) × Nat) (fun m w s => m = s.1.length + 1 ∧ s.1 = List.drop s.2.1 q ∧ s.2.1 ≤ q.length ∧ iM s.1 s.2.1 s.2.2.1 s.2.2.2.1 = some r ∧ dM s.2.2.2.2.1 s.2.2.1.length s.2.2.2.2.2) (fun s => [(2, pV D), (14, pV T), (15, iv s.2.2.2.1), (76, sL j q o), (77, iv (q.length : Int)), (78, iv (s.2.1 : Int))]) (fun s => [(1, bx D #[iv 0, .slice none 0 0, .slice none 0 0] 26), (23, bx T #[iv 1, .slice none 0 0, sL s.2.2.2.2.1 s.2.2.1 s.2.2.2.2.2] 26), (38, ow s.2.2.2.2.1 s.2.2.2.2.2 53 ay s.2.2.1)]) (q.length + 1) (q, 0, ([] : List av), 1, none, 0) ⟨rfl, rfl, Nat.zero_le _, H, gL⟩ (.r rfl) (.r rfl) (fun _ _ h => absurd h.1 (by simp)) ?_))))))))
   intro w a8 m s hs
   obtain ⟨I, a4, G, a9, E, F⟩ := s
   obtain ⟨d7, a3, h4, H, b0⟩ := hs
   replace a3 : I = List.drop a4 q := a3
   replace H : iM I a4 G a9 = some r := H
   replace d7 : m + 1 = I.length + 1 := d7
   replace Z := Z.le a8
   replace leB := leB.trans a8
   replace b0 : dM E G.length F := b0
   obtain rfl : m = I.length := by omega
   clear d7
   dsimp only
   cases I with
   | nil =>
    rw [iM.eq_1] at H
    refine ai (aC bg rfl rfl (ae (aa (az (eQ rfl (dZ a3) (bW (aB (aB (aR (aa (ai (aG rfl (fun _ _ a c => aM (cs := [iv 1, .slice none 0 0, sL E G F]) ql mr (a.ev rfl) (aF.take (dR c (vs := [iv 1, .slice none 0 0, sL E G F]) (k := 23) rfl 0) 3) rfl) (bJ 1 (cs := [iv 1, .slice none 0 0, sL E G F]) [iv 1, .slice none 0 0, sL E G F] (wn rfl) rfl rfl rfl rfl mr rfl rfl rfl (Tr.k rfl (ae (aa (aW ?_)))))))))))))))))
    obtain rfl := oI H
    exact bM 39 58 aY (Tr.out (m := [.agg #[iv 1, .slice none 0 0, sL E G F], iv 0]) [1] (og rfl rfl ql mr (cO rfl bO)) (fun W hW => ⟨w, ((none, 0), (E, F)), leB, rfl, ⟨gL, b0⟩, hW.pick (ks := [39, 38]) (by decide) (aH rfl (aH rfl bn))⟩))
   | cons C I =>
    rw [iM.eq_2] at H
    refine ai (aC bg rfl rfl (ae (aa (az (eP rfl (fJ a3) (aN (aa (az (Tr.block (ai ?_))))))))))
    obtain ⟨g8, b3, e4, e6⟩ := (Z).el (gy a3)
    obtain ⟨g, i⟩ := g8
    have J := e4
    replace J : Sl w.O w.W aX g i C.points := J
    replace b3 : w.R (mV j) := Or.inl b3
    refine aG rfl (fun _ _ a c => ak oU (a.ev rfl) Z.form (a.ev rfl) (Int.natCast_nonneg _) (bF a3)) (aG rfl (fun _ _ a c => aM (cs := [sL g C.points i, iv C.area]) rE mH (a.ev rfl) (aF.take (ut b3 e6 c) 2) rfl) (Tr.alloc 40 (wn rfl) rfl Rs fun a6 => (bJ 40 (cs := [sL g C.points i, iv C.area]) [sL g C.points i, iv C.area] (wn rfl) rfl rfl rfl rfl mH rfl rfl rfl (ae (aa (ai (Tr.k rfl (ae (aa ?_)))))))))
    have d3 := Bs.Le.refl w
    refine kT (σ := Int) (fun w s => nS G a9 (iM I (a4 + 1)) C s = some r) (fun s => [(2, pV D), (14, pV T), (15, iv a9), (17, pV a6), (18, iv s), (76, sL j q o), (77, iv (q.length : Int)), (78, iv (a4 : Int))]) (fun s => [(1, bx D #[iv 0, .slice none 0 0, .slice none 0 0] 26), (23, bx T #[iv 1, .slice none 0 0, sL E G F] 26), (38, ow E F 53 ay G), (40, bx a6 #[sL g C.points i, iv C.area] 45)]) ?_ ?_
    ·refine ai (aT (ag Bl) rfl (aG rfl (fun _ _ a c => ah bT (a.ev rfl) (dR c (vs := [sL g C.points i, iv C.area]) (k := 40) rfl 1) rfl) (aC bg rfl rfl (ae (aa (aP rfl H (fun H => ?_) (fun H => ?_)))))))
     ·exact aI (Tr.k rfl (ae (aD d3 2 H (.r rfl) (.r rfl))))
     ·exact aN (aD d3 1 H (.r rfl) (.r rfl))
    ·intro w a1 b4 hs
     have H := hs
     replace H : nS G a9 (iM I (a4 + 1)) C a1 = some r := H
     replace J := J.le b4
     replace Z := Z.le b4
     replace a8 := a8.trans b4
     unfold nS at H
     show Tr _ _ (LF [(2, pV D), (14, pV T), (15, iv a9), (17, pV a6), (18, iv a1), (76, sL j q o), (77, iv (q.length : Int)), (78, iv (a4 : Int))]) (LE [(1, bx D #[iv 0, .slice none 0 0, .slice none 0 0] 26), (23, bx T #[iv 1, .slice none 0 0, sL E G F] 26), (38, ow E F 53 ay G), (40, bx a6 #[sL g C.points i, iv C.area] 45)]) _
     have d4 := Bs.Le.refl w
     refine kT (σ := (List av) × Int × (Option Addr) × Nat) (fun w s => qD (iM I (a4 + 1)) C s.1 s.2.1 = some r ∧ dM s.2.2.1 s.1.length s.2.2.2) (fun s => [(2, pV D), (14, pV T), (15, iv s.2.1), (17, pV a6), (76, sL j q o), (77, iv (q.length : Int)), (78, iv (a4 : Int))]) (fun s => [(1, bx D #[iv 0, .slice none 0 0, .slice none 0 0] 26), (23, bx T #[iv 1, .slice none 0 0, sL s.2.2.1 s.1 s.2.2.2] 26), (38, ow s.2.2.1 s.2.2.2 53 ay s.1), (40, bx a6 #[sL g C.points i, iv C.area] 45)]) ?_ ?_
     ·refine ai (aA rfl (aA rfl (aC jD rfl rfl (ae (aa (aP rfl H (fun H => ?_) (fun H => ?_)))))))
      ·refine aI (aT (ag qA) rfl (aG rfl (fun _ _ a c => ah tX (a.ev rfl) (dR c (vs := [iv 1, .slice none 0 0, sL E G F]) (k := 23) rfl 2) rfl) (aA rfl (jh (vs := [(0, iv a1)]) (cs := [iv a1, sv ⟨#[]⟩, iv 0, iv 0, .slice none 0 0, iv 0, iv 0, .slice none 0 0]) (wn rfl) rfl (bH rfl eF) (by kernel_rfl) (dS 43 (e := 53) (vs := [(0, .agg #[iv a1, sv ⟨#[]⟩, iv 0, iv 0, .slice none 0 0, iv 0, iv 0, .slice none 0 0])]) (cs := [iv a1, sv ⟨#[]⟩, iv 0, iv 0, .slice none 0 0, iv 0, iv 0, .slice none 0 0]) (wn rfl) rfl (bH rfl eF) (by kernel_rfl) fun h5 => ?_)))))
       obtain ⟨d8, g0, H⟩ := bnd H
       exact Tr.append 38 (t := ay) (l := G) (l2 := [(av.mk a1 (⟨#[]⟩) (au.mk 0 0) [] 0 0 [])]) (wn rfl) rfl rfl rfl rfl (fun W hW => ⟨[[iv a1, sv ⟨#[]⟩, iv 0, iv 0, .slice none 0 0, iv 0, iv 0, .slice none 0 0]], (.cons ⟨((none, 0), (none, 0)), (kw.2 ⟨(Sl.nil _ _ _), (Sl.nil _ _ _)⟩), rfl⟩ .nil), dR hW (vs := [iv a1, sv ⟨#[]⟩, iv 0, iv 0, .slice none 0 0, iv 0, iv 0, .slice none 0 0]) (k := 43) rfl 0⟩) tH qF ND (by decide) Po rfl g0 fun c3 c4 e7 => (aA rfl (aT (ag qA) rfl (bJ 23 (cs := [sL c3 d8 c4]) [iv 1, .slice none 0 0, sL c3 d8 c4] (wn rfl) rfl rfl rfl rfl NP rfl rfl rfl (Tr.k rfl (ae (aD d4 (d8, a1, c3, c4) ⟨H, e7⟩ (.r rfl) (.r rfl)))))))
      ·exact aN (aD d4 (G, a9, E, F) ⟨H, b0⟩ (.r rfl) (.r rfl))
     ·intro w s b5 hs
      obtain ⟨b6, d9, c5, c6⟩ := s
      obtain ⟨H, h1⟩ := hs
      replace H : qD (iM I (a4 + 1)) C b6 d9 = some r := H
      replace J := J.le b5
      replace Z := Z.le b5
      replace a8 := a8.trans b5
      unfold qD at H
      dsimp only
      refine aI (aT (ag qA) rfl (aG rfl (fun _ _ a c => ah tX (a.ev rfl) (dR c (vs := [iv 1, .slice none 0 0, sL c5 b6 c6]) (k := 23) rfl 2) rfl) (aT (ag QV) rfl (aG rfl (fun _ _ a c => ah tT (a.ev rfl) (dR c (vs := [sL g C.points i, iv C.area]) (k := 40) rfl 0) rfl) (jh (vs := [(0, iv 7), (3, sL g C.points i)]) (cs := [iv 7, sv ⟨#[]⟩, iv 0, iv 0, sL g C.points i, iv 0, iv 0, .slice none 0 0]) (wn rfl) rfl (bH rfl (bH rfl eF)) (by kernel_rfl) (dS 42 (e := 53) (vs := [(0, .agg #[iv 7, sv ⟨#[]⟩, iv 0, iv 0, sL g C.points i, iv 0, iv 0, .slice none 0 0])]) (cs := [iv 7, sv ⟨#[]⟩, iv 0, iv 0, sL g C.points i, iv 0, iv 0, .slice none 0 0]) (wn rfl) rfl (bH rfl eF) (by kernel_rfl) fun h6 => ?_))))))
      obtain ⟨e0, g1, H⟩ := bnd H
      exact Tr.append 38 (t := ay) (l := b6) (l2 := [(av.mk 7 (⟨#[]⟩) (au.mk 0 0) C.points 0 0 [])]) (wn rfl) rfl rfl rfl rfl (fun W hW => ⟨[[iv 7, sv ⟨#[]⟩, iv 0, iv 0, sL g C.points i, iv 0, iv 0, .slice none 0 0]], (.cons ⟨((g, i), (none, 0)), (kw.2 ⟨J, (Sl.nil _ _ _)⟩), rfl⟩ .nil), dR hW (vs := [iv 7, sv ⟨#[]⟩, iv 0, iv 0, sL g C.points i, iv 0, iv 0, .slice none 0 0]) (k := 42) rfl 0⟩) tH qF ND (by decide) Po rfl g1 fun c7 c8 e8 => (aT (ag qA) rfl (bJ 23 (cs := [sL c7 e0 c8]) [iv 1, .slice none 0 0, sL c7 e0 c8] (wn rfl) rfl rfl rfl rfl NP rfl rfl rfl (ae (aJ (aa (aI (aC bv rfl rfl (aA rfl (ae (aD a8 (I, (a4 + 1), e0, d9, c7, c8) ⟨rfl, fe a3, bF a3, H, e8⟩ (.cons rfl (.cons rfl (.cons rfl (.cons rfl (.cons rfl (.cons (congrArg (fun z => some (Value.int .i64 z)) (eZ a3 Z.form)) .nil)))))) (.r rfl)))))))))))
  | cons v P =>
   rw [kz.eq_2] at H
   refine ai (aC bg rfl rfl (ae (aa (az (eP rfl (fJ a2) (aN (aa (az (Tr.block (ai (aG rfl (fun _ _ a c => ak Jq (a.ev rfl) b1 (a.ev rfl) (Int.natCast_nonneg _) (bF a2)) (Dp (U := (dV).Ad) (fun u => (dV).ok w.O w.W u v) (fun u => (sL u.1 v u.2)) (wn rfl) rfl (Fj (κ := 2) (t := dV) (V := fun u => (sL u.1 v u.2)) rfl (gy a2) (fun _ _ u a hc => ah tT (a.ev rfl) hc rfl)) ?_))))))))))))
   intro g9 e5
   obtain ⟨b, d⟩ := g9
   have y := e5
   replace y : Sl w.O w.W aX b d v := y
   dsimp only
   refine Tr.k rfl (ae (aa (ai (aA rfl (jh (vs := [(0, sL b v d)]) (cs := [sL b v d, iv 0]) (wn rfl) rfl (bH rfl eF) (by kernel_rfl) (Tr.alloc 44 (wn rfl) rfl Rs fun c9 => (bJ 44 (cs := [sL b v d, iv 0]) [sL b v d, iv 0] (wn rfl) rfl rfl rfl rfl mH rfl rfl rfl (ae (aa (az (ai (aA rfl (aT (bz qc) rfl (aA rfl (ae (aa (Tr.block (df (σ := (List au) × Nat × Int) (fun m w s => m = s.1.length + 1 ∧ s.1 = List.drop s.2.1 v ∧ s.2.1 ≤ v.length ∧ lv M (kz N P (a7 + 1)) v s.1 s.2.1 s.2.2 = some r) (fun s => [(2, pV D), (6, sL j M o), (8, sL b v d), (9, pV c9), (28, sL A f.1 B), (29, iv (f.1.length : Int)), (30, iv (a7 : Int)), (36, sL b v d), (37, iv (v.length : Int)), (38, iv (s.2.1 : Int))]) (fun s => [(1, bx D #[iv 0, .slice none 0 0, .slice none 0 0] 26), (2, ow A B 43 dV f.1), (5, ow j o 45 aO M), (44, bx c9 #[sL b v d, iv s.2.2] 45)]) (v.length + 1) (v, 0, 0) ⟨rfl, rfl, Nat.zero_le _, H⟩ (.r rfl) (.r rfl) (fun _ _ h => absurd h.1 (by simp)) ?_))))))))))))))))))
   intro w d0 m s hs
   obtain ⟨Q, d1, S⟩ := s
   obtain ⟨d2, a0, h2, H⟩ := hs
   replace a0 : Q = List.drop d1 v := a0
   replace H : lv M (kz N P (a7 + 1)) v Q d1 S = some r := H
   replace d2 : m + 1 = Q.length + 1 := d2
   replace y := y.le d0
   replace b9 := b9.trans d0
   obtain rfl : m = Q.length := by omega
   clear d2
   dsimp only
   cases Q with
   | nil =>
    rw [lv.eq_1] at H
    refine ai (aC bg rfl rfl (ae (aa (az (eQ rfl (dZ a0) (bW (aB (aB (aR (aa (aI (aA rfl (aG rfl (fun _ _ a c => aM (cs := [sL b v d, iv S]) rE mH (a.ev rfl) (aF.take (dR c (vs := [sL b v d, iv S]) (k := 44) rfl 0) 2) rfl) (dS 49 (e := 45) (vs := [(0, .agg #[sL b v d, iv S])]) (cs := [sL b v d, iv S]) (wn rfl) rfl (bH rfl eF) (by kernel_rfl) fun h7 => ?_))))))))))))))
    obtain ⟨h0, g2, H⟩ := bnd H
    exact Tr.append 5 (t := aO) (l := M) (l2 := [(dK.mk v S)]) (wn rfl) rfl rfl rfl rfl (fun W hW => ⟨[[sL b v d, iv S]], (.cons ⟨(b, d), y, rfl⟩ .nil), dR hW (vs := [sL b v d, iv S]) (k := 49) rfl 0⟩) NM mH TJ (by decide) UC rfl g2 fun g3 g4 e9 => (Tr.k rfl (ae (aJ (aa (aI (aC bv rfl rfl (aA rfl (ae (aD b9 (P, (a7 + 1), h0, g3, g4) ⟨rfl, fe a2, bF a2, H, e9⟩ (.cons rfl (.cons rfl (.cons rfl (.cons rfl (.cons (congrArg (fun z => some (Value.int .i64 z)) (eZ a2 b1)) .nil))))) (.r rfl))))))))))
   | cons K Q =>
    rw [lv.eq_2] at H
    refine ai (aC bg rfl rfl (ae (aa (az (eP rfl (fJ a0) (aN (aa (az (Tr.block (ai (aA rfl (aG rfl (fun _ _ a c => ak qH (a.ev rfl) y.form (a.ev rfl) (Int.natCast_nonneg _) (bF a0)) (aG rfl (fun _ _ a c => aM (cs := [iv K.X, iv K.Y]) jZ gV (a.ev rfl) (aF.take (uZ jF (y.rl) (gy a0) c) 2) rfl) (Tr.alloc 50 (wn rfl) rfl vQ fun h8 => (Tr.k rfl (bJ 50 (cs := [iv K.X, iv K.Y]) [iv K.X, iv K.Y] (wn rfl) rfl rfl rfl rfl gV rfl rfl rfl (ae (aa (ai (aA rfl (aA rfl (aC bv rfl rfl (aA rfl (aT (bz qc) rfl ?_))))))))))))))))))))))))
    obtain ⟨h9, g5, H⟩ := bnd H
    refine aG rfl (fun _ _ a c => GM (a.ev rfl) (a.ev rfl) g5) ?_
    obtain ⟨L, g6, H⟩ := bnd H
    obtain ⟨f1, f2, f3⟩ := aU g6
    refine aG rfl (fun _ _ a c => ak qH (a.ev rfl) y.form (a.ev rfl) f1 f2) (aG rfl (fun _ _ a c => aM (cs := [iv L.X, iv L.Y]) jZ gV (a.ev rfl) (aF.take (uZ jF (y.rl) f3 c) 2) rfl) (Tr.alloc 51 (wn rfl) rfl vQ fun i0 => (bJ 51 (cs := [iv L.X, iv L.Y]) [iv L.X, iv L.Y] (wn rfl) rfl rfl rfl rfl gV rfl rfl rfl (ae (aa (aI (aT (ag Bl) rfl (aG rfl (fun _ _ a c => ah bT (a.ev rfl) (dR c (vs := [sL b v d, iv S]) (k := 44) rfl 1) rfl) (aT (ag nC) rfl (aG rfl (fun _ _ a c => ah bT (a.ev rfl) (dR c (vs := [iv K.X, iv K.Y]) (k := 50) rfl 0) rfl) (aT (ag lm) rfl (aG rfl (fun _ _ a c => ah bT (a.ev rfl) (dR c (vs := [iv L.X, iv L.Y]) (k := 51) rfl 1) rfl) ?_))))))))))))
    exact aC xy rfl rfl (aT (ag nC) rfl (aG rfl (fun _ _ a c => ah bT (a.ev rfl) (dR c (vs := [iv L.X, iv L.Y]) (k := 51) rfl 0) rfl) (aT (ag lm) rfl (aG rfl (fun _ _ a c => ah bT (a.ev rfl) (dR c (vs := [iv K.X, iv K.Y]) (k := 50) rfl 1) rfl) (aC xy rfl rfl (aC gH rfl rfl (aC bv rfl rfl (aT (ag Bl) rfl (bJ 44 (cs := [iv (bG (S + (bG ((bG (K.X * L.Y)) - (bG (L.X * K.Y))))))]) [sL b v d, iv (bG (S + (bG ((bG (K.X * L.Y)) - (bG (L.X * K.Y))))))] (wn rfl) rfl rfl rfl rfl zY rfl rfl rfl (ae (aJ (aa (aI (aC bv rfl rfl (aA rfl (ae (aD d0 (Q, (d1 + 1), (bG (S + (bG ((bG (K.X * L.Y)) - (bG (L.X * K.Y))))))) ⟨rfl, fe a0, bF a0, H⟩ (.cons rfl (.cons rfl (.cons rfl (.cons rfl (.cons rfl (.cons rfl (.cons rfl (.cons rfl (.cons rfl (.cons (congrArg (fun z => some (Value.int .i64 z)) (eZ a0 y.form)) .nil)))))))))) (.r rfl))))))))))))))))))

theorem sU {w : Bs} (p0 : Int) (p1 : Int) (p2 : Int) (r : Bool) (H : mE p0 p1 p2 = some r) (hE : HF w w.W E0) : Calls Tryz.prog 47 [iv p0, iv p1, iv p2].toArray w.W fun e W' => e = .returned (bV r) ∧ HF w W' E0 := by
 unfold mE at H
 have leB := Bs.Le.refl w
 refine aZ (n := 15) Tryz.func47 rfl rfl rfl hE (ai (Tr.k rfl (ae (aa (ai (aA rfl (aA rfl (aC xA rfl rfl (aA rfl (dX 4 [(14, bV ((decide (p1 ≤ p0)) && (decide (p0 ≤ p2))))] [] ?_ ?_))))))))))
 ·cases a : (decide (p1 ≤ p0))
  ·exact bf rfl (bf rfl (bf rfl (aC bE rfl rfl (ae (bu (.r rfl) .nil)))))
  ·exact dU run_move rfl (dU run_move rfl (kF oH rfl rfl (aC bD rfl rfl (ae (bu (.r rfl) .nil)))))
 ·show Tr _ _ (LF [(14, bV ((decide (p1 ≤ p0)) && (decide (p0 ≤ p2))))]) (LE []) _
  refine Tr.k rfl (ae (aa (aW ?_)))
  obtain rfl := oI H
  exact dQ leB

theorem zf {w : Bs} (p0 : Int) (p1 : Int) (r : Bool) (H : rG p0 p1 = some r) (hE : HF w w.W E0) : Calls Tryz.prog 96 [iv p0, iv p1].toArray w.W fun e W' => e = .returned (bV r) ∧ HF w W' E0 := by
 unfold rG at H
 have leB := Bs.Le.refl w
 refine aZ (n := 11) Tryz.func96 rfl rfl rfl hE (ai (Tr.k rfl (ae (aa (az (jb (by kernel_rfl) (by kernel_rfl) (dD rfl (dD rfl ?_))))))))
 obtain ⟨h, d, H⟩ := bnd H
 refine bi rfl (fun _ _ a c => Od (a.ev rfl) (a.ev rfl) d) (dD rfl ?_)
 obtain ⟨i, f, H⟩ := bnd H
 refine bi rfl (fun _ _ a c => Od (a.ev rfl) (a.ev rfl) f) ?_
 obtain ⟨b, g, H⟩ := bnd H
 refine qV (r := (bV b)) (wn rfl) rfl Tryz.call47 (aj rfl (aj rfl (aj rfl aL))) (fun W hW => sU p0 h i b g (HF.start _)) (rU rfl rfl (iE (aa (aW ?_))))
 obtain rfl := oI H
 exact dQ leB

theorem BA (N : Nat) (rec : (List av) → Option Int) (hrec : ∀ {w : Bs} (p0 : (List av)) (f : Option Addr) (g : Nat) (i : Sl w.R w.W ay f g p0) (r : Int) (H : rec p0 = some r) (hE : HF w w.W E0), Calls Tryz.prog 49 [sL f p0 g].toArray w.W fun e W' => e = .returned (iv r) ∧ HF w W' E0) {w : Bs} (p0 : (List av)) (f : Option Addr) (g : Nat) (i : Sl w.R w.W ay f g p0) (r : Int) (H : vF N rec p0 = some r) (hE : HF w w.W E0) : Calls Tryz.prog 49 [sL f p0 g].toArray w.W fun e W' => e = .returned (iv r) ∧ HF w W' E0 := by
 unfold vF at H
 have leB := Bs.Le.refl w
 refine aZ (n := 30) Tryz.func49 rfl rfl rfl hE (ai (Tr.k rfl (ae (aa (ai (Tr.k rfl (ae (aa (az (ai (aA rfl (aT (bz tH) rfl (aA rfl (ae (aa (Tr.block (df (σ := (List av) × Nat × Int) (fun m w s => m = s.1.length + 1 ∧ s.1 = List.drop s.2.1 p0 ∧ s.2.1 ≤ p0.length ∧ jB s.1 s.2.1 s.2.2 = some r) (fun s => [(3, iv s.2.2), (6, sL f p0 g), (7, iv (p0.length : Int)), (8, iv (s.2.1 : Int))]) (fun s => []) (p0.length + 1) (p0, 0, 0) ⟨rfl, rfl, Nat.zero_le _, H⟩ (.r rfl) .nil (fun _ _ h => absurd h.1 (by simp)) ?_)))))))))))))))))
 intro w y m s hs
 obtain ⟨d, v, u⟩ := s
 obtain ⟨B, j, K, H⟩ := hs
 replace j : d = List.drop v p0 := j
 replace H : jB d v u = some r := H
 replace B : m + 1 = d.length + 1 := B
 replace i := i.nL y
 replace leB := leB.trans y
 obtain rfl : m = d.length := by omega
 clear B
 dsimp only
 cases d with
 | nil =>
  rw [jB.eq_1] at H
  refine ai (aC bg rfl rfl (ae (aa (az (eQ rfl (dZ j) (bW (aB (aB (aR (aa (ai (aA rfl (Tr.k rfl (ae (aa (aW ?_))))))))))))))))
  obtain rfl := oI H
  exact dQ leB
 | cons b d =>
  rw [jB.eq_2] at H
  refine ai (aC bg rfl rfl (ae (aa (az (eP rfl (fJ j) (aN (aa (az (Tr.block (ai ?_))))))))))
  obtain ⟨J, D, C, E⟩ := (i).el (gy j)
  obtain ⟨⟨l, o⟩, ⟨q, t⟩⟩ := J
  obtain ⟨G, I⟩ := kw.1 C
  refine aG rfl (fun _ _ a c => ak wS (a.ev rfl) i.form (a.ev rfl) (Int.natCast_nonneg _) (bF j)) (aG rfl (fun _ _ a c => aM (cs := [iv b.Kind, sv b.Name, iv b.At.X, iv b.At.Y, sL l b.Points o, iv b.NX, iv b.NY, sL q b.Steps t]) yY qF (a.ev rfl) (aF.take (ut D E c) 8) rfl) (Tr.alloc 3 (wn rfl) rfl AJ fun L => (bJ 3 (cs := [iv b.Kind, sv b.Name, iv b.At.X, iv b.At.Y, sL l b.Points o, iv b.NX, iv b.NY, sL q b.Steps t]) [iv b.Kind, sv b.Name, iv b.At.X, iv b.At.Y, sL l b.Points o, iv b.NX, iv b.NY, sL q b.Steps t] (wn rfl) rfl rfl rfl rfl qF rfl rfl rfl (ae (aa (ai (aA rfl (aC bv rfl rfl (Tr.k rfl (ae (aa ?_)))))))))))
  have F := Bs.Le.refl w
  refine kT (σ := Unit) (fun w _ => pz u (jB d (v + 1)) = some r) (fun _ => [(3, iv (bG (u + 1))), (6, sL f p0 g), (7, iv (p0.length : Int)), (8, iv (v : Int))]) (fun _ => []) ?_ ?_
  ·refine ai (aT (ag xM) rfl (aG rfl (fun _ _ a c => ah tX (a.ev rfl) (dR c (vs := [iv b.Kind, sv b.Name, iv b.At.X, iv b.At.Y, sL l b.Points o, iv b.NX, iv b.NY, sL q b.Steps t]) (k := 3) rfl 7) rfl) (aT (bz tH) rfl (aC jq rfl rfl (ae (aa (aP rfl H (fun H => ?_) (fun H => ?_))))))))
   ·cases H
   ·exact aN (aD F () H (.r rfl) .nil)
  ·intro w _ A hs
   have H := hs
   replace H : pz u (jB d (v + 1)) = some r := H
   replace i := i.nL A
   replace y := y.trans A
   unfold pz at H
   show Tr _ _ (LF [(3, iv (bG (u + 1))), (6, sL f p0 g), (7, iv (p0.length : Int)), (8, iv (v : Int))]) (LE []) _
   refine ai (aA rfl (aC jq rfl rfl (ae (aa (aP rfl H (fun H => ?_) (fun H => ?_))))))
   ·refine az ?_
    cases H
   ·exact aN (aJ (aa (aI (aC bv rfl rfl (aA rfl (ae (aD y (d, (v + 1), (bG (u + 1))) ⟨rfl, fe j, bF j, H⟩ (.cons rfl (.cons rfl (.cons rfl (.cons (congrArg (fun z => some (Value.int .i64 z)) (eZ j i.form)) .nil)))) .nil)))))))
theorem yh : ∀ (N : Nat) {w : Bs} (p0 : (List av)) (a : Option Addr) (b : Nat) (c : Sl w.R w.W ay a b p0) (r : Int) (H : si N p0 = some r) (hE : HF w w.W E0), Calls Tryz.prog 49 [sL a p0 b].toArray w.W fun e W' => e = .returned (iv r) ∧ HF w W' E0
 | 0 => by intros; rename_i H _; cases H
 | N + 1 => BA N (si N) (yh N)

theorem AA {w : Bs} (p0 : Int) (r : zI) (H : pu p0 = some r) (hE : HF w w.W E0) : Calls Tryz.prog 134 [iv p0].toArray w.W fun e W' => e = .returned (.agg #[bV r.name, bV r.at_, bV r.points, bV r.repeat_]) ∧ HF w W' E0 := by
 unfold pu at H
 have leB := Bs.Le.refl w
 refine aZ (n := 19) Tryz.func134 rfl rfl rfl hE (ai (Tr.alloc 1 (wn rfl) rfl NF fun b => (ae (aa (az (ai (aA rfl (ae (aa (Tr.block (ai (aC dL rfl rfl (Tr.k rfl (ae (aa (aP rfl H (fun H => ?_) (fun H => ?_)))))))))))))))))
 ·refine az ?_
  cases H
 ·have a := Bs.Le.refl w
  refine kT (σ := Bool) (fun w s => lh p0 s = some r) (fun s => [(2, pV b), (3, iv p0), (7, bV s)]) (fun s => [(1, bx b #[bV false, bV false, bV false, bV false] 185)]) ?_ ?_
  ·refine ai (aC dL rfl rfl (Tr.k rfl (ae (aa (aP rfl H (fun H => ?_) (fun H => ?_))))))
   ·exact aN (aD a (p0 == 4) H (.r rfl) (.r rfl))
   ·refine ai (aC dL rfl rfl (Tr.k rfl (ae (aa (aP rfl H (fun H => ?_) (fun H => ?_))))))
    ·exact aN (aD a (p0 == 5) H (.r rfl) (.r rfl))
    ·exact aI (aC dL rfl rfl (Tr.k rfl (ae (aD a (p0 == 6) H (.r rfl) (.r rfl)))))
  ·intro w c d hs
   have H := hs
   replace H : lh p0 c = some r := H
   replace leB := leB.trans d
   unfold lh at H
   show Tr _ _ (LF [(2, pV b), (3, iv p0), (7, bV c)]) (LE [(1, bx b #[bV false, bV false, bV false, bV false] 185)]) _
   refine aP rfl H (fun H => ?_) (fun H => ?_)
   ·refine az ?_
    cases H
   ·refine ai (aC dL rfl rfl (Tr.k rfl (ae (aa (aP rfl H (fun H => ?_) (fun H => ?_))))))
    ·refine ai (jh (vs := [(2, bV true)]) (cs := [bV false, bV false, bV true, bV false]) (wn rfl) rfl (bH rfl eF) (by kernel_rfl) (bJ 1 (cs := [bV false, bV false, bV true, bV false]) [bV false, bV false, bV true, bV false] (wn rfl) rfl rfl rfl rfl DD rfl rfl rfl (ae (aa (aW (bL (aK ?_)))))))
     obtain rfl := oI H
     exact Tr.out (m := [.agg #[bV false, bV false, bV true, bV false]]) [1] (og rfl rfl PE DD bO) (fun W hW => ⟨rfl, hW.low leB⟩)
    ·refine ai (aC dL rfl rfl (Tr.k rfl (ae (aa (aP rfl H (fun H => ?_) (fun H => ?_))))))
     ·refine az ?_
      cases H
     ·refine aN (aJ (aa (ai (jh (vs := []) (cs := [bV false, bV false, bV false, bV false]) (wn rfl) rfl eF (by kernel_rfl) (bJ 1 (cs := [bV false, bV false, bV false, bV false]) [bV false, bV false, bV false, bV false] (wn rfl) rfl rfl rfl rfl DD rfl rfl rfl (ae (aa (aW ?_))))))))
      obtain rfl := oI H
      exact Tr.out (m := [.agg #[bV false, bV false, bV false, bV false]]) [1] (og rfl rfl PE DD bO) (fun W hW => ⟨rfl, hW.low leB⟩)

theorem Cr {w : Bs} (p0 : gu) (a : Option Addr) (b : Nat) (f : Sl w.R w.W aY a b p0.Tools) (c : Option Addr) (d : Nat) (g : Sl w.R w.W ay c d p0.Steps) (p1 : ByteArray) (r : Int) (H : wG p0 p1 = some r) (hE : HF w w.W E0) : Calls Tryz.prog 135 [.agg #[iv p0.Unit, sL a p0.Tools b, sL c p0.Steps d], sv p1].toArray w.W fun e W' => e = .returned (iv r) ∧ HF w W' E0 := by
 unfold wG at H
 refine aZ (n := 9) Tryz.func135 rfl rfl rfl hE (az ?_)
 cases H

theorem wu {w : Bs} (p0 : au) (p1 : Int) (r : Bool) (H : lI p0 p1 = some r) (hE : HF w w.W E0) : Calls Tryz.prog 136 [.agg #[iv p0.X, iv p0.Y], iv p1].toArray w.W fun e W' => e = .returned (bV r) ∧ HF w W' E0 := by
 unfold lI at H
 have leB := Bs.Le.refl w
 refine aZ (n := 15) Tryz.func136 rfl rfl rfl hE (ai (gN 1 (cs := [iv p0.X, iv p0.Y]) (wn rfl) rfl rfl rfl fun g => (Tr.k rfl (ae (aa (ai (aT (ag nC) rfl (aG rfl (fun _ _ a c => ah bT (a.ev rfl) (dR c (vs := [iv p0.X, iv p0.Y]) (k := 1) rfl 0) rfl) (aA rfl ?_)))))))))
 obtain ⟨d, j, H⟩ := bnd H
 refine di (r := (bV d)) (wn rfl) rfl Tryz.call96 (aj rfl (aj rfl aL)) (fun W hW => zf p0.X p1 d j (HF.start _)) (aA rfl ?_)
 obtain ⟨h, b, H⟩ := bnd H
 refine dX 5 [(14, bV h)] [(1, bx g #[iv p0.X, iv p0.Y] 47)] ?_ ?_
 ·cases f : d
  ·rw [f] at b
   rw [if_neg (by decide)] at b
   have H := b
   obtain rfl := oI H
   exact bf rfl (bf rfl (bf rfl (bf rfl (aC bE rfl rfl (ae (bu (.r rfl) (.r rfl)))))))
  ·rw [f] at b
   rw [if_pos rfl] at b
   have H := b
   refine dU (ag lm) rfl (Tr.x (fun _ _ a c => ah bT (a.ev rfl) (dR c (vs := [iv p0.X, iv p0.Y]) (k := 1) rfl 1) rfl) (dU run_move rfl ?_))
   obtain ⟨i, l, H⟩ := bnd H
   refine di (r := (bV i)) (wg rfl rfl rfl) rfl Tryz.call96 (aj rfl (aj rfl aL)) (fun W hW => zf p0.Y p1 i l (HF.start _)) (aC bD rfl rfl ?_)
   obtain rfl := oI H
   exact ae (bu (.r rfl) (.r rfl))
 ·show Tr _ _ (LF [(14, bV h)]) (LE [(1, bx g #[iv p0.X, iv p0.Y] 47)]) _
  refine Tr.k rfl (ae (aa (aW ?_)))
  obtain rfl := oI H
  exact dQ leB

theorem yu {w : Bs} (p0 : au) (q0 : gu) (Aq0_0 : Option Addr) (cq0_0 : Nat) (OP : Sl w.R w.W aY Aq0_0 cq0_0 q0.Tools) (Aq0_1 : Option Addr) (cq0_1 : Nat) (VH : Sl w.R w.W ay Aq0_1 cq0_1 q0.Steps) (iW : Nat) (hb0 : w.R iW) (hc0 : aF w.W iW 0 [iv q0.Unit, sL Aq0_0 q0.Tools cq0_0, sL Aq0_1 q0.Steps cq0_1]) (r : Bool) (H : iI p0 q0 = some r) (hE : HF w w.W E0) : Calls Tryz.prog 138 [.agg #[iv p0.X, iv p0.Y], pV iW].toArray w.W fun e W' => e = .returned (bV r) ∧ HF w W' E0 := by
 unfold iI at H
 have leB := Bs.Le.refl w
 refine aZ (n := 9) Tryz.func138 rfl rfl rfl hE (ai (gN 1 (cs := [iv p0.X, iv p0.Y]) (wn rfl) rfl rfl rfl fun f => (Tr.k rfl (ae (aa (ai (aG rfl (fun _ _ a c => aM (cs := [iv p0.X, iv p0.Y]) jZ gV (a.ev rfl) (aF.take (dR c (vs := [iv p0.X, iv p0.Y]) (k := 1) rfl 0) 2) rfl) (aT (ag uD) rfl (aG rfl (fun _ _ a c => ah bT (a.ev rfl) (aF.drop (ut hb0 hc0 c) 0) rfl) ?_)))))))))
 obtain ⟨b, d, H⟩ := bnd H
 refine di (r := (bV b)) (wn rfl) rfl Tryz.call136 (aj rfl (aj rfl aL)) (fun W hW => wu p0 q0.Unit b d (HF.start _)) (aT jC rfl (Tr.k rfl (ae (aa (aW ?_)))))
 obtain rfl := oI H
 exact dQ leB

theorem uI {w : Bs} (p0 : (List au)) (g : Option Addr) (i : Nat) (f : Sl w.R w.W aX g i p0) (p1 : au → Option Bool) (fid1 : Nat) (j : List Value) (hg1 : ∀ args W, (callFunc fid1 args).run Tryz.prog W = .ok (.enter fid1 args) W) (hf1 : ∀ (w' : Bs), w.Ext w' → ∀ (z0 : au), ∀ y, p1 z0 = some y → Calls Tryz.prog fid1 (([.agg #[iv z0.X, iv z0.Y]] : List Value) ++ j).toArray w'.W fun e W'' => e = .returned (bV y) ∧ HF w' W'' E0) (r : Int) (H : ko p0 p1 = some r) (hE : HF w w.W E0) : Calls Tryz.prog 192 [sL g p0 i, .func (.func fid1) #[] j.toArray].toArray w.W fun e W' => e = .returned (iv r) ∧ HF w W' E0 := by
 unfold ko at H
 have leB := Bs.Le.refl w
 refine aZ (n := 19) Tryz.func192 rfl rfl rfl hE (ai (Tr.k rfl (ae (aa (az (ai (aA rfl (aT (bz qc) rfl (aA rfl (ae (aa (Tr.block (df (σ := (List au) × Nat) (fun m w s => m = s.1.length + 1 ∧ s.1 = List.drop s.2 p0 ∧ s.2 ≤ p0.length ∧ dY p1 s.1 s.2 = some r) (fun s => [(0, sL g p0 i), (1, .func (.func fid1) #[] j.toArray), (7, iv (p0.length : Int)), (8, iv (s.2 : Int))]) (fun s => []) (p0.length + 1) (p0, 0) ⟨rfl, rfl, Nat.zero_le _, H⟩ (.r rfl) .nil (fun _ _ h => absurd h.1 (by simp)) ?_)))))))))))))
 intro w l m s hs
 obtain ⟨b, q⟩ := s
 obtain ⟨o, d, A, H⟩ := hs
 replace d : b = List.drop q p0 := d
 replace H : dY p1 b q = some r := H
 replace o : m + 1 = b.length + 1 := o
 replace f := f.nL l
 replace hf1 := fun w' he => hf1 w' (l.ext.trans he)
 replace leB := leB.trans l
 obtain rfl : m = b.length := by omega
 clear o
 dsimp only
 cases b with
 | nil =>
  rw [dY.eq_1] at H
  refine ai (aC bg rfl rfl (ae (aa (az (eQ rfl (dZ d) (bW (aB (aB (aR (aa (ai (Tr.k rfl (ae (aa (aW ?_)))))))))))))))
  obtain rfl := oI H
  exact dQ leB
 | cons t b =>
  rw [dY.eq_2] at H
  refine ai (aC bg rfl rfl (ae (aa (az (eP rfl (fJ d) (aN (aa (az (Tr.block (ai (aA rfl (Tr.k rfl (ae (aa (ai (aA rfl (aA rfl (aA rfl (aG rfl (fun _ _ a c => ak qH (a.ev rfl) f.form (a.ev rfl) (Int.natCast_nonneg _) (bF d)) (aG rfl (fun _ _ a c => aM (cs := [iv t.X, iv t.Y]) jZ gV (a.ev rfl) (aF.take (uZ jF f (gy d) c) 2) rfl) ?_))))))))))))))))))))
  obtain ⟨v, u, H⟩ := bnd H
  refine vw (r := (bV v)) (wn rfl) rfl rfl hg1 (aj rfl aL) (fun W hW => hf1 hW.all hW.cB t _ u) (ae (aa (aP rfl H (fun H => ?_) (fun H => ?_))))
  ·refine ai (aA rfl (Tr.k rfl (ae (aa (aW (bL (aK (aK (bL (aK ?_))))))))))
   obtain rfl := oI H
   exact dQ leB
  ·exact aN (aJ (aa (aI (aC bv rfl rfl (aA rfl (ae (aD l (b, (q + 1)) ⟨rfl, fe d, bF d, H⟩ (.cons rfl (.cons rfl (.cons rfl (.cons (congrArg (fun z => some (Value.int .i64 z)) (eZ d f.form)) .nil)))) .nil)))))))

theorem oq {w : Bs} (p0 : (List au)) (a : Option Addr) (b : Nat) (f : Sl w.R w.W aX a b p0) (p1 : au → Option Bool) (fid1 : Nat) (c : List Value) (hg1 : ∀ args W, (callFunc fid1 args).run Tryz.prog W = .ok (.enter fid1 args) W) (hf1 : ∀ (w' : Bs), w.Ext w' → ∀ (z0 : au), ∀ y, p1 z0 = some y → Calls Tryz.prog fid1 (([.agg #[iv z0.X, iv z0.Y]] : List Value) ++ c).toArray w'.W fun e W'' => e = .returned (bV y) ∧ HF w' W'' E0) (r : Bool) (H : dC p0 p1 = some r) (hE : HF w w.W E0) : Calls Tryz.prog 137 [sL a p0 b, .func (.func fid1) #[] c.toArray].toArray w.W fun e W' => e = .returned (bV r) ∧ HF w W' E0 := by
 unfold dC at H
 have leB := Bs.Le.refl w
 refine aZ (n := 9) Tryz.func137 rfl rfl rfl hE (ai (Tr.k rfl (ae (aa (ai (aA rfl (aA rfl ?_)))))))
 obtain ⟨d, g, H⟩ := bnd H
 refine di (r := (iv d)) (wn rfl) rfl Tryz.call192 (aj rfl (aj rfl aL)) (fun W hW => uI p0 a b (f.ext hW.cB) p1 fid1 c hg1 (fun w' he => hf1 w' (hW.cB.trans he)) d g (HF.start _)) (aC xA rfl rfl (Tr.k rfl (ae (aa (aW ?_)))))
 obtain rfl := oI H
 exact dQ leB

theorem Cq {w : Bs} (p0 : (List au)) (i : Option Addr) (j : Nat) (f : Sl w.R w.W aX i j p0) (r : Bool) (H : nQ p0 = some r) (hE : HF w w.W E0) : Calls Tryz.prog 139 [sL i p0 j].toArray w.W fun e W' => e = .returned (bV r) ∧ HF w W' E0 := by
 unfold nQ at H
 have leB := Bs.Le.refl w
 refine aZ (n := 36) Tryz.func139 rfl rfl rfl hE (ai (Tr.k rfl (ae (aa (az (ai (aA rfl (aT (bz qc) rfl (aC bg rfl rfl (ae (aa (aP rfl H (fun H => ?_) (fun H => ?_)))))))))))))
 ·refine ai (Tr.k rfl (ae (aa (aW (aK ?_)))))
  obtain rfl := oI H
  exact dQ leB
 ·refine aN (aa (az (ai (aA rfl (aT (bz qc) rfl (aA rfl (ae (aa (Tr.block (df (σ := (List au) × Nat) (fun m w s => m = s.1.length + 1 ∧ s.1 = List.drop s.2 p0 ∧ s.2 ≤ p0.length ∧ kJ p0 s.1 s.2 = some r) (fun s => [(0, sL i p0 j), (9, sL i p0 j), (10, iv (p0.length : Int)), (11, iv (s.2 : Int))]) (fun s => []) (p0.length + 1) (p0, 0) ⟨rfl, rfl, Nat.zero_le _, H⟩ (.r rfl) .nil (fun _ _ h => absurd h.1 (by simp)) ?_))))))))))
  intro w o m s hs
  obtain ⟨b, t⟩ := s
  obtain ⟨q, g, C, H⟩ := hs
  replace g : b = List.drop t p0 := g
  replace H : kJ p0 b t = some r := H
  replace q : m + 1 = b.length + 1 := q
  replace f := f.nL o
  replace leB := leB.trans o
  obtain rfl : m = b.length := by omega
  clear q
  dsimp only
  cases b with
  | nil =>
   rw [kJ.eq_1] at H
   refine ai (aC bg rfl rfl (ae (aa (az (eQ rfl (dZ g) (bW (aB (aB (aR (aa (ai (Tr.k rfl (ae (aa (aW ?_)))))))))))))))
   obtain rfl := oI H
   exact dQ leB
  | cons l b =>
   rw [kJ.eq_2] at H
   refine ai (aC bg rfl rfl (ae (aa (az (eP rfl (fJ g) (aN (aa (az (Tr.block (ai (aA rfl (aG rfl (fun _ _ a c => ak qH (a.ev rfl) f.form (a.ev rfl) (Int.natCast_nonneg _) (bF g)) (aG rfl (fun _ _ a c => aM (cs := [iv l.X, iv l.Y]) jZ gV (a.ev rfl) (aF.take (uZ jF f (gy g) c) 2) rfl) (Tr.alloc 3 (wn rfl) rfl vQ fun D => (Tr.k rfl (bJ 3 (cs := [iv l.X, iv l.Y]) [iv l.X, iv l.Y] (wn rfl) rfl rfl rfl rfl gV rfl rfl rfl (ae (aa (ai (aA rfl (aA rfl (aC bv rfl rfl (aA rfl (aT (bz qc) rfl ?_))))))))))))))))))))))))
   obtain ⟨E, A, H⟩ := bnd H
   refine aG rfl (fun _ _ a c => GM (a.ev rfl) (a.ev rfl) A) ?_
   obtain ⟨d, B, H⟩ := bnd H
   obtain ⟨u, v, y⟩ := aU B
   refine aG rfl (fun _ _ a c => ak qH (a.ev rfl) f.form (a.ev rfl) u v) (aG rfl (fun _ _ a c => aM (cs := [iv d.X, iv d.Y]) jZ gV (a.ev rfl) (aF.take (uZ jF f y c) 2) rfl) (Tr.alloc 4 (wn rfl) rfl vQ fun F => (bJ 4 (cs := [iv d.X, iv d.Y]) [iv d.X, iv d.Y] (wn rfl) rfl rfl rfl rfl gV rfl rfl rfl (ae (aa (ai (aT (ag nC) rfl (aG rfl (fun _ _ a c => ah bT (a.ev rfl) (dR c (vs := [iv l.X, iv l.Y]) (k := 3) rfl 0) rfl) (aT (ag nC) rfl (aG rfl (fun _ _ a c => ah bT (a.ev rfl) (dR c (vs := [iv d.X, iv d.Y]) (k := 4) rfl 0) rfl) (aC dL rfl rfl (aT (ag lm) rfl (aG rfl (fun _ _ a c => ah bT (a.ev rfl) (dR c (vs := [iv l.X, iv l.Y]) (k := 3) rfl 1) rfl) ?_)))))))))))))
   refine aT (ag lm) rfl (aG rfl (fun _ _ a c => ah bT (a.ev rfl) (dR c (vs := [iv d.X, iv d.Y]) (k := 4) rfl 1) rfl) (aC dL rfl rfl (aC (Oc TR) rfl rfl (ae (aa (aP rfl H (fun H => ?_) (fun H => ?_)))))))
   ·refine ai (Tr.k rfl (ae (aa (aW (bL (aK (aK (bL (aK ?_)))))))))
    obtain rfl := oI H
    exact dQ leB
   ·exact aN (aJ (aa (aI (aC bv rfl rfl (aA rfl (ae (aD o (b, (t + 1)) ⟨rfl, fe g, bF g, H⟩ (.cons rfl (.cons rfl (.cons rfl (.cons (congrArg (fun z => some (Value.int .i64 z)) (eZ g f.form)) .nil)))) .nil)))))))

theorem zQ {w : Bs} (p0 : gu) (o : Option Addr) (q : Nat) (E : Sl w.R w.W aY o q p0.Tools) (t : Option Addr) (u : Nat) (F : Sl w.R w.W ay t u p0.Steps) (p1 : av) (d : Option Addr) (f : Nat) (G : Sl w.R w.W aX d f p1.Points) (g : Option Addr) (h : Nat) (a1 : Sl w.R w.W ay g h p1.Steps) (p2 : Int) (r : Int) (H : kQ p0 p1 p2 = some r) (hE : HF w w.W E0) : Calls Tryz.prog 98 [.agg #[iv p0.Unit, sL o p0.Tools q, sL t p0.Steps u], .agg #[iv p1.Kind, sv p1.Name, iv p1.At.X, iv p1.At.Y, sL d p1.Points f, iv p1.NX, iv p1.NY, sL g p1.Steps h], iv p2].toArray w.W fun e W' => e = .returned (iv r) ∧ HF w W' E0 := by
 unfold kQ at H
 have leB := Bs.Le.refl w
 refine aZ (n := 120) Tryz.func98 rfl rfl rfl hE (ai (gN 1 (cs := [iv p0.Unit, sL o p0.Tools q, sL t p0.Steps u]) (wn rfl) rfl rfl rfl fun l => (gN 2 (cs := [iv p1.Kind, sv p1.Name, iv p1.At.X, iv p1.At.Y, sL d p1.Points f, iv p1.NX, iv p1.NY, sL g p1.Steps h]) (wn rfl) rfl rfl rfl fun i => (Tr.k rfl (ae (aa (az (ai (aT (ag qZ) rfl (aG rfl (fun _ _ a c => ah bT (a.ev rfl) (dR c (vs := [iv p1.Kind, sv p1.Name, iv p1.At.X, iv p1.At.Y, sL d p1.Points f, iv p1.NX, iv p1.NY, sL g p1.Steps h]) (k := 2) rfl 0) rfl) ?_))))))))))
 obtain ⟨J, S, H⟩ := bnd H
 refine di (r := (bV J)) (wn rfl) rfl Tryz.call47 (aj rfl (aj rfl (aj rfl aL))) (fun W hW => sU p1.Kind 1 8 J S (HF.start _)) (aT jC rfl (ae (aa (aP rfl H (fun H => ?_) (fun H => ?_)))))
 ·refine ai (Tr.k rfl (ae (aa (aW (aK ?_)))))
  obtain rfl := oI H
  exact dQ leB
 ·refine aN (aa (ai (aT (ag qZ) rfl (aG rfl (fun _ _ a c => ah bT (a.ev rfl) (dR c (vs := [iv p1.Kind, sv p1.Name, iv p1.At.X, iv p1.At.Y, sL d p1.Points f, iv p1.NX, iv p1.NY, sL g p1.Steps h]) (k := 2) rfl 0) rfl) ?_))))
  obtain ⟨b, T, H⟩ := bnd H
  refine di (r := (.agg #[bV b.name, bV b.at_, bV b.points, bV b.repeat_])) (wn rfl) rfl Tryz.call134 (aj rfl aL) (fun W hW => AA p1.Kind b T (HF.start _)) (Tr.alloc 3 (wn rfl) rfl NF fun j => (bJ 3 (cs := [bV b.name, bV b.at_, bV b.points, bV b.repeat_]) [bV b.name, bV b.at_, bV b.points, bV b.repeat_] (wn rfl) rfl rfl rfl rfl DD rfl rfl rfl (ae (aa (az (Tr.block ?_))))))
  have C := Bs.Le.refl w
  refine kT (σ := Bool) (fun w s => iL p0 p1 b s = some r) (fun s => [(2, iv p2), (3, pV l), (4, pV i), (7, pV j), (15, bV s)]) (fun s => [(1, bx l #[iv p0.Unit, sL o p0.Tools q, sL t p0.Steps u] 26), (2, bx i #[iv p1.Kind, sv p1.Name, iv p1.At.X, iv p1.At.Y, sL d p1.Points f, iv p1.NX, iv p1.NY, sL g p1.Steps h] 53), (3, bx j #[bV b.name, bV b.at_, bV b.points, bV b.repeat_] 185)]) ?_ ?_
  ·refine ai (aT (ag Jj) rfl (aG rfl (fun _ _ a c => ah Fu (a.ev rfl) (dR c (vs := [bV b.name, bV b.at_, bV b.points, bV b.repeat_]) (k := 3) rfl 0) rfl) (aT jC rfl (aA rfl (dX 4 [(2, iv p2), (3, pV l), (4, pV i), (7, pV j), (23, bV ((!b.name) && (!AC p1.Name ByteArray.empty)))] [(1, bx l #[iv p0.Unit, sL o p0.Tools q, sL t p0.Steps u] 26), (2, bx i #[iv p1.Kind, sv p1.Name, iv p1.At.X, iv p1.At.Y, sL d p1.Points f, iv p1.NX, iv p1.NY, sL g p1.Steps h] 53), (3, bx j #[bV b.name, bV b.at_, bV b.points, bV b.repeat_] 185)] ?_ ?_)))))
   ·cases v : (!b.name)
    ·exact bf rfl (bf rfl (bf rfl (aC bE rfl rfl (ae (bu (.r rfl) (.r rfl))))))
    ·exact dU (ag Df) rfl (Tr.x (fun _ _ a c => ah Rh (a.ev rfl) (dR c (vs := [iv p1.Kind, sv p1.Name, iv p1.At.X, iv p1.At.Y, sL d p1.Points f, iv p1.NX, iv p1.NY, sL g p1.Steps h]) (k := 2) rfl 1) rfl) (kF IG rfl rfl (aC bD rfl rfl (ae (bu (.r rfl) (.r rfl))))))
   ·show Tr _ _ (LF [(2, iv p2), (3, pV l), (4, pV i), (7, pV j), (23, bV ((!b.name) && (!AC p1.Name ByteArray.empty)))]) (LE [(1, bx l #[iv p0.Unit, sL o p0.Tools q, sL t p0.Steps u] 26), (2, bx i #[iv p1.Kind, sv p1.Name, iv p1.At.X, iv p1.At.Y, sL d p1.Points f, iv p1.NX, iv p1.NY, sL g p1.Steps h] 53), (3, bx j #[bV b.name, bV b.at_, bV b.points, bV b.repeat_] 185)]) _
    refine Tr.k rfl (ae (aa (aP rfl H (fun H => ?_) (fun H => ?_))))
    ·exact aN (aD C ((!b.name) && (!AC p1.Name ByteArray.empty)) H (.r rfl) (.r rfl))
    ·refine ai (aT (ag OW) rfl (aG rfl (fun _ _ a c => ah Fu (a.ev rfl) (dR c (vs := [bV b.name, bV b.at_, bV b.points, bV b.repeat_]) (k := 3) rfl 1) rfl) (aT jC rfl (aA rfl (dX 5 [(2, iv p2), (3, pV l), (4, pV i), (7, pV j), (32, bV ((!b.at_) && (!(gz p1.At (au.mk 0 0)))))] [(1, bx l #[iv p0.Unit, sL o p0.Tools q, sL t p0.Steps u] 26), (2, bx i #[iv p1.Kind, sv p1.Name, iv p1.At.X, iv p1.At.Y, sL d p1.Points f, iv p1.NX, iv p1.NY, sL g p1.Steps h] 53), (3, bx j #[bV b.name, bV b.at_, bV b.points, bV b.repeat_] 185)] ?_ ?_)))))
     ·cases v : (!b.at_)
      ·exact bf rfl (bf rfl (bf rfl (bf rfl (aC bE rfl rfl (ae (bu (.r rfl) (.r rfl)))))))
      ·exact dU (ag xN) rfl (Tr.x (fun _ _ a c => aM (cs := [iv p1.At.X, iv p1.At.Y]) jZ gV (a.ev rfl) (aF.take (dR c (vs := [iv p1.Kind, sv p1.Name, iv p1.At.X, iv p1.At.Y, sL d p1.Points f, iv p1.NX, iv p1.NY, sL g p1.Steps h]) (k := 2) rfl 2) 2) rfl) (jh (vs := []) (cs := [iv 0, iv 0]) (wg rfl rfl rfl) rfl eF (by kernel_rfl) (ME (wg rfl rfl rfl) rfl (xx p1.At (au.mk 0 0)) rfl rfl (aC bD rfl rfl (ae (bu (.r rfl) (.r rfl)))))))
     ·show Tr _ _ (LF [(2, iv p2), (3, pV l), (4, pV i), (7, pV j), (32, bV ((!b.at_) && (!(gz p1.At (au.mk 0 0)))))]) (LE [(1, bx l #[iv p0.Unit, sL o p0.Tools q, sL t p0.Steps u] 26), (2, bx i #[iv p1.Kind, sv p1.Name, iv p1.At.X, iv p1.At.Y, sL d p1.Points f, iv p1.NX, iv p1.NY, sL g p1.Steps h] 53), (3, bx j #[bV b.name, bV b.at_, bV b.points, bV b.repeat_] 185)]) _
      refine Tr.k rfl (ae (aa (aP rfl H (fun H => ?_) (fun H => ?_))))
      ·exact aN (aD C ((!b.at_) && (!(gz p1.At (au.mk 0 0)))) H (.r rfl) (.r rfl))
      ·refine ai (aT (ag Ji) rfl (aG rfl (fun _ _ a c => ah Fu (a.ev rfl) (dR c (vs := [bV b.name, bV b.at_, bV b.points, bV b.repeat_]) (k := 3) rfl 2) rfl) (aT jC rfl (aA rfl (dX 5 [(2, iv p2), (3, pV l), (4, pV i), (7, pV j), (41, bV ((!b.points) && (decide (0 < (p1.Points.length : Int)))))] [(1, bx l #[iv p0.Unit, sL o p0.Tools q, sL t p0.Steps u] 26), (2, bx i #[iv p1.Kind, sv p1.Name, iv p1.At.X, iv p1.At.Y, sL d p1.Points f, iv p1.NX, iv p1.NY, sL g p1.Steps h] 53), (3, bx j #[bV b.name, bV b.at_, bV b.points, bV b.repeat_] 185)] ?_ ?_)))))
       ·cases v : (!b.points)
        ·exact bf rfl (bf rfl (bf rfl (bf rfl (aC bE rfl rfl (ae (bu (.r rfl) (.r rfl)))))))
        ·exact dU (ag qY) rfl (Tr.x (fun _ _ a c => ah tT (a.ev rfl) (dR c (vs := [iv p1.Kind, sv p1.Name, iv p1.At.X, iv p1.At.Y, sL d p1.Points f, iv p1.NX, iv p1.NY, sL g p1.Steps h]) (k := 2) rfl 4) rfl) (dU (bz qc) rfl (kF jq rfl rfl (aC bD rfl rfl (ae (bu (.r rfl) (.r rfl)))))))
       ·show Tr _ _ (LF [(2, iv p2), (3, pV l), (4, pV i), (7, pV j), (41, bV ((!b.points) && (decide (0 < (p1.Points.length : Int)))))]) (LE [(1, bx l #[iv p0.Unit, sL o p0.Tools q, sL t p0.Steps u] 26), (2, bx i #[iv p1.Kind, sv p1.Name, iv p1.At.X, iv p1.At.Y, sL d p1.Points f, iv p1.NX, iv p1.NY, sL g p1.Steps h] 53), (3, bx j #[bV b.name, bV b.at_, bV b.points, bV b.repeat_] 185)]) _
        refine Tr.k rfl (ae (aa (aP rfl H (fun H => ?_) (fun H => ?_))))
        ·exact aN (aD C ((!b.points) && (decide (0 < (p1.Points.length : Int)))) H (.r rfl) (.r rfl))
        ·refine aI (aT (ag Jh) rfl (aG rfl (fun _ _ a c => ah Fu (a.ev rfl) (dR c (vs := [bV b.name, bV b.at_, bV b.points, bV b.repeat_]) (k := 3) rfl 3) rfl) (aT jC rfl (aA rfl (dX 15 [(2, iv p2), (3, pV l), (4, pV i), (7, pV j), (60, bV ((!b.repeat_) && (((p1.NX != 0) || (p1.NY != 0)) || (decide (0 < (p1.Steps.length : Int))))))] [(1, bx l #[iv p0.Unit, sL o p0.Tools q, sL t p0.Steps u] 26), (2, bx i #[iv p1.Kind, sv p1.Name, iv p1.At.X, iv p1.At.Y, sL d p1.Points f, iv p1.NX, iv p1.NY, sL g p1.Steps h] 53), (3, bx j #[bV b.name, bV b.at_, bV b.points, bV b.repeat_] 185)] ?_ ?_)))))
         ·cases v : (!b.repeat_)
          ·refine bf rfl (bf rfl (bf rfl (bf rfl (tY rfl (tY rfl (tY rfl ?_))))))
           refine bf rfl (bf rfl (tY rfl (tY rfl (tY rfl (tY rfl (bf rfl ?_))))))
           exact aC bE rfl rfl (ae (bu (.r rfl) (.r rfl)))
          ·refine dU (ag Hw) rfl (Tr.x (fun _ _ a c => ah bT (a.ev rfl) (dR c (vs := [iv p1.Kind, sv p1.Name, iv p1.At.X, iv p1.At.Y, sL d p1.Points f, iv p1.NX, iv p1.NY, sL g p1.Steps h]) (k := 2) rfl 5) rfl) (kF jD rfl rfl (dU run_move rfl (dX 4 [(2, iv p2), (3, pV l), (4, pV i), (7, pV j), (45, bV true), (53, bV ((p1.NX != 0) || (p1.NY != 0)))] [(1, bx l #[iv p0.Unit, sL o p0.Tools q, sL t p0.Steps u] 26), (2, bx i #[iv p1.Kind, sv p1.Name, iv p1.At.X, iv p1.At.Y, sL d p1.Points f, iv p1.NX, iv p1.NY, sL g p1.Steps h] 53), (3, bx j #[bV b.name, bV b.at_, bV b.points, bV b.repeat_] 185)] ?_ ?_))))
           ·cases v : (p1.NX != 0)
            ·exact dU (ag Hu) rfl (Tr.x (fun _ _ a c => ah bT (a.ev rfl) (dR c (vs := [iv p1.Kind, sv p1.Name, iv p1.At.X, iv p1.At.Y, sL d p1.Points f, iv p1.NX, iv p1.NY, sL g p1.Steps h]) (k := 2) rfl 6) rfl) (kF jD rfl rfl (kF bE rfl rfl (ae (bu (.r rfl) (.r rfl))))))
            ·exact bf rfl (bf rfl (bf rfl (kF bD rfl rfl (ae (bu (.r rfl) (.r rfl))))))
           ·dsimp only
            refine dU run_move rfl (dX 5 [(2, iv p2), (3, pV l), (4, pV i), (7, pV j), (45, bV true), (59, bV (((p1.NX != 0) || (p1.NY != 0)) || (decide (0 < (p1.Steps.length : Int)))))] [(1, bx l #[iv p0.Unit, sL o p0.Tools q, sL t p0.Steps u] 26), (2, bx i #[iv p1.Kind, sv p1.Name, iv p1.At.X, iv p1.At.Y, sL d p1.Points f, iv p1.NX, iv p1.NY, sL g p1.Steps h] 53), (3, bx j #[bV b.name, bV b.at_, bV b.points, bV b.repeat_] 185)] ?_ ?_)
            ·cases v : ((p1.NX != 0) || (p1.NY != 0))
             ·exact dU (ag xM) rfl (Tr.x (fun _ _ a c => ah tX (a.ev rfl) (dR c (vs := [iv p1.Kind, sv p1.Name, iv p1.At.X, iv p1.At.Y, sL d p1.Points f, iv p1.NX, iv p1.NY, sL g p1.Steps h]) (k := 2) rfl 7) rfl) (dU (bz tH) rfl (kF jq rfl rfl (kF bE rfl rfl (ae (bu (.r rfl) (.r rfl)))))))
             ·exact bf rfl (bf rfl (bf rfl (bf rfl (kF bD rfl rfl (ae (bu (.r rfl) (.r rfl)))))))
            ·dsimp only
             exact aC bD rfl rfl (ae (bu (.r rfl) (.r rfl)))
         ·show Tr _ _ (LF [(2, iv p2), (3, pV l), (4, pV i), (7, pV j), (60, bV ((!b.repeat_) && (((p1.NX != 0) || (p1.NY != 0)) || (decide (0 < (p1.Steps.length : Int))))))]) (LE [(1, bx l #[iv p0.Unit, sL o p0.Tools q, sL t p0.Steps u] 26), (2, bx i #[iv p1.Kind, sv p1.Name, iv p1.At.X, iv p1.At.Y, sL d p1.Points f, iv p1.NX, iv p1.NY, sL g p1.Steps h] 53), (3, bx j #[bV b.name, bV b.at_, bV b.points, bV b.repeat_] 185)]) _
          exact Tr.k rfl (ae (aD C ((!b.repeat_) && (((p1.NX != 0) || (p1.NY != 0)) || (decide (0 < (p1.Steps.length : Int))))) H (.r rfl) (.r rfl)))
  ·intro w K D hs
   have H := hs
   replace H : iL p0 p1 b K = some r := H
   replace E := E.nL D
   replace F := F.nL D
   replace G := G.nL D
   replace leB := leB.trans D
   unfold iL at H
   show Tr _ _ (LF [(2, iv p2), (3, pV l), (4, pV i), (7, pV j), (15, bV K)]) (LE [(1, bx l #[iv p0.Unit, sL o p0.Tools q, sL t p0.Steps u] 26), (2, bx i #[iv p1.Kind, sv p1.Name, iv p1.At.X, iv p1.At.Y, sL d p1.Points f, iv p1.NX, iv p1.NY, sL g p1.Steps h] 53), (3, bx j #[bV b.name, bV b.at_, bV b.points, bV b.repeat_] 185)]) _
   refine aP rfl H (fun H => ?_) (fun H => ?_)
   ·refine ai (Tr.k rfl (ae (aa (aW (bL (aK ?_))))))
    obtain rfl := oI H
    exact dQ leB
   ·refine ai (aT (ag Jj) rfl (aG rfl (fun _ _ a c => ah Fu (a.ev rfl) (dR c (vs := [bV b.name, bV b.at_, bV b.points, bV b.repeat_]) (k := 3) rfl 0) rfl) (aA rfl ?_)))
    obtain ⟨L, z, H⟩ := bnd H
    refine dX 6 [(2, iv p2), (3, pV l), (4, pV i), (7, pV j), (70, bV L)] [(1, bx l #[iv p0.Unit, sL o p0.Tools q, sL t p0.Steps u] 26), (2, bx i #[iv p1.Kind, sv p1.Name, iv p1.At.X, iv p1.At.Y, sL d p1.Points f, iv p1.NX, iv p1.NY, sL g p1.Steps h] 53), (3, bx j #[bV b.name, bV b.at_, bV b.points, bV b.repeat_] 185)] ?_ ?_
    ·cases v : b.name
     ·rw [v] at z
      rw [if_neg (by decide)] at z
      have H := z
      obtain rfl := oI H
      exact bf rfl (bf rfl (bf rfl (bf rfl (bf rfl (aC bE rfl rfl (ae (bu (.r rfl) (.r rfl))))))))
     ·rw [v] at z
      rw [if_pos rfl] at z
      have H := z
      refine Tr.x (fun _ _ a c => aM (cs := [iv p0.Unit, sL o p0.Tools q, sL t p0.Steps u]) ql mr (a.ev rfl) (aF.take (dR c (vs := [iv p0.Unit, sL o p0.Tools q, sL t p0.Steps u]) (k := 1) rfl 0) 3) rfl) (dU (ag Df) rfl (Tr.x (fun _ _ a c => ah Rh (a.ev rfl) (dR c (vs := [iv p1.Kind, sv p1.Name, iv p1.At.X, iv p1.At.Y, sL d p1.Points f, iv p1.NX, iv p1.NY, sL g p1.Steps h]) (k := 2) rfl 1) rfl) ?_))
      obtain ⟨M, U, H⟩ := bnd H
      refine di (r := (iv M)) (wg rfl rfl rfl) rfl Tryz.call135 (aj rfl (aj rfl aL)) (fun W hW => Cr p0 o q (E.ext hW.cB) t u (F.ext hW.cB) p1.Name M U (HF.start _)) (kF bg rfl rfl (aC bD rfl rfl ?_))
      obtain rfl := oI H
      exact ae (bu (.r rfl) (.r rfl))
    ·show Tr _ _ (LF [(2, iv p2), (3, pV l), (4, pV i), (7, pV j), (70, bV L)]) (LE [(1, bx l #[iv p0.Unit, sL o p0.Tools q, sL t p0.Steps u] 26), (2, bx i #[iv p1.Kind, sv p1.Name, iv p1.At.X, iv p1.At.Y, sL d p1.Points f, iv p1.NX, iv p1.NY, sL g p1.Steps h] 53), (3, bx j #[bV b.name, bV b.at_, bV b.points, bV b.repeat_] 185)]) _
     refine Tr.k rfl (ae (aa (aP rfl H (fun H => ?_) (fun H => ?_))))
     ·refine ai (Tr.k rfl (ae (aa (aW (bL (aK ?_))))))
      obtain rfl := oI H
      exact dQ leB
     ·refine ai (aT (ag xN) rfl (aG rfl (fun _ _ a c => aM (cs := [iv p1.At.X, iv p1.At.Y]) jZ gV (a.ev rfl) (aF.take (dR c (vs := [iv p1.Kind, sv p1.Name, iv p1.At.X, iv p1.At.Y, sL d p1.Points f, iv p1.NX, iv p1.NY, sL g p1.Steps h]) (k := 2) rfl 2) 2) rfl) (aT (ag uD) rfl (aG rfl (fun _ _ a c => ah bT (a.ev rfl) (dR c (vs := [iv p0.Unit, sL o p0.Tools q, sL t p0.Steps u]) (k := 1) rfl 0) rfl) ?_))))
      obtain ⟨I, V, H⟩ := bnd H
      refine di (r := (bV I)) (wn rfl) rfl Tryz.call136 (aj rfl (aj rfl aL)) (fun W hW => wu p1.At p0.Unit I V (HF.start _)) (aT jC rfl (aA rfl ?_))
      obtain ⟨N, A, H⟩ := bnd H
      refine dX 5 [(2, iv p2), (4, pV i), (7, pV j), (83, bV N)] [(1, bx l #[iv p0.Unit, sL o p0.Tools q, sL t p0.Steps u] 26), (2, bx i #[iv p1.Kind, sv p1.Name, iv p1.At.X, iv p1.At.Y, sL d p1.Points f, iv p1.NX, iv p1.NY, sL g p1.Steps h] 53), (3, bx j #[bV b.name, bV b.at_, bV b.points, bV b.repeat_] 185)] ?_ ?_
      ·cases v : (!I)
       ·rw [v] at A
        rw [if_neg (by decide)] at A
        have H := A
        refine dU (ag qY) rfl (Tr.x (fun _ _ a c => ah tT (a.ev rfl) (dR c (vs := [iv p1.Kind, sv p1.Name, iv p1.At.X, iv p1.At.Y, sL d p1.Points f, iv p1.NX, iv p1.NY, sL g p1.Steps h]) (k := 2) rfl 4) rfl) (pK (vs := [pV l]) (wg rfl rfl rfl) rfl (aj rfl aL) ?_))
        obtain ⟨O, Z, H⟩ := bnd H
        refine di (r := (bV O)) (wg rfl rfl rfl) rfl Tryz.call137 (aj rfl (aj rfl aL)) (fun W hW => oq p1.Points d f (G.ext hW.cB) (fun z0 => iI z0 p0) 138 [pV l] Tryz.call138 (fun w' he z0 y hy => yu z0 p0 o q (E.ext (hW.cB.trans he)) t u (F.ext (hW.cB.trans he)) l (he.r _ (hW.CO (k := 1) rfl)) (he.cells (hW.CO (k := 1) rfl) (hW.EL (k := 1) rfl)) y hy (HF.start _)) O Z (HF.start _)) (aC bE rfl rfl ?_)
        obtain rfl := oI H
        exact ae (bu (.r rfl) (.r rfl))
       ·rw [v] at A
        rw [if_pos rfl] at A
        have H := A
        obtain rfl := oI H
        exact bf rfl (bf rfl (bf rfl (bf rfl (aC bD rfl rfl (ae (bu (.r rfl) (.r rfl)))))))
      ·show Tr _ _ (LF [(2, iv p2), (4, pV i), (7, pV j), (83, bV N)]) (LE [(1, bx l #[iv p0.Unit, sL o p0.Tools q, sL t p0.Steps u] 26), (2, bx i #[iv p1.Kind, sv p1.Name, iv p1.At.X, iv p1.At.Y, sL d p1.Points f, iv p1.NX, iv p1.NY, sL g p1.Steps h] 53), (3, bx j #[bV b.name, bV b.at_, bV b.points, bV b.repeat_] 185)]) _
       refine Tr.k rfl (ae (aa (aP rfl H (fun H => ?_) (fun H => ?_))))
       ·refine ai (Tr.k rfl (ae (aa (aW (bL (aK ?_))))))
        obtain rfl := oI H
        exact dQ leB
       ·refine ai (aT (ag qY) rfl (aG rfl (fun _ _ a c => ah tT (a.ev rfl) (dR c (vs := [iv p1.Kind, sv p1.Name, iv p1.At.X, iv p1.At.Y, sL d p1.Points f, iv p1.NX, iv p1.NY, sL g p1.Steps h]) (k := 2) rfl 4) rfl) (aT (bz qc) rfl (aC jq rfl rfl (Tr.k rfl (ae (aa (aP rfl H (fun H => ?_) (fun H => ?_)))))))))
        ·refine ai (Tr.k rfl (ae (aa (aW (bL (aK ?_))))))
         obtain rfl := oI H
         exact dQ leB
        ·refine ai (aT (ag Ji) rfl (aG rfl (fun _ _ a c => ah Fu (a.ev rfl) (dR c (vs := [bV b.name, bV b.at_, bV b.points, bV b.repeat_]) (k := 3) rfl 2) rfl) (aA rfl ?_)))
         obtain ⟨P, B, H⟩ := bnd H
         refine dX 5 [(2, iv p2), (4, pV i), (7, pV j), (97, bV P)] [(1, bx l #[iv p0.Unit, sL o p0.Tools q, sL t p0.Steps u] 26), (2, bx i #[iv p1.Kind, sv p1.Name, iv p1.At.X, iv p1.At.Y, sL d p1.Points f, iv p1.NX, iv p1.NY, sL g p1.Steps h] 53), (3, bx j #[bV b.name, bV b.at_, bV b.points, bV b.repeat_] 185)] ?_ ?_
         ·cases v : b.points
          ·rw [v] at B
           rw [if_neg (by decide)] at B
           have H := B
           obtain rfl := oI H
           exact bf rfl (bf rfl (bf rfl (bf rfl (aC bE rfl rfl (ae (bu (.r rfl) (.r rfl)))))))
          ·rw [v] at B
           rw [if_pos rfl] at B
           have H := B
           refine dU (ag qY) rfl (Tr.x (fun _ _ a c => ah tT (a.ev rfl) (dR c (vs := [iv p1.Kind, sv p1.Name, iv p1.At.X, iv p1.At.Y, sL d p1.Points f, iv p1.NX, iv p1.NY, sL g p1.Steps h]) (k := 2) rfl 4) rfl) ?_)
           obtain ⟨Q, a0, H⟩ := bnd H
           refine di (r := (bV Q)) (wg rfl rfl rfl) rfl Tryz.call139 (aj rfl aL) (fun W hW => Cq p1.Points d f (G.ext hW.cB) Q a0 (HF.start _)) (dU jC rfl (aC bD rfl rfl ?_))
           obtain rfl := oI H
           exact ae (bu (.r rfl) (.r rfl))
         ·show Tr _ _ (LF [(2, iv p2), (4, pV i), (7, pV j), (97, bV P)]) (LE [(1, bx l #[iv p0.Unit, sL o p0.Tools q, sL t p0.Steps u] 26), (2, bx i #[iv p1.Kind, sv p1.Name, iv p1.At.X, iv p1.At.Y, sL d p1.Points f, iv p1.NX, iv p1.NY, sL g p1.Steps h] 53), (3, bx j #[bV b.name, bV b.at_, bV b.points, bV b.repeat_] 185)]) _
          refine Tr.k rfl (ae (aa (aP rfl H (fun H => ?_) (fun H => ?_))))
          ·refine ai (Tr.k rfl (ae (aa (aW (bL (aK ?_))))))
           obtain rfl := oI H
           exact dQ leB
          ·refine aN (aJ (aa (az (ai (aT (ag Jh) rfl (aG rfl (fun _ _ a c => ah Fu (a.ev rfl) (dR c (vs := [bV b.name, bV b.at_, bV b.points, bV b.repeat_]) (k := 3) rfl 3) rfl) (aT jC rfl (ae (aa (aP rfl H (fun H => ?_) (fun H => ?_)))))))))))
           ·refine ai (Tr.k rfl (ae (aa (aW (aK ?_)))))
            obtain rfl := oI H
            exact dQ leB
           ·refine aN (aa (az (Tr.block (az ?_))))
            cases H

theorem xZ (N : Nat) (rec : gu → (List av) → Int → Option Int) (hrec : ∀ {w : Bs} (p0 : gu) (d : Option Addr) (f : Nat) (D : Sl w.R w.W aY d f p0.Tools) (g : Option Addr) (i : Nat) (E : Sl w.R w.W ay g i p0.Steps) (p1 : (List av)) (v : Option Addr) (y : Nat) (C : Sl w.R w.W ay v y p1) (p2 : Int) (r : Int) (H : rec p0 p1 p2 = some r) (hE : HF w w.W E0), Calls Tryz.prog 50 [.agg #[iv p0.Unit, sL d p0.Tools f, sL g p0.Steps i], sL v p1 y, iv p2].toArray w.W fun e W' => e = .returned (iv r) ∧ HF w W' E0) {w : Bs} (p0 : gu) (d : Option Addr) (f : Nat) (D : Sl w.R w.W aY d f p0.Tools) (g : Option Addr) (i : Nat) (E : Sl w.R w.W ay g i p0.Steps) (p1 : (List av)) (v : Option Addr) (y : Nat) (C : Sl w.R w.W ay v y p1) (p2 : Int) (r : Int) (H : qM N rec p0 p1 p2 = some r) (hE : HF w w.W E0) : Calls Tryz.prog 50 [.agg #[iv p0.Unit, sL d p0.Tools f, sL g p0.Steps i], sL v p1 y, iv p2].toArray w.W fun e W' => e = .returned (iv r) ∧ HF w W' E0 := by
 unfold qM at H
 have leB := Bs.Le.refl w
 refine aZ (n := 34) Tryz.func50 rfl rfl rfl hE (ai (gN 1 (cs := [iv p0.Unit, sL d p0.Tools f, sL g p0.Steps i]) (wn rfl) rfl rfl rfl fun G => (Tr.k rfl (ae (aa (az (ai (aA rfl (aT (bz tH) rfl (aA rfl (ae (aa (Tr.block (df (σ := (List av) × Nat) (fun m w s => m = s.1.length + 1 ∧ s.1 = List.drop s.2 p1 ∧ s.2 ≤ p1.length ∧ iU p0 p2 rec s.1 s.2 = some r) (fun s => [(2, iv p2), (3, pV G), (11, sL v p1 y), (12, iv (p1.length : Int)), (13, iv (s.2 : Int))]) (fun s => [(1, bx G #[iv p0.Unit, sL d p0.Tools f, sL g p0.Steps i] 26)]) (p1.length + 1) (p1, 0) ⟨rfl, rfl, Nat.zero_le _, H⟩ (.r rfl) (.r rfl) (fun _ _ h => absurd h.1 (by simp)) ?_))))))))))))))
 intro w F m s hs
 obtain ⟨t, J⟩ := s
 obtain ⟨I, A, U, H⟩ := hs
 replace A : t = List.drop J p1 := A
 replace H : iU p0 p2 rec t J = some r := H
 replace I : m + 1 = t.length + 1 := I
 replace D := D.nL F
 replace E := E.nL F
 replace C := C.nL F
 replace leB := leB.trans F
 obtain rfl : m = t.length := by omega
 clear I
 dsimp only
 cases t with
 | nil =>
  rw [iU.eq_1] at H
  refine ai (aC bg rfl rfl (ae (aa (az (eQ rfl (dZ A) (bW (aB (aB (aR (aa (ai (Tr.k rfl (ae (aa (aW ?_)))))))))))))))
  obtain rfl := oI H
  exact dQ leB
 | cons b t =>
  rw [iU.eq_2] at H
  refine ai (aC bg rfl rfl (ae (aa (az (eP rfl (fJ A) (aN (aa (az (Tr.block (ai ?_))))))))))
  obtain ⟨T, L, K, M⟩ := (C).el (gy A)
  obtain ⟨⟨o, q⟩, ⟨j, l⟩⟩ := T
  obtain ⟨B, u⟩ := kw.1 K
  replace B : Sl w.R w.W aX o q b.Points := B
  replace u : Sl w.R w.W ay j l b.Steps := u
  refine aG rfl (fun _ _ a c => ak wS (a.ev rfl) C.form (a.ev rfl) (Int.natCast_nonneg _) (bF A)) (aG rfl (fun _ _ a c => aM (cs := [iv b.Kind, sv b.Name, iv b.At.X, iv b.At.Y, sL o b.Points q, iv b.NX, iv b.NY, sL j b.Steps l]) yY qF (a.ev rfl) (aF.take (ut L M c) 8) rfl) (Tr.alloc 3 (wn rfl) rfl AJ fun V => (bJ 3 (cs := [iv b.Kind, sv b.Name, iv b.At.X, iv b.At.Y, sL o b.Points q, iv b.NX, iv b.NY, sL j b.Steps l]) [iv b.Kind, sv b.Name, iv b.At.X, iv b.At.Y, sL o b.Points q, iv b.NX, iv b.NY, sL j b.Steps l] (wn rfl) rfl rfl rfl rfl qF rfl rfl rfl (ae (aa (az (ai (aG rfl (fun _ _ a c => aM (cs := [iv p0.Unit, sL d p0.Tools f, sL g p0.Steps i]) ql mr (a.ev rfl) (aF.take (dR c (vs := [iv p0.Unit, sL d p0.Tools f, sL g p0.Steps i]) (k := 1) rfl 0) 3) rfl) (aG rfl (fun _ _ a c => aM (cs := [iv b.Kind, sv b.Name, iv b.At.X, iv b.At.Y, sL o b.Points q, iv b.NX, iv b.NY, sL j b.Steps l]) yY qF (a.ev rfl) (aF.take (dR c (vs := [iv b.Kind, sv b.Name, iv b.At.X, iv b.At.Y, sL o b.Points q, iv b.NX, iv b.NY, sL j b.Steps l]) (k := 3) rfl 0) 8) rfl) (aA rfl ?_))))))))))
  obtain ⟨O, Q, H⟩ := bnd H
  refine di (r := (iv O)) (wn rfl) rfl Tryz.call98 (aj rfl (aj rfl (aj rfl aL))) (fun W hW => zQ p0 d f (D.ext hW.cB) g i (E.ext hW.cB) b o q (B.ext hW.cB) j l (u.ext hW.cB) p2 O Q (HF.start _)) (Tr.k rfl (ae (aa (ai (aA rfl (aC jD rfl rfl (ae (aa (aP rfl H (fun H => ?_) (fun H => ?_))))))))))
  ·refine ai (aA rfl (Tr.k rfl (ae (aa (aW (aK (bL (aK (aK (bL (aK ?_)))))))))))
   obtain rfl := oI H
   exact dQ leB
  ·refine aN (aa (ai (aG rfl (fun _ _ a c => aM (cs := [iv p0.Unit, sL d p0.Tools f, sL g p0.Steps i]) ql mr (a.ev rfl) (aF.take (dR c (vs := [iv p0.Unit, sL d p0.Tools f, sL g p0.Steps i]) (k := 1) rfl 0) 3) rfl) (aT (ag xM) rfl (aG rfl (fun _ _ a c => ah tX (a.ev rfl) (dR c (vs := [iv b.Kind, sv b.Name, iv b.At.X, iv b.At.Y, sL o b.Points q, iv b.NX, iv b.NY, sL j b.Steps l]) (k := 3) rfl 7) rfl) (aA rfl (aC bv rfl rfl ?_)))))))
   obtain ⟨P, S, H⟩ := bnd H
   refine di (r := (iv P)) (wn rfl) rfl Tryz.call50 (aj rfl (aj rfl (aj rfl aL))) (fun W hW => hrec p0 d f (D.ext hW.cB) g i (E.ext hW.cB) b.Steps j l (u.ext hW.cB) (bG (p2 + 1)) P S (HF.start _)) (Tr.k rfl (ae (aa (ai (aA rfl (aC jD rfl rfl (ae (aa (aP rfl H (fun H => ?_) (fun H => ?_))))))))))
   ·refine ai (aA rfl (Tr.k rfl (ae (aa (aW (bL (aK (aK (bL (aK ?_))))))))))
    obtain rfl := oI H
    exact dQ leB
   ·exact aN (aJ (aa (aI (aC bv rfl rfl (aA rfl (ae (aD F (t, (J + 1)) ⟨rfl, fe A, bF A, H⟩ (.cons rfl (.cons rfl (.cons rfl (.cons rfl (.cons (congrArg (fun z => some (Value.int .i64 z)) (eZ A C.form)) .nil))))) (.r rfl))))))))
theorem uk : ∀ (N : Nat) {w : Bs} (p0 : gu) (a : Option Addr) (b : Nat) (h : Sl w.R w.W aY a b p0.Tools) (c : Option Addr) (d : Nat) (i : Sl w.R w.W ay c d p0.Steps) (p1 : (List av)) (f : Option Addr) (g : Nat) (j : Sl w.R w.W ay f g p1) (p2 : Int) (r : Int) (H : kY N p0 p1 p2 = some r) (hE : HF w w.W E0), Calls Tryz.prog 50 [.agg #[iv p0.Unit, sL a p0.Tools b, sL c p0.Steps d], sL f p1 g, iv p2].toArray w.W fun e W' => e = .returned (iv r) ∧ HF w W' E0
 | 0 => by intros; rename_i H _; cases H
 | N + 1 => xZ N (kY N) (uk N)

theorem qN (N : Nat) {w : Bs} (p0 : gu) (b : Option Addr) (d : Nat) (l : Sl w.R w.W aY b d p0.Tools) (f : Option Addr) (g : Nat) (j : Sl w.R w.W ay f g p0.Steps) (r : Int) (H : jK N p0 = some r) (hE : HF w w.W E0) : Calls Tryz.prog 26 [.agg #[iv p0.Unit, sL b p0.Tools d, sL f p0.Steps g]].toArray w.W fun e W' => e = .returned (iv r) ∧ HF w W' E0 := by
 unfold jK at H
 have leB := Bs.Le.refl w
 refine aZ (n := 52) Tryz.func26 rfl rfl rfl hE (ai (gN 1 (cs := [iv p0.Unit, sL b p0.Tools d, sL f p0.Steps g]) (wn rfl) rfl rfl rfl fun o => (Tr.k rfl (ae (aa (az (ai (aT (ag uD) rfl (aG rfl (fun _ _ a c => ah bT (a.ev rfl) (dR c (vs := [iv p0.Unit, sL b p0.Tools d, sL f p0.Steps g]) (k := 1) rfl 0) rfl) ?_)))))))))
 obtain ⟨v, B, H⟩ := bnd H
 refine di (r := (bV v)) (wn rfl) rfl Tryz.call47 (aj rfl (aj rfl (aj rfl aL))) (fun W hW => sU p0.Unit 1 1000 v B (HF.start _)) (aT jC rfl (ae (aa (aP rfl H (fun H => ?_) (fun H => ?_)))))
 ·refine ai (Tr.k rfl (ae (aa (aW (aK ?_)))))
  obtain rfl := oI H
  exact dQ leB
 ·refine aN (aa (az (ai (aT (ag vX) rfl (aG rfl (fun _ _ a c => ah CG (a.ev rfl) (dR c (vs := [iv p0.Unit, sL b p0.Tools d, sL f p0.Steps g]) (k := 1) rfl 1) rfl) (aT (bz zR) rfl (aC jq rfl rfl (ae (aa (aP rfl H (fun H => ?_) (fun H => ?_)))))))))))
  ·refine ai (Tr.k rfl (ae (aa (aW (aK ?_)))))
   obtain rfl := oI H
   exact dQ leB
  ·refine aN (aa (az (ai (aT (ag vX) rfl (aG rfl (fun _ _ a c => ah CG (a.ev rfl) (dR c (vs := [iv p0.Unit, sL b p0.Tools d, sL f p0.Steps g]) (k := 1) rfl 1) rfl) (aT (bz zR) rfl (aA rfl (ae (aa (Tr.block (df (σ := (List ic) × Nat) (fun m w s => m = s.1.length + 1 ∧ s.1 = List.drop s.2 p0.Tools ∧ s.2 ≤ p0.Tools.length ∧ jR N p0 s.1 s.2 = some r) (fun s => [(1, pV o), (15, sL b p0.Tools d), (16, iv (p0.Tools.length : Int)), (17, iv (s.2 : Int))]) (fun s => [(1, bx o #[iv p0.Unit, sL b p0.Tools d, sL f p0.Steps g] 26)]) (p0.Tools.length + 1) (p0.Tools, 0) ⟨rfl, rfl, Nat.zero_le _, H⟩ (.r rfl) (.r rfl) (fun _ _ h => absurd h.1 (by simp)) ?_)))))))))))
   intro w t m s hs
   obtain ⟨i, y⟩ := s
   obtain ⟨u, q, E, H⟩ := hs
   replace q : i = List.drop y p0.Tools := q
   replace H : jR N p0 i y = some r := H
   replace u : m + 1 = i.length + 1 := u
   replace l := l.nL t
   replace j := j.nL t
   replace leB := leB.trans t
   obtain rfl : m = i.length := by omega
   clear u
   dsimp only
   cases i with
   | nil =>
    rw [jR.eq_1] at H
    refine ai (aC bg rfl rfl (ae (aa (az (eQ rfl (dZ q) (bW (aB (aB (aR (aa (az (ai (aT (ag qA) rfl (aG rfl (fun _ _ a c => ah tX (a.ev rfl) (dR c (vs := [iv p0.Unit, sL b p0.Tools d, sL f p0.Steps g]) (k := 1) rfl 2) rfl) ?_))))))))))))))
    obtain ⟨z, C, H⟩ := bnd H
    refine di (r := (iv z)) (wn rfl) rfl Tryz.call49 (aj rfl aL) (fun W hW => yh N p0.Steps f g (j.ext hW.cB) z C (HF.start _)) (aC jq rfl rfl (ae (aa (aP rfl H (fun H => ?_) (fun H => ?_)))))
    ·refine ai (Tr.k rfl (ae (aa (aW (aK ?_)))))
     obtain rfl := oI H
     exact dQ leB
    ·refine aN (aa (ai (aG rfl (fun _ _ a c => aM (cs := [iv p0.Unit, sL b p0.Tools d, sL f p0.Steps g]) ql mr (a.ev rfl) (aF.take (dR c (vs := [iv p0.Unit, sL b p0.Tools d, sL f p0.Steps g]) (k := 1) rfl 0) 3) rfl) (aT (ag qA) rfl (aG rfl (fun _ _ a c => ah tX (a.ev rfl) (dR c (vs := [iv p0.Unit, sL b p0.Tools d, sL f p0.Steps g]) (k := 1) rfl 2) rfl) ?_)))))
     obtain ⟨A, D, H⟩ := bnd H
     refine di (r := (iv A)) (wn rfl) rfl Tryz.call50 (aj rfl (aj rfl (aj rfl aL))) (fun W hW => uk N p0 b d (l.ext hW.cB) f g (j.ext hW.cB) p0.Steps f g (j.ext hW.cB) 0 A D (HF.start _)) (Tr.k rfl (ae (aa (aW ?_))))
     obtain rfl := oI H
     exact dQ leB
   | cons F i =>
    rw [jR.eq_2] at H
    refine ai (aC bg rfl rfl (ae (aa (az (eP rfl (fJ q) (aN (aa (az (Tr.block (az ?_))))))))))
    cases H

theorem Bu {w : Bs} (p0 : Int) (r : ByteArray) (H : Es p0 = some r) (hE : HF w w.W E0) : Calls Tryz.prog 41 [iv p0].toArray w.W fun e W' => e = .returned (sv r) ∧ HF w W' E0 :=
 Kz (ρ := Tryz.Et) Tryz.SS H hE

end Go.Proofs.YtcjeebkoafonpaaGreatDoor
namespace Go.Proofs
open Go.Shelf
def Tryz.Cj : Go.Shelf.Ren := ⟨fun | 166 => 40 | 240 => 91 | 276 => 130 | n => n, fun | 5 => 5 | 37 => 78 | 70 => 77 | 72 => 80 | 75 => 82 | 80 => 89 | 164 => 180 | n => n, fun n => n⟩
theorem Tryz.UI : Go.Proofs.Lays.n166 Tryz.prog Tryz.Cj := {
 mixed := by kernel_rfl
 f166 := Tryz.func40.trans (congrArg some (by kernel_rfl))
 f240 := Tryz.func91.trans (congrArg some (by kernel_rfl))
 f276 := Tryz.func130.trans (congrArg some (by kernel_rfl))
 t0 := Tryz.underlying0
 a0 := Tryz.isAgg0
 z0 := Tryz.sizeOf0
 v0 := Tryz.zeroValue0
 t3 := Tryz.underlying3
 a3 := Tryz.isAgg3
 z3 := Tryz.sizeOf3
 v3 := Tryz.zeroValue3
 t4 := Tryz.underlying4
 a4 := Tryz.isAgg4
 z4 := Tryz.sizeOf4
 v4 := Tryz.zeroValue4
 t9 := Tryz.underlying9
 a9 := Tryz.isAgg9
 z9 := Tryz.sizeOf9
 v9 := Tryz.zeroValue9
 t20 := Tryz.underlying20
 a20 := Tryz.isAgg20
 z20 := Tryz.sizeOf20
 v20 := Tryz.zeroValue20
 t37 := Tryz.underlying78
 a37 := Tryz.isAgg78
 z37 := Tryz.sizeOf78
 v37 := Tryz.zeroValue78
 t70 := Tryz.underlying77
 a70 := Tryz.isAgg77
 z70 := Tryz.sizeOf77
 v70 := Tryz.zeroValue77
 t72 := Tryz.underlying80
 a72 := Tryz.isAgg80
 z72 := Tryz.sizeOf80
 v72 := Tryz.zeroValue80
 t75 := Tryz.underlying82
 a75 := Tryz.isAgg82
 z75 := Tryz.sizeOf82
 v75 := Tryz.zeroValue82
 t164 := Tryz.underlying180
 a164 := Tryz.isAgg180
 z164 := Tryz.sizeOf180
 v164 := Tryz.zeroValue180
}
end Go.Proofs
namespace Go.Proofs.YtcjeebkoafonpaaGreatDoor
open Go.RowKit
theorem Vv : Builder.Extra Tryz.prog Tryz.Cj where
 sizeBuilder := by kernel_rfl
 liesBuilder := by kernel_rfl
 t5 := Tryz.underlying5
 a5 := Tryz.isAgg5
 z5 := Tryz.sizeOf5
 v5 := Tryz.zeroValue5
 infoByte := by kernel_rfl
 cellsByte := by kernel_rfl
 sizeByte := by kernel_rfl
 neB5 := by decide
theorem rW {w : Bs} (p0 : ByteArray) (b : Option Addr) (c : Nat) (a : Nat) (p1 : ByteArray) (r : ByteArray) (H : UQ p0 p1 = some r) (hE : HF w w.W (iF [sb 80 5 a b c p0])) : Calls Tryz.prog 40 [pV a, .string p1].toArray w.W fun e W' => ∃ u : (Option Addr × Nat), e = .returned (.tuple #[.int .i64 p1.size, .nilIface]) ∧ (True) ∧ HF w W' (iF [sb 80 5 a u.1 u.2 r]) :=
 NZ (ρ := Tryz.Cj) Tryz.UI Vv H hE

theorem xY (N : Nat) (rec : ByteArray → (List av) → Option ByteArray) (hrec : ∀ {w : Bs} (p0 : ByteArray) (f : Option Addr) (g : Nat) (d : Nat) (p1 : (List av)) (b : Option Addr) (c : Nat) (o : Sl w.R w.W ay b c p1) (r : ByteArray) (H : rec p0 p1 = some r) (hE : HF w w.W (iF [sb 80 5 d f g p0])), Calls Tryz.prog 43 [pV d, sL b p1 c].toArray w.W fun e W' => ∃ u : (Option Addr × Nat), e = .returned (.tuple #[]) ∧ (True) ∧ HF w W' (iF [sb 80 5 d u.1 u.2 r])) {w : Bs} (p0 : ByteArray) (f : Option Addr) (g : Nat) (d : Nat) (p1 : (List av)) (b : Option Addr) (c : Nat) (o : Sl w.R w.W ay b c p1) (r : ByteArray) (H : qL N rec p0 p1 = some r) (hE : HF w w.W (iF [sb 80 5 d f g p0])) : Calls Tryz.prog 43 [pV d, sL b p1 c].toArray w.W fun e W' => ∃ u : (Option Addr × Nat), e = .returned (.tuple #[]) ∧ (True) ∧ HF w W' (iF [sb 80 5 d u.1 u.2 r]) := by
 unfold qL at H
 have leB := Bs.Le.refl w
 refine aZ (n := 91) Tryz.func43 rfl rfl rfl hE (ai (aA rfl (aT (bz tH) rfl (aA rfl (ae (aa (Tr.block (df (σ := (List av) × Nat) (fun m w s => m = s.1.length + 1 ∧ s.1 = List.drop s.2 p1 ∧ s.2 ≤ p1.length ∧ lF p0 s.1 s.2 = some r) (fun s => [(0, pV d), (6, sL b p1 c), (7, iv (p1.length : Int)), (8, iv (s.2 : Int))]) (fun s => [(0, sb 80 5 d f g p0)]) (p1.length + 1) (p1, 0) ⟨rfl, rfl, Nat.zero_le _, H⟩ (.r rfl) (.r rfl) (fun _ _ h => absurd h.1 (by simp)) ?_))))))))
 intro w q m s hs
 obtain ⟨a, l⟩ := s
 obtain ⟨j, i, t, H⟩ := hs
 replace i : a = List.drop l p1 := i
 replace H : lF p0 a l = some r := H
 replace j : m + 1 = a.length + 1 := j
 replace leB := leB.trans q
 obtain rfl : m = a.length := by omega
 clear j
 dsimp only
 cases a with
 | nil =>
  rw [lF.eq_1] at H
  refine ai (aC bg rfl rfl (ae (aa (az (eQ rfl (dZ i) (bW (aB (aB (aR (om ?_))))))))))
  obtain rfl := oI H
  exact Tr.out (m := []) [] bO (fun W hW => ⟨(f, g), rfl, trivial, HF.zK leB (hW.pick (ks := [0]) (by decide) (aH rfl bn)) ⟨Sr, trivial⟩⟩)
 | cons v a =>
  rw [lF.eq_2] at H
  refine ai (aC bg rfl rfl (ae (aa (az (eP rfl (fJ i) (aN (aa (az (Tr.block (az ?_))))))))))
  cases H
theorem uj : ∀ (N : Nat) {w : Bs} (p0 : ByteArray) (d : Option Addr) (f : Nat) (c : Nat) (p1 : (List av)) (a : Option Addr) (b : Nat) (g : Sl w.R w.W ay a b p1) (r : ByteArray) (H : pX N p0 p1 = some r) (hE : HF w w.W (iF [sb 80 5 c d f p0])), Calls Tryz.prog 43 [pV c, sL a p1 b].toArray w.W fun e W' => ∃ u : (Option Addr × Nat), e = .returned (.tuple #[]) ∧ (True) ∧ HF w W' (iF [sb 80 5 c u.1 u.2 r])
 | 0 => by intros; rename_i H _; cases H
 | N + 1 => xY N (pX N) (uj N)

theorem wD {w : Bs} (p0 : ByteArray) (b : Option Addr) (c : Nat) (a : Nat) (r : (Int × ByteArray)) (H : Vf p0 = some r) (hE : HF w w.W (iF [sb 80 5 a b c p0])) : Calls Tryz.prog 44 [pV a].toArray w.W fun e W' => ∃ u : (Option Addr × Nat), e = .returned (iv r.1) ∧ (True) ∧ HF w W' (iF [sb 80 5 a u.1 u.2 r.2]) :=
 Sn (ρ := Tryz.Gl) Tryz.UH H hE

end Go.Proofs.YtcjeebkoafonpaaGreatDoor
namespace Go.Proofs
open Go.Shelf
def Tryz.Ci : Go.Shelf.Ren := ⟨fun | 169 => 45 | n => n, fun | 5 => 5 | 37 => 78 | 70 => 77 | 72 => 80 | 127 => 146 | n => n, fun n => n⟩
theorem Tryz.UG : Go.Proofs.Lays.n169 Tryz.prog Tryz.Ci := {
 mixed := by kernel_rfl
 f169 := Tryz.func45.trans (congrArg some (by kernel_rfl))
 t0 := Tryz.underlying0
 a0 := Tryz.isAgg0
 z0 := Tryz.sizeOf0
 v0 := Tryz.zeroValue0
 t3 := Tryz.underlying3
 a3 := Tryz.isAgg3
 z3 := Tryz.sizeOf3
 v3 := Tryz.zeroValue3
 t9 := Tryz.underlying9
 a9 := Tryz.isAgg9
 z9 := Tryz.sizeOf9
 v9 := Tryz.zeroValue9
 t37 := Tryz.underlying78
 a37 := Tryz.isAgg78
 z37 := Tryz.sizeOf78
 v37 := Tryz.zeroValue78
 t70 := Tryz.underlying77
 a70 := Tryz.isAgg77
 z70 := Tryz.sizeOf77
 v70 := Tryz.zeroValue77
 t72 := Tryz.underlying80
 a72 := Tryz.isAgg80
 z72 := Tryz.sizeOf80
 v72 := Tryz.zeroValue80
 t127 := Tryz.underlying146
 a127 := Tryz.isAgg146
 z127 := Tryz.sizeOf146
 v127 := Tryz.zeroValue146
}
end Go.Proofs
namespace Go.Proofs.YtcjeebkoafonpaaGreatDoor
open Go.RowKit
theorem Vu : Builder.Extra Tryz.prog Tryz.Ci where
 sizeBuilder := by kernel_rfl
 liesBuilder := by kernel_rfl
 t5 := Tryz.underlying5
 a5 := Tryz.isAgg5
 z5 := Tryz.sizeOf5
 v5 := Tryz.zeroValue5
 infoByte := by kernel_rfl
 cellsByte := by kernel_rfl
 sizeByte := by kernel_rfl
 neB5 := by decide
theorem uH {w : Bs} (p0 : ByteArray) (b : Option Addr) (c : Nat) (a : Nat) (r : (ByteArray × ByteArray)) (H : UR p0 = some r) (hE : HF w w.W (iF [sb 80 5 a b c p0])) : Calls Tryz.prog 45 [pV a].toArray w.W fun e W' => ∃ u : (Option Addr × Nat), e = .returned (sv r.1) ∧ (True) ∧ HF w W' (iF [sb 80 5 a u.1 u.2 r.2]) :=
 M3 (ρ := Tryz.Ci) Tryz.UG Vu H hE

theorem E8 (N : Nat) {w : Bs} (p0 : gu) (d : Option Addr) (f : Nat) (X : Sl w.R w.W aY d f p0.Tools) (g : Option Addr) (i : Nat) (C : Sl w.R w.W ay g i p0.Steps) (r : (ByteArray × Int)) (H : ul N p0 = some r) (hE : HF w w.W E0) : Calls Tryz.prog 23 [.agg #[iv p0.Unit, sL d p0.Tools f, sL g p0.Steps i]].toArray w.W fun e W' => e = .returned (.tuple #[sv r.1, iv r.2]) ∧ HF w W' E0 := by
 unfold ul at H
 have leB := Bs.Le.refl w
 refine aZ (n := 61) Tryz.func23 rfl rfl rfl hE (ai (gN 1 (cs := [iv p0.Unit, sL d p0.Tools f, sL g p0.Steps i]) (wn rfl) rfl rfl rfl fun E => (Tr.k rfl (Tr.k rfl (ae (aa (az (ai (aG rfl (fun _ _ a c => aM (cs := [iv p0.Unit, sL d p0.Tools f, sL g p0.Steps i]) ql mr (a.ev rfl) (aF.take (dR c (vs := [iv p0.Unit, sL d p0.Tools f, sL g p0.Steps i]) (k := 1) rfl 0) 3) rfl) ?_)))))))))
 obtain ⟨G, Z, H⟩ := bnd H
 refine di (r := (iv G)) (wn rfl) rfl Tryz.call26 (aj rfl aL) (fun W hW => qN N p0 d f (X.ext hW.cB) g i (C.ext hW.cB) G Z (HF.start _)) (Tr.k rfl (ae (aa (ai (aA rfl (aC jD rfl rfl (ae (aa (aP rfl H (fun H => ?_) (fun H => ?_))))))))))
 ·refine ai (aA rfl (Tr.k rfl (Tr.k rfl (ae (aa (aW (aK ?_)))))))
  obtain rfl := oI H
  exact Tr.out (m := [sv ByteArray.empty, iv G]) [] (cO rfl (cO rfl bO)) (fun W hW => ⟨rfl, hW.low leB⟩)
 ·refine aN (aa (ai (PM (e := 5) 2 (wn rfl) rfl TP fun b => (ae (aa (ai (aT (ag uD) rfl (aG rfl (fun _ _ a c => ah bT (a.ev rfl) (dR c (vs := [iv p0.Unit, sL d p0.Tools f, sL g p0.Steps i]) (k := 1) rfl 0) rfl) ?_))))))))
  obtain ⟨S, a0, H⟩ := bnd H
  refine di (r := (sv S)) (wn rfl) rfl Tryz.call41 (aj rfl aL) (fun W hW => Bu p0.Unit S a0 (HF.start _)) ?_
  obtain ⟨b1, a1, H⟩ := bnd H
  refine aG rfl (fun _ _ a c => IK (a.ev rfl) (a.ev rfl) a1) ?_
  obtain ⟨I, a2, H⟩ := bnd H
  refine aG rfl (fun _ _ a c => IK (a.ev rfl) (a.ev rfl) a2) ?_
  obtain ⟨q, a3, H⟩ := bnd H
  refine ja [2] [sb 80 5 b none 0 ByteArray.empty] (U := (Option Addr × Nat)) (fun u => (.tuple #[iv ((I : ByteArray).size : Int), .nilIface])) (fun u => True) (fun u => [sb 80 5 b u.1 u.2 q]) rfl (aH rfl bn) (fun _ => rfl) (wn rfl) rfl Tryz.call40 (aj rfl (aj rfl aL)) (fun W hW hp hE => rW ByteArray.empty none 0 b I q a3 hE) ?_
  intro u hu
  obtain ⟨j, l⟩ := u
  have K := hu
  have a7 : True := K --@phi
  dsimp only
  refine ae (aa (az (ai (aT (ag vX) rfl (aG rfl (fun _ _ a c => ah CG (a.ev rfl) (dR c (vs := [iv p0.Unit, sL d p0.Tools f, sL g p0.Steps i]) (k := 1) rfl 1) rfl) (aT (bz zR) rfl (aA rfl (ae (aa (Tr.block (df (σ := (List ic) × Nat) (fun m w s => m = s.1.length + 1 ∧ s.1 = List.drop s.2 p0.Tools ∧ s.2 ≤ p0.Tools.length ∧ qy N p0 q s.1 s.2 = some r) (fun s => [(1, pV E), (5, pV b), (22, sL d p0.Tools f), (23, iv (p0.Tools.length : Int)), (24, iv (s.2 : Int))]) (fun s => [(1, bx E #[iv p0.Unit, sL d p0.Tools f, sL g p0.Steps i] 26), (2, sb 80 5 b j l q)]) (p0.Tools.length + 1) (p0.Tools, 0) ⟨rfl, rfl, Nat.zero_le _, H⟩ (.r rfl) (.r rfl) (fun _ _ h => absurd h.1 (by simp)) ?_)))))))))))
  intro w T m s hs
  obtain ⟨o, V⟩ := s
  obtain ⟨J, F, b2, H⟩ := hs
  replace F : o = List.drop V p0.Tools := F
  replace H : qy N p0 q o V = some r := H
  replace J : m + 1 = o.length + 1 := J
  replace C := C.nL T
  replace leB := leB.trans T
  obtain rfl : m = o.length := by omega
  clear J
  dsimp only
  cases o with
  | nil =>
   rw [qy.eq_1] at H
   refine ai (aC bg rfl rfl (ae (aa (az (eQ rfl (dZ F) (bW (aB (aB (aR (aa (ai (aT (ag qA) rfl (aG rfl (fun _ _ a c => ah tX (a.ev rfl) (dR c (vs := [iv p0.Unit, sL d p0.Tools f, sL g p0.Steps i]) (k := 1) rfl 2) rfl) ?_)))))))))))))
   obtain ⟨D, a4, H⟩ := bnd H
   refine ja [2] [sb 80 5 b j l q] (U := (Option Addr × Nat)) (fun u => (.tuple #[])) (fun u => True) (fun u => [sb 80 5 b u.1 u.2 D]) rfl (aH rfl bn) (fun _ => rfl) (wn rfl) rfl Tryz.call43 (aj rfl (aj rfl aL)) (fun W hW hp hE => uj N q j l b p0.Steps g i (C.ext (hW.gM hp)) D a4 hE) ?_
   intro u hu
   obtain ⟨v, y⟩ := u
   have L := hu
   have a8 : True := L --@phi
   dsimp only
   refine ae (aa (az (ai ?_)))
   obtain ⟨t, a5, H⟩ := bnd H
   refine ja [2] [sb 80 5 b v y D] (U := (Option Addr × Nat)) (fun u => (iv t.1)) (fun u => True) (fun u => [sb 80 5 b u.1 u.2 t.2]) rfl (aH rfl bn) (fun _ => rfl) (wn rfl) rfl Tryz.call44 (aj rfl aL) (fun W hW hp hE => wD D v y b t a5 hE) ?_
   intro u hu
   obtain ⟨z, A⟩ := u
   have M := hu
   have a9 : True := M --@phi
   dsimp only
   refine aC jq rfl rfl (ae (aa (aP rfl H (fun H => ?_) (fun H => ?_))))
   ·refine ai (Tr.k rfl (Tr.k rfl (ae (aa (aW (aK ?_))))))
    obtain rfl := oI H
    exact Tr.out (m := [sv ByteArray.empty, iv 2]) [] (cO rfl (cO rfl bO)) (fun W hW => ⟨rfl, hW.low leB⟩)
   ·refine aN (aa (ai ?_))
    obtain ⟨B, a6, H⟩ := bnd H
    refine ja [2] [sb 80 5 b z A t.2] (U := (Option Addr × Nat)) (fun u => (sv B.1)) (fun u => True) (fun u => [sb 80 5 b u.1 u.2 B.2]) rfl (aH rfl bn) (fun _ => rfl) (wn rfl) rfl Tryz.call45 (aj rfl aL) (fun W hW hp hE => uH t.2 z A b B a6 hE) ?_
    intro u hu
    obtain ⟨O, P⟩ := u
    have Q := hu
    have b0 : True := Q --@phi
    dsimp only
    refine Tr.k rfl (Tr.k rfl (ae (aa (aW ?_))))
    obtain rfl := oI H
    exact Tr.out (m := [sv B.1, iv 0]) [] (cO rfl (cO rfl bO)) (fun W hW => ⟨rfl, hW.low leB⟩)
  | cons b3 o =>
   rw [qy.eq_2] at H
   refine ai (aC bg rfl rfl (ae (aa (az (eP rfl (fJ F) (aN (aa (az (Tr.block (az ?_))))))))))
   cases H

theorem nT (N : Nat) {w : Bs}  (r : Bool) (H : jg N = some r) (hE : HF w w.W E0) : Calls Tryz.prog 8 [].toArray w.W fun e W' => e = .returned (bV r) ∧ HF w W' E0 := by
 unfold jg at H
 have leB := Bs.Le.refl w
 refine aZ (n := 14) Tryz.func8 rfl rfl rfl hE (ai (Tr.k rfl (ae (aa (ai (jh (vs := [(0, iv 7)]) (cs := [iv 7, .slice none 0 0, .slice none 0 0]) (wn rfl) rfl (bH rfl eF) (by kernel_rfl) ?_))))))
 obtain ⟨b, d, H⟩ := bnd H
 refine di (r := (.tuple #[sv b.1, iv b.2])) (wn rfl) rfl Tryz.call23 (aj rfl aL) (fun W hW => E8 N (gu.mk 7 [] []) none 0 (Sl.nil _ _ _) none 0 (Sl.nil _ _ _) b d (HF.start _)) (aA rfl (aG rfl (fun _ _ a c => ib (a.ev rfl) rfl) (aG rfl (fun _ _ a c => ib (a.ev rfl) rfl) (Tr.k rfl (Tr.k rfl (ae (aa (ai (aA rfl (aC dL rfl rfl (aA rfl (dX 3 [(13, bV ((b.2 == 0) && (AC b.1 (⟨#[117, 110, 105, 116, 32, 55, 10]⟩))))] [] ?_ ?_))))))))))))
 ·cases f : (b.2 == 0)
  ·exact bf rfl (bf rfl (aC bE rfl rfl (ae (bu (.r rfl) .nil))))
  ·exact dU run_move rfl (kF Ob rfl rfl (aC bD rfl rfl (ae (bu (.r rfl) .nil))))
 ·show Tr _ _ (LF [(13, bV ((b.2 == 0) && (AC b.1 (⟨#[117, 110, 105, 116, 32, 55, 10]⟩))))]) (LE []) _
  refine Tr.k rfl (ae (aa (aW ?_)))
  obtain rfl := oI H
  exact dQ leB

theorem ze {w : Bs} (p0 : gu) (b : Option Addr) (d : Nat) (l : Sl w.O w.W aY b d p0.Tools) (f : Option Addr) (g : Nat) (o : Sl w.O w.W ay f g p0.Steps) (r : eT) (H : pY p0 = some r) (hE : HF w w.W (iF [emp, emp, emp])) : Calls Tryz.prog 93 [.agg #[iv p0.Unit, sL b p0.Tools d, sL f p0.Steps g]].toArray w.W fun e W' => ∃ (w' : Bs) (u : (Option Addr × Nat) × (Option Addr × Nat) × (Option Addr × Nat) × (Option Addr × Nat) × (Option Addr × Nat)), w.Le w' ∧ e = .returned (.pointer (some ⟨u.2.2.2.2.2, 0, none⟩)) ∧ (Sl w'.O w'.W aY u.1.1 u.1.2 r.p.Tools ∧ Sl w'.O w'.W ay u.2.1.1 u.2.1.2 r.p.Steps ∧ dM u.2.2.1.1 r.tools.length u.2.2.1.2 ∧ dM u.2.2.2.1.1 r.image.length u.2.2.2.1.2 ∧ True) ∧ HF w' W' (iF [ow u.2.2.1.1 u.2.2.1.2 62 jc r.tools, ow u.2.2.2.1.1 u.2.2.2.1.2 98 aS r.image, bx u.2.2.2.2.2 #[iv r.p.Unit, sL u.1.1 r.p.Tools u.1.2, sL u.2.1.1 r.p.Steps u.2.1.2, sL u.2.2.1.1 r.tools u.2.2.1.2, sL u.2.2.2.1.1 r.image u.2.2.2.1.2, bV r.clear, iv r.tool, iv r.place.X, iv r.place.Y, bV r.placed, iv r.off, iv r.on] 95]) := by
 unfold pY at H
 have leB := Bs.Le.refl w
 refine aZ (n := 64) Tryz.func93 rfl rfl rfl hE (ai (gN 1 (cs := [iv p0.Unit, sL b p0.Tools d, sL f p0.Steps g]) (wn rfl) rfl rfl rfl fun q => (Tr.k rfl (ae (aa (ai (aG rfl (fun _ _ a c => aM (cs := [iv p0.Unit, sL b p0.Tools d, sL f p0.Steps g]) ql mr (a.ev rfl) (aF.take (dR c (vs := [iv p0.Unit, sL b p0.Tools d, sL f p0.Steps g]) (k := 1) rfl 0) 3) rfl) (jh (vs := [(0, .agg #[iv p0.Unit, sL b p0.Tools d, sL f p0.Steps g]), (4, iv (-1))]) (cs := [iv p0.Unit, sL b p0.Tools d, sL f p0.Steps g, .slice none 0 0, .slice none 0 0, bV false, iv (-1), iv 0, iv 0, bV false, iv 0, iv 0]) (wn rfl) rfl (bH rfl (bH rfl eF)) (by kernel_rfl) (gN 2 (cs := [iv p0.Unit, sL b p0.Tools d, sL f p0.Steps g, .slice none 0 0, .slice none 0 0, bV false, iv (-1), iv 0, iv 0, bV false, iv 0, iv 0]) (wn rfl) rfl rfl rfl fun j => (Tr.k rfl (ae (aa (az (ai (aT (ag vX) rfl (aG rfl (fun _ _ a c => ah CG (a.ev rfl) (dR c (vs := [iv p0.Unit, sL b p0.Tools d, sL f p0.Steps g]) (k := 1) rfl 1) rfl) (aT (bz zR) rfl (aA rfl (ae (aa (Tr.block (df (σ := (List ic) × Nat) (fun m w s => m = s.1.length + 1 ∧ s.1 = List.drop s.2 p0.Tools ∧ s.2 ≤ p0.Tools.length ∧ lG p0 s.1 s.2 = some r) (fun s => [(1, pV q), (3, pV j), (13, sL b p0.Tools d), (14, iv (p0.Tools.length : Int)), (15, iv (s.2 : Int))]) (fun s => [(1, bx q #[iv p0.Unit, sL b p0.Tools d, sL f p0.Steps g] 26), (2, bx j #[iv p0.Unit, sL b p0.Tools d, sL f p0.Steps g, .slice none 0 0, .slice none 0 0, bV false, iv (-1), iv 0, iv 0, bV false, iv 0, iv 0] 95)]) (p0.Tools.length + 1) (p0.Tools, 0) ⟨rfl, rfl, Nat.zero_le _, H⟩ (.r rfl) (.r rfl) (fun _ _ h => absurd h.1 (by simp)) ?_))))))))))))))))))))))
 intro w v m s hs
 obtain ⟨i, z⟩ := s
 obtain ⟨y, t, A, H⟩ := hs
 replace t : i = List.drop z p0.Tools := t
 replace H : lG p0 i z = some r := H
 replace y : m + 1 = i.length + 1 := y
 replace l := l.le v
 replace o := o.le v
 replace leB := leB.trans v
 obtain rfl : m = i.length := by omega
 clear y
 dsimp only
 cases i with
 | nil =>
  rw [lG.eq_1] at H
  refine ai (aC bg rfl rfl (ae (aa (az (eQ rfl (dZ t) (bW (aB (aB (aR (aa (ai (aA rfl (Tr.k rfl (ae (aa (aW ?_))))))))))))))))
  obtain rfl := oI H
  exact bM 3 62 jc (bM 4 98 aS (Tr.out (m := [pV j]) [] (cO rfl bO) (fun W hW => ⟨w, ((b, d), (f, g), (none, 0), (none, 0), (none, j)), leB, rfl, ⟨l, o, gL, gL, trivial⟩, hW.pick (ks := [3, 4, 2]) (by decide) (aH rfl (aH rfl (aH rfl bn)))⟩)))
 | cons B i =>
  rw [lG.eq_2] at H
  refine ai (aC bg rfl rfl (ae (aa (az (eP rfl (fJ t) (aN (aa (az (Tr.block (az ?_))))))))))
  cases H

theorem qX {w : Bs} (p0 : eT) (b : Option Addr) (d : Nat) (t : Sl w.R w.W aY b d p0.p.Tools) (f : Option Addr) (g : Nat) (u : Sl w.R w.W ay f g p0.p.Steps) (h : Option Addr) (i : Nat) (v : Sl w.R w.W jc h i p0.tools) (j : Option Addr) (l : Nat) (y : Sl w.R w.W aS j l p0.image) (o : Nat) (q : w.R o) (s : aF w.W o 0 [iv p0.p.Unit, sL b p0.p.Tools d, sL f p0.p.Steps g, sL h p0.tools i, sL j p0.image l, bV p0.clear, iv p0.tool, iv p0.place.X, iv p0.place.Y, bV p0.placed, iv p0.off, iv p0.on]) (p1 : au) (p2 : au) (r : au) (H : jY p0 p1 p2 = some r) (hE : HF w w.W E0) : Calls Tryz.prog 185 [pV o, .agg #[iv p1.X, iv p1.Y], .agg #[iv p2.X, iv p2.Y]].toArray w.W fun e W' => e = .returned (.agg #[iv r.X, iv r.Y]) ∧ HF w W' E0 := by
 unfold jY at H
 have leB := Bs.Le.refl w
 refine aZ (n := 30) Tryz.func185 rfl rfl rfl hE (ai (gN 1 (cs := [iv p1.X, iv p1.Y]) (wn rfl) rfl rfl rfl fun z => (gN 2 (cs := [iv p2.X, iv p2.Y]) (wn rfl) rfl rfl rfl fun A => (Tr.alloc 3 (wn rfl) rfl vQ fun B => (ae (aa (az (kG 22 (by kernel_rfl) (by kernel_rfl) (fQ (ag nC) rfl (bi rfl (fun _ _ a c => ah bT (a.ev rfl) (dR c (vs := [iv p1.X, iv p1.Y]) (k := 1) rfl 0) rfl) (dD rfl (fQ iX rfl (fQ (ag Ma) rfl (fQ (ag uD) rfl (bi rfl (fun _ _ a c => ah bT (a.ev rfl) (aF.drop (aF.drop (ut q s c) 0) 0) rfl) ?_)))))))))))))))
 refine fO xy rfl rfl (fQ (ag nC) rfl (bi rfl (fun _ _ a c => ah bT (a.ev rfl) (dR c (vs := [iv p2.X, iv p2.Y]) (k := 2) rfl 0) rfl) (fO bv rfl rfl (fQ (ag lm) rfl (bi rfl (fun _ _ a c => ah bT (a.ev rfl) (dR c (vs := [iv p1.X, iv p1.Y]) (k := 1) rfl 1) rfl) (dD rfl (fQ iX rfl (fQ (ag Ma) rfl (fQ (ag uD) rfl (bi rfl (fun _ _ a c => ah bT (a.ev rfl) (aF.drop (aF.drop (ut q s c) 0) 0) rfl) (fO xy rfl rfl (fQ (ag lm) rfl (bi rfl (fun _ _ a c => ah bT (a.ev rfl) (dR c (vs := [iv p2.X, iv p2.Y]) (k := 2) rfl 1) rfl) (fO bv rfl rfl (iE (jh (vs := [(0, iv (bG ((bG (p1.X * p0.p.Unit)) + p2.X))), (1, iv (bG ((bG (p1.Y * p0.p.Unit)) + p2.Y)))]) (cs := [iv (bG ((bG (p1.X * p0.p.Unit)) + p2.X)), iv (bG ((bG (p1.Y * p0.p.Unit)) + p2.Y))]) (wn rfl) rfl (bH rfl (bH rfl eF)) (by kernel_rfl) (bJ 3 (cs := [iv (bG ((bG (p1.X * p0.p.Unit)) + p2.X)), iv (bG ((bG (p1.Y * p0.p.Unit)) + p2.Y))]) [iv (bG ((bG (p1.X * p0.p.Unit)) + p2.X)), iv (bG ((bG (p1.Y * p0.p.Unit)) + p2.Y))] (wn rfl) rfl rfl rfl rfl gV rfl rfl rfl (ae (aa (aW ?_))))))))))))))))))))
 obtain rfl := oI H
 exact Tr.out (m := [.agg #[iv (bG ((bG (p1.X * p0.p.Unit)) + p2.X)), iv (bG ((bG (p1.Y * p0.p.Unit)) + p2.Y))]]) [3] (og rfl rfl jZ gV bO) (fun W hW => ⟨rfl, hW.low leB⟩)

theorem Ay {w : Bs} (p0 : au) (r : Bool) (H : pq p0 = some r) (hE : HF w w.W E0) : Calls Tryz.prog 210 [.agg #[iv p0.X, iv p0.Y]].toArray w.W fun e W' => e = .returned (bV r) ∧ HF w W' E0 := by
 unfold pq at H
 have leB := Bs.Le.refl w
 refine aZ (n := 11) Tryz.func210 rfl rfl rfl hE (ai (gN 1 (cs := [iv p0.X, iv p0.Y]) (wn rfl) rfl rfl rfl fun g => (Tr.k rfl (ae (aa (ai (aT (ag nC) rfl (aG rfl (fun _ _ a c => ah bT (a.ev rfl) (dR c (vs := [iv p0.X, iv p0.Y]) (k := 1) rfl 0) rfl) ?_))))))))
 obtain ⟨d, j, H⟩ := bnd H
 refine di (r := (bV d)) (wn rfl) rfl Tryz.call141 (aj rfl aL) (fun W hW => ni p0.X d j (HF.start _)) (aA rfl ?_)
 obtain ⟨h, b, H⟩ := bnd H
 refine dX 4 [(10, bV h)] [(1, bx g #[iv p0.X, iv p0.Y] 47)] ?_ ?_
 ·cases f : d
  ·rw [f] at b
   rw [if_neg (by decide)] at b
   have H := b
   obtain rfl := oI H
   exact bf rfl (bf rfl (bf rfl (aC bE rfl rfl (ae (bu (.r rfl) (.r rfl))))))
  ·rw [f] at b
   rw [if_pos rfl] at b
   have H := b
   refine dU (ag lm) rfl (Tr.x (fun _ _ a c => ah bT (a.ev rfl) (dR c (vs := [iv p0.X, iv p0.Y]) (k := 1) rfl 1) rfl) ?_)
   obtain ⟨i, l, H⟩ := bnd H
   refine di (r := (bV i)) (wg rfl rfl rfl) rfl Tryz.call141 (aj rfl aL) (fun W hW => ni p0.Y i l (HF.start _)) (aC bD rfl rfl ?_)
   obtain rfl := oI H
   exact ae (bu (.r rfl) (.r rfl))
 ·show Tr _ _ (LF [(10, bV h)]) (LE [(1, bx g #[iv p0.X, iv p0.Y] 47)]) _
  refine Tr.k rfl (ae (aa (aW ?_)))
  obtain rfl := oI H
  exact dQ leB

theorem xW {w : Bs} (p0 : (List aV)) (d : Option Addr) (v : Nat) (o : Sl w.R w.W aS d v p0) (r : aQ) (H : mf p0 = some r) (hE : HF w w.W E0) : Calls Tryz.prog 227 [sL d p0 v].toArray w.W fun e W' => e = .returned (.agg #[iv r.X0, iv r.Y0, iv r.X1, iv r.Y1]) ∧ HF w W' E0 := by
 unfold mf at H
 have leB := Bs.Le.refl w
 refine aZ (n := 58) Tryz.func227 rfl rfl rfl hE (ai (Tr.alloc 1 (wn rfl) rfl x8 fun J => (ae (aa (az ?_)))))
 obtain ⟨a1, d9, H⟩ := bnd H
 obtain ⟨a2, a3, a4⟩ := aU d9
 obtain ⟨f2, a5, U, a6⟩ := (o).el a4
 obtain ⟨G, L⟩ := f2
 have B := U
 replace B : Sl w.R w.W bK G L a1.Xs := B
 obtain ⟨E, e0, H⟩ := bnd H
 obtain ⟨a7, a8, a9⟩ := aU e0
 obtain ⟨j, e3, H⟩ := bnd H
 obtain ⟨b0, b1, b2⟩ := aU e3
 obtain ⟨f3, b3, V, b4⟩ := (o).el b2
 obtain ⟨f8, f9⟩ := f3
 have e9 := V
 obtain ⟨b5, e4, H⟩ := bnd H
 obtain ⟨b6, b7, b8⟩ := aU e4
 obtain ⟨f4, b9, X, c0⟩ := (o).el b8
 obtain ⟨I, M⟩ := f4
 have C := X
 replace C : Sl w.R w.W bK I M b5.Xs := C
 obtain ⟨F, e5, H⟩ := bnd H
 obtain ⟨c3, c4, c5⟩ := aU e5
 obtain ⟨l, e6, H⟩ := bnd H
 obtain ⟨c6, c7, c8⟩ := aU e6
 obtain ⟨f5, c9, Z, d0⟩ := (o).el c8
 obtain ⟨g0, g1⟩ := f5
 have f1 := Z
 refine JK 25 [(24, .makeFunc (.func 0) #[] #[])] [(24, ⟨3, 2, .func (.func 0) #[] #[], fun b => pV b, fun b => bx b #[iv 0, iv 0, iv 0, iv 0] 38⟩)] [(0, sL d p0 v), (2, pV J), (3, .func (.func 0) #[] #[]), (6, sL d p0 v), (7, .pointer (some ⟨mV d, pW d + ((0 : Int)).toNat * 3, none⟩)), (8, .pointer (some ⟨mV d, pW d + ((0 : Int)).toNat * 3 + 2, none⟩)), (9, sL G a1.Xs L), (10, .pointer (some ⟨mV G, pW G + ((0 : Int)).toNat * 1, none⟩)), (11, iv E), (12, sL d p0 v), (13, .pointer (some ⟨mV d, pW d + ((0 : Int)).toNat * 3, none⟩)), (14, .pointer (some ⟨mV d, pW d + ((0 : Int)).toNat * 3 + 0, none⟩)), (15, iv j.Y0), (16, sL d p0 v), (17, .pointer (some ⟨mV d, pW d + ((0 : Int)).toNat * 3, none⟩)), (18, .pointer (some ⟨mV d, pW d + ((0 : Int)).toNat * 3 + 2, none⟩)), (19, sL I b5.Xs M), (20, .pointer (some ⟨mV I, pW I + ((1 : Int)).toNat * 1, none⟩)), (21, iv F), (22, sL d p0 v), (23, sL d p0 v), (24, iv (p0.length : Int)), (25, iv (bG ((p0.length : Int) - 1))), (26, .pointer (some ⟨mV d, pW d + ((bG ((p0.length : Int) - 1))).toNat * 3, none⟩)), (27, .pointer (some ⟨mV d, pW d + ((bG ((p0.length : Int) - 1))).toNat * 3 + 1, none⟩)), (28, iv l.Y1), (29, .agg #[iv E, iv j.Y0, iv F, iv l.Y1])] (by kernel_rfl) (by kernel_rfl) (by kernel_rfl) (by kernel_rfl) (by kernel_rfl) (by kernel_rfl) (by kernel_rfl) (uU (OV rfl rfl x8) wQ) (uU rfl wQ) (uU rfl wQ) ?_ ?_
 ·refine dD rfl (bi rfl (fun _ _ a c => ak oG (a.ev rfl) o.form (a.ev rfl) a2 a3) (fQ (ag lg) rfl (bi rfl (fun _ _ a c => ah mR (a.ev rfl) (aF.drop (ut a5 a6 c) 2) rfl) (bi rfl (fun _ _ a c => ak kS (a.ev rfl) B.form (a.ev rfl) a7 a8) (bi rfl (fun _ _ a c => ah bT (a.ev rfl) (uZ je B a9 c) rfl) (dD rfl (bi rfl (fun _ _ a c => ak oG (a.ev rfl) o.form (a.ev rfl) b0 b1) (fQ (ag pR) rfl (bi rfl (fun _ _ a c => ah bT (a.ev rfl) (aF.drop (ut b3 b4 c) 0) rfl) (dD rfl (bi rfl (fun _ _ a c => ak oG (a.ev rfl) o.form (a.ev rfl) b6 b7) ?_)))))))))))
  refine fQ (ag lg) rfl (bi rfl (fun _ _ a c => ah mR (a.ev rfl) (aF.drop (ut b9 c0 c) 2) rfl) (bi rfl (fun _ _ a c => ak kS (a.ev rfl) C.form (a.ev rfl) c3 c4) (bi rfl (fun _ _ a c => ah bT (a.ev rfl) (uZ je C c5 c) rfl) (dD rfl (dD rfl (fQ (bz sG) rfl (fO gH rfl rfl (bi rfl (fun _ _ a c => ak oG (a.ev rfl) o.form (a.ev rfl) c6 c7) (fQ (ag nW) rfl (bi rfl (fun _ _ a c => ah bT (a.ev rfl) (aF.drop (ut c9 d0 c) 1) rfl) (Br (vs := [(0, iv E), (1, iv j.Y0), (2, iv F), (3, iv l.Y1)]) (cs := [iv E, iv j.Y0, iv F, iv l.Y1]) (wn rfl) rfl (bH rfl (bH rfl (bH rfl (bH rfl eF)))) (by kernel_rfl) (Gn (vs := []) (wn rfl) rfl aL ?_))))))))))))
  exact Tq.fin (.r rfl)
 ·intro q
  refine Tr.vJ (lf := [(0, sL d p0 v), (2, pV J), (3, .pointer (some ⟨(q 24), 0, none⟩)), (29, .agg #[iv E, iv j.Y0, iv F, iv l.Y1])]) (le := [(1, bx J #[iv 0, iv 0, iv 0, iv 0] 38), (2, bx (q 24) #[iv 0, iv 0, iv 0, iv 0] 38)]) (.r rfl) (.r rfl) (bJ 2 (cs := [iv E, iv j.Y0, iv F, iv l.Y1]) [iv E, iv j.Y0, iv F, iv l.Y1] (wn rfl) rfl rfl rfl rfl mI rfl rfl rfl (ae (aa (az (ai (aA rfl (aT (bz sG) rfl (aA rfl (ae (aa (Tr.block (df (σ := (List aV) × Nat × Int × Int) (fun m w s => m = s.1.length + 1 ∧ s.1 = List.drop s.2.1 p0 ∧ s.2.1 ≤ p0.length ∧ iq j l s.1 s.2.1 s.2.2.1 s.2.2.2 = some r) (fun s => [(2, pV J), (3, .pointer (some ⟨(q 24), 0, none⟩)), (30, sL d p0 v), (31, iv (p0.length : Int)), (32, iv (s.2.1 : Int))]) (fun s => [(1, bx J #[iv 0, iv 0, iv 0, iv 0] 38), (2, bx (q 24) #[iv s.2.2.1, iv j.Y0, iv s.2.2.2, iv l.Y1] 38)]) (p0.length + 1) (p0, 0, E, F) ⟨rfl, rfl, Nat.zero_le _, H⟩ (.r rfl) (.r rfl) (fun _ _ h => absurd h.1 (by simp)) ?_))))))))))))
  intro w P m s hs
  obtain ⟨A, T, t, y⟩ := s
  obtain ⟨Q, D, g3, H⟩ := hs
  replace D : A = List.drop T p0 := D
  replace H : iq j l A T t y = some r := H
  replace Q : m + 1 = A.length + 1 := Q
  replace o := o.nL P
  replace leB := leB.trans P
  obtain rfl : m = A.length := by omega
  clear Q
  dsimp only
  cases A with
  | nil =>
   rw [iq.eq_1] at H
   refine ai (aC bg rfl rfl (ae (aa (az (eQ rfl (dZ D) (bW (aB (aB (aR (aa (ai (aG rfl (fun _ _ a c => aM (cs := [iv t, iv j.Y0, iv y, iv l.Y1]) tV mI (a.ev rfl) (aF.take (dR c (vs := [iv t, iv j.Y0, iv y, iv l.Y1]) (k := 2) rfl 0) 4) rfl) (bJ 1 (cs := [iv t, iv j.Y0, iv y, iv l.Y1]) [iv t, iv j.Y0, iv y, iv l.Y1] (wn rfl) rfl rfl rfl rfl mI rfl rfl rfl (ae (aa (aW ?_))))))))))))))))
   obtain rfl := oI H
   exact Tr.out (m := [.agg #[iv t, iv j.Y0, iv y, iv l.Y1]]) [1] (og rfl rfl tV mI bO) (fun W hW => ⟨rfl, hW.low leB⟩)
  | cons i A =>
   rw [iq.eq_2] at H
   refine ai (aC bg rfl rfl (ae (aa (az (eP rfl (fJ D) (aN (aa (az (Tr.block (ai ?_))))))))))
   obtain ⟨f6, d1, a0, d2⟩ := (o).el (gy D)
   obtain ⟨f, g⟩ := f6
   have u := a0
   replace u : Sl w.R w.W bK f g i.Xs := u
   refine aG rfl (fun _ _ a c => ak oG (a.ev rfl) o.form (a.ev rfl) (Int.natCast_nonneg _) (bF D)) (aG rfl (fun _ _ a c => aM (cs := [iv i.Y0, iv i.Y1, sL f i.Xs g]) JE zS (a.ev rfl) (aF.take (ut d1 d2 c) 3) rfl) (Tr.alloc 5 (wn rfl) rfl Lb fun S => (bJ 5 (cs := [iv i.Y0, iv i.Y1, sL f i.Xs g]) [iv i.Y0, iv i.Y1, sL f i.Xs g] (wn rfl) rfl rfl rfl rfl zS rfl rfl rfl (ae (aa (tZ 20 [(19, fun x => x = (q 24))] [] (by kernel_rfl) (by kernel_rfl) fun N f7 g2 => (dE 0 [(36, .pointer (some ⟨(q 24), 0, none⟩))] (by kernel_rfl) rfl rfl (by kernel_rfl) ?_ rfl rfl ?_)))))))
   ·exact fQ (ag pU) rfl (Tq.fin (.r rfl))
   refine dE 1 [(37, iv t)] (by kernel_rfl) rfl rfl (by kernel_rfl) ?_ rfl rfl ?_
   ·exact bi rfl (fun _ _ a c => ah bT (a.ev rfl) (dR c (vs := [iv t, iv j.Y0, iv y, iv l.Y1]) (k := 2) rfl 0) rfl) (Tq.fin (.r rfl))
   refine dE 2 [(38, .pointer (some ⟨S, 2, none⟩))] (by kernel_rfl) rfl rfl (by kernel_rfl) ?_ rfl rfl ?_
   ·exact fQ (ag lg) rfl (Tq.fin (.r rfl))
   refine dE 3 [(39, sL f i.Xs g)] (by kernel_rfl) rfl rfl (by kernel_rfl) ?_ rfl rfl ?_
   ·exact bi rfl (fun _ _ a c => ah mR (a.ev rfl) (dR c (vs := [iv i.Y0, iv i.Y1, sL f i.Xs g]) (k := 5) rfl 2) rfl) (Tq.fin (.r rfl))
   obtain ⟨K, e7, H⟩ := bnd H
   obtain ⟨d3, d4, d5⟩ := aU e7
   refine dE 4 [(40, .pointer (some ⟨mV f, pW f + ((0 : Int)).toNat * 1, none⟩))] (by kernel_rfl) rfl rfl (by kernel_rfl) ?_ rfl rfl ?_
   ·exact bi rfl (fun _ _ a c => ak kS (a.ev rfl) u.form (a.ev rfl) d3 d4) (Tq.fin (.r rfl))
   refine dE 5 [(41, iv K)] (by kernel_rfl) rfl rfl (by kernel_rfl) ?_ rfl rfl ?_
   ·exact bi rfl (fun _ _ a c => ah bT (a.ev rfl) (uZ je u d5 c) rfl) (Tq.fin (.r rfl))
   refine dE 6 [(42, iv (min t K))] (by kernel_rfl) rfl rfl (by kernel_rfl) ?_ rfl rfl ?_
   ·exact bi rfl (fun _ _ a c => xz (a.ev rfl) (a.ev rfl) _) (Tq.fin (.r rfl))
   refine dE 7 [(43, .pointer (some ⟨(q 24), 2, none⟩))] (by kernel_rfl) rfl rfl (by kernel_rfl) ?_ rfl rfl ?_
   ·exact fQ (ag zF) rfl (Tq.fin (.r rfl))
   refine dE 8 [(44, iv y)] (by kernel_rfl) rfl rfl (by kernel_rfl) ?_ rfl rfl ?_
   ·exact bi rfl (fun _ _ a c => ah bT (a.ev rfl) (dR c (vs := [iv t, iv j.Y0, iv y, iv l.Y1]) (k := 2) rfl 2) rfl) (Tq.fin (.r rfl))
   refine dI 9 (by kernel_rfl) rfl (wn rfl) rfl (by kernel_rfl) (fun _ _ a => ag lg (a.ev rfl)) rfl (nu 10 [(46, sL f i.Xs g)] [19] false (by kernel_rfl) rfl rfl (by kernel_rfl) (fun W W' c hsW hk => HF.yN (le := [(5, bx S #[iv i.Y0, iv i.Y1, sL f i.Xs g] 98)]) (ks := [(2, fun x => x = (q 24))]) (s0 := N) false c hk (fun h => absurd h (by decide)) (.r rfl) (fun b hb => hb.elim (fun ⟨p, hp, hf, hb⟩ => by simp only [List.mem_cons, List.not_mem_nil, or_false] at hp; rcases hp with rfl; exact .inl ⟨_, List.mem_cons_self, hb⟩) (fun hb => absurd hb.1 (by decide))) (List.forall_mem_cons.2 ⟨fun b hb => hb, (fun _ h => nomatch h)⟩) rfl) ?_ rfl rfl ?_)
   ·exact bi rfl (fun _ _ a c => ah mR (a.ev rfl) (dR c (vs := [iv i.Y0, iv i.Y1, sL f i.Xs g]) (k := 5) rfl 2) rfl) (Tq.fin (.r rfl))
   refine dI 11 (by kernel_rfl) rfl (wn rfl) rfl (by kernel_rfl) (fun _ _ a => ag lg (a.ev rfl)) rfl (nu 12 [(48, sL f i.Xs g)] [19] false (by kernel_rfl) rfl rfl (by kernel_rfl) (fun W W' c hsW hk => HF.yN (le := [(5, bx S #[iv i.Y0, iv i.Y1, sL f i.Xs g] 98)]) (ks := [(2, fun x => x = (q 24))]) (s0 := N) false c hk (fun h => absurd h (by decide)) (.r rfl) (fun b hb => hb.elim (fun ⟨p, hp, hf, hb⟩ => by simp only [List.mem_cons, List.not_mem_nil, or_false] at hp; rcases hp with rfl; exact .inl ⟨_, List.mem_cons_self, hb⟩) (fun hb => absurd hb.1 (by decide))) (List.forall_mem_cons.2 ⟨fun b hb => hb, (fun _ h => nomatch h)⟩) rfl) ?_ rfl rfl ?_)
   ·exact bi rfl (fun _ _ a c => ah mR (a.ev rfl) (dR c (vs := [iv i.Y0, iv i.Y1, sL f i.Xs g]) (k := 5) rfl 2) rfl) (Tq.fin (.r rfl))
   refine dI 13 (by kernel_rfl) rfl (wn rfl) rfl (by kernel_rfl) (fun _ _ a => bz nz (a.ev rfl)) rfl (dI 14 (by kernel_rfl) rfl (wn rfl) rfl (by kernel_rfl) (fun _ _ a => gH (a.ev rfl) (a.ev rfl)) rfl ?_)
   obtain ⟨O, e8, H⟩ := bnd H
   obtain ⟨d6, d7, d8⟩ := aU e8
   refine dI 15 (by kernel_rfl) rfl (wn rfl) rfl (by kernel_rfl) (fun _ _ a => ak kS (a.ev rfl) u.form (a.ev rfl) d6 d7) rfl (nu 16 [(52, iv O)] [19] false (by kernel_rfl) rfl rfl (by kernel_rfl) (fun W W' c hsW hk => HF.yN (le := []) (ks := [(2, fun x => x = (q 24))]) (s0 := N) false c hk (fun h => absurd h (by decide)) .nil (fun b hb => hb.elim (fun ⟨p, hp, hf, hb⟩ => by simp only [List.mem_cons, List.not_mem_nil, or_false] at hp; rcases hp with rfl; exact .inl ⟨_, List.mem_cons_self, hb⟩) (fun hb => absurd hb.1 (by decide))) (List.forall_mem_cons.2 ⟨fun b hb => hb, (fun _ h => nomatch h)⟩) rfl) ?_ rfl rfl ?_)
   ·exact bi rfl (fun _ _ a c => ah bT (a.ev rfl) (uZ je u d8 c) rfl) (Tq.fin (.r rfl))
   refine dI 17 (by kernel_rfl) rfl (wn rfl) rfl (by kernel_rfl) (fun _ _ a => zq (a.ev rfl) (a.ev rfl) _) rfl (dE 18 [(54, .pointer (some ⟨(q 24), 0, none⟩))] (by kernel_rfl) rfl rfl (by kernel_rfl) ?_ rfl rfl ?_)
   ·exact fQ (ag pU) rfl (Tq.fin (.r rfl))
   exact Dr.one 19 (by kernel_rfl) (EX 19 2 (cs := [iv (min t K)]) [iv (min t K), iv j.Y0, iv y, iv l.Y1] rfl (wn rfl) (.inl ⟨_, List.mem_cons_self, rfl, rfl⟩) rfl rfl rfl rfl zY rfl rfl rfl (wy (by kernel_rfl) (aT (ag zF) rfl (bJ 2 (cs := [iv (max y O)]) [iv (min t K), iv j.Y0, iv (max y O), iv l.Y1] (wn rfl) rfl rfl rfl rfl zY rfl rfl rfl (ae (aJ (aa (aI (aC bv rfl rfl (aA rfl (ae (aD P (A, (T + 1), (min t K), (max y O)) ⟨rfl, fe D, bF D, H⟩ (.cons rfl (.cons rfl (.cons rfl (.cons rfl (.cons (congrArg (fun z => some (Value.int .i64 z)) (eZ D o.form)) .nil))))) (.r rfl)))))))))))))

theorem zb {w : Bs} (p0 : (List aV)) (c : Option Addr) (d : Nat) (i : Sl w.R w.W aS c d p0) (r : Bool) (H : nH p0 = some r) (hE : HF w w.W E0) : Calls Tryz.prog 222 [sL c p0 d].toArray w.W fun e W' => e = .returned (bV r) ∧ HF w W' E0 := by
 unfold nH at H
 have leB := Bs.Le.refl w
 refine aZ (n := 11) Tryz.func222 rfl rfl rfl hE (ai (Tr.k rfl (ae (aa (ai (aA rfl (aT (bz sG) rfl (aC dL rfl rfl (aA rfl ?_)))))))))
 obtain ⟨g, a, H⟩ := bnd H
 refine dX 4 [(10, bV g)] [] ?_ ?_
 ·cases f : ((p0.length : Int) == 0)
  ·rw [f] at a
   rw [if_neg (by decide)] at a
   have H := a
   refine dU run_move rfl ?_
   obtain ⟨b, j, H⟩ := bnd H
   refine di (r := (.agg #[iv b.X0, iv b.Y0, iv b.X1, iv b.Y1])) (wg rfl rfl rfl) rfl Tryz.call227 (aj rfl aL) (fun W hW => xW p0 c d (i.ext hW.cB) b j (HF.start _)) ?_
   obtain ⟨h, l, H⟩ := bnd H
   refine di (r := (bV h)) (wg rfl rfl rfl) rfl Tryz.call104 (aj rfl aL) (fun W hW => wm b h l (HF.start _)) (aC bE rfl rfl ?_)
   obtain rfl := oI H
   exact ae (bu (.r rfl) .nil)
  ·rw [f] at a
   rw [if_pos rfl] at a
   have H := a
   obtain rfl := oI H
   exact bf rfl (bf rfl (bf rfl (aC bD rfl rfl (ae (bu (.r rfl) .nil)))))
 ·show Tr _ _ (LF [(10, bV g)]) (LE []) _
  refine Tr.k rfl (ae (aa (aW ?_)))
  obtain rfl := oI H
  exact dQ leB

theorem vE {w : Bs} (p0 : (List aV)) (f : Option Addr) (q : Nat) (b : Sl w.O w.W aS f q p0) (p1 : Int) (p2 : Int) (r : ((List Int) × Int)) (H : mX p0 p1 p2 = some r) (hE : HF w w.W (iF [])) : Calls Tryz.prog 231 [sL f p0 q, iv p1, iv p2].toArray w.W fun e W' => ∃ (w' : Bs) (u : (Option Addr × Nat)), w.Le w' ∧ e = .returned (.tuple #[sL u.1 r.1 u.2, iv r.2]) ∧ (Sl w'.O w'.W bK u.1 u.2 r.1) ∧ HF w' W' (iF []) := by
 unfold mX at H
 have leB := Bs.Le.refl w
 refine aZ (n := 36) Tryz.func231 rfl rfl rfl hE (ai (Tr.k rfl (bM 1 3 bK ?_)))
 show Tr _ _ (uf _ 6 (sL none (([] : List Int)) 0)) _ _
 refine Tr.k rfl (ae (aa (az (Tr.block (ai (aA rfl (aT (bz sG) rfl (aC dL rfl rfl (Tr.k rfl (ae (aa (aP rfl H (fun H => ?_) (fun H => ?_)))))))))))))
 ·refine ai (aA rfl (Tr.k rfl (bM 2 3 bK ?_)))
  show Tr _ _ (uf _ 6 (sL none (([] : List Int)) 0)) _ _
  refine Tr.k rfl (ae (aa (aW (bL (aK ?_)))))
  obtain rfl := oI H
  refine Tr.freeze 2 rfl fun w T U => ?_
  replace leB := leB.trans T
  exact Tr.out (m := [sL none (([] : List Int)) 0, iv p2]) [] (cO rfl (cO rfl bO)) (fun W hW => ⟨w, (none, 0), leB, rfl, U, hW.pick (ks := []) (by decide) bn⟩)
 ·refine ai (aA rfl (aA rfl ?_))
  obtain ⟨b6, V, H⟩ := bnd H
  obtain ⟨z, A, B⟩ := aU V
  obtain ⟨a4, i, s, C⟩ := (b).el B
  obtain ⟨b0, b1⟩ := a4
  have a1 := s
  replace i : w.R (mV f) := Or.inl i
  refine aG rfl (fun _ _ a c => ak oG (a.ev rfl) b.form (a.ev rfl) z A) (aT (ag pR) rfl (aG rfl (fun _ _ a c => ah bT (a.ev rfl) (aF.drop (ut i C c) 0) rfl) (aC bg rfl rfl (Tr.k rfl (ae (aa (aP rfl H (fun H => ?_) (fun H => ?_))))))))
  ·refine az (jb (by kernel_rfl) (by kernel_rfl) (dD rfl (dD rfl ?_)))
   obtain ⟨a5, X, H⟩ := bnd H
   obtain ⟨D, E, F⟩ := aU X
   obtain ⟨a6, j, t, G⟩ := (b).el F
   obtain ⟨b2, b3⟩ := a6
   have a2 := t
   replace j : w.R (mV f) := Or.inl j
   refine bi rfl (fun _ _ a c => ak oG (a.ev rfl) b.form (a.ev rfl) D E) (fQ (ag pR) rfl (bi rfl (fun _ _ a c => ah bT (a.ev rfl) (aF.drop (ut j G c) 0) rfl) (bi rfl (fun _ _ a c => xz (a.ev rfl) (a.ev rfl) _) (rU rfl rfl (rU rfl rfl (iE (aa (aW (bL (aK ?_))))))))))
   obtain rfl := oI H
   exact Tr.out (m := [.slice none 0 0, iv (min p2 a5.Y0)]) [] (cO rfl (cO rfl bO)) (fun W hW => ⟨w, (none, 0), leB, rfl, (Sl.nil _ _ _), hW.pick (ks := []) (by decide) bn⟩)
  ·refine aN (aJ (aa (az (jb (by kernel_rfl) (by kernel_rfl) (dD rfl ?_)))))
   obtain ⟨I, Z, H⟩ := bnd H
   obtain ⟨J, K, L⟩ := aU Z
   obtain ⟨a7, l, v, M⟩ := (b).el L
   obtain ⟨g, h⟩ := a7
   have d := v
   replace d : Sl w.O w.W bK g h I.Xs := d
   replace l : w.R (mV f) := Or.inl l
   refine bi rfl (fun _ _ a c => ak oG (a.ev rfl) b.form (a.ev rfl) J K) (fQ (ag lg) rfl (bi rfl (fun _ _ a c => ah mR (a.ev rfl) (aF.drop (ut l M c) 2) rfl) (dD rfl (dD rfl ?_))))
   obtain ⟨a8, a0, H⟩ := bnd H
   obtain ⟨N, P, Q⟩ := aU a0
   obtain ⟨a9, o, y, S⟩ := (b).el Q
   obtain ⟨b4, b5⟩ := a9
   have a3 := y
   replace o : w.R (mV f) := Or.inl o
   refine bi rfl (fun _ _ a c => ak oG (a.ev rfl) b.form (a.ev rfl) N P) (fQ (ag nW) rfl (bi rfl (fun _ _ a c => ah bT (a.ev rfl) (aF.drop (ut o S c) 1) rfl) (bi rfl (fun _ _ a c => xz (a.ev rfl) (a.ev rfl) _) (rU rfl rfl (rU rfl rfl (iE (aa (aW ?_))))))))
   obtain rfl := oI H
   exact Tr.out (m := [sL g I.Xs h, iv (min p2 a8.Y1)]) [] (cO rfl (cO rfl bO)) (fun W hW => ⟨w, (g, h), leB, rfl, d, hW.pick (ks := []) (by decide) bn⟩)

theorem w9 (N : Nat) {w : Bs} (p0 : (List aV)) (z : Option Addr) (A : Nat) (c7 : Sl w.O w.W aS z A p0) (p1 : (List aV)) (B : Option Addr) (C : Nat) (c8 : Sl w.O w.W aS B C p1) (p2 : Bool → Bool → Option Bool) (fid2 : Nat) (o : List Value) (hg2 : ∀ args W, (callFunc fid2 args).run Tryz.prog W = .ok (.enter fid2 args) W) (hf2 : ∀ (w' : Bs), w.Ext w' → ∀ (z0 : Bool) (z1 : Bool), ∀ y, p2 z0 z1 = some y → Calls Tryz.prog fid2 (([bV z0, bV z1] : List Value) ++ o).toArray w'.W fun e W'' => e = .returned (bV y) ∧ HF w' W'' E0) (r : (List aV)) (H : pM N p0 p1 p2 = some r) (hE : HF w w.W (iF [emp])) : Calls Tryz.prog 228 [sL z p0 A, sL B p1 C, .func (.func fid2) #[] o.toArray].toArray w.W fun e W' => ∃ (w' : Bs) (u : (Option Addr × Nat)), w.Le w' ∧ e = .returned (sL u.1 r u.2) ∧ (dM u.1 r.length u.2) ∧ HF w' W' (iF [ow u.1 u.2 98 aS r]) := by
 unfold pM at H
 have leB := Bs.Le.refl w
 refine aZ (n := 126) Tryz.func228 rfl rfl rfl hE (ai (Tr.k rfl (bM 1 98 aS ?_)))
 show Tr _ _ (uf _ 6 (sL none (([] : List aV)) 0)) _ _
 refine ae (aa (ai (Tr.k rfl (bM 2 98 aS ?_))))
 show Tr _ _ (uf _ 7 (sL none (([] : List aV)) 0)) _ _
 refine ae (aa (az (ai (aA rfl (aT (bz sG) rfl (aA rfl (aT (bz sG) rfl (aC bv rfl rfl (aC dL rfl rfl (ae (aa (aP rfl H (fun H => ?_) (fun H => ?_)))))))))))))
 ·refine ai (Tr.k rfl (bM 3 98 aS ?_))
  show Tr _ _ (uf _ 6 (sL none (([] : List aV)) 0)) _ _
  refine ae (aa (aW (aK ?_)))
  obtain rfl := oI H
  exact Tr.out (m := [sL none (([] : List aV)) 0]) [] (cO rfl bO) (fun W hW => ⟨w, (none, 0), leB, rfl, gL, hW.pick (ks := [3]) (by decide) (aH rfl bn)⟩)
 ·refine aN (aa (ai (Tr.k rfl (Tr.k rfl (ae (aa (az (ai (aA rfl (aA rfl (dS 4 (e := 62) (vs := [(0, sL z p0 A), (1, sL B p1 C)]) (cs := [sL z p0 A, sL B p1 C]) (wn rfl) rfl (bH rfl (bH rfl eF)) (by kernel_rfl) fun g6 => (aT (bz TQ) rfl (aA rfl (ae (aa (Tr.block (Tr.own 4 jc [p0, p1] (css := [[sL z p0 A], [sL B p1 C]]) rfl (.cons ⟨(z, A), c7, rfl⟩ (.cons ⟨(B, C), c8, rfl⟩ .nil)) rfl (by decide) (vU rfl) (EU 4 9 rfl rfl rfl (df (σ := Int × Int × (List (List aV)) × Int × (Option Addr) × Nat) (fun m w s => eH N p0 p1 p2 m s.1 s.2.1 s.2.2.1 s.2.2.2.1 = some r ∧ dM s.2.2.2.2.1 s.2.2.1.length s.2.2.2.2.2) (fun s => [(0, sL z p0 A), (1, sL B p1 C), (2, .func (.func fid2) #[] o.toArray), (7, sL none (([] : List aV)) 0), (8, iv s.1), (9, iv s.2.1), (25, sL s.2.2.2.2.1 s.2.2.1 s.2.2.2.2.2), (26, iv 2), (27, iv s.2.2.2.1)]) (fun s => [(2, ow none 0 98 aS ([] : List aV)), (9, ow s.2.2.2.2.1 s.2.2.2.2.2 62 jc s.2.2.1)]) N (0, 0, [p0, p1], 0, (some ⟨g6, 0, none⟩), 2) ⟨H, (OD g6 rfl)⟩ (.r rfl) (.r rfl) (fun _ _ h => jQ (h.1)) ?_)))))))))))))))))))
  intro w a8 g7 s hs
  obtain ⟨b6, g, F, M, D, E⟩ := s
  obtain ⟨H, b7⟩ := hs
  replace H : eH N p0 p1 p2 (g7 + 1) b6 g F M = some r := H
  replace c7 := c7.le a8
  replace c8 := c8.le a8
  replace hf2 := fun w' he => hf2 w' (a8.ext.trans he)
  replace leB := leB.trans a8
  replace b7 : dM D F.length E := b7
  rw [eH.eq_2] at H
  dsimp only
  refine ai (aC bg rfl rfl (ae (aa (az (aP rfl H (fun H => ?_) (fun H => ?_))))))
  ·refine aN (aa (az (Tr.block (ai (aA rfl ?_)))))
   obtain ⟨Z, j7, H⟩ := bnd H
   obtain ⟨g8, g9, h0⟩ := aU j7
   refine aG rfl (fun _ _ a c => ak Uw (a.ev rfl) b7 (a.ev rfl) g8 g9) (Dp (U := (jc).Ad) (fun u => (jc).ok w.O w.W u Z) (fun u => (sL u.1 Z u.2)) (wn rfl) rfl (Fj (κ := 9) (t := jc) (V := fun u => (sL u.1 Z u.2)) rfl h0 (fun _ _ u a hc => ah JF (a.ev rfl) hc rfl)) ?_)
   intro l4 f5
   obtain ⟨v, S⟩ := l4
   have f := f5
   replace f : Sl w.O w.W aS v S Z := f
   dsimp only
   refine Tr.k rfl (Tr.k rfl (ae (aa (ai (aA rfl (aT (bz sG) rfl (aC jq rfl rfl (ae (aa (aP rfl H (fun H => ?_) (fun H => ?_)))))))))))
   ·have e7 := Bs.Le.refl w
    refine kT (σ := Int × Int) (fun w s => kI F M (eH N p0 p1 p2 g7) Z s.1 s.2 = some r) (fun s => [(0, sL z p0 A), (1, sL B p1 C), (2, .func (.func fid2) #[] o.toArray), (7, sL none (([] : List aV)) 0), (8, iv s.1), (9, iv s.2), (11, sL v Z S), (25, sL D F E), (26, iv 2), (27, iv M)]) (fun s => [(2, ow none 0 98 aS ([] : List aV)), (9, ow D E 62 jc F)]) ?_ ?_
    ·refine ai (aA rfl (aC dL rfl rfl (aA rfl (dX 4 [(0, sL z p0 A), (1, sL B p1 C), (2, .func (.func fid2) #[] o.toArray), (7, sL none (([] : List aV)) 0), (8, iv b6), (9, iv g), (11, sL v Z S), (25, sL D F E), (26, iv 2), (27, iv M), (41, bV ((M == 0) || ((p0.length : Int) == 0)))] [(2, ow none 0 98 aS ([] : List aV)), (9, ow D E 62 jc F)] ?_ ?_))))
     ·cases o3 : (M == 0)
      ·exact dU run_move rfl (dU (bz sG) rfl (kF dL rfl rfl (aC bE rfl rfl (ae (bu (.r rfl) (.r rfl))))))
      ·exact bf rfl (bf rfl (bf rfl (aC bD rfl rfl (ae (bu (.r rfl) (.r rfl))))))
     ·show Tr _ _ (LF [(0, sL z p0 A), (1, sL B p1 C), (2, .func (.func fid2) #[] o.toArray), (7, sL none (([] : List aV)) 0), (8, iv b6), (9, iv g), (11, sL v Z S), (25, sL D F E), (26, iv 2), (27, iv M), (41, bV ((M == 0) || ((p0.length : Int) == 0)))]) (LE [(2, ow none 0 98 aS ([] : List aV)), (9, ow D E 62 jc F)]) _
      refine ae (aa (aP rfl H (fun H => ?_) (fun H => ?_)))
      ·refine jb (by kernel_rfl) (by kernel_rfl) (dD rfl ?_)
       obtain ⟨l5, j8, H⟩ := bnd H
       obtain ⟨h1, h2, h3⟩ := aU j8
       obtain ⟨l6, d2, f6, h4⟩ := (f).el h3
       obtain ⟨n0, n1⟩ := l6
       have k8 := f6
       replace d2 : w.R (mV v) := Or.inl d2
       refine bi rfl (fun _ _ a c => ak oG (a.ev rfl) f.form (a.ev rfl) h1 h2) (fQ (ag pR) rfl (bi rfl (fun _ _ a c => ah bT (a.ev rfl) (aF.drop (ut d2 h4 c) 0) rfl) (dD rfl (dD rfl (fQ (bz sG) rfl (fO gH rfl rfl ?_))))))
       obtain ⟨l7, j9, H⟩ := bnd H
       obtain ⟨h5, h6, h7⟩ := aU j9
       obtain ⟨l8, d3, f7, h8⟩ := (f).el h7
       obtain ⟨n2, n3⟩ := l8
       have k9 := f7
       replace d3 : w.R (mV v) := Or.inl d3
       exact bi rfl (fun _ _ a c => ak oG (a.ev rfl) f.form (a.ev rfl) h5 h6) (fQ (ag nW) rfl (bi rfl (fun _ _ a c => ah bT (a.ev rfl) (aF.drop (ut d3 h8 c) 1) rfl) (rU rfl rfl (rU rfl rfl (iE (aD e7 (l5.Y0, l7.Y1) H (.r rfl) (.r rfl)))))))
      ·exact aN (aD e7 (b6, g) H (.r rfl) (.r rfl))
    ·intro w s d4 hs
     obtain ⟨e9, f1⟩ := s
     have H := hs
     replace H : kI F M (eH N p0 p1 p2 g7) Z e9 f1 = some r := H
     replace hf2 := fun w' he => hf2 w' (d4.ext.trans he)
     replace f := f.le d4
     replace a8 := a8.trans d4
     unfold kI at H
     dsimp only
     refine jb (by kernel_rfl) (by kernel_rfl) (dD rfl (dD rfl ?_))
     obtain ⟨l9, k0, H⟩ := bnd H
     obtain ⟨h9, i0, i1⟩ := aU k0
     obtain ⟨m0, d5, f8, i2⟩ := (f).el i1
     obtain ⟨n4, n5⟩ := m0
     have l0 := f8
     replace d5 : w.R (mV v) := Or.inl d5
     refine bi rfl (fun _ _ a c => ak oG (a.ev rfl) f.form (a.ev rfl) h9 i0) (fQ (ag pR) rfl (bi rfl (fun _ _ a c => ah bT (a.ev rfl) (aF.drop (ut d5 i2 c) 0) rfl) (bi rfl (fun _ _ a c => xz (a.ev rfl) (a.ev rfl) _) (dD rfl (dD rfl (dD rfl (fQ (bz sG) rfl (fO gH rfl rfl ?_))))))))
     obtain ⟨m1, k1, H⟩ := bnd H
     obtain ⟨i3, i4, i5⟩ := aU k1
     obtain ⟨m2, d6, f9, i6⟩ := (f).el i5
     obtain ⟨n6, n7⟩ := m2
     have l1 := f9
     replace d6 : w.R (mV v) := Or.inl d6
     exact bi rfl (fun _ _ a c => ak oG (a.ev rfl) f.form (a.ev rfl) i3 i4) (fQ (ag nW) rfl (bi rfl (fun _ _ a c => ah bT (a.ev rfl) (aF.drop (ut d6 i6 c) 1) rfl) (bi rfl (fun _ _ a c => zq (a.ev rfl) (a.ev rfl) _) (rU rfl rfl (rU rfl rfl (iE (aJ (aa (aI (aC bv rfl rfl (aA rfl (ae (aD a8 ((min e9 l9.Y0), (max f1 m1.Y1), F, (bG (M + 1)), D, E) ⟨H, b7⟩ (.r rfl) (.r rfl))))))))))))))
   ·exact aN (aJ (aa (aI (aC bv rfl rfl (aA rfl (ae (aD a8 (b6, g, F, (bG (M + 1)), D, E) ⟨H, b7⟩ (.r rfl) (.r rfl))))))))
  ·refine bW (aB (aB (aR (aa (az (Tr.block (df (σ := (List aV) × (List aV) × (List aV) × Int × (Option Addr) × Nat × (Option Addr) × Nat × (Option Addr) × Nat) (fun m w s => gU N p2 g m s.1 s.2.1 s.2.2.1 s.2.2.2.1 = some r ∧ Sl w.O w.W aS s.2.2.2.2.1 s.2.2.2.2.2.1 s.1 ∧ Sl w.O w.W aS s.2.2.2.2.2.2.1 s.2.2.2.2.2.2.2.1 s.2.1 ∧ dM s.2.2.2.2.2.2.2.2.1 s.2.2.1.length s.2.2.2.2.2.2.2.2.2) (fun s => [(0, sL s.2.2.2.2.1 s.1 s.2.2.2.2.2.1), (1, sL s.2.2.2.2.2.2.1 s.2.1 s.2.2.2.2.2.2.2.1), (2, .func (.func fid2) #[] o.toArray), (7, sL s.2.2.2.2.2.2.2.2.1 s.2.2.1 s.2.2.2.2.2.2.2.2.2), (8, iv s.2.2.2.1), (9, iv g)]) (fun s => [(2, ow s.2.2.2.2.2.2.2.2.1 s.2.2.2.2.2.2.2.2.2 98 aS s.2.2.1)]) N (p0, p1, ([] : List aV), b6, z, A, B, C, none, 0) ⟨H, c7, c8, gL⟩ (.r rfl) (.r rfl) (fun _ _ h => jQ (h.1)) ?_)))))))
   intro w J e8 s hs
   obtain ⟨d9, a3, i, q, e0, e3, a5, a6, b, d⟩ := s
   obtain ⟨H, e4, b8, e5⟩ := hs
   replace H : gU N p2 g (e8 + 1) d9 a3 i q = some r := H
   replace hf2 := fun w' he => hf2 w' (J.ext.trans he)
   replace leB := leB.trans J
   replace e4 : Sl w.O w.W aS e0 e3 d9 := e4
   replace b8 : Sl w.O w.W aS a5 a6 a3 := b8
   replace e5 : dM b i.length d := e5
   rw [gU.eq_2] at H
   dsimp only
   refine az (ai (aA rfl (aA rfl (aC bg rfl rfl (ae (aa (aP rfl H (fun H => ?_) (fun H => ?_))))))))
   ·refine aN (aa (Tr.block (az (Tr.block (df (σ := (List aV) × (Option Addr) × Nat) (fun m w s => jT N p2 g a3 i q (gU N p2 g e8) m s.1 = some r ∧ Sl w.O w.W aS s.2.1 s.2.2 s.1) (fun s => [(0, sL s.2.1 s.1 s.2.2), (1, sL a5 a3 a6), (2, .func (.func fid2) #[] o.toArray), (7, sL b i d), (8, iv q), (9, iv g)]) (fun s => [(2, ow b d 98 aS i)]) N (d9, e0, e3) ⟨H, e4⟩ (.r rfl) (.r rfl) (fun _ _ h => jQ (h.1)) ?_)))))
    intro w c9 m3 s hs
    obtain ⟨L, G, I⟩ := s
    obtain ⟨H, j⟩ := hs
    replace H : jT N p2 g a3 i q (gU N p2 g e8) (m3 + 1) L = some r := H
    replace b8 := b8.le c9
    replace hf2 := fun w' he => hf2 w' (c9.ext.trans he)
    replace J := J.trans c9
    replace j : Sl w.O w.W aS G I L := j
    rw [jT.eq_2] at H
    dsimp only
    refine az (ai (aA rfl (aT (bz sG) rfl (aC jq rfl rfl (aA rfl ?_)))))
    obtain ⟨i7, b1, H⟩ := bnd H
    refine dX 7 [(0, sL G L I), (1, sL a5 a3 a6), (2, .func (.func fid2) #[] o.toArray), (7, sL b i d), (8, iv q), (9, iv g), (82, bV i7)] [(2, ow b d 98 aS i)] ?_ ?_
    ·cases b9 : (decide (0 < (L.length : Int)))
     ·rw [b9] at b1
      rw [if_neg (by decide)] at b1
      have H := b1
      obtain rfl := oI H
      exact bf rfl (bf rfl (bf rfl (bf rfl (bf rfl (bf rfl (aC bE rfl rfl (ae (bu (.r rfl) (.r rfl)))))))))
     ·rw [b9] at b1
      rw [if_pos rfl] at b1
      have H := b1
      refine dU run_move rfl ?_
      obtain ⟨o4, k2, H⟩ := bnd H
      obtain ⟨i8, i9, j0⟩ := aU k2
      obtain ⟨m4, d7, g0, j1⟩ := (j).el j0
      obtain ⟨n8, n9⟩ := m4
      have l2 := g0
      replace d7 : w.R (mV G) := Or.inl d7
      refine Tr.x (fun _ _ a c => ak oG (a.ev rfl) j.form (a.ev rfl) i8 i9) (dU (ag nW) rfl (Tr.x (fun _ _ a c => ah bT (a.ev rfl) (aF.drop (ut d7 j1 c) 1) rfl) (dU run_move rfl (kF oH rfl rfl (aC bD rfl rfl ?_)))))
      obtain rfl := oI H
      exact ae (bu (.r rfl) (.r rfl))
    ·show Tr _ _ (LF [(0, sL G L I), (1, sL a5 a3 a6), (2, .func (.func fid2) #[] o.toArray), (7, sL b i d), (8, iv q), (9, iv g), (82, bV i7)]) (LE [(2, ow b d 98 aS i)]) _
     refine ae (aa (aP rfl H (fun H => ?_) (fun H => ?_)))
     ·refine aN (aa (Tr.block (aI (aA rfl ?_))))
      obtain ⟨m5, f3, H⟩ := bnd H
      exact aG rfl (fun _ _ a c => uX oG (a.ev rfl) j.form (a.ev rfl) f3) (Tr.k rfl (ae (aJ (aD c9 (m5, (uF G (1 : Int).toNat 3 I), (I - (1 : Int).toNat)) ⟨H, (Sl.cut j f3)⟩ (.r rfl) (.r rfl)))))
     ·refine bW (aB (aB (aR (aa (az (Tr.block (df (σ := (List aV) × (Option Addr) × Nat) (fun m w s => jS N p2 g i q (gU N p2 g e8) L m s.1 = some r ∧ Sl w.O w.W aS s.2.1 s.2.2 s.1) (fun s => [(0, sL G L I), (1, sL s.2.1 s.1 s.2.2), (2, .func (.func fid2) #[] o.toArray), (7, sL b i d), (8, iv q), (9, iv g)]) (fun s => [(2, ow b d 98 aS i)]) N (a3, a5, a6) ⟨H, b8⟩ (.r rfl) (.r rfl) (fun _ _ h => jQ (h.1)) ?_)))))))
      intro w d0 m6 s hs
      obtain ⟨a9, a1, a2⟩ := s
      obtain ⟨H, l⟩ := hs
      replace H : jS N p2 g i q (gU N p2 g e8) L (m6 + 1) a9 = some r := H
      replace j := j.le d0
      replace hf2 := fun w' he => hf2 w' (d0.ext.trans he)
      replace J := J.trans d0
      replace l : Sl w.O w.W aS a1 a2 a9 := l
      rw [jS.eq_2] at H
      dsimp only
      refine az (ai (aA rfl (aT (bz sG) rfl (aC jq rfl rfl (aA rfl ?_)))))
      obtain ⟨j2, b2, H⟩ := bnd H
      refine dX 7 [(0, sL G L I), (1, sL a1 a9 a2), (2, .func (.func fid2) #[] o.toArray), (7, sL b i d), (8, iv q), (9, iv g), (95, bV j2)] [(2, ow b d 98 aS i)] ?_ ?_
      ·cases b9 : (decide (0 < (a9.length : Int)))
       ·rw [b9] at b2
        rw [if_neg (by decide)] at b2
        have H := b2
        obtain rfl := oI H
        exact bf rfl (bf rfl (bf rfl (bf rfl (bf rfl (bf rfl (aC bE rfl rfl (ae (bu (.r rfl) (.r rfl)))))))))
       ·rw [b9] at b2
        rw [if_pos rfl] at b2
        have H := b2
        refine dU run_move rfl ?_
        obtain ⟨o5, k3, H⟩ := bnd H
        obtain ⟨j3, j4, j5⟩ := aU k3
        obtain ⟨m7, d8, g1, j6⟩ := (l).el j5
        obtain ⟨o0, o2⟩ := m7
        have l3 := g1
        replace d8 : w.R (mV a1) := Or.inl d8
        refine Tr.x (fun _ _ a c => ak oG (a.ev rfl) l.form (a.ev rfl) j3 j4) (dU (ag nW) rfl (Tr.x (fun _ _ a c => ah bT (a.ev rfl) (aF.drop (ut d8 j6 c) 1) rfl) (dU run_move rfl (kF oH rfl rfl (aC bD rfl rfl ?_)))))
        obtain rfl := oI H
        exact ae (bu (.r rfl) (.r rfl))
      ·show Tr _ _ (LF [(0, sL G L I), (1, sL a1 a9 a2), (2, .func (.func fid2) #[] o.toArray), (7, sL b i d), (8, iv q), (9, iv g), (95, bV j2)]) (LE [(2, ow b d 98 aS i)]) _
       refine ae (aa (aP rfl H (fun H => ?_) (fun H => ?_)))
       ·refine aN (aa (Tr.block (aI (aA rfl ?_))))
        obtain ⟨m8, f4, H⟩ := bnd H
        exact aG rfl (fun _ _ a c => uX oG (a.ev rfl) l.form (a.ev rfl) f4) (Tr.k rfl (ae (aJ (aD d0 (m8, (uF a1 (1 : Int).toNat 3 a2), (a2 - (1 : Int).toNat)) ⟨H, (Sl.cut l f4)⟩ (.r rfl) (.r rfl)))))
       ·refine bW (aB (aB (aR (aa (ai (aA rfl (aA rfl (aA rfl ?_))))))))
        obtain ⟨P, k4, H⟩ := bnd H
        refine fq [] [] (U := (Option Addr × Nat)) (fun u => (.tuple #[sL u.1 P.1 u.2, iv P.2])) (fun O W u => Sl O W bK u.1 u.2 P.1) (fun u => []) rfl bn (fun _ => rfl) (wn rfl) rfl Tryz.call231 (aj rfl (aj rfl (aj rfl aL))) (fun W hW hp hE => vE L G I (j.qK (hW.gM hp)) q g P k4 hE) ?_
        intro w u d1 hu
        obtain ⟨c3, c4⟩ := u
        have g2 := hu
        replace j := j.le d1
        replace l := l.le d1
        replace hf2 := fun w' he => hf2 w' (d1.ext.trans he)
        replace J := J.trans d1
        have K : Sl w.O w.W bK c3 c4 P.1 := g2 --@phi
        dsimp only
        refine aA rfl (aG rfl (fun _ _ a c => ib (a.ev rfl) rfl) (aG rfl (fun _ _ a c => ib (a.ev rfl) rfl) (Tr.k rfl (Tr.k rfl (ae (aa (ai (aA rfl (aA rfl (aA rfl ?_))))))))))
        obtain ⟨Q, k5, H⟩ := bnd H
        refine fq [] [] (U := (Option Addr × Nat)) (fun u => (.tuple #[sL u.1 Q.1 u.2, iv Q.2])) (fun O W u => Sl O W bK u.1 u.2 Q.1) (fun u => []) rfl bn (fun _ => rfl) (wn rfl) rfl Tryz.call231 (aj rfl (aj rfl (aj rfl aL))) (fun W hW hp hE => vE a9 a1 a2 (l.qK (hW.gM hp)) q g Q k5 hE) ?_
        intro w u c0 hu
        obtain ⟨c5, c6⟩ := u
        have g3 := hu
        replace j := j.le c0
        replace l := l.le c0
        replace hf2 := fun w' he => hf2 w' (c0.ext.trans he)
        replace K := K.le c0
        replace J := J.trans c0
        have a0 : Sl w.O w.W bK c5 c6 Q.1 := g3 --@phi
        dsimp only
        refine aA rfl (aG rfl (fun _ _ a c => ib (a.ev rfl) rfl) (aG rfl (fun _ _ a c => ib (a.ev rfl) rfl) (Tr.k rfl (Tr.k rfl (ae (aa (ai (aA rfl (aA rfl (aG rfl (fun _ _ a c => xz (a.ev rfl) (a.ev rfl) _) (Tr.k rfl (ae (aa (ai (aA rfl (aA rfl (aA rfl (aA rfl (aA rfl (aA rfl ?_))))))))))))))))))))
        obtain ⟨a4, k6, H⟩ := bnd H
        refine ja [12] [emp] (U := (Option Addr × Nat)) (fun u => (sL u.1 a4 u.2)) (fun u => dM u.1 a4.length u.2) (fun u => [ow u.1 u.2 3 bK a4]) rfl (aH rfl bn) (fun _ => rfl) (wn rfl) rfl Tryz.call113 (aj rfl (aj rfl (aj rfl aL))) (fun W hW hp hE => uz N P.1 c3 c4 (K.rl.ext (hW.gM hp)) Q.1 c5 c6 (a0.rl.ext (hW.gM hp)) p2 fid2 o hg2 (fun w' he => hf2 w' ((hW.gM hp).trans he)) a4 k6 hE) ?_
        intro u hu
        obtain ⟨T, X⟩ := u
        have g4 := hu
        have m9 : dM T a4.length X := g4 --@phi
        dsimp only
        refine jh (vs := [(0, iv q), (1, iv (min P.2 Q.2)), (2, sL T a4 X)]) (cs := [iv q, iv (min P.2 Q.2), sL T a4 X]) (wn rfl) rfl (bH rfl (bH rfl (bH rfl eF))) (by kernel_rfl) (Tr.freeze 12 rfl fun w b3 e6 => ?_)
        replace j := j.le b3
        replace l := l.le b3
        replace hf2 := fun w' he => hf2 w' (b3.ext.trans he)
        replace K := K.le b3
        replace a0 := a0.le b3
        replace J := J.trans b3
        obtain ⟨b0, k7, H⟩ := bnd H
        refine fq [2] [ow b d 98 aS i] (U := (Option Addr × Nat)) (fun u => (sL u.1 b0 u.2)) (fun O W u => dM u.1 b0.length u.2) (fun u => [ow u.1 u.2 98 aS b0]) rfl (aH rfl bn) (fun _ => rfl) (wn rfl) rfl Tryz.call66 (aj rfl (aj rfl aL)) (fun W hW hp hE => qp i b d (aV.mk q (min P.2 Q.2) a4) T X (e6.qK (hW.gM hp)) b0 k7 hE) ?_
        intro w u a7 hu
        obtain ⟨b4, b5⟩ := u
        have g5 := hu
        replace j := j.le a7
        replace l := l.le a7
        replace hf2 := fun w' he => hf2 w' (a7.ext.trans he)
        replace K := K.le a7
        replace a0 := a0.le a7
        replace e6 := e6.le a7
        replace J := J.trans a7
        have f2 : dM b4 b0.length b5 := g5 --@phi
        dsimp only
        exact Tr.k rfl (ae (aa (aI (aA rfl (Tr.k rfl (ae (aJ (aD J (L, a9, b0, (min P.2 Q.2), G, I, a1, a2, b4, b5) ⟨H, j, l, f2⟩ (.r rfl) (.r rfl)))))))))
   ·refine bW (aB (aB (aR (aa (ai (aA rfl (Tr.k rfl (ae (aa (aW ?_))))))))))
    obtain rfl := oI H
    exact Tr.out (m := [sL b i d]) [] (cO rfl bO) (fun W hW => ⟨w, (b, d), leB, rfl, e5, hW.pick (ks := [2]) (by decide) (aH rfl bn)⟩)

theorem xV {w : Bs} (p0 : Bool) (p1 : Bool) (r : Bool) (H : lY p0 p1 = some r) (hE : HF w w.W E0) : Calls Tryz.prog 229 [bV p0, bV p1].toArray w.W fun e W' => e = .returned (bV r) ∧ HF w W' E0 := by
 unfold lY at H
 have leB := Bs.Le.refl w
 refine aZ (n := 10) Tryz.func229 rfl rfl rfl hE (ai (Tr.k rfl (ae (aa (ai (aA rfl (aA rfl (dX 3 [(9, bV (p0 && (!p1)))] [] ?_ ?_))))))))
 ·cases a : p0
  ·exact bf rfl (bf rfl (aC bE rfl rfl (ae (bu (.r rfl) .nil))))
  ·exact dU run_move rfl (dU jC rfl (aC bD rfl rfl (ae (bu (.r rfl) .nil))))
 ·show Tr _ _ (LF [(9, bV (p0 && (!p1)))]) (LE []) _
  refine Tr.k rfl (ae (aa (aW ?_)))
  obtain rfl := oI H
  exact dQ leB

theorem za (N : Nat) {w : Bs} (p0 : (List aV)) (d : Option Addr) (f : Nat) (l : Sl w.O w.W aS d f p0) (p1 : (List aV)) (g : Option Addr) (h : Nat) (o : Sl w.O w.W aS g h p1) (r : (List aV)) (H : lQ N p0 p1 = some r) (hE : HF w w.W (iF [emp])) : Calls Tryz.prog 223 [sL d p0 f, sL g p1 h].toArray w.W fun e W' => ∃ (w' : Bs) (u : (Option Addr × Nat)), w.Le w' ∧ e = .returned (sL u.1 r u.2) ∧ (dM u.1 r.length u.2) ∧ HF w' W' (iF [ow u.1 u.2 98 aS r]) := by
 unfold lQ at H
 have leB := Bs.Le.refl w
 refine aZ (n := 8) Tryz.func223 rfl rfl rfl hE (ai (Tr.k rfl (bM 1 98 aS ?_)))
 show Tr _ _ (uf _ 4 (sL none (([] : List aV)) 0)) _ _
 refine ae (aa (ai (aA rfl (aA rfl ?_))))
 obtain ⟨c, q, H⟩ := bnd H
 refine fq [2] [emp] (U := (Option Addr × Nat)) (fun u => (sL u.1 c u.2)) (fun O W u => dM u.1 c.length u.2) (fun u => [ow u.1 u.2 98 aS c]) rfl (aH rfl bn) (fun _ => rfl) (wn rfl) rfl Tryz.call228 (aj rfl (aj rfl (aj rfl aL))) (fun W hW hp hE => w9 N p0 d f (l.qK (hW.gM hp)) p1 g h (o.qK (hW.gM hp)) (fun z0 z1 => lY z0 z1) 229 [] Tryz.call229 (fun w' he z0 z1 y hy => xV z0 z1 y hy (HF.start _)) c q hE) ?_
 intro w u s hu
 obtain ⟨a, b⟩ := u
 have j := hu
 replace leB := leB.trans s
 have i : dM a c.length b := j --@phi
 dsimp only
 refine Tr.k rfl (ae (aa (aW ?_)))
 obtain rfl := oI H
 exact Tr.out (m := [sL a c b]) [] (cO rfl bO) (fun W hW => ⟨w, (a, b), leB, rfl, i, hW.pick (ks := [2]) (by decide) (aH rfl bn)⟩)

theorem y9 {w : Bs} (p0 : Bool) (p1 : Bool) (r : Bool) (H : nE p0 p1 = some r) (hE : HF w w.W E0) : Calls Tryz.prog 230 [bV p0, bV p1].toArray w.W fun e W' => e = .returned (bV r) ∧ HF w W' E0 := by
 unfold nE at H
 have leB := Bs.Le.refl w
 refine aZ (n := 9) Tryz.func230 rfl rfl rfl hE (ai (Tr.k rfl (ae (aa (ai (aA rfl (aA rfl (dX 2 [(8, bV (p0 || p1))] [] ?_ ?_))))))))
 ·cases a : p0
  ·exact dU run_move rfl (aC bE rfl rfl (ae (bu (.r rfl) .nil)))
  ·exact bf rfl (aC bD rfl rfl (ae (bu (.r rfl) .nil)))
 ·show Tr _ _ (LF [(8, bV (p0 || p1))]) (LE []) _
  refine Tr.k rfl (ae (aa (aW ?_)))
  obtain rfl := oI H
  exact dQ leB

theorem Au (N : Nat) {w : Bs} (p0 : (List aV)) (d : Option Addr) (f : Nat) (l : Sl w.O w.W aS d f p0) (p1 : (List aV)) (g : Option Addr) (h : Nat) (o : Sl w.O w.W aS g h p1) (r : (List aV)) (H : mY N p0 p1 = some r) (hE : HF w w.W (iF [emp])) : Calls Tryz.prog 224 [sL d p0 f, sL g p1 h].toArray w.W fun e W' => ∃ (w' : Bs) (u : (Option Addr × Nat)), w.Le w' ∧ e = .returned (sL u.1 r u.2) ∧ (dM u.1 r.length u.2) ∧ HF w' W' (iF [ow u.1 u.2 98 aS r]) := by
 unfold mY at H
 have leB := Bs.Le.refl w
 refine aZ (n := 8) Tryz.func224 rfl rfl rfl hE (ai (Tr.k rfl (bM 1 98 aS ?_)))
 show Tr _ _ (uf _ 4 (sL none (([] : List aV)) 0)) _ _
 refine ae (aa (ai (aA rfl (aA rfl ?_))))
 obtain ⟨c, q, H⟩ := bnd H
 refine fq [2] [emp] (U := (Option Addr × Nat)) (fun u => (sL u.1 c u.2)) (fun O W u => dM u.1 c.length u.2) (fun u => [ow u.1 u.2 98 aS c]) rfl (aH rfl bn) (fun _ => rfl) (wn rfl) rfl Tryz.call228 (aj rfl (aj rfl (aj rfl aL))) (fun W hW hp hE => w9 N p0 d f (l.qK (hW.gM hp)) p1 g h (o.qK (hW.gM hp)) (fun z0 z1 => nE z0 z1) 230 [] Tryz.call230 (fun w' he z0 z1 y hy => y9 z0 z1 y hy (HF.start _)) c q hE) ?_
 intro w u s hu
 obtain ⟨a, b⟩ := u
 have j := hu
 replace leB := leB.trans s
 have i : dM a c.length b := j --@phi
 dsimp only
 refine Tr.k rfl (ae (aa (aW ?_)))
 obtain rfl := oI H
 exact Tr.out (m := [sL a c b]) [] (cO rfl bO) (fun W hW => ⟨w, (a, b), leB, rfl, i, hW.pick (ks := [2]) (by decide) (aH rfl bn)⟩)

theorem ui {w : Bs} (p0 : (List aV)) (l : Option Addr) (o : Nat) (j : Sl w.R w.W aS l o p0) (r : Int) (H : nG p0 = some r) (hE : HF w w.W E0) : Calls Tryz.prog 215 [sL l p0 o].toArray w.W fun e W' => e = .returned (iv r) ∧ HF w W' E0 := by
 unfold nG at H
 have leB := Bs.Le.refl w
 refine aZ (n := 20) Tryz.func215 rfl rfl rfl hE (ai (Tr.k rfl (ae (aa (ai (Tr.k rfl (ae (aa (az (ai (aA rfl (aT (bz sG) rfl (aA rfl (ae (aa (Tr.block (df (σ := (List aV) × Nat × Int) (fun m w s => m = s.1.length + 1 ∧ s.1 = List.drop s.2.1 p0 ∧ s.2.1 ≤ p0.length ∧ il s.1 s.2.1 s.2.2 = some r) (fun s => [(3, iv s.2.2), (6, sL l p0 o), (7, iv (p0.length : Int)), (8, iv (s.2.1 : Int))]) (fun s => []) (p0.length + 1) (p0, 0, 0) ⟨rfl, rfl, Nat.zero_le _, H⟩ (.r rfl) .nil (fun _ _ h => absurd h.1 (by simp)) ?_)))))))))))))))))
 intro w q m s hs
 obtain ⟨b, v, t⟩ := s
 obtain ⟨u, f, E, H⟩ := hs
 replace f : b = List.drop v p0 := f
 replace H : il b v t = some r := H
 replace u : m + 1 = b.length + 1 := u
 replace j := j.nL q
 replace leB := leB.trans q
 obtain rfl : m = b.length := by omega
 clear u
 dsimp only
 cases b with
 | nil =>
  rw [il.eq_1] at H
  refine ai (aC bg rfl rfl (ae (aa (az (eQ rfl (dZ f) (bW (aB (aB (aR (aa (ai (aA rfl (Tr.k rfl (ae (aa (aW ?_))))))))))))))))
  obtain rfl := oI H
  exact dQ leB
 | cons d b =>
  rw [il.eq_2] at H
  refine ai (aC bg rfl rfl (ae (aa (az (eP rfl (fJ f) (aN (aa (az (Tr.block (ai ?_))))))))))
  obtain ⟨D, A, y, B⟩ := (j).el (gy f)
  obtain ⟨g, i⟩ := D
  have C := y
  exact aG rfl (fun _ _ a c => ak oG (a.ev rfl) j.form (a.ev rfl) (Int.natCast_nonneg _) (bF f)) (aG rfl (fun _ _ a c => aM (cs := [iv d.Y0, iv d.Y1, sL g d.Xs i]) JE zS (a.ev rfl) (aF.take (ut A B c) 3) rfl) (Tr.alloc 3 (wn rfl) rfl Lb fun F => (bJ 3 (cs := [iv d.Y0, iv d.Y1, sL g d.Xs i]) [iv d.Y0, iv d.Y1, sL g d.Xs i] (wn rfl) rfl rfl rfl rfl zS rfl rfl rfl (ae (aa (aI (aA rfl (aT (ag lg) rfl (aG rfl (fun _ _ a c => ah mR (a.ev rfl) (dR c (vs := [iv d.Y0, iv d.Y1, sL g d.Xs i]) (k := 3) rfl 2) rfl) (aT (bz nz) rfl (aG rfl (fun _ _ a c => Li (a.ev rfl) (a.ev rfl) (by decide)) (aC bv rfl rfl (Tr.k rfl (ae (aJ (aa (aI (aC bv rfl rfl (aA rfl (ae (aD q (b, (v + 1), (bG (t + (bG (Int.tdiv (d.Xs.length : Int) 2))))) ⟨rfl, fe f, bF f, H⟩ (.cons rfl (.cons rfl (.cons rfl (.cons (congrArg (fun z => some (Value.int .i64 z)) (eZ f j.form)) .nil)))) .nil)))))))))))))))))))))

end Go.Proofs.YtcjeebkoafonpaaGreatDoor
