/- The walks: each function computes its plain function. -/
import Derived.Test.YtcjeebkoafonpaaGreatDoorXWb
namespace Go.Proofs.YtcjeebkoafonpaaGreatDoor
open Go.RowKit
set_option maxRecDepth 100000
set_option maxHeartbeats 1000000
theorem Hz (N : Nat) {w : Bs} (p0 : (List aI)) (b7 : Option Addr) (b8 : Nat) (f4 : Sl w.R w.W bz b7 b8 p0) (r : (gK × Int)) (H : tV N p0 = some r) (hE : HF w w.W (kw [emp, emp])) : Calls Tryz.prog 5 [sL b7 p0 b8].toArray w.W fun e W' => ∃ (w' : Bs) (u : (Option Addr × Nat) × (Option Addr × Nat)), w.Le w' ∧ e = .returned (.tuple #[.agg #[iv r.1.Unit, sL u.1.1 r.1.Tools u.1.2, sL u.2.1 r.1.Steps u.2.2], iv r.2]) ∧ (fC u.1.1 r.1.Tools.length u.1.2 ∧ fC u.2.1 r.1.Steps.length u.2.2) ∧ HF w' W' (kw [ow u.1.1 u.1.2 58 eD r.1.Tools, ow u.2.1 u.2.2 53 aT r.1.Steps]) := by
 unfold tV at H
 have leB := Bs.Le.refl w
 refine bB (n := 106) Tryz.func5 rfl rfl rfl hE (aj (Tr.alloc 1 (wn rfl) rfl Dz fun D => (Tr.k rfl (ae (aa (aj (av rfl ?_)))))))
 obtain ⟨f, f5, H⟩ := bnd H
 refine jl [2] [emp] (U := (Option Addr × Nat)) (fun u => (.tuple #[sL u.1 f.1 u.2, iv f.2])) (fun O W u => fC u.1 f.1.length u.2) (fun u => [ow u.1 u.2 43 aW f.1]) rfl (bA rfl bK) (fun _ => rfl) (wn rfl) rfl Tryz.call12 (ak rfl aQ) (fun W hW hp hE => zV N p0 b7 b8 (f4.ext (hW.mQ hp)) f f5 hE) ?_
 intro w u f6 hu
 obtain ⟨A, B⟩ := u
 have e3 := hu
 replace leB := leB.trans f6
 have b1 : fC A f.1.length B := e3 --@phi
 dsimp only
 refine av rfl (aP rfl (fun _ _ a c => kY (a.ev rfl) rfl) (aP rfl (fun _ _ a c => kY (a.ev rfl) rfl) (Tr.k rfl (Tr.k rfl (ae (aa (ay (aj (av rfl (az kW rfl rfl (ae (aa (aN rfl H (fun H => ?_) (fun H => ?_))))))))))))))
 ·refine aj (ja (vs := []) (cs := [iv 0, .slice none 0 0, .slice none 0 0]) (wn rfl) rfl dL (by kernel_rfl) (av rfl (dm 1 (cs := [iv 0, .slice none 0 0, .slice none 0 0]) [iv 0, .slice none 0 0, .slice none 0 0] (wn rfl) rfl rfl rfl rfl pE rfl rfl rfl (Tr.k rfl (ae (aa (bg (aL ?_))))))))
  obtain rfl := oI H
  exact bS 3 58 eD (bS 4 53 aT (Tr.out (m := [.agg #[iv 0, .slice none 0 0, .slice none 0 0], iv f.2]) [1] (rG rfl rfl tu pE (eU rfl dR)) (fun W hW => ⟨w, ((none, 0), (none, 0)), leB, rfl, ⟨iM, iM⟩, hW.pick (ks := [3, 4]) (by decide) (bA rfl (bA rfl bK))⟩)))
 ·refine aK (aa (aj (Tr.k rfl (bS 5 45 aR ?_))))
  show Tr _ _ (uf _ 6 (sL none (([] : List dQ)) 0)) _ _
  refine ae (aa (ay (aj (av rfl (aU (bi uV) rfl (av rfl (ae (aa (Tr.block (bT (σ := (List (List aA)) × Nat × (List dQ) × (Option Addr) × Nat) (fun m w s => m = s.1.length + 1 ∧ s.1 = List.drop s.2.1 f.1 ∧ s.2.1 ≤ f.1.length ∧ lH N s.1 s.2.1 s.2.2.1 = some r ∧ fC s.2.2.2.1 s.2.2.1.length s.2.2.2.2) (fun s => [(2, pV D), (6, sL s.2.2.2.1 s.2.2.1 s.2.2.2.2), (28, sL A f.1 B), (29, iv (f.1.length : Int)), (30, iv (s.2.1 : Int))]) (fun s => [(1, bx D #[iv 0, .slice none 0 0, .slice none 0 0] 26), (2, ow A B 43 aW f.1), (5, ow s.2.2.2.1 s.2.2.2.2 45 aR s.2.2.1)]) (f.1.length + 1) (f.1, 0, ([] : List dQ), none, 0) ⟨rfl, rfl, Nat.zero_le _, H, iM⟩ (.r rfl) (.r rfl) (fun _ _ h => absurd h.1 (by simp)) ?_))))))))))
  intro w b9 m s hs
  obtain ⟨P, a7, M, j, o⟩ := s
  obtain ⟨d5, a2, h3, H, c0⟩ := hs
  replace a2 : P = List.drop a7 f.1 := a2
  replace H : lH N P a7 M = some r := H
  replace d5 : m + 1 = P.length + 1 := d5
  replace leB := leB.trans b9
  replace c0 : fC j M.length o := c0
  obtain rfl : m = P.length := by omega
  clear d5
  dsimp only
  cases P with
  | nil =>
   rw [lH.eq_1] at H
   refine aj (az aX rfl rfl (ae (aa (ay (jB rfl (ji a2) (bO (au (au (aM (aa (aj (Tr.alloc 22 (wn rfl) rfl RH fun b2 => (dm 22 (cs := [.func (.func 13) #[] #[]]) [.func (.func 13) #[] #[]] (wn rfl) rfl rfl rfl rfl RU rfl rfl rfl (ae (aa (aj (av rfl (vI (vs := [pV b2]) (wn rfl) rfl (ak rfl aQ) ?_))))))))))))))))))
   obtain ⟨q, f7, H⟩ := bnd H
   refine jl [5] [ow j o 45 aR M] (U := Unit) (fun u => (.tuple #[])) (fun O W u => q.length = M.length) (fun u => [ow j o 45 aR q]) rfl (bA rfl bK) (fun _ => rfl) (wn rfl) rfl Tryz.call14 (ak rfl (ak rfl aQ)) (fun W hW hp hE => qd N M j o b2 (hW.Jj (k := 22) rfl hp rfl) (hW.MV (k := 22) rfl) q f7 hE) ?_
   intro w u f8 hu
   have d6 := hu
   replace leB := leB.trans f8
   have a5 : q.length = M.length := d6 --@phi
   have g7 : fC j q.length o := by rw [a5]; exact c0
   show Tr _ _ (uf _ 74 (.tuple #[])) (up _ 5 (ow j o 45 aR q)) _
   refine Tr.wL (lf := [(2, pV D), (6, sL j q o), (13, pV b2), (28, sL A f.1 B), (29, iv (f.1.length : Int)), (30, iv (a7 : Int)), (31, bV (decide ((a7 : Int) < (f.1.length : Int)))), (72, sL j q o), (73, .func (.func 15) #[] #[pV b2]), (74, (.tuple #[]))]) (le := [(1, bx D #[iv 0, .slice none 0 0, .slice none 0 0] 26), (2, ow A B 43 aW f.1), (5, ow j o 45 aR q), (22, bx b2 #[.func (.func 13) #[] #[]] 48)]) (.cons rfl (.cons (eG rfl (by unfold sL; rw [a5])) (.cons rfl (.cons rfl (.cons rfl (.cons rfl (.cons rfl (.cons (eG rfl (by unfold sL; rw [a5])) (.r rfl))))))))) (.r rfl) (ae (aa (aj (ja (vs := [(0, iv 1)]) (cs := [iv 1, .slice none 0 0, .slice none 0 0]) (wn rfl) rfl (bD rfl dL) (by kernel_rfl) (Tr.alloc 23 (wn rfl) rfl Dz fun T => (dm 23 (cs := [iv 1, .slice none 0 0, .slice none 0 0]) [iv 1, .slice none 0 0, .slice none 0 0] (wn rfl) rfl rfl rfl rfl pE rfl rfl rfl (ae (aa (aj (Tr.k rfl (ae (aa (ay (ay (Tr.freeze 5 rfl fun w f9 Z => ?_)))))))))))))))
   replace leB := leB.trans f9
   refine aD (av rfl (aU (bi Ni) rfl (av rfl (ae (aa (Tr.block (bS 38 53 aT (bT (σ := (List dQ) × Nat × (List aJ) × Int × (Option Addr) × Nat) (fun m w s => m = s.1.length + 1 ∧ s.1 = List.drop s.2.1 q ∧ s.2.1 ≤ q.length ∧ jo s.1 s.2.1 s.2.2.1 s.2.2.2.1 = some r ∧ fC s.2.2.2.2.1 s.2.2.1.length s.2.2.2.2.2) (fun s => [(2, pV D), (14, pV T), (15, iv s.2.2.2.1), (76, sL j q o), (77, iv (q.length : Int)), (78, iv (s.2.1 : Int))]) (fun s => [(1, bx D #[iv 0, .slice none 0 0, .slice none 0 0] 26), (23, bx T #[iv 1, .slice none 0 0, sL s.2.2.2.2.1 s.2.2.1 s.2.2.2.2.2] 26), (38, ow s.2.2.2.2.1 s.2.2.2.2.2 53 aT s.2.2.1)]) (q.length + 1) (q, 0, ([] : List aJ), 1, none, 0) ⟨rfl, rfl, Nat.zero_le _, H, iM⟩ (.r rfl) (.r rfl) (fun _ _ h => absurd h.1 (by simp)) ?_))))))))
   intro w a8 m s hs
   obtain ⟨I, a4, G, a9, E, F⟩ := s
   obtain ⟨d7, a3, h4, H, b0⟩ := hs
   replace a3 : I = List.drop a4 q := a3
   replace H : jo I a4 G a9 = some r := H
   replace d7 : m + 1 = I.length + 1 := d7
   replace Z := Z.le a8
   replace leB := leB.trans a8
   replace b0 : fC E G.length F := b0
   obtain rfl : m = I.length := by omega
   clear d7
   dsimp only
   cases I with
   | nil =>
    rw [jo.eq_1] at H
    refine aj (az aX rfl rfl (ae (aa (ay (jB rfl (ji a3) (bO (au (au (aM (aa (aj (aP rfl (fun _ _ a c => aO (cs := [iv 1, .slice none 0 0, sL E G F]) tu pE (a.ev rfl) (aC.take (dZ c (vs := [iv 1, .slice none 0 0, sL E G F]) (k := 23) rfl 0) 3) rfl) (dm 1 (cs := [iv 1, .slice none 0 0, sL E G F]) [iv 1, .slice none 0 0, sL E G F] (wn rfl) rfl rfl rfl rfl pE rfl rfl rfl (Tr.k rfl (ae (aa (bg ?_)))))))))))))))))
    obtain rfl := oI H
    exact bS 39 58 eD (Tr.out (m := [.agg #[iv 1, .slice none 0 0, sL E G F], iv 0]) [1] (rG rfl rfl tu pE (eU rfl dR)) (fun W hW => ⟨w, ((none, 0), (E, F)), leB, rfl, ⟨iM, b0⟩, hW.pick (ks := [39, 38]) (by decide) (bA rfl (bA rfl bK))⟩))
   | cons C I =>
    rw [jo.eq_2] at H
    refine aj (az aX rfl rfl (ae (aa (ay (jA rfl (jW a3) (aK (aa (ay (Tr.block (aj ?_))))))))))
    obtain ⟨g8, b3, e4, e6⟩ := (Z).el (lN a3)
    obtain ⟨g, i⟩ := g8
    have J := e4
    replace J : Sl w.O w.W bE g i C.points := J
    replace b3 : w.R (nY j) := Or.inl b3
    refine aP rfl (fun _ _ a c => ai qw (a.ev rfl) Z.form (a.ev rfl) (Int.natCast_nonneg _) (ed a3)) (aP rfl (fun _ _ a c => aO (cs := [sL g C.points i, iv C.area]) rW nU (a.ev rfl) (aC.take (yM b3 e6 c) 2) rfl) (Tr.alloc 40 (wn rfl) rfl Qd fun a6 => (dm 40 (cs := [sL g C.points i, iv C.area]) [sL g C.points i, iv C.area] (wn rfl) rfl rfl rfl rfl nU rfl rfl rfl (ae (aa (aj (Tr.k rfl (ae (aa ?_)))))))))
    have d3 := Bs.Le.refl w
    refine mH (σ := Int) (fun w s => pz G a9 (jo I (a4 + 1)) C s = some r) (fun s => [(2, pV D), (14, pV T), (15, iv a9), (17, pV a6), (18, iv s), (76, sL j q o), (77, iv (q.length : Int)), (78, iv (a4 : Int))]) (fun s => [(1, bx D #[iv 0, .slice none 0 0, .slice none 0 0] 26), (23, bx T #[iv 1, .slice none 0 0, sL E G F] 26), (38, ow E F 53 aT G), (40, bx a6 #[sL g C.points i, iv C.area] 45)]) ?_ ?_
    ·refine aj (aU (ag Bf) rfl (aP rfl (fun _ _ a c => ah bQ (a.ev rfl) (dZ c (vs := [sL g C.points i, iv C.area]) (k := 40) rfl 1) rfl) (az aX rfl rfl (ae (aa (aN rfl H (fun H => ?_) (fun H => ?_)))))))
     ·exact aD (Tr.k rfl (ae (aB d3 2 H (.r rfl) (.r rfl))))
     ·exact aK (aB d3 1 H (.r rfl) (.r rfl))
    ·intro w a1 b4 hs
     have H := hs
     replace H : pz G a9 (jo I (a4 + 1)) C a1 = some r := H
     replace J := J.le b4
     replace Z := Z.le b4
     replace a8 := a8.trans b4
     unfold pz at H
     show Tr _ _ (LF [(2, pV D), (14, pV T), (15, iv a9), (17, pV a6), (18, iv a1), (76, sL j q o), (77, iv (q.length : Int)), (78, iv (a4 : Int))]) (LE [(1, bx D #[iv 0, .slice none 0 0, .slice none 0 0] 26), (23, bx T #[iv 1, .slice none 0 0, sL E G F] 26), (38, ow E F 53 aT G), (40, bx a6 #[sL g C.points i, iv C.area] 45)]) _
     have d4 := Bs.Le.refl w
     refine mH (σ := (List aJ) × Int × (Option Addr) × Nat) (fun w s => ry (jo I (a4 + 1)) C s.1 s.2.1 = some r ∧ fC s.2.2.1 s.1.length s.2.2.2) (fun s => [(2, pV D), (14, pV T), (15, iv s.2.1), (17, pV a6), (76, sL j q o), (77, iv (q.length : Int)), (78, iv (a4 : Int))]) (fun s => [(1, bx D #[iv 0, .slice none 0 0, .slice none 0 0] 26), (23, bx T #[iv 1, .slice none 0 0, sL s.2.2.1 s.1 s.2.2.2] 26), (38, ow s.2.2.1 s.2.2.2 53 aT s.1), (40, bx a6 #[sL g C.points i, iv C.area] 45)]) ?_ ?_
     ·refine aj (av rfl (av rfl (az kW rfl rfl (ae (aa (aN rfl H (fun H => ?_) (fun H => ?_)))))))
      ·refine aD (aU (ag qa) rfl (aP rfl (fun _ _ a c => ah uX (a.ev rfl) (dZ c (vs := [iv 1, .slice none 0 0, sL E G F]) (k := 23) rfl 2) rfl) (av rfl (ja (vs := [(0, iv a1)]) (cs := [iv a1, sv ⟨#[]⟩, iv 0, iv 0, .slice none 0 0, iv 0, iv 0, .slice none 0 0]) (wn rfl) rfl (bD rfl dL) (by kernel_rfl) (dG 43 (e := 53) (vs := [(0, .agg #[iv a1, sv ⟨#[]⟩, iv 0, iv 0, .slice none 0 0, iv 0, iv 0, .slice none 0 0])]) (cs := [iv a1, sv ⟨#[]⟩, iv 0, iv 0, .slice none 0 0, iv 0, iv 0, .slice none 0 0]) (wn rfl) rfl (bD rfl dL) (by kernel_rfl) fun h5 => ?_)))))
       obtain ⟨d8, g0, H⟩ := bnd H
       exact Tr.append 38 (t := aT) (l := G) (l2 := [(aJ.mk a1 (⟨#[]⟩) (aA.mk 0 0) [] 0 0 [])]) (wn rfl) rfl rfl rfl rfl (fun W hW => ⟨[[iv a1, sv ⟨#[]⟩, iv 0, iv 0, .slice none 0 0, iv 0, iv 0, .slice none 0 0]], (.cons ⟨((none, 0), (none, 0)), (lX.2 ⟨(Sl.nil _ _ _), (Sl.nil _ _ _)⟩), rfl⟩ .nil), dZ hW (vs := [iv a1, sv ⟨#[]⟩, iv 0, iv 0, .slice none 0 0, iv 0, iv 0, .slice none 0 0]) (k := 43) rfl 0⟩) xn zY KM (by decide) LZ rfl g0 fun c3 c4 e7 => (av rfl (aU (ag qa) rfl (dm 23 (cs := [sL c3 d8 c4]) [iv 1, .slice none 0 0, sL c3 d8 c4] (wn rfl) rfl rfl rfl rfl KY rfl rfl rfl (Tr.k rfl (ae (aB d4 (d8, a1, c3, c4) ⟨H, e7⟩ (.r rfl) (.r rfl)))))))
      ·exact aK (aB d4 (G, a9, E, F) ⟨H, b0⟩ (.r rfl) (.r rfl))
     ·intro w s b5 hs
      obtain ⟨b6, d9, c5, c6⟩ := s
      obtain ⟨H, h1⟩ := hs
      replace H : ry (jo I (a4 + 1)) C b6 d9 = some r := H
      replace J := J.le b5
      replace Z := Z.le b5
      replace a8 := a8.trans b5
      unfold ry at H
      dsimp only
      refine aD (aU (ag qa) rfl (aP rfl (fun _ _ a c => ah uX (a.ev rfl) (dZ c (vs := [iv 1, .slice none 0 0, sL c5 b6 c6]) (k := 23) rfl 2) rfl) (aU (ag PK) rfl (aP rfl (fun _ _ a c => ah tq (a.ev rfl) (dZ c (vs := [sL g C.points i, iv C.area]) (k := 40) rfl 0) rfl) (ja (vs := [(0, iv 7), (3, sL g C.points i)]) (cs := [iv 7, sv ⟨#[]⟩, iv 0, iv 0, sL g C.points i, iv 0, iv 0, .slice none 0 0]) (wn rfl) rfl (bD rfl (bD rfl dL)) (by kernel_rfl) (dG 42 (e := 53) (vs := [(0, .agg #[iv 7, sv ⟨#[]⟩, iv 0, iv 0, sL g C.points i, iv 0, iv 0, .slice none 0 0])]) (cs := [iv 7, sv ⟨#[]⟩, iv 0, iv 0, sL g C.points i, iv 0, iv 0, .slice none 0 0]) (wn rfl) rfl (bD rfl dL) (by kernel_rfl) fun h6 => ?_))))))
      obtain ⟨e0, g1, H⟩ := bnd H
      exact Tr.append 38 (t := aT) (l := b6) (l2 := [(aJ.mk 7 (⟨#[]⟩) (aA.mk 0 0) C.points 0 0 [])]) (wn rfl) rfl rfl rfl rfl (fun W hW => ⟨[[iv 7, sv ⟨#[]⟩, iv 0, iv 0, sL g C.points i, iv 0, iv 0, .slice none 0 0]], (.cons ⟨((g, i), (none, 0)), (lX.2 ⟨J, (Sl.nil _ _ _)⟩), rfl⟩ .nil), dZ hW (vs := [iv 7, sv ⟨#[]⟩, iv 0, iv 0, sL g C.points i, iv 0, iv 0, .slice none 0 0]) (k := 42) rfl 0⟩) xn zY KM (by decide) LZ rfl g1 fun c7 c8 e8 => (aU (ag qa) rfl (dm 23 (cs := [sL c7 e0 c8]) [iv 1, .slice none 0 0, sL c7 e0 c8] (wn rfl) rfl rfl rfl rfl KY rfl rfl rfl (ae (aH (aa (aD (az aZ rfl rfl (av rfl (ae (aB a8 (I, (a4 + 1), e0, d9, c7, c8) ⟨rfl, jV a3, ed a3, H, e8⟩ (.cons rfl (.cons rfl (.cons rfl (.cons rfl (.cons rfl (.cons (congrArg (fun z => some (Value.int .i64 z)) (jU a3 Z.form)) .nil)))))) (.r rfl)))))))))))
  | cons v P =>
   rw [lH.eq_2] at H
   refine aj (az aX rfl rfl (ae (aa (ay (jA rfl (jW a2) (aK (aa (ay (Tr.block (aj (aP rfl (fun _ _ a c => ai uz (a.ev rfl) b1 (a.ev rfl) (Int.natCast_nonneg _) (ed a2)) (Bt (U := (aW).Ad) (fun u => (aW).ok w.O w.W u v) (fun u => (sL u.1 v u.2)) (wn rfl) rfl (BF (κ := 2) (t := aW) (V := fun u => (sL u.1 v u.2)) rfl (lN a2) (fun _ _ u a hc => ah tq (a.ev rfl) hc rfl)) ?_))))))))))))
   intro g9 e5
   obtain ⟨b, d⟩ := g9
   have y := e5
   replace y : Sl w.O w.W bE b d v := y
   dsimp only
   refine Tr.k rfl (ae (aa (aj (av rfl (ja (vs := [(0, sL b v d)]) (cs := [sL b v d, iv 0]) (wn rfl) rfl (bD rfl dL) (by kernel_rfl) (Tr.alloc 44 (wn rfl) rfl Qd fun c9 => (dm 44 (cs := [sL b v d, iv 0]) [sL b v d, iv 0] (wn rfl) rfl rfl rfl rfl nU rfl rfl rfl (ae (aa (ay (aj (av rfl (aU (bi qP) rfl (av rfl (ae (aa (Tr.block (bT (σ := (List aA) × Nat × Int) (fun m w s => m = s.1.length + 1 ∧ s.1 = List.drop s.2.1 v ∧ s.2.1 ≤ v.length ∧ mW M (lH N P (a7 + 1)) v s.1 s.2.1 s.2.2 = some r) (fun s => [(2, pV D), (6, sL j M o), (8, sL b v d), (9, pV c9), (28, sL A f.1 B), (29, iv (f.1.length : Int)), (30, iv (a7 : Int)), (36, sL b v d), (37, iv (v.length : Int)), (38, iv (s.2.1 : Int))]) (fun s => [(1, bx D #[iv 0, .slice none 0 0, .slice none 0 0] 26), (2, ow A B 43 aW f.1), (5, ow j o 45 aR M), (44, bx c9 #[sL b v d, iv s.2.2] 45)]) (v.length + 1) (v, 0, 0) ⟨rfl, rfl, Nat.zero_le _, H⟩ (.r rfl) (.r rfl) (fun _ _ h => absurd h.1 (by simp)) ?_))))))))))))))))))
   intro w d0 m s hs
   obtain ⟨Q, d1, S⟩ := s
   obtain ⟨d2, a0, h2, H⟩ := hs
   replace a0 : Q = List.drop d1 v := a0
   replace H : mW M (lH N P (a7 + 1)) v Q d1 S = some r := H
   replace d2 : m + 1 = Q.length + 1 := d2
   replace y := y.le d0
   replace b9 := b9.trans d0
   obtain rfl : m = Q.length := by omega
   clear d2
   dsimp only
   cases Q with
   | nil =>
    rw [mW.eq_1] at H
    refine aj (az aX rfl rfl (ae (aa (ay (jB rfl (ji a0) (bO (au (au (aM (aa (aD (av rfl (aP rfl (fun _ _ a c => aO (cs := [sL b v d, iv S]) rW nU (a.ev rfl) (aC.take (dZ c (vs := [sL b v d, iv S]) (k := 44) rfl 0) 2) rfl) (dG 49 (e := 45) (vs := [(0, .agg #[sL b v d, iv S])]) (cs := [sL b v d, iv S]) (wn rfl) rfl (bD rfl dL) (by kernel_rfl) fun h7 => ?_))))))))))))))
    obtain ⟨h0, g2, H⟩ := bnd H
    exact Tr.append 5 (t := aR) (l := M) (l2 := [(dQ.mk v S)]) (wn rfl) rfl rfl rfl rfl (fun W hW => ⟨[[sL b v d, iv S]], (.cons ⟨(b, d), y, rfl⟩ .nil), dZ hW (vs := [sL b v d, iv S]) (k := 49) rfl 0⟩) Ni nU RF (by decide) Sn rfl g2 fun g3 g4 e9 => (Tr.k rfl (ae (aH (aa (aD (az aZ rfl rfl (av rfl (ae (aB b9 (P, (a7 + 1), h0, g3, g4) ⟨rfl, jV a2, ed a2, H, e9⟩ (.cons rfl (.cons rfl (.cons rfl (.cons rfl (.cons (congrArg (fun z => some (Value.int .i64 z)) (jU a2 b1)) .nil))))) (.r rfl))))))))))
   | cons K Q =>
    rw [mW.eq_2] at H
    refine aj (az aX rfl rfl (ae (aa (ay (jA rfl (jW a0) (aK (aa (ay (Tr.block (aj (av rfl (aP rfl (fun _ _ a c => ai oO (a.ev rfl) y.form (a.ev rfl) (Int.natCast_nonneg _) (ed a0)) (aP rfl (fun _ _ a c => aO (cs := [iv K.X, iv K.Y]) lJ iK (a.ev rfl) (aC.take (oM iV (y.rl) (lN a0) c) 2) rfl) (Tr.alloc 50 (wn rfl) rfl ui fun h8 => (Tr.k rfl (dm 50 (cs := [iv K.X, iv K.Y]) [iv K.X, iv K.Y] (wn rfl) rfl rfl rfl rfl iK rfl rfl rfl (ae (aa (aj (av rfl (av rfl (az aZ rfl rfl (av rfl (aU (bi qP) rfl ?_))))))))))))))))))))))))
    obtain ⟨h9, g5, H⟩ := bnd H
    refine aP rfl (fun _ _ a c => Eb (a.ev rfl) (a.ev rfl) g5) ?_
    obtain ⟨L, g6, H⟩ := bnd H
    obtain ⟨f1, f2, f3⟩ := aF g6
    refine aP rfl (fun _ _ a c => ai oO (a.ev rfl) y.form (a.ev rfl) f1 f2) (aP rfl (fun _ _ a c => aO (cs := [iv L.X, iv L.Y]) lJ iK (a.ev rfl) (aC.take (oM iV (y.rl) f3 c) 2) rfl) (Tr.alloc 51 (wn rfl) rfl ui fun i0 => (dm 51 (cs := [iv L.X, iv L.Y]) [iv L.X, iv L.Y] (wn rfl) rfl rfl rfl rfl iK rfl rfl rfl (ae (aa (aD (aU (ag Bf) rfl (aP rfl (fun _ _ a c => ah bQ (a.ev rfl) (dZ c (vs := [sL b v d, iv S]) (k := 44) rfl 1) rfl) (aU (ag oq) rfl (aP rfl (fun _ _ a c => ah bQ (a.ev rfl) (dZ c (vs := [iv K.X, iv K.Y]) (k := 50) rfl 0) rfl) (aU (ag mG) rfl (aP rfl (fun _ _ a c => ah bQ (a.ev rfl) (dZ c (vs := [iv L.X, iv L.Y]) (k := 51) rfl 1) rfl) ?_))))))))))))
    exact az rP rfl rfl (aU (ag oq) rfl (aP rfl (fun _ _ a c => ah bQ (a.ev rfl) (dZ c (vs := [iv L.X, iv L.Y]) (k := 51) rfl 0) rfl) (aU (ag mG) rfl (aP rfl (fun _ _ a c => ah bQ (a.ev rfl) (dZ c (vs := [iv K.X, iv K.Y]) (k := 50) rfl 1) rfl) (az rP rfl rfl (az eu rfl rfl (az aZ rfl rfl (aU (ag Bf) rfl (dm 44 (cs := [iv (bn (S + (bn ((bn (K.X * L.Y)) - (bn (L.X * K.Y))))))]) [sL b v d, iv (bn (S + (bn ((bn (K.X * L.Y)) - (bn (L.X * K.Y))))))] (wn rfl) rfl rfl rfl rfl zR rfl rfl rfl (ae (aH (aa (aD (az aZ rfl rfl (av rfl (ae (aB d0 (Q, (d1 + 1), (bn (S + (bn ((bn (K.X * L.Y)) - (bn (L.X * K.Y))))))) ⟨rfl, jV a0, ed a0, H⟩ (.cons rfl (.cons rfl (.cons rfl (.cons rfl (.cons rfl (.cons rfl (.cons rfl (.cons rfl (.cons rfl (.cons (congrArg (fun z => some (Value.int .i64 z)) (jU a0 y.form)) .nil)))))))))) (.r rfl))))))))))))))))))

theorem wF {w : Bs} (p0 : Int) (p1 : Int) (p2 : Int) (r : Bool) (H : qi p0 p1 p2 = some r) (hE : HF w w.W E0) : Calls Tryz.prog 171 [iv p0, iv p1, iv p2].toArray w.W fun e W' => e = .returned (bV r) ∧ HF w W' E0 := by
 unfold qi at H
 have leB := Bs.Le.refl w
 refine bB (n := 15) Tryz.func171 rfl rfl rfl hE (aj (Tr.k rfl (ae (aa (aj (av rfl (av rfl (az tZ rfl rfl (av rfl (dW 4 [(14, bV ((decide (p1 ≤ p0)) && (decide (p0 ≤ p2))))] [] ?_ ?_))))))))))
 ·cases a : (decide (p1 ≤ p0))
  ·exact aS rfl (aS rfl (aS rfl (az bv rfl rfl (ae (bu (.r rfl) .nil)))))
  ·exact cz run_move rfl (cz run_move rfl (iZ nk rfl rfl (az bC rfl rfl (ae (bu (.r rfl) .nil)))))
 ·show Tr _ _ (LF [(14, bV ((decide (p1 ≤ p0)) && (decide (p0 ≤ p2))))]) (LE []) _
  refine Tr.k rfl (ae (aa (bg ?_)))
  obtain rfl := oI H
  exact dM leB

theorem lh {w : Bs} (p0 : Int) (r : Bool) (H : jh p0 = some r) (hE : HF w w.W E0) : Calls Tryz.prog 120 [iv p0].toArray w.W fun e W' => e = .returned (bV r) ∧ HF w W' E0 := by
 unfold jh at H
 have leB := Bs.Le.refl w
 refine bB (n := 5) Tryz.func120 rfl rfl rfl hE (aj (Tr.k rfl (ae (aa (aj (av rfl ?_))))))
 obtain ⟨a, b, H⟩ := bnd H
 refine dn (r := (bV a)) (wn rfl) rfl Tryz.call171 (ak rfl (ak rfl (ak rfl aQ))) (fun W hW => wF p0 (-1000000) 1000000 a b (HF.start _)) (Tr.k rfl (ae (aa (bg ?_))))
 obtain rfl := oI H
 exact dM leB

theorem uG (N : Nat) {w : Bs} (p0 : (List aI)) (d : Option Addr) (f : Nat) (t : Sl w.R w.W bz d f p0) (r : Int) (H : kG N p0 = some r) (hE : HF w w.W E0) : Calls Tryz.prog 79 [sL d p0 f].toArray w.W fun e W' => e = .returned (iv r) ∧ HF w W' E0 := by
 unfold kG at H
 have leB := Bs.Le.refl w
 refine bB (n := 52) Tryz.func79 rfl rfl rfl hE (aj (Tr.k rfl (ae (aa (ay (aj (av rfl (aU (bi pR) rfl (az kX rfl rfl (ae (aa (aN rfl H (fun H => ?_) (fun H => ?_)))))))))))))
 ·refine aj (Tr.k rfl (ae (aa (bg (aL ?_)))))
  obtain rfl := oI H
  exact dM leB
 ·refine aK (aa (ay (aj (Tr.k rfl (ae (aa (Tr.block (bT (σ := Int) (fun m w s => fT p0 m s = some r) (fun s => [(0, sL d p0 f), (3, iv s)]) (fun s => []) N 0 H (.r rfl) .nil (fun _ _ h => fU (h)) ?_))))))))
  intro w u O j hs
  have H := hs
  replace H : fT p0 (O + 1) j = some r := H
  replace t := t.qG u
  replace leB := leB.trans u
  rw [fT.eq_2] at H
  show Tr _ _ (LF [(0, sL d p0 f), (3, iv j)]) (LE []) _
  refine ay (aj (av rfl (av rfl (aU (bi pR) rfl (az aX rfl rfl (ae (aa (aN rfl H (fun H => ?_) (fun H => ?_)))))))))
  ·refine aK (aa (ay (Tr.block (aj (av rfl (av rfl ?_))))))
   obtain ⟨b, I, H⟩ := bnd H
   obtain ⟨A, B, C⟩ := aF I
   refine aP rfl (fun _ _ a c => ai oP (a.ev rfl) t.form (a.ev rfl) A B) (aP rfl (fun _ _ a c => aO (cs := [iv b.X0, iv b.Y0, iv b.X1, iv b.Y1]) sP nV (a.ev rfl) (aC.take (oM iY t C c) 4) rfl) (Tr.alloc 3 (wn rfl) rfl zX fun g => (dm 3 (cs := [iv b.X0, iv b.Y0, iv b.X1, iv b.Y1]) [iv b.X0, iv b.Y0, iv b.X1, iv b.Y1] (wn rfl) rfl rfl rfl rfl nV rfl rfl rfl (ae (aa (ay (aj (aU (ag qJ) rfl (aP rfl (fun _ _ a c => ah bQ (a.ev rfl) (dZ c (vs := [iv b.X0, iv b.Y0, iv b.X1, iv b.Y1]) (k := 3) rfl 0) rfl) ?_)))))))))
   obtain ⟨v, J, H⟩ := bnd H
   refine dn (r := (bV v)) (wn rfl) rfl Tryz.call120 (ak rfl aQ) (fun W hW => lh b.X0 v J (HF.start _)) (aU jP rfl (av rfl ?_))
   obtain ⟨y, l, H⟩ := bnd H
   refine dW 5 [(0, sL d p0 f), (3, iv j), (4, pV g), (27, bV y)] [(3, bx g #[iv b.X0, iv b.Y0, iv b.X1, iv b.Y1] 38)] ?_ ?_
   ·cases i : (!v)
    ·rw [i] at l
     rw [if_neg (by decide)] at l
     have H := l
     refine cz (ag nO) rfl (Tr.x (fun _ _ a c => ah bQ (a.ev rfl) (dZ c (vs := [iv b.X0, iv b.Y0, iv b.X1, iv b.Y1]) (k := 3) rfl 1) rfl) ?_)
     obtain ⟨D, K, H⟩ := bnd H
     refine dn (r := (bV D)) (wg rfl rfl rfl) rfl Tryz.call120 (ak rfl aQ) (fun W hW => lh b.Y0 D K (HF.start _)) (cz jP rfl (az bv rfl rfl ?_))
     obtain rfl := oI H
     exact ae (bu (.r rfl) (.r rfl))
    ·rw [i] at l
     rw [if_pos rfl] at l
     have H := l
     obtain rfl := oI H
     exact aS rfl (aS rfl (aS rfl (aS rfl (az bC rfl rfl (ae (bu (.r rfl) (.r rfl)))))))
   ·show Tr _ _ (LF [(0, sL d p0 f), (3, iv j), (4, pV g), (27, bV y)]) (LE [(3, bx g #[iv b.X0, iv b.Y0, iv b.X1, iv b.Y1] 38)]) _
    refine av rfl ?_
    obtain ⟨z, o, H⟩ := bnd H
    refine dW 5 [(0, sL d p0 f), (3, iv j), (4, pV g), (33, bV z)] [(3, bx g #[iv b.X0, iv b.Y0, iv b.X1, iv b.Y1] 38)] ?_ ?_
    ·cases i : y
     ·rw [i] at o
      rw [if_neg (by decide)] at o
      have H := o
      refine cz (ag wS) rfl (Tr.x (fun _ _ a c => ah bQ (a.ev rfl) (dZ c (vs := [iv b.X0, iv b.Y0, iv b.X1, iv b.Y1]) (k := 3) rfl 2) rfl) ?_)
      obtain ⟨E, L, H⟩ := bnd H
      refine dn (r := (bV E)) (wg rfl rfl rfl) rfl Tryz.call120 (ak rfl aQ) (fun W hW => lh b.X1 E L (HF.start _)) (cz jP rfl (az bv rfl rfl ?_))
      obtain rfl := oI H
      exact ae (bu (.r rfl) (.r rfl))
     ·rw [i] at o
      rw [if_pos rfl] at o
      have H := o
      obtain rfl := oI H
      exact aS rfl (aS rfl (aS rfl (aS rfl (az bC rfl rfl (ae (bu (.r rfl) (.r rfl)))))))
    ·show Tr _ _ (LF [(0, sL d p0 f), (3, iv j), (4, pV g), (33, bV z)]) (LE [(3, bx g #[iv b.X0, iv b.Y0, iv b.X1, iv b.Y1] 38)]) _
     refine av rfl ?_
     obtain ⟨F, q, H⟩ := bnd H
     refine dW 5 [(0, sL d p0 f), (3, iv j), (4, pV g), (39, bV F)] [(3, bx g #[iv b.X0, iv b.Y0, iv b.X1, iv b.Y1] 38)] ?_ ?_
     ·cases i : z
      ·rw [i] at q
       rw [if_neg (by decide)] at q
       have H := q
       refine cz (ag vk) rfl (Tr.x (fun _ _ a c => ah bQ (a.ev rfl) (dZ c (vs := [iv b.X0, iv b.Y0, iv b.X1, iv b.Y1]) (k := 3) rfl 3) rfl) ?_)
       obtain ⟨G, M, H⟩ := bnd H
       refine dn (r := (bV G)) (wg rfl rfl rfl) rfl Tryz.call120 (ak rfl aQ) (fun W hW => lh b.Y1 G M (HF.start _)) (cz jP rfl (az bv rfl rfl ?_))
       obtain rfl := oI H
       exact ae (bu (.r rfl) (.r rfl))
      ·rw [i] at q
       rw [if_pos rfl] at q
       have H := q
       obtain rfl := oI H
       exact aS rfl (aS rfl (aS rfl (aS rfl (az bC rfl rfl (ae (bu (.r rfl) (.r rfl)))))))
     ·show Tr _ _ (LF [(0, sL d p0 f), (3, iv j), (4, pV g), (39, bV F)]) (LE [(3, bx g #[iv b.X0, iv b.Y0, iv b.X1, iv b.Y1] 38)]) _
      refine ae (aa (aN rfl H (fun H => ?_) (fun H => ?_)))
      ·refine aj (Tr.k rfl (ae (aa (bg (aL (cB (aL (aL (cB (aL ?_))))))))))
       obtain rfl := oI H
       exact dM leB
      ·refine aK (aa (aj (aU (ag wS) rfl (aP rfl (fun _ _ a c => ah bQ (a.ev rfl) (dZ c (vs := [iv b.X0, iv b.Y0, iv b.X1, iv b.Y1]) (k := 3) rfl 2) rfl) (aU (ag qJ) rfl (aP rfl (fun _ _ a c => ah bQ (a.ev rfl) (dZ c (vs := [iv b.X0, iv b.Y0, iv b.X1, iv b.Y1]) (k := 3) rfl 0) rfl) (az nk rfl rfl (av rfl (dW 6 [(0, sL d p0 f), (3, iv j), (51, bV ((decide (b.X1 ≤ b.X0)) || (decide (b.Y1 ≤ b.Y0))))] [(3, bx g #[iv b.X0, iv b.Y0, iv b.X1, iv b.Y1] 38)] ?_ ?_)))))))))
       ·cases i : (decide (b.X1 ≤ b.X0))
        ·exact cz (ag vk) rfl (Tr.x (fun _ _ a c => ah bQ (a.ev rfl) (dZ c (vs := [iv b.X0, iv b.Y0, iv b.X1, iv b.Y1]) (k := 3) rfl 3) rfl) (cz (ag nO) rfl (Tr.x (fun _ _ a c => ah bQ (a.ev rfl) (dZ c (vs := [iv b.X0, iv b.Y0, iv b.X1, iv b.Y1]) (k := 3) rfl 1) rfl) (iZ nk rfl rfl (az bv rfl rfl (ae (bu (.r rfl) (.r rfl))))))))
        ·exact aS rfl (aS rfl (aS rfl (aS rfl (aS rfl (az bC rfl rfl (ae (bu (.r rfl) (.r rfl))))))))
       ·show Tr _ _ (LF [(0, sL d p0 f), (3, iv j), (51, bV ((decide (b.X1 ≤ b.X0)) || (decide (b.Y1 ≤ b.Y0))))]) (LE [(3, bx g #[iv b.X0, iv b.Y0, iv b.X1, iv b.Y1] 38)]) _
        refine ae (aa (aN rfl H (fun H => ?_) (fun H => ?_)))
        ·refine aj (Tr.k rfl (ae (aa (bg (cB (aL (aL (cB (aL ?_)))))))))
         obtain rfl := oI H
         exact dM leB
        ·exact aK (aH (aa (aD (av rfl (az aZ rfl rfl (Tr.k rfl (ae (aB u (bn (j + 1)) H (.r rfl) .nil))))))))
  ·refine bO (au (au (aM (aa (aj (Tr.k rfl (ae (aa (bg ?_)))))))))
   obtain rfl := oI H
   exact dM leB

theorem wI {w : Bs} (p0 : aI) (p1 : aI) (r : Bool) (H : mD p0 p1 = some r) (hE : HF w w.W E0) : Calls Tryz.prog 80 [.agg #[iv p0.X0, iv p0.Y0, iv p0.X1, iv p0.Y1], .agg #[iv p1.X0, iv p1.Y0, iv p1.X1, iv p1.Y1]].toArray w.W fun e W' => e = .returned (bV r) ∧ HF w W' E0 := by
 unfold mD at H
 have leB := Bs.Le.refl w
 refine bB (n := 24) Tryz.func80 rfl rfl rfl hE (aj (jN 1 (cs := [iv p0.X0, iv p0.Y0, iv p0.X1, iv p0.Y1]) (wn rfl) rfl rfl rfl fun b => (jN 2 (cs := [iv p1.X0, iv p1.Y0, iv p1.X1, iv p1.Y1]) (wn rfl) rfl rfl rfl fun d => (Tr.k rfl (ae (aa (aj (aU (ag nO) rfl (aP rfl (fun _ _ a c => ah bQ (a.ev rfl) (dZ c (vs := [iv p0.X0, iv p0.Y0, iv p0.X1, iv p0.Y1]) (k := 1) rfl 1) rfl) (aU (ag nO) rfl (aP rfl (fun _ _ a c => ah bQ (a.ev rfl) (dZ c (vs := [iv p1.X0, iv p1.Y0, iv p1.X1, iv p1.Y1]) (k := 2) rfl 1) rfl) (az aX rfl rfl (av rfl (dW 13 [(23, bV ((decide (p0.Y0 < p1.Y0)) || ((p0.Y0 == p1.Y0) && (decide (p0.X0 < p1.X0)))))] [(1, bx b #[iv p0.X0, iv p0.Y0, iv p0.X1, iv p0.Y1] 38), (2, bx d #[iv p1.X0, iv p1.Y0, iv p1.X1, iv p1.Y1] 38)] ?_ ?_))))))))))))))
 ·cases f : (decide (p0.Y0 < p1.Y0))
  ·refine cz (ag nO) rfl (Tr.x (fun _ _ a c => ah bQ (a.ev rfl) (dZ c (vs := [iv p0.X0, iv p0.Y0, iv p0.X1, iv p0.Y1]) (k := 1) rfl 1) rfl) (cz (ag nO) rfl (Tr.x (fun _ _ a c => ah bQ (a.ev rfl) (dZ c (vs := [iv p1.X0, iv p1.Y0, iv p1.X1, iv p1.Y1]) (k := 2) rfl 1) rfl) (iZ iW rfl rfl (cz run_move rfl (dW 6 [(10, bV false), (22, bV ((p0.Y0 == p1.Y0) && (decide (p0.X0 < p1.X0))))] [(1, bx b #[iv p0.X0, iv p0.Y0, iv p0.X1, iv p0.Y1] 38), (2, bx d #[iv p1.X0, iv p1.Y0, iv p1.X1, iv p1.Y1] 38)] ?_ ?_))))))
   ·cases f : (p0.Y0 == p1.Y0)
    ·exact aS rfl (aS rfl (aS rfl (aS rfl (aS rfl (iZ bv rfl rfl (ae (bu (.r rfl) (.r rfl))))))))
    ·exact cz (ag qJ) rfl (Tr.x (fun _ _ a c => ah bQ (a.ev rfl) (dZ c (vs := [iv p0.X0, iv p0.Y0, iv p0.X1, iv p0.Y1]) (k := 1) rfl 0) rfl) (cz (ag qJ) rfl (Tr.x (fun _ _ a c => ah bQ (a.ev rfl) (dZ c (vs := [iv p1.X0, iv p1.Y0, iv p1.X1, iv p1.Y1]) (k := 2) rfl 0) rfl) (iZ aX rfl rfl (iZ bC rfl rfl (ae (bu (.r rfl) (.r rfl))))))))
   ·dsimp only
    exact az bv rfl rfl (ae (bu (.r rfl) (.r rfl)))
  ·refine aS rfl (aS rfl (aS rfl (aS rfl (aS rfl (aS rfl (lK rfl ?_))))))
   exact lK rfl (lK rfl (lK rfl (lK rfl (aS rfl (az bC rfl rfl (ae (bu (.r rfl) (.r rfl))))))))
 ·show Tr _ _ (LF [(23, bV ((decide (p0.Y0 < p1.Y0)) || ((p0.Y0 == p1.Y0) && (decide (p0.X0 < p1.X0)))))]) (LE [(1, bx b #[iv p0.X0, iv p0.Y0, iv p0.X1, iv p0.Y1] 38), (2, bx d #[iv p1.X0, iv p1.Y0, iv p1.X1, iv p1.Y1] 38)]) _
  refine Tr.k rfl (ae (aa (bg ?_)))
  obtain rfl := oI H
  exact dM leB

theorem kQ (N : Nat) {w : Bs} (p0 : (List Int)) (d : Option Addr) (f : Nat) (b : Sl w.O w.W bL d f p0) (p1 : Int) (r : (List Int)) (H : jr N p0 p1 = some r) (hE : HF w w.W (kw [])) : Calls Tryz.prog 172 [sL d p0 f, iv p1].toArray w.W fun e W' => ∃ (w' : Bs) (u : (Option Addr × Nat)), w.Le w' ∧ e = .returned (sL u.1 r u.2) ∧ (Sl w'.O w'.W bL u.1 u.2 r) ∧ HF w' W' (kw []) := by
 unfold jr at H
 have leB := Bs.Le.refl w
 refine bB (n := 54) Tryz.func172 rfl rfl rfl hE (aj (Tr.k rfl (bS 1 3 bL ?_)))
 show Tr _ _ (uf _ 4 (sL none (([] : List Int)) 0)) _ _
 refine ae (aa (aj (av rfl (aU (bi nE) rfl (Tr.k rfl (Tr.k rfl (ae (aa (ay (Tr.block (bT (σ := Int × Int) (fun m w s => iC p0 p1 m s.1 s.2 = some r) (fun s => [(0, sL d p0 f), (1, iv p1), (5, iv s.1), (6, iv s.2)]) (fun s => []) N (0, (p0.length : Int)) H (.r rfl) .nil (fun _ _ h => fU (h)) ?_)))))))))))
 intro w o a0 s hs
 obtain ⟨g, j⟩ := s
 have H := hs
 replace H : iC p0 p1 (a0 + 1) g j = some r := H
 replace b := b.le o
 replace leB := leB.trans o
 rw [iC.eq_2] at H
 dsimp only
 refine ay (aj (av rfl (av rfl (az aX rfl rfl (ae (aa (aN rfl H (fun H => ?_) (fun H => ?_))))))))
 ·refine aK (aa (Tr.block (aj (av rfl (av rfl (az aZ rfl rfl (aP rfl (fun _ _ a c => Pf (a.ev rfl) (a.ev rfl) (by decide)) (Tr.k rfl (ae (aa (aj (av rfl (av rfl ?_)))))))))))))
  obtain ⟨a8, J, H⟩ := bnd H
  obtain ⟨B, C, D⟩ := aF J
  refine aP rfl (fun _ _ a c => ai lQ (a.ev rfl) b.form (a.ev rfl) B C) (aP rfl (fun _ _ a c => ah bQ (a.ev rfl) (oM jM (b.rl) D c) rfl) (av rfl (az aX rfl rfl (ae (aa (aN rfl H (fun H => ?_) (fun H => ?_)))))))
  ·exact aD (av rfl (az aZ rfl rfl (Tr.k rfl (ae (aH (aB o ((bn ((bn (Int.tdiv (bn (g + j)) 2)) + 1)), j) H (.r rfl) .nil))))))
  ·exact aD (av rfl (Tr.k rfl (ae (aH (aB o (g, (bn (Int.tdiv (bn (g + j)) 2))) H (.r rfl) .nil)))))
 ·refine bO (au (au (aM (aa (ay (aj (av rfl (av rfl (aU (bi nE) rfl (az aX rfl rfl (av rfl ?_)))))))))))
  obtain ⟨E, i, H⟩ := bnd H
  refine dW 7 [(0, sL d p0 f), (1, iv p1), (5, iv g), (38, bV E)] [] ?_ ?_
  ·cases q : (decide (g < (p0.length : Int)))
   ·rw [q] at i
    rw [if_neg (by decide)] at i
    have H := i
    obtain rfl := oI H
    exact aS rfl (aS rfl (aS rfl (aS rfl (aS rfl (aS rfl (az bv rfl rfl (ae (bu (.r rfl) .nil))))))))
   ·rw [q] at i
    rw [if_pos rfl] at i
    have H := i
    refine cz run_move rfl (cz run_move rfl ?_)
    obtain ⟨a9, K, H⟩ := bnd H
    obtain ⟨F, G, I⟩ := aF K
    refine Tr.x (fun _ _ a c => ai lQ (a.ev rfl) b.form (a.ev rfl) F G) (Tr.x (fun _ _ a c => ah bQ (a.ev rfl) (oM jM (b.rl) I c) rfl) (cz run_move rfl (iZ iW rfl rfl (az bC rfl rfl ?_))))
    obtain rfl := oI H
    exact ae (bu (.r rfl) .nil)
  ·show Tr _ _ (LF [(0, sL d p0 f), (1, iv p1), (5, iv g), (38, bV E)]) (LE []) _
   refine ae (aa (aN rfl H (fun H => ?_) (fun H => ?_)))
   ·refine aj (av rfl (Tr.k rfl (ae (aa (bg (aL ?_))))))
    obtain rfl := oI H
    exact Tr.out (m := [sL d p0 f]) [] (eU rfl dR) (fun W hW => ⟨w, (d, f), leB, rfl, b, hW.pick (ks := []) (by decide) bK⟩)
   ·refine aK (aa (aj (Tr.k rfl (bS 2 3 bL ?_))))
    show Tr _ _ (uf _ 8 (sL none (([] : List Int)) 0)) _ _
    refine ae (aa (aj (av rfl (av rfl (av rfl ?_)))))
    obtain ⟨T, v, H⟩ := bnd H
    refine aP rfl (fun _ _ a c => zG lQ (a.ev rfl) b.form (a.ev rfl) v) ?_
    obtain ⟨U, L, H⟩ := bnd H
    refine og 2 (t := bL) (l := ([] : List Int)) (l2 := T) (wn rfl) rfl rfl rfl rfl (Rq BI (fun W hW => (Sl.pre (Sl.BG (b.rl) hW) v))) nE zR JC (by decide) Kv rfl L fun a4 a5 a1 => (Tr.k rfl (ae (aa (aj (av rfl (av rfl (dG 3 (e := 3) (vs := [(0, iv p1)]) (cs := [iv p1]) (wn rfl) rfl (bD rfl dL) (by kernel_rfl) fun b0 => ?_)))))))
    obtain ⟨V, M, H⟩ := bnd H
    refine Tr.append 2 (t := bL) (l := U) (l2 := [p1]) (wn rfl) rfl rfl rfl rfl (fun W hW => ⟨[[iv p1]], (.cons ⟨(), trivial, rfl⟩ .nil), dZ hW (vs := [iv p1]) (k := 3) rfl 0⟩) nE zR JC (by decide) Kv rfl M fun a6 a7 a2 => (Tr.k rfl (ae (aa (aj (av rfl (av rfl (av rfl ?_)))))))
    obtain ⟨X, y, H⟩ := bnd H
    refine aP rfl (fun _ _ a c => sH lQ (a.ev rfl) b.form (a.ev rfl) y) ?_
    obtain ⟨Z, P, H⟩ := bnd H
    refine og 2 (t := bL) (l := V) (l2 := X) (wn rfl) rfl rfl rfl rfl (Rq BI (fun W hW => (Sl.cut (Sl.BG (b.rl) hW) y))) nE zR JC (by decide) Kv rfl P fun z A a3 => (Tr.k rfl (ae (aa (bg ?_))))
    obtain rfl := oI H
    refine Tr.freeze 2 rfl fun w Q S => ?_
    replace leB := leB.trans Q
    exact Tr.out (m := [sL z Z A]) [] (eU rfl dR) (fun W hW => ⟨w, (z, A), leB, rfl, S, hW.pick (ks := []) (by decide) bK⟩)

theorem wo (N : Nat) {w : Bs} (p0 : (List aI)) (b : Option Addr) (g : Nat) (d : Sl w.R w.W bz b g p0) (r : (List Int)) (H : nA N p0 = some r) (hE : HF w w.W (kw [])) : Calls Tryz.prog 121 [sL b p0 g].toArray w.W fun e W' => ∃ (w' : Bs) (u : (Option Addr × Nat)), w.Le w' ∧ e = .returned (sL u.1 r u.2) ∧ (Sl w'.O w'.W bL u.1 u.2 r) ∧ HF w' W' (kw []) := by
 unfold nA at H
 have leB := Bs.Le.refl w
 refine bB (n := 25) Tryz.func121 rfl rfl rfl hE (aj (Tr.k rfl (bS 1 3 bL ?_)))
 show Tr _ _ (uf _ 2 (sL none (([] : List Int)) 0)) _ _
 refine ae (aa (aj (Tr.k rfl (bS 2 3 bL ?_))))
 show Tr _ _ (uf _ 3 (sL none (([] : List Int)) 0)) _ _
 refine ae (aa (ay (aj (Tr.k rfl (ae (aa (Tr.block (Tr.freeze 2 rfl fun w E V => ?_))))))))
 replace d := d.qG E
 replace leB := leB.trans E
 refine bT (σ := (List Int) × Int × (Option Addr) × Nat) (fun m w s => gT N p0 m s.1 s.2.1 = some r ∧ Sl w.O w.W bL s.2.2.1 s.2.2.2 s.1) (fun s => [(0, sL b p0 g), (3, sL s.2.2.1 s.1 s.2.2.2), (4, iv s.2.1)]) (fun s => []) N (([] : List Int), 0, none, 0) ⟨H, V⟩ (.r rfl) .nil (fun _ _ h => fU (h.1)) ?_
 intro w l a5 s hs
 obtain ⟨q, f, i, j⟩ := s
 obtain ⟨H, C⟩ := hs
 replace H : gT N p0 (a5 + 1) q f = some r := H
 replace d := d.qG l
 replace leB := leB.trans l
 replace C : Sl w.O w.W bL i j q := C
 rw [gT.eq_2] at H
 dsimp only
 refine ay (aj (av rfl (av rfl (aU (bi pR) rfl (az aX rfl rfl (ae (aa (aN rfl H (fun H => ?_) (fun H => ?_)))))))))
 ·refine aK (aa (ay (Tr.block (oQ 12 [] [] (by kernel_rfl) (by kernel_rfl) fun a7 a3 a4 => (aV 0 [(11, sL i q j)] (by kernel_rfl) rfl rfl (by kernel_rfl) ?_ rfl rfl ?_)))))
  ·exact bU rfl (Tq.fin (.r rfl))
  refine aV 1 [(12, sL b p0 g)] (by kernel_rfl) rfl rfl (by kernel_rfl) ?_ rfl rfl ?_
  ·exact bU rfl (Tq.fin (.r rfl))
  refine aV 2 [(13, iv f)] (by kernel_rfl) rfl rfl (by kernel_rfl) ?_ rfl rfl ?_
  ·exact bU rfl (Tq.fin (.r rfl))
  obtain ⟨J, X, H⟩ := bnd H
  obtain ⟨K, L, M⟩ := aF X
  refine aV 3 [(14, .pointer (some ⟨nY b, pF b + (f).toNat * 4, none⟩))] (by kernel_rfl) rfl rfl (by kernel_rfl) ?_ rfl rfl ?_
  ·exact aY rfl (fun _ _ a c => ai oP (a.ev rfl) d.form (a.ev rfl) K L) (Tq.fin (.r rfl))
  refine aV 4 [(15, .pointer (some ⟨nY b, pF b + (f).toNat * 4 + 1, none⟩))] (by kernel_rfl) rfl rfl (by kernel_rfl) ?_ rfl rfl ?_
  ·exact gH (ag nO) rfl (Tq.fin (.r rfl))
  refine aV 5 [(16, iv J.Y0)] (by kernel_rfl) rfl rfl (by kernel_rfl) ?_ rfl rfl ?_
  ·exact aY rfl (fun _ _ a c => ah bQ (a.ev rfl) (aC.drop (oM iY d M c) 1) rfl) (Tq.fin (.r rfl))
  refine aV 7 [(18, sL b p0 g)] (by kernel_rfl) rfl rfl (by kernel_rfl) ?_ rfl rfl ?_
  ·exact bU rfl (Tq.fin (.r rfl))
  refine aV 8 [(19, iv f)] (by kernel_rfl) rfl rfl (by kernel_rfl) ?_ rfl rfl ?_
  ·exact bU rfl (Tq.fin (.r rfl))
  obtain ⟨P, Z, H⟩ := bnd H
  obtain ⟨Q, S, T⟩ := aF Z
  refine aV 9 [(20, .pointer (some ⟨nY b, pF b + (f).toNat * 4, none⟩))] (by kernel_rfl) rfl rfl (by kernel_rfl) ?_ rfl rfl ?_
  ·exact aY rfl (fun _ _ a c => ai oP (a.ev rfl) d.form (a.ev rfl) Q S) (Tq.fin (.r rfl))
  refine aV 10 [(21, .pointer (some ⟨nY b, pF b + (f).toNat * 4 + 3, none⟩))] (by kernel_rfl) rfl rfl (by kernel_rfl) ?_ rfl rfl ?_
  ·exact gH (ag vk) rfl (Tq.fin (.r rfl))
  refine aV 11 [(22, iv P.Y1)] (by kernel_rfl) rfl rfl (by kernel_rfl) ?_ rfl rfl ?_
  ·exact aY rfl (fun _ _ a c => ah bQ (a.ev rfl) (aC.drop (oM iY d T c) 3) rfl) (Tq.fin (.r rfl))
  obtain ⟨t, a0, H⟩ := bnd H
  refine Dr.one 6 (by kernel_rfl) (EY 6 [] [] (U := (Option Addr × Nat)) (fun u => (sL u.1 t u.2)) (fun O W u => Sl O W bL u.1 u.2 t) (fun u => []) rfl bK (fun _ => rfl) (Db rfl) rfl (wn rfl) rfl Tryz.call172 (ak rfl (ak rfl aQ)) (fun W hW hp hE => kQ N q i j (C.Hd (hW.mQ hp)) J.Y0 t a0 hE) ?_)
  intro w u a1 hu a6
  obtain ⟨v, y⟩ := u
  have G := hu
  replace l := l.trans a1
  have o : Sl w.O w.W bL v y t := G
  dsimp only
  refine qN (by kernel_rfl) ?_
  obtain ⟨z, a2, H⟩ := bnd H
  refine jl [] [] (U := (Option Addr × Nat)) (fun u => (sL u.1 z u.2)) (fun O W u => Sl O W bL u.1 u.2 z) (fun u => []) rfl bK (fun _ => rfl) (wn rfl) rfl Tryz.call172 (ak rfl (ak rfl aQ)) (fun W hW hp hE => kQ N t v y (o.Hd (hW.mQ hp)) P.Y1 z a2 hE) ?_
  intro w u F hu
  obtain ⟨A, B⟩ := u
  have I := hu
  replace o := o.le F
  replace l := l.trans F
  have D : Sl w.O w.W bL A B z := I --@phi
  dsimp only
  exact Tr.k rfl (ae (aH (aa (aD (av rfl (az aZ rfl rfl (Tr.k rfl (ae (aB l (z, (bn (f + 1)), A, B) ⟨H, D⟩ (.r rfl) .nil)))))))))
 ·refine bO (au (au (aM (aa (aj (av rfl (Tr.k rfl (ae (aa (bg ?_))))))))))
  obtain rfl := oI H
  exact Tr.out (m := [sL i q j]) [] (eU rfl dR) (fun W hW => ⟨w, (i, j), leB, rfl, C, hW.pick (ks := []) (by decide) bK⟩)

theorem wG (N : Nat) {w : Bs} (p0 : (List jY)) (i : Option Addr) (q : Nat) (d : Sl w.R w.W iL i q p0) (p1 : jY) (r : (List jY)) (H : mr N p0 p1 = some r) (hE : HF w w.W (kw [emp])) : Calls Tryz.prog 174 [sL i p0 q, .agg #[iv p1.from_, iv p1.to_]].toArray w.W fun e W' => ∃ u : (Option Addr × Nat), e = .returned (sL u.1 r u.2) ∧ (fC u.1 r.length u.2) ∧ HF w W' (kw [ow u.1 u.2 220 iL r]) := by
 unfold mr at H
 have leB := Bs.Le.refl w
 refine bB (n := 73) Tryz.func174 rfl rfl rfl hE (aj (jN 1 (cs := [iv p1.from_, iv p1.to_]) (wn rfl) rfl rfl rfl fun j => (Tr.k rfl (bS 2 220 iL ?_))))
 show Tr _ _ (uf _ 4 (sL none (([] : List jY)) 0)) _ _
 refine ae (aa (aj (Tr.k rfl (bS 3 220 iL ?_))))
 show Tr _ _ (uf _ 5 (sL none (([] : List jY)) 0)) _ _
 refine ae (aa (aj (Tr.k rfl (ae (aa (ay (Tr.block (bT (σ := (List jY) × Int × (Option Addr) × Nat) (fun m w s => il N p0 p1 m s.1 s.2.1 = some r ∧ fC s.2.2.1 s.1.length s.2.2.2) (fun s => [(0, sL i p0 q), (3, pV j), (5, sL s.2.2.1 s.1 s.2.2.2), (6, iv s.2.1)]) (fun s => [(1, bx j #[iv p1.from_, iv p1.to_] 220), (3, ow s.2.2.1 s.2.2.2 220 iL s.1)]) N (([] : List jY), 0, none, 0) ⟨H, iM⟩ (.r rfl) (.r rfl) (fun _ _ h => fU (h.1)) ?_))))))))
 intro w I c9 s hs
 obtain ⟨o, E, y, z⟩ := s
 obtain ⟨H, d2⟩ := hs
 replace H : il N p0 p1 (c9 + 1) o E = some r := H
 replace d := d.qG I
 replace leB := leB.trans I
 rw [il.eq_2] at H
 dsimp only
 refine ay (ay (iN (by kernel_rfl) (by kernel_rfl) (bU rfl (bU rfl (gH (bi vL) rfl (eP aX rfl rfl (bU rfl ?_)))))))
 obtain ⟨b9, B, H⟩ := bnd H
 refine oF 9 [(0, sL i p0 q), (3, pV j), (5, sL y o z), (6, iv E), (20, bV b9)] ?_ ?_
 ·cases D : (decide (E < (p0.length : Int)))
  ·rw [D] at B
   rw [if_neg (by decide)] at B
   have H := B
   obtain rfl := oI H
   refine bq rfl (bq rfl (bq rfl (bq rfl (bq rfl (bq rfl (bq rfl ?_))))))
   exact bq rfl (eP bv rfl rfl (Tq.fin (.r rfl)))
  ·rw [D] at B
   rw [if_pos rfl] at B
   have H := B
   refine gN run_move rfl (gN run_move rfl ?_)
   obtain ⟨d5, a8, H⟩ := bnd H
   obtain ⟨O, P, Q⟩ := aF a8
   refine Tq.x (fun _ _ a c => ai uJ (a.ev rfl) d.form (a.ev rfl) O P) (gN (ag vU) rfl (Tq.x (fun _ _ a c => ah bQ (a.ev rfl) (aC.drop (oM qV d Q c) 1) rfl) (gN (ag vV) rfl (Tq.x (fun _ _ a c => ah bQ (a.ev rfl) (dZ c (vs := [iv p1.from_, iv p1.to_]) (k := 1) rfl 0) rfl) (ou aX rfl rfl (eP bC rfl rfl ?_))))))
   obtain rfl := oI H
   exact Tq.fin (.r rfl)
 ·refine iJ (aa (aN rfl H (fun H => ?_) (fun H => ?_)))
  ·refine aK (aa (Tr.block (aj (av rfl (av rfl (av rfl ?_))))))
   obtain ⟨v, a9, H⟩ := bnd H
   obtain ⟨S, T, U⟩ := aF a9
   refine aP rfl (fun _ _ a c => ai uJ (a.ev rfl) d.form (a.ev rfl) S T) (aP rfl (fun _ _ a c => aO (cs := [iv v.from_, iv v.to_]) Hq Ai (a.ev rfl) (aC.take (oM qV d U c) 2) rfl) (dG 6 (e := 220) (vs := [(0, .agg #[iv v.from_, iv v.to_])]) (cs := [iv v.from_, iv v.to_]) (wn rfl) rfl (bD rfl dL) (by kernel_rfl) fun d6 => ?_))
   obtain ⟨c0, b0, H⟩ := bnd H
   exact Tr.append 3 (t := iL) (l := o) (l2 := [v]) (wn rfl) rfl rfl rfl rfl (fun W hW => ⟨[[iv v.from_, iv v.to_]], (.cons ⟨(), trivial, rfl⟩ .nil), dZ hW (vs := [iv v.from_, iv v.to_]) (k := 6) rfl 0⟩) vL Ai JD (by decide) Kw rfl b0 fun b1 b2 V => (Tr.k rfl (ae (aa (aD (av rfl (az aZ rfl rfl (Tr.k rfl (ae (aH (aB I (c0, (bn (E + 1)), b1, b2) ⟨H, V⟩ (.r rfl) (.r rfl)))))))))))
  ·refine bO (au (au (aM (aa (ay (Tr.block (bT (σ := Int × Int × Int) (fun m w s => ik p0 o m s.1 s.2.1 s.2.2 = some r) (fun s => [(0, sL i p0 q), (3, pV j), (5, sL y o z), (6, iv s.2.2)]) (fun s => [(1, bx j #[iv s.1, iv s.2.1] 220), (3, ow y z 220 iL o)]) N (p1.from_, p1.to_, E) H (.r rfl) (.r rfl) (fun _ _ h => fU (h)) ?_)))))))
   intro w J d0 s hs
   obtain ⟨f, g, A⟩ := s
   have H := hs
   replace H : ik p0 o (d0 + 1) f g A = some r := H
   replace d := d.qG J
   replace leB := leB.trans J
   rw [ik.eq_2] at H
   dsimp only
   refine ay (ay (iN (by kernel_rfl) (by kernel_rfl) (bU rfl (bU rfl (gH (bi vL) rfl (eP aX rfl rfl (bU rfl ?_)))))))
   obtain ⟨c3, C, H⟩ := bnd H
   refine oF 9 [(0, sL i p0 q), (3, pV j), (5, sL y o z), (6, iv A), (43, bV c3)] ?_ ?_
   ·cases D : (decide (A < (p0.length : Int)))
    ·rw [D] at C
     rw [if_neg (by decide)] at C
     have H := C
     obtain rfl := oI H
     refine bq rfl (bq rfl (bq rfl (bq rfl (bq rfl (bq rfl (bq rfl ?_))))))
     exact bq rfl (eP bv rfl rfl (Tq.fin (.r rfl)))
    ·rw [D] at C
     rw [if_pos rfl] at C
     have H := C
     refine gN run_move rfl (gN run_move rfl ?_)
     obtain ⟨d7, b3, H⟩ := bnd H
     obtain ⟨X, Z, a0⟩ := aF b3
     refine Tq.x (fun _ _ a c => ai uJ (a.ev rfl) d.form (a.ev rfl) X Z) (gN (ag vV) rfl (Tq.x (fun _ _ a c => ah bQ (a.ev rfl) (aC.drop (oM qV d a0 c) 0) rfl) (gN (ag vU) rfl (Tq.x (fun _ _ a c => ah bQ (a.ev rfl) (dZ c (vs := [iv f, iv g]) (k := 1) rfl 1) rfl) (ou nk rfl rfl (eP bC rfl rfl ?_))))))
     obtain rfl := oI H
     exact Tq.fin (.r rfl)
   ·refine iJ (aa (aN rfl H (fun H => ?_) (fun H => ?_)))
    ·refine aK (aa (Tr.block (ay (oQ 18 [(17, fun x => x = j)] [] (by kernel_rfl) (by kernel_rfl) fun b4 c4 c8 => (aV 0 [(44, pV j)] (by kernel_rfl) rfl rfl (by kernel_rfl) ?_ rfl rfl ?_)))))
     ·exact gH (ag vV) rfl (Tq.fin (.r rfl))
     refine aV 1 [(45, iv f)] (by kernel_rfl) rfl rfl (by kernel_rfl) ?_ rfl rfl ?_
     ·exact aY rfl (fun _ _ a c => ah bQ (a.ev rfl) (dZ c (vs := [iv f, iv g]) (k := 1) rfl 0) rfl) (Tq.fin (.r rfl))
     refine aV 2 [(46, sL i p0 q)] (by kernel_rfl) rfl rfl (by kernel_rfl) ?_ rfl rfl ?_
     ·exact bU rfl (Tq.fin (.r rfl))
     refine aV 3 [(47, iv A)] (by kernel_rfl) rfl rfl (by kernel_rfl) ?_ rfl rfl ?_
     ·exact bU rfl (Tq.fin (.r rfl))
     obtain ⟨F, b5, H⟩ := bnd H
     obtain ⟨a1, a2, a3⟩ := aF b5
     refine aV 4 [(48, .pointer (some ⟨nY i, pF i + (A).toNat * 2, none⟩))] (by kernel_rfl) rfl rfl (by kernel_rfl) ?_ rfl rfl ?_
     ·exact aY rfl (fun _ _ a c => ai uJ (a.ev rfl) d.form (a.ev rfl) a1 a2) (Tq.fin (.r rfl))
     refine aV 5 [(49, .pointer (some ⟨nY i, pF i + (A).toNat * 2 + 0, none⟩))] (by kernel_rfl) rfl rfl (by kernel_rfl) ?_ rfl rfl ?_
     ·exact gH (ag vV) rfl (Tq.fin (.r rfl))
     refine aV 6 [(50, iv F.from_)] (by kernel_rfl) rfl rfl (by kernel_rfl) ?_ rfl rfl ?_
     ·exact aY rfl (fun _ _ a c => ah bQ (a.ev rfl) (aC.drop (oM qV d a3 c) 0) rfl) (Tq.fin (.r rfl))
     refine aV 7 [(51, iv (min f F.from_))] (by kernel_rfl) rfl rfl (by kernel_rfl) ?_ rfl rfl ?_
     ·exact aY rfl (fun _ _ a c => GJ (a.ev rfl) (a.ev rfl) _) (Tq.fin (.r rfl))
     refine aV 8 [(52, .pointer (some ⟨j, 1, none⟩))] (by kernel_rfl) rfl rfl (by kernel_rfl) ?_ rfl rfl ?_
     ·exact gH (ag vU) rfl (Tq.fin (.r rfl))
     refine aV 9 [(53, iv g)] (by kernel_rfl) rfl rfl (by kernel_rfl) ?_ rfl rfl ?_
     ·exact aY rfl (fun _ _ a c => ah bQ (a.ev rfl) (dZ c (vs := [iv f, iv g]) (k := 1) rfl 1) rfl) (Tq.fin (.r rfl))
     refine cu 10 (by kernel_rfl) rfl (wn rfl) rfl (by kernel_rfl) (fun _ _ a => run_move (a.ev rfl)) rfl (cu 11 (by kernel_rfl) rfl (wn rfl) rfl (by kernel_rfl) (fun _ _ a => run_move (a.ev rfl)) rfl ?_)
     obtain ⟨G, b6, H⟩ := bnd H
     obtain ⟨a4, a5, a6⟩ := aF b6
     refine cu 12 (by kernel_rfl) rfl (wn rfl) rfl (by kernel_rfl) (fun _ _ a => ai uJ (a.ev rfl) d.form (a.ev rfl) a4 a5) rfl (cu 13 (by kernel_rfl) rfl (wn rfl) rfl (by kernel_rfl) (fun _ _ a => ag vU (a.ev rfl)) rfl (oK 14 [(58, iv G.to_)] [17] false (by kernel_rfl) rfl rfl (by kernel_rfl) (fun W W' c hsW hk => HF.y8 (le := []) (ks := [(1, fun x => x = j)]) (s0 := b4) false c hk (fun h => absurd h (by decide)) .nil (fun b hb => hb.elim (fun ⟨p, hp, hf, hb⟩ => by simp only [List.mem_cons, List.not_mem_nil, or_false] at hp; rcases hp with rfl; exact .inl ⟨_, List.mem_cons_self, hb⟩) (fun hb => absurd hb.1 (by decide))) (List.forall_mem_cons.2 ⟨fun b hb => hb, (fun _ h => nomatch h)⟩) rfl) ?_ rfl rfl ?_))
     ·exact aY rfl (fun _ _ a c => ah bQ (a.ev rfl) (aC.drop (oM qV d a6 c) 1) rfl) (Tq.fin (.r rfl))
     refine cu 15 (by kernel_rfl) rfl (wn rfl) rfl (by kernel_rfl) (fun _ _ a => AV (a.ev rfl) (a.ev rfl) _) rfl (aV 16 [(60, pV j)] (by kernel_rfl) rfl rfl (by kernel_rfl) ?_ rfl rfl ?_)
     ·exact gH (ag vV) rfl (Tq.fin (.r rfl))
     exact Dr.one 17 (by kernel_rfl) (zq 17 1 (cs := [iv (min f F.from_)]) [iv (min f F.from_), iv g] rfl (wn rfl) (.inl ⟨_, List.mem_cons_self, rfl, rfl⟩) rfl rfl rfl rfl zR rfl rfl rfl (qN (by kernel_rfl) (aU (ag vU) rfl (dm 1 (cs := [iv (max g G.to_)]) [iv (min f F.from_), iv (max g G.to_)] (wn rfl) rfl rfl rfl rfl zR rfl rfl rfl (ae (aa (aD (av rfl (az aZ rfl rfl (Tr.k rfl (ae (aH (aB J ((min f F.from_), (max g G.to_), (bn (A + 1))) H (.r rfl) (.r rfl))))))))))))))
    ·refine bO (au (au (aM (aa (aj (av rfl (aP rfl (fun _ _ a c => aO (cs := [iv f, iv g]) Hq Ai (a.ev rfl) (aC.take (dZ c (vs := [iv f, iv g]) (k := 1) rfl 0) 2) rfl) (dG 7 (e := 220) (vs := [(0, .agg #[iv f, iv g])]) (cs := [iv f, iv g]) (wn rfl) rfl (bD rfl dL) (by kernel_rfl) fun d8 => ?_))))))))
     obtain ⟨c5, b7, H⟩ := bnd H
     refine Tr.append 3 (t := iL) (l := o) (l2 := [(jY.mk f g)]) (wn rfl) rfl rfl rfl rfl (fun W hW => ⟨[[iv f, iv g]], (.cons ⟨(), trivial, rfl⟩ .nil), dZ hW (vs := [iv f, iv g]) (k := 7) rfl 0⟩) vL Ai JD (by decide) Kw rfl b7 fun d3 d4 d1 => (Tr.k rfl (ae (aa (aj (av rfl (av rfl (av rfl ?_)))))))
     obtain ⟨c6, K, H⟩ := bnd H
     refine aP rfl (fun _ _ a c => sH uJ (a.ev rfl) d.form (a.ev rfl) K) ?_
     obtain ⟨c7, b8, H⟩ := bnd H
     refine og 3 (t := iL) (l := c5) (l2 := c6) (wn rfl) rfl rfl rfl rfl (Rq DJ (fun W hW => (Sl.cut (Sl.BG d hW) K))) vL Ai JD (by decide) Kw rfl b8 fun L M a7 => (Tr.k rfl (ae (aa (bg ?_))))
     obtain rfl := oI H
     exact Tr.out (m := [sL L c7 M]) [] (eU rfl dR) (fun W hW => ⟨(L, M), rfl, a7, HF.xZ leB (hW.pick (ks := [3]) (by decide) (bA rfl bK)) ⟨pX _ _ _ _ DJ, trivial⟩⟩)

theorem sV (N : Nat) {w : Bs} (p0 : (List aI)) (j : Option Addr) (l : Nat) (f : Sl w.R w.W bz j l p0) (p1 : Int) (r : (List jY)) (H : nM N p0 p1 = some r) (hE : HF w w.W (kw [emp])) : Calls Tryz.prog 123 [sL j p0 l, iv p1].toArray w.W fun e W' => ∃ u : (Option Addr × Nat), e = .returned (sL u.1 r u.2) ∧ (fC u.1 r.length u.2) ∧ HF w W' (kw [ow u.1 u.2 220 iL r]) := by
 unfold nM at H
 have leB := Bs.Le.refl w
 refine bB (n := 43) Tryz.func123 rfl rfl rfl hE (aj (Tr.k rfl (bS 1 220 iL ?_)))
 show Tr _ _ (uf _ 4 (sL none (([] : List jY)) 0)) _ _
 refine ae (aa (aj (Tr.k rfl (bS 2 220 iL ?_))))
 show Tr _ _ (uf _ 5 (sL none (([] : List jY)) 0)) _ _
 refine ae (aa (ay (aj (Tr.k rfl (ae (aa (Tr.block (zn 2 8 rfl rfl rfl (bT (σ := (List jY) × Int × (Option Addr) × Nat) (fun m w s => iB N p0 p1 m s.1 s.2.1 = some r ∧ fC s.2.2.1 s.1.length s.2.2.2) (fun s => [(0, sL j p0 l), (1, iv p1), (5, sL s.2.2.1 s.1 s.2.2.2), (6, iv s.2.1)]) (fun s => [(8, ow s.2.2.1 s.2.2.2 220 iL s.1)]) N (([] : List jY), 0, none, 0) ⟨H, iM⟩ (.r rfl) (.r rfl) (fun _ _ h => fU (h.1)) ?_)))))))))
 intro w z a4 s hs
 obtain ⟨g, v, b, d⟩ := s
 obtain ⟨H, y⟩ := hs
 replace H : iB N p0 p1 (a4 + 1) g v = some r := H
 replace f := f.qG z
 replace leB := leB.trans z
 replace y : fC b g.length d := y
 rw [iB.eq_2] at H
 dsimp only
 refine ay (aj (av rfl (av rfl (aU (bi pR) rfl (az aX rfl rfl (ae (aa (aN rfl H (fun H => ?_) (fun H => ?_)))))))))
 ·refine aK (aa (ay (Tr.block (aj (av rfl (av rfl ?_))))))
  obtain ⟨a3, X, H⟩ := bnd H
  obtain ⟨F, G, I⟩ := aF X
  refine aP rfl (fun _ _ a c => ai oP (a.ev rfl) f.form (a.ev rfl) F G) (aU (ag nO) rfl (aP rfl (fun _ _ a c => ah bQ (a.ev rfl) (aC.drop (oM iY f I c) 1) rfl) (av rfl (az nk rfl rfl (av rfl ?_)))))
  obtain ⟨J, o, H⟩ := bnd H
  refine dW 8 [(0, sL j p0 l), (1, iv p1), (5, sL b g d), (6, iv v), (28, bV J)] [(8, ow b d 220 iL g)] ?_ ?_
  ·cases D : (decide (a3.Y0 ≤ p1))
   ·rw [D] at o
    rw [if_neg (by decide)] at o
    have H := o
    obtain rfl := oI H
    refine aS rfl (aS rfl (aS rfl (aS rfl (aS rfl (aS rfl (aS rfl ?_))))))
    exact az bv rfl rfl (ae (bu (.r rfl) (.r rfl)))
   ·rw [D] at o
    rw [if_pos rfl] at o
    have H := o
    refine cz run_move rfl (cz run_move rfl (cz run_move rfl ?_))
    obtain ⟨a5, Z, H⟩ := bnd H
    obtain ⟨K, L, M⟩ := aF Z
    refine Tr.x (fun _ _ a c => ai oP (a.ev rfl) f.form (a.ev rfl) K L) (cz (ag vk) rfl (Tr.x (fun _ _ a c => ah bQ (a.ev rfl) (aC.drop (oM iY f M c) 3) rfl) (iZ aX rfl rfl (az bC rfl rfl ?_))))
    obtain rfl := oI H
    exact ae (bu (.r rfl) (.r rfl))
  ·show Tr _ _ (LF [(0, sL j p0 l), (1, iv p1), (5, sL b g d), (6, iv v), (28, bV J)]) (LE [(8, ow b d 220 iL g)]) _
   refine ae (aa (aN rfl H (fun H => ?_) (fun H => ?_)))
   ·refine nS 12 (by kernel_rfl) (by kernel_rfl) (bU rfl (bU rfl (bU rfl ?_)))
    obtain ⟨A, a0, H⟩ := bnd H
    obtain ⟨O, P, Q⟩ := aF a0
    refine aY rfl (fun _ _ a c => ai oP (a.ev rfl) f.form (a.ev rfl) O P) (gH (ag qJ) rfl (aY rfl (fun _ _ a c => ah bQ (a.ev rfl) (aC.drop (oM iY f Q c) 0) rfl) (bU rfl (bU rfl ?_))))
    obtain ⟨B, a1, H⟩ := bnd H
    obtain ⟨S, T, V⟩ := aF a1
    refine aY rfl (fun _ _ a c => ai oP (a.ev rfl) f.form (a.ev rfl) S T) (gH (ag wS) rfl (aY rfl (fun _ _ a c => ah bQ (a.ev rfl) (aC.drop (oM iY f V c) 2) rfl) (xE (vs := [(0, iv A.X0), (1, iv B.X1)]) (cs := [iv A.X0, iv B.X1]) (wn rfl) rfl (bD rfl (bD rfl dL)) (by kernel_rfl) (iJ ?_))))
    obtain ⟨i, a2, H⟩ := bnd H
    refine jX [9] [emp] (U := (Option Addr × Nat)) (fun u => (sL u.1 i u.2)) (fun u => fC u.1 i.length u.2) (fun u => [ow u.1 u.2 220 iL i]) rfl (bA rfl bK) (fun _ => rfl) (wn rfl) rfl Tryz.call174 (ak rfl (ak rfl aQ)) (fun W hW hp hE => wG N g b d (hW.Qk (k := 8) rfl hp rfl) (jY.mk A.X0 B.X1) i a2 hE) ?_
    intro u hu
    obtain ⟨q, t⟩ := u
    have E := hu
    have C : fC q i.length t := E --@phi
    dsimp only
    exact Tr.k rfl (ae (aH (aa (aD (av rfl (az aZ rfl rfl (Tr.k rfl (ae (Jq 8 (zn 9 8 rfl rfl rfl (aB z (i, (bn (v + 1)), q, t) ⟨H, C⟩ (.r rfl) (.r rfl))))))))))))
   ·exact aK (aH (aa (aD (av rfl (az aZ rfl rfl (Tr.k rfl (ae (aB z (g, (bn (v + 1)), b, d) ⟨H, y⟩ (.r rfl) (.r rfl)))))))))
 ·refine bO (au (au (aM (aa (aj (av rfl (Tr.k rfl (ae (aa (bg ?_))))))))))
  obtain rfl := oI H
  exact Tr.out (m := [sL b g d]) [] (eU rfl dR) (fun W hW => ⟨(b, d), rfl, y, HF.xZ leB (hW.pick (ks := [8]) (by decide) (bA rfl bK)) ⟨pX _ _ _ _ DJ, trivial⟩⟩)

theorem uS (N : Nat) {w : Bs} (p0 : (List jY)) (b : Option Addr) (d : Nat) (f : Sl w.R w.W iL b d p0) (p1 : (List jY)) (g : Option Addr) (i : Nat) (j : Sl w.R w.W iL g i p1) (r : Bool) (H : jF N p0 p1 = some r) (hE : HF w w.W E0) : Calls Tryz.prog 173 [sL b p0 d, sL g p1 i].toArray w.W fun e W' => e = .returned (bV r) ∧ HF w W' E0 := by
 unfold jF at H
 have leB := Bs.Le.refl w
 refine bB (n := 26) Tryz.func173 rfl rfl rfl hE (aj (Tr.k rfl (ae (aa (ay (aj (av rfl (aU (bi vL) rfl (av rfl (aU (bi vL) rfl (az kW rfl rfl (ae (aa (aN rfl H (fun H => ?_) (fun H => ?_)))))))))))))))
 ·refine aj (Tr.k rfl (ae (aa (bg (aL ?_)))))
  obtain rfl := oI H
  exact dM leB
 ·refine aK (aa (ay (aj (Tr.k rfl (ae (aa (Tr.block (bT (σ := Int) (fun m w s => gy p0 p1 m s = some r) (fun s => [(0, sL b p0 d), (1, sL g p1 i), (5, iv s)]) (fun s => []) N 0 H (.r rfl) .nil (fun _ _ h => fU (h)) ?_))))))))
  intro w l E o hs
  have H := hs
  replace H : gy p0 p1 (E + 1) o = some r := H
  replace f := f.qG l
  replace j := j.qG l
  replace leB := leB.trans l
  rw [gy.eq_2] at H
  show Tr _ _ (LF [(0, sL b p0 d), (1, sL g p1 i), (5, iv o)]) (LE []) _
  refine ay (aj (av rfl (av rfl (aU (bi vL) rfl (az aX rfl rfl (ae (aa (aN rfl H (fun H => ?_) (fun H => ?_)))))))))
  ·refine aK (aa (ay (Tr.block (ay (iN (by kernel_rfl) (by kernel_rfl) (bU rfl (bU rfl ?_)))))))
   obtain ⟨q, C, H⟩ := bnd H
   obtain ⟨u, v, y⟩ := aF C
   refine aY rfl (fun _ _ a c => ai uJ (a.ev rfl) f.form (a.ev rfl) u v) (aY rfl (fun _ _ a c => aO (cs := [iv q.from_, iv q.to_]) Hq Ai (a.ev rfl) (aC.take (oM qV f y c) 2) rfl) (bU rfl (bU rfl ?_)))
   obtain ⟨t, D, H⟩ := bnd H
   obtain ⟨z, A, B⟩ := aF D
   refine aY rfl (fun _ _ a c => ai uJ (a.ev rfl) j.form (a.ev rfl) z A) (aY rfl (fun _ _ a c => aO (cs := [iv t.from_, iv t.to_]) Hq Ai (a.ev rfl) (aC.take (oM qV j B c) 2) rfl) (eP (Il q t) rfl rfl (iJ (aa (aN rfl H (fun H => ?_) (fun H => ?_))))))
   ·refine aj (Tr.k rfl (ae (aa (bg (cB (aL (aL (cB (aL ?_)))))))))
    obtain rfl := oI H
    exact dM leB
   ·exact aK (aH (aa (aD (av rfl (az aZ rfl rfl (Tr.k rfl (ae (aB l (bn (o + 1)) H (.r rfl) .nil))))))))
  ·refine bO (au (au (aM (aa (aj (Tr.k rfl (ae (aa (bg ?_)))))))))
   obtain rfl := oI H
   exact dM leB

theorem wm (N : Nat) {w : Bs} (p0 : (List bY)) (f : Option Addr) (g : Nat) (p1 : bY) (b : Option Addr) (d : Nat) (D : Sl w.O w.W iL b d p1.spans) (r : (List bY)) (H : ky N p0 p1 = some r) (hE : HF w w.W (kw [ow f g 173 dS p0])) : Calls Tryz.prog 122 [sL f p0 g, .agg #[iv p1.from_, iv p1.to_, sL b p1.spans d]].toArray w.W fun e W' => ∃ (w' : Bs) (u : (Option Addr × Nat)), w.Le w' ∧ e = .returned (sL u.1 r u.2) ∧ (fC u.1 r.length u.2) ∧ HF w' W' (kw [ow u.1 u.2 173 dS r]) := by
 unfold ky at H
 have h := (hE.sl (k := 0) rfl).form
 have leB := Bs.Le.refl w
 refine bB (n := 49) Tryz.func122 rfl rfl rfl hE (aj (jN 1 (cs := [iv p1.from_, iv p1.to_, sL b p1.spans d]) (wn rfl) rfl rfl rfl fun B => (Tr.k rfl (bS 2 173 dS ?_))))
 show Tr _ _ (uf _ 4 (sL none (([] : List bY)) 0)) _ _
 refine ae (aa (ay (aj (aU (ag xC) rfl (aP rfl (fun _ _ a c => ah Cs (a.ev rfl) (dZ c (vs := [iv p1.from_, iv p1.to_, sL b p1.spans d]) (k := 1) rfl 2) rfl) (aU (bi vL) rfl (az iW rfl rfl (ae (aa (aN rfl H (fun H => ?_) (fun H => ?_)))))))))))
 ·refine aj (av rfl (Tr.k rfl (ae (aa (bg (aL ?_))))))
  obtain rfl := oI H
  exact Tr.out (m := [sL f p0 g]) [] (eU rfl dR) (fun W hW => ⟨w, (f, g), leB, rfl, h, hW.pick (ks := [0]) (by decide) (bA rfl bK)⟩)
 ·refine aK (aa (ay (aj (av rfl (aU (bi JJ) rfl (Tr.k rfl (ae (aa (ay (iN (by kernel_rfl) (by kernel_rfl) (bU rfl (eP kX rfl rfl (bU rfl ?_)))))))))))))
  obtain ⟨J, o, H⟩ := bnd H
  refine oF 10 [(0, sL f p0 g), (3, pV B), (5, iv (p0.length : Int)), (25, bV J)] ?_ ?_
  ·cases s : (decide (0 < (p0.length : Int)))
   ·rw [s] at o
    rw [if_neg (by decide)] at o
    have H := o
    obtain rfl := oI H
    refine bq rfl (bq rfl (bq rfl (bq rfl (bq rfl (bq rfl (bq rfl ?_))))))
    exact bq rfl (bq rfl (eP bv rfl rfl (Tq.fin (.r rfl))))
   ·rw [s] at o
    rw [if_pos rfl] at o
    have H := o
    refine gN run_move rfl (gN run_move rfl (ou eu rfl rfl ?_))
    obtain ⟨b3, a5, H⟩ := bnd H
    obtain ⟨K, L, M⟩ := aF a5
    refine Tq.x (fun _ _ a c => ai zh (a.ev rfl) h (a.ev rfl) K L) (gN (ag Bg) rfl (Tq.x (fun _ _ a c => (HF.SS (k := 0) c rfl M).elim fun u hu => ah bQ (a.ev rfl) (hu.2.drop 1) rfl) (gN (ag IY) rfl (Tq.x (fun _ _ a c => ah bQ (a.ev rfl) (dZ c (vs := [iv p1.from_, iv p1.to_, sL b p1.spans d]) (k := 1) rfl 0) rfl) (ou iW rfl rfl (eP bC rfl rfl ?_))))))
    obtain rfl := oI H
    exact Tq.fin (.r rfl)
  ·refine bU rfl ?_
   obtain ⟨P, q, H⟩ := bnd H
   refine oF 10 [(0, sL f p0 g), (3, pV B), (5, iv (p0.length : Int)), (36, bV P)] ?_ ?_
   ·cases s : J
    ·rw [s] at q
     rw [if_neg (by decide)] at q
     have H := q
     obtain rfl := oI H
     refine bq rfl (bq rfl (bq rfl (bq rfl (bq rfl (bq rfl (bq rfl ?_))))))
     exact bq rfl (bq rfl (eP bv rfl rfl (Tq.fin (.r rfl))))
    ·rw [s] at q
     rw [if_pos rfl] at q
     have H := q
     refine gN run_move rfl (gN run_move rfl (ou eu rfl rfl ?_))
     obtain ⟨y, a6, H⟩ := bnd H
     obtain ⟨Q, S, T⟩ := aF a6
     refine Tq.x (fun _ _ a c => ai zh (a.ev rfl) h (a.ev rfl) Q S) (gN (ag xC) rfl (qb (U := (dS).Ad) (fun u => (dS).ok w.O w.W u y) (fun u => (sL u.1 y.spans u.2)) (wg rfl rfl rfl) rfl (BF (κ := 0) (t := dS) (V := fun u => (sL u.1 y.spans u.2)) rfl T (fun _ _ u a hc => ah Cs (a.ev rfl) (hc.drop 2) rfl)) ?_))
     intro b0 I
     obtain ⟨z, A⟩ := b0
     have j := I
     replace j : Sl w.O w.W iL z A y.spans := j
     dsimp only
     refine gN (ag xC) rfl (Tq.x (fun _ _ a c => ah Cs (a.ev rfl) (dZ c (vs := [iv p1.from_, iv p1.to_, sL b p1.spans d]) (k := 1) rfl 2) rfl) ?_)
     obtain ⟨X, a7, H⟩ := bnd H
     refine kR (r := (bV X)) (wg rfl rfl rfl) rfl Tryz.call173 (ak rfl (ak rfl aQ)) (fun W hW => uS N y.spans z A (j.rl.ext hW.dC) p1.spans b d (D.rl.ext hW.dC) X a7 (HF.start _)) (eP bC rfl rfl ?_)
     obtain rfl := oI H
     exact Tq.fin (.r rfl)
   ·refine iJ (aa (aN rfl H (fun H => ?_) (fun H => ?_)))
    ·refine aj (av rfl (av rfl (az eu rfl rfl (aU (ag Bg) rfl (aP rfl (fun _ _ a c => ah bQ (a.ev rfl) (dZ c (vs := [iv p1.from_, iv p1.to_, sL b p1.spans d]) (k := 1) rfl 1) rfl) ?_)))))
     obtain ⟨Z, a8, H⟩ := bnd H
     obtain ⟨a0, a1, a2⟩ := aF a8
     refine aP rfl (fun _ _ a c => ai zh (a.ev rfl) h (a.ev rfl) a0 a1) (aU (ag Bg) rfl ?_)
     obtain ⟨C, E, H⟩ := bnd H
     have v := nW E
     refine nZ 0 (t := dS) (l := p0) (i := (bn ((p0.length : Int) - 1))) (fo := 1) (cs := [iv p1.to_]) (bY.mk Z.from_ p1.to_ Z.spans) (wn rfl) rfl rfl rfl rfl rfl a2 zR rfl (fun u hu => ⟨u, hu, rfl⟩) rfl E ?_
     have a3 : fC f C.length g := by rw [v]; exact h
     have b2 := v.trans rfl
     refine Tr.wL (lf := [(0, sL f C g), (3, pV B), (5, iv (p0.length : Int)), (36, bV P), (37, sL f C g), (38, iv (p0.length : Int)), (39, iv (bn ((p0.length : Int) - 1))), (40, .pointer (some ⟨B, 1, none⟩)), (41, iv p1.to_)]) (le := [(0, ow f g 173 dS C), (1, bx B #[iv p1.from_, iv p1.to_, sL b p1.spans d] 173), (2, ow none 0 173 dS ([] : List bY))]) (.cons (eG rfl (by unfold sL; rw [v])) (.cons rfl (.cons rfl (.cons rfl (.cons (eG rfl (by unfold sL; rw [v])) (.r rfl)))))) (.r rfl) (ae (aa (aj (av rfl (Tr.k rfl (ae (aa (bg (aL ?_)))))))))
     obtain rfl := oI H
     exact Tr.out (m := [sL f C g]) [] (eU rfl dR) (fun W hW => ⟨w, (f, g), leB, rfl, a3, hW.pick (ks := [0]) (by decide) (bA rfl bK)⟩)
    ·refine aK (aa (aj (av rfl (aP rfl (fun _ _ a c => aO (cs := [iv p1.from_, iv p1.to_, sL b p1.spans d]) Rs Nj (a.ev rfl) (aC.take (dZ c (vs := [iv p1.from_, iv p1.to_, sL b p1.spans d]) (k := 1) rfl 0) 3) rfl) (dG 3 (e := 173) (vs := [(0, .agg #[iv p1.from_, iv p1.to_, sL b p1.spans d])]) (cs := [iv p1.from_, iv p1.to_, sL b p1.spans d]) (wn rfl) rfl (bD rfl dL) (by kernel_rfl) fun b4 => ?_)))))
     obtain ⟨b1, a9, H⟩ := bnd H
     refine Tr.append 0 (t := dS) (l := p0) (l2 := [p1]) (wn rfl) rfl rfl rfl rfl (fun W hW => ⟨[[iv p1.from_, iv p1.to_, sL b p1.spans d]], (.cons ⟨(b, d), D, rfl⟩ .nil), dZ hW (vs := [iv p1.from_, iv p1.to_, sL b p1.spans d]) (k := 3) rfl 0⟩) JJ Nj Qv (by decide) Ro rfl a9 fun F G a4 => (Tr.k rfl (ae (aa (bg ?_))))
     obtain rfl := oI H
     exact Tr.out (m := [sL F b1 G]) [] (eU rfl dR) (fun W hW => ⟨w, (F, G), leB, rfl, a4, hW.pick (ks := [0]) (by decide) (bA rfl bK)⟩)

theorem xM (N : Nat) {w : Bs} (p0 : (List bY)) (d : Option Addr) (i : Nat) (g : Sl w.R w.W dS d i p0) (r : (List aI)) (H : oZ N p0 = some r) (hE : HF w w.W (kw [emp])) : Calls Tryz.prog 124 [sL d p0 i].toArray w.W fun e W' => ∃ u : (Option Addr × Nat), e = .returned (sL u.1 r u.2) ∧ (fC u.1 r.length u.2) ∧ HF w W' (kw [ow u.1 u.2 38 bz r]) := by
 unfold oZ at H
 have leB := Bs.Le.refl w
 refine bB (n := 55) Tryz.func124 rfl rfl rfl hE (aj (Tr.k rfl (bS 1 38 bz ?_)))
 show Tr _ _ (uf _ 2 (sL none (([] : List aI)) 0)) _ _
 refine ae (aa (aj (Tr.k rfl (bS 2 38 bz ?_))))
 show Tr _ _ (uf _ 3 (sL none (([] : List aI)) 0)) _ _
 refine ae (aa (ay (aj (Tr.k rfl (ae (aa (Tr.block (bT (σ := (List aI) × Int × (Option Addr) × Nat) (fun m w s => fG N p0 m s.1 s.2.1 = some r ∧ fC s.2.2.1 s.1.length s.2.2.2) (fun s => [(0, sL d p0 i), (3, sL s.2.2.1 s.1 s.2.2.2), (4, iv s.2.1)]) (fun s => [(2, ow s.2.2.1 s.2.2.2 38 bz s.1)]) N (([] : List aI), 0, none, 0) ⟨H, iM⟩ (.r rfl) (.r rfl) (fun _ _ h => fU (h.1)) ?_))))))))
 intro w L a3 s hs
 obtain ⟨J, f, G, I⟩ := s
 obtain ⟨H, K⟩ := hs
 replace H : fG N p0 (a3 + 1) J f = some r := H
 replace g := g.qG L
 replace leB := leB.trans L
 replace K : fC G J.length I := K
 rw [fG.eq_2] at H
 dsimp only
 refine ay (aj (av rfl (av rfl (aU (bi JJ) rfl (az aX rfl rfl (ae (aa (aN rfl H (fun H => ?_) (fun H => ?_)))))))))
 ·refine aK (aa (ay (Tr.block (aj (Tr.k rfl (ae (aa (Tr.block (bT (σ := (List aI) × Int × (Option Addr) × Nat) (fun m w s => iI p0 f (fG N p0 a3) m s.1 s.2.1 = some r ∧ fC s.2.2.1 s.1.length s.2.2.2) (fun s => [(0, sL d p0 i), (3, sL s.2.2.1 s.1 s.2.2.2), (4, iv f), (5, iv s.2.1)]) (fun s => [(2, ow s.2.2.1 s.2.2.2 38 bz s.1)]) N (J, 0, G, I) ⟨H, K⟩ (.r rfl) (.r rfl) (fun _ _ h => fU (h.1)) ?_)))))))))
  intro w Q g6 s hs
  obtain ⟨F, j, B, C⟩ := s
  obtain ⟨H, P⟩ := hs
  replace H : iI p0 f (fG N p0 a3) (g6 + 1) F j = some r := H
  replace g := g.qG Q
  replace L := L.trans Q
  replace P : fC B F.length C := P
  rw [iI.eq_2] at H
  dsimp only
  refine ay (aj (av rfl (av rfl (av rfl ?_))))
  obtain ⟨S, e0, H⟩ := bnd H
  obtain ⟨a4, a5, a6⟩ := aF e0
  obtain ⟨f6, a7, U, a8⟩ := (g).el a6
  obtain ⟨V, X⟩ := f6
  have f3 := U
  refine aP rfl (fun _ _ a c => ai zh (a.ev rfl) g.form (a.ev rfl) a4 a5) (aU (ag xC) rfl (aP rfl (fun _ _ a c => ah Cs (a.ev rfl) (aC.drop (yM a7 a8 c) 2) rfl) (aU (bi vL) rfl (az aX rfl rfl (ae (aa (aN rfl H (fun H => ?_) (fun H => ?_))))))))
  ·refine aK (aa (ay (Tr.block ?_)))
   obtain ⟨a9, e3, H⟩ := bnd H
   obtain ⟨b0, b1, b2⟩ := aF e3
   obtain ⟨f7, b3, Z, b4⟩ := (g).el b2
   obtain ⟨z, M⟩ := f7
   have D := Z
   replace D : Sl w.R w.W iL z M a9.spans := D
   obtain ⟨o, e4, H⟩ := bnd H
   obtain ⟨b5, b6, b7⟩ := aF e4
   obtain ⟨q, e5, H⟩ := bnd H
   obtain ⟨b8, b9, c0⟩ := aF e5
   obtain ⟨f8, c3, a0, c4⟩ := (g).el c0
   obtain ⟨g2, g3⟩ := f8
   have f4 := a0
   obtain ⟨c5, e6, H⟩ := bnd H
   obtain ⟨c6, c7, c8⟩ := aF e6
   obtain ⟨f9, c9, a1, d0⟩ := (g).el c8
   obtain ⟨A, O⟩ := f9
   have E := a1
   replace E : Sl w.R w.W iL A O c5.spans := E
   obtain ⟨v, e7, H⟩ := bnd H
   obtain ⟨d1, d2, d3⟩ := aF e7
   obtain ⟨y, e8, H⟩ := bnd H
   obtain ⟨d4, d5, d6⟩ := aF e8
   obtain ⟨g0, d7, a2, d8⟩ := (g).el d6
   obtain ⟨g4, g5⟩ := g0
   have f5 := a2
   refine EX 31 [(30, .makeFunc (.func 0) #[] #[.tmp 51])] [(30, ⟨52, 11, .func (.func 0) #[] #[.agg #[iv o.from_, iv q.from_, iv v.to_, iv y.to_]], fun b => .slice (some ⟨b, 0, none⟩) 1 1, fun b => bx b #[iv o.from_, iv q.from_, iv v.to_, iv y.to_] 38⟩)] [(0, sL d p0 i), (3, sL B F C), (4, iv f), (5, iv j), (12, iv j), (13, sL d p0 i), (14, iv f), (15, .pointer (some ⟨nY d, pF d + (f).toNat * 3, none⟩)), (16, .pointer (some ⟨nY d, pF d + (f).toNat * 3 + 2, none⟩)), (17, sL V S.spans X), (18, iv (S.spans.length : Int)), (19, bV (decide (j < (S.spans.length : Int)))), (22, sL B F C), (23, sL d p0 i), (24, iv f), (25, .pointer (some ⟨nY d, pF d + (f).toNat * 3, none⟩)), (26, .pointer (some ⟨nY d, pF d + (f).toNat * 3 + 2, none⟩)), (27, sL z a9.spans M), (28, iv j), (29, .pointer (some ⟨nY z, pF z + (j).toNat * 2, none⟩)), (30, .pointer (some ⟨nY z, pF z + (j).toNat * 2 + 0, none⟩)), (31, iv o.from_), (32, sL d p0 i), (33, iv f), (34, .pointer (some ⟨nY d, pF d + (f).toNat * 3, none⟩)), (35, .pointer (some ⟨nY d, pF d + (f).toNat * 3 + 0, none⟩)), (36, iv q.from_), (37, sL d p0 i), (38, iv f), (39, .pointer (some ⟨nY d, pF d + (f).toNat * 3, none⟩)), (40, .pointer (some ⟨nY d, pF d + (f).toNat * 3 + 2, none⟩)), (41, sL A c5.spans O), (42, iv j), (43, .pointer (some ⟨nY A, pF A + (j).toNat * 2, none⟩)), (44, .pointer (some ⟨nY A, pF A + (j).toNat * 2 + 1, none⟩)), (45, iv v.to_), (46, sL d p0 i), (47, iv f), (48, .pointer (some ⟨nY d, pF d + (f).toNat * 3, none⟩)), (49, .pointer (some ⟨nY d, pF d + (f).toNat * 3 + 1, none⟩)), (50, iv y.to_), (51, .agg #[iv o.from_, iv q.from_, iv v.to_, iv y.to_]), (52, .func (.func 0) #[] #[.agg #[iv o.from_, iv q.from_, iv v.to_, iv y.to_]])] (by kernel_rfl) (by kernel_rfl) (by kernel_rfl) (by kernel_rfl) (by kernel_rfl) (by kernel_rfl) (by kernel_rfl) (ru (Kk (vs := [(0, .agg #[iv o.from_, iv q.from_, iv v.to_, iv y.to_])]) rfl rfl rfl (by kernel_rfl)) sK) (ru rfl sK) (ru rfl sK) ?_ ?_
   ·refine bU rfl (bU rfl (bU rfl (aY rfl (fun _ _ a c => ai zh (a.ev rfl) g.form (a.ev rfl) b0 b1) (gH (ag xC) rfl (aY rfl (fun _ _ a c => ah Cs (a.ev rfl) (aC.drop (yM b3 b4 c) 2) rfl) (bU rfl (aY rfl (fun _ _ a c => ai uJ (a.ev rfl) D.form (a.ev rfl) b5 b6) (gH (ag vV) rfl (aY rfl (fun _ _ a c => ah bQ (a.ev rfl) (aC.drop (oM qV D b7 c) 0) rfl) (bU rfl (bU rfl (aY rfl (fun _ _ a c => ai zh (a.ev rfl) g.form (a.ev rfl) b8 b9) (gH (ag IY) rfl (aY rfl (fun _ _ a c => ah bQ (a.ev rfl) (aC.drop (yM c3 c4 c) 0) rfl) (bU rfl (bU rfl (aY rfl (fun _ _ a c => ai zh (a.ev rfl) g.form (a.ev rfl) c6 c7) ?_)))))))))))))))))
    refine gH (ag xC) rfl (aY rfl (fun _ _ a c => ah Cs (a.ev rfl) (aC.drop (yM c9 d0 c) 2) rfl) (bU rfl (aY rfl (fun _ _ a c => ai uJ (a.ev rfl) E.form (a.ev rfl) d1 d2) (gH (ag vU) rfl (aY rfl (fun _ _ a c => ah bQ (a.ev rfl) (aC.drop (oM qV E d3 c) 1) rfl) (bU rfl (bU rfl (aY rfl (fun _ _ a c => ai zh (a.ev rfl) g.form (a.ev rfl) d4 d5) (gH (ag Bg) rfl (aY rfl (fun _ _ a c => ah bQ (a.ev rfl) (aC.drop (yM d7 d8 c) 1) rfl) (xE (vs := [(0, iv o.from_), (1, iv q.from_), (2, iv v.to_), (3, iv y.to_)]) (cs := [iv o.from_, iv q.from_, iv v.to_, iv y.to_]) (wn rfl) rfl (bD rfl (bD rfl (bD rfl (bD rfl dL)))) (by kernel_rfl) (Ct (vs := [.agg #[iv o.from_, iv q.from_, iv v.to_, iv y.to_]]) (wn rfl) rfl (ak rfl aQ) ?_))))))))))))
    exact Tq.fin (.r rfl)
   ·intro T
    refine Tr.wL (lf := [(0, sL d p0 i), (4, iv f), (5, iv j), (22, sL B F C), (52, .slice (some ⟨(T 30), 0, none⟩) 1 1)]) (le := [(2, ow B C 38 bz F), (11, bx (T 30) #[iv o.from_, iv q.from_, iv v.to_, iv y.to_] 38)]) (.r rfl) (.r rfl) ?_
    obtain ⟨g1, e9, H⟩ := bnd H
    exact Tr.append 2 (t := bz) (l := F) (l2 := [(aI.mk o.from_ q.from_ v.to_ y.to_)]) (wn rfl) rfl rfl rfl rfl (fun W hW => ⟨[[iv o.from_, iv q.from_, iv v.to_, iv y.to_]], (.cons ⟨(), trivial, rfl⟩ .nil), dZ hW (vs := [iv o.from_, iv q.from_, iv v.to_, iv y.to_]) (k := 11) rfl 0⟩) pR nV KN (by decide) L6 rfl e9 fun f1 f2 d9 => (Tr.k rfl (ae (aH (aa (aD (av rfl (az aZ rfl rfl (Tr.k rfl (ae (aB Q (g1, (bn (j + 1)), f1, f2) ⟨H, d9⟩ (.r rfl) (.r rfl)))))))))))
  ·exact bO (au (au (aM (aH (aa (aD (av rfl (az aZ rfl rfl (Tr.k rfl (ae (aB L (F, (bn (f + 1)), B, C) ⟨H, P⟩ (.r rfl) (.r rfl))))))))))))
 ·refine bO (au (au (aM (aa (aj (av rfl (Tr.k rfl (ae (aa (bg ?_))))))))))
  obtain rfl := oI H
  exact Tr.out (m := [sL G J I]) [] (eU rfl dR) (fun W hW => ⟨(G, I), rfl, K, HF.xZ leB (hW.pick (ks := [2]) (by decide) (bA rfl bK)) ⟨pX _ _ _ _ ql, trivial⟩⟩)

theorem uU (N : Nat) {w : Bs} (p0 : (List aI)) (v : Option Addr) (y : Nat) (C : Sl w.R w.W bz v y p0) (r : (List aI)) (H : jH N p0 = some r) (hE : HF w w.W (kw [emp])) : Calls Tryz.prog 81 [sL v p0 y].toArray w.W fun e W' => ∃ u : (Option Addr × Nat), e = .returned (sL u.1 r u.2) ∧ (fC u.1 r.length u.2) ∧ HF w W' (kw [ow u.1 u.2 38 bz r]) := by
 unfold jH at H
 have leB := Bs.Le.refl w
 refine bB (n := 35) Tryz.func81 rfl rfl rfl hE (aj (Tr.k rfl (bS 1 38 bz ?_)))
 show Tr _ _ (uf _ 2 (sL none (([] : List aI)) 0)) _ _
 refine ae (aa (aj (av rfl ?_)))
 obtain ⟨j, b1, H⟩ := bnd H
 refine jl [] [] (U := (Option Addr × Nat)) (fun u => (sL u.1 j u.2)) (fun O W u => Sl O W bL u.1 u.2 j) (fun u => []) rfl bK (fun _ => rfl) (wn rfl) rfl Tryz.call121 (ak rfl aQ) (fun W hW hp hE => wo N p0 v y (C.ext (hW.mQ hp)) j b1 hE) ?_
 intro w u S hu
 obtain ⟨d, f⟩ := u
 have V := hu
 replace C := C.qG S
 replace leB := leB.trans S
 have b : Sl w.O w.W bL d f j := V --@phi
 dsimp only
 refine Tr.k rfl (ae (aa (aj (Tr.k rfl (bS 2 173 dS ?_)))))
 show Tr _ _ (uf _ 4 (sL none (([] : List bY)) 0)) _ _
 refine ae (aa (ay (aj (Tr.k rfl (ae (aa (Tr.block (bT (σ := (List bY) × Int × (Option Addr) × Nat) (fun m w s => dD N p0 j m s.1 s.2.1 = some r ∧ fC s.2.2.1 s.1.length s.2.2.2) (fun s => [(0, sL v p0 y), (3, sL d j f), (4, sL s.2.2.1 s.1 s.2.2.2), (5, iv s.2.1)]) (fun s => [(2, ow s.2.2.1 s.2.2.2 173 dS s.1)]) N (([] : List bY), 1, none, 0) ⟨H, iM⟩ (.r rfl) (.r rfl) (fun _ _ h => fU (h.1)) ?_))))))))
 intro w z c3 s hs
 obtain ⟨I, l, D, E⟩ := s
 obtain ⟨H, c5⟩ := hs
 replace H : dD N p0 j (c3 + 1) I l = some r := H
 replace C := C.qG z
 replace b := b.le z
 replace leB := leB.trans z
 rw [dD.eq_2] at H
 dsimp only
 refine ay (aj (av rfl (av rfl (aU (bi nE) rfl (az aX rfl rfl (ae (aa (aN rfl H (fun H => ?_) (fun H => ?_)))))))))
 ·refine aK (aa (ay (Tr.block (oQ 18 [] [] (by kernel_rfl) (by kernel_rfl) fun c6 b8 c0 => (aV 0 [(14, sL D I E)] (by kernel_rfl) rfl rfl (by kernel_rfl) ?_ rfl rfl ?_)))))
  ·exact bU rfl (Tq.fin (.r rfl))
  refine aV 1 [(15, sL d j f)] (by kernel_rfl) rfl rfl (by kernel_rfl) ?_ rfl rfl ?_
  ·exact bU rfl (Tq.fin (.r rfl))
  refine aV 2 [(16, iv l)] (by kernel_rfl) rfl rfl (by kernel_rfl) ?_ rfl rfl ?_
  ·exact bU rfl (Tq.fin (.r rfl))
  refine aV 3 [(17, iv (bn (l - 1)))] (by kernel_rfl) rfl rfl (by kernel_rfl) ?_ rfl rfl ?_
  ·exact eP eu rfl rfl (Tq.fin (.r rfl))
  obtain ⟨J, b2, H⟩ := bnd H
  obtain ⟨a1, a2, a3⟩ := aF b2
  refine aV 4 [(18, .pointer (some ⟨nY d, pF d + ((bn (l - 1))).toNat * 1, none⟩))] (by kernel_rfl) rfl rfl (by kernel_rfl) ?_ rfl rfl ?_
  ·exact aY rfl (fun _ _ a c => ai lQ (a.ev rfl) b.form (a.ev rfl) a1 a2) (Tq.fin (.r rfl))
  refine aV 5 [(19, iv J)] (by kernel_rfl) rfl rfl (by kernel_rfl) ?_ rfl rfl ?_
  ·exact aY rfl (fun _ _ a c => ah bQ (a.ev rfl) (oM jM (b.rl) a3 c) rfl) (Tq.fin (.r rfl))
  refine aV 6 [(20, sL d j f)] (by kernel_rfl) rfl rfl (by kernel_rfl) ?_ rfl rfl ?_
  ·exact bU rfl (Tq.fin (.r rfl))
  refine aV 7 [(21, iv l)] (by kernel_rfl) rfl rfl (by kernel_rfl) ?_ rfl rfl ?_
  ·exact bU rfl (Tq.fin (.r rfl))
  obtain ⟨K, b3, H⟩ := bnd H
  obtain ⟨a4, a5, a6⟩ := aF b3
  refine aV 8 [(22, .pointer (some ⟨nY d, pF d + (l).toNat * 1, none⟩))] (by kernel_rfl) rfl rfl (by kernel_rfl) ?_ rfl rfl ?_
  ·exact aY rfl (fun _ _ a c => ai lQ (a.ev rfl) b.form (a.ev rfl) a4 a5) (Tq.fin (.r rfl))
  refine aV 9 [(23, iv K)] (by kernel_rfl) rfl rfl (by kernel_rfl) ?_ rfl rfl ?_
  ·exact aY rfl (fun _ _ a c => ah bQ (a.ev rfl) (oM jM (b.rl) a6 c) rfl) (Tq.fin (.r rfl))
  refine aV 10 [(24, sL v p0 y)] (by kernel_rfl) rfl rfl (by kernel_rfl) ?_ rfl rfl ?_
  ·exact bU rfl (Tq.fin (.r rfl))
  refine aV 11 [(25, sL d j f)] (by kernel_rfl) rfl rfl (by kernel_rfl) ?_ rfl rfl ?_
  ·exact bU rfl (Tq.fin (.r rfl))
  refine aV 12 [(26, iv l)] (by kernel_rfl) rfl rfl (by kernel_rfl) ?_ rfl rfl ?_
  ·exact bU rfl (Tq.fin (.r rfl))
  refine aV 13 [(27, iv (bn (l - 1)))] (by kernel_rfl) rfl rfl (by kernel_rfl) ?_ rfl rfl ?_
  ·exact eP eu rfl rfl (Tq.fin (.r rfl))
  obtain ⟨a7, b4, H⟩ := bnd H
  obtain ⟨a8, a9, b0⟩ := aF b4
  refine aV 14 [(28, .pointer (some ⟨nY d, pF d + ((bn (l - 1))).toNat * 1, none⟩))] (by kernel_rfl) rfl rfl (by kernel_rfl) ?_ rfl rfl ?_
  ·exact aY rfl (fun _ _ a c => ai lQ (a.ev rfl) b.form (a.ev rfl) a8 a9) (Tq.fin (.r rfl))
  refine aV 15 [(29, iv a7)] (by kernel_rfl) rfl rfl (by kernel_rfl) ?_ rfl rfl ?_
  ·exact aY rfl (fun _ _ a c => ah bQ (a.ev rfl) (oM jM (b.rl) b0 c) rfl) (Tq.fin (.r rfl))
  obtain ⟨o, b5, H⟩ := bnd H
  refine Dr.one 16 (by kernel_rfl) (Js 16 [5] [emp] (U := (Option Addr × Nat)) (fun u => (sL u.1 o u.2)) (fun u => fC u.1 o.length u.2) (fun u => [ow u.1 u.2 220 iL o]) rfl (bA rfl bK) (fun _ => rfl) (Db rfl) rfl (wn rfl) rfl Tryz.call123 (ak rfl (ak rfl aQ)) (fun W hW hp hE => sV N p0 v y (C.ext (hW.mQ hp)) a7 o b5 hE) ?_)
  intro u hu c4
  obtain ⟨g, i⟩ := u
  have X := hu
  have b9 : fC g o.length i := X
  dsimp only
  refine aV 17 [(31, .agg #[iv J, iv K, sL g o i])] (by kernel_rfl) rfl rfl (by kernel_rfl) ?_ rfl rfl ?_
  ·exact xE (vs := [(0, iv J), (1, iv K), (2, sL g o i)]) (cs := [iv J, iv K, sL g o i]) (wn rfl) rfl (bD rfl (bD rfl (bD rfl dL))) (by kernel_rfl) (Tq.fin (.r rfl))
  refine qN (by kernel_rfl) (Tr.freeze 5 rfl fun w T L => ?_)
  replace b := b.le T
  replace z := z.trans T
  obtain ⟨A, b6, H⟩ := bnd H
  refine jl [2] [ow D E 173 dS I] (U := (Option Addr × Nat)) (fun u => (sL u.1 A u.2)) (fun O W u => fC u.1 A.length u.2) (fun u => [ow u.1 u.2 173 dS A]) rfl (bA rfl bK) (fun _ => rfl) (wn rfl) rfl Tryz.call122 (ak rfl (ak rfl aQ)) (fun W hW hp hE => wm N I D E (bY.mk J K o) g i (L.Hd (hW.mQ hp)) A b6 hE) ?_
  intro w u M hu
  obtain ⟨F, G⟩ := u
  have Z := hu
  replace b := b.le M
  replace L := L.le M
  replace z := z.trans M
  have P : fC F A.length G := Z --@phi
  dsimp only
  exact Tr.k rfl (ae (aH (aa (aD (av rfl (az aZ rfl rfl (Tr.k rfl (ae (aB z (A, (bn (l + 1)), F, G) ⟨H, P⟩ (.r rfl) (.r rfl))))))))))
 ·refine bO (au (au (aM (aa (aj (av rfl ?_))))))
  obtain ⟨B, b7, H⟩ := bnd H
  refine jX [6] [emp] (U := (Option Addr × Nat)) (fun u => (sL u.1 B u.2)) (fun u => fC u.1 B.length u.2) (fun u => [ow u.1 u.2 38 bz B]) rfl (bA rfl bK) (fun _ => rfl) (wn rfl) rfl Tryz.call124 (ak rfl aQ) (fun W hW hp hE => xM N I D E (hW.Qk (k := 2) rfl hp rfl) B b7 hE) ?_
  intro u hu
  obtain ⟨q, t⟩ := u
  have a0 := hu
  have Q : fC q B.length t := a0 --@phi
  dsimp only
  refine Tr.k rfl (ae (aa (bg ?_)))
  obtain rfl := oI H
  exact Tr.out (m := [sL q B t]) [] (eU rfl dR) (fun W hW => ⟨(q, t), rfl, Q, HF.xZ leB (hW.pick (ks := [6]) (by decide) (bA rfl bK)) ⟨pX _ _ _ _ ql, trivial⟩⟩)

theorem uT (N : Nat) {w : Bs} (p0 : (List aI)) (b : Option Addr) (d : Nat) (f : Sl w.R w.W bz b d p0) (p1 : (List aI)) (g : Option Addr) (i : Nat) (j : Sl w.R w.W bz g i p1) (r : Bool) (H : jG N p0 p1 = some r) (hE : HF w w.W E0) : Calls Tryz.prog 22 [sL b p0 d, sL g p1 i].toArray w.W fun e W' => e = .returned (bV r) ∧ HF w W' E0 := by
 unfold jG at H
 have leB := Bs.Le.refl w
 refine bB (n := 26) Tryz.func22 rfl rfl rfl hE (aj (Tr.k rfl (ae (aa (ay (aj (av rfl (aU (bi pR) rfl (av rfl (aU (bi pR) rfl (az kW rfl rfl (ae (aa (aN rfl H (fun H => ?_) (fun H => ?_)))))))))))))))
 ·refine aj (Tr.k rfl (ae (aa (bg (aL ?_)))))
  obtain rfl := oI H
  exact dM leB
 ·refine aK (aa (ay (aj (Tr.k rfl (ae (aa (Tr.block (bT (σ := Int) (fun m w s => gz p0 p1 m s = some r) (fun s => [(0, sL b p0 d), (1, sL g p1 i), (5, iv s)]) (fun s => []) N 0 H (.r rfl) .nil (fun _ _ h => fU (h)) ?_))))))))
  intro w q E t hs
  have H := hs
  replace H : gz p0 p1 (E + 1) t = some r := H
  replace f := f.qG q
  replace j := j.qG q
  replace leB := leB.trans q
  rw [gz.eq_2] at H
  show Tr _ _ (LF [(0, sL b p0 d), (1, sL g p1 i), (5, iv t)]) (LE []) _
  refine ay (aj (av rfl (av rfl (aU (bi pR) rfl (az aX rfl rfl (ae (aa (aN rfl H (fun H => ?_) (fun H => ?_)))))))))
  ·refine aK (aa (ay (Tr.block (ay (iN (by kernel_rfl) (by kernel_rfl) (bU rfl (bU rfl ?_)))))))
   obtain ⟨l, C, H⟩ := bnd H
   obtain ⟨u, v, y⟩ := aF C
   refine aY rfl (fun _ _ a c => ai oP (a.ev rfl) f.form (a.ev rfl) u v) (aY rfl (fun _ _ a c => aO (cs := [iv l.X0, iv l.Y0, iv l.X1, iv l.Y1]) sP nV (a.ev rfl) (aC.take (oM iY f y c) 4) rfl) (bU rfl (bU rfl ?_)))
   obtain ⟨o, D, H⟩ := bnd H
   obtain ⟨z, A, B⟩ := aF D
   refine aY rfl (fun _ _ a c => ai oP (a.ev rfl) j.form (a.ev rfl) z A) (aY rfl (fun _ _ a c => aO (cs := [iv o.X0, iv o.Y0, iv o.X1, iv o.Y1]) sP nV (a.ev rfl) (aC.take (oM iY j B c) 4) rfl) (eP (D9 l o) rfl rfl (iJ (aa (aN rfl H (fun H => ?_) (fun H => ?_))))))
   ·refine aj (Tr.k rfl (ae (aa (bg (cB (aL (aL (cB (aL ?_)))))))))
    obtain rfl := oI H
    exact dM leB
   ·exact aK (aH (aa (aD (av rfl (az aZ rfl rfl (Tr.k rfl (ae (aB q (bn (t + 1)) H (.r rfl) .nil))))))))
  ·refine bO (au (au (aM (aa (aj (Tr.k rfl (ae (aa (bg ?_)))))))))
   obtain rfl := oI H
   exact dM leB

theorem tY (N : Nat) {w : Bs} (p0 : (List aI)) (d : Option Addr) (f : Nat) (b : Sl w.R w.W bz d f p0) (r : Int) (H : kr N p0 = some r) (hE : HF w w.W E0) : Calls Tryz.prog 36 [sL d p0 f].toArray w.W fun e W' => e = .returned (iv r) ∧ HF w W' E0 := by
 unfold kr at H
 have leB := Bs.Le.refl w
 refine bB (n := 32) Tryz.func36 rfl rfl rfl hE (aj (Tr.k rfl (ae (aa (ay (aj (av rfl ?_)))))))
 obtain ⟨y, I, H⟩ := bnd H
 refine dn (r := (iv y)) (wn rfl) rfl Tryz.call79 (ak rfl aQ) (fun W hW => uG N p0 d f (b.ext hW.dC) y I (HF.start _)) (Tr.k rfl (ae (aa (aj (av rfl (az kW rfl rfl (ae (aa (aN rfl H (fun H => ?_) (fun H => ?_))))))))))
 ·refine aj (av rfl (Tr.k rfl (ae (aa (bg (aL ?_))))))
  obtain rfl := oI H
  exact dM leB
 ·refine aK (aa (ay (aj (Tr.k rfl (ae (aa (Tr.block (bT (σ := Int) (fun m w s => di N p0 m s = some r) (fun s => [(0, sL d p0 f), (4, iv s)]) (fun s => []) N 1 H (.r rfl) .nil (fun _ _ h => fU (h)) ?_))))))))
  intro w q Q t hs
  have H := hs
  replace H : di N p0 (Q + 1) t = some r := H
  replace b := b.qG q
  replace leB := leB.trans q
  rw [di.eq_2] at H
  show Tr _ _ (LF [(0, sL d p0 f), (4, iv t)]) (LE []) _
  refine ay (aj (av rfl (av rfl (aU (bi pR) rfl (az aX rfl rfl (ae (aa (aN rfl H (fun H => ?_) (fun H => ?_)))))))))
  ·refine aK (aa (ay (Tr.block (ay (iN (by kernel_rfl) (by kernel_rfl) (bU rfl (bU rfl (eP eu rfl rfl ?_))))))))
   obtain ⟨l, J, H⟩ := bnd H
   obtain ⟨z, A, B⟩ := aF J
   refine aY rfl (fun _ _ a c => ai oP (a.ev rfl) b.form (a.ev rfl) z A) (aY rfl (fun _ _ a c => aO (cs := [iv l.X0, iv l.Y0, iv l.X1, iv l.Y1]) sP nV (a.ev rfl) (aC.take (oM iY b B c) 4) rfl) (bU rfl (bU rfl ?_)))
   obtain ⟨o, K, H⟩ := bnd H
   obtain ⟨C, D, E⟩ := aF K
   refine aY rfl (fun _ _ a c => ai oP (a.ev rfl) b.form (a.ev rfl) C D) (aY rfl (fun _ _ a c => aO (cs := [iv o.X0, iv o.Y0, iv o.X1, iv o.Y1]) sP nV (a.ev rfl) (aC.take (oM iY b E c) 4) rfl) ?_)
   obtain ⟨F, L, H⟩ := bnd H
   refine kR (r := (bV F)) (wn rfl) rfl Tryz.call80 (ak rfl (ak rfl aQ)) (fun W hW => wI l o F L (HF.start _)) (gH jP rfl (iJ (aa (aN rfl H (fun H => ?_) (fun H => ?_)))))
   ·refine aj (Tr.k rfl (ae (aa (bg (cB (aL (aL (cB (aL ?_)))))))))
    obtain rfl := oI H
    exact dM leB
   ·exact aK (aH (aa (aD (av rfl (az aZ rfl rfl (Tr.k rfl (ae (aB q (bn (t + 1)) H (.r rfl) .nil))))))))
  ·refine bO (au (au (aM (aa (ay (aj (av rfl (av rfl ?_))))))))
   obtain ⟨g, M, H⟩ := bnd H
   refine jX [1] [emp] (U := (Option Addr × Nat)) (fun u => (sL u.1 g u.2)) (fun u => fC u.1 g.length u.2) (fun u => [ow u.1 u.2 38 bz g]) rfl (bA rfl bK) (fun _ => rfl) (wn rfl) rfl Tryz.call81 (ak rfl aQ) (fun W hW hp hE => uU N p0 d f (b.ext (hW.mQ hp)) g M hE) ?_
   intro u hu
   obtain ⟨i, j⟩ := u
   have v := hu
   have P : fC i g.length j := v --@phi
   dsimp only
   obtain ⟨G, O, H⟩ := bnd H
   refine dn (r := (bV G)) (wn rfl) rfl Tryz.call22 (ak rfl (ak rfl aQ)) (fun W hW => uT N p0 d f (b.ext hW.dC) g i j (hW.sF (k := 1) rfl) G O (HF.start _)) (aU jP rfl (ae (aa (aN rfl H (fun H => ?_) (fun H => ?_)))))
   ·refine aj (Tr.k rfl (ae (aa (bg (aL ?_)))))
    obtain rfl := oI H
    exact dM leB
   ·refine aK (aa (aj (Tr.k rfl (ae (aa (bg ?_))))))
    obtain rfl := oI H
    exact dM leB

theorem wH (N : Nat) {w : Bs} (p0 : (List jY)) (b : Option Addr) (d : Nat) (f : Sl w.R w.W iL b d p0) (p1 : Int) (r : Bool) (H : nR N p0 p1 = some r) (hE : HF w w.W E0) : Calls Tryz.prog 175 [sL b p0 d, iv p1].toArray w.W fun e W' => e = .returned (bV r) ∧ HF w W' E0 := by
 unfold nR at H
 have leB := Bs.Le.refl w
 refine bB (n := 28) Tryz.func175 rfl rfl rfl hE (aj (Tr.k rfl (ae (aa (ay (aj (Tr.k rfl (ae (aa (Tr.block (bT (σ := Int) (fun m w s => iq p0 p1 m s = some r) (fun s => [(0, sL b p0 d), (1, iv p1), (5, iv s)]) (fun s => []) N 0 H (.r rfl) .nil (fun _ _ h => fU (h)) ?_)))))))))))
 intro w j D i hs
 have H := hs
 replace H : iq p0 p1 (D + 1) i = some r := H
 replace f := f.qG j
 replace leB := leB.trans j
 rw [iq.eq_2] at H
 show Tr _ _ (LF [(0, sL b p0 d), (1, iv p1), (5, iv i)]) (LE []) _
 refine ay (aj (av rfl (av rfl (aU (bi vL) rfl (az aX rfl rfl (ae (aa (aN rfl H (fun H => ?_) (fun H => ?_)))))))))
 ·refine aK (aa (ay (Tr.block (aj (av rfl (av rfl ?_))))))
  obtain ⟨C, A, H⟩ := bnd H
  obtain ⟨o, q, t⟩ := aF A
  refine aP rfl (fun _ _ a c => ai uJ (a.ev rfl) f.form (a.ev rfl) o q) (aU (ag vV) rfl (aP rfl (fun _ _ a c => ah bQ (a.ev rfl) (aC.drop (oM qV f t c) 0) rfl) (av rfl (az nk rfl rfl (av rfl ?_)))))
  obtain ⟨u, g, H⟩ := bnd H
  refine dW 8 [(0, sL b p0 d), (1, iv p1), (5, iv i), (27, bV u)] [] ?_ ?_
  ·cases l : (decide (C.from_ ≤ p1))
   ·rw [l] at g
    rw [if_neg (by decide)] at g
    have H := g
    obtain rfl := oI H
    refine aS rfl (aS rfl (aS rfl (aS rfl (aS rfl (aS rfl (aS rfl ?_))))))
    exact az bv rfl rfl (ae (bu (.r rfl) .nil))
   ·rw [l] at g
    rw [if_pos rfl] at g
    have H := g
    refine cz run_move rfl (cz run_move rfl (cz run_move rfl ?_))
    obtain ⟨E, B, H⟩ := bnd H
    obtain ⟨v, y, z⟩ := aF B
    refine Tr.x (fun _ _ a c => ai uJ (a.ev rfl) f.form (a.ev rfl) v y) (cz (ag vU) rfl (Tr.x (fun _ _ a c => ah bQ (a.ev rfl) (aC.drop (oM qV f z c) 1) rfl) (iZ aX rfl rfl (az bC rfl rfl ?_))))
    obtain rfl := oI H
    exact ae (bu (.r rfl) .nil)
  ·show Tr _ _ (LF [(0, sL b p0 d), (1, iv p1), (5, iv i), (27, bV u)]) (LE []) _
   refine ae (aa (aN rfl H (fun H => ?_) (fun H => ?_)))
   ·refine aj (Tr.k rfl (ae (aa (bg (cB (aL (aL (cB (aL ?_)))))))))
    obtain rfl := oI H
    exact dM leB
   ·exact aK (aH (aa (aD (av rfl (az aZ rfl rfl (Tr.k rfl (ae (aB j (bn (i + 1)) H (.r rfl) .nil))))))))
 ·refine bO (au (au (aM (aa (aj (Tr.k rfl (ae (aa (bg ?_)))))))))
  obtain rfl := oI H
  exact dM leB

theorem ww (N : Nat) {w : Bs} (p0 : (List aI)) (b : Option Addr) (E : Nat) (A : Sl w.R w.W bz b E p0) (r : rD) (H : lT N p0 = some r) (hE : HF w w.W (kw [emp])) : Calls Tryz.prog 125 [sL b p0 E].toArray w.W fun e W' => ∃ (w' : Bs) (u : (Option Addr × Nat) × (Option Addr × Nat) × (Option Addr × Nat)), w.Le w' ∧ e = .returned (.agg #[sL u.1.1 r.xs u.1.2, sL u.2.1.1 r.ys u.2.1.2, sL u.2.2.1 r.in_ u.2.2.2]) ∧ (Sl w'.O w'.W bL u.1.1 u.1.2 r.xs ∧ Sl w'.O w'.W bL u.2.1.1 u.2.1.2 r.ys ∧ fC u.2.2.1 r.in_.length u.2.2.2) ∧ HF w' W' (kw [ow u.2.2.1 u.2.2.2 126 nH r.in_]) := by
 unfold lT at H
 have leB := Bs.Le.refl w
 refine bB (n := 90) Tryz.func125 rfl rfl rfl hE (aj (Tr.alloc 1 (wn rfl) rfl JE fun M => (ae (aa (aj (Tr.alloc 2 (wn rfl) rfl JE fun D => (ae (aa (ay (aj (Tr.k rfl (ae (aa (Tr.block (bT (σ := (List Int) × (List Int) × Int × (Option Addr) × Nat × (Option Addr) × Nat) (fun m w s => gV N p0 m s.1 s.2.1 s.2.2.1 = some r ∧ Sl w.O w.W bL s.2.2.2.1 s.2.2.2.2.1 s.1 ∧ Sl w.O w.W bL s.2.2.2.2.2.1 s.2.2.2.2.2.2 s.2.1) (fun s => [(0, sL b p0 E), (2, pV M), (3, pV D), (4, iv s.2.2.1)]) (fun s => [(1, bx M #[.slice none 0 0, .slice none 0 0, .slice none 0 0] 177), (2, bx D #[sL s.2.2.2.1 s.1 s.2.2.2.2.1, sL s.2.2.2.2.2.1 s.2.1 s.2.2.2.2.2.2, .slice none 0 0] 177)]) N ([], [], 0, none, 0, none, 0) ⟨H, (Sl.nil _ _ _), (Sl.nil _ _ _)⟩ (.r rfl) (.r rfl) (fun _ _ h => fU (h.1)) ?_)))))))))))))))
 intro w V j3 s hs
 obtain ⟨f, q, K, d, g, j, o⟩ := s
 obtain ⟨H, S, J⟩ := hs
 replace H : gV N p0 (j3 + 1) f q K = some r := H
 replace A := A.qG V
 replace leB := leB.trans V
 replace S : Sl w.O w.W bL d g f := S
 replace J : Sl w.O w.W bL j o q := J
 rw [gV.eq_2] at H
 dsimp only
 refine ay (aj (av rfl (av rfl (aU (bi pR) rfl (az aX rfl rfl (ae (aa (aN rfl H (fun H => ?_) (fun H => ?_)))))))))
 ·refine aK (aa (ay (Tr.block (ay (oQ 13 [] [] (by kernel_rfl) (by kernel_rfl) fun j7 i6 j1 => (aV 0 [(15, pV D)] (by kernel_rfl) rfl rfl (by kernel_rfl) ?_ rfl rfl ?_))))))
  ·exact gH (ag sJ) rfl (Tq.fin (.r rfl))
  refine aV 1 [(16, sL d f g)] (by kernel_rfl) rfl rfl (by kernel_rfl) ?_ rfl rfl ?_
  ·exact aY rfl (fun _ _ a c => ah mU (a.ev rfl) (dZ c (vs := [sL d f g, sL j q o, .slice none 0 0]) (k := 2) rfl 0) rfl) (Tq.fin (.r rfl))
  refine aV 2 [(17, sL b p0 E)] (by kernel_rfl) rfl rfl (by kernel_rfl) ?_ rfl rfl ?_
  ·exact bU rfl (Tq.fin (.r rfl))
  refine aV 3 [(18, iv K)] (by kernel_rfl) rfl rfl (by kernel_rfl) ?_ rfl rfl ?_
  ·exact bU rfl (Tq.fin (.r rfl))
  obtain ⟨d5, g9, H⟩ := bnd H
  obtain ⟨d6, d7, d8⟩ := aF g9
  refine aV 4 [(19, .pointer (some ⟨nY b, pF b + (K).toNat * 4, none⟩))] (by kernel_rfl) rfl rfl (by kernel_rfl) ?_ rfl rfl ?_
  ·exact aY rfl (fun _ _ a c => ai oP (a.ev rfl) A.form (a.ev rfl) d6 d7) (Tq.fin (.r rfl))
  refine aV 5 [(20, .pointer (some ⟨nY b, pF b + (K).toNat * 4 + 0, none⟩))] (by kernel_rfl) rfl rfl (by kernel_rfl) ?_ rfl rfl ?_
  ·exact gH (ag qJ) rfl (Tq.fin (.r rfl))
  refine aV 6 [(21, iv d5.X0)] (by kernel_rfl) rfl rfl (by kernel_rfl) ?_ rfl rfl ?_
  ·exact aY rfl (fun _ _ a c => ah bQ (a.ev rfl) (aC.drop (oM iY A d8 c) 0) rfl) (Tq.fin (.r rfl))
  refine aV 8 [(23, sL b p0 E)] (by kernel_rfl) rfl rfl (by kernel_rfl) ?_ rfl rfl ?_
  ·exact bU rfl (Tq.fin (.r rfl))
  refine aV 9 [(24, iv K)] (by kernel_rfl) rfl rfl (by kernel_rfl) ?_ rfl rfl ?_
  ·exact bU rfl (Tq.fin (.r rfl))
  obtain ⟨d9, h0, H⟩ := bnd H
  obtain ⟨e0, e3, e4⟩ := aF h0
  refine aV 10 [(25, .pointer (some ⟨nY b, pF b + (K).toNat * 4, none⟩))] (by kernel_rfl) rfl rfl (by kernel_rfl) ?_ rfl rfl ?_
  ·exact aY rfl (fun _ _ a c => ai oP (a.ev rfl) A.form (a.ev rfl) e0 e3) (Tq.fin (.r rfl))
  refine aV 11 [(26, .pointer (some ⟨nY b, pF b + (K).toNat * 4 + 2, none⟩))] (by kernel_rfl) rfl rfl (by kernel_rfl) ?_ rfl rfl ?_
  ·exact gH (ag wS) rfl (Tq.fin (.r rfl))
  refine aV 12 [(27, iv d9.X1)] (by kernel_rfl) rfl rfl (by kernel_rfl) ?_ rfl rfl ?_
  ·exact aY rfl (fun _ _ a c => ah bQ (a.ev rfl) (aC.drop (oM iY A e4 c) 2) rfl) (Tq.fin (.r rfl))
  obtain ⟨a7, h1, H⟩ := bnd H
  refine Dr.one 7 (by kernel_rfl) (EY 7 [] [] (U := (Option Addr × Nat)) (fun u => (sL u.1 a7 u.2)) (fun O W u => Sl O W bL u.1 u.2 a7) (fun u => []) rfl bK (fun _ => rfl) (Db rfl) rfl (wn rfl) rfl Tryz.call172 (ak rfl (ak rfl aQ)) (fun W hW hp hE => kQ N f d g (S.Hd (hW.mQ hp)) d5.X0 a7 h1 hE) ?_)
  intro w u b9 hu j4
  obtain ⟨a8, a9⟩ := u
  have d0 := hu
  replace A := A.qG b9
  replace J := J.le b9
  replace V := V.trans b9
  have L : Sl w.O w.W bL a8 a9 a7 := d0
  dsimp only
  refine qN (by kernel_rfl) ?_
  obtain ⟨Z, h2, H⟩ := bnd H
  refine jl [] [] (U := (Option Addr × Nat)) (fun u => (sL u.1 Z u.2)) (fun O W u => Sl O W bL u.1 u.2 Z) (fun u => []) rfl bK (fun _ => rfl) (wn rfl) rfl Tryz.call172 (ak rfl (ak rfl aQ)) (fun W hW hp hE => kQ N a7 a8 a9 (L.Hd (hW.mQ hp)) d9.X1 Z h2 hE) ?_
  intro w u b3 hu
  obtain ⟨P, Q⟩ := u
  have d1 := hu
  replace A := A.qG b3
  replace J := J.le b3
  replace L := L.le b3
  replace V := V.trans b3
  have X : Sl w.O w.W bL P Q Z := d1 --@phi
  dsimp only
  refine aU (ag sJ) rfl (dm 2 (cs := [sL P Z Q]) [sL P Z Q, sL j q o, .slice none 0 0] (wn rfl) rfl rfl rfl rfl KX rfl rfl rfl (ae (aa (oQ 13 [] [] (by kernel_rfl) (by kernel_rfl) fun j8 i7 j2 => (aV 0 [(30, .pointer (some ⟨D, 1, none⟩))] (by kernel_rfl) rfl rfl (by kernel_rfl) ?_ rfl rfl ?_)))))
  ·exact gH (ag xB) rfl (Tq.fin (.r rfl))
  refine aV 1 [(31, sL j q o)] (by kernel_rfl) rfl rfl (by kernel_rfl) ?_ rfl rfl ?_
  ·exact aY rfl (fun _ _ a c => ah mU (a.ev rfl) (dZ c (vs := [sL P Z Q, sL j q o, .slice none 0 0]) (k := 2) rfl 1) rfl) (Tq.fin (.r rfl))
  refine aV 2 [(32, sL b p0 E)] (by kernel_rfl) rfl rfl (by kernel_rfl) ?_ rfl rfl ?_
  ·exact bU rfl (Tq.fin (.r rfl))
  refine aV 3 [(33, iv K)] (by kernel_rfl) rfl rfl (by kernel_rfl) ?_ rfl rfl ?_
  ·exact bU rfl (Tq.fin (.r rfl))
  obtain ⟨e5, h3, H⟩ := bnd H
  obtain ⟨e6, e7, e8⟩ := aF h3
  refine aV 4 [(34, .pointer (some ⟨nY b, pF b + (K).toNat * 4, none⟩))] (by kernel_rfl) rfl rfl (by kernel_rfl) ?_ rfl rfl ?_
  ·exact aY rfl (fun _ _ a c => ai oP (a.ev rfl) A.form (a.ev rfl) e6 e7) (Tq.fin (.r rfl))
  refine aV 5 [(35, .pointer (some ⟨nY b, pF b + (K).toNat * 4 + 1, none⟩))] (by kernel_rfl) rfl rfl (by kernel_rfl) ?_ rfl rfl ?_
  ·exact gH (ag nO) rfl (Tq.fin (.r rfl))
  refine aV 6 [(36, iv e5.Y0)] (by kernel_rfl) rfl rfl (by kernel_rfl) ?_ rfl rfl ?_
  ·exact aY rfl (fun _ _ a c => ah bQ (a.ev rfl) (aC.drop (oM iY A e8 c) 1) rfl) (Tq.fin (.r rfl))
  refine aV 8 [(38, sL b p0 E)] (by kernel_rfl) rfl rfl (by kernel_rfl) ?_ rfl rfl ?_
  ·exact bU rfl (Tq.fin (.r rfl))
  refine aV 9 [(39, iv K)] (by kernel_rfl) rfl rfl (by kernel_rfl) ?_ rfl rfl ?_
  ·exact bU rfl (Tq.fin (.r rfl))
  obtain ⟨e9, h4, H⟩ := bnd H
  obtain ⟨f1, f2, f3⟩ := aF h4
  refine aV 10 [(40, .pointer (some ⟨nY b, pF b + (K).toNat * 4, none⟩))] (by kernel_rfl) rfl rfl (by kernel_rfl) ?_ rfl rfl ?_
  ·exact aY rfl (fun _ _ a c => ai oP (a.ev rfl) A.form (a.ev rfl) f1 f2) (Tq.fin (.r rfl))
  refine aV 11 [(41, .pointer (some ⟨nY b, pF b + (K).toNat * 4 + 3, none⟩))] (by kernel_rfl) rfl rfl (by kernel_rfl) ?_ rfl rfl ?_
  ·exact gH (ag vk) rfl (Tq.fin (.r rfl))
  refine aV 12 [(42, iv e9.Y1)] (by kernel_rfl) rfl rfl (by kernel_rfl) ?_ rfl rfl ?_
  ·exact aY rfl (fun _ _ a c => ah bQ (a.ev rfl) (aC.drop (oM iY A f3 c) 3) rfl) (Tq.fin (.r rfl))
  obtain ⟨b0, h5, H⟩ := bnd H
  refine Dr.one 7 (by kernel_rfl) (EY 7 [] [] (U := (Option Addr × Nat)) (fun u => (sL u.1 b0 u.2)) (fun O W u => Sl O W bL u.1 u.2 b0) (fun u => []) rfl bK (fun _ => rfl) (Db rfl) rfl (wn rfl) rfl Tryz.call172 (ak rfl (ak rfl aQ)) (fun W hW hp hE => kQ N q j o (J.Hd (hW.mQ hp)) e5.Y0 b0 h5 hE) ?_)
  intro w u c0 hu j5
  obtain ⟨b1, b2⟩ := u
  have d2 := hu
  replace X := X.le c0
  replace L := L.le c0
  replace V := V.trans c0
  have a6 : Sl w.O w.W bL b1 b2 b0 := d2
  dsimp only
  refine qN (by kernel_rfl) ?_
  obtain ⟨a4, h6, H⟩ := bnd H
  refine jl [] [] (U := (Option Addr × Nat)) (fun u => (sL u.1 a4 u.2)) (fun O W u => Sl O W bL u.1 u.2 a4) (fun u => []) rfl bK (fun _ => rfl) (wn rfl) rfl Tryz.call172 (ak rfl (ak rfl aQ)) (fun W hW hp hE => kQ N b0 b1 b2 (a6.Hd (hW.mQ hp)) e9.Y1 a4 h6 hE) ?_
  intro w u b4 hu
  obtain ⟨a1, a2⟩ := u
  have d3 := hu
  replace X := X.le b4
  replace L := L.le b4
  replace a6 := a6.le b4
  replace V := V.trans b4
  have c6 : Sl w.O w.W bL a1 a2 a4 := d3 --@phi
  dsimp only
  exact aU (ag xB) rfl (dm 2 (cs := [sL a1 a4 a2]) [sL P Z Q, sL a1 a4 a2, .slice none 0 0] (wn rfl) rfl rfl rfl rfl KX rfl rfl rfl (ae (aH (aa (aD (av rfl (az aZ rfl rfl (Tr.k rfl (ae (aB V (Z, a4, (bn (K + 1)), P, Q, a1, a2) ⟨H, X, c6⟩ (.r rfl) (.r rfl)))))))))))
 ·refine bO (au (au (aM (aa (ay (aj (Tr.k rfl (ae (aa (Tr.block (bS 13 126 nH (bT (σ := (List (List Bool)) × Int × (Option Addr) × Nat) (fun m w s => dw N p0 f q m s.1 s.2.1 = some r ∧ fC s.2.2.1 s.1.length s.2.2.2) (fun s => [(0, sL b p0 E), (2, pV M), (3, pV D), (5, iv s.2.1)]) (fun s => [(1, bx M #[.slice none 0 0, .slice none 0 0, .slice none 0 0] 177), (2, bx D #[sL d f g, sL j q o, sL s.2.2.1 s.1 s.2.2.2] 177), (13, ow s.2.2.1 s.2.2.2 126 nH s.1)]) N (([] : List (List Bool)), 1, none, 0) ⟨H, iM⟩ (.r rfl) (.r rfl) (fun _ _ h => fU (h.1)) ?_))))))))))))
  intro w a3 f4 s hs
  obtain ⟨z, a5, v, y⟩ := s
  obtain ⟨H, c3⟩ := hs
  replace H : dw N p0 f q (f4 + 1) z a5 = some r := H
  replace A := A.qG a3
  replace S := S.le a3
  replace J := J.le a3
  replace leB := leB.trans a3
  replace c3 : fC v z.length y := c3
  rw [dw.eq_2] at H
  dsimp only
  refine ay (aj (av rfl (aU (ag xB) rfl (aP rfl (fun _ _ a c => ah mU (a.ev rfl) (dZ c (vs := [sL d f g, sL j q o, sL v z y]) (k := 2) rfl 1) rfl) (aU (bi nE) rfl (az aX rfl rfl (ae (aa (aN rfl H (fun H => ?_) (fun H => ?_))))))))))
  ·refine aK (aa (ay (Tr.block (aj (av rfl (aU (ag xB) rfl (aP rfl (fun _ _ a c => ah mU (a.ev rfl) (dZ c (vs := [sL d f g, sL j q o, sL v z y]) (k := 2) rfl 1) rfl) (av rfl (az eu rfl rfl ?_)))))))))
   obtain ⟨i8, h7, H⟩ := bnd H
   obtain ⟨f5, f6, f7⟩ := aF h7
   refine aP rfl (fun _ _ a c => ai lQ (a.ev rfl) J.form (a.ev rfl) f5 f6) (aP rfl (fun _ _ a c => ah bQ (a.ev rfl) (oM jM (J.rl) f7 c) rfl) ?_)
   obtain ⟨F, h8, H⟩ := bnd H
   refine jX [14] [emp] (U := (Option Addr × Nat)) (fun u => (sL u.1 F u.2)) (fun u => fC u.1 F.length u.2) (fun u => [ow u.1 u.2 220 iL F]) rfl (bA rfl bK) (fun _ => rfl) (wn rfl) rfl Tryz.call123 (ak rfl (ak rfl aQ)) (fun W hW hp hE => sV N p0 b E (A.ext (hW.mQ hp)) i8 F h8 hE) ?_
   intro u hu
   obtain ⟨B, C⟩ := u
   have d4 := hu
   have i9 : fC B F.length C := d4 --@phi
   dsimp only
   refine Tr.k rfl (ae (aa (aj (aU (ag sJ) rfl (aP rfl (fun _ _ a c => ah mU (a.ev rfl) (dZ c (vs := [sL d f g, sL j q o, sL v z y]) (k := 2) rfl 0) rfl) (aU (bi nE) rfl ?_))))))
   obtain ⟨f8, h9, H⟩ := bnd H
   refine yj 15 lF false (wn rfl) rfl rfl rfl JK Ml rfl Qx Rn rfl ⟨(), fun _ _ => Gw _ _ _ _, rfl⟩ h9 fun j0 f9 => (Tr.k rfl (ae (aa (ay (aj (Tr.k rfl (ae (aa (Tr.block (bT (σ := (List Bool) × Int × (Option Addr) × Nat) (fun m w s => gm N f z a5 (dw N p0 f q f4) F m s.1 s.2.1 = some r ∧ fC s.2.2.1 s.1.length s.2.2.2) (fun s => [(0, sL b p0 E), (2, pV M), (3, pV D), (5, iv a5), (6, sL B F C), (7, sL s.2.2.1 s.1 s.2.2.2), (8, iv s.2.1)]) (fun s => [(1, bx M #[.slice none 0 0, .slice none 0 0, .slice none 0 0] 177), (2, bx D #[sL d f g, sL j q o, sL v z y] 177), (13, ow v y 126 nH z), (14, ow B C 220 iL F), (15, ow s.2.2.1 s.2.2.2 4 lF s.1)]) N (f8, 1, (some ⟨j0, 0, none⟩), f8.length) ⟨H, f9⟩ (.r rfl) (.r rfl) (fun _ _ h => fU (h.1)) ?_))))))))))
   intro w c7 j6 s hs
   obtain ⟨a0, T, G, I⟩ := s
   obtain ⟨H, b5⟩ := hs
   replace H : gm N f z a5 (dw N p0 f q f4) F (j6 + 1) a0 T = some r := H
   replace S := S.le c7
   replace a3 := a3.trans c7
   replace b5 : fC G a0.length I := b5
   rw [gm.eq_2] at H
   dsimp only
   refine ay (aj (av rfl (aU (ag sJ) rfl (aP rfl (fun _ _ a c => ah mU (a.ev rfl) (dZ c (vs := [sL d f g, sL j q o, sL v z y]) (k := 2) rfl 0) rfl) (aU (bi nE) rfl (az aX rfl rfl (ae (aa (aN rfl H (fun H => ?_) (fun H => ?_))))))))))
   ·refine aK (aa (ay (Tr.block (aD (av rfl (av rfl (az eu rfl rfl (av rfl (aU (ag sJ) rfl (aP rfl (fun _ _ a c => ah mU (a.ev rfl) (dZ c (vs := [sL d f g, sL j q o, sL v z y]) (k := 2) rfl 0) rfl) (av rfl (az eu rfl rfl ?_))))))))))))
    obtain ⟨g0, i0, H⟩ := bnd H
    obtain ⟨g1, g2, g3⟩ := aF i0
    refine aP rfl (fun _ _ a c => ai lQ (a.ev rfl) S.form (a.ev rfl) g1 g2) (aP rfl (fun _ _ a c => ah bQ (a.ev rfl) (oM jM (S.rl) g3 c) rfl) ?_)
    obtain ⟨b6, i1, H⟩ := bnd H
    refine dn (r := (bV b6)) (wn rfl) rfl Tryz.call175 (ak rfl (ak rfl aQ)) (fun W hW => wH N F B C (hW.sF (k := 14) rfl) g0 b6 i1 (HF.start _)) ?_
    obtain ⟨j9, i2, H⟩ := bnd H
    obtain ⟨g4, g5, g6⟩ := aF i2
    refine aP rfl (fun _ _ a c => ai yh (a.ev rfl) b5 (a.ev rfl) g4 g5) ?_
    obtain ⟨b7, c9, H⟩ := bnd H
    have b8 := nW c9
    refine nZ 15 (t := lF) (l := a0) (i := (bn (T - 1))) (fo := 0) (cs := [bV b6]) b6 (wn rfl) rfl rfl rfl rfl rfl g6 Ml rfl (fun u _ => ⟨u, trivial, rfl⟩) rfl c9 ?_
    have g7 : fC G b7.length I := by rw [b8]; exact b5
    exact Tr.wL (lf := [(0, sL b p0 E), (2, pV M), (3, pV D), (5, iv a5), (6, sL B F C), (7, sL G b7 I), (8, iv T), (64, iv T), (65, pV D), (66, sL d f g), (67, iv (f.length : Int)), (68, bV (decide (T < (f.length : Int)))), (71, sL G b7 I), (72, iv T), (73, iv (bn (T - 1))), (74, sL B F C), (75, pV D), (76, sL d f g), (77, iv T), (78, iv (bn (T - 1))), (79, .pointer (some ⟨nY d, pF d + ((bn (T - 1))).toNat * 1, none⟩)), (80, iv g0), (81, bV b6)]) (le := [(1, bx M #[.slice none 0 0, .slice none 0 0, .slice none 0 0] 177), (2, bx D #[sL d f g, sL j q o, sL v z y] 177), (13, ow v y 126 nH z), (14, ow B C 220 iL F), (15, ow G I 4 lF b7)]) (.cons rfl (.cons rfl (.cons rfl (.cons rfl (.cons rfl (.cons (eG rfl (by unfold sL; rw [b8])) (.cons rfl (.cons rfl (.cons rfl (.cons rfl (.cons rfl (.cons rfl (.cons (eG rfl (by unfold sL; rw [b8])) (.r rfl)))))))))))))) (.r rfl) (ae (aH (aa (aD (av rfl (az aZ rfl rfl (Tr.k rfl (ae (aB c7 (b7, (bn (T + 1)), G, I) ⟨H, g7⟩ (.r rfl) (.r rfl))))))))))
   ·refine bO (au (au (aM (aa (aD (aU (ag xA) rfl (aP rfl (fun _ _ a c => ah EU (a.ev rfl) (dZ c (vs := [sL d f g, sL j q o, sL v z y]) (k := 2) rfl 2) rfl) (av rfl (Tr.freeze 15 rfl fun w i3 i4 => ?_)))))))))
    replace a3 := a3.trans i3
    refine dG 16 (e := 126) (vs := [(0, sL G a0 I)]) (cs := [sL G a0 I]) (wn rfl) rfl (bD rfl dL) (by kernel_rfl) fun k0 => ?_
    obtain ⟨c8, i5, H⟩ := bnd H
    exact Tr.append 13 (t := nH) (l := z) (l2 := [a0]) (wn rfl) rfl rfl rfl rfl (fun W hW => ⟨[[sL G a0 I]], (.cons ⟨(G, I), i4, rfl⟩ .nil), dZ hW (vs := [sL G a0 I]) (k := 16) rfl 0⟩) JI Nk Qw (by decide) Rp rfl i5 fun c4 c5 g8 => (aU (ag xA) rfl (dm 2 (cs := [sL c4 c8 c5]) [sL d f g, sL j q o, sL c4 c8 c5] (wn rfl) rfl rfl rfl rfl QH rfl rfl rfl (ae (aH (aa (aD (av rfl (az aZ rfl rfl (Tr.k rfl (ae (aB a3 (c8, (bn (a5 + 1)), c4, c5) ⟨H, g8⟩ (.r rfl) (.r rfl))))))))))))
  ·refine bO (au (au (aM (aa (aj (aP rfl (fun _ _ a c => aO (cs := [sL d f g, sL j q o, sL v z y]) Cr yS (a.ev rfl) (aC.take (dZ c (vs := [sL d f g, sL j q o, sL v z y]) (k := 2) rfl 0) 3) rfl) (dm 1 (cs := [sL d f g, sL j q o, sL v z y]) [sL d f g, sL j q o, sL v z y] (wn rfl) rfl rfl rfl rfl yS rfl rfl rfl (ae (aa (bg ?_))))))))))
   obtain rfl := oI H
   exact Tr.out (m := [.agg #[sL d f g, sL j q o, sL v z y]]) [1] (rG rfl rfl Cr yS dR) (fun W hW => ⟨w, ((d, g), (j, o), (v, y)), leB, rfl, ⟨S, J, c3⟩, hW.pick (ks := [13]) (by decide) (bA rfl bK)⟩)

theorem lc {w : Bs} (p0 : rD) (b : Option Addr) (d : Nat) (M : Sl w.R w.W bL b d p0.xs) (f : Option Addr) (g : Nat) (N : Sl w.R w.W bL f g p0.ys) (h : Option Addr) (i : Nat) (s : Sl w.R w.W nH h i p0.in_) (p1 : Int) (p2 : Int) (r : Bool) (H : gU p0 p1 p2 = some r) (hE : HF w w.W E0) : Calls Tryz.prog 126 [.agg #[sL b p0.xs d, sL f p0.ys g, sL h p0.in_ i], iv p1, iv p2].toArray w.W fun e W' => e = .returned (bV r) ∧ HF w W' E0 := by
 unfold gU at H
 have leB := Bs.Le.refl w
 refine bB (n := 38) Tryz.func126 rfl rfl rfl hE (aj (jN 1 (cs := [sL b p0.xs d, sL f p0.ys g, sL h p0.in_ i]) (wn rfl) rfl rfl rfl fun j => (Tr.k rfl (ae (aa (aj (av rfl (az tZ rfl rfl (av rfl (dW 6 [(1, iv p1), (2, iv p2), (3, pV j), (15, bV ((decide (0 ≤ p2)) && (decide (p2 < (p0.in_.length : Int)))))] [(1, bx j #[sL b p0.xs d, sL f p0.ys g, sL h p0.in_ i] 177)] ?_ ?_))))))))))
 ·cases q : (decide (0 ≤ p2))
  ·exact aS rfl (aS rfl (aS rfl (aS rfl (aS rfl (az bv rfl rfl (ae (bu (.r rfl) (.r rfl))))))))
  ·exact cz run_move rfl (cz (ag xA) rfl (Tr.x (fun _ _ a c => ah EU (a.ev rfl) (dZ c (vs := [sL b p0.xs d, sL f p0.ys g, sL h p0.in_ i]) (k := 1) rfl 2) rfl) (cz (bi JI) rfl (iZ aX rfl rfl (az bC rfl rfl (ae (bu (.r rfl) (.r rfl))))))))
 ·show Tr _ _ (LF [(1, iv p1), (2, iv p2), (3, pV j), (15, bV ((decide (0 ≤ p2)) && (decide (p2 < (p0.in_.length : Int)))))]) (LE [(1, bx j #[sL b p0.xs d, sL f p0.ys g, sL h p0.in_ i] 177)]) _
  refine av rfl (dW 3 [(1, iv p1), (2, iv p2), (3, pV j), (19, bV (((decide (0 ≤ p2)) && (decide (p2 < (p0.in_.length : Int)))) && (decide (0 ≤ p1))))] [(1, bx j #[sL b p0.xs d, sL f p0.ys g, sL h p0.in_ i] 177)] ?_ ?_)
  ·cases q : ((decide (0 ≤ p2)) && (decide (p2 < (p0.in_.length : Int))))
   ·exact aS rfl (aS rfl (az bv rfl rfl (ae (bu (.r rfl) (.r rfl)))))
   ·exact cz run_move rfl (iZ tZ rfl rfl (az bC rfl rfl (ae (bu (.r rfl) (.r rfl)))))
  ·show Tr _ _ (LF [(1, iv p1), (2, iv p2), (3, pV j), (19, bV (((decide (0 ≤ p2)) && (decide (p2 < (p0.in_.length : Int)))) && (decide (0 ≤ p1))))]) (LE [(1, bx j #[sL b p0.xs d, sL f p0.ys g, sL h p0.in_ i] 177)]) _
   refine av rfl (dW 7 [(1, iv p1), (2, iv p2), (3, pV j), (27, bV ((((decide (0 ≤ p2)) && (decide (p2 < (p0.in_.length : Int)))) && (decide (0 ≤ p1))) && (decide (p1 < (bn ((p0.xs.length : Int) - 1))))))] [(1, bx j #[sL b p0.xs d, sL f p0.ys g, sL h p0.in_ i] 177)] ?_ ?_)
   ·cases q : (((decide (0 ≤ p2)) && (decide (p2 < (p0.in_.length : Int)))) && (decide (0 ≤ p1)))
    ·exact aS rfl (aS rfl (aS rfl (aS rfl (aS rfl (aS rfl (az bv rfl rfl (ae (bu (.r rfl) (.r rfl)))))))))
    ·exact cz run_move rfl (cz (ag sJ) rfl (Tr.x (fun _ _ a c => ah mU (a.ev rfl) (dZ c (vs := [sL b p0.xs d, sL f p0.ys g, sL h p0.in_ i]) (k := 1) rfl 0) rfl) (cz (bi nE) rfl (iZ eu rfl rfl (iZ aX rfl rfl (az bC rfl rfl (ae (bu (.r rfl) (.r rfl)))))))))
   ·show Tr _ _ (LF [(1, iv p1), (2, iv p2), (3, pV j), (27, bV ((((decide (0 ≤ p2)) && (decide (p2 < (p0.in_.length : Int)))) && (decide (0 ≤ p1))) && (decide (p1 < (bn ((p0.xs.length : Int) - 1))))))]) (LE [(1, bx j #[sL b p0.xs d, sL f p0.ys g, sL h p0.in_ i] 177)]) _
    refine av rfl ?_
    obtain ⟨y, o, H⟩ := bnd H
    refine dW 9 [(37, bV y)] [(1, bx j #[sL b p0.xs d, sL f p0.ys g, sL h p0.in_ i] 177)] ?_ ?_
    ·cases q : ((((decide (0 ≤ p2)) && (decide (p2 < (p0.in_.length : Int)))) && (decide (0 ≤ p1))) && (decide (p1 < (bn ((p0.xs.length : Int) - 1)))))
     ·rw [q] at o
      rw [if_neg (by decide)] at o
      have H := o
      obtain rfl := oI H
      refine aS rfl (aS rfl (aS rfl (aS rfl (aS rfl (aS rfl (aS rfl ?_))))))
      exact aS rfl (az bv rfl rfl (ae (bu (.r rfl) (.r rfl))))
     ·rw [q] at o
      rw [if_pos rfl] at o
      have H := o
      refine cz (ag xA) rfl (Tr.x (fun _ _ a c => ah EU (a.ev rfl) (dZ c (vs := [sL b p0.xs d, sL f p0.ys g, sL h p0.in_ i]) (k := 1) rfl 2) rfl) (cz run_move rfl ?_))
      obtain ⟨K, I, H⟩ := bnd H
      obtain ⟨z, A, B⟩ := aF I
      obtain ⟨L, C, t, D⟩ := (s).el B
      obtain ⟨u, v⟩ := L
      have l := t
      replace l : Sl w.R w.W lF u v K := l
      refine Tr.x (fun _ _ a c => ai Oc (a.ev rfl) s.form (a.ev rfl) z A) (Tr.x (fun _ _ a c => ah EW (a.ev rfl) (yM C D c) rfl) (cz run_move rfl ?_))
      obtain ⟨O, J, H⟩ := bnd H
      obtain ⟨E, F, G⟩ := aF J
      refine Tr.x (fun _ _ a c => ai yh (a.ev rfl) l.form (a.ev rfl) E F) (Tr.x (fun _ _ a c => ah MX (a.ev rfl) (oM zM l G c) rfl) (az bC rfl rfl ?_))
      obtain rfl := oI H
      exact ae (bu (.r rfl) (.r rfl))
    ·show Tr _ _ (LF [(37, bV y)]) (LE [(1, bx j #[sL b p0.xs d, sL f p0.ys g, sL h p0.in_ i] 177)]) _
     refine Tr.k rfl (ae (aa (bg ?_)))
     obtain rfl := oI H
     exact dM leB

theorem xg (N : Nat) {w : Bs} (p0 : (List aI)) (b5 : Option Addr) (b6 : Nat) (f9 : Sl w.R w.W bz b5 b6 p0) (r : (List aG)) (H : mJ N p0 = some r) (hE : HF w w.W (kw [emp])) : Calls Tryz.prog 82 [sL b5 p0 b6].toArray w.W fun e W' => ∃ u : (Option Addr × Nat), e = .returned (sL u.1 r u.2) ∧ (fC u.1 r.length u.2) ∧ HF w W' (kw [ow u.1 u.2 142 bG r]) := by
 unfold mJ at H
 have leB := Bs.Le.refl w
 refine bB (n := 124) Tryz.func82 rfl rfl rfl hE (aj (Tr.k rfl (bS 1 142 bG ?_)))
 show Tr _ _ (uf _ 2 (sL none (([] : List aG)) 0)) _ _
 refine ae (aa (aj (av rfl ?_)))
 obtain ⟨b, g0, H⟩ := bnd H
 refine jl [2] [emp] (U := (Option Addr × Nat) × (Option Addr × Nat) × (Option Addr × Nat)) (fun u => (.agg #[sL u.1.1 b.xs u.1.2, sL u.2.1.1 b.ys u.2.1.2, sL u.2.2.1 b.in_ u.2.2.2])) (fun O W u => Sl O W bL u.1.1 u.1.2 b.xs ∧ Sl O W bL u.2.1.1 u.2.1.2 b.ys ∧ fC u.2.2.1 b.in_.length u.2.2.2) (fun u => [ow u.2.2.1 u.2.2.2 126 nH b.in_]) rfl (bA rfl bK) (fun _ => rfl) (wn rfl) rfl Tryz.call125 (ak rfl aQ) (fun W hW hp hE => ww N p0 b5 b6 (f9.ext (hW.mQ hp)) b g0 hE) ?_
 intro w u g1 hu
 obtain ⟨⟨g, i⟩, ⟨j, o⟩, ⟨d, f⟩⟩ := u
 obtain ⟨c6, c7, c8⟩ := hu
 replace leB := leB.trans g1
 have A : Sl w.O w.W bL g i b.xs := c6 --@phi
 have B : Sl w.O w.W bL j o b.ys := c7 --@phi
 have c5 : fC d b.in_.length f := c8 --@phi
 dsimp only
 refine Tr.alloc 3 (wn rfl) rfl JE fun E => (dm 3 (cs := [sL g b.xs i, sL j b.ys o, sL d b.in_ f]) [sL g b.xs i, sL j b.ys o, sL d b.in_ f] (wn rfl) rfl rfl rfl rfl yS rfl rfl rfl (ae (aa (aj (Tr.k rfl (bS 4 142 bG ?_))))))
 show Tr _ _ (uf _ 4 (sL none (([] : List aG)) 0)) _ _
 refine ae (aa (ay (aj (Tr.k rfl (ae (aa (Tr.block (bT (σ := (List aG) × Int × (Option Addr) × Nat) (fun m w s => bW N b m s.1 s.2.1 = some r ∧ fC s.2.2.1 s.1.length s.2.2.2) (fun s => [(3, pV E), (4, sL s.2.2.1 s.1 s.2.2.2), (5, iv s.2.1)]) (fun s => [(2, ow d f 126 nH b.in_), (3, bx E #[sL g b.xs i, sL j b.ys o, sL d b.in_ f] 177), (4, ow s.2.2.1 s.2.2.2 142 bG s.1)]) N (([] : List aG), 0, none, 0) ⟨H, iM⟩ (.r rfl) (.r rfl) (fun _ _ h => fU (h.1)) ?_))))))))
 intro w K I s hs
 obtain ⟨X, C, L, M⟩ := s
 obtain ⟨H, a2⟩ := hs
 replace H : bW N b (I + 1) X C = some r := H
 replace A := A.le K
 replace B := B.le K
 replace leB := leB.trans K
 replace a2 : fC L X.length M := a2
 rw [bW.eq_2] at H
 dsimp only
 refine ay (aj (av rfl (aU (ag xA) rfl (aP rfl (fun _ _ a c => ah EU (a.ev rfl) (dZ c (vs := [sL g b.xs i, sL j b.ys o, sL d b.in_ f]) (k := 3) rfl 2) rfl) (aU (bi JI) rfl (az aX rfl rfl (ae (aa (aN rfl H (fun H => ?_) (fun H => ?_))))))))))
 ·refine aK (aa (ay (Tr.block (aj (Tr.k rfl (ae (aa (Tr.block (bT (σ := (List aG) × Int × (Option Addr) × Nat) (fun m w s => bF b C (bW N b I) m s.1 s.2.1 = some r ∧ fC s.2.2.1 s.1.length s.2.2.2) (fun s => [(3, pV E), (4, sL s.2.2.1 s.1 s.2.2.2), (5, iv C), (6, iv s.2.1)]) (fun s => [(2, ow d f 126 nH b.in_), (3, bx E #[sL g b.xs i, sL j b.ys o, sL d b.in_ f] 177), (4, ow s.2.2.1 s.2.2.2 142 bG s.1)]) N (X, 0, L, M) ⟨H, a2⟩ (.r rfl) (.r rfl) (fun _ _ h => fU (h.1)) ?_)))))))))
  intro w F S s hs
  obtain ⟨J, D, P, Q⟩ := s
  obtain ⟨H, T⟩ := hs
  replace H : bF b C (bW N b I) (S + 1) J D = some r := H
  replace A := A.le F
  replace B := B.le F
  replace K := K.trans F
  replace T : fC P J.length Q := T
  rw [bF.eq_2] at H
  dsimp only
  refine ay (aj (av rfl (aU (ag sJ) rfl (aP rfl (fun _ _ a c => ah mU (a.ev rfl) (dZ c (vs := [sL g b.xs i, sL j b.ys o, sL d b.in_ f]) (k := 3) rfl 0) rfl) (aU (bi nE) rfl (az eu rfl rfl (az aX rfl rfl (ae (aa (aN rfl H (fun H => ?_) (fun H => ?_)))))))))))
  ·refine aK (aa (ay (Tr.block (ay (aj (aU (ag xA) rfl (aP rfl (fun _ _ a c => ah EU (a.ev rfl) (dZ c (vs := [sL g b.xs i, sL j b.ys o, sL d b.in_ f]) (k := 3) rfl 2) rfl) (av rfl ?_))))))))
   obtain ⟨a9, g2, H⟩ := bnd H
   obtain ⟨d0, d1, d2⟩ := aF g2
   refine aP rfl (fun _ _ a c => ai Oc (a.ev rfl) c5 (a.ev rfl) d0 d1) (Bt (U := (nH).Ad) (fun u => (nH).ok w.O w.W u a9) (fun u => (sL u.1 a9 u.2)) (wn rfl) rfl (BF (κ := 2) (t := nH) (V := fun u => (sL u.1 a9 u.2)) rfl d2 (fun _ _ u a hc => ah EW (a.ev rfl) hc rfl)) ?_)
   intro i4 c9
   obtain ⟨b3, b4⟩ := i4
   have G := c9
   replace G : Sl w.O w.W lF b3 b4 a9 := G
   dsimp only
   refine av rfl ?_
   obtain ⟨i9, g3, H⟩ := bnd H
   obtain ⟨d3, d4, d5⟩ := aF g3
   refine aP rfl (fun _ _ a c => ai yh (a.ev rfl) G.form (a.ev rfl) d3 d4) (aP rfl (fun _ _ a c => ah MX (a.ev rfl) (oM zM (G.rl) d5 c) rfl) (aU jP rfl (ae (aa (aN rfl H (fun H => ?_) (fun H => ?_))))))
   ·exact bO (au (aM (aa (aD (av rfl (az aZ rfl rfl (Tr.k rfl (ae (aB F (J, (bn (D + 1)), P, Q) ⟨H, T⟩ (.r rfl) (.r rfl))))))))))
   ·refine aK (aa (ay (iN (by kernel_rfl) (by kernel_rfl) (gH (ag sJ) rfl (aY rfl (fun _ _ a c => ah mU (a.ev rfl) (dZ c (vs := [sL g b.xs i, sL j b.ys o, sL d b.in_ f]) (k := 3) rfl 0) rfl) (bU rfl ?_))))))
    obtain ⟨q, g4, H⟩ := bnd H
    obtain ⟨d6, d7, d8⟩ := aF g4
    refine aY rfl (fun _ _ a c => ai lQ (a.ev rfl) A.form (a.ev rfl) d6 d7) (aY rfl (fun _ _ a c => ah bQ (a.ev rfl) (oM jM (A.rl) d8 c) rfl) (gH (ag sJ) rfl (aY rfl (fun _ _ a c => ah mU (a.ev rfl) (dZ c (vs := [sL g b.xs i, sL j b.ys o, sL d b.in_ f]) (k := 3) rfl 0) rfl) (bU rfl (eP aZ rfl rfl ?_)))))
    obtain ⟨z, g5, H⟩ := bnd H
    obtain ⟨d9, e0, e3⟩ := aF g5
    refine aY rfl (fun _ _ a c => ai lQ (a.ev rfl) A.form (a.ev rfl) d9 e0) (aY rfl (fun _ _ a c => ah bQ (a.ev rfl) (oM jM (A.rl) e3 c) rfl) (gH (ag xB) rfl (aY rfl (fun _ _ a c => ah mU (a.ev rfl) (dZ c (vs := [sL g b.xs i, sL j b.ys o, sL d b.in_ f]) (k := 3) rfl 1) rfl) (bU rfl ?_))))
    obtain ⟨v, g6, H⟩ := bnd H
    obtain ⟨e4, e5, e6⟩ := aF g6
    refine aY rfl (fun _ _ a c => ai lQ (a.ev rfl) B.form (a.ev rfl) e4 e5) (aY rfl (fun _ _ a c => ah bQ (a.ev rfl) (oM jM (B.rl) e6 c) rfl) (gH (ag xB) rfl (aY rfl (fun _ _ a c => ah mU (a.ev rfl) (dZ c (vs := [sL g b.xs i, sL j b.ys o, sL d b.in_ f]) (k := 3) rfl 1) rfl) (bU rfl (eP aZ rfl rfl ?_)))))
    obtain ⟨y, g7, H⟩ := bnd H
    obtain ⟨e7, e8, e9⟩ := aF g7
    refine aY rfl (fun _ _ a c => ai lQ (a.ev rfl) B.form (a.ev rfl) e7 e8) (aY rfl (fun _ _ a c => ah bQ (a.ev rfl) (oM jM (B.rl) e9 c) rfl) (vX rfl rfl (vX rfl rfl (vX rfl rfl (vX rfl rfl (iJ (aa ?_)))))))
    have c0 := Bs.Le.refl w
    refine mH (σ := (List aG) × (Option Addr) × Nat) (fun w s => iR b C D (bF b C (bW N b I) S) q z v y s.1 = some r ∧ fC s.2.1 s.1.length s.2.2) (fun s => [(3, pV E), (4, sL s.2.1 s.1 s.2.2), (5, iv C), (6, iv D), (7, iv q), (8, iv z), (9, iv v), (10, iv y)]) (fun s => [(2, ow d f 126 nH b.in_), (3, bx E #[sL g b.xs i, sL j b.ys o, sL d b.in_ f] 177), (4, ow s.2.1 s.2.2 142 bG s.1)]) ?_ ?_
    ·refine aj (aP rfl (fun _ _ a c => aO (cs := [sL g b.xs i, sL j b.ys o, sL d b.in_ f]) Cr yS (a.ev rfl) (aC.take (dZ c (vs := [sL g b.xs i, sL j b.ys o, sL d b.in_ f]) (k := 3) rfl 0) 3) rfl) (av rfl (av rfl (az eu rfl rfl ?_))))
     obtain ⟨f1, g8, H⟩ := bnd H
     refine dn (r := (bV f1)) (wn rfl) rfl Tryz.call126 (ak rfl (ak rfl (ak rfl aQ))) (fun W hW => lc b g i (A.rl.ext hW.dC) j o (B.rl.ext hW.dC) d f (hW.sF (k := 2) rfl) D (bn (C - 1)) f1 g8 (HF.start _)) (aU jP rfl (ae (aa (aN rfl H (fun H => ?_) (fun H => ?_)))))
     ·refine aD (av rfl (av rfl (av rfl (ja (vs := [(0, iv q), (1, iv v)]) (cs := [iv q, iv v]) (wn rfl) rfl (bD rfl (bD rfl dL)) (by kernel_rfl) (av rfl (av rfl (ja (vs := [(0, iv z), (1, iv v)]) (cs := [iv z, iv v]) (wn rfl) rfl (bD rfl (bD rfl dL)) (by kernel_rfl) (ja (vs := [(0, .agg #[iv q, iv v]), (1, .agg #[iv z, iv v])]) (cs := [iv q, iv v, iv z, iv v]) (wn rfl) rfl (bD rfl (bD rfl dL)) (by kernel_rfl) (dG 67 (e := 142) (vs := [(0, .agg #[iv q, iv v, iv z, iv v])]) (cs := [iv q, iv v, iv z, iv v]) (wn rfl) rfl (bD rfl dL) (by kernel_rfl) fun j0 => ?_)))))))))
      obtain ⟨i5, g9, H⟩ := bnd H
      exact Tr.append 4 (t := bG) (l := J) (l2 := [(aG.mk (aA.mk q v) (aA.mk z v))]) (wn rfl) rfl rfl rfl rfl (fun W hW => ⟨[[iv q, iv v, iv z, iv v]], (.cons ⟨(), trivial, rfl⟩ .nil), dZ hW (vs := [iv q, iv v, iv z, iv v]) (k := 67) rfl 0⟩) vM tF Dy (by decide) EO rfl g9 fun h0 h1 f2 => (Tr.k rfl (ae (aB c0 (i5, h0, h1) ⟨H, f2⟩ (.r rfl) (.r rfl))))
     ·exact aK (aB c0 (J, P, Q) ⟨H, T⟩ (.r rfl) (.r rfl))
    ·intro w s b0 hs
     obtain ⟨Z, a3, a4⟩ := s
     obtain ⟨H, b7⟩ := hs
     replace H : iR b C D (bF b C (bW N b I) S) q z v y Z = some r := H
     replace A := A.le b0
     replace B := B.le b0
     replace F := F.trans b0
     replace b7 : fC a3 Z.length a4 := b7
     unfold iR at H
     dsimp only
     have c3 := Bs.Le.refl w
     refine mH (σ := (List aG) × (Option Addr) × Nat) (fun w s => iT b C D (bF b C (bW N b I) S) q z v y s.1 = some r ∧ fC s.2.1 s.1.length s.2.2) (fun s => [(3, pV E), (4, sL s.2.1 s.1 s.2.2), (5, iv C), (6, iv D), (7, iv q), (8, iv z), (9, iv v), (10, iv y)]) (fun s => [(2, ow d f 126 nH b.in_), (3, bx E #[sL g b.xs i, sL j b.ys o, sL d b.in_ f] 177), (4, ow s.2.1 s.2.2 142 bG s.1)]) ?_ ?_
     ·refine aj (aP rfl (fun _ _ a c => aO (cs := [sL g b.xs i, sL j b.ys o, sL d b.in_ f]) Cr yS (a.ev rfl) (aC.take (dZ c (vs := [sL g b.xs i, sL j b.ys o, sL d b.in_ f]) (k := 3) rfl 0) 3) rfl) (av rfl (az aZ rfl rfl (av rfl ?_))))
      obtain ⟨f3, h2, H⟩ := bnd H
      refine dn (r := (bV f3)) (wn rfl) rfl Tryz.call126 (ak rfl (ak rfl (ak rfl aQ))) (fun W hW => lc b g i (A.rl.ext hW.dC) j o (B.rl.ext hW.dC) d f (hW.sF (k := 2) rfl) (bn (D + 1)) C f3 h2 (HF.start _)) (aU jP rfl (ae (aa (aN rfl H (fun H => ?_) (fun H => ?_)))))
      ·refine aD (av rfl (av rfl (av rfl (ja (vs := [(0, iv z), (1, iv v)]) (cs := [iv z, iv v]) (wn rfl) rfl (bD rfl (bD rfl dL)) (by kernel_rfl) (av rfl (av rfl (ja (vs := [(0, iv z), (1, iv y)]) (cs := [iv z, iv y]) (wn rfl) rfl (bD rfl (bD rfl dL)) (by kernel_rfl) (ja (vs := [(0, .agg #[iv z, iv v]), (1, .agg #[iv z, iv y])]) (cs := [iv z, iv v, iv z, iv y]) (wn rfl) rfl (bD rfl (bD rfl dL)) (by kernel_rfl) (dG 66 (e := 142) (vs := [(0, .agg #[iv z, iv v, iv z, iv y])]) (cs := [iv z, iv v, iv z, iv y]) (wn rfl) rfl (bD rfl dL) (by kernel_rfl) fun j1 => ?_)))))))))
       obtain ⟨i6, h3, H⟩ := bnd H
       exact Tr.append 4 (t := bG) (l := Z) (l2 := [(aG.mk (aA.mk z v) (aA.mk z y))]) (wn rfl) rfl rfl rfl rfl (fun W hW => ⟨[[iv z, iv v, iv z, iv y]], (.cons ⟨(), trivial, rfl⟩ .nil), dZ hW (vs := [iv z, iv v, iv z, iv y]) (k := 66) rfl 0⟩) vM tF Dy (by decide) EO rfl h3 fun h4 h5 f4 => (Tr.k rfl (ae (aB c3 (i6, h4, h5) ⟨H, f4⟩ (.r rfl) (.r rfl))))
      ·exact aK (aB c3 (Z, a3, a4) ⟨H, b7⟩ (.r rfl) (.r rfl))
     ·intro w s b1 hs
      obtain ⟨a0, a5, a6⟩ := s
      obtain ⟨H, b8⟩ := hs
      replace H : iT b C D (bF b C (bW N b I) S) q z v y a0 = some r := H
      replace A := A.le b1
      replace B := B.le b1
      replace F := F.trans b1
      replace b8 : fC a5 a0.length a6 := b8
      unfold iT at H
      dsimp only
      have c4 := Bs.Le.refl w
      refine mH (σ := (List aG) × (Option Addr) × Nat) (fun w s => iU b C D (bF b C (bW N b I) S) q v y s.1 = some r ∧ fC s.2.1 s.1.length s.2.2) (fun s => [(3, pV E), (4, sL s.2.1 s.1 s.2.2), (5, iv C), (6, iv D), (7, iv q), (9, iv v), (10, iv y)]) (fun s => [(2, ow d f 126 nH b.in_), (3, bx E #[sL g b.xs i, sL j b.ys o, sL d b.in_ f] 177), (4, ow s.2.1 s.2.2 142 bG s.1)]) ?_ ?_
      ·refine aj (aP rfl (fun _ _ a c => aO (cs := [sL g b.xs i, sL j b.ys o, sL d b.in_ f]) Cr yS (a.ev rfl) (aC.take (dZ c (vs := [sL g b.xs i, sL j b.ys o, sL d b.in_ f]) (k := 3) rfl 0) 3) rfl) (av rfl (av rfl (az aZ rfl rfl ?_))))
       obtain ⟨f5, h6, H⟩ := bnd H
       refine dn (r := (bV f5)) (wn rfl) rfl Tryz.call126 (ak rfl (ak rfl (ak rfl aQ))) (fun W hW => lc b g i (A.rl.ext hW.dC) j o (B.rl.ext hW.dC) d f (hW.sF (k := 2) rfl) D (bn (C + 1)) f5 h6 (HF.start _)) (aU jP rfl (ae (aa (aN rfl H (fun H => ?_) (fun H => ?_)))))
       ·refine aD (av rfl (av rfl (av rfl (ja (vs := [(0, iv z), (1, iv y)]) (cs := [iv z, iv y]) (wn rfl) rfl (bD rfl (bD rfl dL)) (by kernel_rfl) (av rfl (av rfl (ja (vs := [(0, iv q), (1, iv y)]) (cs := [iv q, iv y]) (wn rfl) rfl (bD rfl (bD rfl dL)) (by kernel_rfl) (ja (vs := [(0, .agg #[iv z, iv y]), (1, .agg #[iv q, iv y])]) (cs := [iv z, iv y, iv q, iv y]) (wn rfl) rfl (bD rfl (bD rfl dL)) (by kernel_rfl) (dG 65 (e := 142) (vs := [(0, .agg #[iv z, iv y, iv q, iv y])]) (cs := [iv z, iv y, iv q, iv y]) (wn rfl) rfl (bD rfl dL) (by kernel_rfl) fun j2 => ?_)))))))))
        obtain ⟨i7, h7, H⟩ := bnd H
        exact Tr.append 4 (t := bG) (l := a0) (l2 := [(aG.mk (aA.mk z y) (aA.mk q y))]) (wn rfl) rfl rfl rfl rfl (fun W hW => ⟨[[iv z, iv y, iv q, iv y]], (.cons ⟨(), trivial, rfl⟩ .nil), dZ hW (vs := [iv z, iv y, iv q, iv y]) (k := 65) rfl 0⟩) vM tF Dy (by decide) EO rfl h7 fun h8 h9 f6 => (Tr.k rfl (ae (aB c4 (i7, h8, h9) ⟨H, f6⟩ (.r rfl) (.r rfl))))
       ·exact aK (aB c4 (a0, a5, a6) ⟨H, b8⟩ (.r rfl) (.r rfl))
      ·intro w s b2 hs
       obtain ⟨a1, a7, a8⟩ := s
       obtain ⟨H, b9⟩ := hs
       replace H : iU b C D (bF b C (bW N b I) S) q v y a1 = some r := H
       replace A := A.le b2
       replace B := B.le b2
       replace F := F.trans b2
       replace b9 : fC a7 a1.length a8 := b9
       unfold iU at H
       dsimp only
       refine aj (aP rfl (fun _ _ a c => aO (cs := [sL g b.xs i, sL j b.ys o, sL d b.in_ f]) Cr yS (a.ev rfl) (aC.take (dZ c (vs := [sL g b.xs i, sL j b.ys o, sL d b.in_ f]) (k := 3) rfl 0) 3) rfl) (av rfl (az eu rfl rfl (av rfl ?_))))
       obtain ⟨f7, i0, H⟩ := bnd H
       refine dn (r := (bV f7)) (wn rfl) rfl Tryz.call126 (ak rfl (ak rfl (ak rfl aQ))) (fun W hW => lc b g i (A.rl.ext hW.dC) j o (B.rl.ext hW.dC) d f (hW.sF (k := 2) rfl) (bn (D - 1)) C f7 i0 (HF.start _)) (aU jP rfl (ae (aa (aN rfl H (fun H => ?_) (fun H => ?_)))))
       ·refine aD (av rfl (av rfl (av rfl (ja (vs := [(0, iv q), (1, iv y)]) (cs := [iv q, iv y]) (wn rfl) rfl (bD rfl (bD rfl dL)) (by kernel_rfl) (av rfl (av rfl (ja (vs := [(0, iv q), (1, iv v)]) (cs := [iv q, iv v]) (wn rfl) rfl (bD rfl (bD rfl dL)) (by kernel_rfl) (ja (vs := [(0, .agg #[iv q, iv y]), (1, .agg #[iv q, iv v])]) (cs := [iv q, iv y, iv q, iv v]) (wn rfl) rfl (bD rfl (bD rfl dL)) (by kernel_rfl) (dG 64 (e := 142) (vs := [(0, .agg #[iv q, iv y, iv q, iv v])]) (cs := [iv q, iv y, iv q, iv v]) (wn rfl) rfl (bD rfl dL) (by kernel_rfl) fun j3 => ?_)))))))))
        obtain ⟨i8, i1, H⟩ := bnd H
        exact Tr.append 4 (t := bG) (l := a1) (l2 := [(aG.mk (aA.mk q y) (aA.mk q v))]) (wn rfl) rfl rfl rfl rfl (fun W hW => ⟨[[iv q, iv y, iv q, iv v]], (.cons ⟨(), trivial, rfl⟩ .nil), dZ hW (vs := [iv q, iv y, iv q, iv v]) (k := 64) rfl 0⟩) vM tF Dy (by decide) EO rfl i1 fun i2 i3 f8 => (Tr.k rfl (ae (aH (aa (aD (av rfl (az aZ rfl rfl (Tr.k rfl (ae (aB F (i8, (bn (D + 1)), i2, i3) ⟨H, f8⟩ (.r rfl) (.r rfl)))))))))))
       ·exact aK (aH (aa (aD (av rfl (az aZ rfl rfl (Tr.k rfl (ae (aB F (a1, (bn (D + 1)), a7, a8) ⟨H, b9⟩ (.r rfl) (.r rfl)))))))))
  ·exact bO (au (au (aM (aH (aa (aD (av rfl (az aZ rfl rfl (Tr.k rfl (ae (aB K (J, (bn (C + 1)), P, Q) ⟨H, T⟩ (.r rfl) (.r rfl))))))))))))
 ·refine bO (au (au (aM (aa (aj (av rfl (Tr.k rfl (ae (aa (bg ?_))))))))))
  obtain rfl := oI H
  exact Tr.out (m := [sL L X M]) [] (eU rfl dR) (fun W hW => ⟨(L, M), rfl, a2, HF.xZ leB (hW.pick (ks := [4]) (by decide) (bA rfl bK)) ⟨pX _ _ _ _ yC, trivial⟩⟩)

theorem rZ {w : Bs} (p0 : Int) (r : Int) (H : jd p0 = some r) (hE : HF w w.W E0) : Calls Tryz.prog 176 [iv p0].toArray w.W fun e W' => e = .returned (iv r) ∧ HF w W' E0 := by
 unfold jd at H
 have leB := Bs.Le.refl w
 refine bB (n := 9) Tryz.func176 rfl rfl rfl hE (aj (Tr.k rfl (ae (aa (ay (Tr.block (aj (av rfl (az aX rfl rfl (Tr.k rfl (ae (aa (aN rfl H (fun H => ?_) (fun H => ?_))))))))))))))
 ·refine aj (Tr.k rfl (ae (aa (bg (cB (aL ?_))))))
  obtain rfl := oI H
  exact dM leB
 ·refine aj (av rfl (az kX rfl rfl (Tr.k rfl (ae (aa (aN rfl H (fun H => ?_) (fun H => ?_)))))))
  ·refine aj (Tr.k rfl (ae (aa (bg (cB (aL ?_))))))
   obtain rfl := oI H
   exact dM leB
  ·refine aK (aH (aa (aj (Tr.k rfl (ae (aa (bg ?_)))))))
   obtain rfl := oI H
   exact dM leB

theorem nQ {w : Bs} (p0 : aG) (r : aA) (H : jq p0 = some r) (hE : HF w w.W E0) : Calls Tryz.prog 127 [.agg #[iv p0.from_.X, iv p0.from_.Y, iv p0.to_.X, iv p0.to_.Y]].toArray w.W fun e W' => e = .returned (.agg #[iv r.X, iv r.Y]) ∧ HF w W' E0 := by
 unfold jq at H
 have leB := Bs.Le.refl w
 refine bB (n := 20) Tryz.func127 rfl rfl rfl hE (aj (jN 1 (cs := [iv p0.from_.X, iv p0.from_.Y, iv p0.to_.X, iv p0.to_.Y]) (wn rfl) rfl rfl rfl fun h => (Tr.alloc 2 (wn rfl) rfl ui fun i => (ae (aa (ay (nS 15 (by kernel_rfl) (by kernel_rfl) (gH (ag EB) rfl (gH (ag oq) rfl (aY rfl (fun _ _ a c => ah bQ (a.ev rfl) (dZ c (vs := [iv p0.from_.X, iv p0.from_.Y, iv p0.to_.X, iv p0.to_.Y]) (k := 1) rfl 2) rfl) (gH (ag Bh) rfl (gH (ag oq) rfl (aY rfl (fun _ _ a c => ah bQ (a.ev rfl) (dZ c (vs := [iv p0.from_.X, iv p0.from_.Y, iv p0.to_.X, iv p0.to_.Y]) (k := 1) rfl 0) rfl) (eP eu rfl rfl ?_))))))))))))))
 obtain ⟨b, f, H⟩ := bnd H
 refine kR (r := (iv b)) (wn rfl) rfl Tryz.call176 (ak rfl aQ) (fun W hW => rZ (bn (p0.to_.X - p0.from_.X)) b f (HF.start _)) (gH (ag EB) rfl (gH (ag mG) rfl (aY rfl (fun _ _ a c => ah bQ (a.ev rfl) (dZ c (vs := [iv p0.from_.X, iv p0.from_.Y, iv p0.to_.X, iv p0.to_.Y]) (k := 1) rfl 3) rfl) (gH (ag Bh) rfl (gH (ag mG) rfl (aY rfl (fun _ _ a c => ah bQ (a.ev rfl) (dZ c (vs := [iv p0.from_.X, iv p0.from_.Y, iv p0.to_.X, iv p0.to_.Y]) (k := 1) rfl 1) rfl) (eP eu rfl rfl (iJ ?_))))))))
 obtain ⟨d, g, H⟩ := bnd H
 refine dn (r := (iv d)) (wn rfl) rfl Tryz.call176 (ak rfl aQ) (fun W hW => rZ (bn (p0.to_.Y - p0.from_.Y)) d g (HF.start _)) (ja (vs := [(0, iv b), (1, iv d)]) (cs := [iv b, iv d]) (wn rfl) rfl (bD rfl (bD rfl dL)) (by kernel_rfl) (dm 2 (cs := [iv b, iv d]) [iv b, iv d] (wn rfl) rfl rfl rfl rfl iK rfl rfl rfl (ae (aa (bg ?_)))))
 obtain rfl := oI H
 exact Tr.out (m := [.agg #[iv b, iv d]]) [2] (rG rfl rfl lJ iK dR) (fun W hW => ⟨rfl, hW.low leB⟩)

end Go.Proofs.YtcjeebkoafonpaaGreatDoor
