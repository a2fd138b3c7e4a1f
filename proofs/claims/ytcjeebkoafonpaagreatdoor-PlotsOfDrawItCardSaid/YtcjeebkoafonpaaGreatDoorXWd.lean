/- The walks: each function computes its plain function. -/
import Derived.Test.YtcjeebkoafonpaaGreatDoorXWc
namespace Go.Proofs.YtcjeebkoafonpaaGreatDoor
open Go.RowKit
set_option maxRecDepth 100000
set_option maxHeartbeats 1000000
theorem xe (N : Nat) {w : Bs} (p0 : eT) (d : Option Addr) (f : Nat) (a9 : Sl w.R w.W aY d f p0.p.Tools) (g : Option Addr) (h : Nat) (b0 : Sl w.R w.W ay g h p0.p.Steps) (i : Option Addr) (j : Nat) (b1 : Sl w.R w.W jc i j p0.tools) (v : Option Addr) (y : Nat) (J : Nat) (p1 : (List aV)) (E : Option Addr) (F : Nat) (B : Sl w.O w.W aS E F p1) (r : (Int × (List aV))) (H : lH N p0 p1 = some r) (hE : HF w w.W (iF [bx J #[iv p0.p.Unit, sL d p0.p.Tools f, sL g p0.p.Steps h, sL i p0.tools j, sL v p0.image y, bV p0.clear, iv p0.tool, iv p0.place.X, iv p0.place.Y, bV p0.placed, iv p0.off, iv p0.on] 95, ow v y 98 aS p0.image])) : Calls Tryz.prog 212 [pV J, sL E p1 F].toArray w.W fun e W' => ∃ (w' : Bs) (u : (Option Addr × Nat)), w.Le w' ∧ e = .returned (iv r.1) ∧ (dM u.1 r.2.length u.2) ∧ HF w' W' (iF [bx J #[iv p0.p.Unit, sL d p0.p.Tools f, sL g p0.p.Steps h, sL i p0.tools j, sL u.1 r.2 u.2, bV p0.clear, iv p0.tool, iv p0.place.X, iv p0.place.Y, bV p0.placed, iv p0.off, iv p0.on] 95, ow u.1 u.2 98 aS r.2]) := by
 unfold lH at H
 have Z := (hE.sl (k := 1) rfl).form
 have leB := Bs.Le.refl w
 refine aZ (n := 38) Tryz.func212 rfl rfl rfl hE (ai (Tr.k rfl (ae (aa ?_))))
 have b := Bs.Le.refl w
 refine kT (σ := (List aV) × (Option Addr) × Nat) (fun w s => iO s.1 = some r ∧ dM s.2.1 s.1.length s.2.2) (fun s => [(0, pV J)]) (fun s => [(0, bx J #[iv p0.p.Unit, sL d p0.p.Tools f, sL g p0.p.Steps h, sL i p0.tools j, sL s.2.1 s.1 s.2.2, bV p0.clear, iv p0.tool, iv p0.place.X, iv p0.place.Y, bV p0.placed, iv p0.off, iv p0.on] 95), (4, ow s.2.1 s.2.2 98 aS s.1)]) ?_ ?_
 ·refine Tr.block (ai (aA rfl ?_))
  obtain ⟨a2, a5, H⟩ := bnd H
  refine di (r := (bV a2)) (wn rfl) rfl Tryz.call222 (aj rfl aL) (fun W hW => zb p1 E F (B.rl.ext hW.cB) a2 a5 (HF.start _)) (aT jC rfl (Tr.k rfl (ae (aa (aP rfl H (fun H => ?_) (fun H => ?_))))))
  ·refine ai (Tr.k rfl (ae (aa (aW (bL (aK ?_))))))
   obtain rfl := oI H
   exact Tr.out (m := [iv 1]) [] (cO rfl bO) (fun W hW => ⟨w, (v, y), leB, rfl, Z, hW.pick (ks := [0, 1]) (by decide) (aH rfl (aH rfl bn))⟩)
  ·refine ai (aA rfl (aT iX rfl (aT (ag L9) rfl (aG rfl (fun _ _ a c => ah Fu (a.ev rfl) (dR c (vs := [iv p0.p.Unit, sL d p0.p.Tools f, sL g p0.p.Steps h, sL i p0.tools j, sL v p0.image y, bV p0.clear, iv p0.tool, iv p0.place.X, iv p0.place.Y, bV p0.placed, iv p0.off, iv p0.on]) (k := 0) rfl 5) rfl) (Tr.k rfl (ae (aa (aP rfl H (fun H => ?_) (fun H => ?_)))))))))
   ·refine aI (aA rfl (aA rfl (aT iX rfl (aT (ag zD) rfl (aG rfl (fun _ _ a c => ah JF (a.ev rfl) (dR c (vs := [iv p0.p.Unit, sL d p0.p.Tools f, sL g p0.p.Steps h, sL i p0.tools j, sL v p0.image y, bV p0.clear, iv p0.tool, iv p0.place.X, iv p0.place.Y, bV p0.placed, iv p0.off, iv p0.on]) (k := 0) rfl 4) rfl) (aA rfl (Tr.freeze 1 rfl fun w Q K => ?_)))))))
    replace B := B.le Q
    replace b := b.trans Q
    obtain ⟨z, a6, H⟩ := bnd H
    refine fq [5] [emp] (U := (Option Addr × Nat)) (fun u => (sL u.1 z u.2)) (fun O W u => dM u.1 z.length u.2) (fun u => [ow u.1 u.2 98 aS z]) rfl (aH rfl bn) (fun _ => rfl) (wn rfl) rfl Tryz.call223 (aj rfl (aj rfl aL)) (fun W hW hp hE => za N p0.image v y (K.qK (hW.gM hp)) p1 E F (B.qK (hW.gM hp)) z a6 hE) ?_
    intro w u S hu
    obtain ⟨l, o⟩ := u
    have a0 := hu
    replace K := K.le S
    replace b := b.trans S
    have M : dM l z.length o := a0 --@phi
    dsimp only
    exact aT iX rfl (aT (ag zD) rfl (bJ 0 (cs := [sL l z o]) [iv p0.p.Unit, sL d p0.p.Tools f, sL g p0.p.Steps h, sL i p0.tools j, sL l z o, bV p0.clear, iv p0.tool, iv p0.place.X, iv p0.place.Y, bV p0.placed, iv p0.off, iv p0.on] (wn rfl) rfl rfl rfl rfl Rw rfl rfl rfl (ae (aJ (EU 5 4 rfl rfl rfl (aD b (z, l, o) ⟨H, M⟩ (.r rfl) (.r rfl)))))))
   ·refine aI (aA rfl (aA rfl (aT iX rfl (aT (ag zD) rfl (aG rfl (fun _ _ a c => ah JF (a.ev rfl) (dR c (vs := [iv p0.p.Unit, sL d p0.p.Tools f, sL g p0.p.Steps h, sL i p0.tools j, sL v p0.image y, bV p0.clear, iv p0.tool, iv p0.place.X, iv p0.place.Y, bV p0.placed, iv p0.off, iv p0.on]) (k := 0) rfl 4) rfl) (aA rfl (Tr.freeze 1 rfl fun w T L => ?_)))))))
    replace B := B.le T
    replace b := b.trans T
    obtain ⟨A, a7, H⟩ := bnd H
    refine fq [6] [emp] (U := (Option Addr × Nat)) (fun u => (sL u.1 A u.2)) (fun O W u => dM u.1 A.length u.2) (fun u => [ow u.1 u.2 98 aS A]) rfl (aH rfl bn) (fun _ => rfl) (wn rfl) rfl Tryz.call224 (aj rfl (aj rfl aL)) (fun W hW hp hE => Au N p0.image v y (L.qK (hW.gM hp)) p1 E F (B.qK (hW.gM hp)) A a7 hE) ?_
    intro w u V hu
    obtain ⟨q, t⟩ := u
    have a1 := hu
    replace L := L.le V
    replace b := b.trans V
    have P : dM q A.length t := a1 --@phi
    dsimp only
    exact aT iX rfl (aT (ag zD) rfl (bJ 0 (cs := [sL q A t]) [iv p0.p.Unit, sL d p0.p.Tools f, sL g p0.p.Steps h, sL i p0.tools j, sL q A t, bV p0.clear, iv p0.tool, iv p0.place.X, iv p0.place.Y, bV p0.placed, iv p0.off, iv p0.on] (wn rfl) rfl rfl rfl rfl Rw rfl rfl rfl (ae (aJ (EU 6 4 rfl rfl rfl (aD b (A, q, t) ⟨H, P⟩ (.r rfl) (.r rfl)))))))
 ·intro w s a3 hs
  obtain ⟨G, C, D⟩ := s
  obtain ⟨H, I⟩ := hs
  replace H : iO G = some r := H
  replace leB := leB.trans a3
  replace I : dM C G.length D := I
  unfold iO at H
  dsimp only
  refine az (ai (aA rfl (aT iX rfl (aT (ag zD) rfl (aG rfl (fun _ _ a c => ah JF (a.ev rfl) (dR c (vs := [iv p0.p.Unit, sL d p0.p.Tools f, sL g p0.p.Steps h, sL i p0.tools j, sL C G D, bV p0.clear, iv p0.tool, iv p0.place.X, iv p0.place.Y, bV p0.placed, iv p0.off, iv p0.on]) (k := 0) rfl 4) rfl) ?_)))))
  obtain ⟨a4, a8, H⟩ := bnd H
  refine di (r := (iv a4)) (wn rfl) rfl Tryz.call215 (aj rfl aL) (fun W hW => ui G C D (hW.sK (k := 4) rfl) a4 a8 (HF.start _)) (aC jq rfl rfl (ae (aa (aP rfl H (fun H => ?_) (fun H => ?_)))))
  ·refine ai (Tr.k rfl (ae (aa (aW (aK ?_)))))
   obtain rfl := oI H
   exact Tr.out (m := [iv 2]) [] (cO rfl bO) (fun W hW => ⟨w, (C, D), leB, rfl, I, hW.pick (ks := [0, 4]) (by decide) (aH rfl (aH rfl bn))⟩)
  ·refine aN (aa (ai (Tr.k rfl (ae (aa (aW ?_))))))
   obtain rfl := oI H
   exact Tr.out (m := [iv 0]) [] (cO rfl bO) (fun W hW => ⟨w, (C, D), leB, rfl, I, hW.pick (ks := [0, 4]) (by decide) (aH rfl (aH rfl bn))⟩)

theorem zP {w : Bs} (p0 : aQ) (p1 : aQ) (r : Int) (H : mG p0 p1 = some r) (hE : HF w w.W E0) : Calls Tryz.prog 226 [.agg #[iv p0.X0, iv p0.Y0, iv p0.X1, iv p0.Y1], .agg #[iv p1.X0, iv p1.Y0, iv p1.X1, iv p1.Y1]].toArray w.W fun e W' => e = .returned (iv r) ∧ HF w W' E0 := by
 unfold mG at H
 have leB := Bs.Le.refl w
 refine aZ (n := 10) Tryz.func226 rfl rfl rfl hE (ai (gN 1 (cs := [iv p0.X0, iv p0.Y0, iv p0.X1, iv p0.Y1]) (wn rfl) rfl rfl rfl fun b => (gN 2 (cs := [iv p1.X0, iv p1.Y0, iv p1.X1, iv p1.Y1]) (wn rfl) rfl rfl rfl fun d => (Tr.k rfl (ae (aa (ai (aT (ag pU) rfl (aG rfl (fun _ _ a c => ah bT (a.ev rfl) (dR c (vs := [iv p0.X0, iv p0.Y0, iv p0.X1, iv p0.Y1]) (k := 1) rfl 0) rfl) (aT (ag pU) rfl (aG rfl (fun _ _ a c => ah bT (a.ev rfl) (dR c (vs := [iv p1.X0, iv p1.Y0, iv p1.X1, iv p1.Y1]) (k := 2) rfl 0) rfl) (aC gH rfl rfl (Tr.k rfl (ae (aa (aW ?_))))))))))))))))
 obtain rfl := oI H
 exact dQ leB

theorem Bw (N : Nat) {w : Bs} (p0 : (List (List au))) (V : Option Addr) (Z : Nat) (a4 : Sl w.R w.W dV V Z p0) (r : (List aV)) (H : qw N p0 = some r) (hE : HF w w.W (iF [emp])) : Calls Tryz.prog 214 [sL V p0 Z].toArray w.W fun e W' => ∃ (w' : Bs) (u : (Option Addr × Nat)), w.Le w' ∧ e = .returned (sL u.1 r u.2) ∧ (dM u.1 r.length u.2) ∧ HF w' W' (iF [ow u.1 u.2 98 aS r]) := by
 unfold qw at H
 have leB := Bs.Le.refl w
 refine aZ (n := 138) Tryz.func214 rfl rfl rfl hE (ai (Tr.k rfl (bM 1 98 aS ?_)))
 show Tr _ _ (uf _ 2 (sL none (([] : List aV)) 0)) _ _
 refine ae (aa (ai (Tr.k rfl (bM 2 3 bK ?_))))
 show Tr _ _ (uf _ 3 (sL none (([] : List Int)) 0)) _ _
 refine ae (aa (ai (Tr.k rfl (bM 3 38 bq ?_))))
 show Tr _ _ (uf _ 4 (sL none (([] : List aQ)) 0)) _ _
 refine ae (aa (az (ai (aA rfl (aT (bz Fy) rfl (aA rfl (ae (aa (Tr.block (df (σ := (List (List au)) × Nat × (List Int) × (List aQ) × (Option Addr) × Nat × (Option Addr) × Nat) (fun m w s => m = s.1.length + 1 ∧ s.1 = List.drop s.2.1 p0 ∧ s.2.1 ≤ p0.length ∧ iA N s.1 s.2.1 s.2.2.1 s.2.2.2.1 = some r ∧ dM s.2.2.2.2.1 s.2.2.1.length s.2.2.2.2.2.1 ∧ dM s.2.2.2.2.2.2.1 s.2.2.2.1.length s.2.2.2.2.2.2.2) (fun s => [(3, sL s.2.2.2.2.1 s.2.2.1 s.2.2.2.2.2.1), (4, sL s.2.2.2.2.2.2.1 s.2.2.2.1 s.2.2.2.2.2.2.2), (16, sL V p0 Z), (17, iv (p0.length : Int)), (18, iv (s.2.1 : Int))]) (fun s => [(2, ow s.2.2.2.2.1 s.2.2.2.2.2.1 3 bK s.2.2.1), (3, ow s.2.2.2.2.2.2.1 s.2.2.2.2.2.2.2 38 bq s.2.2.2.1)]) (p0.length + 1) (p0, 0, ([] : List Int), ([] : List aQ), none, 0, none, 0) ⟨rfl, rfl, Nat.zero_le _, H, gL, gL⟩ (.r rfl) (.r rfl) (fun _ _ h => absurd h.1 (by simp)) ?_))))))))))
 intro w d2 m s hs
 obtain ⟨I, a9, a5, S, B, C, d, f⟩ := s
 obtain ⟨e3, a6, l0, H, c7, c8⟩ := hs
 replace a6 : I = List.drop a9 p0 := a6
 replace H : iA N I a9 a5 S = some r := H
 replace e3 : m + 1 = I.length + 1 := e3
 replace a4 := a4.nL d2
 replace leB := leB.trans d2
 replace c7 : dM B a5.length C := c7
 replace c8 : dM d S.length f := c8
 obtain rfl : m = I.length := by omega
 clear e3
 dsimp only
 cases I with
 | nil =>
  rw [iA.eq_1] at H
  refine ai (aC bg rfl rfl (ae (aa (az (eQ rfl (dZ a6) (bW (aB (aB (aR (aa (ai (aA rfl ?_))))))))))))
  obtain ⟨T, i3, H⟩ := bnd H
  refine ja [2] [ow B C 3 bK a5] (U := Unit) (fun u => (.tuple #[])) (fun u => T.length = a5.length) (fun u => [ow B C 3 bK T]) rfl (aH rfl bn) (fun _ => rfl) (wn rfl) rfl Tryz.call62 (aj rfl aL) (fun W hW hp hE => uh a5 B C T i3 hE) ?_
  intro u hu
  have e4 := hu
  have b0 : T.length = a5.length := e4 --@phi
  have k2 : dM B T.length C := by rw [b0]; exact c7
  show Tr _ _ (uf _ 66 (.tuple #[])) (up _ 2 (ow B C 3 bK T)) _
  refine Tr.vJ (lf := [(3, sL B T C), (4, sL d S f), (16, sL V p0 Z), (17, iv (p0.length : Int)), (18, iv (a9 : Int)), (19, bV (decide ((a9 : Int) < (p0.length : Int)))), (65, sL B T C), (66, (.tuple #[]))]) (le := [(2, ow B C 3 bK T), (3, ow d f 38 bq S)]) (.cons (dJ rfl (by unfold sL; rw [b0])) (.cons rfl (.cons rfl (.cons rfl (.cons rfl (.cons rfl (.cons (dJ rfl (by unfold sL; rw [b0])) (.r rfl)))))))) (.r rfl) (ae (aa (ai (aA rfl ?_))))
  obtain ⟨o, i4, H⟩ := bnd H
  refine ja [2] [ow B C 3 bK T] (U := (Option Addr × Nat)) (fun u => (sL u.1 o u.2)) (fun u => dM u.1 o.length u.2) (fun u => [ow u.1 u.2 3 bK o]) rfl (aH rfl bn) (fun _ => rfl) (wn rfl) rfl Tryz.call63 (aj rfl aL) (fun W hW hp hE => rF T B C o i4 hE) ?_
  intro u hu
  obtain ⟨i, j⟩ := u
  have f5 := hu
  have a7 : dM i o.length j := f5 --@phi
  dsimp only
  refine Tr.k rfl (ae (aa (ai (aA rfl ?_))))
  obtain ⟨b, i5, H⟩ := bnd H
  refine ja [3] [ow d f 38 bq S] (U := Unit) (fun u => (.tuple #[])) (fun u => b.length = S.length) (fun u => [ow d f 38 bq b]) rfl (aH rfl bn) (fun _ => rfl) (wn rfl) rfl Tryz.call60 (aj rfl (aj rfl aL)) (fun W hW hp hE => mM S d f (fun z0 z1 => mG z0 z1) 226 [] Tryz.call226 (fun w' he z0 z1 y hy => zP z0 z1 y hy (HF.start _)) b i5 hE) ?_
  intro u hu
  have e5 := hu
  have b1 : b.length = S.length := e5 --@phi
  have a0 : dM d b.length f := by rw [b1]; exact c8
  show Tr _ _ (uf _ 70 (.tuple #[])) (up _ 3 (ow d f 38 bq b)) _
  refine Tr.vJ (lf := [(3, sL i o j), (4, sL d b f), (16, sL V p0 Z), (17, iv (p0.length : Int)), (18, iv (a9 : Int)), (19, bV (decide ((a9 : Int) < (p0.length : Int)))), (66, (.tuple #[])), (68, sL i o j), (69, sL d b f), (70, (.tuple #[]))]) (le := [(2, ow i j 3 bK o), (3, ow d f 38 bq b)]) (.cons rfl (.cons (dJ rfl (by unfold sL; rw [b1])) (.cons rfl (.cons rfl (.cons rfl (.cons rfl (.cons rfl (.cons rfl (.cons (dJ rfl (by unfold sL; rw [b1])) (.r rfl)))))))))) (.r rfl) (ae (aa (ai (Tr.k rfl (bM 28 98 aS ?_)))))
  show Tr _ _ (uf _ 10 (sL none (([] : List aV)) 0)) _ _
  refine ae (aa (az (ai (Tr.k rfl (ae (aa (Tr.block (df (σ := (List aV) × Int × (Option Addr) × Nat) (fun m w s => iy o b m s.1 s.2.1 = some r ∧ dM s.2.2.1 s.1.length s.2.2.2) (fun s => [(3, sL i o j), (4, sL d b f), (10, sL s.2.2.1 s.1 s.2.2.2), (11, iv s.2.1)]) (fun s => [(2, ow i j 3 bK o), (3, ow d f 38 bq b), (28, ow s.2.2.1 s.2.2.2 98 aS s.1)]) N (([] : List aV), 0, none, 0) ⟨H, gL⟩ (.r rfl) (.r rfl) (fun _ _ h => jQ (h.1)) ?_))))))))
  intro w b2 f8 s hs
  obtain ⟨F, a8, D, E⟩ := s
  obtain ⟨H, d4⟩ := hs
  replace H : iy o b (f8 + 1) F a8 = some r := H
  replace leB := leB.trans b2
  replace d4 : dM D F.length E := d4
  rw [iy.eq_2] at H
  dsimp only
  refine az (ai (aA rfl (aC bv rfl rfl (aA rfl (aT (bz nz) rfl (aC bg rfl rfl (ae (aa (aP rfl H (fun H => ?_) (fun H => ?_))))))))))
  ·refine aN (aa (az (Tr.block (ai (Tr.k rfl (bM 43 3 bK ?_))))))
   show Tr _ _ (uf _ 12 (sL none (([] : List Int)) 0)) _ _
   refine ae (aa (az (ai (aA rfl (aT (bz sH) rfl (aA rfl (ae (aa (Tr.block (df (σ := (List aQ) × Nat × (List Int) × (Option Addr) × Nat) (fun m w s => m = s.1.length + 1 ∧ s.1 = List.drop s.2.1 b ∧ s.2.1 ≤ b.length ∧ iw o F a8 (iy o b f8) s.1 s.2.1 s.2.2.1 = some r ∧ dM s.2.2.2.1 s.2.2.1.length s.2.2.2.2) (fun s => [(3, sL i o j), (4, sL d b f), (10, sL D F E), (11, iv a8), (12, sL s.2.2.2.1 s.2.2.1 s.2.2.2.2), (78, sL d b f), (79, iv (b.length : Int)), (80, iv (s.2.1 : Int))]) (fun s => [(2, ow i j 3 bK o), (3, ow d f 38 bq b), (28, ow D E 98 aS F), (43, ow s.2.2.2.1 s.2.2.2.2 3 bK s.2.2.1)]) (b.length + 1) (b, 0, ([] : List Int), none, 0) ⟨rfl, rfl, Nat.zero_le _, H, gL⟩ (.r rfl) (.r rfl) (fun _ _ h => absurd h.1 (by simp)) ?_))))))))))
   intro w d5 m s hs
   obtain ⟨J, c6, K, L, M⟩ := s
   obtain ⟨e6, G, l1, H, b4⟩ := hs
   replace G : J = List.drop c6 b := G
   replace H : iw o F a8 (iy o b f8) J c6 K = some r := H
   replace e6 : m + 1 = J.length + 1 := e6
   replace b2 := b2.trans d5
   replace b4 : dM L K.length M := b4
   obtain rfl : m = J.length := by omega
   clear e6
   dsimp only
   cases J with
   | nil =>
    rw [iw.eq_1] at H
    refine ai (aC bg rfl rfl (ae (aa (az (eQ rfl (dZ G) (bW (aB (aB (aR (aa (kG 12 (by kernel_rfl) (by kernel_rfl) (dD rfl (dD rfl (dD rfl ?_))))))))))))))
    obtain ⟨e7, i6, H⟩ := bnd H
    obtain ⟨f9, g0, g1⟩ := aU i6
    refine bi rfl (fun _ _ a c => ak kS (a.ev rfl) a7 (a.ev rfl) f9 g0) (bi rfl (fun _ _ a c => ah bT (a.ev rfl) (Ac je (k := 2) c rfl g1) rfl) (dD rfl (dD rfl (fO bv rfl rfl ?_))))
    obtain ⟨e8, i7, H⟩ := bnd H
    obtain ⟨g2, g3, g4⟩ := aU i7
    refine bi rfl (fun _ _ a c => ak kS (a.ev rfl) a7 (a.ev rfl) g2 g3) (bi rfl (fun _ _ a c => ah bT (a.ev rfl) (Ac je (k := 2) c rfl g4) rfl) (dD rfl (Br (vs := [(0, iv e7), (1, iv e8), (2, sL L K M)]) (cs := [iv e7, iv e8, sL L K M]) (wn rfl) rfl (bH rfl (bH rfl (bH rfl eF))) (by kernel_rfl) (iE (Tr.freeze 43 rfl fun w i8 d6 => ?_)))))
    replace b2 := b2.trans i8
    obtain ⟨b3, i9, H⟩ := bnd H
    refine fq [28] [ow D E 98 aS F] (U := (Option Addr × Nat)) (fun u => (sL u.1 b3 u.2)) (fun O W u => dM u.1 b3.length u.2) (fun u => [ow u.1 u.2 98 aS b3]) rfl (aH rfl bn) (fun _ => rfl) (wn rfl) rfl Tryz.call66 (aj rfl (aj rfl aL)) (fun W hW hp hE => qp F D E (aV.mk e7 e8 K) L M (d6.qK (hW.gM hp)) b3 i9 hE) ?_
    intro w u f2 hu
    obtain ⟨b5, b6⟩ := u
    have f6 := hu
    replace d6 := d6.le f2
    replace b2 := b2.trans f2
    have e9 : dM b5 b3.length b6 := f6 --@phi
    dsimp only
    exact Tr.k rfl (ae (aJ (aa (aI (aA rfl (aC bv rfl rfl (Tr.k rfl (ae (aD b2 (b3, (bG (a8 + 1)), b5, b6) ⟨H, e9⟩ (.r rfl) (.r rfl))))))))))
   | cons v J =>
    rw [iw.eq_2] at H
    refine ai (aC bg rfl rfl (ae (aa (az (eP rfl (fJ G) (aN (aa (az (Tr.block (ai (aG rfl (fun _ _ a c => ak vk (a.ev rfl) a0 (a.ev rfl) (Int.natCast_nonneg _) (bF G)) (aG rfl (fun _ _ a c => aM (cs := [iv v.X0, iv v.Y0, iv v.X1, iv v.Y1]) tV mI (a.ev rfl) (aF.take (Ac mK (k := 3) c rfl (gy G)) 4) rfl) (Tr.alloc 48 (wn rfl) rfl x8 fun g5 => (bJ 48 (cs := [iv v.X0, iv v.Y0, iv v.X1, iv v.Y1]) [iv v.X0, iv v.Y0, iv v.X1, iv v.Y1] (wn rfl) rfl rfl rfl rfl mI rfl rfl rfl (ae (aa (az (az (jb (by kernel_rfl) (by kernel_rfl) (fQ (ag rQ) rfl (bi rfl (fun _ _ a c => ah bT (a.ev rfl) (dR c (vs := [iv v.X0, iv v.Y0, iv v.X1, iv v.Y1]) (k := 48) rfl 1) rfl) ?_)))))))))))))))))))))
    refine dD rfl (dD rfl ?_)
    obtain ⟨k3, j0, H⟩ := bnd H
    obtain ⟨g6, g7, g8⟩ := aU j0
    refine bi rfl (fun _ _ a c => ak kS (a.ev rfl) a7 (a.ev rfl) g6 g7) (bi rfl (fun _ _ a c => ah bT (a.ev rfl) (Ac je (k := 2) c rfl g8) rfl) (fO jq rfl rfl (dD rfl ?_)))
    obtain ⟨k4, b7, H⟩ := bnd H
    refine rz 8 [(3, sL i o j), (4, sL d b f), (10, sL D F E), (11, iv a8), (12, sL L K M), (14, pV g5), (78, sL d b f), (79, iv (b.length : Int)), (80, iv (c6 : Int)), (99, bV k4)] ?_ ?_
    ·cases c0 : (decide (k3 < v.Y0))
     ·rw [c0] at b7
      rw [if_neg (by decide)] at b7
      have H := b7
      refine kg (ag Bn) rfl (Tq.x (fun _ _ a c => ah bT (a.ev rfl) (dR c (vs := [iv v.X0, iv v.Y0, iv v.X1, iv v.Y1]) (k := 48) rfl 3) rfl) (kg run_move rfl (kg run_move rfl ?_)))
      obtain ⟨l3, j1, H⟩ := bnd H
      obtain ⟨g9, h0, h1⟩ := aU j1
      refine Tq.x (fun _ _ a c => ak kS (a.ev rfl) a7 (a.ev rfl) g9 h0) (Tq.x (fun _ _ a c => ah bT (a.ev rfl) (Ac je (k := 2) c rfl h1) rfl) (ug oH rfl rfl (fO bE rfl rfl ?_)))
      obtain rfl := oI H
      exact Tq.fin (.r rfl)
     ·rw [c0] at b7
      rw [if_pos rfl] at b7
      have H := b7
      obtain rfl := oI H
      refine cZ rfl (cZ rfl (cZ rfl (cZ rfl (cZ rfl (cZ rfl (cZ rfl ?_))))))
      exact fO bD rfl rfl (Tq.fin (.r rfl))
    ·refine iE (aa (aP rfl H (fun H => ?_) (fun H => ?_)))
     ·exact bW (aB (aR (aa (aI (aC bv rfl rfl (aA rfl (ae (aD d5 (J, (c6 + 1), K, L, M) ⟨rfl, fe G, bF G, H, b4⟩ (.cons rfl (.cons rfl (.cons rfl (.cons rfl (.cons rfl (.cons rfl (.cons rfl (.cons (congrArg (fun z => some (Value.int .i64 z)) (eZ G a0)) .nil)))))))) (.r rfl)))))))))
     ·refine aN (aa (ai (aA rfl (aT (bz nz) rfl (Tr.k rfl (ae (aa (az (jb (by kernel_rfl) (by kernel_rfl) (dD rfl (fO jq rfl rfl (dD rfl ?_))))))))))))
      obtain ⟨k5, b8, H⟩ := bnd H
      refine rz 9 [(3, sL i o j), (4, sL d b f), (10, sL D F E), (11, iv a8), (12, sL L K M), (14, pV g5), (15, iv (K.length : Int)), (78, sL d b f), (79, iv (b.length : Int)), (80, iv (c6 : Int)), (113, bV k5)] ?_ ?_
      ·cases c0 : (decide (0 < (K.length : Int)))
       ·rw [c0] at b8
        rw [if_neg (by decide)] at b8
        have H := b8
        obtain rfl := oI H
        refine cZ rfl (cZ rfl (cZ rfl (cZ rfl (cZ rfl (cZ rfl (cZ rfl ?_))))))
        exact cZ rfl (fO bE rfl rfl (Tq.fin (.r rfl)))
       ·rw [c0] at b8
        rw [if_pos rfl] at b8
        have H := b8
        refine kg run_move rfl (kg run_move rfl (ug gH rfl rfl ?_))
        obtain ⟨l4, j2, H⟩ := bnd H
        obtain ⟨h2, h3, h4⟩ := aU j2
        refine Tq.x (fun _ _ a c => ak kS (a.ev rfl) b4 (a.ev rfl) h2 h3) (Tq.x (fun _ _ a c => ah bT (a.ev rfl) (Ac je (k := 43) c rfl h4) rfl) (kg (ag pU) rfl (Tq.x (fun _ _ a c => ah bT (a.ev rfl) (dR c (vs := [iv v.X0, iv v.Y0, iv v.X1, iv v.Y1]) (k := 48) rfl 0) rfl) (ug dL rfl rfl (fO bD rfl rfl ?_)))))
        obtain rfl := oI H
        exact Tq.fin (.r rfl)
      ·refine iE (aa (aP rfl H (fun H => ?_) (fun H => ?_)))
       ·refine aI (aA rfl (aA rfl (aC gH rfl rfl ?_)))
        obtain ⟨k6, d7, H⟩ := bnd H
        exact aG rfl (fun _ _ a c => GL kS (a.ev rfl) b4 (a.ev rfl) d7) (Tr.k rfl (ae (aJ (aa (aI (aC bv rfl rfl (aA rfl (ae (ET 43 d7 rfl (aD d5 (J, (c6 + 1), k6, L, M) ⟨rfl, fe G, bF G, H, (Ee b4 d7)⟩ (.cons rfl (.cons rfl (.cons rfl (.cons rfl (.cons rfl (.cons rfl (.cons rfl (.cons (congrArg (fun z => some (Value.int .i64 z)) (eZ G a0)) .nil)))))))) (.r rfl)))))))))))
       ·refine aI (aA rfl (aT (ag pU) rfl (aG rfl (fun _ _ a c => ah bT (a.ev rfl) (dR c (vs := [iv v.X0, iv v.Y0, iv v.X1, iv v.Y1]) (k := 48) rfl 0) rfl) (dS 49 (e := 3) (vs := [(0, iv v.X0)]) (cs := [iv v.X0]) (wn rfl) rfl (bH rfl eF) (by kernel_rfl) fun l5 => ?_))))
        obtain ⟨k7, j3, H⟩ := bnd H
        exact Tr.append 43 (t := bK) (l := K) (l2 := [v.X0]) (wn rfl) rfl rfl rfl rfl (fun W hW => ⟨[[iv v.X0]], (.cons ⟨(), trivial, rfl⟩ .nil), dR hW (vs := [iv v.X0]) (k := 49) rfl 0⟩) nz zY ML (by decide) Nn rfl j3 fun j4 j5 h5 => (Tr.k rfl (ae (aJ (aa (aI (aC bv rfl rfl (aA rfl (ae (aD d5 (J, (c6 + 1), k7, j4, j5) ⟨rfl, fe G, bF G, H, h5⟩ (.cons rfl (.cons rfl (.cons rfl (.cons rfl (.cons rfl (.cons rfl (.cons rfl (.cons (congrArg (fun z => some (Value.int .i64 z)) (eZ G a0)) .nil)))))))) (.r rfl))))))))))
  ·refine bW (aB (aB (aR (aa (ai (aA rfl (Tr.k rfl (ae (aa (aW ?_))))))))))
   obtain rfl := oI H
   exact Tr.out (m := [sL D F E]) [] (cO rfl bO) (fun W hW => ⟨w, (D, E), leB, rfl, d4, hW.pick (ks := [28]) (by decide) (aH rfl bn)⟩)
 | cons a1 I =>
  rw [iA.eq_2] at H
  refine ai (aC bg rfl rfl (ae (aa (az (eP rfl (fJ a6) (aN (aa (az (Tr.block (ai ?_))))))))))
  obtain ⟨k8, h6, f7, h7⟩ := (a4).el (gy a6)
  obtain ⟨a2, a3⟩ := k8
  have A := f7
  replace A : Sl w.R w.W aX a2 a3 a1 := A
  refine aG rfl (fun _ _ a c => ak Jq (a.ev rfl) a4.form (a.ev rfl) (Int.natCast_nonneg _) (bF a6)) (aG rfl (fun _ _ a c => ah tT (a.ev rfl) (ut h6 h7 c) rfl) (Tr.k rfl (ae (aa (ai (aA rfl (aT (bz qc) rfl (aA rfl (ae (aa (Tr.block (df (σ := (List au) × Nat × (List Int) × (List aQ) × (Option Addr) × Nat × (Option Addr) × Nat) (fun m w s => m = s.1.length + 1 ∧ s.1 = List.drop s.2.1 a1 ∧ s.2.1 ≤ a1.length ∧ iP (iA N I (a9 + 1)) a1 s.1 s.2.1 s.2.2.1 s.2.2.2.1 = some r ∧ dM s.2.2.2.2.1 s.2.2.1.length s.2.2.2.2.2.1 ∧ dM s.2.2.2.2.2.2.1 s.2.2.2.1.length s.2.2.2.2.2.2.2) (fun s => [(3, sL s.2.2.2.2.1 s.2.2.1 s.2.2.2.2.2.1), (4, sL s.2.2.2.2.2.2.1 s.2.2.2.1 s.2.2.2.2.2.2.2), (6, sL a2 a1 a3), (16, sL V p0 Z), (17, iv (p0.length : Int)), (18, iv (a9 : Int)), (22, sL a2 a1 a3), (23, iv (a1.length : Int)), (24, iv (s.2.1 : Int))]) (fun s => [(2, ow s.2.2.2.2.1 s.2.2.2.2.2.1 3 bK s.2.2.1), (3, ow s.2.2.2.2.2.2.1 s.2.2.2.2.2.2.2 38 bq s.2.2.2.1)]) (a1.length + 1) (a1, 0, a5, S, B, C, d, f) ⟨rfl, rfl, Nat.zero_le _, H, c7, c8⟩ (.r rfl) (.r rfl) (fun _ _ h => absurd h.1 (by simp)) ?_))))))))))))
  intro w d3 m s hs
  obtain ⟨P, d9, c5, b9, c9, d0, c3, c4⟩ := s
  obtain ⟨f1, Q, l6, H, d8, d1⟩ := hs
  replace Q : P = List.drop d9 a1 := Q
  replace H : iP (iA N I (a9 + 1)) a1 P d9 c5 b9 = some r := H
  replace f1 : m + 1 = P.length + 1 := f1
  replace A := A.nL d3
  replace a4 := a4.nL d3
  replace d2 := d2.trans d3
  replace d8 : dM c9 c5.length d0 := d8
  replace d1 : dM c3 b9.length c4 := d1
  obtain rfl : m = P.length := by omega
  clear f1
  dsimp only
  cases P with
  | nil =>
   rw [iP.eq_1] at H
   exact ai (aC bg rfl rfl (ae (aa (az (eQ rfl (dZ Q) (bW (aB (aB (aR (aJ (aa (aI (aC bv rfl rfl (aA rfl (ae (aD d2 (I, (a9 + 1), c5, b9, c9, d0, c3, c4) ⟨rfl, fe a6, bF a6, H, d8, d1⟩ (.cons rfl (.cons rfl (.cons rfl (.cons rfl (.cons (congrArg (fun z => some (Value.int .i64 z)) (eZ a6 a4.form)) .nil))))) (.r rfl)))))))))))))))))
  | cons g P =>
   rw [iP.eq_2] at H
   refine ai (aC bg rfl rfl (ae (aa (az (eP rfl (fJ Q) (aN (aa (az (Tr.block (ai (aA rfl (aG rfl (fun _ _ a c => ak qH (a.ev rfl) A.form (a.ev rfl) (Int.natCast_nonneg _) (bF Q)) (aG rfl (fun _ _ a c => aM (cs := [iv g.X, iv g.Y]) jZ gV (a.ev rfl) (aF.take (uZ jF A (gy Q) c) 2) rfl) (Tr.alloc 58 (wn rfl) rfl vQ fun l7 => (Tr.k rfl (bJ 58 (cs := [iv g.X, iv g.Y]) [iv g.X, iv g.Y] (wn rfl) rfl rfl rfl rfl gV rfl rfl rfl (ae (aa (ai (aA rfl (aA rfl (aC bv rfl rfl (aA rfl (aT (bz qc) rfl ?_))))))))))))))))))))))))
   obtain ⟨l8, j6, H⟩ := bnd H
   refine aG rfl (fun _ _ a c => GM (a.ev rfl) (a.ev rfl) j6) ?_
   obtain ⟨q, j7, H⟩ := bnd H
   obtain ⟨h8, h9, i0⟩ := aU j7
   refine aG rfl (fun _ _ a c => ak qH (a.ev rfl) A.form (a.ev rfl) h8 h9) (aG rfl (fun _ _ a c => aM (cs := [iv q.X, iv q.Y]) jZ gV (a.ev rfl) (aF.take (uZ jF A i0 c) 2) rfl) (Tr.alloc 59 (wn rfl) rfl vQ fun l9 => (bJ 59 (cs := [iv q.X, iv q.Y]) [iv q.X, iv q.Y] (wn rfl) rfl rfl rfl rfl gV rfl rfl rfl (ae (aa (ai (aA rfl (aT (ag lm) rfl (aG rfl (fun _ _ a c => ah bT (a.ev rfl) (dR c (vs := [iv g.X, iv g.Y]) (k := 58) rfl 1) rfl) (dS 60 (e := 3) (vs := [(0, iv g.Y)]) (cs := [iv g.Y]) (wn rfl) rfl (bH rfl eF) (by kernel_rfl) fun m0 => ?_))))))))))
   obtain ⟨i1, j8, H⟩ := bnd H
   refine Tr.append 2 (t := bK) (l := c5) (l2 := [g.Y]) (wn rfl) rfl rfl rfl rfl (fun W hW => ⟨[[iv g.Y]], (.cons ⟨(), trivial, rfl⟩ .nil), dR hW (vs := [iv g.Y]) (k := 60) rfl 0⟩) nz zY ML (by decide) Nn rfl j8 fun f3 f4 e0 => (Tr.k rfl (ae (aa (ai (aT (ag nC) rfl (aG rfl (fun _ _ a c => ah bT (a.ev rfl) (dR c (vs := [iv g.X, iv g.Y]) (k := 58) rfl 0) rfl) (aT (ag nC) rfl (aG rfl (fun _ _ a c => ah bT (a.ev rfl) (dR c (vs := [iv q.X, iv q.Y]) (k := 59) rfl 0) rfl) (aC dL rfl rfl (ae (aa (aP rfl H (fun H => ?_) (fun H => ?_)))))))))))))
   ·refine aI (aA rfl (aT (ag nC) rfl (aG rfl (fun _ _ a c => ah bT (a.ev rfl) (dR c (vs := [iv g.X, iv g.Y]) (k := 58) rfl 0) rfl) (aT (ag lm) rfl (aG rfl (fun _ _ a c => ah bT (a.ev rfl) (dR c (vs := [iv g.X, iv g.Y]) (k := 58) rfl 1) rfl) (aT (ag lm) rfl (aG rfl (fun _ _ a c => ah bT (a.ev rfl) (dR c (vs := [iv q.X, iv q.Y]) (k := 59) rfl 1) rfl) (aG rfl (fun _ _ a c => xz (a.ev rfl) (a.ev rfl) _) (aT (ag lm) rfl (aG rfl (fun _ _ a c => ah bT (a.ev rfl) (dR c (vs := [iv g.X, iv g.Y]) (k := 58) rfl 1) rfl) (aT (ag lm) rfl (aG rfl (fun _ _ a c => ah bT (a.ev rfl) (dR c (vs := [iv q.X, iv q.Y]) (k := 59) rfl 1) rfl) (aG rfl (fun _ _ a c => zq (a.ev rfl) (a.ev rfl) _) ?_)))))))))))))
    refine jh (vs := [(0, iv g.X), (1, iv (min g.Y q.Y)), (3, iv (max g.Y q.Y))]) (cs := [iv g.X, iv (min g.Y q.Y), iv 0, iv (max g.Y q.Y)]) (wn rfl) rfl (bH rfl (bH rfl (bH rfl eF))) (by kernel_rfl) (dS 61 (e := 38) (vs := [(0, .agg #[iv g.X, iv (min g.Y q.Y), iv 0, iv (max g.Y q.Y)])]) (cs := [iv g.X, iv (min g.Y q.Y), iv 0, iv (max g.Y q.Y)]) (wn rfl) rfl (bH rfl eF) (by kernel_rfl) fun m1 => ?_)
    obtain ⟨k9, j9, H⟩ := bnd H
    exact Tr.append 3 (t := bq) (l := b9) (l2 := [(aQ.mk g.X (min g.Y q.Y) 0 (max g.Y q.Y))]) (wn rfl) rfl rfl rfl rfl (fun W hW => ⟨[[iv g.X, iv (min g.Y q.Y), iv 0, iv (max g.Y q.Y)]], (.cons ⟨(), trivial, rfl⟩ .nil), dR hW (vs := [iv g.X, iv (min g.Y q.Y), iv 0, iv (max g.Y q.Y)]) (k := 61) rfl 0⟩) sH mI La (by decide) Mt rfl j9 fun k0 k1 i2 => (Tr.k rfl (ae (aJ (aa (aI (aC bv rfl rfl (aA rfl (ae (aD d3 (P, (d9 + 1), i1, k9, f3, f4, k0, k1) ⟨rfl, fe Q, bF Q, H, e0, i2⟩ (.cons rfl (.cons rfl (.cons rfl (.cons rfl (.cons rfl (.cons rfl (.cons rfl (.cons rfl (.cons (congrArg (fun z => some (Value.int .i64 z)) (eZ Q A.form)) .nil))))))))) (.r rfl))))))))))
   ·exact aN (aJ (aa (aI (aC bv rfl rfl (aA rfl (ae (aD d3 (P, (d9 + 1), i1, b9, f3, f4, c3, c4) ⟨rfl, fe Q, bF Q, H, e0, d1⟩ (.cons rfl (.cons rfl (.cons rfl (.cons rfl (.cons rfl (.cons rfl (.cons rfl (.cons rfl (.cons (congrArg (fun z => some (Value.int .i64 z)) (eZ Q A.form)) .nil))))))))) (.r rfl))))))))

theorem vP {w : Bs} (p0 : au) (r : Bool) (H : iC p0 = some r) (hE : HF w w.W E0) : Calls Tryz.prog 216 [.agg #[iv p0.X, iv p0.Y]].toArray w.W fun e W' => e = .returned (bV r) ∧ HF w W' E0 := by
 unfold iC at H
 have leB := Bs.Le.refl w
 refine aZ (n := 6) Tryz.func216 rfl rfl rfl hE (ai (gN 1 (cs := [iv p0.X, iv p0.Y]) (wn rfl) rfl rfl rfl fun f => (Tr.k rfl (ae (aa (ai (aG rfl (fun _ _ a c => aM (cs := [iv p0.X, iv p0.Y]) jZ gV (a.ev rfl) (aF.take (dR c (vs := [iv p0.X, iv p0.Y]) (k := 1) rfl 0) 2) rfl) ?_)))))))
 obtain ⟨b, d, H⟩ := bnd H
 refine di (r := (bV b)) (wn rfl) rfl Tryz.call210 (aj rfl aL) (fun W hW => Ay p0 b d (HF.start _)) (aT jC rfl (Tr.k rfl (ae (aa (aW ?_)))))
 obtain rfl := oI H
 exact dQ leB

theorem xg (N : Nat) {w : Bs} (p0 : eT) (f : Option Addr) (g : Nat) (i : Sl w.R w.W aY f g p0.p.Tools) (j : Option Addr) (o : Nat) (q : Sl w.R w.W ay j o p0.p.Steps) (v : Option Addr) (A : Nat) (B : Sl w.R w.W jc v A p0.tools) (b : Option Addr) (d : Nat) (Q : Nat) (p1 : (List au)) (a3 : Option Addr) (a4 : Nat) (Z : Sl w.R w.W aX a3 a4 p1) (p2 : au) (r : (Int × (List aV))) (H : kM N p0 p1 p2 = some r) (hE : HF w w.W (iF [bx Q #[iv p0.p.Unit, sL f p0.p.Tools g, sL j p0.p.Steps o, sL v p0.tools A, sL b p0.image d, bV p0.clear, iv p0.tool, iv p0.place.X, iv p0.place.Y, bV p0.placed, iv p0.off, iv p0.on] 95, ow b d 98 aS p0.image])) : Calls Tryz.prog 189 [pV Q, sL a3 p1 a4, .agg #[iv p2.X, iv p2.Y]].toArray w.W fun e W' => ∃ (w' : Bs) (u : (Option Addr × Nat)), w.Le w' ∧ e = .returned (iv r.1) ∧ (dM u.1 r.2.length u.2) ∧ HF w' W' (iF [bx Q #[iv p0.p.Unit, sL f p0.p.Tools g, sL j p0.p.Steps o, sL v p0.tools A, sL u.1 r.2 u.2, bV p0.clear, iv p0.tool, iv p0.place.X, iv p0.place.Y, bV p0.placed, iv p0.off, iv p0.on] 95, ow u.1 u.2 98 aS r.2]) := by
 unfold kM at H
 have a6 := (hE.sl (k := 1) rfl).form
 have leB := Bs.Le.refl w
 refine aZ (n := 36) Tryz.func189 rfl rfl rfl hE (ai (gN 2 (cs := [iv p2.X, iv p2.Y]) (wn rfl) rfl rfl rfl fun a7 => (Tr.k rfl (ae (aa (ai (Tr.k rfl (bM 3 47 aX ?_))))))))
 show Tr _ _ (uf _ 7 (sL none (([] : List au)) 0)) _ _
 refine ae (aa (az (ai (aA rfl (aT (bz qc) rfl (aA rfl (ae (aa (Tr.block (df (σ := (List au) × Nat × (List au) × (Option Addr) × Nat) (fun m w s => m = s.1.length + 1 ∧ s.1 = List.drop s.2.1 p1 ∧ s.2.1 ≤ p1.length ∧ fM N p0 p2 s.1 s.2.1 s.2.2.1 = some r ∧ dM s.2.2.2.1 s.2.2.1.length s.2.2.2.2) (fun s => [(0, pV Q), (5, pV a7), (7, sL s.2.2.2.1 s.2.2.1 s.2.2.2.2), (11, sL a3 p1 a4), (12, iv (p1.length : Int)), (13, iv (s.2.1 : Int))]) (fun s => [(0, bx Q #[iv p0.p.Unit, sL f p0.p.Tools g, sL j p0.p.Steps o, sL v p0.tools A, sL b p0.image d, bV p0.clear, iv p0.tool, iv p0.place.X, iv p0.place.Y, bV p0.placed, iv p0.off, iv p0.on] 95), (1, ow b d 98 aS p0.image), (2, bx a7 #[iv p2.X, iv p2.Y] 47), (3, ow s.2.2.2.1 s.2.2.2.2 47 aX s.2.2.1)]) (p1.length + 1) (p1, 0, ([] : List au), none, 0) ⟨rfl, rfl, Nat.zero_le _, H, gL⟩ (.r rfl) (.r rfl) (fun _ _ h => absurd h.1 (by simp)) ?_))))))))))
 intro w a2 m s hs
 obtain ⟨D, b2, F, K, L⟩ := s
 obtain ⟨b0, M, d2, H, d1⟩ := hs
 replace M : D = List.drop b2 p1 := M
 replace H : fM N p0 p2 D b2 F = some r := H
 replace b0 : m + 1 = D.length + 1 := b0
 replace i := i.nL a2
 replace q := q.nL a2
 replace B := B.nL a2
 replace Z := Z.nL a2
 replace leB := leB.trans a2
 obtain rfl : m = D.length := by omega
 clear b0
 dsimp only
 cases D with
 | nil =>
  rw [fM.eq_1] at H
  refine ai (aC bg rfl rfl (ae (aa (az (eQ rfl (dZ M) (bW (aB (aB (aR (aa (ai (aA rfl (Tr.freeze 3 rfl fun w a5 E => ?_)))))))))))))
  replace i := i.nL a5
  replace q := q.nL a5
  replace B := B.nL a5
  replace leB := leB.trans a5
  refine dS 8 (e := 43) (vs := [(0, sL K F L)]) (cs := [sL K F L]) (wn rfl) rfl (bH rfl eF) (by kernel_rfl) fun c8 => (Tr.own 8 dV [F] (css := [[sL K F L]]) rfl (.cons ⟨(K, L), E, rfl⟩ .nil) rfl (by decide) (vU rfl) ?_)
  obtain ⟨P, b8, H⟩ := bnd H
  refine fq [9] [emp] (U := (Option Addr × Nat)) (fun u => (sL u.1 P u.2)) (fun O W u => dM u.1 P.length u.2) (fun u => [ow u.1 u.2 98 aS P]) rfl (aH rfl bn) (fun _ => rfl) (wn rfl) rfl Tryz.call214 (aj rfl aL) (fun W hW hp hE => Bw N [F] (some ⟨c8, 0, none⟩) 1 (hW.Qq (k := 8) rfl hp rfl) P b8 hE) ?_
  intro w u a0 hu
  obtain ⟨I, J⟩ := u
  have b3 := hu
  replace i := i.nL a0
  replace q := q.nL a0
  replace B := B.nL a0
  replace E := E.le a0
  replace leB := leB.trans a0
  have c9 : dM I P.length J := b3 --@phi
  dsimp only
  refine Tr.k rfl (ae (aa (az (ai (aA rfl ?_)))))
  obtain ⟨b5, b9, H⟩ := bnd H
  refine di (r := (iv b5)) (wn rfl) rfl Tryz.call215 (aj rfl aL) (fun W hW => ui P I J (hW.sK (k := 9) rfl) b5 b9 (HF.start _)) (aC jq rfl rfl (ae (aa (aP rfl H (fun H => ?_) (fun H => ?_)))))
  ·refine ai (Tr.k rfl (ae (aa (aW (aK ?_)))))
   obtain rfl := oI H
   exact Tr.out (m := [iv 2]) [] (cO rfl bO) (fun W hW => ⟨w, (b, d), leB, rfl, a6, hW.pick (ks := [0, 1]) (by decide) (aH rfl (aH rfl bn))⟩)
  ·refine aN (aa (az (ai (aA rfl ?_))))
   obtain ⟨b6, c0, H⟩ := bnd H
   refine di (r := (bV b6)) (wn rfl) rfl Tryz.call137 (aj rfl (aj rfl aL)) (fun W hW => oq F K L (E.rl.ext hW.cB) (fun z0 => iC z0) 216 [] Tryz.call216 (fun w' he z0 y hy => vP z0 y hy (HF.start _)) b6 c0 (HF.start _)) (ae (aa (aP rfl H (fun H => ?_) (fun H => ?_))))
   ·refine ai (Tr.k rfl (ae (aa (aW (aK ?_)))))
    obtain rfl := oI H
    exact Tr.out (m := [iv 1]) [] (cO rfl bO) (fun W hW => ⟨w, (b, d), leB, rfl, a6, hW.pick (ks := [0, 1]) (by decide) (aH rfl (aH rfl bn))⟩)
   ·refine aN (aa (ai (aA rfl (aA rfl (Tr.freeze 9 rfl fun w a1 a8 => ?_)))))
    replace i := i.nL a1
    replace q := q.nL a1
    replace B := B.nL a1
    replace E := E.le a1
    replace leB := leB.trans a1
    obtain ⟨G, c3, H⟩ := bnd H
    refine fq [0, 1] [bx Q #[iv p0.p.Unit, sL f p0.p.Tools g, sL j p0.p.Steps o, sL v p0.tools A, sL b p0.image d, bV p0.clear, iv p0.tool, iv p0.place.X, iv p0.place.Y, bV p0.placed, iv p0.off, iv p0.on] 95, ow b d 98 aS p0.image] (U := (Option Addr × Nat)) (fun u => (iv G.1)) (fun O W u => dM u.1 G.2.length u.2) (fun u => [bx Q #[iv p0.p.Unit, sL f p0.p.Tools g, sL j p0.p.Steps o, sL v p0.tools A, sL u.1 G.2 u.2, bV p0.clear, iv p0.tool, iv p0.place.X, iv p0.place.Y, bV p0.placed, iv p0.off, iv p0.on] 95, ow u.1 u.2 98 aS G.2]) rfl (aH rfl (aH rfl bn)) (fun _ => rfl) (wn rfl) rfl Tryz.call212 (aj rfl (aj rfl aL)) (fun W hW hp hE => xe N p0 f g (i.ext (hW.gM hp)) j o (q.ext (hW.gM hp)) v A (B.ext (hW.gM hp)) b d Q P I J (a8.qK (hW.gM hp)) G c3 hE) ?_
    intro w u a9 hu
    obtain ⟨T, V⟩ := u
    have b4 := hu
    replace E := E.le a9
    replace a8 := a8.le a9
    replace leB := leB.trans a9
    have b1 : dM T G.2.length V := b4 --@phi
    dsimp only
    refine Tr.k rfl (ae (aa (aW ?_)))
    obtain rfl := oI H
    exact Tr.out (m := [iv G.1]) [] (cO rfl bO) (fun W hW => ⟨w, (T, V), leB, rfl, b1, hW.pick (ks := [0, 1]) (by decide) (aH rfl (aH rfl bn))⟩)
 | cons S D =>
  rw [fM.eq_2] at H
  refine ai (aC bg rfl rfl (ae (aa (az (eP rfl (fJ M) (aN (aa (az (Tr.block (ai (aG rfl (fun _ _ a c => ak qH (a.ev rfl) Z.form (a.ev rfl) (Int.natCast_nonneg _) (bF M)) (aG rfl (fun _ _ a c => aM (cs := [iv S.X, iv S.Y]) jZ gV (a.ev rfl) (aF.take (uZ jF Z (gy M) c) 2) rfl) (Tr.alloc 10 (wn rfl) rfl vQ fun d3 => (bJ 10 (cs := [iv S.X, iv S.Y]) [iv S.X, iv S.Y] (wn rfl) rfl rfl rfl rfl gV rfl rfl rfl (ae (aa (aI (aA rfl (aA rfl (aG rfl (fun _ _ a c => aM (cs := [iv S.X, iv S.Y]) jZ gV (a.ev rfl) (aF.take (dR c (vs := [iv S.X, iv S.Y]) (k := 10) rfl 0) 2) rfl) (aG rfl (fun _ _ a c => aM (cs := [iv p2.X, iv p2.Y]) jZ gV (a.ev rfl) (aF.take (dR c (vs := [iv p2.X, iv p2.Y]) (k := 2) rfl 0) 2) rfl) ?_)))))))))))))))))))))
  obtain ⟨C, c4, H⟩ := bnd H
  refine di (r := (.agg #[iv C.X, iv C.Y])) (wn rfl) rfl Tryz.call185 (aj rfl (aj rfl (aj rfl aL))) (fun W hW => qX p0 f g (i.ext hW.cB) j o (q.ext hW.cB) v A (B.ext hW.cB) b d (hW.sK (k := 1) rfl) Q (hW.CO (k := 0) rfl) (hW.EL (k := 0) rfl) S p2 C c4 (HF.start _)) (dS 11 (e := 47) (vs := [(0, .agg #[iv C.X, iv C.Y])]) (cs := [iv C.X, iv C.Y]) (wn rfl) rfl (bH rfl eF) (by kernel_rfl) fun d4 => ?_)
  obtain ⟨d0, c5, H⟩ := bnd H
  exact Tr.append 3 (t := aX) (l := F) (l2 := [C]) (wn rfl) rfl rfl rfl rfl (fun W hW => ⟨[[iv C.X, iv C.Y]], (.cons ⟨(), trivial, rfl⟩ .nil), dR hW (vs := [iv C.X, iv C.Y]) (k := 11) rfl 0⟩) qc gV Ik (by decide) Jz rfl c5 fun c6 c7 b7 => (Tr.k rfl (ae (aJ (aa (aI (aC bv rfl rfl (aA rfl (ae (aD a2 (D, (b2 + 1), d0, c6, c7) ⟨rfl, fe M, bF M, H, b7⟩ (.cons rfl (.cons rfl (.cons rfl (.cons rfl (.cons rfl (.cons (congrArg (fun z => some (Value.int .i64 z)) (eZ M Z.form)) .nil)))))) (.r rfl))))))))))

theorem xc (rec : eT → (List av) → au → Option (Int × Bool × (List aV))) (hrec : ∀ {w : Bs} (p0 : eT) (f : Option Addr) (g : Nat) (E : Sl w.R w.W aY f g p0.p.Tools) (h : Option Addr) (i : Nat) (F : Sl w.R w.W ay h i p0.p.Steps) (j : Option Addr) (l : Nat) (G : Sl w.R w.W jc j l p0.tools) (b : Option Addr) (d : Nat) (t : Nat) (p1 : (List av)) (o : Option Addr) (q : Nat) (J : Sl w.R w.W ay o q p1) (p2 : au) (r : (Int × Bool × (List aV))) (H : rec p0 p1 p2 = some r) (hE : HF w w.W (iF [bx t #[iv p0.p.Unit, sL f p0.p.Tools g, sL h p0.p.Steps i, sL j p0.tools l, sL b p0.image d, bV p0.clear, iv p0.tool, iv p0.place.X, iv p0.place.Y, bV p0.placed, iv p0.off, iv p0.on] 95, ow b d 98 aS p0.image])), Calls Tryz.prog 94 [pV t, sL o p1 q, .agg #[iv p2.X, iv p2.Y]].toArray w.W fun e W' => ∃ (w' : Bs) (u : (Option Addr × Nat)), w.Le w' ∧ e = .returned (iv r.1) ∧ (dM u.1 r.2.2.length u.2) ∧ HF w' W' (iF [bx t #[iv p0.p.Unit, sL f p0.p.Tools g, sL h p0.p.Steps i, sL j p0.tools l, sL u.1 r.2.2 u.2, bV r.2.1, iv p0.tool, iv p0.place.X, iv p0.place.Y, bV p0.placed, iv p0.off, iv p0.on] 95, ow u.1 u.2 98 aS r.2.2])) (N : Nat) {w : Bs} (p0 : eT) (f : Option Addr) (g : Nat) (E : Sl w.R w.W aY f g p0.p.Tools) (h : Option Addr) (i : Nat) (F : Sl w.R w.W ay h i p0.p.Steps) (j : Option Addr) (l : Nat) (G : Sl w.R w.W jc j l p0.tools) (b : Option Addr) (d : Nat) (t : Nat) (p1 : av) (o : Option Addr) (q : Nat) (J : Sl w.R w.W aX o q p1.Points) (v : Option Addr) (y : Nat) (a4 : Sl w.R w.W ay v y p1.Steps) (p2 : au) (r : (Int × Bool × (List aV))) (H : jw rec N p0 p1 p2 = some r) (hE : HF w w.W (iF [bx t #[iv p0.p.Unit, sL f p0.p.Tools g, sL h p0.p.Steps i, sL j p0.tools l, sL b p0.image d, bV p0.clear, iv p0.tool, iv p0.place.X, iv p0.place.Y, bV p0.placed, iv p0.off, iv p0.on] 95, ow b d 98 aS p0.image])) : Calls Tryz.prog 132 [pV t, .agg #[iv p1.Kind, sv p1.Name, iv p1.At.X, iv p1.At.Y, sL o p1.Points q, iv p1.NX, iv p1.NY, sL v p1.Steps y], .agg #[iv p2.X, iv p2.Y]].toArray w.W fun e W' => ∃ (w' : Bs) (u : (Option Addr × Nat)), w.Le w' ∧ e = .returned (iv r.1) ∧ (dM u.1 r.2.2.length u.2) ∧ HF w' W' (iF [bx t #[iv p0.p.Unit, sL f p0.p.Tools g, sL h p0.p.Steps i, sL j p0.tools l, sL u.1 r.2.2 u.2, bV r.2.1, iv p0.tool, iv p0.place.X, iv p0.place.Y, bV p0.placed, iv p0.off, iv p0.on] 95, ow u.1 u.2 98 aS r.2.2]) := by
 unfold jw at H
 have S := (hE.sl (k := 1) rfl).form
 have leB := Bs.Le.refl w
 refine aZ (n := 116) Tryz.func132 rfl rfl rfl hE (ai (gN 2 (cs := [iv p1.Kind, sv p1.Name, iv p1.At.X, iv p1.At.Y, sL o p1.Points q, iv p1.NX, iv p1.NY, sL v p1.Steps y]) (wn rfl) rfl rfl rfl fun K => (gN 3 (cs := [iv p2.X, iv p2.Y]) (wn rfl) rfl rfl rfl fun L => (Tr.k rfl (ae (aa (ai (aA rfl (aT (ag xN) rfl (aG rfl (fun _ _ a c => aM (cs := [iv p1.At.X, iv p1.At.Y]) jZ gV (a.ev rfl) (aF.take (dR c (vs := [iv p1.Kind, sv p1.Name, iv p1.At.X, iv p1.At.Y, sL o p1.Points q, iv p1.NX, iv p1.NY, sL v p1.Steps y]) (k := 2) rfl 2) 2) rfl) (aG rfl (fun _ _ a c => aM (cs := [iv p2.X, iv p2.Y]) jZ gV (a.ev rfl) (aF.take (dR c (vs := [iv p2.X, iv p2.Y]) (k := 3) rfl 0) 2) rfl) ?_)))))))))))
 obtain ⟨z, a1, H⟩ := bnd H
 refine di (r := (.agg #[iv z.X, iv z.Y])) (wn rfl) rfl Tryz.call185 (aj rfl (aj rfl (aj rfl aL))) (fun W hW => qX p0 f g (E.ext hW.cB) h i (F.ext hW.cB) j l (G.ext hW.cB) b d (hW.sK (k := 1) rfl) t (hW.CO (k := 0) rfl) (hW.EL (k := 0) rfl) p1.At p2 z a1 (HF.start _)) (Tr.alloc 4 (wn rfl) rfl vQ fun M => (bJ 4 (cs := [iv z.X, iv z.Y]) [iv z.X, iv z.Y] (wn rfl) rfl rfl rfl rfl gV rfl rfl rfl (ae (aa ?_))))
 have I := Bs.Le.refl w
 refine kT (σ := Bool) (fun w s => kL p0 s = some r) (fun s => []) (fun s => [(0, bx t #[iv p0.p.Unit, sL f p0.p.Tools g, sL h p0.p.Steps i, sL j p0.tools l, sL b p0.image d, bV s, iv p0.tool, iv p0.place.X, iv p0.place.Y, bV p0.placed, iv p0.off, iv p0.on] 95), (1, ow b d 98 aS p0.image)]) ?_ ?_
 ·refine ai (aT (ag qZ) rfl (aG rfl (fun _ _ a c => ah bT (a.ev rfl) (dR c (vs := [iv p1.Kind, sv p1.Name, iv p1.At.X, iv p1.At.Y, sL o p1.Points q, iv p1.NX, iv p1.NY, sL v p1.Steps y]) (k := 2) rfl 0) rfl) (ae (aa (Tr.block ?_)))))
  have P := Bs.Le.refl w
  refine kT (σ := Bool) (fun w s => jl N p0 p1 p2 s = some r) (fun s => [(0, pV t), (4, pV K), (5, pV L), (7, pV M), (18, iv p1.Kind), (19, bV s)]) (fun s => [(0, bx t #[iv p0.p.Unit, sL f p0.p.Tools g, sL h p0.p.Steps i, sL j p0.tools l, sL b p0.image d, bV p0.clear, iv p0.tool, iv p0.place.X, iv p0.place.Y, bV p0.placed, iv p0.off, iv p0.on] 95), (1, ow b d 98 aS p0.image), (2, bx K #[iv p1.Kind, sv p1.Name, iv p1.At.X, iv p1.At.Y, sL o p1.Points q, iv p1.NX, iv p1.NY, sL v p1.Steps y] 53), (3, bx L #[iv p2.X, iv p2.Y] 47), (4, bx M #[iv z.X, iv z.Y] 47)]) ?_ ?_
  ·refine ai (aC dL rfl rfl (Tr.k rfl (ae (aa (aP rfl H (fun H => ?_) (fun H => ?_))))))
   ·exact aN (aD P (p1.Kind == 1) H (.r rfl) (.r rfl))
   ·exact aI (aC dL rfl rfl (Tr.k rfl (ae (aD P (p1.Kind == 2) H (.r rfl) (.r rfl)))))
  ·intro w V B hs
   have H := hs
   replace H : jl N p0 p1 p2 V = some r := H
   replace E := E.nL B
   replace F := F.nL B
   replace G := G.nL B
   replace J := J.nL B
   replace leB := leB.trans B
   replace I := I.trans B
   unfold jl at H
   show Tr _ _ (LF [(0, pV t), (4, pV K), (5, pV L), (7, pV M), (18, iv p1.Kind), (19, bV V)]) (LE [(0, bx t #[iv p0.p.Unit, sL f p0.p.Tools g, sL h p0.p.Steps i, sL j p0.tools l, sL b p0.image d, bV p0.clear, iv p0.tool, iv p0.place.X, iv p0.place.Y, bV p0.placed, iv p0.off, iv p0.on] 95), (1, ow b d 98 aS p0.image), (2, bx K #[iv p1.Kind, sv p1.Name, iv p1.At.X, iv p1.At.Y, sL o p1.Points q, iv p1.NX, iv p1.NY, sL v p1.Steps y] 53), (3, bx L #[iv p2.X, iv p2.Y] 47), (4, bx M #[iv z.X, iv z.Y] 47)]) _
   refine aP rfl H (fun H => ?_) (fun H => ?_)
   ·exact aI (aA rfl (aT (ag qZ) rfl (aG rfl (fun _ _ a c => ah bT (a.ev rfl) (dR c (vs := [iv p1.Kind, sv p1.Name, iv p1.At.X, iv p1.At.Y, sL o p1.Points q, iv p1.NX, iv p1.NY, sL v p1.Steps y]) (k := 2) rfl 0) rfl) (aC dL rfl rfl (aT iX rfl (aT (ag L9) rfl (bJ 0 (cs := [bV (p1.Kind == 2)]) [iv p0.p.Unit, sL f p0.p.Tools g, sL h p0.p.Steps i, sL j p0.tools l, sL b p0.image d, bV (p1.Kind == 2), iv p0.tool, iv p0.place.X, iv p0.place.Y, bV p0.placed, iv p0.off, iv p0.on] (wn rfl) rfl rfl rfl rfl R6 rfl rfl rfl (ae (aJ (aD I (p1.Kind == 2) H .nil (.r rfl)))))))))))
   ·refine ai (aC dL rfl rfl (Tr.k rfl (ae (aa (aP rfl H (fun H => ?_) (fun H => ?_))))))
    ·cases H
    ·refine ai (aC dL rfl rfl (Tr.k rfl (ae (aa (aP rfl H (fun H => ?_) (fun H => ?_))))))
     ·refine az ?_
      cases H
     ·refine ai (aC dL rfl rfl (Tr.k rfl (ae (aa (aP rfl H (fun H => ?_) (fun H => ?_))))))
      ·refine az ?_
       cases H
      ·refine ai (aC dL rfl rfl (Tr.k rfl (ae (aa (aP rfl H (fun H => ?_) (fun H => ?_))))))
       ·refine az ?_
        cases H
       ·refine ai (aC dL rfl rfl (Tr.k rfl (ae (aa (aP rfl H (fun H => ?_) (fun H => ?_))))))
        ·refine ai (aA rfl (aT (ag qY) rfl (aG rfl (fun _ _ a c => ah tT (a.ev rfl) (dR c (vs := [iv p1.Kind, sv p1.Name, iv p1.At.X, iv p1.At.Y, sL o p1.Points q, iv p1.NX, iv p1.NY, sL v p1.Steps y]) (k := 2) rfl 4) rfl) (aG rfl (fun _ _ a c => aM (cs := [iv p2.X, iv p2.Y]) jZ gV (a.ev rfl) (aF.take (dR c (vs := [iv p2.X, iv p2.Y]) (k := 3) rfl 0) 2) rfl) ?_))))
         obtain ⟨A, a2, H⟩ := bnd H
         refine fq [0, 1] [bx t #[iv p0.p.Unit, sL f p0.p.Tools g, sL h p0.p.Steps i, sL j p0.tools l, sL b p0.image d, bV p0.clear, iv p0.tool, iv p0.place.X, iv p0.place.Y, bV p0.placed, iv p0.off, iv p0.on] 95, ow b d 98 aS p0.image] (U := (Option Addr × Nat)) (fun u => (iv A.1)) (fun O W u => dM u.1 A.2.length u.2) (fun u => [bx t #[iv p0.p.Unit, sL f p0.p.Tools g, sL h p0.p.Steps i, sL j p0.tools l, sL u.1 A.2 u.2, bV p0.clear, iv p0.tool, iv p0.place.X, iv p0.place.Y, bV p0.placed, iv p0.off, iv p0.on] 95, ow u.1 u.2 98 aS A.2]) rfl (aH rfl (aH rfl bn)) (fun _ => rfl) (wn rfl) rfl Tryz.call189 (aj rfl (aj rfl (aj rfl aL))) (fun W hW hp hE => xg N p0 f g (E.ext (hW.gM hp)) h i (F.ext (hW.gM hp)) j l (G.ext (hW.gM hp)) b d t p1.Points o q (J.ext (hW.gM hp)) p2 A a2 hE) ?_
         intro w u a3 hu
         obtain ⟨C, D⟩ := u
         have T := hu
         replace leB := leB.trans a3
         have Q : dM C A.2.length D := T --@phi
         dsimp only
         refine Tr.k rfl (ae (aa (aW (bL (aK ?_)))))
         obtain rfl := oI H
         exact Tr.out (m := [iv A.1]) [] (cO rfl bO) (fun W hW => ⟨w, (C, D), leB, rfl, Q, hW.pick (ks := [0, 1]) (by decide) (aH rfl (aH rfl bn))⟩)
        ·refine ai (aC dL rfl rfl (Tr.k rfl (ae (aa (aP rfl H (fun H => ?_) (fun H => ?_))))))
         ·refine az ?_
          cases H
         ·exact aN (aJ (aD I p0.clear H .nil (.r rfl)))
 ·intro w Z a0 hs
  have H := hs
  replace H : kL p0 Z = some r := H
  replace leB := leB.trans a0
  unfold kL at H
  show Tr _ _ (LF []) (LE [(0, bx t #[iv p0.p.Unit, sL f p0.p.Tools g, sL h p0.p.Steps i, sL j p0.tools l, sL b p0.image d, bV Z, iv p0.tool, iv p0.place.X, iv p0.place.Y, bV p0.placed, iv p0.off, iv p0.on] 95), (1, ow b d 98 aS p0.image)]) _
  refine ai (Tr.k rfl (ae (aa (aW ?_))))
  obtain rfl := oI H
  exact Tr.out (m := [iv 0]) [] (cO rfl bO) (fun W hW => ⟨w, (b, d), leB, rfl, S, hW.pick (ks := [0, 1]) (by decide) (aH rfl (aH rfl bn))⟩)
theorem wH (N : Nat) (rec : eT → (List av) → au → Option (Int × Bool × (List aV))) (hrec : ∀ {w : Bs} (p0 : eT) (d : Option Addr) (f : Nat) (V : Sl w.R w.W aY d f p0.p.Tools) (g : Option Addr) (i : Nat) (Z : Sl w.R w.W ay g i p0.p.Steps) (j : Option Addr) (l : Nat) (a0 : Sl w.R w.W jc j l p0.tools) (Q : Option Addr) (S : Nat) (A : Nat) (p1 : (List av)) (F : Option Addr) (G : Nat) (C : Sl w.R w.W ay F G p1) (p2 : au) (r : (Int × Bool × (List aV))) (H : rec p0 p1 p2 = some r) (hE : HF w w.W (iF [bx A #[iv p0.p.Unit, sL d p0.p.Tools f, sL g p0.p.Steps i, sL j p0.tools l, sL Q p0.image S, bV p0.clear, iv p0.tool, iv p0.place.X, iv p0.place.Y, bV p0.placed, iv p0.off, iv p0.on] 95, ow Q S 98 aS p0.image])), Calls Tryz.prog 94 [pV A, sL F p1 G, .agg #[iv p2.X, iv p2.Y]].toArray w.W fun e W' => ∃ (w' : Bs) (u : (Option Addr × Nat)), w.Le w' ∧ e = .returned (iv r.1) ∧ (dM u.1 r.2.2.length u.2) ∧ HF w' W' (iF [bx A #[iv p0.p.Unit, sL d p0.p.Tools f, sL g p0.p.Steps i, sL j p0.tools l, sL u.1 r.2.2 u.2, bV r.2.1, iv p0.tool, iv p0.place.X, iv p0.place.Y, bV p0.placed, iv p0.off, iv p0.on] 95, ow u.1 u.2 98 aS r.2.2])) {w : Bs} (p0 : eT) (d : Option Addr) (f : Nat) (V : Sl w.R w.W aY d f p0.p.Tools) (g : Option Addr) (i : Nat) (Z : Sl w.R w.W ay g i p0.p.Steps) (j : Option Addr) (l : Nat) (a0 : Sl w.R w.W jc j l p0.tools) (Q : Option Addr) (S : Nat) (A : Nat) (p1 : (List av)) (F : Option Addr) (G : Nat) (C : Sl w.R w.W ay F G p1) (p2 : au) (r : (Int × Bool × (List aV))) (H : pQ N rec p0 p1 p2 = some r) (hE : HF w w.W (iF [bx A #[iv p0.p.Unit, sL d p0.p.Tools f, sL g p0.p.Steps i, sL j p0.tools l, sL Q p0.image S, bV p0.clear, iv p0.tool, iv p0.place.X, iv p0.place.Y, bV p0.placed, iv p0.off, iv p0.on] 95, ow Q S 98 aS p0.image])) : Calls Tryz.prog 94 [pV A, sL F p1 G, .agg #[iv p2.X, iv p2.Y]].toArray w.W fun e W' => ∃ (w' : Bs) (u : (Option Addr × Nat)), w.Le w' ∧ e = .returned (iv r.1) ∧ (dM u.1 r.2.2.length u.2) ∧ HF w' W' (iF [bx A #[iv p0.p.Unit, sL d p0.p.Tools f, sL g p0.p.Steps i, sL j p0.tools l, sL u.1 r.2.2 u.2, bV r.2.1, iv p0.tool, iv p0.place.X, iv p0.place.Y, bV p0.placed, iv p0.off, iv p0.on] 95, ow u.1 u.2 98 aS r.2.2]) := by
 unfold pQ at H
 have a9 := (hE.sl (k := 1) rfl).form
 have leB := Bs.Le.refl w
 refine aZ (n := 24) Tryz.func94 rfl rfl rfl hE (ai (gN 2 (cs := [iv p2.X, iv p2.Y]) (wn rfl) rfl rfl rfl fun a4 => (Tr.k rfl (ae (aa (az (ai (aA rfl (aT (bz tH) rfl (aA rfl (ae (aa (Tr.block (df (σ := (List av) × Nat × (List aV) × Bool × (Option Addr) × Nat) (fun m w s => m = s.1.length + 1 ∧ s.1 = List.drop s.2.1 p1 ∧ s.2.1 ≤ p1.length ∧ gm N p0 p2 rec s.1 s.2.1 s.2.2.1 s.2.2.2.1 = some r ∧ dM s.2.2.2.2.1 s.2.2.1.length s.2.2.2.2.2) (fun s => [(0, pV A), (5, pV a4), (10, sL F p1 G), (11, iv (p1.length : Int)), (12, iv (s.2.1 : Int))]) (fun s => [(0, bx A #[iv p0.p.Unit, sL d p0.p.Tools f, sL g p0.p.Steps i, sL j p0.tools l, sL s.2.2.2.2.1 s.2.2.1 s.2.2.2.2.2, bV s.2.2.2.1, iv p0.tool, iv p0.place.X, iv p0.place.Y, bV p0.placed, iv p0.off, iv p0.on] 95), (1, ow s.2.2.2.2.1 s.2.2.2.2.2 98 aS s.2.2.1), (2, bx a4 #[iv p2.X, iv p2.Y] 47)]) (p1.length + 1) (p1, 0, p0.image, p0.clear, Q, S) ⟨rfl, rfl, Nat.zero_le _, H, a9⟩ (.r rfl) (.r rfl) (fun _ _ h => absurd h.1 (by simp)) ?_))))))))))))))
 intro w L m s hs
 obtain ⟨B, a8, T, a5, I, J⟩ := s
 obtain ⟨a7, K, b5, H, a6⟩ := hs
 replace K : B = List.drop a8 p1 := K
 replace H : gm N p0 p2 rec B a8 T a5 = some r := H
 replace a7 : m + 1 = B.length + 1 := a7
 replace V := V.nL L
 replace Z := Z.nL L
 replace a0 := a0.nL L
 replace C := C.nL L
 replace leB := leB.trans L
 replace a6 : dM I T.length J := a6
 obtain rfl : m = B.length := by omega
 clear a7
 dsimp only
 cases B with
 | nil =>
  rw [gm.eq_1] at H
  refine ai (aC bg rfl rfl (ae (aa (az (eQ rfl (dZ K) (bW (aB (aB (aR (aa (ai (Tr.k rfl (ae (aa (aW ?_)))))))))))))))
  obtain rfl := oI H
  exact Tr.out (m := [iv 0]) [] (cO rfl bO) (fun W hW => ⟨w, (I, J), leB, rfl, a6, hW.pick (ks := [0, 1]) (by decide) (aH rfl (aH rfl bn))⟩)
 | cons b B =>
  rw [gm.eq_2] at H
  refine ai (aC bg rfl rfl (ae (aa (az (eP rfl (fJ K) (aN (aa (az (Tr.block (ai ?_))))))))))
  obtain ⟨b4, a2, b0, b2⟩ := (C).el (gy K)
  obtain ⟨⟨q, t⟩, ⟨v, y⟩⟩ := b4
  obtain ⟨M, P⟩ := kw.1 b0
  replace M : Sl w.R w.W aX q t b.Points := M
  replace P : Sl w.R w.W ay v y b.Steps := P
  refine aG rfl (fun _ _ a c => ak wS (a.ev rfl) C.form (a.ev rfl) (Int.natCast_nonneg _) (bF K)) (aG rfl (fun _ _ a c => aM (cs := [iv b.Kind, sv b.Name, iv b.At.X, iv b.At.Y, sL q b.Points t, iv b.NX, iv b.NY, sL v b.Steps y]) yY qF (a.ev rfl) (aF.take (ut a2 b2 c) 8) rfl) (Tr.alloc 5 (wn rfl) rfl AJ fun b6 => (bJ 5 (cs := [iv b.Kind, sv b.Name, iv b.At.X, iv b.At.Y, sL q b.Points t, iv b.NX, iv b.NY, sL v b.Steps y]) [iv b.Kind, sv b.Name, iv b.At.X, iv b.At.Y, sL q b.Points t, iv b.NX, iv b.NY, sL v b.Steps y] (wn rfl) rfl rfl rfl rfl qF rfl rfl rfl (ae (aa (ai (aA rfl (aG rfl (fun _ _ a c => aM (cs := [iv b.Kind, sv b.Name, iv b.At.X, iv b.At.Y, sL q b.Points t, iv b.NX, iv b.NY, sL v b.Steps y]) yY qF (a.ev rfl) (aF.take (dR c (vs := [iv b.Kind, sv b.Name, iv b.At.X, iv b.At.Y, sL q b.Points t, iv b.NX, iv b.NY, sL v b.Steps y]) (k := 5) rfl 0) 8) rfl) (aG rfl (fun _ _ a c => aM (cs := [iv p2.X, iv p2.Y]) jZ gV (a.ev rfl) (aF.take (dR c (vs := [iv p2.X, iv p2.Y]) (k := 2) rfl 0) 2) rfl) ?_)))))))))
  obtain ⟨o, b3, H⟩ := bnd H
  refine fq [0, 1] [bx A #[iv p0.p.Unit, sL d p0.p.Tools f, sL g p0.p.Steps i, sL j p0.tools l, sL I T J, bV a5, iv p0.tool, iv p0.place.X, iv p0.place.Y, bV p0.placed, iv p0.off, iv p0.on] 95, ow I J 98 aS T] (U := (Option Addr × Nat)) (fun u => (iv o.1)) (fun O W u => dM u.1 o.2.2.length u.2) (fun u => [bx A #[iv p0.p.Unit, sL d p0.p.Tools f, sL g p0.p.Steps i, sL j p0.tools l, sL u.1 o.2.2 u.2, bV o.2.1, iv p0.tool, iv p0.place.X, iv p0.place.Y, bV p0.placed, iv p0.off, iv p0.on] 95, ow u.1 u.2 98 aS o.2.2]) rfl (aH rfl (aH rfl bn)) (fun _ => rfl) (wn rfl) rfl Tryz.call132 (aj rfl (aj rfl (aj rfl aL))) (fun W hW hp hE => xc rec hrec N (eT.mk p0.p p0.tools T a5 p0.tool p0.place p0.placed p0.off p0.on) d f (V.ext (hW.gM hp)) g i (Z.ext (hW.gM hp)) j l (a0.ext (hW.gM hp)) I J A b q t (M.ext (hW.gM hp)) v y (P.ext (hW.gM hp)) p2 o b3 hE) ?_
  intro w u a1 hu
  obtain ⟨D, E⟩ := u
  have b1 := hu
  replace C := C.nL a1
  replace a2 := a1.r _ a2
  replace leB := leB.trans a1
  replace L := L.trans a1
  have a3 : dM D o.2.2.length E := b1 --@phi
  dsimp only
  refine Tr.k rfl (ae (aa (ai (aA rfl (aC jD rfl rfl (ae (aa (aP rfl H (fun H => ?_) (fun H => ?_)))))))))
  ·refine ai (aA rfl (Tr.k rfl (ae (aa (aW (bL (aK (aK (bL (aK ?_))))))))))
   obtain rfl := oI H
   exact Tr.out (m := [iv o.1]) [] (cO rfl bO) (fun W hW => ⟨w, (D, E), leB, rfl, a3, hW.pick (ks := [0, 1]) (by decide) (aH rfl (aH rfl bn))⟩)
  ·exact aN (aJ (aa (aI (aC bv rfl rfl (aA rfl (ae (aD L (B, (a8 + 1), o.2.2, o.2.1, D, E) ⟨rfl, fe K, bF K, H, a3⟩ (.cons rfl (.cons rfl (.cons rfl (.cons rfl (.cons (congrArg (fun z => some (Value.int .i64 z)) (eZ K C.form)) .nil))))) (.r rfl))))))))
theorem rZ : ∀ (N : Nat) {w : Bs} (p0 : eT) (a : Option Addr) (b : Nat) (o : Sl w.R w.W aY a b p0.p.Tools) (c : Option Addr) (d : Nat) (q : Sl w.R w.W ay c d p0.p.Steps) (f : Option Addr) (g : Nat) (s : Sl w.R w.W jc f g p0.tools) (h : Option Addr) (i : Nat) (n : Nat) (p1 : (List av)) (j : Option Addr) (l : Nat) (t : Sl w.R w.W ay j l p1) (p2 : au) (r : (Int × Bool × (List aV))) (H : lc N p0 p1 p2 = some r) (hE : HF w w.W (iF [bx n #[iv p0.p.Unit, sL a p0.p.Tools b, sL c p0.p.Steps d, sL f p0.tools g, sL h p0.image i, bV p0.clear, iv p0.tool, iv p0.place.X, iv p0.place.Y, bV p0.placed, iv p0.off, iv p0.on] 95, ow h i 98 aS p0.image])), Calls Tryz.prog 94 [pV n, sL j p1 l, .agg #[iv p2.X, iv p2.Y]].toArray w.W fun e W' => ∃ (w' : Bs) (u : (Option Addr × Nat)), w.Le w' ∧ e = .returned (iv r.1) ∧ (dM u.1 r.2.2.length u.2) ∧ HF w' W' (iF [bx n #[iv p0.p.Unit, sL a p0.p.Tools b, sL c p0.p.Steps d, sL f p0.tools g, sL u.1 r.2.2 u.2, bV r.2.1, iv p0.tool, iv p0.place.X, iv p0.place.Y, bV p0.placed, iv p0.off, iv p0.on] 95, ow u.1 u.2 98 aS r.2.2])
 | 0 => by intros; rename_i H _; cases H
 | N + 1 => wH N (lc N) (rZ N)

theorem CR (N : Nat) {w : Bs} (p0 : gu) (y : Option Addr) (z : Nat) (T : Sl w.O w.W aY y z p0.Tools) (t : Option Addr) (v : Nat) (E : Sl w.O w.W ay t v p0.Steps) (r : (eT × Int)) (H : uL N p0 = some r) (hE : HF w w.W (iF [emp, emp, emp])) : Calls Tryz.prog 46 [.agg #[iv p0.Unit, sL y p0.Tools z, sL t p0.Steps v]].toArray w.W fun e W' => ∃ (w' : Bs) (u : (Option Addr × Nat) × (Option Addr × Nat) × (Option Addr × Nat) × (Option Addr × Nat) × (Option Addr × Nat)), w.Le w' ∧ e = .returned (.tuple #[.pointer (some ⟨u.2.2.2.2.2, 0, none⟩), iv r.2]) ∧ (Sl w'.O w'.W aY u.1.1 u.1.2 r.1.p.Tools ∧ Sl w'.O w'.W ay u.2.1.1 u.2.1.2 r.1.p.Steps ∧ dM u.2.2.1.1 r.1.tools.length u.2.2.1.2 ∧ dM u.2.2.2.1.1 r.1.image.length u.2.2.2.1.2 ∧ True) ∧ HF w' W' (iF [ow u.2.2.1.1 u.2.2.1.2 62 jc r.1.tools, ow u.2.2.2.1.1 u.2.2.2.1.2 98 aS r.1.image, bx u.2.2.2.2.2 #[iv r.1.p.Unit, sL u.1.1 r.1.p.Tools u.1.2, sL u.2.1.1 r.1.p.Steps u.2.1.2, sL u.2.2.1.1 r.1.tools u.2.2.1.2, sL u.2.2.2.1.1 r.1.image u.2.2.2.1.2, bV r.1.clear, iv r.1.tool, iv r.1.place.X, iv r.1.place.Y, bV r.1.placed, iv r.1.off, iv r.1.on] 95]) := by
 unfold uL at H
 have leB := Bs.Le.refl w
 refine aZ (n := 13) Tryz.func46 rfl rfl rfl hE (ai (gN 1 (cs := [iv p0.Unit, sL y p0.Tools z, sL t p0.Steps v]) (wn rfl) rfl rfl rfl fun a3 => (Tr.k rfl (Tr.k rfl (ae (aa (ai (aG rfl (fun _ _ a c => aM (cs := [iv p0.Unit, sL y p0.Tools z, sL t p0.Steps v]) ql mr (a.ev rfl) (aF.take (dR c (vs := [iv p0.Unit, sL y p0.Tools z, sL t p0.Steps v]) (k := 1) rfl 0) 3) rfl) ?_))))))))
 obtain ⟨b, V, H⟩ := bnd H
 refine fq [2, 3, 4] [emp, emp, emp] (U := (Option Addr × Nat) × (Option Addr × Nat) × (Option Addr × Nat) × (Option Addr × Nat) × (Option Addr × Nat)) (fun u => (.pointer (some ⟨u.2.2.2.2.2, 0, none⟩))) (fun O W u => Sl O W aY u.1.1 u.1.2 b.p.Tools ∧ Sl O W ay u.2.1.1 u.2.1.2 b.p.Steps ∧ dM u.2.2.1.1 b.tools.length u.2.2.1.2 ∧ dM u.2.2.2.1.1 b.image.length u.2.2.2.1.2 ∧ True) (fun u => [ow u.2.2.1.1 u.2.2.1.2 62 jc b.tools, ow u.2.2.2.1.1 u.2.2.2.1.2 98 aS b.image, bx u.2.2.2.2.2 #[iv b.p.Unit, sL u.1.1 b.p.Tools u.1.2, sL u.2.1.1 b.p.Steps u.2.1.2, sL u.2.2.1.1 b.tools u.2.2.1.2, sL u.2.2.2.1.1 b.image u.2.2.2.1.2, bV b.clear, iv b.tool, iv b.place.X, iv b.place.Y, bV b.placed, iv b.off, iv b.on] 95]) rfl (aH rfl (aH rfl (aH rfl bn))) (fun _ => rfl) (wn rfl) rfl Tryz.call93 (aj rfl aL) (fun W hW hp hE => ze p0 y z (T.qK (hW.gM hp)) t v (E.qK (hW.gM hp)) b V hE) ?_
 intro w u J hu
 obtain ⟨⟨h, i⟩, ⟨j, l⟩, ⟨d, f⟩, ⟨q, s⟩, ⟨a2, g⟩⟩ := u
 obtain ⟨K, L, M, P, Q⟩ := hu
 replace E := E.le J
 replace leB := leB.trans J
 have A : Sl w.O w.W aY h i b.p.Tools := K --@phi
 have B : Sl w.O w.W ay j l b.p.Steps := L --@phi
 have G : dM d b.tools.length f := M --@phi
 have a0 : dM q b.image.length s := P --@phi
 have a1 : True := Q --@phi
 dsimp only
 refine Tr.k rfl (ae (aa (ai (aA rfl (aA rfl (aT (ag qA) rfl (aG rfl (fun _ _ a c => ah tX (a.ev rfl) (dR c (vs := [iv p0.Unit, sL y p0.Tools z, sL t p0.Steps v]) (k := 1) rfl 2) rfl) (jh (vs := []) (cs := [iv 0, iv 0]) (wn rfl) rfl eF (by kernel_rfl) ?_))))))))
 obtain ⟨o, Z, H⟩ := bnd H
 refine fq [4, 3] [bx g #[iv b.p.Unit, sL h b.p.Tools i, sL j b.p.Steps l, sL d b.tools f, sL q b.image s, bV b.clear, iv b.tool, iv b.place.X, iv b.place.Y, bV b.placed, iv b.off, iv b.on] 95, ow q s 98 aS b.image] (U := (Option Addr × Nat)) (fun u => (iv o.1)) (fun O W u => dM u.1 o.2.2.length u.2) (fun u => [bx g #[iv b.p.Unit, sL h b.p.Tools i, sL j b.p.Steps l, sL d b.tools f, sL u.1 o.2.2 u.2, bV o.2.1, iv b.tool, iv b.place.X, iv b.place.Y, bV b.placed, iv b.off, iv b.on] 95, ow u.1 u.2 98 aS o.2.2]) rfl (aH rfl (aH rfl bn)) (fun _ => rfl) (wn rfl) rfl Tryz.call94 (aj rfl (aj rfl (aj rfl aL))) (fun W hW hp hE => rZ N b h i (A.rl.ext (hW.gM hp)) j l (B.rl.ext (hW.gM hp)) d f (hW.Qq (k := 2) rfl hp rfl) q s g p0.Steps t v (E.rl.ext (hW.gM hp)) (au.mk 0 0) o Z hE) ?_
 intro w u F hu
 obtain ⟨C, D⟩ := u
 have S := hu
 replace A := A.le F
 replace B := B.le F
 replace leB := leB.trans F
 have I : dM C o.2.2.length D := S --@phi
 dsimp only
 refine Tr.k rfl (Tr.k rfl (ae (aa (aW ?_))))
 obtain rfl := oI H
 exact Tr.out (m := [pV g, iv o.1]) [] (cO rfl (cO rfl bO)) (fun W hW => ⟨w, ((h, i), (j, l), (d, f), (C, D), (none, g)), leB, rfl, ⟨A, B, G, I, trivial⟩, hW.pick (ks := [2, 3, 4]) (by decide) (aH rfl (aH rfl (aH rfl bn)))⟩)

theorem BB (N : Nat) {w : Bs} (p0 : gu) (d : Option Addr) (f : Nat) (B : Sl w.O w.W aY d f p0.Tools) (g : Option Addr) (h : Nat) (C : Sl w.O w.W ay g h p0.Steps) (r : ((List aV) × Int)) (H : sw N p0 = some r) (hE : HF w w.W (iF [emp])) : Calls Tryz.prog 24 [.agg #[iv p0.Unit, sL d p0.Tools f, sL g p0.Steps h]].toArray w.W fun e W' => ∃ (w' : Bs) (u : (Option Addr × Nat)), w.Le w' ∧ e = .returned (.tuple #[sL u.1 r.1 u.2, iv r.2]) ∧ (dM u.1 r.1.length u.2) ∧ HF w' W' (iF [ow u.1 u.2 98 aS r.1]) := by
 unfold sw at H
 have leB := Bs.Le.refl w
 refine aZ (n := 24) Tryz.func24 rfl rfl rfl hE (ai (gN 1 (cs := [iv p0.Unit, sL d p0.Tools f, sL g p0.Steps h]) (wn rfl) rfl rfl rfl fun V => (Tr.k rfl (bM 2 98 aS ?_))))
 show Tr _ _ (uf _ 2 (sL none (([] : List aV)) 0)) _ _
 refine Tr.k rfl (ae (aa (az (ai (aG rfl (fun _ _ a c => aM (cs := [iv p0.Unit, sL d p0.Tools f, sL g p0.Steps h]) ql mr (a.ev rfl) (aF.take (dR c (vs := [iv p0.Unit, sL d p0.Tools f, sL g p0.Steps h]) (k := 1) rfl 0) 3) rfl) ?_)))))
 obtain ⟨z, J, H⟩ := bnd H
 refine di (r := (iv z)) (wn rfl) rfl Tryz.call26 (aj rfl aL) (fun W hW => qN N p0 d f (B.rl.ext hW.cB) g h (C.rl.ext hW.cB) z J (HF.start _)) (Tr.k rfl (ae (aa (ai (aA rfl (aC jD rfl rfl (ae (aa (aP rfl H (fun H => ?_) (fun H => ?_))))))))))
 ·refine ai (aA rfl (Tr.k rfl (bM 3 98 aS ?_)))
  show Tr _ _ (uf _ 2 (sL none (([] : List aV)) 0)) _ _
  refine Tr.k rfl (ae (aa (aW (aK ?_))))
  obtain rfl := oI H
  exact Tr.out (m := [sL none (([] : List aV)) 0, iv z]) [] (cO rfl (cO rfl bO)) (fun W hW => ⟨w, (none, 0), leB, rfl, gL, hW.pick (ks := [3]) (by decide) (aH rfl bn)⟩)
 ·refine aN (aa (ai (aG rfl (fun _ _ a c => aM (cs := [iv p0.Unit, sL d p0.Tools f, sL g p0.Steps h]) ql mr (a.ev rfl) (aF.take (dR c (vs := [iv p0.Unit, sL d p0.Tools f, sL g p0.Steps h]) (k := 1) rfl 0) 3) rfl) ?_)))
  obtain ⟨b, K, H⟩ := bnd H
  refine fq [4, 5, 6] [emp, emp, emp] (U := (Option Addr × Nat) × (Option Addr × Nat) × (Option Addr × Nat) × (Option Addr × Nat) × (Option Addr × Nat)) (fun u => (.tuple #[.pointer (some ⟨u.2.2.2.2.2, 0, none⟩), iv b.2])) (fun O W u => Sl O W aY u.1.1 u.1.2 b.1.p.Tools ∧ Sl O W ay u.2.1.1 u.2.1.2 b.1.p.Steps ∧ dM u.2.2.1.1 b.1.tools.length u.2.2.1.2 ∧ dM u.2.2.2.1.1 b.1.image.length u.2.2.2.1.2 ∧ True) (fun u => [ow u.2.2.1.1 u.2.2.1.2 62 jc b.1.tools, ow u.2.2.2.1.1 u.2.2.2.1.2 98 aS b.1.image, bx u.2.2.2.2.2 #[iv b.1.p.Unit, sL u.1.1 b.1.p.Tools u.1.2, sL u.2.1.1 b.1.p.Steps u.2.1.2, sL u.2.2.1.1 b.1.tools u.2.2.1.2, sL u.2.2.2.1.1 b.1.image u.2.2.2.1.2, bV b.1.clear, iv b.1.tool, iv b.1.place.X, iv b.1.place.Y, bV b.1.placed, iv b.1.off, iv b.1.on] 95]) rfl (aH rfl (aH rfl (aH rfl bn))) (fun _ => rfl) (wn rfl) rfl Tryz.call46 (aj rfl aL) (fun W hW hp hE => CR N p0 d f (B.qK (hW.gM hp)) g h (C.qK (hW.gM hp)) b K hE) ?_
  intro w u L hu
  obtain ⟨⟨q, s⟩, ⟨t, v⟩, ⟨l, o⟩, ⟨i, j⟩, ⟨T, y⟩⟩ := u
  obtain ⟨D, E, F, G, I⟩ := hu
  replace leB := leB.trans L
  have M : Sl w.O w.W aY q s b.1.p.Tools := D --@phi
  have P : Sl w.O w.W ay t v b.1.p.Steps := E --@phi
  have Q : dM l b.1.tools.length o := F --@phi
  have A : dM i b.1.image.length j := G --@phi
  have S : True := I --@phi
  dsimp only
  refine aA rfl (aG rfl (fun _ _ a c => ib (a.ev rfl) rfl) (aG rfl (fun _ _ a c => ib (a.ev rfl) rfl) (Tr.k rfl (Tr.k rfl (ae (aa (az (ai (aA rfl (aC jD rfl rfl (ae (aa (aP rfl H (fun H => ?_) (fun H => ?_))))))))))))))
  ·refine ai (aA rfl (Tr.k rfl (bM 7 98 aS ?_)))
   show Tr _ _ (uf _ 2 (sL none (([] : List aV)) 0)) _ _
   refine Tr.k rfl (ae (aa (aW (aK ?_))))
   obtain rfl := oI H
   exact Tr.out (m := [sL none (([] : List aV)) 0, iv b.2]) [] (cO rfl (cO rfl bO)) (fun W hW => ⟨w, (none, 0), leB, rfl, gL, hW.pick (ks := [7]) (by decide) (aH rfl bn)⟩)
  ·refine aN (aa (ai (aA rfl (aT iX rfl (aT (ag zD) rfl (aG rfl (fun _ _ a c => ah JF (a.ev rfl) (dR c (vs := [iv b.1.p.Unit, sL q b.1.p.Tools s, sL t b.1.p.Steps v, sL l b.1.tools o, sL i b.1.image j, bV b.1.clear, iv b.1.tool, iv b.1.place.X, iv b.1.place.Y, bV b.1.placed, iv b.1.off, iv b.1.on]) (k := 6) rfl 4) rfl) (Tr.k rfl (Tr.k rfl (ae (aa (aW ?_)))))))))))
   obtain rfl := oI H
   exact Tr.out (m := [sL i b.1.image j, iv 0]) [] (cO rfl (cO rfl bO)) (fun W hW => ⟨w, (i, j), leB, rfl, A, hW.pick (ks := [5]) (by decide) (aH rfl bn)⟩)

theorem CU (N : Nat) {w : Bs} (p0 : gu) (h : Option Addr) (i : Nat) (y : Sl w.O w.W aY h i p0.Tools) (j : Option Addr) (l : Nat) (z : Sl w.O w.W ay j l p0.Steps) (r : ((List aQ) × Int)) (H : qE N p0 = some r) (hE : HF w w.W (iF [emp])) : Calls Tryz.prog 9 [.agg #[iv p0.Unit, sL h p0.Tools i, sL j p0.Steps l]].toArray w.W fun e W' => ∃ u : (Option Addr × Nat), e = .returned (.tuple #[sL u.1 r.1 u.2, iv r.2]) ∧ (dM u.1 r.1.length u.2) ∧ HF w W' (iF [ow u.1 u.2 38 bq r.1]) := by
 unfold qE at H
 have leB := Bs.Le.refl w
 refine aZ (n := 14) Tryz.func9 rfl rfl rfl hE (ai (gN 1 (cs := [iv p0.Unit, sL h p0.Tools i, sL j p0.Steps l]) (wn rfl) rfl rfl rfl fun E => (Tr.k rfl (bM 2 38 bq ?_))))
 show Tr _ _ (uf _ 2 (sL none (([] : List aQ)) 0)) _ _
 refine Tr.k rfl (ae (aa (ai (aG rfl (fun _ _ a c => aM (cs := [iv p0.Unit, sL h p0.Tools i, sL j p0.Steps l]) ql mr (a.ev rfl) (aF.take (dR c (vs := [iv p0.Unit, sL h p0.Tools i, sL j p0.Steps l]) (k := 1) rfl 0) 3) rfl) ?_))))
 obtain ⟨b, A, H⟩ := bnd H
 refine fq [3] [emp] (U := (Option Addr × Nat)) (fun u => (.tuple #[sL u.1 b.1 u.2, iv b.2])) (fun O W u => dM u.1 b.1.length u.2) (fun u => [ow u.1 u.2 98 aS b.1]) rfl (aH rfl bn) (fun _ => rfl) (wn rfl) rfl Tryz.call24 (aj rfl aL) (fun W hW hp hE => BB N p0 h i (y.qK (hW.gM hp)) j l (z.qK (hW.gM hp)) b A hE) ?_
 intro w u B hu
 obtain ⟨o, q⟩ := u
 have t := hu
 replace leB := leB.trans B
 have D : dM o b.1.length q := t --@phi
 dsimp only
 refine aA rfl (aG rfl (fun _ _ a c => ib (a.ev rfl) rfl) (aG rfl (fun _ _ a c => ib (a.ev rfl) rfl) (Tr.k rfl (Tr.k rfl (ae (aa (ai (aA rfl ?_))))))))
 obtain ⟨g, C, H⟩ := bnd H
 refine ja [4] [emp] (U := (Option Addr × Nat)) (fun u => (sL u.1 g u.2)) (fun u => dM u.1 g.length u.2) (fun u => [ow u.1 u.2 38 bq g]) rfl (aH rfl bn) (fun _ => rfl) (wn rfl) rfl Tryz.call25 (aj rfl aL) (fun W hW hp hE => sI N b.1 o q (hW.Qq (k := 3) rfl hp rfl) g C hE) ?_
 intro u hu
 obtain ⟨d, f⟩ := u
 have v := hu
 have s : dM d g.length f := v --@phi
 dsimp only
 refine aA rfl (Tr.k rfl (Tr.k rfl (ae (aa (aW ?_)))))
 obtain rfl := oI H
 exact Tr.out (m := [sL d g f, iv b.2]) [] (cO rfl (cO rfl bO)) (fun W hW => ⟨(d, f), rfl, s, HF.zK leB (hW.pick (ks := [4]) (by decide) (aH rfl bn)) ⟨qI _ _ _ _ qd, trivial⟩⟩)

theorem ww {w : Bs} (p0 : Int) (r : Int) (H : sj p0 = some r) (hE : HF w w.W E0) : Calls Tryz.prog 28 [iv p0].toArray w.W fun e W' => e = .returned (iv r) ∧ HF w W' E0 := by
 unfold sj at H
 have leB := Bs.Le.refl w
 refine aZ (n := 4) Tryz.func28 rfl rfl rfl hE (ai (Tr.k rfl (ae (aa (ai (aA rfl (Tr.k rfl (ae (aa (aW ?_))))))))))
 obtain rfl := oI H
 exact dQ leB

theorem vC {w : Bs} (p0 : (List ic)) (a : Option Addr) (b : Nat) (c : Sl w.O w.W aY a b p0) (r : (List ic)) (H : ou p0 = some r) (hE : HF w w.W (iF [emp])) : Calls Tryz.prog 99 [sL a p0 b].toArray w.W fun e W' => ∃ (w' : Bs) (u : (Option Addr × Nat)), w.Le w' ∧ e = .returned (sL u.1 r u.2) ∧ (dM u.1 r.length u.2) ∧ HF w' W' (iF [ow u.1 u.2 58 aY r]) := by
 unfold ou at H
 have leB := Bs.Le.refl w
 refine aZ (n := 8) Tryz.func99 rfl rfl rfl hE (ai (Tr.k rfl (bM 1 58 aY ?_)))
 show Tr _ _ (uf _ 2 (sL none (([] : List ic)) 0)) _ _
 refine ae (aa (az (ai (aA rfl (aC (xB zR) rfl rfl (ae (aa ?_)))))))
 cases a with
 | none =>
  have hl0 := AX c.form
  replace H : (some ([] : List ic)) = some r := by simpa [yX, hl0] using H
  refine eP rfl rfl (ai (Tr.k rfl (bM 2 58 aY ?_)))
  show Tr _ _ (uf _ 2 (sL none (([] : List ic)) 0)) _ _
  refine ae (aa (aW (aK ?_)))
  obtain rfl := oI H
  exact Tr.out (m := [sL none (([] : List ic)) 0]) [] (cO rfl bO) (fun W hW => ⟨w, (none, 0), leB, rfl, gL, hW.pick (ks := [2]) (by decide) (aH rfl bn)⟩)
 | some j =>
  refine eQ rfl rfl (aN (aa (ai (dS 3 (e := 58) (vs := []) (cs := []) (wn rfl) rfl eF (by kernel_rfl) fun o => (aA rfl (Tr.own 3 aY ([] : List ic) (css := []) rfl .nil rfl (by decide) (vU rfl) ?_))))))
  obtain ⟨i, h, H⟩ := bnd H
  refine vz 3 (t := aY) (l := ([] : List ic)) (l2 := p0) (wn rfl) rfl rfl rfl rfl (VL c) zR TY TI (by decide) UB rfl h fun d f g => (Tr.k rfl (ae (aa (aW ?_))))
  obtain rfl := oI H
  exact Tr.out (m := [sL d i f]) [] (cO rfl bO) (fun W hW => ⟨w, (d, f), leB, rfl, g, hW.pick (ks := [3]) (by decide) (aH rfl bn)⟩)

theorem vD {w : Bs} (p0 : (List av)) (a : Option Addr) (b : Nat) (c : Sl w.O w.W ay a b p0) (r : (List av)) (H : kH p0 = some r) (hE : HF w w.W (iF [emp])) : Calls Tryz.prog 100 [sL a p0 b].toArray w.W fun e W' => ∃ (w' : Bs) (u : (Option Addr × Nat)), w.Le w' ∧ e = .returned (sL u.1 r u.2) ∧ (dM u.1 r.length u.2) ∧ HF w' W' (iF [ow u.1 u.2 53 ay r]) := by
 unfold kH at H
 have leB := Bs.Le.refl w
 refine aZ (n := 8) Tryz.func100 rfl rfl rfl hE (ai (Tr.k rfl (bM 1 53 ay ?_)))
 show Tr _ _ (uf _ 2 (sL none (([] : List av)) 0)) _ _
 refine ae (aa (az (ai (aA rfl (aC (xB tH) rfl rfl (ae (aa ?_)))))))
 cases a with
 | none =>
  have hl0 := AX c.form
  replace H : (some ([] : List av)) = some r := by simpa [yX, hl0] using H
  refine eP rfl rfl (ai (Tr.k rfl (bM 2 53 ay ?_)))
  show Tr _ _ (uf _ 2 (sL none (([] : List av)) 0)) _ _
  refine ae (aa (aW (aK ?_)))
  obtain rfl := oI H
  exact Tr.out (m := [sL none (([] : List av)) 0]) [] (cO rfl bO) (fun W hW => ⟨w, (none, 0), leB, rfl, gL, hW.pick (ks := [2]) (by decide) (aH rfl bn)⟩)
 | some j =>
  refine eQ rfl rfl (aN (aa (ai (dS 3 (e := 53) (vs := []) (cs := []) (wn rfl) rfl eF (by kernel_rfl) fun o => (aA rfl (Tr.own 3 ay ([] : List av) (css := []) rfl .nil rfl (by decide) (vU rfl) ?_))))))
  obtain ⟨i, h, H⟩ := bnd H
  refine vz 3 (t := ay) (l := ([] : List av)) (l2 := p0) (wn rfl) rfl rfl rfl rfl (VL c) tH qF ND (by decide) Po rfl h fun d f g => (Tr.k rfl (ae (aa (aW ?_))))
  obtain rfl := oI H
  exact Tr.out (m := [sL d i f]) [] (cO rfl bO) (fun W hW => ⟨w, (d, f), leB, rfl, g, hW.pick (ks := [3]) (by decide) (aH rfl bn)⟩)

theorem wX {w : Bs} (p0 : (List au)) (a : Option Addr) (b : Nat) (c : Sl w.R w.W aX a b p0) (r : (List au)) (H : lC p0 = some r) (hE : HF w w.W (iF [emp])) : Calls Tryz.prog 101 [sL a p0 b].toArray w.W fun e W' => ∃ u : (Option Addr × Nat), e = .returned (sL u.1 r u.2) ∧ (dM u.1 r.length u.2) ∧ HF w W' (iF [ow u.1 u.2 47 aX r]) := by
 unfold lC at H
 have leB := Bs.Le.refl w
 refine aZ (n := 8) Tryz.func101 rfl rfl rfl hE (ai (Tr.k rfl (bM 1 47 aX ?_)))
 show Tr _ _ (uf _ 2 (sL none (([] : List au)) 0)) _ _
 refine ae (aa (az (ai (aA rfl (aC (xB qc) rfl rfl (ae (aa ?_)))))))
 cases a with
 | none =>
  have hl0 := AX c.form
  replace H : (some ([] : List au)) = some r := by simpa [yX, hl0] using H
  refine eP rfl rfl (ai (Tr.k rfl (bM 2 47 aX ?_)))
  show Tr _ _ (uf _ 2 (sL none (([] : List au)) 0)) _ _
  refine ae (aa (aW (aK ?_)))
  obtain rfl := oI H
  exact Tr.out (m := [sL none (([] : List au)) 0]) [] (cO rfl bO) (fun W hW => ⟨(none, 0), rfl, gL, HF.zK leB (hW.pick (ks := [2]) (by decide) (aH rfl bn)) ⟨qI _ _ _ _ uP, trivial⟩⟩)
 | some j =>
  refine eQ rfl rfl (aN (aa (ai (dS 3 (e := 47) (vs := []) (cs := []) (wn rfl) rfl eF (by kernel_rfl) fun o => (aA rfl (Tr.own 3 aX ([] : List au) (css := []) rfl .nil rfl (by decide) (vU rfl) ?_))))))
  obtain ⟨i, h, H⟩ := bnd H
  refine vz 3 (t := aX) (l := ([] : List au)) (l2 := p0) (wn rfl) rfl rfl rfl rfl (Vw uP (fun W hW => (Sl.Cz c hW))) qc gV Ik (by decide) Jz rfl h fun d f g => (Tr.k rfl (ae (aa (aW ?_))))
  obtain rfl := oI H
  exact Tr.out (m := [sL d i f]) [] (cO rfl bO) (fun W hW => ⟨(d, f), rfl, g, HF.zK leB (hW.pick (ks := [3]) (by decide) (aH rfl bn)) ⟨qI _ _ _ _ uP, trivial⟩⟩)

theorem ym {w : Bs} (p0 : (List Int)) (g : Option Addr) (i : Nat) (f : Sl w.R w.W bK g i p0) (p1 : Int) (r : Int) (H : rC p0 p1 = some r) (hE : HF w w.W E0) : Calls Tryz.prog 193 [sL g p0 i, iv p1].toArray w.W fun e W' => e = .returned (iv r) ∧ HF w W' E0 := by
 unfold rC at H
 have leB := Bs.Le.refl w
 refine aZ (n := 19) Tryz.func193 rfl rfl rfl hE (ai (Tr.k rfl (ae (aa (az (ai (aA rfl (aT (bz nz) rfl (aA rfl (ae (aa (Tr.block (df (σ := (List Int) × Nat) (fun m w s => m = s.1.length + 1 ∧ s.1 = List.drop s.2 p0 ∧ s.2 ≤ p0.length ∧ jW p1 s.1 s.2 = some r) (fun s => [(0, sL g p0 i), (1, iv p1), (7, iv (p0.length : Int)), (8, iv (s.2 : Int))]) (fun s => []) (p0.length + 1) (p0, 0) ⟨rfl, rfl, Nat.zero_le _, H⟩ (.r rfl) .nil (fun _ _ h => absurd h.1 (by simp)) ?_)))))))))))))
 intro w j m s hs
 obtain ⟨b, o⟩ := s
 obtain ⟨l, d, q, H⟩ := hs
 replace d : b = List.drop o p0 := d
 replace H : jW p1 b o = some r := H
 replace l : m + 1 = b.length + 1 := l
 replace f := f.nL j
 replace leB := leB.trans j
 obtain rfl : m = b.length := by omega
 clear l
 dsimp only
 cases b with
 | nil =>
  rw [jW.eq_1] at H
  refine ai (aC bg rfl rfl (ae (aa (az (eQ rfl (dZ d) (bW (aB (aB (aR (aa (ai (Tr.k rfl (ae (aa (aW ?_)))))))))))))))
  obtain rfl := oI H
  exact dQ leB
 | cons t b =>
  rw [jW.eq_2] at H
  refine ai (aC bg rfl rfl (ae (aa (az (eP rfl (fJ d) (aN (aa (az (Tr.block (ai (aA rfl (Tr.k rfl (ae (aa (ai (aA rfl (aA rfl (aA rfl (aG rfl (fun _ _ a c => ak kS (a.ev rfl) f.form (a.ev rfl) (Int.natCast_nonneg _) (bF d)) (aG rfl (fun _ _ a c => ah bT (a.ev rfl) (uZ je f (gy d) c) rfl) (aC dL rfl rfl (ae (aa (aP rfl H (fun H => ?_) (fun H => ?_)))))))))))))))))))))))))
  ·refine ai (aA rfl (Tr.k rfl (ae (aa (aW (bL (aK (aK (bL (aK ?_))))))))))
   obtain rfl := oI H
   exact dQ leB
  ·exact aN (aJ (aa (aI (aC bv rfl rfl (aA rfl (ae (aD j (b, (o + 1)) ⟨rfl, fe d, bF d, H⟩ (.cons rfl (.cons rfl (.cons rfl (.cons (congrArg (fun z => some (Value.int .i64 z)) (eZ d f.form)) .nil)))) .nil)))))))

theorem wE {w : Bs} (p0 : (List Int)) (a : Option Addr) (b : Nat) (d : Sl w.R w.W bK a b p0) (p1 : Int) (r : Bool) (H : pO p0 p1 = some r) (hE : HF w w.W E0) : Calls Tryz.prog 140 [sL a p0 b, iv p1].toArray w.W fun e W' => e = .returned (bV r) ∧ HF w W' E0 := by
 unfold pO at H
 have leB := Bs.Le.refl w
 refine aZ (n := 9) Tryz.func140 rfl rfl rfl hE (ai (Tr.k rfl (ae (aa (ai (aA rfl (aA rfl ?_)))))))
 obtain ⟨c, f, H⟩ := bnd H
 refine di (r := (iv c)) (wn rfl) rfl Tryz.call193 (aj rfl (aj rfl aL)) (fun W hW => ym p0 a b (d.ext hW.cB) p1 c f (HF.start _)) (aC xA rfl rfl (Tr.k rfl (ae (aa (aW ?_)))))
 obtain rfl := oI H
 exact dQ leB

theorem E5 {w : Bs} (p0 : (List av)) (u : Option Addr) (v : Nat) (o : Sl w.R w.W ay u v p0) (p1 : (List Int)) (q : Option Addr) (t : Nat) (y : Sl w.R w.W bK q t p1) (r : Int) (H : wo p0 p1 = some r) (hE : HF w w.W E0) : Calls Tryz.prog 102 [sL u p0 v, sL q p1 t].toArray w.W fun e W' => e = .returned (iv r) ∧ HF w W' E0 := by
 unfold wo at H
 have leB := Bs.Le.refl w
 refine aZ (n := 20) Tryz.func102 rfl rfl rfl hE (ai (Tr.k rfl (ae (aa (az (ai (aA rfl (aT (bz tH) rfl (aA rfl (ae (aa (Tr.block (df (σ := (List av) × Nat) (fun m w s => m = s.1.length + 1 ∧ s.1 = List.drop s.2 p0 ∧ s.2 ≤ p0.length ∧ oC p1 s.1 s.2 = some r) (fun s => [(1, sL q p1 t), (7, sL u p0 v), (8, iv (p0.length : Int)), (9, iv (s.2 : Int))]) (fun s => []) (p0.length + 1) (p0, 0) ⟨rfl, rfl, Nat.zero_le _, H⟩ (.r rfl) .nil (fun _ _ h => absurd h.1 (by simp)) ?_)))))))))))))
 intro w A m s hs
 obtain ⟨d, C⟩ := s
 obtain ⟨B, l, M, H⟩ := hs
 replace l : d = List.drop C p0 := l
 replace H : oC p1 d C = some r := H
 replace B : m + 1 = d.length + 1 := B
 replace y := y.nL A
 replace o := o.nL A
 replace leB := leB.trans A
 obtain rfl : m = d.length := by omega
 clear B
 dsimp only
 cases d with
 | nil =>
  rw [oC.eq_1] at H
  refine ai (aC bg rfl rfl (ae (aa (az (eQ rfl (dZ l) (bW (aB (aB (aR (aa (ai (Tr.k rfl (ae (aa (aW ?_)))))))))))))))
  obtain rfl := oI H
  exact dQ leB
 | cons b d =>
  rw [oC.eq_2] at H
  refine ai (aC bg rfl rfl (ae (aa (az (eP rfl (fJ l) (aN (aa (az (Tr.block (ai ?_))))))))))
  obtain ⟨L, E, D, F⟩ := (o).el (gy l)
  obtain ⟨⟨f, g⟩, ⟨i, j⟩⟩ := L
  obtain ⟨J, K⟩ := kw.1 D
  refine aG rfl (fun _ _ a c => ak wS (a.ev rfl) o.form (a.ev rfl) (Int.natCast_nonneg _) (bF l)) (aG rfl (fun _ _ a c => aM (cs := [iv b.Kind, sv b.Name, iv b.At.X, iv b.At.Y, sL f b.Points g, iv b.NX, iv b.NY, sL i b.Steps j]) yY qF (a.ev rfl) (aF.take (ut E F c) 8) rfl) (Tr.alloc 2 (wn rfl) rfl AJ fun N => (bJ 2 (cs := [iv b.Kind, sv b.Name, iv b.At.X, iv b.At.Y, sL f b.Points g, iv b.NX, iv b.NY, sL i b.Steps j]) [iv b.Kind, sv b.Name, iv b.At.X, iv b.At.Y, sL f b.Points g, iv b.NX, iv b.NY, sL i b.Steps j] (wn rfl) rfl rfl rfl rfl qF rfl rfl rfl (ae (aa (ai (aA rfl (aT (ag qZ) rfl (aG rfl (fun _ _ a c => ah bT (a.ev rfl) (dR c (vs := [iv b.Kind, sv b.Name, iv b.At.X, iv b.At.Y, sL f b.Points g, iv b.NX, iv b.NY, sL i b.Steps j]) (k := 2) rfl 0) rfl) ?_)))))))))
  obtain ⟨G, I, H⟩ := bnd H
  refine di (r := (bV G)) (wn rfl) rfl Tryz.call140 (aj rfl (aj rfl aL)) (fun W hW => wE p1 q t (y.ext hW.cB) b.Kind G I (HF.start _)) (ae (aa (aP rfl H (fun H => ?_) (fun H => ?_))))
  ·refine ai (aT (ag qZ) rfl (aG rfl (fun _ _ a c => ah bT (a.ev rfl) (dR c (vs := [iv b.Kind, sv b.Name, iv b.At.X, iv b.At.Y, sL f b.Points g, iv b.NX, iv b.NY, sL i b.Steps j]) (k := 2) rfl 0) rfl) (Tr.k rfl (ae (aa (aW (bL (aK (aK (bL (aK ?_)))))))))))
   obtain rfl := oI H
   exact dQ leB
  ·exact aN (aJ (aa (aI (aC bv rfl rfl (aA rfl (ae (aD A (d, (C + 1)) ⟨rfl, fe l, bF l, H⟩ (.cons rfl (.cons rfl (.cons rfl (.cons (congrArg (fun z => some (Value.int .i64 z)) (eZ l o.form)) .nil)))) .nil)))))))

theorem CQ {w : Bs} (p0 : Int) (r : Bool) (H : uK p0 = some r) (hE : HF w w.W E0) : Calls Tryz.prog 103 [iv p0].toArray w.W fun e W' => e = .returned (bV r) ∧ HF w W' E0 := by
 unfold uK at H
 have leB := Bs.Le.refl w
 refine aZ (n := 17) Tryz.func103 rfl rfl rfl hE (ai (Tr.k rfl (ae (aa (ai (aA rfl (aC dL rfl rfl (aA rfl (dX 3 [(0, iv p0), (8, bV ((p0 == 5) || (p0 == 6)))] [] ?_ ?_)))))))))
 ·cases a : (p0 == 5)
  ·exact dU run_move rfl (kF dL rfl rfl (aC bE rfl rfl (ae (bu (.r rfl) .nil))))
  ·exact bf rfl (bf rfl (aC bD rfl rfl (ae (bu (.r rfl) .nil))))
 ·show Tr _ _ (LF [(0, iv p0), (8, bV ((p0 == 5) || (p0 == 6)))]) (LE []) _
  refine aA rfl (dX 3 [(0, iv p0), (12, bV (((p0 == 5) || (p0 == 6)) || (p0 == 7)))] [] ?_ ?_)
  ·cases a : ((p0 == 5) || (p0 == 6))
   ·exact dU run_move rfl (kF dL rfl rfl (aC bE rfl rfl (ae (bu (.r rfl) .nil))))
   ·exact bf rfl (bf rfl (aC bD rfl rfl (ae (bu (.r rfl) .nil))))
  ·show Tr _ _ (LF [(0, iv p0), (12, bV (((p0 == 5) || (p0 == 6)) || (p0 == 7)))]) (LE []) _
   refine aA rfl (dX 3 [(16, bV ((((p0 == 5) || (p0 == 6)) || (p0 == 7)) || (p0 == 8)))] [] ?_ ?_)
   ·cases a : (((p0 == 5) || (p0 == 6)) || (p0 == 7))
    ·exact dU run_move rfl (kF dL rfl rfl (aC bE rfl rfl (ae (bu (.r rfl) .nil))))
    ·exact bf rfl (bf rfl (aC bD rfl rfl (ae (bu (.r rfl) .nil))))
   ·show Tr _ _ (LF [(16, bV ((((p0 == 5) || (p0 == 6)) || (p0 == 7)) || (p0 == 8)))]) (LE []) _
    refine Tr.k rfl (ae (aa (aW ?_)))
    obtain rfl := oI H
    exact dQ leB

theorem Az {w : Bs} (p0 : av) (b : Option Addr) (d : Nat) (K : Sl w.R w.W aX b d p0.Points) (f : Option Addr) (g : Nat) (L : Sl w.R w.W ay f g p0.Steps) (p1 : lw) (h : Option Addr) (i : Nat) (M : Sl w.R w.W aX h i p1.last.Points) (j : Option Addr) (l : Nat) (N : Sl w.R w.W ay j l p1.last.Steps) (p2 : (List av)) (q : Option Addr) (t : Nat) (y : Sl w.R w.W ay q t p2) (r : Bool) (H : lW p0 p1 p2 = some r) (hE : HF w w.W E0) : Calls Tryz.prog 56 [.agg #[iv p0.Kind, sv p0.Name, iv p0.At.X, iv p0.At.Y, sL b p0.Points d, iv p0.NX, iv p0.NY, sL f p0.Steps g], .agg #[iv p1.dark, sv p1.tool, iv p1.place.X, iv p1.place.Y, bV p1.placed, iv p1.last.Kind, sv p1.last.Name, iv p1.last.At.X, iv p1.last.At.Y, sL h p1.last.Points i, iv p1.last.NX, iv p1.last.NY, sL j p1.last.Steps l], sL q p2 t].toArray w.W fun e W' => e = .returned (bV r) ∧ HF w W' E0 := by
 unfold lW at H
 have leB := Bs.Le.refl w
 refine aZ (n := 105) Tryz.func56 rfl rfl rfl hE (ai (gN 1 (cs := [iv p0.Kind, sv p0.Name, iv p0.At.X, iv p0.At.Y, sL b p0.Points d, iv p0.NX, iv p0.NY, sL f p0.Steps g]) (wn rfl) rfl rfl rfl fun u => (gN 2 (cs := [iv p1.dark, sv p1.tool, iv p1.place.X, iv p1.place.Y, bV p1.placed, iv p1.last.Kind, sv p1.last.Name, iv p1.last.At.X, iv p1.last.At.Y, sL h p1.last.Points i, iv p1.last.NX, iv p1.last.NY, sL j p1.last.Steps l]) (wn rfl) rfl rfl rfl fun v => (Tr.k rfl (ae (aa (az (ai (aT (ag qZ) rfl (aG rfl (fun _ _ a c => ah bT (a.ev rfl) (dR c (vs := [iv p0.Kind, sv p0.Name, iv p0.At.X, iv p0.At.Y, sL b p0.Points d, iv p0.NX, iv p0.NY, sL f p0.Steps g]) (k := 1) rfl 0) rfl) (ae (aa (Tr.block ?_)))))))))))))
 have z := Bs.Le.refl w
 refine kT (σ := Bool) (fun w s => kD p0 p1 p2 s = some r) (fun s => [(2, sL q p2 t), (3, pV u), (4, pV v), (11, iv p0.Kind), (12, bV s)]) (fun s => [(1, bx u #[iv p0.Kind, sv p0.Name, iv p0.At.X, iv p0.At.Y, sL b p0.Points d, iv p0.NX, iv p0.NY, sL f p0.Steps g] 53), (2, bx v #[iv p1.dark, sv p1.tool, iv p1.place.X, iv p1.place.Y, bV p1.placed, iv p1.last.Kind, sv p1.last.Name, iv p1.last.At.X, iv p1.last.At.Y, sL h p1.last.Points i, iv p1.last.NX, iv p1.last.NY, sL j p1.last.Steps l] 109)]) ?_ ?_
 ·refine ai (aC dL rfl rfl (Tr.k rfl (ae (aa (aP rfl H (fun H => ?_) (fun H => ?_))))))
  ·exact aN (aD z (p0.Kind == 1) H (.r rfl) (.r rfl))
  ·exact aI (aC dL rfl rfl (Tr.k rfl (ae (aD z (p0.Kind == 2) H (.r rfl) (.r rfl)))))
 ·intro w E A hs
  have H := hs
  replace H : kD p0 p1 p2 E = some r := H
  replace y := y.nL A
  replace leB := leB.trans A
  unfold kD at H
  show Tr _ _ (LF [(2, sL q p2 t), (3, pV u), (4, pV v), (11, iv p0.Kind), (12, bV E)]) (LE [(1, bx u #[iv p0.Kind, sv p0.Name, iv p0.At.X, iv p0.At.Y, sL b p0.Points d, iv p0.NX, iv p0.NY, sL f p0.Steps g] 53), (2, bx v #[iv p1.dark, sv p1.tool, iv p1.place.X, iv p1.place.Y, bV p1.placed, iv p1.last.Kind, sv p1.last.Name, iv p1.last.At.X, iv p1.last.At.Y, sL h p1.last.Points i, iv p1.last.NX, iv p1.last.NY, sL j p1.last.Steps l] 109)]) _
  refine aP rfl H (fun H => ?_) (fun H => ?_)
  ·refine ai (aA rfl (dS 3 (e := 3) (vs := [(0, iv 1), (1, iv 2), (2, iv 5), (3, iv 6), (4, iv 7), (5, iv 8)]) (cs := [iv 1, iv 2, iv 5, iv 6, iv 7, iv 8]) (wn rfl) rfl (bH rfl (bH rfl (bH rfl (bH rfl (bH rfl (bH rfl eF)))))) (by kernel_rfl) fun B => (Tr.own 3 bK [1, 2, 5, 6, 7, 8] (css := [[iv 1], [iv 2], [iv 5], [iv 6], [iv 7], [iv 8]]) rfl (.cons ⟨(), trivial, rfl⟩ (.cons ⟨(), trivial, rfl⟩ (.cons ⟨(), trivial, rfl⟩ (.cons ⟨(), trivial, rfl⟩ (.cons ⟨(), trivial, rfl⟩ (.cons ⟨(), trivial, rfl⟩ .nil)))))) rfl (by decide) (vU rfl) ?_)))
   obtain ⟨C, I, H⟩ := bnd H
   refine di (r := (iv C)) (wn rfl) rfl Tryz.call102 (aj rfl (aj rfl aL)) (fun W hW => E5 p2 q t (y.ext hW.cB) [1, 2, 5, 6, 7, 8] (some ⟨B, 0, none⟩) 6 (hW.sK (k := 3) rfl) C I (HF.start _)) (Tr.k rfl (ae (aa (ai (aT (ag qZ) rfl (aG rfl (fun _ _ a c => ah bT (a.ev rfl) (dR c (vs := [iv p0.Kind, sv p0.Name, iv p0.At.X, iv p0.At.Y, sL b p0.Points d, iv p0.NX, iv p0.NY, sL f p0.Steps g]) (k := 1) rfl 0) rfl) (aT (ag Jk) rfl (aG rfl (fun _ _ a c => ah bT (a.ev rfl) (dR c (vs := [iv p1.dark, sv p1.tool, iv p1.place.X, iv p1.place.Y, bV p1.placed, iv p1.last.Kind, sv p1.last.Name, iv p1.last.At.X, iv p1.last.At.Y, sL h p1.last.Points i, iv p1.last.NX, iv p1.last.NY, sL j p1.last.Steps l]) (k := 2) rfl 0) rfl) (aC dL rfl rfl (aA rfl ?_))))))))))
   obtain ⟨F, o, H⟩ := bnd H
   refine dX 4 [(27, bV F)] [(1, bx u #[iv p0.Kind, sv p0.Name, iv p0.At.X, iv p0.At.Y, sL b p0.Points d, iv p0.NX, iv p0.NY, sL f p0.Steps g] 53), (2, bx v #[iv p1.dark, sv p1.tool, iv p1.place.X, iv p1.place.Y, bV p1.placed, iv p1.last.Kind, sv p1.last.Name, iv p1.last.At.X, iv p1.last.At.Y, sL h p1.last.Points i, iv p1.last.NX, iv p1.last.NY, sL j p1.last.Steps l] 109), (3, ow (some ⟨B, 0, none⟩) 6 3 bK [1, 2, 5, 6, 7, 8])] ?_ ?_
   ·cases D : (p0.Kind == p1.dark)
    ·rw [D] at o
     rw [if_neg (by decide)] at o
     have H := o
     refine dU run_move rfl ?_
     obtain ⟨G, J, H⟩ := bnd H
     refine di (r := (bV G)) (wg rfl rfl rfl) rfl Tryz.call103 (aj rfl aL) (fun W hW => CQ C G J (HF.start _)) (dU jC rfl (aC bE rfl rfl ?_))
     obtain rfl := oI H
     exact ae (bu (.r rfl) (.r rfl))
    ·rw [D] at o
     rw [if_pos rfl] at o
     have H := o
     obtain rfl := oI H
     exact bf rfl (bf rfl (bf rfl (aC bD rfl rfl (ae (bu (.r rfl) (.r rfl))))))
   ·show Tr _ _ (LF [(27, bV F)]) (LE [(1, bx u #[iv p0.Kind, sv p0.Name, iv p0.At.X, iv p0.At.Y, sL b p0.Points d, iv p0.NX, iv p0.NY, sL f p0.Steps g] 53), (2, bx v #[iv p1.dark, sv p1.tool, iv p1.place.X, iv p1.place.Y, bV p1.placed, iv p1.last.Kind, sv p1.last.Name, iv p1.last.At.X, iv p1.last.At.Y, sL h p1.last.Points i, iv p1.last.NX, iv p1.last.NY, sL j p1.last.Steps l] 109), (3, ow (some ⟨B, 0, none⟩) 6 3 bK [1, 2, 5, 6, 7, 8])]) _
    refine Tr.k rfl (ae (aa (aW (bL (aK ?_)))))
    obtain rfl := oI H
    exact dQ leB
  ·refine ai (aC dL rfl rfl (Tr.k rfl (ae (aa (aP rfl H (fun H => ?_) (fun H => ?_))))))
   ·refine az ?_
    cases H
   ·refine ai (aC dL rfl rfl (Tr.k rfl (ae (aa (aP rfl H (fun H => ?_) (fun H => ?_))))))
    ·refine az ?_
     cases H
    ·refine ai (aC dL rfl rfl (Tr.k rfl (ae (aa (aP rfl H (fun H => ?_) (fun H => ?_))))))
     ·refine az ?_
      cases H
     ·refine aN (aJ (aa (ai (Tr.k rfl (ae (aa (aW ?_)))))))
      obtain rfl := oI H
      exact dQ leB

theorem xh {w : Bs} (p0 : lw) (b : Option Addr) (d : Nat) (E : Sl w.O w.W aX b d p0.last.Points) (f : Option Addr) (g : Nat) (F : Sl w.O w.W ay f g p0.last.Steps) (p1 : av) (j : Option Addr) (l : Nat) (a2 : Sl w.R w.W aX j l p1.Points) (o : Option Addr) (q : Nat) (a3 : Sl w.R w.W ay o q p1.Steps) (r : lw) (H : jy p0 p1 = some r) (hE : HF w w.W (iF [])) : Calls Tryz.prog 57 [.agg #[iv p0.dark, sv p0.tool, iv p0.place.X, iv p0.place.Y, bV p0.placed, iv p0.last.Kind, sv p0.last.Name, iv p0.last.At.X, iv p0.last.At.Y, sL b p0.last.Points d, iv p0.last.NX, iv p0.last.NY, sL f p0.last.Steps g], .agg #[iv p1.Kind, sv p1.Name, iv p1.At.X, iv p1.At.Y, sL j p1.Points l, iv p1.NX, iv p1.NY, sL o p1.Steps q]].toArray w.W fun e W' => ∃ (w' : Bs) (u : (Option Addr × Nat) × (Option Addr × Nat)), w.Le w' ∧ e = .returned (.agg #[iv r.dark, sv r.tool, iv r.place.X, iv r.place.Y, bV r.placed, iv r.last.Kind, sv r.last.Name, iv r.last.At.X, iv r.last.At.Y, sL u.1.1 r.last.Points u.1.2, iv r.last.NX, iv r.last.NY, sL u.2.1 r.last.Steps u.2.2]) ∧ (Sl w'.O w'.W aX u.1.1 u.1.2 r.last.Points ∧ Sl w'.O w'.W ay u.2.1 u.2.2 r.last.Steps) ∧ HF w' W' (iF []) := by
 unfold jy at H
 have leB := Bs.Le.refl w
 refine aZ (n := 49) Tryz.func57 rfl rfl rfl hE (ai (gN 1 (cs := [iv p0.dark, sv p0.tool, iv p0.place.X, iv p0.place.Y, bV p0.placed, iv p0.last.Kind, sv p0.last.Name, iv p0.last.At.X, iv p0.last.At.Y, sL b p0.last.Points d, iv p0.last.NX, iv p0.last.NY, sL f p0.last.Steps g]) (wn rfl) rfl rfl rfl fun h => (gN 2 (cs := [iv p1.Kind, sv p1.Name, iv p1.At.X, iv p1.At.Y, sL j p1.Points l, iv p1.NX, iv p1.NY, sL o p1.Steps q]) (wn rfl) rfl rfl rfl fun B => (Tr.alloc 3 (wn rfl) rfl NI fun i => (ae (aa ?_))))))
 have t := Bs.Le.refl w
 refine kT (σ := Int × Int × ByteArray × Int × Int × (List au) × Int × Int × (List av) × (Option Addr) × Nat × (Option Addr) × Nat) (fun w s => jm p0 s.1 s.2.1 s.2.2.1 s.2.2.2.1 s.2.2.2.2.1 s.2.2.2.2.2.1 s.2.2.2.2.2.2.1 s.2.2.2.2.2.2.2.1 s.2.2.2.2.2.2.2.2.1 = some r ∧ Sl w.O w.W aX s.2.2.2.2.2.2.2.2.2.1 s.2.2.2.2.2.2.2.2.2.2.1 s.2.2.2.2.2.1 ∧ Sl w.O w.W ay s.2.2.2.2.2.2.2.2.2.2.2.1 s.2.2.2.2.2.2.2.2.2.2.2.2 s.2.2.2.2.2.2.2.2.1) (fun s => [(2, pV h), (4, pV i)]) (fun s => [(1, bx h #[iv s.1, sv p0.tool, iv p0.place.X, iv p0.place.Y, bV p0.placed, iv s.2.1, sv s.2.2.1, iv s.2.2.2.1, iv s.2.2.2.2.1, sL s.2.2.2.2.2.2.2.2.2.1 s.2.2.2.2.2.1 s.2.2.2.2.2.2.2.2.2.2.1, iv s.2.2.2.2.2.2.1, iv s.2.2.2.2.2.2.2.1, sL s.2.2.2.2.2.2.2.2.2.2.2.1 s.2.2.2.2.2.2.2.2.1 s.2.2.2.2.2.2.2.2.2.2.2.2] 109), (3, bx i #[iv 0, sv ⟨#[]⟩, iv 0, iv 0, bV false, iv 0, sv ⟨#[]⟩, iv 0, iv 0, .slice none 0 0, iv 0, iv 0, .slice none 0 0] 109)]) ?_ ?_
 ·refine ai (aT (ag qZ) rfl (aG rfl (fun _ _ a c => ah bT (a.ev rfl) (dR c (vs := [iv p1.Kind, sv p1.Name, iv p1.At.X, iv p1.At.Y, sL j p1.Points l, iv p1.NX, iv p1.NY, sL o p1.Steps q]) (k := 2) rfl 0) rfl) (ae (aa (Tr.block ?_)))))
  have U := Bs.Le.refl w
  refine kT (σ := Bool) (fun w s => kN p0 p1 s = some r) (fun s => [(2, pV h), (3, pV B), (4, pV i), (6, iv p1.Kind), (7, bV s)]) (fun s => [(1, bx h #[iv p0.dark, sv p0.tool, iv p0.place.X, iv p0.place.Y, bV p0.placed, iv p0.last.Kind, sv p0.last.Name, iv p0.last.At.X, iv p0.last.At.Y, sL b p0.last.Points d, iv p0.last.NX, iv p0.last.NY, sL f p0.last.Steps g] 109), (2, bx B #[iv p1.Kind, sv p1.Name, iv p1.At.X, iv p1.At.Y, sL j p1.Points l, iv p1.NX, iv p1.NY, sL o p1.Steps q] 53), (3, bx i #[iv 0, sv ⟨#[]⟩, iv 0, iv 0, bV false, iv 0, sv ⟨#[]⟩, iv 0, iv 0, .slice none 0 0, iv 0, iv 0, .slice none 0 0] 109)]) ?_ ?_
  ·refine ai (aC dL rfl rfl (Tr.k rfl (ae (aa (aP rfl H (fun H => ?_) (fun H => ?_))))))
   ·exact aN (aD U (p1.Kind == 1) H (.r rfl) (.r rfl))
   ·exact aI (aC dL rfl rfl (Tr.k rfl (ae (aD U (p1.Kind == 2) H (.r rfl) (.r rfl)))))
  ·intro w Z P hs
   have H := hs
   replace H : kN p0 p1 Z = some r := H
   replace E := E.le P
   replace F := F.le P
   replace t := t.trans P
   unfold kN at H
   show Tr _ _ (LF [(2, pV h), (3, pV B), (4, pV i), (6, iv p1.Kind), (7, bV Z)]) (LE [(1, bx h #[iv p0.dark, sv p0.tool, iv p0.place.X, iv p0.place.Y, bV p0.placed, iv p0.last.Kind, sv p0.last.Name, iv p0.last.At.X, iv p0.last.At.Y, sL b p0.last.Points d, iv p0.last.NX, iv p0.last.NY, sL f p0.last.Steps g] 109), (2, bx B #[iv p1.Kind, sv p1.Name, iv p1.At.X, iv p1.At.Y, sL j p1.Points l, iv p1.NX, iv p1.NY, sL o p1.Steps q] 53), (3, bx i #[iv 0, sv ⟨#[]⟩, iv 0, iv 0, bV false, iv 0, sv ⟨#[]⟩, iv 0, iv 0, .slice none 0 0, iv 0, iv 0, .slice none 0 0] 109)]) _
   refine aP rfl H (fun H => ?_) (fun H => ?_)
   ·exact aI (aT (ag qZ) rfl (aG rfl (fun _ _ a c => ah bT (a.ev rfl) (dR c (vs := [iv p1.Kind, sv p1.Name, iv p1.At.X, iv p1.At.Y, sL j p1.Points l, iv p1.NX, iv p1.NY, sL o p1.Steps q]) (k := 2) rfl 0) rfl) (aT (ag Jk) rfl (bJ 1 (cs := [iv p1.Kind]) [iv p1.Kind, sv p0.tool, iv p0.place.X, iv p0.place.Y, bV p0.placed, iv p0.last.Kind, sv p0.last.Name, iv p0.last.At.X, iv p0.last.At.Y, sL b p0.last.Points d, iv p0.last.NX, iv p0.last.NY, sL f p0.last.Steps g] (wn rfl) rfl rfl rfl rfl zY rfl rfl rfl (ae (aJ (aD t (p1.Kind, p0.last.Kind, p0.last.Name, p0.last.At.X, p0.last.At.Y, p0.last.Points, p0.last.NX, p0.last.NY, p0.last.Steps, b, d, f, g) ⟨H, E, F⟩ (.r rfl) (.r rfl))))))))
   ·refine ai (aC dL rfl rfl (Tr.k rfl (ae (aa (aP rfl H (fun H => ?_) (fun H => ?_))))))
    ·cases H
    ·refine ai (aC dL rfl rfl (Tr.k rfl (ae (aa (aP rfl H (fun H => ?_) (fun H => ?_))))))
     ·cases H
     ·have V := Bs.Le.refl w
      refine kT (σ := Bool) (fun w s => kP p0 p1 s = some r) (fun s => [(2, pV h), (3, pV B), (4, pV i), (6, iv p1.Kind), (24, bV s)]) (fun s => [(1, bx h #[iv p0.dark, sv p0.tool, iv p0.place.X, iv p0.place.Y, bV p0.placed, iv p0.last.Kind, sv p0.last.Name, iv p0.last.At.X, iv p0.last.At.Y, sL b p0.last.Points d, iv p0.last.NX, iv p0.last.NY, sL f p0.last.Steps g] 109), (2, bx B #[iv p1.Kind, sv p1.Name, iv p1.At.X, iv p1.At.Y, sL j p1.Points l, iv p1.NX, iv p1.NY, sL o p1.Steps q] 53), (3, bx i #[iv 0, sv ⟨#[]⟩, iv 0, iv 0, bV false, iv 0, sv ⟨#[]⟩, iv 0, iv 0, .slice none 0 0, iv 0, iv 0, .slice none 0 0] 109)]) ?_ ?_
      ·refine ai (aC dL rfl rfl (Tr.k rfl (ae (aa (aP rfl H (fun H => ?_) (fun H => ?_))))))
       ·exact aN (aD V (p1.Kind == 5) H (.r rfl) (.r rfl))
       ·exact aI (aC dL rfl rfl (Tr.k rfl (ae (aD V (p1.Kind == 6) H (.r rfl) (.r rfl)))))
      ·intro w a0 Q hs
       have H := hs
       replace H : kP p0 p1 a0 = some r := H
       replace E := E.le Q
       replace F := F.le Q
       replace t := t.trans Q
       unfold kP at H
       show Tr _ _ (LF [(2, pV h), (3, pV B), (4, pV i), (6, iv p1.Kind), (24, bV a0)]) (LE [(1, bx h #[iv p0.dark, sv p0.tool, iv p0.place.X, iv p0.place.Y, bV p0.placed, iv p0.last.Kind, sv p0.last.Name, iv p0.last.At.X, iv p0.last.At.Y, sL b p0.last.Points d, iv p0.last.NX, iv p0.last.NY, sL f p0.last.Steps g] 109), (2, bx B #[iv p1.Kind, sv p1.Name, iv p1.At.X, iv p1.At.Y, sL j p1.Points l, iv p1.NX, iv p1.NY, sL o p1.Steps q] 53), (3, bx i #[iv 0, sv ⟨#[]⟩, iv 0, iv 0, bV false, iv 0, sv ⟨#[]⟩, iv 0, iv 0, .slice none 0 0, iv 0, iv 0, .slice none 0 0] 109)]) _
       refine aP rfl H (fun H => ?_) (fun H => ?_)
       ·refine az ?_
        cases H
       ·refine ai (aC dL rfl rfl (Tr.k rfl (ae (aa (aP rfl H (fun H => ?_) (fun H => ?_))))))
        ·exact aI (jh (vs := []) (cs := [iv 0, sv ⟨#[]⟩, iv 0, iv 0, .slice none 0 0, iv 0, iv 0, .slice none 0 0]) (wn rfl) rfl eF (by kernel_rfl) (aT (ag OX) rfl (bJ 1 (cs := [iv 0, sv ⟨#[]⟩, iv 0, iv 0, .slice none 0 0, iv 0, iv 0, .slice none 0 0]) [iv p0.dark, sv p0.tool, iv p0.place.X, iv p0.place.Y, bV p0.placed, iv 0, sv ⟨#[]⟩, iv 0, iv 0, .slice none 0 0, iv 0, iv 0, .slice none 0 0] (wn rfl) rfl rfl rfl rfl qF rfl rfl rfl (ae (aJ (aD t (p0.dark, 0, ⟨#[]⟩, 0, 0, [], 0, 0, [], none, 0, none, 0) ⟨H, (Sl.nil _ _ _), (Sl.nil _ _ _)⟩ (.r rfl) (.r rfl)))))))
        ·refine ai (aC dL rfl rfl (Tr.k rfl (ae (aa (aP rfl H (fun H => ?_) (fun H => ?_))))))
         ·cases H
         ·exact aN (aJ (aD t (p0.dark, p0.last.Kind, p0.last.Name, p0.last.At.X, p0.last.At.Y, p0.last.Points, p0.last.NX, p0.last.NY, p0.last.Steps, b, d, f, g) ⟨H, E, F⟩ (.r rfl) (.r rfl)))
 ·intro w s a1 hs
  obtain ⟨G, I, J, K, L, C, M, N, D, v, y, z, A⟩ := s
  obtain ⟨H, S, T⟩ := hs
  replace H : jm p0 G I J K L C M N D = some r := H
  replace leB := leB.trans a1
  replace S : Sl w.O w.W aX v y C := S
  replace T : Sl w.O w.W ay z A D := T
  unfold jm at H
  dsimp only
  refine ai (aG rfl (fun _ _ a c => aM (cs := [iv G, sv p0.tool, iv p0.place.X, iv p0.place.Y, bV p0.placed, iv I, sv J, iv K, iv L, sL v C y, iv M, iv N, sL z D A]) H8 zZ (a.ev rfl) (aF.take (dR c (vs := [iv G, sv p0.tool, iv p0.place.X, iv p0.place.Y, bV p0.placed, iv I, sv J, iv K, iv L, sL v C y, iv M, iv N, sL z D A]) (k := 1) rfl 0) 13) rfl) (bJ 3 (cs := [iv G, sv p0.tool, iv p0.place.X, iv p0.place.Y, bV p0.placed, iv I, sv J, iv K, iv L, sL v C y, iv M, iv N, sL z D A]) [iv G, sv p0.tool, iv p0.place.X, iv p0.place.Y, bV p0.placed, iv I, sv J, iv K, iv L, sL v C y, iv M, iv N, sL z D A] (wn rfl) rfl rfl rfl rfl zZ rfl rfl rfl (ae (aa (aW ?_)))))
  obtain rfl := oI H
  exact Tr.out (m := [.agg #[iv G, sv p0.tool, iv p0.place.X, iv p0.place.Y, bV p0.placed, iv I, sv J, iv K, iv L, sL v C y, iv M, iv N, sL z D A]]) [3] (og rfl rfl H8 zZ bO) (fun W hW => ⟨w, ((v, y), (z, A)), leB, rfl, ⟨S, T⟩, hW.pick (ks := []) (by decide) bn⟩)

theorem Bz {w : Bs} (p0 : (List av)) (I : Option Addr) (q : Nat) (l : Sl w.R w.W ay I q p0) (r : Int) (H : rY p0 = some r) (hE : HF w w.W E0) : Calls Tryz.prog 29 [sL I p0 q].toArray w.W fun e W' => e = .returned (iv r) ∧ HF w W' E0 := by
 unfold rY at H
 have leB := Bs.Le.refl w
 refine aZ (n := 26) Tryz.func29 rfl rfl rfl hE (ai (Tr.k rfl (ae (aa (ai (jh (vs := [(0, iv 1)]) (cs := [iv 1, sv ⟨#[]⟩, iv 0, iv 0, bV false, iv 0, sv ⟨#[]⟩, iv 0, iv 0, .slice none 0 0, iv 0, iv 0, .slice none 0 0]) (wn rfl) rfl (bH rfl eF) (by kernel_rfl) (Tr.alloc 1 (wn rfl) rfl NI fun a8 => (bJ 1 (cs := [iv 1, sv ⟨#[]⟩, iv 0, iv 0, bV false, iv 0, sv ⟨#[]⟩, iv 0, iv 0, .slice none 0 0, iv 0, iv 0, .slice none 0 0]) [iv 1, sv ⟨#[]⟩, iv 0, iv 0, bV false, iv 0, sv ⟨#[]⟩, iv 0, iv 0, .slice none 0 0, iv 0, iv 0, .slice none 0 0] (wn rfl) rfl rfl rfl rfl zZ rfl rfl rfl (ae (aa (az (ai (aA rfl (aT (bz tH) rfl (aA rfl (ae (aa (Tr.block (df (σ := (List av) × Nat × Int × ByteArray × Int × Int × Bool × Int × ByteArray × Int × Int × (List au) × Int × Int × (List av) × (Option Addr) × Nat × (Option Addr) × Nat) (fun m w s => m = s.1.length + 1 ∧ s.1 = List.drop s.2.1 p0 ∧ s.2.1 ≤ p0.length ∧ jU p0 s.1 s.2.1 s.2.2.1 s.2.2.2.1 s.2.2.2.2.1 s.2.2.2.2.2.1 s.2.2.2.2.2.2.1 s.2.2.2.2.2.2.2.1 s.2.2.2.2.2.2.2.2.1 s.2.2.2.2.2.2.2.2.2.1 s.2.2.2.2.2.2.2.2.2.2.1 s.2.2.2.2.2.2.2.2.2.2.2.1 s.2.2.2.2.2.2.2.2.2.2.2.2.1 s.2.2.2.2.2.2.2.2.2.2.2.2.2.1 s.2.2.2.2.2.2.2.2.2.2.2.2.2.2.1 = some r ∧ Sl w.O w.W aX s.2.2.2.2.2.2.2.2.2.2.2.2.2.2.2.1 s.2.2.2.2.2.2.2.2.2.2.2.2.2.2.2.2.1 s.2.2.2.2.2.2.2.2.2.2.2.1 ∧ Sl w.O w.W ay s.2.2.2.2.2.2.2.2.2.2.2.2.2.2.2.2.2.1 s.2.2.2.2.2.2.2.2.2.2.2.2.2.2.2.2.2.2 s.2.2.2.2.2.2.2.2.2.2.2.2.2.2.1) (fun s => [(0, sL I p0 q), (3, pV a8), (7, sL I p0 q), (8, iv (p0.length : Int)), (9, iv (s.2.1 : Int))]) (fun s => [(1, bx a8 #[iv s.2.2.1, sv s.2.2.2.1, iv s.2.2.2.2.1, iv s.2.2.2.2.2.1, bV s.2.2.2.2.2.2.1, iv s.2.2.2.2.2.2.2.1, sv s.2.2.2.2.2.2.2.2.1, iv s.2.2.2.2.2.2.2.2.2.1, iv s.2.2.2.2.2.2.2.2.2.2.1, sL s.2.2.2.2.2.2.2.2.2.2.2.2.2.2.2.1 s.2.2.2.2.2.2.2.2.2.2.2.1 s.2.2.2.2.2.2.2.2.2.2.2.2.2.2.2.2.1, iv s.2.2.2.2.2.2.2.2.2.2.2.2.1, iv s.2.2.2.2.2.2.2.2.2.2.2.2.2.1, sL s.2.2.2.2.2.2.2.2.2.2.2.2.2.2.2.2.2.1 s.2.2.2.2.2.2.2.2.2.2.2.2.2.2.1 s.2.2.2.2.2.2.2.2.2.2.2.2.2.2.2.2.2.2] 109)]) (p0.length + 1) (p0, 0, 1, ⟨#[]⟩, 0, 0, false, 0, ⟨#[]⟩, 0, 0, [], 0, 0, [], none, 0, none, 0) ⟨rfl, rfl, Nat.zero_le _, H, (Sl.nil _ _ _), (Sl.nil _ _ _)⟩ (.r rfl) (.r rfl) (fun _ _ h => absurd h.1 (by simp)) ?_)))))))))))))))))))
 intro w a5 m s hs
 obtain ⟨o, a7, M, N, P, Q, S, T, V, Z, a0, J, a1, a2, K, t, v, y, A⟩ := s
 obtain ⟨b0, L, c5, H, a3, a4⟩ := hs
 replace L : o = List.drop a7 p0 := L
 replace H : jU p0 o a7 M N P Q S T V Z a0 J a1 a2 K = some r := H
 replace b0 : m + 1 = o.length + 1 := b0
 replace l := l.nL a5
 replace leB := leB.trans a5
 replace a3 : Sl w.O w.W aX t v J := a3
 replace a4 : Sl w.O w.W ay y A K := a4
 obtain rfl : m = o.length := by omega
 clear b0
 dsimp only
 cases o with
 | nil =>
  rw [jU.eq_1] at H
  refine ai (aC bg rfl rfl (ae (aa (az (eQ rfl (dZ L) (bW (aB (aB (aR (aa (ai (Tr.k rfl (ae (aa (aW ?_)))))))))))))))
  obtain rfl := oI H
  exact dQ leB
 | cons d o =>
  rw [jU.eq_2] at H
  refine ai (aC bg rfl rfl (ae (aa (az (eP rfl (fJ L) (aN (aa (az (Tr.block (ai (aA rfl ?_)))))))))))
  obtain ⟨c3, a6, b4, b7⟩ := (l).el (gy L)
  obtain ⟨⟨f, g⟩, ⟨i, j⟩⟩ := c3
  obtain ⟨B, C⟩ := kw.1 b4
  replace B : Sl w.R w.W aX f g d.Points := B
  replace C : Sl w.R w.W ay i j d.Steps := C
  refine aG rfl (fun _ _ a c => ak wS (a.ev rfl) l.form (a.ev rfl) (Int.natCast_nonneg _) (bF L)) (aG rfl (fun _ _ a c => aM (cs := [iv d.Kind, sv d.Name, iv d.At.X, iv d.At.Y, sL f d.Points g, iv d.NX, iv d.NY, sL i d.Steps j]) yY qF (a.ev rfl) (aF.take (ut a6 b7 c) 8) rfl) (Tr.alloc 4 (wn rfl) rfl AJ fun c6 => (Tr.k rfl (bJ 4 (cs := [iv d.Kind, sv d.Name, iv d.At.X, iv d.At.Y, sL f d.Points g, iv d.NX, iv d.NY, sL i d.Steps j]) [iv d.Kind, sv d.Name, iv d.At.X, iv d.At.Y, sL f d.Points g, iv d.NX, iv d.NY, sL i d.Steps j] (wn rfl) rfl rfl rfl rfl qF rfl rfl rfl (ae (aa (az (az (jb (by kernel_rfl) (by kernel_rfl) (bi rfl (fun _ _ a c => aM (cs := [iv d.Kind, sv d.Name, iv d.At.X, iv d.At.Y, sL f d.Points g, iv d.NX, iv d.NY, sL i d.Steps j]) yY qF (a.ev rfl) (aF.take (dR c (vs := [iv d.Kind, sv d.Name, iv d.At.X, iv d.At.Y, sL f d.Points g, iv d.NX, iv d.NY, sL i d.Steps j]) (k := 4) rfl 0) 8) rfl) (bi rfl (fun _ _ a c => aM (cs := [iv M, sv N, iv P, iv Q, bV S, iv T, sv V, iv Z, iv a0, sL t J v, iv a1, iv a2, sL y K A]) H8 zZ (a.ev rfl) (aF.take (dR c (vs := [iv M, sv N, iv P, iv Q, bV S, iv T, sv V, iv Z, iv a0, sL t J v, iv a1, iv a2, sL y K A]) (k := 1) rfl 0) 13) rfl) ?_)))))))))))
  refine dD rfl (dD rfl (fO bv rfl rfl ?_))
  obtain ⟨c4, b3, H⟩ := bnd H
  refine bi rfl (fun _ _ a c => uX wS (a.ev rfl) l.form (a.ev rfl) b3) ?_
  obtain ⟨b8, b9, H⟩ := bnd H
  refine qV (r := (bV b8)) (wn rfl) rfl Tryz.call56 (aj rfl (aj rfl (aj rfl aL))) (fun W hW => Az d f g (B.ext hW.cB) i j (C.ext hW.cB) (lw.mk M N (au.mk P Q) S (av.mk T V (au.mk Z a0) J a1 a2 K)) t v (a3.rl.ext hW.cB) y A (a4.rl.ext hW.cB) c4 (uF I (bG ((a7 : Int) + 1)).toNat 8 q) (q - (bG ((a7 : Int) + 1)).toNat) (Sl.cut (l.ext hW.cB) b3) b8 b9 (HF.start _)) (iE (aa (aP rfl H (fun H => ?_) (fun H => ?_))))
  ·refine ai (aA rfl (Tr.k rfl (ae (aa (aW (aK (bL (aK (aK (bL (aK ?_)))))))))))
   obtain rfl := oI H
   exact dQ leB
  ·refine aN (aa (aI (aG rfl (fun _ _ a c => aM (cs := [iv M, sv N, iv P, iv Q, bV S, iv T, sv V, iv Z, iv a0, sL t J v, iv a1, iv a2, sL y K A]) H8 zZ (a.ev rfl) (aF.take (dR c (vs := [iv M, sv N, iv P, iv Q, bV S, iv T, sv V, iv Z, iv a0, sL t J v, iv a1, iv a2, sL y K A]) (k := 1) rfl 0) 13) rfl) (aG rfl (fun _ _ a c => aM (cs := [iv d.Kind, sv d.Name, iv d.At.X, iv d.At.Y, sL f d.Points g, iv d.NX, iv d.NY, sL i d.Steps j]) yY qF (a.ev rfl) (aF.take (dR c (vs := [iv d.Kind, sv d.Name, iv d.At.X, iv d.At.Y, sL f d.Points g, iv d.NX, iv d.NY, sL i d.Steps j]) (k := 4) rfl 0) 8) rfl) ?_))))
   obtain ⟨b, c0, H⟩ := bnd H
   refine fq [] [] (U := (Option Addr × Nat) × (Option Addr × Nat)) (fun u => (.agg #[iv b.dark, sv b.tool, iv b.place.X, iv b.place.Y, bV b.placed, iv b.last.Kind, sv b.last.Name, iv b.last.At.X, iv b.last.At.Y, sL u.1.1 b.last.Points u.1.2, iv b.last.NX, iv b.last.NY, sL u.2.1 b.last.Steps u.2.2])) (fun O W u => Sl O W aX u.1.1 u.1.2 b.last.Points ∧ Sl O W ay u.2.1 u.2.2 b.last.Steps) (fun u => []) rfl bn (fun _ => rfl) (wn rfl) rfl Tryz.call57 (aj rfl (aj rfl aL)) (fun W hW hp hE => xh (lw.mk M N (au.mk P Q) S (av.mk T V (au.mk Z a0) J a1 a2 K)) t v (a3.qK (hW.gM hp)) y A (a4.qK (hW.gM hp)) d f g (B.ext (hW.gM hp)) i j (C.ext (hW.gM hp)) b c0 hE) ?_
   intro w u a9 hu
   obtain ⟨⟨D, E⟩, ⟨F, G⟩⟩ := u
   obtain ⟨b5, b6⟩ := hu
   replace l := l.nL a9
   replace a6 := a9.r _ a6
   replace a5 := a5.trans a9
   have b1 : Sl w.O w.W aX D E b.last.Points := b5 --@phi
   have b2 : Sl w.O w.W ay F G b.last.Steps := b6 --@phi
   dsimp only
   exact bJ 1 (cs := [iv b.dark, sv b.tool, iv b.place.X, iv b.place.Y, bV b.placed, iv b.last.Kind, sv b.last.Name, iv b.last.At.X, iv b.last.At.Y, sL D b.last.Points E, iv b.last.NX, iv b.last.NY, sL F b.last.Steps G]) [iv b.dark, sv b.tool, iv b.place.X, iv b.place.Y, bV b.placed, iv b.last.Kind, sv b.last.Name, iv b.last.At.X, iv b.last.At.Y, sL D b.last.Points E, iv b.last.NX, iv b.last.NY, sL F b.last.Steps G] (wn rfl) rfl rfl rfl rfl zZ rfl rfl rfl (ae (aJ (aa (aI (aC bv rfl rfl (aA rfl (ae (aD a5 (o, (a7 + 1), b.dark, b.tool, b.place.X, b.place.Y, b.placed, b.last.Kind, b.last.Name, b.last.At.X, b.last.At.Y, b.last.Points, b.last.NX, b.last.NY, b.last.Steps, D, E, F, G) ⟨rfl, fe L, bF L, H, b1, b2⟩ (.cons rfl (.cons rfl (.cons rfl (.cons rfl (.cons (congrArg (fun z => some (Value.int .i64 z)) (eZ L l.form)) .nil))))) (.r rfl)))))))))

theorem qx (N : Nat) {w : Bs} (p0 : (List ic)) (d : Option Addr) (f : Nat) (j : Sl w.O w.W aY d f p0) (iW : Nat) (hb0 : w.R iW) (hc0 : aF w.W iW 0 [.func (.func 28) #[] #[]]) (r : (List ic)) (H : iQ N p0 = some r) (hE : HF w w.W (iF [emp])) : Calls Tryz.prog 52 [sL d p0 f, .func (.func 53) #[] #[pV iW]].toArray w.W fun e W' => ∃ (w' : Bs) (u : (Option Addr × Nat)), w.Le w' ∧ e = .returned (sL u.1 r u.2) ∧ (dM u.1 r.length u.2) ∧ HF w' W' (iF [ow u.1 u.2 58 aY r]) := by
 unfold iQ at H
 have leB := Bs.Le.refl w
 refine aZ (n := 50) Tryz.func52 rfl rfl rfl hE (ai (Tr.k rfl (bM 1 58 aY ?_)))
 show Tr _ _ (uf _ 4 (sL none (([] : List ic)) 0)) _ _
 refine ae (aa (ai (aA rfl ?_)))
 obtain ⟨c, l, H⟩ := bnd H
 refine fq [2] [emp] (U := (Option Addr × Nat)) (fun u => (sL u.1 c u.2)) (fun O W u => dM u.1 c.length u.2) (fun u => [ow u.1 u.2 58 aY c]) rfl (aH rfl bn) (fun _ => rfl) (wn rfl) rfl Tryz.call99 (aj rfl aL) (fun W hW hp hE => vC p0 d f (j.qK (hW.gM hp)) c l hE) ?_
 intro w u o hu
 obtain ⟨a, b⟩ := u
 have i := hu
 replace leB := leB.trans o
 have g : dM a c.length b := i --@phi
 dsimp only
 refine Tr.k rfl (ae (aa (az (ai (aA rfl (aT (bz zR) rfl (aA rfl (ae (aa (Tr.block (df (σ := Unit) (fun m w _ => iB c m = some r) (fun _ => [(1, .func (.func 53) #[] #[pV iW]), (5, sL a c b), (12, iv (c.length : Int)), (13, iv 0)]) (fun _ => [(2, ow a b 58 aY c)]) N () H (.r rfl) (.r rfl) (fun _ _ h => jQ (h)) ?_)))))))))))
 intro w q s _ hs
 have H := hs
 replace H : iB c (s + 1) = some r := H
 replace leB := leB.trans q
 rw [iB.eq_2] at H
 show Tr _ _ (LF [(1, .func (.func 53) #[] #[pV iW]), (5, sL a c b), (12, iv (c.length : Int)), (13, iv 0)]) (LE [(2, ow a b 58 aY c)]) _
 refine ai (aC bg rfl rfl (ae (aa (az (aP rfl H (fun H => ?_) (fun H => ?_))))))
 ·refine aN (aa (az (Tr.block (az ?_))))
  cases H
 ·refine bW (aB (aB (aR (aa (ai (aA rfl (Tr.k rfl (ae (aa (aW ?_))))))))))
  obtain rfl := oI H
  exact Tr.out (m := [sL a c b]) [] (cO rfl bO) (fun W hW => ⟨w, (a, b), leB, rfl, g, hW.pick (ks := [2]) (by decide) (aH rfl bn)⟩)

theorem pE {w : Bs} (p0 : au) (iW : Nat) (hb0 : w.R iW) (hc0 : aF w.W iW 0 [.func (.func 28) #[] #[]]) (r : au) (H : jO p0 = some r) (hE : HF w w.W E0) : Calls Tryz.prog 51 [.agg #[iv p0.X, iv p0.Y], pV iW].toArray w.W fun e W' => e = .returned (.agg #[iv r.X, iv r.Y]) ∧ HF w W' E0 := by
 unfold jO at H
 have leB := Bs.Le.refl w
 refine aZ (n := 13) Tryz.func51 rfl rfl rfl hE (ai (gN 1 (cs := [iv p0.X, iv p0.Y]) (wn rfl) rfl rfl rfl fun h => (Tr.alloc 2 (wn rfl) rfl vQ fun i => (ae (aa (az (kG 7 (by kernel_rfl) (by kernel_rfl) (bi rfl (fun _ _ a c => ah RO (a.ev rfl) (ut hb0 hc0 c) rfl) (fQ (ag nC) rfl (bi rfl (fun _ _ a c => ah bT (a.ev rfl) (dR c (vs := [iv p0.X, iv p0.Y]) (k := 1) rfl 0) rfl) ?_))))))))))
 obtain ⟨b, f, H⟩ := bnd H
 refine oo (r := (iv b)) (wn rfl) rfl rfl Tryz.call28 (aj rfl aL) (fun W hW => ww p0.X b f (HF.start _)) (bi rfl (fun _ _ a c => ah RO (a.ev rfl) (ut hb0 hc0 c) rfl) (fQ (ag lm) rfl (bi rfl (fun _ _ a c => ah bT (a.ev rfl) (dR c (vs := [iv p0.X, iv p0.Y]) (k := 1) rfl 1) rfl) (iE ?_))))
 obtain ⟨d, g, H⟩ := bnd H
 refine vw (r := (iv d)) (wn rfl) rfl rfl Tryz.call28 (aj rfl aL) (fun W hW => ww p0.Y d g (HF.start _)) (jh (vs := [(0, iv b), (1, iv d)]) (cs := [iv b, iv d]) (wn rfl) rfl (bH rfl (bH rfl eF)) (by kernel_rfl) (bJ 2 (cs := [iv b, iv d]) [iv b, iv d] (wn rfl) rfl rfl rfl rfl gV rfl rfl rfl (ae (aa (aW ?_)))))
 obtain rfl := oI H
 exact Tr.out (m := [.agg #[iv b, iv d]]) [2] (og rfl rfl jZ gV bO) (fun W hW => ⟨rfl, hW.low leB⟩)

theorem qb {w : Bs} (p0 : av) (b : Option Addr) (d : Nat) (g : Option Addr) (j : Nat) (a1 : Sl w.R w.W ay g j p0.Steps) (Ae0 : Option Addr) (ce0 : Nat) (Uo : List av) (ie0 : Nat) (hi0 : ie0 < Uo.length) (iW : Nat) (vI : Nat) (hb0 : w.R iW) (hc0 : aF w.W iW 0 [.func (.func 51) #[] #[pV vI]]) (hb1 : w.R vI) (hc1 : aF w.W vI 0 [.func (.func 28) #[] #[]]) (r : (Int × Int × (List au))) (H : gJ p0 = some r) (hE : HF w w.W (iF [ow Ae0 ce0 53 (He ay) (qQ Uo ie0 (raw ay [iv p0.Kind, sv p0.Name, iv p0.At.X, iv p0.At.Y, sL b p0.Points d, iv p0.NX, iv p0.NY, sL g p0.Steps j] rfl rfl)), ow b d 47 aX p0.Points])) : Calls Tryz.prog 55 [.pointer (some ⟨mV Ae0, pW Ae0 + ie0 * 8, none⟩), pV iW].toArray w.W fun e W' => ∃ (w' : Bs) (u : Unit), w.Le w' ∧ e = .returned (.tuple #[]) ∧ (r.2.2.length = p0.Points.length) ∧ HF w' W' (iF [ow Ae0 ce0 53 (He ay) (qQ Uo ie0 (raw ay [iv p0.Kind, sv p0.Name, iv r.1, iv r.2.1, sL b r.2.2 d, iv p0.NX, iv p0.NY, sL g p0.Steps j] rfl rfl)), ow b d 47 aX r.2.2]) := by
 unfold gJ at H
 have I := (hE.sl (k := 1) rfl).form
 have leB := Bs.Le.refl w
 refine aZ (n := 37) Tryz.func55 rfl rfl rfl hE (az (kG 7 (by kernel_rfl) (by kernel_rfl) (dD rfl (bi rfl (fun _ _ a c => ah PH (a.ev rfl) (ut hb0 hc0 c) rfl) (dD rfl (fQ iX rfl (fQ (ag xN) rfl (bi rfl (fun _ _ a c => aM (cs := [iv p0.At.X, iv p0.At.Y]) jZ gV (a.ev rfl) (aF.take (aF.drop (Ud (cs := raw ay [iv p0.Kind, sv p0.Name, iv p0.At.X, iv p0.At.Y, sL b p0.Points d, iv p0.NX, iv p0.NY, sL g p0.Steps j] rfl rfl) c (κ := 0) rfl hi0) 2) 2) rfl) ?_))))))))
 obtain ⟨f, T, H⟩ := bnd H
 refine oo (r := (.agg #[iv f.X, iv f.Y])) (wn rfl) rfl rfl Tryz.call51 (aj rfl aL) (fun W hW => pE p0.At vI (hW.cB.r _ hb1) (hW.cB.cells hb1 hc1) f T (HF.start _)) (iE (aT iX rfl (aT (ag xN) rfl (yZ 0 (raw ay [iv p0.Kind, sv p0.Name, iv f.X, iv f.Y, sL b p0.Points d, iv p0.NX, iv p0.NY, sL g p0.Steps j] rfl rfl) (cs := [iv f.X, iv f.Y]) (fo := 2) (wn rfl) rfl rfl rfl rfl rfl hi0 gV rfl rfl rfl (ae (aa (ai (aA rfl (aT iX rfl (aT (ag qY) rfl (aG rfl (fun _ _ a c => ah tT (a.ev rfl) (aF.drop (Ud (cs := raw ay [iv p0.Kind, sv p0.Name, iv f.X, iv f.Y, sL b p0.Points d, iv p0.NX, iv p0.NY, sL g p0.Steps j] rfl rfl) c (κ := 0) rfl hi0) 4) rfl) (aT (bz qc) rfl (aA rfl (ae (aa (Tr.block (df (σ := (List au) × Nat × (List au)) (fun m w s => m = s.1.length + 1 ∧ s.1 = List.drop s.2.1 p0.Points ∧ s.2.1 ≤ p0.Points.length ∧ bX f s.1 s.2.1 s.2.2 = some r ∧ s.2.2.length = p0.Points.length) (fun s => [(0, .pointer (some ⟨mV Ae0, pW Ae0 + ie0 * 8, none⟩)), (1, pV iW), (17, iv (p0.Points.length : Int)), (18, iv (s.2.1 : Int))]) (fun s => [(0, ow Ae0 ce0 53 (He ay) (qQ Uo ie0 (raw ay [iv p0.Kind, sv p0.Name, iv f.X, iv f.Y, sL b s.2.2 d, iv p0.NX, iv p0.NY, sL g p0.Steps j] rfl rfl))), (1, ow b d 47 aX s.2.2)]) (p0.Points.length + 1) (p0.Points, 0, p0.Points) ⟨rfl, rfl, Nat.zero_le _, H, rfl⟩ (.r rfl) (.r rfl) (fun _ _ h => absurd h.1 (by simp)) ?_)))))))))))))))))
 intro w D m s hs
 obtain ⟨o, q, v⟩ := s
 obtain ⟨J, B, a2, H, C⟩ := hs
 replace B : o = List.drop q p0.Points := B
 replace H : bX f o q v = some r := H
 replace J : m + 1 = o.length + 1 := J
 replace hc0 := D.ext.cells hb0 hc0
 replace hb0 := D.r _ hb0
 replace hc1 := D.ext.cells hb1 hc1
 replace hb1 := D.r _ hb1
 replace leB := leB.trans D
 replace C : v.length = p0.Points.length := C
 have F : dM b v.length d := (by rw [C]; exact I)
 obtain rfl : m = o.length := by omega
 clear J
 dsimp only
 cases o with
 | nil =>
  rw [bX.eq_1] at H
  refine ai (aC bg rfl rfl (ae (aa (az (eQ rfl (dZ B) (bW (aB (aB (aR (om ?_))))))))))
  obtain rfl := oI H
  exact Tr.out (m := []) [] bO (fun W hW => ⟨w, (), leB, rfl, C, hW.pick (ks := [0, 1]) (by decide) (aH rfl (aH rfl bn))⟩)
 | cons a4 o =>
  rw [bX.eq_2] at H
  refine ai (aC bg rfl rfl (ae (aa (az (eP rfl (fJ B) (aN (aa (az (Tr.block (ai (aA rfl (Tr.k rfl (ae (aa (kG 14 (by kernel_rfl) (by kernel_rfl) (dD rfl (fQ iX rfl (fQ (ag qY) rfl (bi rfl (fun _ _ a c => ah tT (a.ev rfl) (aF.drop (Ud (cs := raw ay [iv p0.Kind, sv p0.Name, iv f.X, iv f.Y, sL b v d, iv p0.NX, iv p0.NY, sL g p0.Steps j] rfl rfl) c (κ := 0) rfl hi0) 4) rfl) (dD rfl (bi rfl (fun _ _ a c => ah PH (a.ev rfl) (ut hb0 hc0 c) rfl) (dD rfl (fQ iX rfl (fQ (ag qY) rfl (bi rfl (fun _ _ a c => ah tT (a.ev rfl) (aF.drop (Ud (cs := raw ay [iv p0.Kind, sv p0.Name, iv f.X, iv f.Y, sL b v d, iv p0.NX, iv p0.NY, sL g p0.Steps j] rfl rfl) c (κ := 0) rfl hi0) 4) rfl) (dD rfl ?_))))))))))))))))))))))))))
  obtain ⟨G, U, H⟩ := bnd H
  obtain ⟨L, M, N⟩ := aU U
  refine bi rfl (fun _ _ a c => ak qH (a.ev rfl) F (a.ev rfl) L M) (bi rfl (fun _ _ a c => aM (cs := [iv G.X, iv G.Y]) jZ gV (a.ev rfl) (aF.take (Ac jF (k := 1) c rfl N) 2) rfl) ?_)
  obtain ⟨y, V, H⟩ := bnd H
  refine oo (r := (.agg #[iv y.X, iv y.Y])) (wn rfl) rfl rfl Tryz.call51 (aj rfl aL) (fun W hW => pE G vI (hW.cB.r _ hb1) (hW.cB.cells hb1 hc1) y V (HF.start _)) (iE ?_)
  obtain ⟨a3, Z, H⟩ := bnd H
  obtain ⟨O, P, Q⟩ := aU Z
  refine aG rfl (fun _ _ a c => ak qH (a.ev rfl) F (a.ev rfl) O P) ?_
  obtain ⟨E, K, H⟩ := bnd H
  have A := nZ K
  refine oK 1 (t := aX) (l := v) (i := (q : Int)) (fo := 0) (cs := [iv y.X, iv y.Y]) y (wn rfl) rfl rfl rfl rfl rfl Q gV rfl (fun u _ => ⟨u, trivial, rfl⟩) rfl K ?_
  have a0 : dM b E.length d := by rw [A]; exact F
  have S := A.trans C
  exact Tr.vJ (lf := [(0, .pointer (some ⟨mV Ae0, pW Ae0 + ie0 * 8, none⟩)), (1, pV iW), (3, iv (q : Int)), (17, iv (p0.Points.length : Int)), (18, iv (q : Int)), (19, bV (decide ((q : Int) < (p0.Points.length : Int)))), (20, iv (q : Int)), (21, .pointer (some ⟨mV Ae0, pW Ae0 + ie0 * 8, none⟩)), (22, .pointer (some ⟨mV Ae0, pW Ae0 + ie0 * 8, none⟩)), (23, .pointer (some ⟨mV Ae0, pW Ae0 + ie0 * 8 + 4, none⟩)), (24, sL b E d), (25, iv (q : Int)), (26, .func (.func 51) #[] #[pV vI]), (27, .pointer (some ⟨mV Ae0, pW Ae0 + ie0 * 8, none⟩)), (28, .pointer (some ⟨mV Ae0, pW Ae0 + ie0 * 8, none⟩)), (29, .pointer (some ⟨mV Ae0, pW Ae0 + ie0 * 8 + 4, none⟩)), (30, sL b E d), (31, iv (q : Int)), (33, .agg #[iv G.X, iv G.Y]), (34, .agg #[iv y.X, iv y.Y])]) (le := [(0, ow Ae0 ce0 53 (He ay) (qQ Uo ie0 (raw ay [iv p0.Kind, sv p0.Name, iv f.X, iv f.Y, sL b E d, iv p0.NX, iv p0.NY, sL g p0.Steps j] rfl rfl))), (1, ow b d 47 aX E)]) (.cons rfl (.cons rfl (.cons rfl (.cons rfl (.cons rfl (.cons rfl (.cons rfl (.cons rfl (.cons rfl (.cons rfl (.cons (dJ rfl (by unfold sL; rw [A])) (.cons rfl (.cons rfl (.cons rfl (.cons rfl (.cons rfl (.cons (dJ rfl (by unfold sL; rw [A])) (.r rfl)))))))))))))))))) (.cons (Uv rfl (by unfold sL; rw [A])) (.r rfl)) (ae (aJ (aa (aI (aC bv rfl rfl (aA rfl (ae (aD D (o, (q + 1), E) ⟨rfl, fe B, bF B, H, S⟩ (.cons rfl (.cons rfl (.cons rfl (.cons (congrArg (fun z => some (Value.int .i64 z)) (eZ B I)) .nil)))) (.r rfl)))))))))

theorem nR (N : Nat) (rec : (List av) → Option (List av)) (hrec : ∀ {w : Bs} (p0 : (List av)) (P : Option Addr) (Q : Nat) (a6 : Sl w.O w.W ay P Q p0) (iW : Nat) (vI : Nat) (hb0 : w.R iW) (hc0 : aF w.W iW 0 [.func (.func 51) #[] #[pV vI]]) (hb1 : w.R vI) (hc1 : aF w.W vI 0 [.func (.func 28) #[] #[]]) (r : (List av)) (H : rec p0 = some r) (hE : HF w w.W (iF [emp])), Calls Tryz.prog 54 [sL P p0 Q, .func (.func 55) #[] #[pV iW]].toArray w.W fun e W' => ∃ (w' : Bs) (u : (Option Addr × Nat)), w.Le w' ∧ e = .returned (sL u.1 r u.2) ∧ (dM u.1 r.length u.2) ∧ HF w' W' (iF [ow u.1 u.2 53 ay r])) {w : Bs} (p0 : (List av)) (P : Option Addr) (Q : Nat) (a6 : Sl w.O w.W ay P Q p0) (iW : Nat) (vI : Nat) (hb0 : w.R iW) (hc0 : aF w.W iW 0 [.func (.func 51) #[] #[pV vI]]) (hb1 : w.R vI) (hc1 : aF w.W vI 0 [.func (.func 28) #[] #[]]) (r : (List av)) (H : fF N rec p0 = some r) (hE : HF w w.W (iF [emp])) : Calls Tryz.prog 54 [sL P p0 Q, .func (.func 55) #[] #[pV iW]].toArray w.W fun e W' => ∃ (w' : Bs) (u : (Option Addr × Nat)), w.Le w' ∧ e = .returned (sL u.1 r u.2) ∧ (dM u.1 r.length u.2) ∧ HF w' W' (iF [ow u.1 u.2 53 ay r]) := by
 unfold fF at H
 have leB := Bs.Le.refl w
 refine aZ (n := 42) Tryz.func54 rfl rfl rfl hE (ai (Tr.k rfl (bM 1 53 ay ?_)))
 show Tr _ _ (uf _ 4 (sL none (([] : List av)) 0)) _ _
 refine ae (aa (ai (aA rfl ?_)))
 obtain ⟨z, d2, H⟩ := bnd H
 refine fq [2] [emp] (U := (Option Addr × Nat)) (fun u => (sL u.1 z u.2)) (fun O W u => dM u.1 z.length u.2) (fun u => [ow u.1 u.2 53 ay z]) rfl (aH rfl bn) (fun _ => rfl) (wn rfl) rfl Tryz.call100 (aj rfl aL) (fun W hW hp hE => vD p0 P Q (a6.qK (hW.gM hp)) z d2 hE) ?_
 intro w u Z hu
 obtain ⟨S, T⟩ := u
 have a8 := hu
 replace hc0 := Z.ext.cells hb0 hc0
 replace hb0 := Z.r _ hb0
 replace hc1 := Z.ext.cells hb1 hc1
 replace hb1 := Z.r _ hb1
 replace leB := leB.trans Z
 have a3 : dM S z.length T := a8 --@phi
 dsimp only
 refine Tr.k rfl (ae (aa (az (ai (aA rfl (aT (bz tH) rfl (aA rfl (ae (aa (Tr.block (df (σ := (List av) × Int × (Option Addr) × Nat) (fun m w s => bR rec z m s.1 s.2.1 = some r ∧ dM s.2.2.1 s.1.length s.2.2.2) (fun s => [(1, .func (.func 55) #[] #[pV iW]), (5, sL s.2.2.1 s.1 s.2.2.2), (10, iv (z.length : Int)), (11, iv s.2.1)]) (fun s => [(2, ow s.2.2.1 s.2.2.2 53 ay s.1)]) N (z, 0, S, T) ⟨H, a3⟩ (.r rfl) (.r rfl) (fun _ _ h => jQ (h.1)) ?_)))))))))))
 intro w B f5 s hs
 obtain ⟨o, g, f, l⟩ := s
 obtain ⟨H, E⟩ := hs
 replace H : bR rec z (f5 + 1) o g = some r := H
 replace hc0 := B.ext.cells hb0 hc0
 replace hb0 := B.r _ hb0
 replace hc1 := B.ext.cells hb1 hc1
 replace hb1 := B.r _ hb1
 replace leB := leB.trans B
 replace E : dM f o.length l := E
 rw [bR.eq_2] at H
 dsimp only
 refine ai (aC bg rfl rfl (ae (aa (az (aP rfl H (fun H => ?_) (fun H => ?_))))))
 ·refine aN (aa (az (Tr.block (ai (aA rfl (Tr.k rfl (ae (aa (ai (aA rfl (aA rfl (aA rfl (aA rfl ?_)))))))))))))
  obtain ⟨J, d3, H⟩ := bnd H
  obtain ⟨b6, b7, b8⟩ := aU d3
  refine aG rfl (fun _ _ a c => ak wS (a.ev rfl) E (a.ev rfl) b6 b7) (aT (ag qY) rfl (Dp (U := (ay).Ad) (fun u => (ay).ok w.O w.W u J) (fun u => (sL u.1.1 J.Points u.1.2)) (wn rfl) rfl (Fj (κ := 2) (t := ay) (V := fun u => (sL u.1.1 J.Points u.1.2)) rfl b8 (fun _ _ u a hc => ah tT (a.ev rfl) (hc.drop 4) rfl)) ?_))
  intro e9 a9
  obtain ⟨⟨F, G⟩, ⟨f3, f4⟩⟩ := e9
  obtain ⟨K, e6⟩ := kw.1 a9
  replace K : Sl w.O w.W aX F G J.Points := K
  dsimp only
  obtain ⟨A, d4, H⟩ := bnd H
  refine ja [7] [emp] (U := (Option Addr × Nat)) (fun u => (sL u.1 A u.2)) (fun u => dM u.1 A.length u.2) (fun u => [ow u.1 u.2 47 aX A]) rfl (aH rfl bn) (fun _ => rfl) (wn rfl) rfl Tryz.call101 (aj rfl aL) (fun W hW hp hE => wX J.Points F G (K.rl.ext (hW.gM hp)) A d4 hE) ?_
  intro u hu
  obtain ⟨i, j⟩ := u
  have b0 := hu
  have a4 : dM i A.length j := b0 --@phi
  dsimp only
  obtain ⟨b, d5, H⟩ := bnd H
  obtain ⟨b9, c0, a2⟩ := aU d5
  refine aG rfl (fun _ _ a c => ak wS (a.ev rfl) E (a.ev rfl) b9 c0) (aT (ag qY) rfl (KZ 2 rfl a2 ?_))
  intro f1 b1
  obtain ⟨⟨b2, b3⟩, ⟨C, D⟩⟩ := f1
  obtain ⟨e7, L⟩ := kw.1 b1
  replace L : Sl w.O w.W ay C D b.Steps := L
  show Tr _ _ _ (up _ 2 (ow f l 53 (He ay) (qQ o (g).toNat (raw ay [iv b.Kind, sv b.Name, iv b.At.X, iv b.At.Y, sL b2 b.Points b3, iv b.NX, iv b.NY, sL C b.Steps D] rfl rfl)))) _
  refine yZ 2 (raw ay [iv b.Kind, sv b.Name, iv b.At.X, iv b.At.Y, sL i A j, iv b.NX, iv b.NY, sL C b.Steps D] rfl rfl) (cs := [sL i A j]) (fo := 4) (wn rfl) rfl rfl rfl rfl rfl (List.getElem?_eq_some_iff.1 a2).1 Rx rfl rfl rfl ?_
  refine ae (aa (ai (aA rfl (aA rfl (aA rfl (aA rfl ?_))))))
  obtain ⟨f6, d6, H⟩ := bnd H
  obtain ⟨c3, c4, c5⟩ := aU d6
  refine aG rfl (fun _ _ a c => ak wS (a.ev rfl) E (a.ev rfl) c3 c4) (aT (ag xM) rfl (aG rfl (fun _ _ a c => ah tX (a.ev rfl) (aF.drop (Ud (cs := raw ay [iv b.Kind, sv b.Name, iv b.At.X, iv b.At.Y, sL i A j, iv b.NX, iv b.NY, sL C b.Steps D] rfl rfl) c (κ := 2) rfl (List.getElem?_eq_some_iff.1 c5).1) 7) rfl) ?_))
  refine aA rfl ?_
  obtain ⟨q, d7, H⟩ := bnd H
  refine fq [8] [emp] (U := (Option Addr × Nat)) (fun u => (sL u.1 q u.2)) (fun O W u => dM u.1 q.length u.2) (fun u => [ow u.1 u.2 53 ay q]) rfl (aH rfl bn) (fun _ => rfl) (wn rfl) rfl Tryz.call54 (aj rfl (aj rfl aL)) (fun W hW hp hE => hrec b.Steps C D (L.qK (hW.gM hp)) iW vI ((hW.gM hp).r _ hb0) ((hW.gM hp).cells hb0 hc0) ((hW.gM hp).r _ hb1) ((hW.gM hp).cells hb1 hc1) q d7 hE) ?_
  intro w u a0 hu
  obtain ⟨v, y⟩ := u
  have b4 := hu
  replace hc0 := a0.ext.cells hb0 hc0
  replace hb0 := a0.r _ hb0
  replace hc1 := a0.ext.cells hb1 hc1
  replace hb1 := a0.r _ hb1
  replace B := B.trans a0
  have f2 : dM v q.length y := b4 --@phi
  dsimp only
  obtain ⟨f7, d8, H⟩ := bnd H
  obtain ⟨c6, c7, c8⟩ := aU d8
  refine aG rfl (fun _ _ a c => ak wS (a.ev rfl) E (a.ev rfl) c6 c7) (aT (ag xM) rfl (yZ 2 (raw ay [iv b.Kind, sv b.Name, iv b.At.X, iv b.At.Y, sL i A j, iv b.NX, iv b.NY, sL v q y] rfl rfl) (cs := [sL v q y]) (fo := 7) (wn rfl) rfl rfl rfl rfl rfl (List.getElem?_eq_some_iff.1 c8).1 NP rfl rfl rfl ?_))
  refine ae (aa (aI (aA rfl (aA rfl (aA rfl ?_)))))
  obtain ⟨f8, d9, H⟩ := bnd H
  obtain ⟨c9, d0, d1⟩ := aU d9
  refine aG rfl (fun _ _ a c => ak wS (a.ev rfl) E (a.ev rfl) c9 d0) ?_
  obtain ⟨d, e0, H⟩ := bnd H
  refine Ns [2, 7] [ow f l 53 (He ay) (qQ o (g).toNat (raw ay [iv b.Kind, sv b.Name, iv b.At.X, iv b.At.Y, sL i A j, iv b.NX, iv b.NY, sL v q y] rfl rfl)), ow i j 47 aX A] (U := Unit) (fun u => (.tuple #[])) (fun O W u => d.2.2.length = A.length) (fun u => [ow f l 53 (He ay) (qQ o (g).toNat (raw ay [iv b.Kind, sv b.Name, iv d.1, iv d.2.1, sL i d.2.2 j, iv b.NX, iv b.NY, sL v q y] rfl rfl)), ow i j 47 aX d.2.2]) rfl (aH rfl (aH rfl bn)) (fun _ => rfl) (wn rfl) rfl rfl Tryz.call55 (aj rfl aL) (fun W hW hp hE => qb (av.mk b.Kind b.Name b.At A b.NX b.NY q) i j v y (hW.Qq (k := 8) rfl hp rfl) f l o ((g).toNat) (List.getElem?_eq_some_iff.1 d1).1 iW vI ((hW.gM hp).r _ hb0) ((hW.gM hp).cells hb0 hc0) ((hW.gM hp).r _ hb1) ((hW.gM hp).cells hb1 hc1) d e0 hE) ?_
  intro w u e3 hu
  have a5 := hu
  replace B := B.trans e3
  have M : d.2.2.length = A.length := a5 --@phi
  have e8 : dM i d.2.2.length j := by rw [M]; exact a4
  show Tr _ _ (uf _ 39 (.tuple #[])) (up (up _ 7 (ow i j 47 aX d.2.2)) 2 (ow f l 53 (He ay) (qQ o (g).toNat (raw ay [iv b.Kind, sv b.Name, iv d.1, iv d.2.1, sL i d.2.2 j, iv b.NX, iv b.NY, sL v q y] rfl rfl)))) _
  refine Tr.vJ (lf := [(1, .func (.func 55) #[] #[pV iW]), (5, sL f o l), (6, iv g), (10, iv (z.length : Int)), (11, iv g), (12, bV (decide (g < (z.length : Int)))), (13, iv g), (14, sL f o l), (15, iv g), (16, sL f o l), (17, iv g), (20, sL F J.Points G), (21, sL i d.2.2 j), (24, sL f o l), (25, iv g), (26, sL f o l), (27, iv g), (28, .pointer (some ⟨mV f, pW f + (g).toNat * 8, none⟩)), (29, .pointer (some ⟨mV f, pW f + (g).toNat * 8 + 7, none⟩)), (30, sL C b.Steps D), (31, .func (.func 55) #[] #[pV iW]), (32, sL v q y), (33, .pointer (some ⟨mV f, pW f + (g).toNat * 8, none⟩)), (34, .pointer (some ⟨mV f, pW f + (g).toNat * 8 + 7, none⟩)), (35, .func (.func 55) #[] #[pV iW]), (36, sL f o l), (37, iv g), (38, .pointer (some ⟨mV f, pW f + (g).toNat * 8, none⟩)), (39, (.tuple #[]))]) (le := [(2, ow f l 53 (He ay) (qQ o (g).toNat (raw ay [iv b.Kind, sv b.Name, iv d.1, iv d.2.1, sL i d.2.2 j, iv b.NX, iv b.NY, sL v q y] rfl rfl))), (7, ow i j 47 aX d.2.2), (8, ow v y 53 ay q)]) (.cons rfl (.cons rfl (.cons rfl (.cons rfl (.cons rfl (.cons rfl (.cons rfl (.cons rfl (.cons rfl (.cons rfl (.cons rfl (.cons rfl (.cons (dJ rfl (by unfold sL; rw [M])) (.r rfl)))))))))))))) (.cons (Uv rfl (by unfold sL; rw [M])) (.r rfl)) (ae (aJ (aa (aI (aC bv rfl rfl (aA rfl (ae (Tr.freeze 7 rfl fun w e4 a1 => ?_))))))))
  replace B := B.trans e4
  refine Tr.freeze 8 rfl fun w a7 e5 => ?_
  replace a1 := a1.le a7
  replace B := B.trans a7
  refine JG 2 rfl (((i, j), (v, y))) (av.mk b.Kind b.Name (au.mk d.1 d.2.1) d.2.2 b.NX b.NY q) (kw.2 ⟨a1, e5⟩) rfl ?_
  have I : ((o).set (g).toNat (av.mk b.Kind b.Name (au.mk d.1 d.2.1) d.2.2 b.NX b.NY q)).length = o.length := List.length_set
  have b5 : dM f ((o).set (g).toNat (av.mk b.Kind b.Name (au.mk d.1 d.2.1) d.2.2 b.NX b.NY q)).length l := by rw [I]; exact E
  exact Tr.vJ (lf := [(1, .func (.func 55) #[] #[pV iW]), (5, sL f (((o).set (g).toNat (av.mk b.Kind b.Name (au.mk d.1 d.2.1) d.2.2 b.NX b.NY q))) l), (6, iv g), (10, iv (z.length : Int)), (11, iv (bG (g + 1))), (12, bV (decide (g < (z.length : Int)))), (13, iv g), (14, sL f (((o).set (g).toNat (av.mk b.Kind b.Name (au.mk d.1 d.2.1) d.2.2 b.NX b.NY q))) l), (15, iv g), (16, sL f (((o).set (g).toNat (av.mk b.Kind b.Name (au.mk d.1 d.2.1) d.2.2 b.NX b.NY q))) l), (17, iv g), (20, sL F J.Points G), (21, sL i d.2.2 j), (24, sL f (((o).set (g).toNat (av.mk b.Kind b.Name (au.mk d.1 d.2.1) d.2.2 b.NX b.NY q))) l), (25, iv g), (26, sL f (((o).set (g).toNat (av.mk b.Kind b.Name (au.mk d.1 d.2.1) d.2.2 b.NX b.NY q))) l), (27, iv g), (30, sL C b.Steps D), (31, .func (.func 55) #[] #[pV iW]), (32, sL v q y), (35, .func (.func 55) #[] #[pV iW]), (36, sL f (((o).set (g).toNat (av.mk b.Kind b.Name (au.mk d.1 d.2.1) d.2.2 b.NX b.NY q))) l), (37, iv g), (39, (.tuple #[])), (40, iv (bG (g + 1)))]) (le := [(2, ow f l 53 ay ((o).set (g).toNat (av.mk b.Kind b.Name (au.mk d.1 d.2.1) d.2.2 b.NX b.NY q)))]) (.cons rfl (.cons (dJ rfl (by unfold sL; rw [I])) (.cons rfl (.cons rfl (.cons rfl (.cons rfl (.cons rfl (.cons (dJ rfl (by unfold sL; rw [I])) (.cons rfl (.cons (dJ rfl (by unfold sL; rw [I])) (.cons rfl (.cons rfl (.cons rfl (.cons (dJ rfl (by unfold sL; rw [I])) (.cons rfl (.cons (dJ rfl (by unfold sL; rw [I])) (.cons rfl (.cons rfl (.cons rfl (.cons rfl (.cons rfl (.cons (dJ rfl (by unfold sL; rw [I])) (.r rfl))))))))))))))))))))))) (.r rfl) (aD B (((o).set (g).toNat (av.mk b.Kind b.Name (au.mk d.1 d.2.1) d.2.2 b.NX b.NY q)), (bG (g + 1)), f, l) ⟨H, b5⟩ (.r rfl) (.r rfl))
 ·refine bW (aB (aB (aR (aa (ai (aA rfl (Tr.k rfl (ae (aa (aW ?_))))))))))
  obtain rfl := oI H
  exact Tr.out (m := [sL f o l]) [] (cO rfl bO) (fun W hW => ⟨w, (f, l), leB, rfl, E, hW.pick (ks := [2]) (by decide) (aH rfl bn)⟩)
theorem kK : ∀ (N : Nat) {w : Bs} (p0 : (List av)) (a : Option Addr) (b : Nat) (c : Sl w.O w.W ay a b p0) (iW : Nat) (vI : Nat) (hb0 : w.R iW) (hc0 : aF w.W iW 0 [.func (.func 51) #[] #[pV vI]]) (hb1 : w.R vI) (hc1 : aF w.W vI 0 [.func (.func 28) #[] #[]]) (r : (List av)) (H : eD N p0 = some r) (hE : HF w w.W (iF [emp])), Calls Tryz.prog 54 [sL a p0 b, .func (.func 55) #[] #[pV iW]].toArray w.W fun e W' => ∃ (w' : Bs) (u : (Option Addr × Nat)), w.Le w' ∧ e = .returned (sL u.1 r u.2) ∧ (dM u.1 r.length u.2) ∧ HF w' W' (iF [ow u.1 u.2 53 ay r])
 | 0 => by intros; rename_i H _; cases H
 | N + 1 => nR N (eD N) (kK N)

theorem vG (N : Nat) {w : Bs} (p0 : gu) (j : Option Addr) (l : Nat) (D : Sl w.O w.W aY j l p0.Tools) (o : Option Addr) (q : Nat) (t : Sl w.O w.W ay o q p0.Steps) (r : gu) (H : lS N p0 = some r) (hE : HF w w.W (iF [emp, emp])) : Calls Tryz.prog 27 [.agg #[iv p0.Unit, sL j p0.Tools l, sL o p0.Steps q], .func (.func 28) #[] #[]].toArray w.W fun e W' => ∃ (w' : Bs) (u : (Option Addr × Nat) × (Option Addr × Nat)), w.Le w' ∧ e = .returned (.agg #[iv r.Unit, sL u.1.1 r.Tools u.1.2, sL u.2.1 r.Steps u.2.2]) ∧ (dM u.1.1 r.Tools.length u.1.2 ∧ dM u.2.1 r.Steps.length u.2.2) ∧ HF w' W' (iF [ow u.1.1 u.1.2 58 aY r.Tools, ow u.2.1 u.2.2 53 ay r.Steps]) := by
 unfold lS at H
 have leB := Bs.Le.refl w
 refine aZ (n := 22) Tryz.func27 rfl rfl rfl hE (ai (gN 1 (cs := [iv p0.Unit, sL j p0.Tools l, sL o p0.Steps q]) (wn rfl) rfl rfl rfl fun I => (gN 2 (cs := [.func (.func 28) #[] #[]]) (wn rfl) rfl rfl rfl fun s => (Tr.alloc 3 (wn rfl) rfl Dq fun J => (ae (aa (ai (pK (vs := [pV s]) (wn rfl) rfl (aj rfl aL) (Tr.alloc 4 (wn rfl) rfl R3 fun C => (bJ 4 (cs := [.func (.func 51) #[] #[pV s]]) [.func (.func 51) #[] #[pV s]] (wn rfl) rfl rfl rfl rfl Sg rfl rfl rfl ?_))))))))))
 refine ae (aa (ai (aT (ag vX) rfl (aG rfl (fun _ _ a c => ah CG (a.ev rfl) (dR c (vs := [iv p0.Unit, sL j p0.Tools l, sL o p0.Steps q]) (k := 1) rfl 1) rfl) (pK (vs := [pV s]) (wn rfl) rfl (aj rfl aL) ?_)))))
 obtain ⟨h, E, H⟩ := bnd H
 refine fq [5] [emp] (U := (Option Addr × Nat)) (fun u => (sL u.1 h u.2)) (fun O W u => dM u.1 h.length u.2) (fun u => [ow u.1 u.2 58 aY h]) rfl (aH rfl bn) (fun _ => rfl) (wn rfl) rfl Tryz.call52 (aj rfl (aj rfl aL)) (fun W hW hp hE => qx N p0.Tools j l (D.qK (hW.gM hp)) s (hW.EM (k := 2) rfl hp rfl) (hW.H5 (k := 2) rfl) h E hE) ?_
 intro w u z hu
 obtain ⟨b, d⟩ := u
 have A := hu
 replace t := t.le z
 replace leB := leB.trans z
 have v : dM b h.length d := A --@phi
 dsimp only
 refine Tr.k rfl (ae (aa (ai (aT (ag qA) rfl (aG rfl (fun _ _ a c => ah tX (a.ev rfl) (dR c (vs := [iv p0.Unit, sL j p0.Tools l, sL o p0.Steps q]) (k := 1) rfl 2) rfl) (pK (vs := [pV C]) (wn rfl) rfl (aj rfl aL) ?_))))))
 obtain ⟨i, F, H⟩ := bnd H
 refine fq [6] [emp] (U := (Option Addr × Nat)) (fun u => (sL u.1 i u.2)) (fun O W u => dM u.1 i.length u.2) (fun u => [ow u.1 u.2 53 ay i]) rfl (aH rfl bn) (fun _ => rfl) (wn rfl) rfl Tryz.call54 (aj rfl (aj rfl aL)) (fun W hW hp hE => kK N p0.Steps o q (t.qK (hW.gM hp)) C s (hW.EM (k := 4) rfl hp rfl) (hW.H5 (k := 4) rfl) (hW.EM (k := 2) rfl hp rfl) (hW.H5 (k := 2) rfl) i F hE) ?_
 intro w u G hu
 obtain ⟨f, g⟩ := u
 have B := hu
 replace leB := leB.trans G
 have y : dM f i.length g := B --@phi
 dsimp only
 refine Tr.k rfl (ae (aa (ai (aT (ag uD) rfl (aG rfl (fun _ _ a c => ah bT (a.ev rfl) (dR c (vs := [iv p0.Unit, sL j p0.Tools l, sL o p0.Steps q]) (k := 1) rfl 0) rfl) (aA rfl (aA rfl (jh (vs := [(0, iv p0.Unit), (1, sL b h d), (2, sL f i g)]) (cs := [iv p0.Unit, sL b h d, sL f i g]) (wn rfl) rfl (bH rfl (bH rfl (bH rfl eF))) (by kernel_rfl) (bJ 3 (cs := [iv p0.Unit, sL b h d, sL f i g]) [iv p0.Unit, sL b h d, sL f i g] (wn rfl) rfl rfl rfl rfl mr rfl rfl rfl (ae (aa (aW ?_))))))))))))
 obtain rfl := oI H
 exact Tr.out (m := [.agg #[iv p0.Unit, sL b h d, sL f i g]]) [3] (og rfl rfl ql mr bO) (fun W hW => ⟨w, ((b, d), (f, g)), leB, rfl, ⟨v, y⟩, hW.pick (ks := [5, 6]) (by decide) (aH rfl (aH rfl bn))⟩)

theorem CS (N : Nat) {w : Bs} (p0 : gu) (j : Option Addr) (l : Nat) (A : Sl w.O w.W aY j l p0.Tools) (o : Option Addr) (q : Nat) (B : Sl w.O w.W ay o q p0.Steps) (r : (gu × Int)) (H : su N p0 = some r) (hE : HF w w.W (iF [emp, emp])) : Calls Tryz.prog 10 [.agg #[iv p0.Unit, sL j p0.Tools l, sL o p0.Steps q]].toArray w.W fun e W' => ∃ (w' : Bs) (u : (Option Addr × Nat) × (Option Addr × Nat)), w.Le w' ∧ e = .returned (.tuple #[.agg #[iv r.1.Unit, sL u.1.1 r.1.Tools u.1.2, sL u.2.1 r.1.Steps u.2.2], iv r.2]) ∧ (dM u.1.1 r.1.Tools.length u.1.2 ∧ dM u.2.1 r.1.Steps.length u.2.2) ∧ HF w' W' (iF [ow u.1.1 u.1.2 58 aY r.1.Tools, ow u.2.1 u.2.2 53 ay r.1.Steps]) := by
 unfold su at H
 have leB := Bs.Le.refl w
 refine aZ (n := 28) Tryz.func10 rfl rfl rfl hE (ai (gN 1 (cs := [iv p0.Unit, sL j p0.Tools l, sL o p0.Steps q]) (wn rfl) rfl rfl rfl fun M => (Tr.alloc 2 (wn rfl) rfl Dq fun s => (Tr.k rfl (ae (aa (az (ai (aG rfl (fun _ _ a c => aM (cs := [iv p0.Unit, sL j p0.Tools l, sL o p0.Steps q]) ql mr (a.ev rfl) (aF.take (dR c (vs := [iv p0.Unit, sL j p0.Tools l, sL o p0.Steps q]) (k := 1) rfl 0) 3) rfl) ?_)))))))))
 obtain ⟨v, F, H⟩ := bnd H
 refine di (r := (iv v)) (wn rfl) rfl Tryz.call26 (aj rfl aL) (fun W hW => qN N p0 j l (A.rl.ext hW.cB) o q (B.rl.ext hW.cB) v F (HF.start _)) (Tr.k rfl (ae (aa (ai (aA rfl (aC jD rfl rfl (ae (aa (aP rfl H (fun H => ?_) (fun H => ?_))))))))))
 ·refine ai (jh (vs := []) (cs := [iv 0, .slice none 0 0, .slice none 0 0]) (wn rfl) rfl eF (by kernel_rfl) (aA rfl (bJ 2 (cs := [iv 0, .slice none 0 0, .slice none 0 0]) [iv 0, .slice none 0 0, .slice none 0 0] (wn rfl) rfl rfl rfl rfl mr rfl rfl rfl (Tr.k rfl (ae (aa (aW (aK ?_))))))))
  obtain rfl := oI H
  exact bM 3 58 aY (bM 4 53 ay (Tr.out (m := [.agg #[iv 0, .slice none 0 0, .slice none 0 0], iv v]) [2] (og rfl rfl ql mr (cO rfl bO)) (fun W hW => ⟨w, ((none, 0), (none, 0)), leB, rfl, ⟨gL, gL⟩, hW.pick (ks := [3, 4]) (by decide) (aH rfl (aH rfl bn))⟩)))
 ·refine aN (aa (ai (aG rfl (fun _ _ a c => aM (cs := [iv p0.Unit, sL j p0.Tools l, sL o p0.Steps q]) ql mr (a.ev rfl) (aF.take (dR c (vs := [iv p0.Unit, sL j p0.Tools l, sL o p0.Steps q]) (k := 1) rfl 0) 3) rfl) ?_)))
  obtain ⟨b, G, H⟩ := bnd H
  refine fq [5, 6] [emp, emp] (U := (Option Addr × Nat) × (Option Addr × Nat)) (fun u => (.agg #[iv b.Unit, sL u.1.1 b.Tools u.1.2, sL u.2.1 b.Steps u.2.2])) (fun O W u => dM u.1.1 b.Tools.length u.1.2 ∧ dM u.2.1 b.Steps.length u.2.2) (fun u => [ow u.1.1 u.1.2 58 aY b.Tools, ow u.2.1 u.2.2 53 ay b.Steps]) rfl (aH rfl (aH rfl bn)) (fun _ => rfl) (wn rfl) rfl Tryz.call27 (aj rfl (aj rfl aL)) (fun W hW hp hE => vG N p0 j l (A.qK (hW.gM hp)) o q (B.qK (hW.gM hp)) b G hE) ?_
  intro w u I hu
  obtain ⟨⟨g, i⟩, ⟨d, f⟩⟩ := u
  obtain ⟨C, D⟩ := hu
  replace leB := leB.trans I
  have y : dM g b.Tools.length i := C --@phi
  have z : dM d b.Steps.length f := D --@phi
  dsimp only
  refine Tr.alloc 7 (wn rfl) rfl Dq fun t => (bJ 7 (cs := [iv b.Unit, sL g b.Tools i, sL d b.Steps f]) [iv b.Unit, sL g b.Tools i, sL d b.Steps f] (wn rfl) rfl rfl rfl rfl mr rfl rfl rfl (ae (aa (Tr.block (df (σ := Unit) (fun m w _ => nk b m = some r) (fun _ => [(2, pV s), (5, pV t)]) (fun _ => [(2, bx s #[iv 0, .slice none 0 0, .slice none 0 0] 26), (5, ow g i 58 aY b.Tools), (6, ow d f 53 ay b.Steps), (7, bx t #[iv b.Unit, sL g b.Tools i, sL d b.Steps f] 26)]) N () H (.r rfl) (.r rfl) (fun _ _ h => jQ (h)) ?_)))))
  intro w K L _ hs
  have H := hs
  replace H : nk b (L + 1) = some r := H
  replace leB := leB.trans K
  rw [nk.eq_2] at H
  show Tr _ _ (LF [(2, pV s), (5, pV t)]) (LE [(2, bx s #[iv 0, .slice none 0 0, .slice none 0 0] 26), (5, ow g i 58 aY b.Tools), (6, ow d f 53 ay b.Steps), (7, bx t #[iv b.Unit, sL g b.Tools i, sL d b.Steps f] 26)]) _
  refine Tr.block (ai (aT (ag qA) rfl (aG rfl (fun _ _ a c => ah tX (a.ev rfl) (dR c (vs := [iv b.Unit, sL g b.Tools i, sL d b.Steps f]) (k := 7) rfl 2) rfl) ?_)))
  obtain ⟨E, J, H⟩ := bnd H
  refine di (r := (iv E)) (wn rfl) rfl Tryz.call29 (aj rfl aL) (fun W hW => Bz b.Steps d f (hW.sK (k := 6) rfl) E J (HF.start _)) (Tr.k rfl (ae (aa (az (ai (aA rfl (aC bg rfl rfl (ae (aa (aP rfl H (fun H => ?_) (fun H => ?_)))))))))))
  ·refine ai (aG rfl (fun _ _ a c => aM (cs := [iv b.Unit, sL g b.Tools i, sL d b.Steps f]) ql mr (a.ev rfl) (aF.take (dR c (vs := [iv b.Unit, sL g b.Tools i, sL d b.Steps f]) (k := 7) rfl 0) 3) rfl) (bJ 2 (cs := [iv b.Unit, sL g b.Tools i, sL d b.Steps f]) [iv b.Unit, sL g b.Tools i, sL d b.Steps f] (wn rfl) rfl rfl rfl rfl mr rfl rfl rfl (Tr.k rfl (ae (aa (aW (aK (bL (aK (bL ?_))))))))))
   obtain rfl := oI H
   exact Tr.out (m := [.agg #[iv b.Unit, sL g b.Tools i, sL d b.Steps f], iv 0]) [2] (og rfl rfl ql mr (cO rfl bO)) (fun W hW => ⟨w, ((g, i), (d, f)), leB, rfl, ⟨y, z⟩, hW.pick (ks := [5, 6]) (by decide) (aH rfl (aH rfl bn))⟩)
  ·refine aN (aa ?_)
   cases H

end Go.Proofs.YtcjeebkoafonpaaGreatDoor
