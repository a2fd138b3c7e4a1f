/- The walks: each function computes its plain function. -/
import Derived.Test.YtcjeebkoafonpaaGreatDoorXF
namespace Go.Proofs.YtcjeebkoafonpaaGreatDoor
open Go.RowKit
set_option maxRecDepth 100000
set_option maxHeartbeats 1000000
theorem Bv {w : Bs} (p0 : Int) (p1 : Int) (p2 : Int) (r : Bool) (H : qo p0 p1 p2 = some r) (hE : HF w w.W E0) : Calls Tryz.prog 194 [iv p0, iv p1, iv p2].toArray w.W fun e W' => e = .returned (bV r) ∧ HF w W' E0 := by
 unfold qo at H
 have leB := Bs.Le.refl w
 refine aZ (n := 15) Tryz.func194 rfl rfl rfl hE (ai (Tr.k rfl (ae (aa (ai (aA rfl (aA rfl (aC xA rfl rfl (aA rfl (dX 4 [(14, bV ((decide (p1 ≤ p0)) && (decide (p0 ≤ p2))))] [] ?_ ?_))))))))))
 ·cases a : (decide (p1 ≤ p0))
  ·exact bf rfl (bf rfl (bf rfl (aC bE rfl rfl (ae (bu (.r rfl) .nil)))))
  ·exact dU run_move rfl (dU run_move rfl (kF oH rfl rfl (aC bD rfl rfl (ae (bu (.r rfl) .nil)))))
 ·show Tr _ _ (LF [(14, bV ((decide (p1 ≤ p0)) && (decide (p0 ≤ p2))))]) (LE []) _
  refine Tr.k rfl (ae (aa (aW ?_)))
  obtain rfl := oI H
  exact dQ leB

theorem ni {w : Bs} (p0 : Int) (r : Bool) (H : lu p0 = some r) (hE : HF w w.W E0) : Calls Tryz.prog 141 [iv p0].toArray w.W fun e W' => e = .returned (bV r) ∧ HF w W' E0 := by
 unfold lu at H
 have leB := Bs.Le.refl w
 refine aZ (n := 5) Tryz.func141 rfl rfl rfl hE (ai (Tr.k rfl (ae (aa (ai (aA rfl ?_))))))
 obtain ⟨a, b, H⟩ := bnd H
 refine di (r := (bV a)) (wn rfl) rfl Tryz.call194 (aj rfl (aj rfl (aj rfl aL))) (fun W hW => Bv p0 (-1000000) 1000000 a b (HF.start _)) (Tr.k rfl (ae (aa (aW ?_))))
 obtain rfl := oI H
 exact dQ leB

theorem wm {w : Bs} (p0 : aQ) (r : Bool) (H : oz p0 = some r) (hE : HF w w.W E0) : Calls Tryz.prog 104 [.agg #[iv p0.X0, iv p0.Y0, iv p0.X1, iv p0.Y1]].toArray w.W fun e W' => e = .returned (bV r) ∧ HF w W' E0 := by
 unfold oz at H
 have leB := Bs.Le.refl w
 refine aZ (n := 21) Tryz.func104 rfl rfl rfl hE (ai (gN 1 (cs := [iv p0.X0, iv p0.Y0, iv p0.X1, iv p0.Y1]) (wn rfl) rfl rfl rfl fun d => (Tr.k rfl (ae (aa (ai (aT (ag pU) rfl (aG rfl (fun _ _ a c => ah bT (a.ev rfl) (dR c (vs := [iv p0.X0, iv p0.Y0, iv p0.X1, iv p0.Y1]) (k := 1) rfl 0) rfl) ?_))))))))
 obtain ⟨i, u, H⟩ := bnd H
 refine di (r := (bV i)) (wn rfl) rfl Tryz.call141 (aj rfl aL) (fun W hW => ni p0.X0 i u (HF.start _)) (aA rfl ?_)
 obtain ⟨j, f, H⟩ := bnd H
 refine dX 4 [(1, pV d), (10, bV j)] [(1, bx d #[iv p0.X0, iv p0.Y0, iv p0.X1, iv p0.Y1] 38)] ?_ ?_
 ·cases b : i
  ·rw [b] at f
   rw [if_neg (by decide)] at f
   have H := f
   obtain rfl := oI H
   exact bf rfl (bf rfl (bf rfl (aC bE rfl rfl (ae (bu (.r rfl) (.r rfl))))))
  ·rw [b] at f
   rw [if_pos rfl] at f
   have H := f
   refine dU (ag rQ) rfl (Tr.x (fun _ _ a c => ah bT (a.ev rfl) (dR c (vs := [iv p0.X0, iv p0.Y0, iv p0.X1, iv p0.Y1]) (k := 1) rfl 1) rfl) ?_)
   obtain ⟨o, v, H⟩ := bnd H
   refine di (r := (bV o)) (wg rfl rfl rfl) rfl Tryz.call141 (aj rfl aL) (fun W hW => ni p0.Y0 o v (HF.start _)) (aC bD rfl rfl ?_)
   obtain rfl := oI H
   exact ae (bu (.r rfl) (.r rfl))
 ·show Tr _ _ (LF [(1, pV d), (10, bV j)]) (LE [(1, bx d #[iv p0.X0, iv p0.Y0, iv p0.X1, iv p0.Y1] 38)]) _
  refine aA rfl ?_
  obtain ⟨l, g, H⟩ := bnd H
  refine dX 4 [(1, pV d), (15, bV l)] [(1, bx d #[iv p0.X0, iv p0.Y0, iv p0.X1, iv p0.Y1] 38)] ?_ ?_
  ·cases b : j
   ·rw [b] at g
    rw [if_neg (by decide)] at g
    have H := g
    obtain rfl := oI H
    exact bf rfl (bf rfl (bf rfl (aC bE rfl rfl (ae (bu (.r rfl) (.r rfl))))))
   ·rw [b] at g
    rw [if_pos rfl] at g
    have H := g
    refine dU (ag zF) rfl (Tr.x (fun _ _ a c => ah bT (a.ev rfl) (dR c (vs := [iv p0.X0, iv p0.Y0, iv p0.X1, iv p0.Y1]) (k := 1) rfl 2) rfl) ?_)
    obtain ⟨q, y, H⟩ := bnd H
    refine di (r := (bV q)) (wg rfl rfl rfl) rfl Tryz.call141 (aj rfl aL) (fun W hW => ni p0.X1 q y (HF.start _)) (aC bD rfl rfl ?_)
    obtain rfl := oI H
    exact ae (bu (.r rfl) (.r rfl))
  ·show Tr _ _ (LF [(1, pV d), (15, bV l)]) (LE [(1, bx d #[iv p0.X0, iv p0.Y0, iv p0.X1, iv p0.Y1] 38)]) _
   refine aA rfl ?_
   obtain ⟨s, h, H⟩ := bnd H
   refine dX 4 [(20, bV s)] [(1, bx d #[iv p0.X0, iv p0.Y0, iv p0.X1, iv p0.Y1] 38)] ?_ ?_
   ·cases b : l
    ·rw [b] at h
     rw [if_neg (by decide)] at h
     have H := h
     obtain rfl := oI H
     exact bf rfl (bf rfl (bf rfl (aC bE rfl rfl (ae (bu (.r rfl) (.r rfl))))))
    ·rw [b] at h
     rw [if_pos rfl] at h
     have H := h
     refine dU (ag Bn) rfl (Tr.x (fun _ _ a c => ah bT (a.ev rfl) (dR c (vs := [iv p0.X0, iv p0.Y0, iv p0.X1, iv p0.Y1]) (k := 1) rfl 3) rfl) ?_)
     obtain ⟨t, z, H⟩ := bnd H
     refine di (r := (bV t)) (wg rfl rfl rfl) rfl Tryz.call141 (aj rfl aL) (fun W hW => ni p0.Y1 t z (HF.start _)) (aC bD rfl rfl ?_)
     obtain rfl := oI H
     exact ae (bu (.r rfl) (.r rfl))
   ·show Tr _ _ (LF [(20, bV s)]) (LE [(1, bx d #[iv p0.X0, iv p0.Y0, iv p0.X1, iv p0.Y1] 38)]) _
    refine Tr.k rfl (ae (aa (aW ?_)))
    obtain rfl := oI H
    exact dQ leB

theorem yt {w : Bs} (p0 : (List aQ)) (g : Option Addr) (i : Nat) (j : Sl w.R w.W bq g i p0) (r : Int) (H : mP p0 = some r) (hE : HF w w.W E0) : Calls Tryz.prog 58 [sL g p0 i].toArray w.W fun e W' => e = .returned (iv r) ∧ HF w W' E0 := by
 unfold mP at H
 have leB := Bs.Le.refl w
 refine aZ (n := 30) Tryz.func58 rfl rfl rfl hE (ai (Tr.k rfl (ae (aa (az (ai (aA rfl (aT (bz sH) rfl (aC jq rfl rfl (ae (aa (aP rfl H (fun H => ?_) (fun H => ?_)))))))))))))
 ·refine ai (Tr.k rfl (ae (aa (aW (aK ?_)))))
  obtain rfl := oI H
  exact dQ leB
 ·refine aN (aa (az (ai (aA rfl (aT (bz sH) rfl (aA rfl (ae (aa (Tr.block (df (σ := (List aQ) × Nat) (fun m w s => m = s.1.length + 1 ∧ s.1 = List.drop s.2 p0 ∧ s.2 ≤ p0.length ∧ gZ s.1 s.2 = some r) (fun s => [(8, sL g p0 i), (9, iv (p0.length : Int)), (10, iv (s.2 : Int))]) (fun s => []) (p0.length + 1) (p0, 0) ⟨rfl, rfl, Nat.zero_le _, H⟩ (.r rfl) .nil (fun _ _ h => absurd h.1 (by simp)) ?_))))))))))
  intro w o m s hs
  obtain ⟨d, l⟩ := s
  obtain ⟨q, f, A, H⟩ := hs
  replace f : d = List.drop l p0 := f
  replace H : gZ d l = some r := H
  replace q : m + 1 = d.length + 1 := q
  replace j := j.nL o
  replace leB := leB.trans o
  obtain rfl : m = d.length := by omega
  clear q
  dsimp only
  cases d with
  | nil =>
   rw [gZ.eq_1] at H
   refine ai (aC bg rfl rfl (ae (aa (az (eQ rfl (dZ f) (bW (aB (aB (aR (aa (ai (Tr.k rfl (ae (aa (aW ?_)))))))))))))))
   obtain rfl := oI H
   exact dQ leB
  | cons b d =>
   rw [gZ.eq_2] at H
   refine ai (aC bg rfl rfl (ae (aa (az (eP rfl (fJ f) (aN (aa (az (Tr.block (ai (aG rfl (fun _ _ a c => ak vk (a.ev rfl) j.form (a.ev rfl) (Int.natCast_nonneg _) (bF f)) (aG rfl (fun _ _ a c => aM (cs := [iv b.X0, iv b.Y0, iv b.X1, iv b.Y1]) tV mI (a.ev rfl) (aF.take (uZ mK j (gy f) c) 4) rfl) (Tr.alloc 2 (wn rfl) rfl x8 fun t => (bJ 2 (cs := [iv b.X0, iv b.Y0, iv b.X1, iv b.Y1]) [iv b.X0, iv b.Y0, iv b.X1, iv b.Y1] (wn rfl) rfl rfl rfl rfl mI rfl rfl rfl (ae (aa (az (ai (aG rfl (fun _ _ a c => aM (cs := [iv b.X0, iv b.Y0, iv b.X1, iv b.Y1]) tV mI (a.ev rfl) (aF.take (dR c (vs := [iv b.X0, iv b.Y0, iv b.X1, iv b.Y1]) (k := 2) rfl 0) 4) rfl) ?_)))))))))))))))))))
   obtain ⟨u, v, H⟩ := bnd H
   refine di (r := (bV u)) (wn rfl) rfl Tryz.call104 (aj rfl aL) (fun W hW => wm b u v (HF.start _)) (aT jC rfl (ae (aa (aP rfl H (fun H => ?_) (fun H => ?_)))))
   ·refine ai (Tr.k rfl (ae (aa (aW (aK (bL (aK (aK (bL (aK ?_))))))))))
    obtain rfl := oI H
    exact dQ leB
   ·refine aN (aa (ai (aT (ag zF) rfl (aG rfl (fun _ _ a c => ah bT (a.ev rfl) (dR c (vs := [iv b.X0, iv b.Y0, iv b.X1, iv b.Y1]) (k := 2) rfl 2) rfl) (aT (ag pU) rfl (aG rfl (fun _ _ a c => ah bT (a.ev rfl) (dR c (vs := [iv b.X0, iv b.Y0, iv b.X1, iv b.Y1]) (k := 2) rfl 0) rfl) (aC oH rfl rfl (aA rfl (dX 6 [(8, sL g p0 i), (9, iv (p0.length : Int)), (10, iv (l : Int)), (28, bV ((decide (b.X1 ≤ b.X0)) || (decide (b.Y1 ≤ b.Y0))))] [(2, bx t #[iv b.X0, iv b.Y0, iv b.X1, iv b.Y1] 38)] ?_ ?_)))))))))
    ·cases y : (decide (b.X1 ≤ b.X0))
     ·exact dU (ag Bn) rfl (Tr.x (fun _ _ a c => ah bT (a.ev rfl) (dR c (vs := [iv b.X0, iv b.Y0, iv b.X1, iv b.Y1]) (k := 2) rfl 3) rfl) (dU (ag rQ) rfl (Tr.x (fun _ _ a c => ah bT (a.ev rfl) (dR c (vs := [iv b.X0, iv b.Y0, iv b.X1, iv b.Y1]) (k := 2) rfl 1) rfl) (kF oH rfl rfl (aC bE rfl rfl (ae (bu (.r rfl) (.r rfl))))))))
     ·exact bf rfl (bf rfl (bf rfl (bf rfl (bf rfl (aC bD rfl rfl (ae (bu (.r rfl) (.r rfl))))))))
    ·show Tr _ _ (LF [(8, sL g p0 i), (9, iv (p0.length : Int)), (10, iv (l : Int)), (28, bV ((decide (b.X1 ≤ b.X0)) || (decide (b.Y1 ≤ b.Y0))))]) (LE [(2, bx t #[iv b.X0, iv b.Y0, iv b.X1, iv b.Y1] 38)]) _
     refine ae (aa (aP rfl H (fun H => ?_) (fun H => ?_)))
     ·refine ai (Tr.k rfl (ae (aa (aW (bL (aK (aK (bL (aK ?_)))))))))
      obtain rfl := oI H
      exact dQ leB
     ·exact aN (aJ (aa (aI (aC bv rfl rfl (aA rfl (ae (aD o (d, (l + 1)) ⟨rfl, fe f, bF f, H⟩ (.cons rfl (.cons rfl (.cons (congrArg (fun z => some (Value.int .i64 z)) (eZ f j.form)) .nil))) .nil)))))))

theorem xS {w : Bs} (p0 : (List aQ)) (a : Option Addr) (b : Nat) (c : Sl w.R w.W bq a b p0) (r : (List aQ)) (H : nX p0 = some r) (hE : HF w w.W (iF [emp])) : Calls Tryz.prog 59 [sL a p0 b].toArray w.W fun e W' => ∃ u : (Option Addr × Nat), e = .returned (sL u.1 r u.2) ∧ (dM u.1 r.length u.2) ∧ HF w W' (iF [ow u.1 u.2 38 bq r]) := by
 unfold nX at H
 have leB := Bs.Le.refl w
 refine aZ (n := 8) Tryz.func59 rfl rfl rfl hE (ai (Tr.k rfl (bM 1 38 bq ?_)))
 show Tr _ _ (uf _ 2 (sL none (([] : List aQ)) 0)) _ _
 refine ae (aa (az (ai (aA rfl (aC (xB sH) rfl rfl (ae (aa ?_)))))))
 cases a with
 | none =>
  have hl0 := AX c.form
  replace H : (some ([] : List aQ)) = some r := by simpa [yX, hl0] using H
  refine eP rfl rfl (ai (Tr.k rfl (bM 2 38 bq ?_)))
  show Tr _ _ (uf _ 2 (sL none (([] : List aQ)) 0)) _ _
  refine ae (aa (aW (aK ?_)))
  obtain rfl := oI H
  exact Tr.out (m := [sL none (([] : List aQ)) 0]) [] (cO rfl bO) (fun W hW => ⟨(none, 0), rfl, gL, HF.zK leB (hW.pick (ks := [2]) (by decide) (aH rfl bn)) ⟨qI _ _ _ _ qd, trivial⟩⟩)
 | some j =>
  refine eQ rfl rfl (aN (aa (ai (dS 3 (e := 38) (vs := []) (cs := []) (wn rfl) rfl eF (by kernel_rfl) fun o => (aA rfl (Tr.own 3 bq ([] : List aQ) (css := []) rfl .nil rfl (by decide) (vU rfl) ?_))))))
  obtain ⟨i, h, H⟩ := bnd H
  refine vz 3 (t := bq) (l := ([] : List aQ)) (l2 := p0) (wn rfl) rfl rfl rfl rfl (Vw qd (fun W hW => (Sl.Cz c hW))) sH mI La (by decide) Mt rfl h fun d f g => (Tr.k rfl (ae (aa (aW ?_))))
  obtain rfl := oI H
  exact Tr.out (m := [sL d i f]) [] (cO rfl bO) (fun W hW => ⟨(d, f), rfl, g, HF.zK leB (hW.pick (ks := [3]) (by decide) (aH rfl bn)) ⟨qI _ _ _ _ qd, trivial⟩⟩)

theorem mM {w : Bs} (p0 : List aQ) (a : Option Addr) (b : Nat) (p1 : aQ → aQ → Option Int) (fid1 : Nat) (c : List Value) (hg1 : ∀ args W, (callFunc fid1 args).run Tryz.prog W = .ok (.enter fid1 args) W) (hf1 : ∀ (w' : Bs), w.Ext w' → ∀ (z0 : aQ) (z1 : aQ), ∀ y, p1 z0 z1 = some y → Calls Tryz.prog fid1 (([.agg #[iv z0.X0, iv z0.Y0, iv z0.X1, iv z0.Y1], .agg #[iv z1.X0, iv z1.Y0, iv z1.X1, iv z1.Y1]] : List Value) ++ c).toArray w'.W fun e W'' => e = .returned (iv y) ∧ HF w' W'' E0) (r : List aQ) (H : CK p0 p1 = some r) (hE : HF w w.W (iF [ow a b 38 bq p0])) : Calls Tryz.prog 60 [sL a p0 b, .func (.func fid1) #[] c.toArray].toArray w.W fun e W' => ∃ u : Unit, e = .returned (.tuple #[]) ∧ (r.length = p0.length) ∧ HF w W' (iF [ow a b 38 bq r]) :=
 Fb (ρ := Tryz.FE) Tryz.Ub (fun _ => zt tV) (fun _ => run_sizeOf mI) mK qd () hg1 hf1 H hE

theorem Aw {w : Bs} (p0 : aQ) (p1 : aQ) (r : Int) (H : ng p0 p1 = some r) (hE : HF w w.W E0) : Calls Tryz.prog 61 [.agg #[iv p0.X0, iv p0.Y0, iv p0.X1, iv p0.Y1], .agg #[iv p1.X0, iv p1.Y0, iv p1.X1, iv p1.Y1]].toArray w.W fun e W' => e = .returned (iv r) ∧ HF w W' E0 := by
 unfold ng at H
 have leB := Bs.Le.refl w
 refine aZ (n := 10) Tryz.func61 rfl rfl rfl hE (ai (gN 1 (cs := [iv p0.X0, iv p0.Y0, iv p0.X1, iv p0.Y1]) (wn rfl) rfl rfl rfl fun b => (gN 2 (cs := [iv p1.X0, iv p1.Y0, iv p1.X1, iv p1.Y1]) (wn rfl) rfl rfl rfl fun d => (Tr.k rfl (ae (aa (ai (aT (ag rQ) rfl (aG rfl (fun _ _ a c => ah bT (a.ev rfl) (dR c (vs := [iv p0.X0, iv p0.Y0, iv p0.X1, iv p0.Y1]) (k := 1) rfl 1) rfl) (aT (ag rQ) rfl (aG rfl (fun _ _ a c => ah bT (a.ev rfl) (dR c (vs := [iv p1.X0, iv p1.Y0, iv p1.X1, iv p1.Y1]) (k := 2) rfl 1) rfl) (aC gH rfl rfl (Tr.k rfl (ae (aa (aW ?_))))))))))))))))
 obtain rfl := oI H
 exact dQ leB

theorem uh {w : Bs} (p0 : List Int) (a : Option Addr) (b : Nat) (r : List Int) (H : Iz p0 = some r) (hE : HF w w.W (iF [ow a b 3 bK p0])) : Calls Tryz.prog 62 [sL a p0 b].toArray w.W fun e W' => ∃ u : Unit, e = .returned (.tuple #[]) ∧ (r.length = p0.length) ∧ HF w W' (iF [ow a b 3 bK r]) :=
 JZ (ρ := Tryz.DX) Tryz.Sj rfl je Gy () H hE

theorem rF {w : Bs} (p0 : List Int) (a : Option Addr) (b : Nat) (r : List Int) (H : TD p0 = some r) (hE : HF w w.W (iF [ow a b 3 bK p0])) : Calls Tryz.prog 63 [sL a p0 b].toArray w.W fun e W' => ∃ u : (Option Addr × Nat), e = .returned (sL u.1 r u.2) ∧ (dM u.1 r.length u.2) ∧ HF w W' (iF [ow u.1 u.2 3 bK r]) :=
 Fq (ρ := Tryz.EK) Tryz.Tg rfl je Gy () H hE

theorem Av {w : Bs} (p0 : aQ) (q0 : (List Int)) (Aq0_0 : Option Addr) (cq0_0 : Nat) (OP : Sl w.R w.W bK Aq0_0 cq0_0 q0) (iW : Nat) (hb0 : w.R iW) (hc0 : aF w.W iW 0 [sL Aq0_0 q0 cq0_0]) (q1 : Int) (vI : Nat) (hb1 : w.R vI) (hc1 : aF w.W vI 0 [iv q1]) (r : Bool) (H : mZ p0 q0 q1 = some r) (hE : HF w w.W E0) : Calls Tryz.prog 65 [.agg #[iv p0.X0, iv p0.Y0, iv p0.X1, iv p0.Y1], pV iW, pV vI].toArray w.W fun e W' => e = .returned (bV r) ∧ HF w W' E0 := by
 unfold mZ at H
 have leB := Bs.Le.refl w
 refine aZ (n := 12) Tryz.func65 rfl rfl rfl hE (ai (gN 1 (cs := [iv p0.X0, iv p0.Y0, iv p0.X1, iv p0.Y1]) (wn rfl) rfl rfl rfl fun h => (Tr.k rfl (ae (aa (az (jb (by kernel_rfl) (by kernel_rfl) (fQ (ag Bn) rfl (bi rfl (fun _ _ a c => ah bT (a.ev rfl) (dR c (vs := [iv p0.X0, iv p0.Y0, iv p0.X1, iv p0.Y1]) (k := 1) rfl 3) rfl) (bi rfl (fun _ _ a c => ah mR (a.ev rfl) (ut hb0 hc0 c) rfl) (bi rfl (fun _ _ a c => ah bT (a.ev rfl) (ut hb1 hc1 c) rfl) ?_)))))))))))
 obtain ⟨i, g, H⟩ := bnd H
 obtain ⟨b, d, f⟩ := aU g
 refine bi rfl (fun _ _ a c => ak kS (a.ev rfl) OP.form (a.ev rfl) b d) (bi rfl (fun _ _ a c => ah bT (a.ev rfl) (uZ je OP f c) rfl) (fO oH rfl rfl (rU rfl rfl (iE (aa (aW ?_))))))
 obtain rfl := oI H
 exact dQ leB

theorem vB {w : Bs} (p0 : (List aQ)) (g : Option Addr) (i : Nat) (f : Sl w.R w.W bq g i p0) (p1 : aQ → Option Bool) (fid1 : Nat) (j : List Value) (hg1 : ∀ args W, (callFunc fid1 args).run Tryz.prog W = .ok (.enter fid1 args) W) (hf1 : ∀ (w' : Bs), w.Ext w' → ∀ (z0 : aQ), ∀ y, p1 z0 = some y → Calls Tryz.prog fid1 (([.agg #[iv z0.X0, iv z0.Y0, iv z0.X1, iv z0.Y1]] : List Value) ++ j).toArray w'.W fun e W'' => e = .returned (bV y) ∧ HF w' W'' E0) (r : Int) (H : lM p0 p1 = some r) (hE : HF w w.W E0) : Calls Tryz.prog 108 [sL g p0 i, .func (.func fid1) #[] j.toArray].toArray w.W fun e W' => e = .returned (iv r) ∧ HF w W' E0 := by
 unfold lM at H
 have leB := Bs.Le.refl w
 refine aZ (n := 19) Tryz.func108 rfl rfl rfl hE (ai (Tr.k rfl (ae (aa (az (ai (aA rfl (aT (bz sH) rfl (aA rfl (ae (aa (Tr.block (df (σ := (List aQ) × Nat) (fun m w s => m = s.1.length + 1 ∧ s.1 = List.drop s.2 p0 ∧ s.2 ≤ p0.length ∧ gq p1 s.1 s.2 = some r) (fun s => [(0, sL g p0 i), (1, .func (.func fid1) #[] j.toArray), (7, iv (p0.length : Int)), (8, iv (s.2 : Int))]) (fun s => []) (p0.length + 1) (p0, 0) ⟨rfl, rfl, Nat.zero_le _, H⟩ (.r rfl) .nil (fun _ _ h => absurd h.1 (by simp)) ?_)))))))))))))
 intro w l m s hs
 obtain ⟨b, t⟩ := s
 obtain ⟨q, d, A, H⟩ := hs
 replace d : b = List.drop t p0 := d
 replace H : gq p1 b t = some r := H
 replace q : m + 1 = b.length + 1 := q
 replace f := f.nL l
 replace hf1 := fun w' he => hf1 w' (l.ext.trans he)
 replace leB := leB.trans l
 obtain rfl : m = b.length := by omega
 clear q
 dsimp only
 cases b with
 | nil =>
  rw [gq.eq_1] at H
  refine ai (aC bg rfl rfl (ae (aa (az (eQ rfl (dZ d) (bW (aB (aB (aR (aa (ai (Tr.k rfl (ae (aa (aW ?_)))))))))))))))
  obtain rfl := oI H
  exact dQ leB
 | cons o b =>
  rw [gq.eq_2] at H
  refine ai (aC bg rfl rfl (ae (aa (az (eP rfl (fJ d) (aN (aa (az (Tr.block (ai (aA rfl (Tr.k rfl (ae (aa (ai (aA rfl (aA rfl (aA rfl (aG rfl (fun _ _ a c => ak vk (a.ev rfl) f.form (a.ev rfl) (Int.natCast_nonneg _) (bF d)) (aG rfl (fun _ _ a c => aM (cs := [iv o.X0, iv o.Y0, iv o.X1, iv o.Y1]) tV mI (a.ev rfl) (aF.take (uZ mK f (gy d) c) 4) rfl) ?_))))))))))))))))))))
  obtain ⟨v, u, H⟩ := bnd H
  refine vw (r := (bV v)) (wn rfl) rfl rfl hg1 (aj rfl aL) (fun W hW => hf1 hW.all hW.cB o _ u) (ae (aa (aP rfl H (fun H => ?_) (fun H => ?_))))
  ·refine ai (aA rfl (Tr.k rfl (ae (aa (aW (bL (aK (aK (bL (aK ?_))))))))))
   obtain rfl := oI H
   exact dQ leB
  ·exact aN (aJ (aa (aI (aC bv rfl rfl (aA rfl (ae (aD l (b, (t + 1)) ⟨rfl, fe d, bF d, H⟩ (.cons rfl (.cons rfl (.cons rfl (.cons (congrArg (fun z => some (Value.int .i64 z)) (eZ d f.form)) .nil)))) .nil)))))))

theorem uJ (N : Nat) {w : Bs} (p0 : (List aQ)) (d : Option Addr) (f : Nat) (p1 : aQ → Option Bool) (fid1 : Nat) (z : List Value) (hg1 : ∀ args W, (callFunc fid1 args).run Tryz.prog W = .ok (.enter fid1 args) W) (hf1 : ∀ (w' : Bs), w.Ext w' → ∀ (z0 : aQ), ∀ y, p1 z0 = some y → Calls Tryz.prog fid1 (([.agg #[iv z0.X0, iv z0.Y0, iv z0.X1, iv z0.Y1]] : List Value) ++ z).toArray w'.W fun e W'' => e = .returned (bV y) ∧ HF w' W'' E0) (r : (List aQ)) (H : kr N p0 p1 = some r) (hE : HF w w.W (iF [ow d f 38 bq p0])) : Calls Tryz.prog 64 [sL d p0 f, .func (.func fid1) #[] z.toArray].toArray w.W fun e W' => ∃ u : (Option Addr × Nat), e = .returned (sL u.1 r u.2) ∧ (dM u.1 r.length u.2) ∧ HF w W' (iF [ow u.1 u.2 38 bq r]) := by
 unfold kr at H
 have F := (hE.sl (k := 0) rfl).form
 have leB := Bs.Le.refl w
 refine aZ (n := 42) Tryz.func64 rfl rfl rfl hE (ai (Tr.k rfl (bM 1 38 bq ?_)))
 show Tr _ _ (uf _ 4 (sL none (([] : List aQ)) 0)) _ _
 refine ae (aa (ai (aA rfl (aA rfl ?_))))
 obtain ⟨G, Z, H⟩ := bnd H
 refine di (r := (iv G)) (wn rfl) rfl Tryz.call108 (aj rfl (aj rfl aL)) (fun W hW => vB p0 d f (hW.sK (k := 0) rfl) p1 fid1 z hg1 (fun w' he => hf1 w' (hW.cB.trans he)) G Z (HF.start _)) (Tr.k rfl (ae (aa (az (ai (aA rfl (aC dL rfl rfl (ae (aa (aP rfl H (fun H => ?_) (fun H => ?_)))))))))))
 ·refine ai (aA rfl (Tr.k rfl (ae (aa (aW (aK ?_))))))
  obtain rfl := oI H
  exact Tr.out (m := [sL d p0 f]) [] (cO rfl bO) (fun W hW => ⟨(d, f), rfl, F, HF.zK leB (hW.pick (ks := [0]) (by decide) (aH rfl bn)) ⟨qI _ _ _ _ qd, trivial⟩⟩)
 ·refine aN (aa (az (ai (aA rfl (aC bv rfl rfl (Tr.k rfl (ae (aa (Tr.block (df (σ := (List aQ) × Int × Int) (fun m w s => fB p1 m s.1 s.2.1 s.2.2 = some r ∧ s.1.length = p0.length) (fun s => [(0, sL d s.1 f), (1, .func (.func fid1) #[] z.toArray), (5, iv s.2.1), (6, iv s.2.2)]) (fun s => [(0, ow d f 38 bq s.1)]) N (p0, G, (bG (G + 1))) ⟨H, rfl⟩ (.r rfl) (.r rfl) (fun _ _ h => jQ (h.1)) ?_))))))))))
  intro w I a5 s hs
  obtain ⟨g, j, o⟩ := s
  obtain ⟨H, B⟩ := hs
  replace H : fB p1 (a5 + 1) g j o = some r := H
  replace hf1 := fun w' he => hf1 w' (I.ext.trans he)
  replace leB := leB.trans I
  replace B : g.length = p0.length := B
  have A : dM d g.length f := (by rw [B]; exact F)
  rw [fB.eq_2] at H
  dsimp only
  refine az (ai (aA rfl (aA rfl (aT (bz sH) rfl (aC bg rfl rfl (ae (aa (aP rfl H (fun H => ?_) (fun H => ?_)))))))))
  ·refine aN (aa (az (Tr.block (ai (aA rfl (aA rfl ?_))))))
   obtain ⟨b, a0, H⟩ := bnd H
   obtain ⟨O, P, Q⟩ := aU a0
   refine aG rfl (fun _ _ a c => ak vk (a.ev rfl) A (a.ev rfl) O P) (aG rfl (fun _ _ a c => aM (cs := [iv b.X0, iv b.Y0, iv b.X1, iv b.Y1]) tV mI (a.ev rfl) (aF.take (Ac mK (k := 0) c rfl Q) 4) rfl) (Tr.alloc 4 (wn rfl) rfl x8 fun S => (bJ 4 (cs := [iv b.X0, iv b.Y0, iv b.X1, iv b.Y1]) [iv b.X0, iv b.Y0, iv b.X1, iv b.Y1] (wn rfl) rfl rfl rfl rfl mI rfl rfl rfl (ae (aa (ai (aA rfl (aG rfl (fun _ _ a c => aM (cs := [iv b.X0, iv b.Y0, iv b.X1, iv b.Y1]) tV mI (a.ev rfl) (aF.take (dR c (vs := [iv b.X0, iv b.Y0, iv b.X1, iv b.Y1]) (k := 4) rfl 0) 4) rfl) ?_))))))))
   obtain ⟨L, a1, H⟩ := bnd H
   refine vw (r := (bV L)) (wn rfl) rfl rfl hg1 (aj rfl aL) (fun W hW => hf1 hW.all hW.cB b _ a1) (aT jC rfl (ae (aa (aP rfl H (fun H => ?_) (fun H => ?_)))))
   ·refine ai (aA rfl (aA rfl (aG rfl (fun _ _ a c => aM (cs := [iv b.X0, iv b.Y0, iv b.X1, iv b.Y1]) tV mI (a.ev rfl) (aF.take (dR c (vs := [iv b.X0, iv b.Y0, iv b.X1, iv b.Y1]) (k := 4) rfl 0) 4) rfl) ?_)))
    obtain ⟨a7, a2, H⟩ := bnd H
    obtain ⟨T, U, V⟩ := aU a2
    refine aG rfl (fun _ _ a c => ak vk (a.ev rfl) A (a.ev rfl) T U) ?_
    obtain ⟨C, M, H⟩ := bnd H
    have v := nZ M
    refine oK 0 (t := bq) (l := g) (i := j) (fo := 0) (cs := [iv b.X0, iv b.Y0, iv b.X1, iv b.Y1]) b (wn rfl) rfl rfl rfl rfl rfl V mI rfl (fun u _ => ⟨u, trivial, rfl⟩) rfl M ?_
    have a6 : dM d C.length f := by rw [v]; exact A
    have X := v.trans B
    exact Tr.vJ (lf := [(0, sL d C f), (1, .func (.func fid1) #[] z.toArray), (5, iv j), (6, iv o), (7, pV S), (16, iv o), (17, sL d C f), (18, iv (g.length : Int)), (19, bV (decide (o < (g.length : Int)))), (22, sL d C f), (23, iv o), (25, .agg #[iv b.X0, iv b.Y0, iv b.X1, iv b.Y1]), (26, .func (.func fid1) #[] z.toArray), (27, .agg #[iv b.X0, iv b.Y0, iv b.X1, iv b.Y1]), (28, bV L), (29, bV (!L)), (30, sL d C f), (31, iv j), (32, .agg #[iv b.X0, iv b.Y0, iv b.X1, iv b.Y1])]) (le := [(0, ow d f 38 bq C), (4, bx S #[iv b.X0, iv b.Y0, iv b.X1, iv b.Y1] 38)]) (.cons (dJ rfl (by unfold sL; rw [v])) (.cons rfl (.cons rfl (.cons rfl (.cons rfl (.cons rfl (.cons (dJ rfl (by unfold sL; rw [v])) (.cons rfl (.cons rfl (.cons (dJ rfl (by unfold sL; rw [v])) (.cons rfl (.cons rfl (.cons rfl (.cons rfl (.cons rfl (.cons rfl (.cons (dJ rfl (by unfold sL; rw [v])) (.r rfl)))))))))))))))))) (.r rfl) (ae (aa (aI (aA rfl (aC bv rfl rfl (Tr.k rfl (ae (aJ (aa (aI (aA rfl (aC bv rfl rfl (Tr.k rfl (ae (aD I (C, (bG (j + 1)), (bG (o + 1))) ⟨H, X⟩ (.r rfl) (.r rfl))))))))))))))))
   ·exact aN (aJ (aa (aI (aA rfl (aC bv rfl rfl (Tr.k rfl (ae (aD I (g, j, (bG (o + 1))) ⟨H, B⟩ (.r rfl) (.r rfl)))))))))
  ·refine bW (aB (aB (aR (aa (ai (aA rfl (aA rfl ?_)))))))
   obtain ⟨D, J, H⟩ := bnd H
   refine aG rfl (fun _ _ a c => uX vk (a.ev rfl) A (a.ev rfl) J) ?_
   have q := Q8 (aQ.mk 0 0 0 0) J
   refine JL 0 (lo := j) (t := bq) (l := g) (aQ.mk 0 0 0 0) (wn rfl) rfl J rfl sH x8 ⟨(), qd _ _ _ _, mK _ _⟩ rfl rfl ?_
   have E : dM d ((Pg g j D.length (aQ.mk 0 0 0 0))).length f := by rw [q]; exact A
   have a3 := q.trans B
   refine Tr.vJ (lf := [(0, sL d ((Pg g j D.length (aQ.mk 0 0 0 0))) f), (1, .func (.func fid1) #[] z.toArray), (5, iv j), (6, iv o), (16, iv o), (17, sL d ((Pg g j D.length (aQ.mk 0 0 0 0))) f), (18, iv (g.length : Int)), (19, bV (decide (o < (g.length : Int)))), (36, sL d ((Pg g j D.length (aQ.mk 0 0 0 0))) f), (37, iv j)]) (le := [(0, ow d f 38 bq (Pg g j D.length (aQ.mk 0 0 0 0)))]) (.cons (dJ rfl (by unfold sL; rw [q])) (.cons rfl (.cons rfl (.cons rfl (.cons rfl (.cons (dJ rfl (by unfold sL; rw [q])) (.cons rfl (.cons rfl (.cons (dJ rfl (by unfold sL; rw [q])) (.r rfl)))))))))) (.r rfl) (ae (aa (ai (aA rfl (aA rfl ?_)))))
   obtain ⟨a4, K, H⟩ := bnd H
   refine aG rfl (fun _ _ a c => GL vk (a.ev rfl) E (a.ev rfl) K) (Tr.k rfl (ae (aa (aW ?_))))
   obtain rfl := oI H
   exact ET 0 K rfl (Tr.out (m := [sL d a4 f]) [] (cO rfl bO) (fun W hW => ⟨(d, f), rfl, (Ee E K), HF.zK leB (hW.pick (ks := [0]) (by decide) (aH rfl bn)) ⟨qI _ _ _ _ qd, trivial⟩⟩))

theorem xU {w : Bs} (p0 : aQ) (p1 : aQ) (r : Int) (H : kZ p0 p1 = some r) (hE : HF w w.W E0) : Calls Tryz.prog 110 [.agg #[iv p0.X0, iv p0.Y0, iv p0.X1, iv p0.Y1], .agg #[iv p1.X0, iv p1.Y0, iv p1.X1, iv p1.Y1]].toArray w.W fun e W' => e = .returned (iv r) ∧ HF w W' E0 := by
 unfold kZ at H
 have leB := Bs.Le.refl w
 refine aZ (n := 10) Tryz.func110 rfl rfl rfl hE (ai (gN 1 (cs := [iv p0.X0, iv p0.Y0, iv p0.X1, iv p0.Y1]) (wn rfl) rfl rfl rfl fun b => (gN 2 (cs := [iv p1.X0, iv p1.Y0, iv p1.X1, iv p1.Y1]) (wn rfl) rfl rfl rfl fun d => (Tr.k rfl (ae (aa (ai (aT (ag pU) rfl (aG rfl (fun _ _ a c => ah bT (a.ev rfl) (dR c (vs := [iv p0.X0, iv p0.Y0, iv p0.X1, iv p0.Y1]) (k := 1) rfl 0) rfl) (aT (ag pU) rfl (aG rfl (fun _ _ a c => ah bT (a.ev rfl) (dR c (vs := [iv p1.X0, iv p1.Y0, iv p1.X1, iv p1.Y1]) (k := 2) rfl 0) rfl) (aC gH rfl rfl (Tr.k rfl (ae (aa (aW ?_))))))))))))))))
 obtain rfl := oI H
 exact dQ leB

theorem y8 {w : Bs} (p0 : (List aQ)) (f : Option Addr) (g : Nat) (r : ((List Int) × (List aQ))) (H : nD p0 = some r) (hE : HF w w.W (iF [ow f g 38 bq p0, emp])) : Calls Tryz.prog 67 [sL f p0 g].toArray w.W fun e W' => ∃ u : (Option Addr × Nat), e = .returned (sL u.1 r.1 u.2) ∧ (dM u.1 r.1.length u.2 ∧ r.2.length = p0.length) ∧ HF w W' (iF [ow f g 38 bq r.2, ow u.1 u.2 3 bK r.1]) := by
 unfold nD at H
 have S := (hE.sl (k := 0) rfl).form
 have leB := Bs.Le.refl w
 refine aZ (n := 48) Tryz.func67 rfl rfl rfl hE (ai (Tr.k rfl (bM 1 3 bK ?_)))
 show Tr _ _ (uf _ 2 (sL none (([] : List Int)) 0)) _ _
 refine ae (aa (ai (aA rfl ?_)))
 obtain ⟨d, a8, H⟩ := bnd H
 refine ja [0] [ow f g 38 bq p0] (U := Unit) (fun u => (.tuple #[])) (fun u => d.length = p0.length) (fun u => [ow f g 38 bq d]) rfl (aH rfl bn) (fun _ => rfl) (wn rfl) rfl Tryz.call60 (aj rfl (aj rfl aL)) (fun W hW hp hE => mM p0 f g (fun z0 z1 => kZ z0 z1) 110 [] Tryz.call110 (fun w' he z0 z1 y hy => xU z0 z1 y hy (HF.start _)) d a8 hE) ?_
 intro u hu
 have M := hu
 have B : d.length = p0.length := M --@phi
 have D : dM f d.length g := by rw [B]; exact S
 have L := B.trans rfl
 show Tr _ _ (uf _ 8 (.tuple #[])) (up _ 0 (ow f g 38 bq d)) _
 refine Tr.vJ (lf := [(0, sL f d g), (2, sL none (([] : List Int)) 0), (7, sL f d g), (8, (.tuple #[]))]) (le := [(0, ow f g 38 bq d), (1, ow none 0 3 bK ([] : List Int))]) (.cons (dJ rfl (by unfold sL; rw [B])) (.cons rfl (.cons (dJ rfl (by unfold sL; rw [B])) (.r rfl)))) (.r rfl) (ae (aa (ai (Tr.k rfl (bM 2 3 bK ?_)))))
 show Tr _ _ (uf _ 3 (sL none (([] : List Int)) 0)) _ _
 refine ae (aa (az (ai (aA rfl (aT (bz sH) rfl (aA rfl (ae (aa (Tr.block (df (σ := (List aQ) × Nat × (List Int) × (Option Addr) × Nat) (fun m w s => m = s.1.length + 1 ∧ s.1 = List.drop s.2.1 d ∧ s.2.1 ≤ d.length ∧ gT d s.1 s.2.1 s.2.2.1 = some r ∧ dM s.2.2.2.1 s.2.2.1.length s.2.2.2.2) (fun s => [(3, sL s.2.2.2.1 s.2.2.1 s.2.2.2.2), (9, sL f d g), (10, iv (d.length : Int)), (11, iv (s.2.1 : Int))]) (fun s => [(0, ow f g 38 bq d), (2, ow s.2.2.2.1 s.2.2.2.2 3 bK s.2.2.1)]) (d.length + 1) (d, 0, ([] : List Int), none, 0) ⟨rfl, rfl, Nat.zero_le _, H, gL⟩ (.r rfl) (.r rfl) (fun _ _ h => absurd h.1 (by simp)) ?_))))))))))
 intro w N m s hs
 obtain ⟨v, I, q, j, o⟩ := s
 obtain ⟨O, A, b6, H, C⟩ := hs
 replace A : v = List.drop I d := A
 replace H : gT d v I q = some r := H
 replace O : m + 1 = v.length + 1 := O
 replace leB := leB.trans N
 replace C : dM j q.length o := C
 obtain rfl : m = v.length := by omega
 clear O
 dsimp only
 cases v with
 | nil =>
  rw [gT.eq_1] at H
  refine ai (aC bg rfl rfl (ae (aa (az (eQ rfl (dZ A) (bW (aB (aB (aR (aa (ai (aA rfl (Tr.k rfl (ae (aa (aW ?_))))))))))))))))
  obtain rfl := oI H
  exact Tr.out (m := [sL j q o]) [] (cO rfl bO) (fun W hW => ⟨(j, o), rfl, ⟨C, L⟩, HF.zK leB (hW.pick (ks := [0, 2]) (by decide) (aH rfl (aH rfl bn))) ⟨qI _ _ _ _ qd, qI _ _ _ _ Gy, trivial⟩⟩)
 | cons b v =>
  rw [gT.eq_2] at H
  refine ai (aC bg rfl rfl (ae (aa (az (eP rfl (fJ A) (aN (aa (az (Tr.block (ai (aG rfl (fun _ _ a c => ak vk (a.ev rfl) D (a.ev rfl) (Int.natCast_nonneg _) (bF A)) (aG rfl (fun _ _ a c => aM (cs := [iv b.X0, iv b.Y0, iv b.X1, iv b.Y1]) tV mI (a.ev rfl) (aF.take (Ac mK (k := 0) c rfl (gy A)) 4) rfl) (Tr.alloc 7 (wn rfl) rfl x8 fun J => (bJ 7 (cs := [iv b.X0, iv b.Y0, iv b.X1, iv b.Y1]) [iv b.X0, iv b.Y0, iv b.X1, iv b.Y1] (wn rfl) rfl rfl rfl rfl mI rfl rfl rfl (ae (aa (ai (aA rfl (aT (bz nz) rfl (aC gH rfl rfl (Tr.k rfl (ae (aa (az (jb (by kernel_rfl) (by kernel_rfl) (dD rfl (fO xA rfl rfl (dD rfl ?_))))))))))))))))))))))))))))
  obtain ⟨T, E, H⟩ := bnd H
  refine rz 8 [(3, sL j q o), (5, pV J), (6, iv (bG ((q.length : Int) - 1))), (9, sL f d g), (10, iv (d.length : Int)), (11, iv (I : Int)), (28, bV T)] ?_ ?_
  ·cases P : (decide (0 ≤ (bG ((q.length : Int) - 1))))
   ·rw [P] at E
    rw [if_neg (by decide)] at E
    have H := E
    obtain rfl := oI H
    refine cZ rfl (cZ rfl (cZ rfl (cZ rfl (cZ rfl (cZ rfl (cZ rfl ?_))))))
    exact fO bE rfl rfl (Tq.fin (.r rfl))
   ·rw [P] at E
    rw [if_pos rfl] at E
    have H := E
    refine kg (ag pU) rfl (Tq.x (fun _ _ a c => ah bT (a.ev rfl) (dR c (vs := [iv b.X0, iv b.Y0, iv b.X1, iv b.Y1]) (k := 7) rfl 0) rfl) (kg run_move rfl (kg run_move rfl ?_)))
    obtain ⟨b7, a9, H⟩ := bnd H
    obtain ⟨V, X, Z⟩ := aU a9
    refine Tq.x (fun _ _ a c => ak kS (a.ev rfl) C (a.ev rfl) V X) (Tq.x (fun _ _ a c => ah bT (a.ev rfl) (Ac je (k := 2) c rfl Z) rfl) (ug oH rfl rfl (fO bD rfl rfl ?_)))
    obtain rfl := oI H
    exact Tq.fin (.r rfl)
  ·refine iE (aa (aP rfl H (fun H => ?_) (fun H => ?_)))
   ·refine kG 9 (by kernel_rfl) (by kernel_rfl) (dD rfl (dD rfl (dD rfl (dD rfl ?_))))
    obtain ⟨K, b0, H⟩ := bnd H
    obtain ⟨a0, a1, a2⟩ := aU b0
    refine bi rfl (fun _ _ a c => ak kS (a.ev rfl) C (a.ev rfl) a0 a1) (bi rfl (fun _ _ a c => ah bT (a.ev rfl) (Ac je (k := 2) c rfl a2) rfl) (fQ (ag zF) rfl (bi rfl (fun _ _ a c => ah bT (a.ev rfl) (dR c (vs := [iv b.X0, iv b.Y0, iv b.X1, iv b.Y1]) (k := 7) rfl 2) rfl) (bi rfl (fun _ _ a c => zq (a.ev rfl) (a.ev rfl) _) (iE ?_)))))
    obtain ⟨b8, b1, H⟩ := bnd H
    obtain ⟨a3, a4, a5⟩ := aU b1
    refine aG rfl (fun _ _ a c => ak kS (a.ev rfl) C (a.ev rfl) a3 a4) ?_
    obtain ⟨G, Q, H⟩ := bnd H
    have F := nZ Q
    refine oK 2 (t := bK) (l := q) (i := (bG ((q.length : Int) - 1))) (fo := 0) (cs := [iv (max K b.X1)]) (max K b.X1) (wn rfl) rfl rfl rfl rfl rfl a5 zY rfl (fun u _ => ⟨u, trivial, rfl⟩) rfl Q ?_
    have a6 : dM j G.length o := by rw [F]; exact C
    exact Tr.vJ (lf := [(3, sL j G o), (5, pV J), (6, iv (bG ((q.length : Int) - 1))), (9, sL f d g), (10, iv (d.length : Int)), (11, iv (I : Int)), (28, bV T), (29, sL j G o), (30, iv (bG ((q.length : Int) - 1))), (31, sL j G o), (32, iv (bG ((q.length : Int) - 1))), (34, iv K), (35, .pointer (some ⟨J, 2, none⟩)), (36, iv b.X1), (37, iv (max K b.X1))]) (le := [(0, ow f g 38 bq d), (2, ow j o 3 bK G), (7, bx J #[iv b.X0, iv b.Y0, iv b.X1, iv b.Y1] 38)]) (.cons (dJ rfl (by unfold sL; rw [F])) (.cons rfl (.cons rfl (.cons rfl (.cons rfl (.cons rfl (.cons rfl (.cons (dJ rfl (by unfold sL; rw [F])) (.cons rfl (.cons (dJ rfl (by unfold sL; rw [F])) (.r rfl))))))))))) (.r rfl) (ae (aJ (aa (aI (aC bv rfl rfl (aA rfl (ae (aD N (v, (I + 1), G, j, o) ⟨rfl, fe A, bF A, H, a6⟩ (.cons rfl (.cons rfl (.cons rfl (.cons (congrArg (fun z => some (Value.int .i64 z)) (eZ A D)) .nil)))) (.r rfl)))))))))
   ·refine aI (aA rfl (aT (ag pU) rfl (aG rfl (fun _ _ a c => ah bT (a.ev rfl) (dR c (vs := [iv b.X0, iv b.Y0, iv b.X1, iv b.Y1]) (k := 7) rfl 0) rfl) (aT (ag zF) rfl (aG rfl (fun _ _ a c => ah bT (a.ev rfl) (dR c (vs := [iv b.X0, iv b.Y0, iv b.X1, iv b.Y1]) (k := 7) rfl 2) rfl) (dS 8 (e := 3) (vs := [(0, iv b.X0), (1, iv b.X1)]) (cs := [iv b.X0, iv b.X1]) (wn rfl) rfl (bH rfl (bH rfl eF)) (by kernel_rfl) fun b9 => ?_))))))
    obtain ⟨b5, b2, H⟩ := bnd H
    exact Tr.append 2 (t := bK) (l := q) (l2 := [b.X0, b.X1]) (wn rfl) rfl rfl rfl rfl (fun W hW => ⟨[[iv b.X0], [iv b.X1]], (.cons ⟨(), trivial, rfl⟩ (.cons ⟨(), trivial, rfl⟩ .nil)), dR hW (vs := [iv b.X0, iv b.X1]) (k := 8) rfl 0⟩) nz zY ML (by decide) Nn rfl b2 fun b3 b4 a7 => (Tr.k rfl (ae (aJ (aa (aI (aC bv rfl rfl (aA rfl (ae (aD N (v, (I + 1), b5, b3, b4) ⟨rfl, fe A, bF A, H, a7⟩ (.cons rfl (.cons rfl (.cons rfl (.cons (congrArg (fun z => some (Value.int .i64 z)) (eZ A D)) .nil)))) (.r rfl))))))))))

theorem yn {w : Bs} (p0 : (List Int)) (g : Option Addr) (i : Nat) (f : Sl w.R w.W bK g i p0) (p1 : (List Int)) (j : Option Addr) (l : Nat) (o : Sl w.R w.W bK j l p1) (r : Bool) (H : mO p0 p1 = some r) (hE : HF w w.W E0) : Calls Tryz.prog 109 [sL g p0 i, sL j p1 l].toArray w.W fun e W' => e = .returned (bV r) ∧ HF w W' E0 := by
 unfold mO at H
 have leB := Bs.Le.refl w
 refine aZ (n := 26) Tryz.func109 rfl rfl rfl hE (ai (Tr.k rfl (ae (aa (az (ai (aA rfl (aT (bz nz) rfl (aA rfl (aT (bz nz) rfl (aC jD rfl rfl (ae (aa (aP rfl H (fun H => ?_) (fun H => ?_)))))))))))))))
 ·refine ai (Tr.k rfl (ae (aa (aW (aK ?_)))))
  obtain rfl := oI H
  exact dQ leB
 ·refine aN (aa (az (ai (aA rfl (aT (bz nz) rfl (aA rfl (ae (aa (Tr.block (df (σ := (List Int) × Nat) (fun m w s => m = s.1.length + 1 ∧ s.1 = List.drop s.2 p0 ∧ s.2 ≤ p0.length ∧ gX p1 s.1 s.2 = some r) (fun s => [(0, sL g p0 i), (1, sL j p1 l), (12, iv (p0.length : Int)), (13, iv (s.2 : Int))]) (fun s => []) (p0.length + 1) (p0, 0) ⟨rfl, rfl, Nat.zero_le _, H⟩ (.r rfl) .nil (fun _ _ h => absurd h.1 (by simp)) ?_))))))))))
  intro w q m s hs
  obtain ⟨b, u⟩ := s
  obtain ⟨t, d, C, H⟩ := hs
  replace d : b = List.drop u p0 := d
  replace H : gX p1 b u = some r := H
  replace t : m + 1 = b.length + 1 := t
  replace f := f.nL q
  replace o := o.nL q
  replace leB := leB.trans q
  obtain rfl : m = b.length := by omega
  clear t
  dsimp only
  cases b with
  | nil =>
   rw [gX.eq_1] at H
   refine ai (aC bg rfl rfl (ae (aa (az (eQ rfl (dZ d) (bW (aB (aB (aR (aa (ai (Tr.k rfl (ae (aa (aW ?_)))))))))))))))
   obtain rfl := oI H
   exact dQ leB
  | cons E b =>
   rw [gX.eq_2] at H
   refine ai (aC bg rfl rfl (ae (aa (az (eP rfl (fJ d) (aN (aa (az (Tr.block (ai (aA rfl (Tr.k rfl (ae (aa (az (jb (by kernel_rfl) (by kernel_rfl) (dD rfl (dD rfl (bi rfl (fun _ _ a c => ak kS (a.ev rfl) f.form (a.ev rfl) (Int.natCast_nonneg _) (bF d)) (bi rfl (fun _ _ a c => ah bT (a.ev rfl) (uZ je f (gy d) c) rfl) (dD rfl (dD rfl ?_))))))))))))))))))))))
   obtain ⟨D, B, H⟩ := bnd H
   obtain ⟨v, y, A⟩ := aU B
   refine bi rfl (fun _ _ a c => ak kS (a.ev rfl) o.form (a.ev rfl) v y) (bi rfl (fun _ _ a c => ah bT (a.ev rfl) (uZ je o A c) rfl) (fO jD rfl rfl (iE (aa (aP rfl H (fun H => ?_) (fun H => ?_))))))
   ·refine ai (Tr.k rfl (ae (aa (aW (bL (aK (aK (bL (aK ?_)))))))))
    obtain rfl := oI H
    exact dQ leB
   ·exact aN (aJ (aa (aI (aC bv rfl rfl (aA rfl (ae (aD q (b, (u + 1)) ⟨rfl, fe d, bF d, H⟩ (.cons rfl (.cons rfl (.cons rfl (.cons (congrArg (fun z => some (Value.int .i64 z)) (eZ d f.form)) .nil)))) .nil)))))))

theorem qp {w : Bs} (p0 : (List aV)) (f : Option Addr) (g : Nat) (p1 : aV) (b : Option Addr) (d : Nat) (D : Sl w.O w.W bK b d p1.Xs) (r : (List aV)) (H : gW p0 p1 = some r) (hE : HF w w.W (iF [ow f g 98 aS p0])) : Calls Tryz.prog 66 [sL f p0 g, .agg #[iv p1.Y0, iv p1.Y1, sL b p1.Xs d]].toArray w.W fun e W' => ∃ (w' : Bs) (u : (Option Addr × Nat)), w.Le w' ∧ e = .returned (sL u.1 r u.2) ∧ (dM u.1 r.length u.2) ∧ HF w' W' (iF [ow u.1 u.2 98 aS r]) := by
 unfold gW at H
 have h := (hE.sl (k := 0) rfl).form
 have leB := Bs.Le.refl w
 refine aZ (n := 54) Tryz.func66 rfl rfl rfl hE (ai (gN 1 (cs := [iv p1.Y0, iv p1.Y1, sL b p1.Xs d]) (wn rfl) rfl rfl rfl fun j => (Tr.k rfl (bM 2 98 aS ?_))))
 show Tr _ _ (uf _ 4 (sL none (([] : List aV)) 0)) _ _
 refine ae (aa (az (ai (aT (ag lg) rfl (aG rfl (fun _ _ a c => ah mR (a.ev rfl) (dR c (vs := [iv p1.Y0, iv p1.Y1, sL b p1.Xs d]) (k := 1) rfl 2) rfl) (aT (bz nz) rfl (aC dL rfl rfl (aA rfl (dX 6 [(0, sL f p0 g), (3, pV j), (16, bV (((p1.Xs.length : Int) == 0) || (decide (p1.Y1 ≤ p1.Y0))))] [(0, ow f g 98 aS p0), (1, bx j #[iv p1.Y0, iv p1.Y1, sL b p1.Xs d] 98), (2, ow none 0 98 aS ([] : List aV))] ?_ ?_)))))))))
 ·cases q : ((p1.Xs.length : Int) == 0)
  ·exact dU (ag nW) rfl (Tr.x (fun _ _ a c => ah bT (a.ev rfl) (dR c (vs := [iv p1.Y0, iv p1.Y1, sL b p1.Xs d]) (k := 1) rfl 1) rfl) (dU (ag pR) rfl (Tr.x (fun _ _ a c => ah bT (a.ev rfl) (dR c (vs := [iv p1.Y0, iv p1.Y1, sL b p1.Xs d]) (k := 1) rfl 0) rfl) (kF oH rfl rfl (aC bE rfl rfl (ae (bu (.r rfl) (.r rfl))))))))
  ·exact bf rfl (bf rfl (bf rfl (bf rfl (bf rfl (aC bD rfl rfl (ae (bu (.r rfl) (.r rfl))))))))
 ·show Tr _ _ (LF [(0, sL f p0 g), (3, pV j), (16, bV (((p1.Xs.length : Int) == 0) || (decide (p1.Y1 ≤ p1.Y0))))]) (LE [(0, ow f g 98 aS p0), (1, bx j #[iv p1.Y0, iv p1.Y1, sL b p1.Xs d] 98), (2, ow none 0 98 aS ([] : List aV))]) _
  refine ae (aa (aP rfl H (fun H => ?_) (fun H => ?_)))
  ·refine ai (aA rfl (Tr.k rfl (ae (aa (aW (aK ?_))))))
   obtain rfl := oI H
   exact Tr.out (m := [sL f p0 g]) [] (cO rfl bO) (fun W hW => ⟨w, (f, g), leB, rfl, h, hW.pick (ks := [0]) (by decide) (aH rfl bn)⟩)
  ·refine aN (aa (az (ai (aA rfl (aT (bz sG) rfl (aC gH rfl rfl (Tr.k rfl (ae (aa (az (jb (by kernel_rfl) (by kernel_rfl) (dD rfl (fO xA rfl rfl (dD rfl ?_))))))))))))))
   obtain ⟨J, s, H⟩ := bnd H
   refine rz 9 [(0, sL f p0 g), (3, pV j), (5, iv (bG ((p0.length : Int) - 1))), (32, bV J)] ?_ ?_
   ·cases q : (decide (0 ≤ (bG ((p0.length : Int) - 1))))
    ·rw [q] at s
     rw [if_neg (by decide)] at s
     have H := s
     obtain rfl := oI H
     refine cZ rfl (cZ rfl (cZ rfl (cZ rfl (cZ rfl (cZ rfl (cZ rfl ?_))))))
     exact cZ rfl (fO bE rfl rfl (Tq.fin (.r rfl)))
    ·rw [q] at s
     rw [if_pos rfl] at s
     have H := s
     refine kg run_move rfl (kg run_move rfl ?_)
     obtain ⟨b2, a4, H⟩ := bnd H
     obtain ⟨K, L, M⟩ := aU a4
     refine Tq.x (fun _ _ a c => ak oG (a.ev rfl) h (a.ev rfl) K L) (kg (ag nW) rfl (Tq.x (fun _ _ a c => (HF.UY (k := 0) c rfl M).elim fun u hu => ah bT (a.ev rfl) (hu.2.drop 1) rfl) (kg (ag pR) rfl (Tq.x (fun _ _ a c => ah bT (a.ev rfl) (dR c (vs := [iv p1.Y0, iv p1.Y1, sL b p1.Xs d]) (k := 1) rfl 0) rfl) (ug dL rfl rfl (fO bD rfl rfl ?_))))))
     obtain rfl := oI H
     exact Tq.fin (.r rfl)
   ·refine dD rfl ?_
    obtain ⟨N, v, H⟩ := bnd H
    refine rz 9 [(0, sL f p0 g), (3, pV j), (5, iv (bG ((p0.length : Int) - 1))), (42, bV N)] ?_ ?_
    ·cases q : J
     ·rw [q] at v
      rw [if_neg (by decide)] at v
      have H := v
      obtain rfl := oI H
      refine cZ rfl (cZ rfl (cZ rfl (cZ rfl (cZ rfl (cZ rfl (cZ rfl ?_))))))
      exact cZ rfl (fO bE rfl rfl (Tq.fin (.r rfl)))
     ·rw [q] at v
      rw [if_pos rfl] at v
      have H := v
      refine kg run_move rfl (kg run_move rfl ?_)
      obtain ⟨z, a5, H⟩ := bnd H
      obtain ⟨P, Q, S⟩ := aU a5
      refine Tq.x (fun _ _ a c => ak oG (a.ev rfl) h (a.ev rfl) P Q) (kg (ag lg) rfl (uG (U := (aS).Ad) (fun u => (aS).ok w.O w.W u z) (fun u => (sL u.1 z.Xs u.2)) (wg rfl rfl rfl) rfl (Fj (κ := 0) (t := aS) (V := fun u => (sL u.1 z.Xs u.2)) rfl S (fun _ _ u a hc => ah mR (a.ev rfl) (hc.drop 2) rfl)) ?_))
      intro a9 I
      obtain ⟨A, B⟩ := a9
      have o := I
      replace o : Sl w.O w.W bK A B z.Xs := o
      dsimp only
      refine kg (ag lg) rfl (Tq.x (fun _ _ a c => ah mR (a.ev rfl) (dR c (vs := [iv p1.Y0, iv p1.Y1, sL b p1.Xs d]) (k := 1) rfl 2) rfl) ?_)
      obtain ⟨T, a6, H⟩ := bnd H
      refine qV (r := (bV T)) (wg rfl rfl rfl) rfl Tryz.call109 (aj rfl (aj rfl aL)) (fun W hW => yn z.Xs A B (o.rl.ext hW.cB) p1.Xs b d (D.rl.ext hW.cB) T a6 (HF.start _)) (fO bD rfl rfl ?_)
      obtain rfl := oI H
      exact Tq.fin (.r rfl)
    ·refine iE (aa (aP rfl H (fun H => ?_) (fun H => ?_)))
     ·refine ai (aA rfl (aA rfl (aT (ag nW) rfl (aG rfl (fun _ _ a c => ah bT (a.ev rfl) (dR c (vs := [iv p1.Y0, iv p1.Y1, sL b p1.Xs d]) (k := 1) rfl 1) rfl) ?_))))
      obtain ⟨X, a7, H⟩ := bnd H
      obtain ⟨Z, a0, a1⟩ := aU a7
      refine aG rfl (fun _ _ a c => ak oG (a.ev rfl) h (a.ev rfl) Z a0) (aT (ag nW) rfl ?_)
      obtain ⟨C, E, H⟩ := bnd H
      have y := nZ E
      refine oK 0 (t := aS) (l := p0) (i := (bG ((p0.length : Int) - 1))) (fo := 1) (cs := [iv p1.Y1]) (aV.mk X.Y0 p1.Y1 X.Xs) (wn rfl) rfl rfl rfl rfl rfl a1 zY rfl (fun u hu => ⟨u, hu, rfl⟩) rfl E ?_
      have a2 : dM f C.length g := by rw [y]; exact h
      have b1 := y.trans rfl
      refine Tr.vJ (lf := [(0, sL f C g), (3, pV j), (5, iv (bG ((p0.length : Int) - 1))), (42, bV N), (43, sL f C g), (44, iv (bG ((p0.length : Int) - 1))), (45, .pointer (some ⟨j, 1, none⟩)), (46, iv p1.Y1)]) (le := [(0, ow f g 98 aS C), (1, bx j #[iv p1.Y0, iv p1.Y1, sL b p1.Xs d] 98), (2, ow none 0 98 aS ([] : List aV))]) (.cons (dJ rfl (by unfold sL; rw [y])) (.cons rfl (.cons rfl (.cons rfl (.cons (dJ rfl (by unfold sL; rw [y])) (.r rfl)))))) (.r rfl) (ae (aa (ai (aA rfl (Tr.k rfl (ae (aa (aW (aK ?_)))))))))
      obtain rfl := oI H
      exact Tr.out (m := [sL f C g]) [] (cO rfl bO) (fun W hW => ⟨w, (f, g), leB, rfl, a2, hW.pick (ks := [0]) (by decide) (aH rfl bn)⟩)
     ·refine aN (aa (ai (aA rfl (aG rfl (fun _ _ a c => aM (cs := [iv p1.Y0, iv p1.Y1, sL b p1.Xs d]) JE zS (a.ev rfl) (aF.take (dR c (vs := [iv p1.Y0, iv p1.Y1, sL b p1.Xs d]) (k := 1) rfl 0) 3) rfl) (dS 3 (e := 98) (vs := [(0, .agg #[iv p1.Y0, iv p1.Y1, sL b p1.Xs d])]) (cs := [iv p1.Y0, iv p1.Y1, sL b p1.Xs d]) (wn rfl) rfl (bH rfl eF) (by kernel_rfl) fun b3 => ?_)))))
      obtain ⟨b0, a8, H⟩ := bnd H
      refine Tr.append 0 (t := aS) (l := p0) (l2 := [p1]) (wn rfl) rfl rfl rfl rfl (fun W hW => ⟨[[iv p1.Y0, iv p1.Y1, sL b p1.Xs d]], (.cons ⟨(b, d), D, rfl⟩ .nil), dR hW (vs := [iv p1.Y0, iv p1.Y1, sL b p1.Xs d]) (k := 3) rfl 0⟩) sG zS TH (by decide) UA rfl a8 fun F G a3 => (Tr.k rfl (ae (aa (aW ?_))))
      obtain rfl := oI H
      exact Tr.out (m := [sL F b0 G]) [] (cO rfl bO) (fun W hW => ⟨w, (F, G), leB, rfl, a3, hW.pick (ks := [0]) (by decide) (aH rfl bn)⟩)

theorem wZ (N : Nat) {w : Bs} (p0 : (List aQ)) (b8 : Option Addr) (b9 : Nat) (h3 : Sl w.R w.W bq b8 b9 p0) (r : (List aV)) (H : mD N p0 = some r) (hE : HF w w.W (iF [emp])) : Calls Tryz.prog 32 [sL b8 p0 b9].toArray w.W fun e W' => ∃ (w' : Bs) (u : (Option Addr × Nat)), w.Le w' ∧ e = .returned (sL u.1 r u.2) ∧ (dM u.1 r.length u.2) ∧ HF w' W' (iF [ow u.1 u.2 98 aS r]) := by
 unfold mD at H
 have leB := Bs.Le.refl w
 refine aZ (n := 83) Tryz.func32 rfl rfl rfl hE (ai (Tr.k rfl (bM 1 98 aS ?_)))
 show Tr _ _ (uf _ 2 (sL none (([] : List aV)) 0)) _ _
 refine ae (aa (ai (aA rfl ?_)))
 obtain ⟨V, h4, H⟩ := bnd H
 refine ja [2] [emp] (U := (Option Addr × Nat)) (fun u => (sL u.1 V u.2)) (fun u => dM u.1 V.length u.2) (fun u => [ow u.1 u.2 38 bq V]) rfl (aH rfl bn) (fun _ => rfl) (wn rfl) rfl Tryz.call59 (aj rfl aL) (fun W hW hp hE => xS p0 b8 b9 (h3.ext (hW.gM hp)) V h4 hE) ?_
 intro u hu
 obtain ⟨d, f⟩ := u
 have e6 := hu
 have d3 : dM d V.length f := e6 --@phi
 dsimp only
 refine Tr.k rfl (ae (aa (ai (aA rfl ?_))))
 obtain ⟨j, h5, H⟩ := bnd H
 refine ja [2] [ow d f 38 bq V] (U := Unit) (fun u => (.tuple #[])) (fun u => j.length = V.length) (fun u => [ow d f 38 bq j]) rfl (aH rfl bn) (fun _ => rfl) (wn rfl) rfl Tryz.call60 (aj rfl (aj rfl aL)) (fun W hW hp hE => mM V d f (fun z0 z1 => ng z0 z1) 61 [] Tryz.call61 (fun w' he z0 z1 y hy => Aw z0 z1 y hy (HF.start _)) j h5 hE) ?_
 intro u hu
 have d4 := hu
 have a0 : j.length = V.length := d4 --@phi
 have a1 : dM d j.length f := by rw [a0]; exact d3
 show Tr _ _ (uf _ 13 (.tuple #[])) (up _ 2 (ow d f 38 bq j)) _
 refine Tr.vJ (lf := [(0, sL d j f), (2, sL none (([] : List aV)) 0), (10, sL b8 p0 b9), (11, sL d j f), (12, sL d j f), (13, (.tuple #[]))]) (le := [(1, ow none 0 98 aS ([] : List aV)), (2, ow d f 38 bq j)]) (.cons (dJ rfl (by unfold sL; rw [a0])) (.cons rfl (.cons rfl (.cons (dJ rfl (by unfold sL; rw [a0])) (.cons (dJ rfl (by unfold sL; rw [a0])) (.r rfl)))))) (.r rfl) (ae (aa (ai (Tr.alloc 3 (wn rfl) rfl TL fun C => (ae (aa (az (ai (aA rfl (aT (bz sH) rfl (aA rfl (ae (aa (Tr.block (bM 12 3 bK (df (σ := (List aQ) × Nat × (List Int) × (Option Addr) × Nat) (fun m w s => m = s.1.length + 1 ∧ s.1 = List.drop s.2.1 j ∧ s.2.1 ≤ j.length ∧ jJ N j s.1 s.2.1 s.2.2.1 = some r ∧ dM s.2.2.2.1 s.2.2.1.length s.2.2.2.2) (fun s => [(0, sL d j f), (3, pV C), (14, sL d j f), (15, iv (j.length : Int)), (16, iv (s.2.1 : Int))]) (fun s => [(2, ow d f 38 bq j), (3, bx C #[sL s.2.2.2.1 s.2.2.1 s.2.2.2.2] 96), (12, ow s.2.2.2.1 s.2.2.2.2 3 bK s.2.2.1)]) (j.length + 1) (j, 0, ([] : List Int), none, 0) ⟨rfl, rfl, Nat.zero_le _, H, gL⟩ (.r rfl) (.r rfl) (fun _ _ h => absurd h.1 (by simp)) ?_))))))))))))))))
 intro w f2 m s hs
 obtain ⟨X, c5, Z, F, G⟩ := s
 obtain ⟨d5, a2, k1, H, c6⟩ := hs
 replace a2 : X = List.drop c5 j := a2
 replace H : jJ N j X c5 Z = some r := H
 replace d5 : m + 1 = X.length + 1 := d5
 replace leB := leB.trans f2
 replace c6 : dM F Z.length G := c6
 obtain rfl : m = X.length := by omega
 clear d5
 dsimp only
 cases X with
 | nil =>
  rw [jJ.eq_1] at H
  refine ai (aC bg rfl rfl (ae (aa (az (eQ rfl (dZ a2) (bW (aB (aB (aR (aa (ai (aG rfl (fun _ _ a c => ah mR (a.ev rfl) (dR c (vs := [sL F Z G]) (k := 3) rfl 0) rfl) ?_))))))))))))
  obtain ⟨T, h6, H⟩ := bnd H
  refine ja [12] [ow F G 3 bK Z] (U := Unit) (fun u => (.tuple #[])) (fun u => T.length = Z.length) (fun u => [ow F G 3 bK T]) rfl (aH rfl bn) (fun _ => rfl) (wn rfl) rfl Tryz.call62 (aj rfl aL) (fun W hW hp hE => uh Z F G T h6 hE) ?_
  intro u hu
  have d6 := hu
  have a3 : T.length = Z.length := d6 --@phi
  have j1 : dM F T.length G := by rw [a3]; exact c6
  show Tr _ _ (uf _ 29 (.tuple #[])) (up _ 12 (ow F G 3 bK T)) _
  refine Tr.vJ (lf := [(0, sL d j f), (3, pV C), (14, sL d j f), (15, iv (j.length : Int)), (16, iv (c5 : Int)), (17, bV (decide ((c5 : Int) < (j.length : Int)))), (28, sL F T G), (29, (.tuple #[]))]) (le := [(2, ow d f 38 bq j), (3, bx C #[sL F T G] 96), (12, ow F G 3 bK T)]) (.cons rfl (.cons rfl (.cons rfl (.cons rfl (.cons rfl (.cons rfl (.cons (dJ rfl (by unfold sL; rw [a3])) (.r rfl)))))))) (.cons rfl (.cons (VI rfl (by unfold sL; rw [a3])) (.r rfl))) (ae (aa (ai (aG rfl (fun _ _ a c => ah mR (a.ev rfl) (dR c (vs := [sL F T G]) (k := 3) rfl 0) rfl) ?_))))
  obtain ⟨o, h7, H⟩ := bnd H
  refine ja [12] [ow F G 3 bK T] (U := (Option Addr × Nat)) (fun u => (sL u.1 o u.2)) (fun u => dM u.1 o.length u.2) (fun u => [ow u.1 u.2 3 bK o]) rfl (aH rfl bn) (fun _ => rfl) (wn rfl) rfl Tryz.call63 (aj rfl aL) (fun W hW hp hE => rF T F G o h7 hE) ?_
  intro u hu
  obtain ⟨g, i⟩ := u
  have e7 := hu
  have b4 : dM g o.length i := e7 --@phi
  dsimp only
  refine bJ 3 (cs := [sL g o i]) [sL g o i] (wn rfl) rfl rfl rfl rfl Rv rfl rfl rfl (ae (aa (ai (Tr.k rfl (bM 13 98 aS ?_)))))
  show Tr _ _ (uf _ 6 (sL none (([] : List aV)) 0)) _ _
  refine ae (aa (ai (Tr.k rfl (bM 14 38 bq ?_))))
  show Tr _ _ (uf _ 7 (sL none (([] : List aQ)) 0)) _ _
  refine ae (aa (ai (Tr.k rfl (ae (aa (az (ai (Tr.alloc 15 (wn rfl) rfl TN fun j2 => (bJ 15 (cs := [iv 0]) [iv 0] (wn rfl) rfl rfl rfl rfl zY rfl rfl rfl (ae (aa (Tr.block (EU 15 29 rfl rfl rfl (df (σ := Int × (List aV) × (List aQ) × Int × Nat × (Option Addr) × Nat × (Option Addr) × Nat) (fun m w s => gD N j o m s.1 s.2.1 s.2.2.1 s.2.2.2.1 = some r ∧ dM s.2.2.2.2.2.1 s.2.1.length s.2.2.2.2.2.2.1 ∧ dM s.2.2.2.2.2.2.2.1 s.2.2.1.length s.2.2.2.2.2.2.2.2) (fun s => [(0, sL d j f), (3, pV C), (6, sL s.2.2.2.2.2.1 s.2.1 s.2.2.2.2.2.2.1), (7, sL s.2.2.2.2.2.2.2.1 s.2.2.1 s.2.2.2.2.2.2.2.2), (8, iv s.2.2.2.1), (9, .pointer (some ⟨s.2.2.2.2.1, 0, none⟩))]) (fun s => [(2, ow d f 38 bq j), (3, bx C #[sL g o i] 96), (12, ow g i 3 bK o), (13, ow s.2.2.2.2.2.1 s.2.2.2.2.2.2.1 98 aS s.2.1), (14, ow s.2.2.2.2.2.2.2.1 s.2.2.2.2.2.2.2.2 38 bq s.2.2.1), (29, bx s.2.2.2.2.1 #[iv s.1] 3)]) N (0, ([] : List aV), ([] : List aQ), 0, j2, none, 0, none, 0) ⟨H, gL, gL⟩ (.r rfl) (.r rfl) (fun _ _ h => jQ (h.1)) ?_))))))))))))))
  intro w a4 f3 s hs
  obtain ⟨q, M, c4, d7, L, I, J, c0, c3⟩ := s
  obtain ⟨H, c7, k0⟩ := hs
  replace H : gD N j o (f3 + 1) q M c4 d7 = some r := H
  replace leB := leB.trans a4
  replace c7 : dM I M.length J := c7
  rw [gD.eq_2] at H
  dsimp only
  refine az (ai (aG rfl (fun _ _ a c => ah bT (a.ev rfl) (dR c (vs := [iv q]) (k := 29) rfl 0) rfl) (aC bv rfl rfl (aG rfl (fun _ _ a c => ah mR (a.ev rfl) (dR c (vs := [sL g o i]) (k := 3) rfl 0) rfl) (aT (bz nz) rfl (aC bg rfl rfl (ae (aa (aP rfl H (fun H => ?_) (fun H => ?_))))))))))
  ·refine aN (aa (az (Tr.block (ai (aA rfl (pK (vs := [pV C, pV L]) (wn rfl) rfl (aj rfl (aj rfl aL)) ?_))))))
   obtain ⟨a5, h8, H⟩ := bnd H
   refine ja [14] [ow c0 c3 38 bq c4] (U := (Option Addr × Nat)) (fun u => (sL u.1 a5 u.2)) (fun u => dM u.1 a5.length u.2) (fun u => [ow u.1 u.2 38 bq a5]) rfl (aH rfl bn) (fun _ => rfl) (wn rfl) rfl Tryz.call64 (aj rfl (aj rfl aL)) (fun W hW hp hE => uJ N c4 c0 c3 (fun z0 => mZ z0 o q) 65 [pV C, pV L] Tryz.call65 (fun w' he z0 y hy => Av z0 o g i ((hW.Qq (k := 12) rfl hp rfl).ext he) C (he.r _ (hW.EM (k := 3) rfl hp rfl)) (he.cells (hW.EM (k := 3) rfl hp rfl) (hW.H5 (k := 3) rfl)) q L (he.r _ (hW.EM (k := 29) rfl hp rfl)) (he.cells (hW.EM (k := 29) rfl hp rfl) (hW.H5 (k := 29) rfl)) y hy (HF.start _)) a5 h8 hE) ?_
   intro u hu
   obtain ⟨a8, a9⟩ := u
   have e8 := hu
   have d8 : dM a8 a5.length a9 := e8 --@phi
   dsimp only
   refine Tr.k rfl (ae (aa (az (Tr.block (df (σ := (List aQ) × Int × (Option Addr) × Nat) (fun m w s => jI j o q M (gD N j o f3) m s.1 s.2.1 = some r ∧ dM s.2.2.1 s.1.length s.2.2.2) (fun s => [(0, sL d j f), (3, pV C), (6, sL I M J), (7, sL s.2.2.1 s.1 s.2.2.2), (8, iv s.2.1), (9, pV L)]) (fun s => [(2, ow d f 38 bq j), (3, bx C #[sL g o i] 96), (12, ow g i 3 bK o), (13, ow I J 98 aS M), (14, ow s.2.2.1 s.2.2.2 38 bq s.1), (29, bx L #[iv q] 3)]) N (a5, d7, a8, a9) ⟨H, d8⟩ (.r rfl) (.r rfl) (fun _ _ h => jQ (h.1)) ?_)))))
   intro w f4 j8 s hs
   obtain ⟨K, b5, v, A⟩ := s
   obtain ⟨H, c8⟩ := hs
   replace H : jI j o q M (gD N j o f3) (j8 + 1) K b5 = some r := H
   replace a4 := a4.trans f4
   replace c8 : dM v K.length A := c8
   rw [jI.eq_2] at H
   dsimp only
   refine az (az (jb (by kernel_rfl) (by kernel_rfl) (dD rfl (dD rfl (fQ (bz sH) rfl (fO bg rfl rfl (dD rfl ?_)))))))
   obtain ⟨f5, b0, H⟩ := bnd H
   refine rz 11 [(0, sL d j f), (3, pV C), (6, sL I M J), (7, sL v K A), (8, iv b5), (9, pV L), (57, bV f5)] ?_ ?_
   ·cases e4 : (decide (b5 < (j.length : Int)))
    ·rw [e4] at b0
     rw [if_neg (by decide)] at b0
     have H := b0
     obtain rfl := oI H
     refine cZ rfl (cZ rfl (cZ rfl (cZ rfl (cZ rfl (cZ rfl (cZ rfl ?_))))))
     exact cZ rfl (cZ rfl (cZ rfl (fO bE rfl rfl (Tq.fin (.r rfl)))))
    ·rw [e4] at b0
     rw [if_pos rfl] at b0
     have H := b0
     refine kg run_move rfl (kg run_move rfl ?_)
     obtain ⟨k2, h9, H⟩ := bnd H
     obtain ⟨f6, f7, f8⟩ := aU h9
     refine Tq.x (fun _ _ a c => ak vk (a.ev rfl) a1 (a.ev rfl) f6 f7) (kg (ag rQ) rfl (Tq.x (fun _ _ a c => ah bT (a.ev rfl) (aF.drop (Ac mK (k := 2) c rfl f8) 1) rfl) (Tq.x (fun _ _ a c => ah mR (a.ev rfl) (dR c (vs := [sL g o i]) (k := 3) rfl 0) rfl) (Tq.x (fun _ _ a c => ah bT (a.ev rfl) (dR c (vs := [iv q]) (k := 29) rfl 0) rfl) ?_))))
     obtain ⟨k3, i0, H⟩ := bnd H
     obtain ⟨f9, g0, g1⟩ := aU i0
     refine Tq.x (fun _ _ a c => ak kS (a.ev rfl) b4 (a.ev rfl) f9 g0) (Tq.x (fun _ _ a c => ah bT (a.ev rfl) (Ac je (k := 12) c rfl g1) rfl) (ug oH rfl rfl (fO bD rfl rfl ?_)))
     obtain rfl := oI H
     exact Tq.fin (.r rfl)
   ·refine iE (aa (aP rfl H (fun H => ?_) (fun H => ?_)))
    ·refine aN (aa (Tr.block (aI (aA rfl (aA rfl (aA rfl ?_))))))
     obtain ⟨E, i1, H⟩ := bnd H
     obtain ⟨g2, g3, g4⟩ := aU i1
     refine aG rfl (fun _ _ a c => ak vk (a.ev rfl) a1 (a.ev rfl) g2 g3) (aG rfl (fun _ _ a c => aM (cs := [iv E.X0, iv E.Y0, iv E.X1, iv E.Y1]) tV mI (a.ev rfl) (aF.take (Ac mK (k := 2) c rfl g4) 4) rfl) (dS 32 (e := 38) (vs := [(0, .agg #[iv E.X0, iv E.Y0, iv E.X1, iv E.Y1])]) (cs := [iv E.X0, iv E.Y0, iv E.X1, iv E.Y1]) (wn rfl) rfl (bH rfl eF) (by kernel_rfl) fun k4 => ?_))
     obtain ⟨j3, i2, H⟩ := bnd H
     exact Tr.append 14 (t := bq) (l := K) (l2 := [E]) (wn rfl) rfl rfl rfl rfl (fun W hW => ⟨[[iv E.X0, iv E.Y0, iv E.X1, iv E.Y1]], (.cons ⟨(), trivial, rfl⟩ .nil), dR hW (vs := [iv E.X0, iv E.Y0, iv E.X1, iv E.Y1]) (k := 32) rfl 0⟩) sH mI La (by decide) Mt rfl i2 fun i3 i4 g5 => (aA rfl (aC bv rfl rfl (Tr.k rfl (Tr.k rfl (ae (aJ (aD f4 (j3, (bG (b5 + 1)), i3, i4) ⟨H, g5⟩ (.r rfl) (.r rfl))))))))
    ·refine bW (aB (aB (aR (aa (tZ 13 [(11, (ow v A 38 bq K).S)] [] (by kernel_rfl) (by kernel_rfl) fun b1 j4 j7 => (dI 0 (by kernel_rfl) rfl (wn rfl) rfl (by kernel_rfl) (fun _ _ a => run_move (a.ev rfl)) rfl (nu 1 [(68, sL g o i)] [11] false (by kernel_rfl) rfl rfl (by kernel_rfl) (fun W W' c hsW hk => HF.yN (le := [(3, bx C #[sL g o i] 96)]) (ks := [(14, (ow v A 38 bq K).S)]) (s0 := b1) false c hk (fun h => absurd h (by decide)) (.r rfl) (fun b hb => hb.elim (fun ⟨p, hp, hf, hb⟩ => by simp only [List.mem_cons, List.not_mem_nil, or_false] at hp; rcases hp with rfl; exact .inl ⟨_, List.mem_cons_self, hb⟩) (fun hb => absurd hb.1 (by decide))) (List.forall_mem_cons.2 ⟨fun b hb => hb, (fun _ h => nomatch h)⟩) rfl) ?_ rfl rfl ?_)))))))
     ·exact bi rfl (fun _ _ a c => ah mR (a.ev rfl) (dR c (vs := [sL g o i]) (k := 3) rfl 0) rfl) (Tq.fin (.r rfl))
     refine nu 2 [(69, iv q)] [11] false (by kernel_rfl) rfl rfl (by kernel_rfl) (fun W W' c hsW hk => HF.yN (le := [(29, bx L #[iv q] 3)]) (ks := [(14, (ow v A 38 bq K).S)]) (s0 := b1) false c hk (fun h => absurd h (by decide)) (.r rfl) (fun b hb => hb.elim (fun ⟨p, hp, hf, hb⟩ => by simp only [List.mem_cons, List.not_mem_nil, or_false] at hp; rcases hp with rfl; exact .inl ⟨_, List.mem_cons_self, hb⟩) (fun hb => absurd hb.1 (by decide))) (List.forall_mem_cons.2 ⟨fun b hb => hb, (fun _ h => nomatch h)⟩) rfl) ?_ rfl rfl ?_
     ·exact bi rfl (fun _ _ a c => ah bT (a.ev rfl) (dR c (vs := [iv q]) (k := 29) rfl 0) rfl) (Tq.fin (.r rfl))
     obtain ⟨b6, i5, H⟩ := bnd H
     obtain ⟨g6, g7, g8⟩ := aU i5
     refine dI 3 (by kernel_rfl) rfl (wn rfl) rfl (by kernel_rfl) (fun _ _ a => ak kS (a.ev rfl) b4 (a.ev rfl) g6 g7) rfl (nu 4 [(71, iv b6)] [11] false (by kernel_rfl) rfl rfl (by kernel_rfl) (fun W W' c hsW hk => HF.yN (le := [(12, ow g i 3 bK o)]) (ks := [(14, (ow v A 38 bq K).S)]) (s0 := b1) false c hk (fun h => absurd h (by decide)) (.r rfl) (fun b hb => hb.elim (fun ⟨p, hp, hf, hb⟩ => by simp only [List.mem_cons, List.not_mem_nil, or_false] at hp; rcases hp with rfl; exact .inl ⟨_, List.mem_cons_self, hb⟩) (fun hb => absurd hb.1 (by decide))) (List.forall_mem_cons.2 ⟨fun b hb => hb, (fun _ h => nomatch h)⟩) rfl) ?_ rfl rfl ?_)
     ·exact bi rfl (fun _ _ a c => ah bT (a.ev rfl) (Ac je (k := 12) c rfl g8) rfl) (Tq.fin (.r rfl))
     refine nu 5 [(72, sL g o i)] [11] false (by kernel_rfl) rfl rfl (by kernel_rfl) (fun W W' c hsW hk => HF.yN (le := [(3, bx C #[sL g o i] 96)]) (ks := [(14, (ow v A 38 bq K).S)]) (s0 := b1) false c hk (fun h => absurd h (by decide)) (.r rfl) (fun b hb => hb.elim (fun ⟨p, hp, hf, hb⟩ => by simp only [List.mem_cons, List.not_mem_nil, or_false] at hp; rcases hp with rfl; exact .inl ⟨_, List.mem_cons_self, hb⟩) (fun hb => absurd hb.1 (by decide))) (List.forall_mem_cons.2 ⟨fun b hb => hb, (fun _ h => nomatch h)⟩) rfl) ?_ rfl rfl ?_
     ·exact bi rfl (fun _ _ a c => ah mR (a.ev rfl) (dR c (vs := [sL g o i]) (k := 3) rfl 0) rfl) (Tq.fin (.r rfl))
     refine nu 6 [(73, iv q)] [11] false (by kernel_rfl) rfl rfl (by kernel_rfl) (fun W W' c hsW hk => HF.yN (le := [(29, bx L #[iv q] 3)]) (ks := [(14, (ow v A 38 bq K).S)]) (s0 := b1) false c hk (fun h => absurd h (by decide)) (.r rfl) (fun b hb => hb.elim (fun ⟨p, hp, hf, hb⟩ => by simp only [List.mem_cons, List.not_mem_nil, or_false] at hp; rcases hp with rfl; exact .inl ⟨_, List.mem_cons_self, hb⟩) (fun hb => absurd hb.1 (by decide))) (List.forall_mem_cons.2 ⟨fun b hb => hb, (fun _ h => nomatch h)⟩) rfl) ?_ rfl rfl ?_
     ·exact bi rfl (fun _ _ a c => ah bT (a.ev rfl) (dR c (vs := [iv q]) (k := 29) rfl 0) rfl) (Tq.fin (.r rfl))
     refine dI 7 (by kernel_rfl) rfl (wn rfl) rfl (by kernel_rfl) (fun _ _ a => bv (a.ev rfl) (a.ev rfl)) rfl ?_
     obtain ⟨b7, i6, H⟩ := bnd H
     obtain ⟨g9, h0, h1⟩ := aU i6
     refine dI 8 (by kernel_rfl) rfl (wn rfl) rfl (by kernel_rfl) (fun _ _ a => ak kS (a.ev rfl) b4 (a.ev rfl) g9 h0) rfl (nu 9 [(76, iv b7)] [11] false (by kernel_rfl) rfl rfl (by kernel_rfl) (fun W W' c hsW hk => HF.yN (le := [(12, ow g i 3 bK o)]) (ks := [(14, (ow v A 38 bq K).S)]) (s0 := b1) false c hk (fun h => absurd h (by decide)) (.r rfl) (fun b hb => hb.elim (fun ⟨p, hp, hf, hb⟩ => by simp only [List.mem_cons, List.not_mem_nil, or_false] at hp; rcases hp with rfl; exact .inl ⟨_, List.mem_cons_self, hb⟩) (fun hb => absurd hb.1 (by decide))) (List.forall_mem_cons.2 ⟨fun b hb => hb, (fun _ h => nomatch h)⟩) rfl) ?_ rfl rfl ?_)
     ·exact bi rfl (fun _ _ a c => ah bT (a.ev rfl) (Ac je (k := 12) c rfl h1) rfl) (Tq.fin (.r rfl))
     refine dE 10 [(77, sL v K A)] (by kernel_rfl) rfl rfl (by kernel_rfl) ?_ rfl rfl ?_
     ·exact dD rfl (Tq.fin (.r rfl))
     obtain ⟨D, i7, H⟩ := bnd H
     refine Dr.one 11 (by kernel_rfl) (PT 11 [14, 33] [ow v A 38 bq K, emp] (U := (Option Addr × Nat)) (fun u => (sL u.1 D.1 u.2)) (fun u => dM u.1 D.1.length u.2 ∧ D.2.length = K.length) (fun u => [ow v A 38 bq D.2, ow u.1 u.2 3 bK D.1]) rfl (aH rfl (aH rfl bn)) (fun _ => rfl) (fun b ⟨e, he, hS⟩ => by simp only [List.mem_cons, List.not_mem_nil, or_false] at he; rcases he with rfl | rfl; exact .inl ⟨_, List.mem_cons_self, rfl, hS⟩; exact hS.elim) rfl (wn rfl) rfl Tryz.call67 (aj rfl aL) (fun W hW hp hE => y8 K v A D i7 hE) ?_)
     intro u hu j9
     obtain ⟨P, Q⟩ := u
     obtain ⟨e9, d9⟩ := hu
     have j5 : dM P D.1.length Q := e9
     have a6 : D.2.length = K.length := d9
     have d2 : dM v D.2.length A := by rw [a6]; exact c8
     dsimp only
     refine Dr.use (lf := [(0, sL d j f), (3, pV C), (6, sL I M J), (7, sL v D.2 A), (8, iv b5), (9, pV L), (57, bV f5), (67, sL I M J), (68, sL g o i), (69, iv q), (70, .pointer (some ⟨mV g, pW g + (q).toNat * 1, none⟩)), (71, iv b6), (72, sL g o i), (73, iv q), (74, iv (bG (q + 1))), (75, .pointer (some ⟨mV g, pW g + ((bG (q + 1))).toNat * 1, none⟩)), (76, iv b7), (77, sL v D.2 A), (78, sL P D.1 Q)]) (le := [(2, ow d f 38 bq j), (3, bx C #[sL g o i] 96), (12, ow g i 3 bK o), (13, ow I J 98 aS M), (14, ow v A 38 bq D.2), (29, bx L #[iv q] 3), (33, ow P Q 3 bK D.1)]) ?_ rfl (.cons rfl (.cons rfl (.cons rfl (.cons (dJ rfl (by unfold sL; rw [a6])) (.cons rfl (.cons rfl (.cons rfl (.cons rfl (.cons rfl (.cons rfl (.cons rfl (.cons rfl (.cons rfl (.cons rfl (.cons rfl (.cons rfl (.cons rfl (.cons (dJ rfl (by unfold sL; rw [a6])) (.r rfl))))))))))))))))))) (.r rfl)
     refine dE 12 [(79, .agg #[iv b6, iv b7, sL P D.1 Q])] (by kernel_rfl) rfl rfl (by kernel_rfl) ?_ rfl rfl ?_
     ·exact Br (vs := [(0, iv b6), (1, iv b7), (2, sL P D.1 Q)]) (cs := [iv b6, iv b7, sL P D.1 Q]) (wn rfl) rfl (bH rfl (bH rfl (bH rfl eF))) (by kernel_rfl) (Tq.fin (.r rfl))
     refine wy (by kernel_rfl) (Tr.freeze 33 rfl fun w i8 c9 => ?_)
     replace a4 := a4.trans i8
     obtain ⟨a7, i9, H⟩ := bnd H
     refine fq [13] [ow I J 98 aS M] (U := (Option Addr × Nat)) (fun u => (sL u.1 a7 u.2)) (fun O W u => dM u.1 a7.length u.2) (fun u => [ow u.1 u.2 98 aS a7]) rfl (aH rfl bn) (fun _ => rfl) (wn rfl) rfl Tryz.call66 (aj rfl (aj rfl aL)) (fun W hW hp hE => qp M I J (aV.mk b6 b7 D.1) P Q (c9.qK (hW.gM hp)) a7 i9 hE) ?_
     intro w u e5 hu
     obtain ⟨b2, b3⟩ := u
     have f1 := hu
     replace c9 := c9.le e5
     replace a4 := a4.trans e5
     have e0 : dM b2 a7.length b3 := f1 --@phi
     dsimp only
     refine Tr.k rfl (ae (aJ (aa (az (ai (aG rfl (fun _ _ a c => ah bT (a.ev rfl) (dR c (vs := [iv q]) (k := 29) rfl 0) rfl) (ae (aa (aI (Tr.alloc 34 (wn rfl) rfl TN fun j6 => (bJ 34 (cs := [iv q]) [iv q] (wn rfl) rfl rfl rfl rfl zY rfl rfl rfl (ae (aa (aI (aG rfl (fun _ _ a c => ah bT (a.ev rfl) (dR c (vs := [iv q]) (k := 34) rfl 0) rfl) (aC bv rfl rfl (bJ 34 (cs := [iv (bG (q + 1))]) [iv (bG (q + 1))] (wn rfl) rfl rfl rfl rfl zY rfl rfl rfl (ae (PO 29 (EU 34 29 rfl rfl rfl ?_))))))))))))))))))))
     exact aD a4 ((bG (q + 1)), a7, D.2, b5, j6, b2, b3, v, A) ⟨H, e0, d2⟩ (.r rfl) (.r rfl)
  ·refine bW (aB (aB (aR (aa (ai (aA rfl (Tr.k rfl (ae (aa (aW ?_))))))))))
   obtain rfl := oI H
   exact Tr.out (m := [sL I M J]) [] (cO rfl bO) (fun W hW => ⟨w, (I, J), leB, rfl, c7, hW.pick (ks := [13]) (by decide) (aH rfl bn)⟩)
 | cons B X =>
  rw [jJ.eq_2] at H
  refine ai (aC bg rfl rfl (ae (aa (az (eP rfl (fJ a2) (aN (aa (az (Tr.block (ai (aG rfl (fun _ _ a c => ak vk (a.ev rfl) a1 (a.ev rfl) (Int.natCast_nonneg _) (bF a2)) (aG rfl (fun _ _ a c => aM (cs := [iv B.X0, iv B.Y0, iv B.X1, iv B.Y1]) tV mI (a.ev rfl) (aF.take (Ac mK (k := 2) c rfl (gy a2)) 4) rfl) (Tr.alloc 35 (wn rfl) rfl x8 fun k5 => (bJ 35 (cs := [iv B.X0, iv B.Y0, iv B.X1, iv B.Y1]) [iv B.X0, iv B.Y0, iv B.X1, iv B.Y1] (wn rfl) rfl rfl rfl rfl mI rfl rfl rfl (ae (aa (aI (aG rfl (fun _ _ a c => ah mR (a.ev rfl) (dR c (vs := [sL F Z G]) (k := 3) rfl 0) rfl) (aT (ag rQ) rfl (aG rfl (fun _ _ a c => ah bT (a.ev rfl) (dR c (vs := [iv B.X0, iv B.Y0, iv B.X1, iv B.Y1]) (k := 35) rfl 1) rfl) ?_))))))))))))))))))))
  refine aT (ag Bn) rfl (aG rfl (fun _ _ a c => ah bT (a.ev rfl) (dR c (vs := [iv B.X0, iv B.Y0, iv B.X1, iv B.Y1]) (k := 35) rfl 3) rfl) (dS 36 (e := 3) (vs := [(0, iv B.Y0), (1, iv B.Y1)]) (cs := [iv B.Y0, iv B.Y1]) (wn rfl) rfl (bH rfl (bH rfl eF)) (by kernel_rfl) fun k6 => ?_))
  obtain ⟨e3, j0, H⟩ := bnd H
  exact Tr.append 12 (t := bK) (l := Z) (l2 := [B.Y0, B.Y1]) (wn rfl) rfl rfl rfl rfl (fun W hW => ⟨[[iv B.Y0], [iv B.Y1]], (.cons ⟨(), trivial, rfl⟩ (.cons ⟨(), trivial, rfl⟩ .nil)), dR hW (vs := [iv B.Y0, iv B.Y1]) (k := 36) rfl 0⟩) nz zY ML (by decide) Nn rfl j0 fun d0 d1 h2 => (bJ 3 (cs := [sL d0 e3 d1]) [sL d0 e3 d1] (wn rfl) rfl rfl rfl rfl Rv rfl rfl rfl (ae (aJ (aa (aI (aC bv rfl rfl (aA rfl (ae (aD f2 (X, (c5 + 1), e3, d0, d1) ⟨rfl, fe a2, bF a2, H, h2⟩ (.cons rfl (.cons rfl (.cons rfl (.cons rfl (.cons (congrArg (fun z => some (Value.int .i64 z)) (eZ a2 a1)) .nil))))) (.r rfl))))))))))

theorem sI (N : Nat) {w : Bs} (p0 : (List aV)) (A : Option Addr) (B : Nat) (F : Sl w.R w.W aS A B p0) (r : (List aQ)) (H : kC N p0 = some r) (hE : HF w w.W (iF [emp])) : Calls Tryz.prog 25 [sL A p0 B].toArray w.W fun e W' => ∃ u : (Option Addr × Nat), e = .returned (sL u.1 r u.2) ∧ (dM u.1 r.length u.2) ∧ HF w W' (iF [ow u.1 u.2 38 bq r]) := by
 unfold kC at H
 have leB := Bs.Le.refl w
 refine aZ (n := 41) Tryz.func25 rfl rfl rfl hE (ai (Tr.k rfl (bM 1 38 bq ?_)))
 show Tr _ _ (uf _ 2 (sL none (([] : List aQ)) 0)) _ _
 refine ae (aa (ai (Tr.k rfl (bM 2 38 bq ?_))))
 show Tr _ _ (uf _ 3 (sL none (([] : List aQ)) 0)) _ _
 refine ae (aa (az (ai (aA rfl (aT (bz sG) rfl (aA rfl (ae (aa (Tr.block (df (σ := (List aV) × Nat × (List aQ) × (Option Addr) × Nat) (fun m w s => m = s.1.length + 1 ∧ s.1 = List.drop s.2.1 p0 ∧ s.2.1 ≤ p0.length ∧ fD N s.1 s.2.1 s.2.2.1 = some r ∧ dM s.2.2.2.1 s.2.2.1.length s.2.2.2.2) (fun s => [(3, sL s.2.2.2.1 s.2.2.1 s.2.2.2.2), (7, sL A p0 B), (8, iv (p0.length : Int)), (9, iv (s.2.1 : Int))]) (fun s => [(2, ow s.2.2.2.1 s.2.2.2.2 38 bq s.2.2.1)]) (p0.length + 1) (p0, 0, ([] : List aQ), none, 0) ⟨rfl, rfl, Nat.zero_le _, H, gL⟩ (.r rfl) (.r rfl) (fun _ _ h => absurd h.1 (by simp)) ?_))))))))))
 intro w O m s hs
 obtain ⟨j, K, L, I, J⟩ := s
 obtain ⟨S, G, b4, H, M⟩ := hs
 replace G : j = List.drop K p0 := G
 replace H : fD N j K L = some r := H
 replace S : m + 1 = j.length + 1 := S
 replace F := F.nL O
 replace leB := leB.trans O
 replace M : dM I L.length J := M
 obtain rfl : m = j.length := by omega
 clear S
 dsimp only
 cases j with
 | nil =>
  rw [fD.eq_1] at H
  refine ai (aC bg rfl rfl (ae (aa (az (eQ rfl (dZ G) (bW (aB (aB (aR (aa (ai (aA rfl (Tr.k rfl (ae (aa (aW ?_))))))))))))))))
  obtain rfl := oI H
  exact Tr.out (m := [sL I L J]) [] (cO rfl bO) (fun W hW => ⟨(I, J), rfl, M, HF.zK leB (hW.pick (ks := [2]) (by decide) (aH rfl bn)) ⟨qI _ _ _ _ qd, trivial⟩⟩)
 | cons d j =>
  rw [fD.eq_2] at H
  refine ai (aC bg rfl rfl (ae (aa (az (eP rfl (fJ G) (aN (aa (az (Tr.block (ai ?_))))))))))
  obtain ⟨b1, V, U, X⟩ := (F).el (gy G)
  obtain ⟨f, g⟩ := b1
  have i := U
  replace i : Sl w.R w.W bK f g d.Xs := i
  refine aG rfl (fun _ _ a c => ak oG (a.ev rfl) F.form (a.ev rfl) (Int.natCast_nonneg _) (bF G)) (aG rfl (fun _ _ a c => aM (cs := [iv d.Y0, iv d.Y1, sL f d.Xs g]) JE zS (a.ev rfl) (aF.take (ut V X c) 3) rfl) (Tr.alloc 11 (wn rfl) rfl Lb fun v => (bJ 11 (cs := [iv d.Y0, iv d.Y1, sL f d.Xs g]) [iv d.Y0, iv d.Y1, sL f d.Xs g] (wn rfl) rfl rfl rfl rfl zS rfl rfl rfl (ae (aa (ai (Tr.k rfl (ae (aa (Tr.block (df (σ := (List aQ) × Int × (Option Addr) × Nat) (fun m w s => gY (fD N j (K + 1)) d m s.1 s.2.1 = some r ∧ dM s.2.2.1 s.1.length s.2.2.2) (fun s => [(3, sL s.2.2.1 s.1 s.2.2.2), (5, pV v), (6, iv s.2.1), (7, sL A p0 B), (8, iv (p0.length : Int)), (9, iv (K : Int))]) (fun s => [(2, ow s.2.2.1 s.2.2.2 38 bq s.1), (11, bx v #[iv d.Y0, iv d.Y1, sL f d.Xs g] 98)]) N (L, 0, I, J) ⟨H, M⟩ (.r rfl) (.r rfl) (fun _ _ h => jQ (h.1)) ?_)))))))))))
  intro w P b3 s hs
  obtain ⟨E, y, C, D⟩ := s
  obtain ⟨H, Q⟩ := hs
  replace H : gY (fD N j (K + 1)) d (b3 + 1) E y = some r := H
  replace i := i.nL P
  replace F := F.nL P
  replace O := O.trans P
  replace Q : dM C E.length D := Q
  rw [gY.eq_2] at H
  dsimp only
  refine az (ai (aA rfl (aT (ag lg) rfl (aG rfl (fun _ _ a c => ah mR (a.ev rfl) (dR c (vs := [iv d.Y0, iv d.Y1, sL f d.Xs g]) (k := 11) rfl 2) rfl) (aT (bz nz) rfl (aC bg rfl rfl (ae (aa (aP rfl H (fun H => ?_) (fun H => ?_))))))))))
  ·refine aN (aa (az (Tr.block ?_)))
   obtain ⟨o, a6, H⟩ := bnd H
   obtain ⟨Z, a0, a1⟩ := aU a6
   obtain ⟨q, a7, H⟩ := bnd H
   obtain ⟨a2, a3, a4⟩ := aU a7
   refine JK 18 [(17, .makeFunc (.func 0) #[] #[.tmp 36])] [(17, ⟨37, 14, .func (.func 0) #[] #[.agg #[iv o, iv d.Y0, iv q, iv d.Y1]], fun b => .slice (some ⟨b, 0, none⟩) 1 1, fun b => bx b #[iv o, iv d.Y0, iv q, iv d.Y1] 38⟩)] [(3, sL C E D), (5, pV v), (6, iv y), (7, sL A p0 B), (8, iv (p0.length : Int)), (9, iv (K : Int)), (13, iv y), (14, .pointer (some ⟨v, 2, none⟩)), (15, sL f d.Xs g), (16, iv (d.Xs.length : Int)), (17, bV (decide (y < (d.Xs.length : Int)))), (20, sL C E D), (21, .pointer (some ⟨v, 2, none⟩)), (22, sL f d.Xs g), (23, iv y), (24, .pointer (some ⟨mV f, pW f + (y).toNat * 1, none⟩)), (25, iv o), (26, pV v), (27, iv d.Y0), (28, .pointer (some ⟨v, 2, none⟩)), (29, sL f d.Xs g), (30, iv y), (31, iv (bG (y + 1))), (32, .pointer (some ⟨mV f, pW f + ((bG (y + 1))).toNat * 1, none⟩)), (33, iv q), (34, .pointer (some ⟨v, 1, none⟩)), (35, iv d.Y1), (36, .agg #[iv o, iv d.Y0, iv q, iv d.Y1]), (37, .func (.func 0) #[] #[.agg #[iv o, iv d.Y0, iv q, iv d.Y1]])] (by kernel_rfl) (by kernel_rfl) (by kernel_rfl) (by kernel_rfl) (by kernel_rfl) (by kernel_rfl) (by kernel_rfl) (uU (Tc (vs := [(0, .agg #[iv o, iv d.Y0, iv q, iv d.Y1])]) rfl rfl rfl (by kernel_rfl)) wQ) (uU rfl wQ) (uU rfl wQ) ?_ ?_
   ·refine dD rfl (fQ (ag lg) rfl (bi rfl (fun _ _ a c => ah mR (a.ev rfl) (dR c (vs := [iv d.Y0, iv d.Y1, sL f d.Xs g]) (k := 11) rfl 2) rfl) (dD rfl (bi rfl (fun _ _ a c => ak kS (a.ev rfl) i.form (a.ev rfl) Z a0) (bi rfl (fun _ _ a c => ah bT (a.ev rfl) (uZ je i a1 c) rfl) (fQ (ag pR) rfl (bi rfl (fun _ _ a c => ah bT (a.ev rfl) (dR c (vs := [iv d.Y0, iv d.Y1, sL f d.Xs g]) (k := 11) rfl 0) rfl) (fQ (ag lg) rfl (bi rfl (fun _ _ a c => ah mR (a.ev rfl) (dR c (vs := [iv d.Y0, iv d.Y1, sL f d.Xs g]) (k := 11) rfl 2) rfl) (dD rfl (fO bv rfl rfl (bi rfl (fun _ _ a c => ak kS (a.ev rfl) i.form (a.ev rfl) a2 a3) (bi rfl (fun _ _ a c => ah bT (a.ev rfl) (uZ je i a4 c) rfl) ?_)))))))))))))
    exact fQ (ag nW) rfl (bi rfl (fun _ _ a c => ah bT (a.ev rfl) (dR c (vs := [iv d.Y0, iv d.Y1, sL f d.Xs g]) (k := 11) rfl 1) rfl) (Br (vs := [(0, iv o), (1, iv d.Y0), (2, iv q), (3, iv d.Y1)]) (cs := [iv o, iv d.Y0, iv q, iv d.Y1]) (wn rfl) rfl (bH rfl (bH rfl (bH rfl (bH rfl eF)))) (by kernel_rfl) (Gn (vs := [.agg #[iv o, iv d.Y0, iv q, iv d.Y1]]) (wn rfl) rfl (aj rfl aL) (Tq.fin (.r rfl)))))
   ·intro T
    refine Tr.vJ (lf := [(5, pV v), (6, iv y), (7, sL A p0 B), (8, iv (p0.length : Int)), (9, iv (K : Int)), (20, sL C E D), (37, .slice (some ⟨(T 17), 0, none⟩) 1 1)]) (le := [(2, ow C D 38 bq E), (11, bx v #[iv d.Y0, iv d.Y1, sL f d.Xs g] 98), (14, bx (T 17) #[iv o, iv d.Y0, iv q, iv d.Y1] 38)]) (.r rfl) (.r rfl) ?_
    obtain ⟨b2, a8, H⟩ := bnd H
    exact Tr.append 2 (t := bq) (l := E) (l2 := [(aQ.mk o d.Y0 q d.Y1)]) (wn rfl) rfl rfl rfl rfl (fun W hW => ⟨[[iv o, iv d.Y0, iv q, iv d.Y1]], (.cons ⟨(), trivial, rfl⟩ .nil), dR hW (vs := [iv o, iv d.Y0, iv q, iv d.Y1]) (k := 14) rfl 0⟩) sH mI La (by decide) Mt rfl a8 fun a9 b0 a5 => (Tr.k rfl (ae (aJ (aa (aI (aA rfl (aC bv rfl rfl (Tr.k rfl (ae (aD P (b2, (bG (y + 2)), a9, b0) ⟨H, a5⟩ (.r rfl) (.r rfl)))))))))))
  ·exact bW (aB (aB (aR (aJ (aa (aI (aC bv rfl rfl (aA rfl (ae (aD O (j, (K + 1), E, C, D) ⟨rfl, fe G, bF G, H, Q⟩ (.cons rfl (.cons rfl (.cons rfl (.cons (congrArg (fun z => some (Value.int .i64 z)) (eZ G F.form)) .nil)))) (.r rfl)))))))))))

theorem rX {w : Bs} (p0 : (List aQ)) (g : Option Addr) (i : Nat) (f : Sl w.R w.W bq g i p0) (p1 : (List aQ)) (j : Option Addr) (l : Nat) (o : Sl w.R w.W bq j l p1) (r : Bool) (H : jd p0 p1 = some r) (hE : HF w w.W E0) : Calls Tryz.prog 11 [sL g p0 i, sL j p1 l].toArray w.W fun e W' => e = .returned (bV r) ∧ HF w W' E0 := by
 unfold jd at H
 have leB := Bs.Le.refl w
 refine aZ (n := 26) Tryz.func11 rfl rfl rfl hE (ai (Tr.k rfl (ae (aa (az (ai (aA rfl (aT (bz sH) rfl (aA rfl (aT (bz sH) rfl (aC jD rfl rfl (ae (aa (aP rfl H (fun H => ?_) (fun H => ?_)))))))))))))))
 ·refine ai (Tr.k rfl (ae (aa (aW (aK ?_)))))
  obtain rfl := oI H
  exact dQ leB
 ·refine aN (aa (az (ai (aA rfl (aT (bz sH) rfl (aA rfl (ae (aa (Tr.block (df (σ := (List aQ) × Nat) (fun m w s => m = s.1.length + 1 ∧ s.1 = List.drop s.2 p0 ∧ s.2 ≤ p0.length ∧ gQ p1 s.1 s.2 = some r) (fun s => [(0, sL g p0 i), (1, sL j p1 l), (12, iv (p0.length : Int)), (13, iv (s.2 : Int))]) (fun s => []) (p0.length + 1) (p0, 0) ⟨rfl, rfl, Nat.zero_le _, H⟩ (.r rfl) .nil (fun _ _ h => absurd h.1 (by simp)) ?_))))))))))
  intro w t m s hs
  obtain ⟨b, y⟩ := s
  obtain ⟨v, d, E, H⟩ := hs
  replace d : b = List.drop y p0 := d
  replace H : gQ p1 b y = some r := H
  replace v : m + 1 = b.length + 1 := v
  replace f := f.nL t
  replace o := o.nL t
  replace leB := leB.trans t
  obtain rfl : m = b.length := by omega
  clear v
  dsimp only
  cases b with
  | nil =>
   rw [gQ.eq_1] at H
   refine ai (aC bg rfl rfl (ae (aa (az (eQ rfl (dZ d) (bW (aB (aB (aR (aa (ai (Tr.k rfl (ae (aa (aW ?_)))))))))))))))
   obtain rfl := oI H
   exact dQ leB
  | cons u b =>
   rw [gQ.eq_2] at H
   refine ai (aC bg rfl rfl (ae (aa (az (eP rfl (fJ d) (aN (aa (az (Tr.block (ai (aA rfl (Tr.k rfl (ae (aa (az (jb (by kernel_rfl) (by kernel_rfl) (dD rfl (dD rfl (bi rfl (fun _ _ a c => ak vk (a.ev rfl) f.form (a.ev rfl) (Int.natCast_nonneg _) (bF d)) (bi rfl (fun _ _ a c => aM (cs := [iv u.X0, iv u.Y0, iv u.X1, iv u.Y1]) tV mI (a.ev rfl) (aF.take (uZ mK f (gy d) c) 4) rfl) (dD rfl (dD rfl ?_))))))))))))))))))))))
   obtain ⟨q, D, H⟩ := bnd H
   obtain ⟨A, B, C⟩ := aU D
   refine bi rfl (fun _ _ a c => ak vk (a.ev rfl) o.form (a.ev rfl) A B) (bi rfl (fun _ _ a c => aM (cs := [iv q.X0, iv q.Y0, iv q.X1, iv q.Y1]) tV mI (a.ev rfl) (aF.take (uZ mK o C c) 4) rfl) (fO (Kb u q) rfl rfl (iE (aa (aP rfl H (fun H => ?_) (fun H => ?_))))))
   ·refine ai (Tr.k rfl (ae (aa (aW (bL (aK (aK (bL (aK ?_)))))))))
    obtain rfl := oI H
    exact dQ leB
   ·exact aN (aJ (aa (aI (aC bv rfl rfl (aA rfl (ae (aD t (b, (y + 1)) ⟨rfl, fe d, bF d, H⟩ (.cons rfl (.cons rfl (.cons rfl (.cons (congrArg (fun z => some (Value.int .i64 z)) (eZ d f.form)) .nil)))) .nil)))))))

theorem xX (N : Nat) {w : Bs} (p0 : (List aQ)) (g : Option Addr) (j : Nat) (l : Sl w.R w.W bq g j p0) (r : Int) (H : mh N p0 = some r) (hE : HF w w.W E0) : Calls Tryz.prog 31 [sL g p0 j].toArray w.W fun e W' => e = .returned (iv r) ∧ HF w W' E0 := by
 unfold mh at H
 have leB := Bs.Le.refl w
 refine aZ (n := 52) Tryz.func31 rfl rfl rfl hE (ai (Tr.k rfl (ae (aa (az (ai (aA rfl ?_)))))))
 obtain ⟨L, Z, H⟩ := bnd H
 refine di (r := (iv L)) (wn rfl) rfl Tryz.call58 (aj rfl aL) (fun W hW => yt p0 g j (l.ext hW.cB) L Z (HF.start _)) (Tr.k rfl (ae (aa (ai (aA rfl (aC jD rfl rfl (ae (aa (aP rfl H (fun H => ?_) (fun H => ?_))))))))))
 ·refine ai (aA rfl (Tr.k rfl (ae (aa (aW (aK ?_))))))
  obtain rfl := oI H
  exact dQ leB
 ·refine aN (aa (az (ai (Tr.k rfl (ae (aa (Tr.block (df (σ := Int) (fun m w s => eX N p0 m s = some r) (fun s => [(0, sL g p0 j), (4, iv s)]) (fun s => []) N 1 H (.r rfl) .nil (fun _ _ h => jQ (h)) ?_))))))))
  intro w F a9 i hs
  have H := hs
  replace H : eX N p0 (a9 + 1) i = some r := H
  replace l := l.nL F
  replace leB := leB.trans F
  rw [eX.eq_2] at H
  show Tr _ _ (LF [(0, sL g p0 j), (4, iv i)]) (LE []) _
  refine az (ai (aA rfl (aA rfl (aT (bz sH) rfl (aC bg rfl rfl (ae (aa (aP rfl H (fun H => ?_) (fun H => ?_)))))))))
  ·refine aN (aa (az (Tr.block (az (tZ 12 [] [11] (by kernel_rfl) (by kernel_rfl) fun D G a8 => (dE 0 [(18, sL g p0 j)] (by kernel_rfl) rfl rfl (by kernel_rfl) ?_ rfl rfl ?_))))))
   ·exact dD rfl (Tq.fin (.r rfl))
   refine dE 1 [(19, iv i)] (by kernel_rfl) rfl rfl (by kernel_rfl) ?_ rfl rfl ?_
   ·exact dD rfl (Tq.fin (.r rfl))
   refine dE 2 [(20, iv (bG (i - 1)))] (by kernel_rfl) rfl rfl (by kernel_rfl) ?_ rfl rfl ?_
   ·exact fO gH rfl rfl (Tq.fin (.r rfl))
   obtain ⟨d, a0, H⟩ := bnd H
   obtain ⟨M, P, Q⟩ := aU a0
   refine dE 3 [(21, .pointer (some ⟨mV g, pW g + ((bG (i - 1))).toNat * 4, none⟩))] (by kernel_rfl) rfl rfl (by kernel_rfl) ?_ rfl rfl ?_
   ·exact bi rfl (fun _ _ a c => ak vk (a.ev rfl) l.form (a.ev rfl) M P) (Tq.fin (.r rfl))
   refine dE 4 [(22, .agg #[iv d.X0, iv d.Y0, iv d.X1, iv d.Y1])] (by kernel_rfl) rfl rfl (by kernel_rfl) ?_ rfl rfl ?_
   ·exact bi rfl (fun _ _ a c => aM (cs := [iv d.X0, iv d.Y0, iv d.X1, iv d.Y1]) tV mI (a.ev rfl) (aF.take (uZ mK l Q c) 4) rfl) (Tq.fin (.r rfl))
   refine dI 5 (by kernel_rfl) rfl (wn rfl) rfl (by kernel_rfl) (fun _ _ a => run_move (a.ev rfl)) rfl (dI 6 (by kernel_rfl) rfl (wn rfl) rfl (by kernel_rfl) (fun _ _ a => run_move (a.ev rfl)) rfl ?_)
   obtain ⟨f, a1, H⟩ := bnd H
   obtain ⟨S, T, V⟩ := aU a1
   refine dI 7 (by kernel_rfl) rfl (wn rfl) rfl (by kernel_rfl) (fun _ _ a => ak vk (a.ev rfl) l.form (a.ev rfl) S T) rfl (nu 8 [(26, .agg #[iv f.X0, iv f.Y0, iv f.X1, iv f.Y1])] [] true (by kernel_rfl) rfl rfl (by kernel_rfl) (fun W W' c hsW hk => HF.yN (le := []) (ks := []) (s0 := D) true c hk (fun _ => G) .nil (fun b hb => hb.elim (fun ⟨_, hp, _⟩ => nomatch hp) (fun hb => .inr ⟨rfl, hb.2, (fun _ h => nomatch h)⟩)) (fun _ h => nomatch h) rfl) ?_ rfl rfl ?_)
   ·exact bi rfl (fun _ _ a c => aM (cs := [iv f.X0, iv f.Y0, iv f.X1, iv f.Y1]) tV mI (a.ev rfl) (aF.take (uZ mK l V c) 4) rfl) (Tq.fin (.r rfl))
   refine Dr.cut (U := Nat × Nat) [9, 10] 1 (fun u => D ≤ u.1 ∧ D ≤ u.2) (fun u => [(0, sL g p0 j), (4, iv i), (5, .pointer (some ⟨u.1, 0, none⟩)), (6, .pointer (some ⟨u.2, 0, none⟩)), (12, iv i), (13, sL g p0 j), (14, iv (p0.length : Int)), (15, bV (decide (i < (p0.length : Int)))), (18, sL g p0 j), (19, iv i), (20, iv (bG (i - 1))), (21, .pointer (some ⟨mV g, pW g + ((bG (i - 1))).toNat * 4, none⟩)), (22, .agg #[iv d.X0, iv d.Y0, iv d.X1, iv d.Y1]), (23, sL g p0 j), (24, iv i), (25, .pointer (some ⟨mV g, pW g + (i).toNat * 4, none⟩)), (26, .agg #[iv f.X0, iv f.Y0, iv f.X1, iv f.Y1])]) (fun u => [(5, bx u.1 #[iv 0, iv 0, iv 0, iv 0] 38), (6, bx u.2 #[iv 0, iv 0, iv 0, iv 0] 38)]) ?_ ?_
   ·intro hC
    refine MK 9 10 (by kernel_rfl) ?_ ?_
    ·exact St.alloc 9 5 rfl (wn rfl) rfl x8 fun o t => (Dr.one 10 (by kernel_rfl) (St.alloc 10 6 rfl (wn rfl) rfl x8 fun q E => ((hC ⟨o, q⟩ ⟨t, E⟩).use (by kernel_rfl) (.r rfl) (.r rfl))))
    ·exact St.alloc 10 6 rfl (wn rfl) rfl x8 fun q E => (Dr.one 9 (by kernel_rfl) (St.alloc 9 5 rfl (wn rfl) rfl x8 fun o t => ((hC ⟨o, q⟩ ⟨t, E⟩).use (by kernel_rfl) (.r rfl) (.r rfl))))
   intro u hu
   obtain ⟨o, q⟩ := u
   obtain ⟨t, E⟩ := hu
   replace t : D ≤ o := t
   dsimp only
   refine Dr.one 11 (by kernel_rfl) (EX 11 5 (cs := [iv d.X0, iv d.Y0, iv d.X1, iv d.Y1]) [iv d.X0, iv d.Y0, iv d.X1, iv d.Y1] rfl (wn rfl) (.inr ⟨by simp, t⟩) rfl rfl rfl rfl mI rfl rfl rfl (wy (by kernel_rfl) (bJ 6 (cs := [iv f.X0, iv f.Y0, iv f.X1, iv f.Y1]) [iv f.X0, iv f.Y0, iv f.X1, iv f.Y1] (wn rfl) rfl rfl rfl rfl mI rfl rfl rfl (ae (aa (ai (aT (ag rQ) rfl (aG rfl (fun _ _ a c => ah bT (a.ev rfl) (dR c (vs := [iv f.X0, iv f.Y0, iv f.X1, iv f.Y1]) (k := 6) rfl 1) rfl) (aT (ag rQ) rfl (aG rfl (fun _ _ a c => ah bT (a.ev rfl) (dR c (vs := [iv d.X0, iv d.Y0, iv d.X1, iv d.Y1]) (k := 5) rfl 1) rfl) (aC bg rfl rfl (aA rfl (dX 13 [(0, sL g p0 j), (4, iv i), (45, bV ((decide (f.Y0 < d.Y0)) || ((f.Y0 == d.Y0) && (decide (f.X0 ≤ d.X0)))))] [(5, bx o #[iv d.X0, iv d.Y0, iv d.X1, iv d.Y1] 38), (6, bx q #[iv f.X0, iv f.Y0, iv f.X1, iv f.Y1] 38)] ?_ ?_)))))))))))))
   ·cases a2 : (decide (f.Y0 < d.Y0))
    ·refine dU (ag rQ) rfl (Tr.x (fun _ _ a c => ah bT (a.ev rfl) (dR c (vs := [iv f.X0, iv f.Y0, iv f.X1, iv f.Y1]) (k := 6) rfl 1) rfl) (dU (ag rQ) rfl (Tr.x (fun _ _ a c => ah bT (a.ev rfl) (dR c (vs := [iv d.X0, iv d.Y0, iv d.X1, iv d.Y1]) (k := 5) rfl 1) rfl) (kF dL rfl rfl (dU run_move rfl (dX 6 [(0, sL g p0 j), (4, iv i), (32, bV false), (44, bV ((f.Y0 == d.Y0) && (decide (f.X0 ≤ d.X0))))] [(5, bx o #[iv d.X0, iv d.Y0, iv d.X1, iv d.Y1] 38), (6, bx q #[iv f.X0, iv f.Y0, iv f.X1, iv f.Y1] 38)] ?_ ?_))))))
     ·cases a2 : (f.Y0 == d.Y0)
      ·exact bf rfl (bf rfl (bf rfl (bf rfl (bf rfl (kF bE rfl rfl (ae (bu (.r rfl) (.r rfl))))))))
      ·exact dU (ag pU) rfl (Tr.x (fun _ _ a c => ah bT (a.ev rfl) (dR c (vs := [iv f.X0, iv f.Y0, iv f.X1, iv f.Y1]) (k := 6) rfl 0) rfl) (dU (ag pU) rfl (Tr.x (fun _ _ a c => ah bT (a.ev rfl) (dR c (vs := [iv d.X0, iv d.Y0, iv d.X1, iv d.Y1]) (k := 5) rfl 0) rfl) (kF oH rfl rfl (kF bD rfl rfl (ae (bu (.r rfl) (.r rfl))))))))
     ·dsimp only
      exact aC bE rfl rfl (ae (bu (.r rfl) (.r rfl)))
    ·refine bf rfl (bf rfl (bf rfl (bf rfl (bf rfl (bf rfl (tY rfl ?_))))))
     exact tY rfl (tY rfl (tY rfl (tY rfl (bf rfl (aC bD rfl rfl (ae (bu (.r rfl) (.r rfl))))))))
   ·show Tr _ _ (LF [(0, sL g p0 j), (4, iv i), (45, bV ((decide (f.Y0 < d.Y0)) || ((f.Y0 == d.Y0) && (decide (f.X0 ≤ d.X0)))))]) (LE [(5, bx o #[iv d.X0, iv d.Y0, iv d.X1, iv d.Y1] 38), (6, bx q #[iv f.X0, iv f.Y0, iv f.X1, iv f.Y1] 38)]) _
    refine ae (aa (aP rfl H (fun H => ?_) (fun H => ?_)))
    ·refine ai (Tr.k rfl (ae (aa (aW (bL (aK (aK (bL (aK ?_)))))))))
     obtain rfl := oI H
     exact dQ leB
    ·exact aN (aJ (aa (aI (aA rfl (aC bv rfl rfl (Tr.k rfl (ae (aD F (bG (i + 1)) H (.r rfl) .nil))))))))
  ·refine bW (aB (aB (aR (aa (az (ai (aA rfl ?_)))))))
   obtain ⟨v, a3, H⟩ := bnd H
   refine fq [7] [emp] (U := (Option Addr × Nat)) (fun u => (sL u.1 v u.2)) (fun O W u => dM u.1 v.length u.2) (fun u => [ow u.1 u.2 98 aS v]) rfl (aH rfl bn) (fun _ => rfl) (wn rfl) rfl Tryz.call32 (aj rfl aL) (fun W hW hp hE => wZ N p0 g j (l.ext (hW.gM hp)) v a3 hE) ?_
   intro w u I hu
   obtain ⟨z, A⟩ := u
   have J := hu
   replace l := l.nL I
   replace leB := leB.trans I
   have a6 : dM z v.length A := J --@phi
   dsimp only
   obtain ⟨y, a4, H⟩ := bnd H
   refine ja [8] [emp] (U := (Option Addr × Nat)) (fun u => (sL u.1 y u.2)) (fun u => dM u.1 y.length u.2) (fun u => [ow u.1 u.2 38 bq y]) rfl (aH rfl bn) (fun _ => rfl) (wn rfl) rfl Tryz.call25 (aj rfl aL) (fun W hW hp hE => sI N v z A (hW.Qq (k := 7) rfl hp rfl) y a4 hE) ?_
   intro u hu
   obtain ⟨B, C⟩ := u
   have K := hu
   have a7 : dM B y.length C := K --@phi
   dsimp only
   refine aA rfl ?_
   obtain ⟨X, a5, H⟩ := bnd H
   refine di (r := (bV X)) (wn rfl) rfl Tryz.call11 (aj rfl (aj rfl aL)) (fun W hW => rX y B C (hW.sK (k := 8) rfl) p0 g j (l.ext hW.cB) X a5 (HF.start _)) (aT jC rfl (ae (aa (aP rfl H (fun H => ?_) (fun H => ?_)))))
   ·refine ai (Tr.k rfl (ae (aa (aW (aK ?_)))))
    obtain rfl := oI H
    exact dQ leB
   ·refine aN (aa (ai (Tr.k rfl (ae (aa (aW ?_))))))
    obtain rfl := oI H
    exact dQ leB

theorem lN {w : Bs} (p0 : Int) (p1 : Int) (p2 : Int) (p3 : Int) (q0 : (List fE)) (Aq0_0 : Option Addr) (cq0_0 : Nat) (iW : Nat) (r : (List fE)) (H : iT p0 p1 p2 p3 q0 = some r) (hE : HF w w.W (iF [bx iW #[sL Aq0_0 q0 cq0_0] 121, ow Aq0_0 cq0_0 125 eO q0])) : Calls Tryz.prog 111 [iv p0, iv p1, iv p2, iv p3, pV iW].toArray w.W fun e W' => ∃ u : (Option Addr × Nat), e = .returned (.tuple #[]) ∧ (dM u.1 r.length u.2) ∧ HF w W' (iF [bx iW #[sL u.1 r u.2] 121, ow u.1 u.2 125 eO r]) := by
 unfold iT at H
 have UU := (hE.sl (k := 1) rfl).form
 have leB := Bs.Le.refl w
 refine aZ (n := 19) Tryz.func111 rfl rfl rfl hE (aI (aG rfl (fun _ _ a c => ah uw (a.ev rfl) (dR c (vs := [sL Aq0_0 q0 cq0_0]) (k := 0) rfl 0) rfl) (aA rfl (aA rfl (jh (vs := [(0, iv p0), (1, iv p1)]) (cs := [iv p0, iv p1]) (wn rfl) rfl (bH rfl (bH rfl eF)) (by kernel_rfl) (aA rfl (aA rfl (jh (vs := [(0, iv p2), (1, iv p3)]) (cs := [iv p2, iv p3]) (wn rfl) rfl (bH rfl (bH rfl eF)) (by kernel_rfl) (jh (vs := [(0, .agg #[iv p0, iv p1]), (1, .agg #[iv p2, iv p3])]) (cs := [iv p0, iv p1, iv p2, iv p3]) (wn rfl) rfl (bH rfl (bH rfl eF)) (by kernel_rfl) (dS 2 (e := 125) (vs := [(0, .agg #[iv p0, iv p1, iv p2, iv p3])]) (cs := [iv p0, iv p1, iv p2, iv p3]) (wn rfl) rfl (bH rfl eF) (by kernel_rfl) fun i => ?_))))))))))
 obtain ⟨f, h, H⟩ := bnd H
 refine Tr.append 1 (t := eO) (l := q0) (l2 := [(fE.mk (au.mk p0 p1) (au.mk p2 p3))]) (wn rfl) rfl rfl rfl rfl (fun W hW => ⟨[[iv p0, iv p1, iv p2, iv p3]], (.cons ⟨(), trivial, rfl⟩ .nil), dR hW (vs := [iv p0, iv p1, iv p2, iv p3]) (k := 2) rfl 0⟩) yD qf NE (by decide) Pp rfl h fun b d g => (bJ 0 (cs := [sL b f d]) [sL b f d] (wn rfl) rfl rfl rfl rfl NQ rfl rfl rfl (ae (om ?_)))
 obtain rfl := oI H
 exact Tr.out (m := []) [] bO (fun W hW => ⟨(b, d), rfl, g, HF.zK leB (hW.pick (ks := [0, 1]) (by decide) (aH rfl (aH rfl bn))) ⟨Ps _ _ _, qI _ _ _ _ DC, trivial⟩⟩)

theorem uz (N : Nat) {w : Bs} (p0 : (List Int)) (a5 : Option Addr) (a6 : Nat) (e4 : Sl w.R w.W bK a5 a6 p0) (p1 : (List Int)) (a7 : Option Addr) (a8 : Nat) (e5 : Sl w.R w.W bK a7 a8 p1) (p2 : Bool → Bool → Option Bool) (fid2 : Nat) (B : List Value) (hg2 : ∀ args W, (callFunc fid2 args).run Tryz.prog W = .ok (.enter fid2 args) W) (hf2 : ∀ (w' : Bs), w.Ext w' → ∀ (z0 : Bool) (z1 : Bool), ∀ y, p2 z0 z1 = some y → Calls Tryz.prog fid2 (([bV z0, bV z1] : List Value) ++ B).toArray w'.W fun e W'' => e = .returned (bV y) ∧ HF w' W'' E0) (r : (List Int)) (H : kV N p0 p1 p2 = some r) (hE : HF w w.W (iF [emp])) : Calls Tryz.prog 113 [sL a5 p0 a6, sL a7 p1 a8, .func (.func fid2) #[] B.toArray].toArray w.W fun e W' => ∃ u : (Option Addr × Nat), e = .returned (sL u.1 r u.2) ∧ (dM u.1 r.length u.2) ∧ HF w W' (iF [ow u.1 u.2 3 bK r]) := by
 unfold kV at H
 have leB := Bs.Le.refl w
 refine aZ (n := 85) Tryz.func113 rfl rfl rfl hE (ai (Tr.k rfl (bM 1 3 bK ?_)))
 show Tr _ _ (uf _ 6 (sL none (([] : List Int)) 0)) _ _
 refine ae (aa (ai (Tr.k rfl (bM 2 3 bK ?_))))
 show Tr _ _ (uf _ 7 (sL none (([] : List Int)) 0)) _ _
 refine ae (aa (ai (Tr.k rfl (Tr.k rfl (Tr.k rfl (ae (aa (az (Tr.block (df (σ := (List Int) × (List Int) × (List Int) × Bool × Bool × Bool × (Option Addr) × Nat × (Option Addr) × Nat × (Option Addr) × Nat) (fun m w s => eU p2 m s.1 s.2.1 s.2.2.1 s.2.2.2.1 s.2.2.2.2.1 s.2.2.2.2.2.1 = some r ∧ Sl w.R w.W bK s.2.2.2.2.2.2.1 s.2.2.2.2.2.2.2.1 s.1 ∧ Sl w.R w.W bK s.2.2.2.2.2.2.2.2.1 s.2.2.2.2.2.2.2.2.2.1 s.2.1 ∧ dM s.2.2.2.2.2.2.2.2.2.2.1 s.2.2.1.length s.2.2.2.2.2.2.2.2.2.2.2) (fun s => [(0, sL s.2.2.2.2.2.2.1 s.1 s.2.2.2.2.2.2.2.1), (1, sL s.2.2.2.2.2.2.2.2.1 s.2.1 s.2.2.2.2.2.2.2.2.2.1), (2, .func (.func fid2) #[] B.toArray), (7, sL s.2.2.2.2.2.2.2.2.2.2.1 s.2.2.1 s.2.2.2.2.2.2.2.2.2.2.2), (8, bV s.2.2.2.1), (9, bV s.2.2.2.2.1), (10, bV s.2.2.2.2.2.1)]) (fun s => [(2, ow s.2.2.2.2.2.2.2.2.2.2.1 s.2.2.2.2.2.2.2.2.2.2.2 3 bK s.2.2.1)]) N (p0, p1, ([] : List Int), false, false, false, a5, a6, a7, a8, none, 0) ⟨H, e4, e5, gL⟩ (.r rfl) (.r rfl) (fun _ _ h => jQ (h.1)) ?_))))))))))
 intro w L a0 s hs
 obtain ⟨v, g, f, F, q, i, E, C, o, j, b, d⟩ := s
 obtain ⟨H, D, z, U⟩ := hs
 replace H : eU p2 (a0 + 1) v g f F q i = some r := H
 replace hf2 := fun w' he => hf2 w' (L.ext.trans he)
 replace leB := leB.trans L
 replace D : Sl w.R w.W bK E C v := D
 replace z : Sl w.R w.W bK o j g := z
 replace U : dM b f.length d := U
 rw [eU.eq_2] at H
 dsimp only
 refine az (ai (aA rfl (aT (bz nz) rfl (aC jq rfl rfl (aA rfl (dX 4 [(0, sL E v C), (1, sL o g j), (2, .func (.func fid2) #[] B.toArray), (7, sL b f d), (8, bV F), (9, bV q), (10, bV i), (20, bV ((decide (0 < (v.length : Int))) || (decide (0 < (g.length : Int)))))] [(2, ow b d 3 bK f)] ?_ ?_))))))
 ·cases a9 : (decide (0 < (v.length : Int)))
  ·exact dU run_move rfl (dU (bz nz) rfl (kF jq rfl rfl (aC bE rfl rfl (ae (bu (.r rfl) (.r rfl))))))
  ·exact bf rfl (bf rfl (bf rfl (aC bD rfl rfl (ae (bu (.r rfl) (.r rfl))))))
 ·show Tr _ _ (LF [(0, sL E v C), (1, sL o g j), (2, .func (.func fid2) #[] B.toArray), (7, sL b f d), (8, bV F), (9, bV q), (10, bV i), (20, bV ((decide (0 < (v.length : Int))) || (decide (0 < (g.length : Int)))))]) (LE [(2, ow b d 3 bK f)]) _
  refine ae (aa (aP rfl H (fun H => ?_) (fun H => ?_)))
  ·refine aN (aa (Tr.block (ai (Tr.k rfl (ae (aa ?_))))))
   have b0 := Bs.Le.refl w
   refine kT (σ := Int) (fun w s => jH p2 v g f F q i (eU p2 a0) s = some r) (fun s => [(0, sL E v C), (1, sL o g j), (2, .func (.func fid2) #[] B.toArray), (7, sL b f d), (8, bV F), (9, bV q), (10, bV i), (11, iv s)]) (fun s => [(2, ow b d 3 bK f)]) ?_ ?_
   ·refine az (jb (by kernel_rfl) (by kernel_rfl) (dD rfl (fQ (bz nz) rfl (fO dL rfl rfl (dD rfl ?_)))))
    obtain ⟨f7, M, H⟩ := bnd H
    refine rz 13 [(0, sL E v C), (1, sL o g j), (2, .func (.func fid2) #[] B.toArray), (7, sL b f d), (8, bV F), (9, bV q), (10, bV i), (37, bV f7)] ?_ ?_
    ·cases a9 : ((g.length : Int) == 0)
     ·rw [a9] at M
      rw [if_neg (by decide)] at M
      have H := M
      refine kg run_move rfl (kg (bz nz) rfl (ug jq rfl rfl (kg run_move rfl ?_)))
      obtain ⟨f8, O, H⟩ := bnd H
      refine rz 8 [(0, sL E v C), (1, sL o g j), (2, .func (.func fid2) #[] B.toArray), (7, sL b f d), (8, bV F), (9, bV q), (10, bV i), (24, bV false), (36, bV f8)] ?_ ?_
      ·cases b3 : (decide (0 < (v.length : Int)))
       ·rw [b3] at O
        rw [if_neg (by decide)] at O
        have H := O
        obtain rfl := oI H
        refine cZ rfl (cZ rfl (cZ rfl (cZ rfl (cZ rfl (cZ rfl (cZ rfl ?_))))))
        exact ug bE rfl rfl (Tq.fin (.r rfl))
       ·rw [b3] at O
        rw [if_pos rfl] at O
        have H := O
        refine kg run_move rfl ?_
        obtain ⟨g4, e6, H⟩ := bnd H
        obtain ⟨b8, b9, c0⟩ := aU e6
        refine Tq.x (fun _ _ a c => ak kS (a.ev rfl) D.form (a.ev rfl) b8 b9) (Tq.x (fun _ _ a c => ah bT (a.ev rfl) (uZ je D c0 c) rfl) (kg run_move rfl ?_))
        obtain ⟨g5, e7, H⟩ := bnd H
        obtain ⟨c3, c4, c5⟩ := aU e7
        refine Tq.x (fun _ _ a c => ak kS (a.ev rfl) z.form (a.ev rfl) c3 c4) (Tq.x (fun _ _ a c => ah bT (a.ev rfl) (uZ je z c5 c) rfl) (ug oH rfl rfl (ug bD rfl rfl ?_)))
        obtain rfl := oI H
        exact Tq.fin (.r rfl)
      ·refine fO bE rfl rfl ?_
       obtain rfl := oI H
       exact Tq.fin (.r rfl)
     ·rw [a9] at M
      rw [if_pos rfl] at M
      have H := M
      obtain rfl := oI H
      refine cZ rfl (cZ rfl (cZ rfl (cZ rfl (EW rfl (EW rfl (EW rfl ?_))))))
      exact EW rfl (EW rfl (EW rfl (EW rfl (cZ rfl (fO bD rfl rfl (Tq.fin (.r rfl)))))))
    ·refine iE (aa (aP rfl H (fun H => ?_) (fun H => ?_)))
     ·refine aI (aA rfl ?_)
      obtain ⟨f9, e8, H⟩ := bnd H
      obtain ⟨c6, c7, c8⟩ := aU e8
      exact aG rfl (fun _ _ a c => ak kS (a.ev rfl) D.form (a.ev rfl) c6 c7) (aG rfl (fun _ _ a c => ah bT (a.ev rfl) (uZ je D c8 c) rfl) (Tr.k rfl (ae (aD b0 f9 H (.r rfl) (.r rfl)))))
     ·refine aI (aA rfl ?_)
      obtain ⟨g0, e9, H⟩ := bnd H
      obtain ⟨c9, d0, d1⟩ := aU e9
      exact aG rfl (fun _ _ a c => ak kS (a.ev rfl) z.form (a.ev rfl) c9 d0) (aG rfl (fun _ _ a c => ah bT (a.ev rfl) (uZ je z d1 c) rfl) (Tr.k rfl (ae (aD b0 g0 H (.r rfl) (.r rfl)))))
   ·intro w A T hs
    have H := hs
    replace H : jH p2 v g f F q i (eU p2 a0) A = some r := H
    replace D := D.nL T
    replace z := z.nL T
    replace hf2 := fun w' he => hf2 w' (T.ext.trans he)
    replace L := L.trans T
    unfold jH at H
    show Tr _ _ (LF [(0, sL E v C), (1, sL o g j), (2, .func (.func fid2) #[] B.toArray), (7, sL b f d), (8, bV F), (9, bV q), (10, bV i), (11, iv A)]) (LE [(2, ow b d 3 bK f)]) _
    have b1 := Bs.Le.refl w
    refine kT (σ := (List Int) × Bool × (Option Addr) × Nat) (fun w s => ky p2 g f q i (eU p2 a0) A s.1 s.2.1 = some r ∧ Sl w.R w.W bK s.2.2.1 s.2.2.2 s.1) (fun s => [(0, sL s.2.2.1 s.1 s.2.2.2), (1, sL o g j), (2, .func (.func fid2) #[] B.toArray), (7, sL b f d), (8, bV s.2.1), (9, bV q), (10, bV i), (11, iv A)]) (fun s => [(2, ow b d 3 bK f)]) ?_ ?_
    ·refine ai (aA rfl (aT (bz nz) rfl (aC jq rfl rfl (aA rfl ?_))))
     obtain ⟨d2, P, H⟩ := bnd H
     refine dX 6 [(0, sL E v C), (1, sL o g j), (2, .func (.func fid2) #[] B.toArray), (7, sL b f d), (8, bV F), (9, bV q), (10, bV i), (11, iv A), (53, bV d2)] [(2, ow b d 3 bK f)] ?_ ?_
     ·cases b4 : (decide (0 < (v.length : Int)))
      ·rw [b4] at P
       rw [if_neg (by decide)] at P
       have H := P
       obtain rfl := oI H
       exact bf rfl (bf rfl (bf rfl (bf rfl (bf rfl (aC bE rfl rfl (ae (bu (.r rfl) (.r rfl))))))))
      ·rw [b4] at P
       rw [if_pos rfl] at P
       have H := P
       refine dU run_move rfl ?_
       obtain ⟨g6, f1, H⟩ := bnd H
       obtain ⟨d3, d4, d5⟩ := aU f1
       refine Tr.x (fun _ _ a c => ak kS (a.ev rfl) D.form (a.ev rfl) d3 d4) (Tr.x (fun _ _ a c => ah bT (a.ev rfl) (uZ je D d5 c) rfl) (dU run_move rfl (kF dL rfl rfl (aC bD rfl rfl ?_))))
       obtain rfl := oI H
       exact ae (bu (.r rfl) (.r rfl))
     ·show Tr _ _ (LF [(0, sL E v C), (1, sL o g j), (2, .func (.func fid2) #[] B.toArray), (7, sL b f d), (8, bV F), (9, bV q), (10, bV i), (11, iv A), (53, bV d2)]) (LE [(2, ow b d 3 bK f)]) _
      refine ae (aa (aP rfl H (fun H => ?_) (fun H => ?_)))
      ·refine aI (aA rfl ?_)
       obtain ⟨g1, b5, H⟩ := bnd H
       exact aG rfl (fun _ _ a c => uX kS (a.ev rfl) D.form (a.ev rfl) b5) (aA rfl (aT jC rfl (Tr.k rfl (Tr.k rfl (ae (aD b1 (g1, (!F), (uF E (1 : Int).toNat 1 C), (C - (1 : Int).toNat)) ⟨H, (Sl.cut D b5)⟩ (.r rfl) (.r rfl)))))))
      ·exact aN (aD b1 (v, F, E, C) ⟨H, D⟩ (.r rfl) (.r rfl))
    ·intro w s a1 hs
     obtain ⟨G, I, J, K⟩ := s
     obtain ⟨H, Q⟩ := hs
     replace H : ky p2 g f q i (eU p2 a0) A G I = some r := H
     replace z := z.nL a1
     replace hf2 := fun w' he => hf2 w' (a1.ext.trans he)
     replace L := L.trans a1
     replace Q : Sl w.R w.W bK J K G := Q
     unfold ky at H
     dsimp only
     have b2 := Bs.Le.refl w
     refine kT (σ := (List Int) × Bool × (Option Addr) × Nat) (fun w s => lV p2 f i (eU p2 a0) A G I s.1 s.2.1 = some r ∧ Sl w.R w.W bK s.2.2.1 s.2.2.2 s.1) (fun s => [(0, sL J G K), (1, sL s.2.2.1 s.1 s.2.2.2), (2, .func (.func fid2) #[] B.toArray), (7, sL b f d), (8, bV I), (9, bV s.2.1), (10, bV i), (11, iv A)]) (fun s => [(2, ow b d 3 bK f)]) ?_ ?_
     ·refine ai (aA rfl (aT (bz nz) rfl (aC jq rfl rfl (aA rfl ?_))))
      obtain ⟨d6, S, H⟩ := bnd H
      refine dX 6 [(0, sL J G K), (1, sL o g j), (2, .func (.func fid2) #[] B.toArray), (7, sL b f d), (8, bV I), (9, bV q), (10, bV i), (11, iv A), (67, bV d6)] [(2, ow b d 3 bK f)] ?_ ?_
      ·cases b6 : (decide (0 < (g.length : Int)))
       ·rw [b6] at S
        rw [if_neg (by decide)] at S
        have H := S
        obtain rfl := oI H
        exact bf rfl (bf rfl (bf rfl (bf rfl (bf rfl (aC bE rfl rfl (ae (bu (.r rfl) (.r rfl))))))))
       ·rw [b6] at S
        rw [if_pos rfl] at S
        have H := S
        refine dU run_move rfl ?_
        obtain ⟨g7, f2, H⟩ := bnd H
        obtain ⟨d7, d8, d9⟩ := aU f2
        refine Tr.x (fun _ _ a c => ak kS (a.ev rfl) z.form (a.ev rfl) d7 d8) (Tr.x (fun _ _ a c => ah bT (a.ev rfl) (uZ je z d9 c) rfl) (dU run_move rfl (kF dL rfl rfl (aC bD rfl rfl ?_))))
        obtain rfl := oI H
        exact ae (bu (.r rfl) (.r rfl))
      ·show Tr _ _ (LF [(0, sL J G K), (1, sL o g j), (2, .func (.func fid2) #[] B.toArray), (7, sL b f d), (8, bV I), (9, bV q), (10, bV i), (11, iv A), (67, bV d6)]) (LE [(2, ow b d 3 bK f)]) _
       refine ae (aa (aP rfl H (fun H => ?_) (fun H => ?_)))
       ·refine aI (aA rfl ?_)
        obtain ⟨g2, b7, H⟩ := bnd H
        exact aG rfl (fun _ _ a c => uX kS (a.ev rfl) z.form (a.ev rfl) b7) (aA rfl (aT jC rfl (Tr.k rfl (Tr.k rfl (ae (aD b2 (g2, (!q), (uF o (1 : Int).toNat 1 j), (j - (1 : Int).toNat)) ⟨H, (Sl.cut z b7)⟩ (.r rfl) (.r rfl)))))))
       ·exact aN (aD b2 (g, q, o, j) ⟨H, z⟩ (.r rfl) (.r rfl))
     ·intro w s a2 hs
      obtain ⟨a3, a4, V, X⟩ := s
      obtain ⟨H, Z⟩ := hs
      replace H : lV p2 f i (eU p2 a0) A G I a3 a4 = some r := H
      replace Q := Q.nL a2
      replace hf2 := fun w' he => hf2 w' (a2.ext.trans he)
      replace L := L.trans a2
      replace Z : Sl w.R w.W bK V X a3 := Z
      unfold lV at H
      dsimp only
      refine ai (aA rfl (aA rfl (aA rfl ?_)))
      obtain ⟨e0, f3, H⟩ := bnd H
      refine vw (r := (bV e0)) (wn rfl) rfl rfl hg2 (aj rfl (aj rfl aL)) (fun W hW => hf2 hW.all hW.cB I a4 _ f3) (Tr.k rfl (ae (aa (ai (aA rfl (aA rfl (aC (Oa TR) rfl rfl (ae (aa (aP rfl H (fun H => ?_) (fun H => ?_)))))))))))
      ·refine aI (aA rfl (aA rfl (dS 5 (e := 3) (vs := [(0, iv A)]) (cs := [iv A]) (wn rfl) rfl (bH rfl eF) (by kernel_rfl) fun g8 => ?_)))
       obtain ⟨g3, f4, H⟩ := bnd H
       exact Tr.append 2 (t := bK) (l := f) (l2 := [A]) (wn rfl) rfl rfl rfl rfl (fun W hW => ⟨[[iv A]], (.cons ⟨(), trivial, rfl⟩ .nil), dR hW (vs := [iv A]) (k := 5) rfl 0⟩) nz zY ML (by decide) Nn rfl f4 fun f5 f6 e3 => (aA rfl (Tr.k rfl (Tr.k rfl (ae (aJ (aD L (G, a3, g3, I, a4, e0, J, K, V, X, f5, f6) ⟨H, Q, Z, e3⟩ (.r rfl) (.r rfl)))))))
      ·exact aN (aJ (aD L (G, a3, f, I, a4, i, J, K, V, X, b, d) ⟨H, Q, Z, U⟩ (.r rfl) (.r rfl)))
  ·refine bW (aB (aB (aR (aa (ai (aA rfl (Tr.k rfl (ae (aa (aW ?_))))))))))
   obtain rfl := oI H
   exact Tr.out (m := [sL b f d]) [] (cO rfl bO) (fun W hW => ⟨(b, d), rfl, U, HF.zK leB (hW.pick (ks := [2]) (by decide) (aH rfl bn)) ⟨qI _ _ _ _ Gy, trivial⟩⟩)

theorem vM {w : Bs} (p0 : Bool) (p1 : Bool) (r : Bool) (H : iZ p0 p1 = some r) (hE : HF w w.W E0) : Calls Tryz.prog 114 [bV p0, bV p1].toArray w.W fun e W' => e = .returned (bV r) ∧ HF w W' E0 := by
 unfold iZ at H
 have leB := Bs.Le.refl w
 refine aZ (n := 10) Tryz.func114 rfl rfl rfl hE (ai (Tr.k rfl (ae (aa (ai (aA rfl (aA rfl (dX 3 [(9, bV (p0 && (!p1)))] [] ?_ ?_))))))))
 ·cases a : p0
  ·exact bf rfl (bf rfl (aC bE rfl rfl (ae (bu (.r rfl) .nil))))
  ·exact dU run_move rfl (dU jC rfl (aC bD rfl rfl (ae (bu (.r rfl) .nil))))
 ·show Tr _ _ (LF [(9, bV (p0 && (!p1)))]) (LE []) _
  refine Tr.k rfl (ae (aa (aW ?_)))
  obtain rfl := oI H
  exact dQ leB

theorem vL {w : Bs} (p0 : Bool) (p1 : Bool) (r : Bool) (H : iY p0 p1 = some r) (hE : HF w w.W E0) : Calls Tryz.prog 115 [bV p0, bV p1].toArray w.W fun e W' => e = .returned (bV r) ∧ HF w W' E0 := by
 unfold iY at H
 have leB := Bs.Le.refl w
 refine aZ (n := 10) Tryz.func115 rfl rfl rfl hE (ai (Tr.k rfl (ae (aa (ai (aA rfl (aA rfl (dX 3 [(9, bV (p1 && (!p0)))] [] ?_ ?_))))))))
 ·cases a : p1
  ·exact bf rfl (bf rfl (aC bE rfl rfl (ae (bu (.r rfl) .nil))))
  ·exact dU run_move rfl (dU jC rfl (aC bD rfl rfl (ae (bu (.r rfl) .nil))))
 ·show Tr _ _ (LF [(9, bV (p1 && (!p0)))]) (LE []) _
  refine Tr.k rfl (ae (aa (aW ?_)))
  obtain rfl := oI H
  exact dQ leB

theorem kW (N : Nat) {w : Bs} (p0 : Int) (p1 : (List Int)) (B : Option Addr) (C : Nat) (M : Sl w.R w.W bK B C p1) (p2 : (List Int)) (D : Option Addr) (E : Nat) (O : Sl w.R w.W bK D E p2) (iW : Nat) (q1 : (List fE)) (Aq1_0 : Option Addr) (cq1_0 : Nat) (vI : Nat) (hb0 : w.R iW) (hc0 : aF w.W iW 0 [.func (.func 111) #[] #[pV vI]]) (r : (List fE)) (H : fG N p0 p1 p2 q1 = some r) (hE : HF w w.W (iF [bx vI #[sL Aq1_0 q1 cq1_0] 121, ow Aq1_0 cq1_0 125 eO q1])) : Calls Tryz.prog 112 [iv p0, sL B p1 C, sL D p2 E, pV iW].toArray w.W fun e W' => ∃ u : (Option Addr × Nat), e = .returned (.tuple #[]) ∧ (dM u.1 r.length u.2) ∧ HF w W' (iF [bx vI #[sL u.1 r u.2] 121, ow u.1 u.2 125 eO r]) := by
 unfold fG at H
 have QP := (hE.sl (k := 1) rfl).form
 have leB := Bs.Le.refl w
 refine aZ (n := 54) Tryz.func112 rfl rfl rfl hE (ai (aA rfl (aA rfl ?_)))
 obtain ⟨b, b8, H⟩ := bnd H
 refine ja [2] [emp] (U := (Option Addr × Nat)) (fun u => (sL u.1 b u.2)) (fun u => dM u.1 b.length u.2) (fun u => [ow u.1 u.2 3 bK b]) rfl (aH rfl bn) (fun _ => rfl) (wn rfl) rfl Tryz.call113 (aj rfl (aj rfl (aj rfl aL))) (fun W hW hp hE => uz N p1 B C (M.ext (hW.gM hp)) p2 D E (O.ext (hW.gM hp)) (fun z0 z1 => iZ z0 z1) 114 [] Tryz.call114 (fun w' he z0 z1 y hy => vM z0 z1 y hy (HF.start _)) b b8 hE) ?_
 intro u hu
 obtain ⟨d, f⟩ := u
 have a2 := hu
 have P : dM d b.length f := a2 --@phi
 dsimp only
 refine Tr.k rfl (ae (aa (az (ai (Tr.k rfl (ae (aa (Tr.block (df (σ := (List fE) × Int × (Option Addr) × Nat) (fun m w s => eG N p0 p1 p2 b m s.1 s.2.1 = some r ∧ dM s.2.2.1 s.1.length s.2.2.2) (fun s => [(0, iv p0), (1, sL B p1 C), (2, sL D p2 E), (3, pV iW), (7, sL d b f), (8, iv s.2.1)]) (fun s => [(0, bx vI #[sL s.2.2.1 s.1 s.2.2.2] 121), (1, ow s.2.2.1 s.2.2.2 125 eO s.1), (2, ow d f 3 bK b)]) N (q1, 0, Aq1_0, cq1_0) ⟨H, QP⟩ (.r rfl) (.r rfl) (fun _ _ h => jQ (h.1)) ?_)))))))))
 intro w L d2 s hs
 obtain ⟨v, X, l, o⟩ := s
 obtain ⟨H, S⟩ := hs
 replace H : eG N p0 p1 p2 b (d2 + 1) v X = some r := H
 replace M := M.nL L
 replace O := O.nL L
 replace hc0 := L.ext.cells hb0 hc0
 replace hb0 := L.r _ hb0
 replace leB := leB.trans L
 replace S : dM l v.length o := S
 rw [eG.eq_2] at H
 dsimp only
 refine az (ai (aA rfl (aA rfl (aT (bz nz) rfl (aC bg rfl rfl (ae (aa (aP rfl H (fun H => ?_) (fun H => ?_)))))))))
 ·refine aN (aa (az (Tr.block (kG 12 (by kernel_rfl) (by kernel_rfl) (bi rfl (fun _ _ a c => ah H7 (a.ev rfl) (ut hb0 hc0 c) rfl) (dD rfl (dD rfl (fO bv rfl rfl ?_))))))))
  obtain ⟨c8, b9, H⟩ := bnd H
  obtain ⟨a6, a7, a8⟩ := aU b9
  refine bi rfl (fun _ _ a c => ak kS (a.ev rfl) P (a.ev rfl) a6 a7) (bi rfl (fun _ _ a c => ah bT (a.ev rfl) (Ac je (k := 2) c rfl a8) rfl) (dD rfl (dD rfl (dD rfl ?_))))
  obtain ⟨c9, c0, H⟩ := bnd H
  obtain ⟨a9, b0, b1⟩ := aU c0
  refine bi rfl (fun _ _ a c => ak kS (a.ev rfl) P (a.ev rfl) a9 b0) (bi rfl (fun _ _ a c => ah bT (a.ev rfl) (Ac je (k := 2) c rfl b1) rfl) (dD rfl (iE ?_)))
  obtain ⟨z, c3, H⟩ := bnd H
  refine sQ [0, 1] [bx vI #[sL l v o] 121, ow l o 125 eO v] (U := (Option Addr × Nat)) (fun u => (.tuple #[])) (fun u => dM u.1 z.length u.2) (fun u => [bx vI #[sL u.1 z u.2] 121, ow u.1 u.2 125 eO z]) rfl (aH rfl (aH rfl bn)) (fun _ => rfl) (wn rfl) rfl rfl Tryz.call111 (aj rfl (aj rfl (aj rfl (aj rfl aL)))) (fun W hW hp hE => lN c8 p0 c9 p0 v l o vI z c3 hE) ?_
  intro u hu
  obtain ⟨F, G⟩ := u
  have a3 := hu
  have Z : dM F z.length G := a3 --@phi
  dsimp only
  exact ae (aJ (aa (aI (aA rfl (aC bv rfl rfl (Tr.k rfl (ae (aD L (z, (bG (X + 2)), F, G) ⟨H, Z⟩ (.r rfl) (.r rfl)))))))))
 ·refine bW (aB (aB (aR (aa (ai (aA rfl (aA rfl ?_)))))))
  obtain ⟨g, c4, H⟩ := bnd H
  refine ja [3] [emp] (U := (Option Addr × Nat)) (fun u => (sL u.1 g u.2)) (fun u => dM u.1 g.length u.2) (fun u => [ow u.1 u.2 3 bK g]) rfl (aH rfl bn) (fun _ => rfl) (wn rfl) rfl Tryz.call113 (aj rfl (aj rfl (aj rfl aL))) (fun W hW hp hE => uz N p1 B C (M.ext (hW.gM hp)) p2 D E (O.ext (hW.gM hp)) (fun z0 z1 => iY z0 z1) 115 [] Tryz.call115 (fun w' he z0 z1 y hy => vL z0 z1 y hy (HF.start _)) g c4 hE) ?_
  intro u hu
  obtain ⟨i, j⟩ := u
  have a4 := hu
  have Q : dM i g.length j := a4 --@phi
  dsimp only
  refine Tr.k rfl (ae (aa (ai (Tr.k rfl (ae (aa (Tr.block (df (σ := (List fE) × Int × (Option Addr) × Nat) (fun m w s => dO p0 g m s.1 s.2.1 = some r ∧ dM s.2.2.1 s.1.length s.2.2.2) (fun s => [(0, iv p0), (3, pV iW), (7, sL i g j), (9, iv s.2.1)]) (fun s => [(0, bx vI #[sL s.2.2.1 s.1 s.2.2.2] 121), (1, ow s.2.2.1 s.2.2.2 125 eO s.1), (3, ow i j 3 bK g)]) N (v, 0, l, o) ⟨H, S⟩ (.r rfl) (.r rfl) (fun _ _ h => jQ (h.1)) ?_))))))))
  intro w T d3 s hs
  obtain ⟨K, a0, q, t⟩ := s
  obtain ⟨H, V⟩ := hs
  replace H : dO p0 g (d3 + 1) K a0 = some r := H
  replace hc0 := T.ext.cells hb0 hc0
  replace hb0 := T.r _ hb0
  replace leB := leB.trans T
  replace V : dM q K.length t := V
  rw [dO.eq_2] at H
  dsimp only
  refine az (ai (aA rfl (aA rfl (aT (bz nz) rfl (aC bg rfl rfl (ae (aa (aP rfl H (fun H => ?_) (fun H => ?_)))))))))
  ·refine aN (aa (az (Tr.block (kG 12 (by kernel_rfl) (by kernel_rfl) (bi rfl (fun _ _ a c => ah H7 (a.ev rfl) (ut hb0 hc0 c) rfl) (dD rfl (dD rfl ?_)))))))
   obtain ⟨d0, c5, H⟩ := bnd H
   obtain ⟨b2, b3, b4⟩ := aU c5
   refine bi rfl (fun _ _ a c => ak kS (a.ev rfl) Q (a.ev rfl) b2 b3) (bi rfl (fun _ _ a c => ah bT (a.ev rfl) (Ac je (k := 3) c rfl b4) rfl) (dD rfl (dD rfl (dD rfl (fO bv rfl rfl ?_)))))
   obtain ⟨d1, c6, H⟩ := bnd H
   obtain ⟨b5, b6, b7⟩ := aU c6
   refine bi rfl (fun _ _ a c => ak kS (a.ev rfl) Q (a.ev rfl) b5 b6) (bi rfl (fun _ _ a c => ah bT (a.ev rfl) (Ac je (k := 3) c rfl b7) rfl) (dD rfl (iE ?_)))
   obtain ⟨A, c7, H⟩ := bnd H
   refine sQ [0, 1] [bx vI #[sL q K t] 121, ow q t 125 eO K] (U := (Option Addr × Nat)) (fun u => (.tuple #[])) (fun u => dM u.1 A.length u.2) (fun u => [bx vI #[sL u.1 A u.2] 121, ow u.1 u.2 125 eO A]) rfl (aH rfl (aH rfl bn)) (fun _ => rfl) (wn rfl) rfl rfl Tryz.call111 (aj rfl (aj rfl (aj rfl (aj rfl aL)))) (fun W hW hp hE => lN d0 p0 d1 p0 K q t vI A c7 hE) ?_
   intro u hu
   obtain ⟨I, J⟩ := u
   have a5 := hu
   have a1 : dM I A.length J := a5 --@phi
   dsimp only
   exact ae (aJ (aa (aI (aA rfl (aC bv rfl rfl (Tr.k rfl (ae (aD T (A, (bG (a0 + 2)), I, J) ⟨H, a1⟩ (.r rfl) (.r rfl)))))))))
  ·refine bW (aB (aB (aR (om ?_))))
   obtain rfl := oI H
   exact Tr.out (m := []) [] bO (fun W hW => ⟨(q, t), rfl, V, HF.zK leB (hW.pick (ks := [0, 1]) (by decide) (aH rfl (aH rfl bn))) ⟨Ps _ _ _, qI _ _ _ _ DC, trivial⟩⟩)

theorem yo (N : Nat) {w : Bs} (p0 : (List aV)) (l : Option Addr) (o : Nat) (q : Sl w.R w.W aS l o p0) (r : (List fE)) (H : oO N p0 = some r) (hE : HF w w.W (iF [emp])) : Calls Tryz.prog 68 [sL l p0 o].toArray w.W fun e W' => ∃ u : (Option Addr × Nat), e = .returned (sL u.1 r u.2) ∧ (dM u.1 r.length u.2) ∧ HF w W' (iF [ow u.1 u.2 125 eO r]) := by
 unfold oO at H
 have leB := Bs.Le.refl w
 refine aZ (n := 114) Tryz.func68 rfl rfl rfl hE (ai (Tr.k rfl (bM 1 125 eO ?_)))
 show Tr _ _ (uf _ 2 (sL none (([] : List fE)) 0)) _ _
 refine ae (aa (ai (Tr.alloc 2 (wn rfl) rfl NH fun g => (ae (aa (ai (pK (vs := [pV g]) (wn rfl) rfl (aj rfl aL) (Tr.alloc 3 (wn rfl) rfl RU fun j => (bJ 3 (cs := [.func (.func 111) #[] #[pV g]]) [.func (.func 111) #[] #[pV g]] (wn rfl) rfl rfl rfl rfl R7 rfl rfl rfl (ae (aa (ai (pK (vs := [pV j]) (wn rfl) rfl (aj rfl aL) (Tr.k rfl (ae (aa (az (ai (aA rfl (aT (bz sG) rfl (aA rfl (ae (aa (Tr.block (bM 14 125 eO ?_)))))))))))))))))))))))))
 refine df (σ := (List aV) × Nat × (List fE) × (Option Addr) × Nat) (fun m w s => m = s.1.length + 1 ∧ s.1 = List.drop s.2.1 p0 ∧ s.2.1 ≤ p0.length ∧ dn N p0 s.1 s.2.1 s.2.2.1 = some r ∧ dM s.2.2.2.1 s.2.2.1.length s.2.2.2.2) (fun s => [(0, sL l p0 o), (3, pV g), (4, pV j), (5, .func (.func 112) #[] #[pV j]), (11, sL l p0 o), (12, iv (p0.length : Int)), (13, iv (s.2.1 : Int))]) (fun s => [(2, bx g #[sL s.2.2.2.1 s.2.2.1 s.2.2.2.2] 121), (3, bx j #[.func (.func 111) #[] #[pV g]] 162), (14, ow s.2.2.2.1 s.2.2.2.2 125 eO s.2.2.1)]) (p0.length + 1) (p0, 0, ([] : List fE), none, 0) ⟨rfl, rfl, Nat.zero_le _, H, gL⟩ (.r rfl) (.r rfl) (fun _ _ h => absurd h.1 (by simp)) ?_
 intro w M m s hs
 obtain ⟨v, t, a8, I, J⟩ := s
 obtain ⟨b6, B, j9, H, a9⟩ := hs
 replace B : v = List.drop t p0 := B
 replace H : dn N p0 v t a8 = some r := H
 replace b6 : m + 1 = v.length + 1 := b6
 replace q := q.nL M
 replace leB := leB.trans M
 replace a9 : dM I a8.length J := a9
 obtain rfl : m = v.length := by omega
 clear b6
 dsimp only
 cases v with
 | nil =>
  rw [dn.eq_1] at H
  refine ai (aC bg rfl rfl (ae (aa (az (eQ rfl (dZ B) (bW (aB (aB (aR (aa (ai (aG rfl (fun _ _ a c => ah uw (a.ev rfl) (dR c (vs := [sL I a8 J]) (k := 2) rfl 0) rfl) (Tr.k rfl (ae (aa (aW ?_))))))))))))))))
  obtain rfl := oI H
  exact Tr.out (m := [sL I a8 J]) [] (cO rfl bO) (fun W hW => ⟨(I, J), rfl, a9, HF.zK leB (hW.pick (ks := [14]) (by decide) (aH rfl bn)) ⟨qI _ _ _ _ DC, trivial⟩⟩)
 | cons b v =>
  rw [dn.eq_2] at H
  refine ai (aC bg rfl rfl (ae (aa (az (eP rfl (fJ B) (aN (aa (az (Tr.block (ai (aA rfl ?_)))))))))))
  obtain ⟨i2, d5, c6, d6⟩ := (q).el (gy B)
  obtain ⟨d, f⟩ := i2
  have i := c6
  replace i : Sl w.R w.W bK d f b.Xs := i
  refine aG rfl (fun _ _ a c => ak oG (a.ev rfl) q.form (a.ev rfl) (Int.natCast_nonneg _) (bF B)) (aG rfl (fun _ _ a c => aM (cs := [iv b.Y0, iv b.Y1, sL d b.Xs f]) JE zS (a.ev rfl) (aF.take (ut d5 d6 c) 3) rfl) (Tr.alloc 15 (wn rfl) rfl Lb fun F => (Tr.k rfl (bJ 15 (cs := [iv b.Y0, iv b.Y1, sL d b.Xs f]) [iv b.Y0, iv b.Y1, sL d b.Xs f] (wn rfl) rfl rfl rfl rfl zS rfl rfl rfl (ae (aa (az (ai (Tr.k rfl (ae (aa (Tr.block (df (σ := (List fE) × Int × (Option Addr) × Nat) (fun m w s => fP N p0 (dn N p0 v (t + 1)) b t m s.1 s.2.1 = some r ∧ dM s.2.2.1 s.1.length s.2.2.2) (fun s => [(0, sL l p0 o), (3, pV g), (4, pV j), (5, .func (.func 112) #[] #[pV j]), (6, iv (t : Int)), (7, pV F), (8, iv s.2.1), (11, sL l p0 o), (12, iv (p0.length : Int)), (13, iv (t : Int))]) (fun s => [(2, bx g #[sL s.2.2.1 s.1 s.2.2.2] 121), (3, bx j #[.func (.func 111) #[] #[pV g]] 162), (14, ow s.2.2.1 s.2.2.2 125 eO s.1), (15, bx F #[iv b.Y0, iv b.Y1, sL d b.Xs f] 98)]) N (a8, 0, I, J) ⟨H, a9⟩ (.r rfl) (.r rfl) (fun _ _ h => jQ (h.1)) ?_)))))))))))))
  intro w b3 j7 s hs
  obtain ⟨C, b7, y, A⟩ := s
  obtain ⟨H, j8⟩ := hs
  replace H : fP N p0 (dn N p0 v (t + 1)) b t (j7 + 1) C b7 = some r := H
  replace q := q.nL b3
  replace i := i.nL b3
  replace M := M.trans b3
  rw [fP.eq_2] at H
  dsimp only
  refine az (ai (aA rfl (aT (ag lg) rfl (aG rfl (fun _ _ a c => ah mR (a.ev rfl) (dR c (vs := [iv b.Y0, iv b.Y1, sL d b.Xs f]) (k := 15) rfl 2) rfl) (aT (bz nz) rfl (aC bg rfl rfl (ae (aa (aP rfl H (fun H => ?_) (fun H => ?_))))))))))
  ·refine aN (aa (az (Tr.block (az (kG 15 (by kernel_rfl) (by kernel_rfl) (bi rfl (fun _ _ a c => ah H7 (a.ev rfl) (dR c (vs := [.func (.func 111) #[] #[pV g]]) (k := 3) rfl 0) rfl) (fQ (ag lg) rfl (bi rfl (fun _ _ a c => ah mR (a.ev rfl) (dR c (vs := [iv b.Y0, iv b.Y1, sL d b.Xs f]) (k := 15) rfl 2) rfl) (dD rfl ?_)))))))))
   obtain ⟨i3, g8, H⟩ := bnd H
   obtain ⟨d7, d8, d9⟩ := aU g8
   refine bi rfl (fun _ _ a c => ak kS (a.ev rfl) i.form (a.ev rfl) d7 d8) (bi rfl (fun _ _ a c => ah bT (a.ev rfl) (uZ je i d9 c) rfl) (fQ (ag nW) rfl (bi rfl (fun _ _ a c => ah bT (a.ev rfl) (dR c (vs := [iv b.Y0, iv b.Y1, sL d b.Xs f]) (k := 15) rfl 1) rfl) (fQ (ag lg) rfl (bi rfl (fun _ _ a c => ah mR (a.ev rfl) (dR c (vs := [iv b.Y0, iv b.Y1, sL d b.Xs f]) (k := 15) rfl 2) rfl) (dD rfl ?_))))))
   obtain ⟨i4, g9, H⟩ := bnd H
   obtain ⟨e0, e3, e4⟩ := aU g9
   refine bi rfl (fun _ _ a c => ak kS (a.ev rfl) i.form (a.ev rfl) e0 e3) (bi rfl (fun _ _ a c => ah bT (a.ev rfl) (uZ je i e4 c) rfl) (fQ (ag pR) rfl (bi rfl (fun _ _ a c => ah bT (a.ev rfl) (dR c (vs := [iv b.Y0, iv b.Y1, sL d b.Xs f]) (k := 15) rfl 0) rfl) (iE ?_))))
   obtain ⟨G, h0, H⟩ := bnd H
   refine sQ [2, 14] [bx g #[sL y C A] 121, ow y A 125 eO C] (U := (Option Addr × Nat)) (fun u => (.tuple #[])) (fun u => dM u.1 G.length u.2) (fun u => [bx g #[sL u.1 G u.2] 121, ow u.1 u.2 125 eO G]) rfl (aH rfl (aH rfl bn)) (fun _ => rfl) (wn rfl) rfl rfl Tryz.call111 (aj rfl (aj rfl (aj rfl (aj rfl aL)))) (fun W hW hp hE => lN i3 b.Y1 i4 b.Y0 C y A g G h0 hE) ?_
   intro u hu
   obtain ⟨D, E⟩ := u
   have c7 := hu
   have i5 : dM D G.length E := c7 --@phi
   dsimp only
   refine ae (aa (kG 17 (by kernel_rfl) (by kernel_rfl) (bi rfl (fun _ _ a c => ah H7 (a.ev rfl) (dR c (vs := [.func (.func 111) #[] #[pV g]]) (k := 3) rfl 0) rfl) (fQ (ag lg) rfl (bi rfl (fun _ _ a c => ah mR (a.ev rfl) (dR c (vs := [iv b.Y0, iv b.Y1, sL d b.Xs f]) (k := 15) rfl 2) rfl) (dD rfl (fO bv rfl rfl ?_)))))))
   obtain ⟨i6, h1, H⟩ := bnd H
   obtain ⟨e5, e6, e7⟩ := aU h1
   refine bi rfl (fun _ _ a c => ak kS (a.ev rfl) i.form (a.ev rfl) e5 e6) (bi rfl (fun _ _ a c => ah bT (a.ev rfl) (uZ je i e7 c) rfl) (fQ (ag pR) rfl (bi rfl (fun _ _ a c => ah bT (a.ev rfl) (dR c (vs := [iv b.Y0, iv b.Y1, sL d b.Xs f]) (k := 15) rfl 0) rfl) (fQ (ag lg) rfl (bi rfl (fun _ _ a c => ah mR (a.ev rfl) (dR c (vs := [iv b.Y0, iv b.Y1, sL d b.Xs f]) (k := 15) rfl 2) rfl) (dD rfl (fO bv rfl rfl ?_)))))))
   obtain ⟨i7, h2, H⟩ := bnd H
   obtain ⟨e8, e9, f1⟩ := aU h2
   refine bi rfl (fun _ _ a c => ak kS (a.ev rfl) i.form (a.ev rfl) e8 e9) (bi rfl (fun _ _ a c => ah bT (a.ev rfl) (uZ je i f1 c) rfl) (fQ (ag nW) rfl (bi rfl (fun _ _ a c => ah bT (a.ev rfl) (dR c (vs := [iv b.Y0, iv b.Y1, sL d b.Xs f]) (k := 15) rfl 1) rfl) (iE ?_))))
   obtain ⟨O, h3, H⟩ := bnd H
   refine sQ [2, 14] [bx g #[sL D G E] 121, ow D E 125 eO G] (U := (Option Addr × Nat)) (fun u => (.tuple #[])) (fun u => dM u.1 O.length u.2) (fun u => [bx g #[sL u.1 O u.2] 121, ow u.1 u.2 125 eO O]) rfl (aH rfl (aH rfl bn)) (fun _ => rfl) (wn rfl) rfl rfl Tryz.call111 (aj rfl (aj rfl (aj rfl (aj rfl aL)))) (fun W hW hp hE => lN i6 b.Y0 i7 b.Y1 G D E g O h3 hE) ?_
   intro u hu
   obtain ⟨X, Z⟩ := u
   have c8 := hu
   have b8 : dM X O.length Z := c8 --@phi
   dsimp only
   exact ae (aJ (aa (aI (aA rfl (aC bv rfl rfl (Tr.k rfl (ae (aD b3 (O, (bG (b7 + 2)), X, Z) ⟨H, b8⟩ (.r rfl) (.r rfl)))))))))
  ·refine bW (aB (aB (aR (aa ?_))))
   have b5 := Bs.Le.refl w
   refine kT (σ := (List fE) × (Option Addr) × Nat) (fun w s => jf N p0 (dn N p0 v (t + 1)) b t s.1 = some r ∧ dM s.2.1 s.1.length s.2.2) (fun s => [(0, sL l p0 o), (3, pV g), (4, pV j), (5, .func (.func 112) #[] #[pV j]), (6, iv (t : Int)), (7, pV F), (11, sL l p0 o), (12, iv (p0.length : Int)), (13, iv (t : Int))]) (fun s => [(2, bx g #[sL s.2.1 s.1 s.2.2] 121), (3, bx j #[.func (.func 111) #[] #[pV g]] 162), (14, ow s.2.1 s.2.2 125 eO s.1), (15, bx F #[iv b.Y0, iv b.Y1, sL d b.Xs f] 98)]) ?_ ?_
   ·refine az (jb (by kernel_rfl) (by kernel_rfl) (dD rfl (fO dL rfl rfl (dD rfl ?_))))
    obtain ⟨i8, a0, H⟩ := bnd H
    refine rz 10 [(0, sL l p0 o), (3, pV g), (4, pV j), (5, .func (.func 112) #[] #[pV j]), (6, iv (t : Int)), (7, pV F), (11, sL l p0 o), (12, iv (p0.length : Int)), (13, iv (t : Int)), (71, bV i8)] ?_ ?_
    ·cases c4 : ((t : Int) == 0)
     ·rw [c4] at a0
      rw [if_neg (by decide)] at a0
      have H := a0
      refine kg run_move rfl (kg run_move rfl (ug gH rfl rfl ?_))
      obtain ⟨k0, h4, H⟩ := bnd H
      obtain ⟨f2, f3, f4⟩ := aU h4
      obtain ⟨i9, f5, c9, f6⟩ := (q).el f4
      obtain ⟨j3, j4⟩ := i9
      have i0 := c9
      refine Tq.x (fun _ _ a c => ak oG (a.ev rfl) q.form (a.ev rfl) f2 f3) (kg (ag nW) rfl (Tq.x (fun _ _ a c => ah bT (a.ev rfl) (aF.drop (ut f5 f6 c) 1) rfl) (kg (ag pR) rfl (Tq.x (fun _ _ a c => ah bT (a.ev rfl) (dR c (vs := [iv b.Y0, iv b.Y1, sL d b.Xs f]) (k := 15) rfl 0) rfl) (ug bg rfl rfl (fO bE rfl rfl ?_))))))
      obtain rfl := oI H
      exact Tq.fin (.r rfl)
     ·rw [c4] at a0
      rw [if_pos rfl] at a0
      have H := a0
      obtain rfl := oI H
      refine cZ rfl (cZ rfl (cZ rfl (cZ rfl (cZ rfl (cZ rfl (cZ rfl ?_))))))
      exact cZ rfl (cZ rfl (fO bD rfl rfl (Tq.fin (.r rfl))))
    ·refine iE (aa (aP rfl H (fun H => ?_) (fun H => ?_)))
     ·refine aI (aA rfl (aT (ag pR) rfl (aG rfl (fun _ _ a c => ah bT (a.ev rfl) (dR c (vs := [iv b.Y0, iv b.Y1, sL d b.Xs f]) (k := 15) rfl 0) rfl) (aT (ag lg) rfl (aG rfl (fun _ _ a c => ah mR (a.ev rfl) (dR c (vs := [iv b.Y0, iv b.Y1, sL d b.Xs f]) (k := 15) rfl 2) rfl) ?_)))))
      obtain ⟨P, h5, H⟩ := bnd H
      refine sQ [2, 14] [bx g #[sL y C A] 121, ow y A 125 eO C] (U := (Option Addr × Nat)) (fun u => (.tuple #[])) (fun u => dM u.1 P.length u.2) (fun u => [bx g #[sL u.1 P u.2] 121, ow u.1 u.2 125 eO P]) rfl (aH rfl (aH rfl bn)) (fun _ => rfl) (wn rfl) rfl rfl Tryz.call112 (aj rfl (aj rfl (aj rfl aL))) (fun W hW hp hE => kW N b.Y0 [] none 0 (Sl.nil _ _ _) b.Xs d f (i.ext (hW.gM hp)) j C y A g (hW.EM (k := 3) rfl hp rfl) (hW.H5 (k := 3) rfl) P h5 hE) ?_
      intro u hu
      obtain ⟨a1, a2⟩ := u
      have d0 := hu
      have b9 : dM a1 P.length a2 := d0 --@phi
      dsimp only
      exact ae (aD b5 (P, a1, a2) ⟨H, b9⟩ (.r rfl) (.r rfl))
     ·refine kG 11 (by kernel_rfl) (by kernel_rfl) (dD rfl (fQ (ag pR) rfl (bi rfl (fun _ _ a c => ah bT (a.ev rfl) (dR c (vs := [iv b.Y0, iv b.Y1, sL d b.Xs f]) (k := 15) rfl 0) rfl) (dD rfl (dD rfl (fO gH rfl rfl ?_))))))
      obtain ⟨f7, h6, H⟩ := bnd H
      obtain ⟨f8, f9, g0⟩ := aU h6
      obtain ⟨j0, g1, d1, g2⟩ := (q).el g0
      obtain ⟨b1, b2⟩ := j0
      have Q := d1
      replace Q : Sl w.R w.W bK b1 b2 f7.Xs := Q
      refine bi rfl (fun _ _ a c => ak oG (a.ev rfl) q.form (a.ev rfl) f8 f9) (fQ (ag lg) rfl (bi rfl (fun _ _ a c => ah mR (a.ev rfl) (aF.drop (ut g1 g2 c) 2) rfl) (fQ (ag lg) rfl (bi rfl (fun _ _ a c => ah mR (a.ev rfl) (dR c (vs := [iv b.Y0, iv b.Y1, sL d b.Xs f]) (k := 15) rfl 2) rfl) (iE ?_)))))
      obtain ⟨S, h7, H⟩ := bnd H
      refine sQ [2, 14] [bx g #[sL y C A] 121, ow y A 125 eO C] (U := (Option Addr × Nat)) (fun u => (.tuple #[])) (fun u => dM u.1 S.length u.2) (fun u => [bx g #[sL u.1 S u.2] 121, ow u.1 u.2 125 eO S]) rfl (aH rfl (aH rfl bn)) (fun _ => rfl) (wn rfl) rfl rfl Tryz.call112 (aj rfl (aj rfl (aj rfl aL))) (fun W hW hp hE => kW N b.Y0 f7.Xs b1 b2 (Q.ext (hW.gM hp)) b.Xs d f (i.ext (hW.gM hp)) j C y A g (hW.EM (k := 3) rfl hp rfl) (hW.H5 (k := 3) rfl) S h7 hE) ?_
      intro u hu
      obtain ⟨a3, a4⟩ := u
      have d2 := hu
      have c0 : dM a3 S.length a4 := d2 --@phi
      dsimp only
      exact ae (aD b5 (S, a3, a4) ⟨H, c0⟩ (.r rfl) (.r rfl))
   ·intro w s b0 hs
    obtain ⟨T, K, L⟩ := s
    obtain ⟨H, b4⟩ := hs
    replace H : jf N p0 (dn N p0 v (t + 1)) b t T = some r := H
    replace q := q.nL b0
    replace i := i.nL b0
    replace M := M.trans b0
    replace b4 : dM K T.length L := b4
    unfold jf at H
    dsimp only
    refine az (jb (by kernel_rfl) (by kernel_rfl) (dD rfl (fO bv rfl rfl (dD rfl (fQ (bz sG) rfl (fO dL rfl rfl (dD rfl ?_)))))))
    obtain ⟨j1, a5, H⟩ := bnd H
    refine rz 10 [(0, sL l p0 o), (3, pV g), (4, pV j), (5, .func (.func 112) #[] #[pV j]), (7, pV F), (11, sL l p0 o), (12, iv (p0.length : Int)), (13, iv (t : Int)), (105, bV j1)] ?_ ?_
    ·cases c5 : ((bG ((t : Int) + 1)) == (p0.length : Int))
     ·rw [c5] at a5
      rw [if_neg (by decide)] at a5
      have H := a5
      refine kg run_move rfl (kg run_move rfl (ug bv rfl rfl ?_))
      obtain ⟨k1, h8, H⟩ := bnd H
      obtain ⟨g3, g4, g5⟩ := aU h8
      obtain ⟨j2, g6, d3, g7⟩ := (q).el g5
      obtain ⟨j5, j6⟩ := j2
      have i1 := d3
      refine Tq.x (fun _ _ a c => ak oG (a.ev rfl) q.form (a.ev rfl) g3 g4) (kg (ag pR) rfl (Tq.x (fun _ _ a c => ah bT (a.ev rfl) (aF.drop (ut g6 g7 c) 0) rfl) (kg (ag nW) rfl (Tq.x (fun _ _ a c => ah bT (a.ev rfl) (dR c (vs := [iv b.Y0, iv b.Y1, sL d b.Xs f]) (k := 15) rfl 1) rfl) (ug jq rfl rfl (fO bE rfl rfl ?_))))))
      obtain rfl := oI H
      exact Tq.fin (.r rfl)
     ·rw [c5] at a5
      rw [if_pos rfl] at a5
      have H := a5
      obtain rfl := oI H
      refine cZ rfl (cZ rfl (cZ rfl (cZ rfl (cZ rfl (cZ rfl (cZ rfl ?_))))))
      exact cZ rfl (cZ rfl (fO bD rfl rfl (Tq.fin (.r rfl))))
    ·refine iE (aa (aP rfl H (fun H => ?_) (fun H => ?_)))
     ·refine aI (aA rfl (aT (ag nW) rfl (aG rfl (fun _ _ a c => ah bT (a.ev rfl) (dR c (vs := [iv b.Y0, iv b.Y1, sL d b.Xs f]) (k := 15) rfl 1) rfl) (aT (ag lg) rfl (aG rfl (fun _ _ a c => ah mR (a.ev rfl) (dR c (vs := [iv b.Y0, iv b.Y1, sL d b.Xs f]) (k := 15) rfl 2) rfl) ?_)))))
      obtain ⟨V, h9, H⟩ := bnd H
      refine sQ [2, 14] [bx g #[sL K T L] 121, ow K L 125 eO T] (U := (Option Addr × Nat)) (fun u => (.tuple #[])) (fun u => dM u.1 V.length u.2) (fun u => [bx g #[sL u.1 V u.2] 121, ow u.1 u.2 125 eO V]) rfl (aH rfl (aH rfl bn)) (fun _ => rfl) (wn rfl) rfl rfl Tryz.call112 (aj rfl (aj rfl (aj rfl aL))) (fun W hW hp hE => kW N b.Y1 b.Xs d f (i.ext (hW.gM hp)) [] none 0 (Sl.nil _ _ _) j T K L g (hW.EM (k := 3) rfl hp rfl) (hW.H5 (k := 3) rfl) V h9 hE) ?_
      intro u hu
      obtain ⟨a6, a7⟩ := u
      have d4 := hu
      have c3 : dM a6 V.length a7 := d4 --@phi
      dsimp only
      exact ae (aJ (aa (aI (aC bv rfl rfl (aA rfl (ae (aD M (v, (t + 1), V, a6, a7) ⟨rfl, fe B, bF B, H, c3⟩ (.cons rfl (.cons rfl (.cons rfl (.cons rfl (.cons rfl (.cons rfl (.cons (congrArg (fun z => some (Value.int .i64 z)) (eZ B q.form)) .nil))))))) (.r rfl))))))))
     ·exact aN (aJ (aa (aI (aC bv rfl rfl (aA rfl (ae (aD M (v, (t + 1), T, K, L) ⟨rfl, fe B, bF B, H, b4⟩ (.cons rfl (.cons rfl (.cons rfl (.cons rfl (.cons rfl (.cons rfl (.cons (congrArg (fun z => some (Value.int .i64 z)) (eZ B q.form)) .nil))))))) (.r rfl))))))))

theorem oZ {w : Bs} (p0 : Int) (r : Int) (H : jN p0 = some r) (hE : HF w w.W E0) : Calls Tryz.prog 116 [iv p0].toArray w.W fun e W' => e = .returned (iv r) ∧ HF w W' E0 := by
 unfold jN at H
 have leB := Bs.Le.refl w
 refine aZ (n := 6) Tryz.func116 rfl rfl rfl hE (ai (Tr.k rfl (ae (aa (ai (aA rfl (aG rfl (fun _ _ a c => zq (a.ev rfl) (a.ev rfl) _) (aG rfl (fun _ _ a c => xz (a.ev rfl) (a.ev rfl) _) (Tr.k rfl (ae (aa (aW ?_))))))))))))
 obtain rfl := oI H
 exact dQ leB

theorem kU {w : Bs} (p0 : fE) (r : au) (H : gB p0 = some r) (hE : HF w w.W E0) : Calls Tryz.prog 70 [.agg #[iv p0.from_.X, iv p0.from_.Y, iv p0.to_.X, iv p0.to_.Y]].toArray w.W fun e W' => e = .returned (.agg #[iv r.X, iv r.Y]) ∧ HF w W' E0 := by
 unfold gB at H
 have leB := Bs.Le.refl w
 refine aZ (n := 23) Tryz.func70 rfl rfl rfl hE (ai (gN 1 (cs := [iv p0.from_.X, iv p0.from_.Y, iv p0.to_.X, iv p0.to_.Y]) (wn rfl) rfl rfl rfl fun h => (Tr.alloc 2 (wn rfl) rfl vQ fun i => (ae (aa (ai (Tr.k rfl (ae (aa (az (kG 17 (by kernel_rfl) (by kernel_rfl) (dD rfl (fQ (ag yQ) rfl (fQ (ag nC) rfl (bi rfl (fun _ _ a c => ah bT (a.ev rfl) (dR c (vs := [iv p0.from_.X, iv p0.from_.Y, iv p0.to_.X, iv p0.to_.Y]) (k := 1) rfl 2) rfl) (fQ (ag yR) rfl (fQ (ag nC) rfl (bi rfl (fun _ _ a c => ah bT (a.ev rfl) (dR c (vs := [iv p0.from_.X, iv p0.from_.Y, iv p0.to_.X, iv p0.to_.Y]) (k := 1) rfl 0) rfl) (fO gH rfl rfl ?_)))))))))))))))))))
 obtain ⟨b, f, H⟩ := bnd H
 refine oo (r := (iv b)) (wn rfl) rfl rfl Tryz.call116 (aj rfl aL) (fun W hW => oZ (bG (p0.to_.X - p0.from_.X)) b f (HF.start _)) (dD rfl (fQ (ag yQ) rfl (fQ (ag lm) rfl (bi rfl (fun _ _ a c => ah bT (a.ev rfl) (dR c (vs := [iv p0.from_.X, iv p0.from_.Y, iv p0.to_.X, iv p0.to_.Y]) (k := 1) rfl 3) rfl) (fQ (ag yR) rfl (fQ (ag lm) rfl (bi rfl (fun _ _ a c => ah bT (a.ev rfl) (dR c (vs := [iv p0.from_.X, iv p0.from_.Y, iv p0.to_.X, iv p0.to_.Y]) (k := 1) rfl 1) rfl) (fO gH rfl rfl (iE ?_)))))))))
 obtain ⟨d, g, H⟩ := bnd H
 refine vw (r := (iv d)) (wn rfl) rfl rfl Tryz.call116 (aj rfl aL) (fun W hW => oZ (bG (p0.to_.Y - p0.from_.Y)) d g (HF.start _)) (jh (vs := [(0, iv b), (1, iv d)]) (cs := [iv b, iv d]) (wn rfl) rfl (bH rfl (bH rfl eF)) (by kernel_rfl) (bJ 2 (cs := [iv b, iv d]) [iv b, iv d] (wn rfl) rfl rfl rfl rfl gV rfl rfl rfl (ae (aa (aW ?_)))))
 obtain rfl := oI H
 exact Tr.out (m := [.agg #[iv b, iv d]]) [2] (og rfl rfl jZ gV bO) (fun W hW => ⟨rfl, hW.low leB⟩)

theorem vO {w : Bs} (p0 : fE) (r : au) (H : kX p0 = some r) (hE : HF w w.W E0) : Calls Tryz.prog 69 [.agg #[iv p0.from_.X, iv p0.from_.Y, iv p0.to_.X, iv p0.to_.Y]].toArray w.W fun e W' => e = .returned (.agg #[iv r.X, iv r.Y]) ∧ HF w W' E0 := by
 unfold kX at H
 have leB := Bs.Le.refl w
 refine aZ (n := 12) Tryz.func69 rfl rfl rfl hE (ai (gN 1 (cs := [iv p0.from_.X, iv p0.from_.Y, iv p0.to_.X, iv p0.to_.Y]) (wn rfl) rfl rfl rfl fun f => (Tr.alloc 2 (wn rfl) rfl vQ fun g => (ae (aa (ai (aG rfl (fun _ _ a c => aM (cs := [iv p0.from_.X, iv p0.from_.Y, iv p0.to_.X, iv p0.to_.Y]) sP qf (a.ev rfl) (aF.take (dR c (vs := [iv p0.from_.X, iv p0.from_.Y, iv p0.to_.X, iv p0.to_.Y]) (k := 1) rfl 0) 4) rfl) ?_)))))))
 obtain ⟨b, d, H⟩ := bnd H
 refine di (r := (.agg #[iv b.X, iv b.Y])) (wn rfl) rfl Tryz.call70 (aj rfl aL) (fun W hW => kU p0 b d (HF.start _)) (Tr.alloc 3 (wn rfl) rfl vQ fun h => (bJ 3 (cs := [iv b.X, iv b.Y]) [iv b.X, iv b.Y] (wn rfl) rfl rfl rfl rfl gV rfl rfl rfl (ae (aa (ai (aT (ag lm) rfl (aG rfl (fun _ _ a c => ah bT (a.ev rfl) (dR c (vs := [iv b.X, iv b.Y]) (k := 3) rfl 1) rfl) (aT Lj rfl (aT (ag nC) rfl (aG rfl (fun _ _ a c => ah bT (a.ev rfl) (dR c (vs := [iv b.X, iv b.Y]) (k := 3) rfl 0) rfl) (jh (vs := [(0, iv (bG (0 - b.Y))), (1, iv b.X)]) (cs := [iv (bG (0 - b.Y)), iv b.X]) (wn rfl) rfl (bH rfl (bH rfl eF)) (by kernel_rfl) (bJ 2 (cs := [iv (bG (0 - b.Y)), iv b.X]) [iv (bG (0 - b.Y)), iv b.X] (wn rfl) rfl rfl rfl rfl gV rfl rfl rfl ?_))))))))))))
 refine ae (aa (aW ?_))
 obtain rfl := oI H
 exact Tr.out (m := [.agg #[iv (bG (0 - b.Y)), iv b.X]]) [2] (og rfl rfl jZ gV bO) (fun W hW => ⟨rfl, hW.low leB⟩)

theorem uA {w : Bs} (p0 : au) (p1 : au) (r : Bool) (H : oN p0 p1 = some r) (hE : HF w w.W E0) : Calls Tryz.prog 76 [.agg #[iv p0.X, iv p0.Y], .agg #[iv p1.X, iv p1.Y]].toArray w.W fun e W' => e = .returned (bV r) ∧ HF w W' E0 := by
 unfold oN at H
 have leB := Bs.Le.refl w
 refine aZ (n := 24) Tryz.func76 rfl rfl rfl hE (ai (gN 1 (cs := [iv p0.X, iv p0.Y]) (wn rfl) rfl rfl rfl fun b => (gN 2 (cs := [iv p1.X, iv p1.Y]) (wn rfl) rfl rfl rfl fun d => (Tr.k rfl (ae (aa (ai (aT (ag lm) rfl (aG rfl (fun _ _ a c => ah bT (a.ev rfl) (dR c (vs := [iv p0.X, iv p0.Y]) (k := 1) rfl 1) rfl) (aT (ag lm) rfl (aG rfl (fun _ _ a c => ah bT (a.ev rfl) (dR c (vs := [iv p1.X, iv p1.Y]) (k := 2) rfl 1) rfl) (aC bg rfl rfl (aA rfl (dX 13 [(23, bV ((decide (p0.Y < p1.Y)) || ((p0.Y == p1.Y) && (decide (p0.X < p1.X)))))] [(1, bx b #[iv p0.X, iv p0.Y] 47), (2, bx d #[iv p1.X, iv p1.Y] 47)] ?_ ?_))))))))))))))
 ·cases f : (decide (p0.Y < p1.Y))
  ·refine dU (ag lm) rfl (Tr.x (fun _ _ a c => ah bT (a.ev rfl) (dR c (vs := [iv p0.X, iv p0.Y]) (k := 1) rfl 1) rfl) (dU (ag lm) rfl (Tr.x (fun _ _ a c => ah bT (a.ev rfl) (dR c (vs := [iv p1.X, iv p1.Y]) (k := 2) rfl 1) rfl) (kF dL rfl rfl (dU run_move rfl (dX 6 [(10, bV false), (22, bV ((p0.Y == p1.Y) && (decide (p0.X < p1.X))))] [(1, bx b #[iv p0.X, iv p0.Y] 47), (2, bx d #[iv p1.X, iv p1.Y] 47)] ?_ ?_))))))
   ·cases f : (p0.Y == p1.Y)
    ·exact bf rfl (bf rfl (bf rfl (bf rfl (bf rfl (kF bE rfl rfl (ae (bu (.r rfl) (.r rfl))))))))
    ·exact dU (ag nC) rfl (Tr.x (fun _ _ a c => ah bT (a.ev rfl) (dR c (vs := [iv p0.X, iv p0.Y]) (k := 1) rfl 0) rfl) (dU (ag nC) rfl (Tr.x (fun _ _ a c => ah bT (a.ev rfl) (dR c (vs := [iv p1.X, iv p1.Y]) (k := 2) rfl 0) rfl) (kF bg rfl rfl (kF bD rfl rfl (ae (bu (.r rfl) (.r rfl))))))))
   ·dsimp only
    exact aC bE rfl rfl (ae (bu (.r rfl) (.r rfl)))
  ·refine bf rfl (bf rfl (bf rfl (bf rfl (bf rfl (bf rfl (tY rfl ?_))))))
   exact tY rfl (tY rfl (tY rfl (tY rfl (bf rfl (aC bD rfl rfl (ae (bu (.r rfl) (.r rfl))))))))
 ·show Tr _ _ (LF [(23, bV ((decide (p0.Y < p1.Y)) || ((p0.Y == p1.Y) && (decide (p0.X < p1.X)))))]) (LE [(1, bx b #[iv p0.X, iv p0.Y] 47), (2, bx d #[iv p1.X, iv p1.Y] 47)]) _
  refine Tr.k rfl (ae (aa (aW ?_)))
  obtain rfl := oI H
  exact dQ leB

theorem wW {w : Bs} (p1 : Int) (r : (List au)) (H : Ut p1 = some r) (hE : HF w w.W (iF [emp])) : Calls Tryz.prog 161 [.slice none 0 0, iv p1].toArray w.W fun e W' => ∃ u : (Option Addr × Nat), e = .returned (sL u.1 r u.2) ∧ (dM u.1 r.length u.2) ∧ HF w W' (iF [ow u.1 u.2 47 aX r]) :=
 KC (ρ := Tryz.CB) Tryz.QQ rfl gV Ik (by decide) Jz rfl H hE

theorem wF {w : Bs} (p0 : (List (List au))) (g : Option Addr) (i : Nat) (b : Sl w.R w.W dV g i p0) (r : (List au)) (H : jX p0 = some r) (hE : HF w w.W (iF [emp])) : Calls Tryz.prog 117 [sL g p0 i].toArray w.W fun e W' => ∃ u : (Option Addr × Nat), e = .returned (sL u.1 r u.2) ∧ (dM u.1 r.length u.2) ∧ HF w W' (iF [ow u.1 u.2 47 aX r]) := by
 unfold jX at H
 have leB := Bs.Le.refl w
 refine aZ (n := 36) Tryz.func117 rfl rfl rfl hE (ai (Tr.k rfl (bM 1 47 aX ?_)))
 show Tr _ _ (uf _ 2 (sL none (([] : List au)) 0)) _ _
 refine ae (aa (ai (Tr.k rfl (ae (aa (az (ai (aA rfl (aT (bz Fy) rfl (aA rfl (ae (aa (Tr.block (df (σ := (List (List au)) × Nat × Int) (fun m w s => m = s.1.length + 1 ∧ s.1 = List.drop s.2.1 p0 ∧ s.2.1 ≤ p0.length ∧ fZ p0 s.1 s.2.1 s.2.2 = some r) (fun s => [(0, sL g p0 i), (3, iv s.2.2), (9, sL g p0 i), (10, iv (p0.length : Int)), (11, iv (s.2.1 : Int))]) (fun s => []) (p0.length + 1) (p0, 0, 0) ⟨rfl, rfl, Nat.zero_le _, H⟩ (.r rfl) .nil (fun _ _ h => absurd h.1 (by simp)) ?_))))))))))))))
 intro w G m s hs
 obtain ⟨d, M, E⟩ := s
 obtain ⟨I, j, b4, H⟩ := hs
 replace j : d = List.drop M p0 := j
 replace H : fZ p0 d M E = some r := H
 replace I : m + 1 = d.length + 1 := I
 replace b := b.nL G
 replace leB := leB.trans G
 obtain rfl : m = d.length := by omega
 clear I
 dsimp only
 cases d with
 | nil =>
  rw [fZ.eq_1] at H
  refine ai (aC bg rfl rfl (ae (aa (az (eQ rfl (dZ j) (bW (aB (aB (aR (aa (ai (aA rfl ?_))))))))))))
  obtain ⟨q, a2, H⟩ := bnd H
  refine ja [2] [emp] (U := (Option Addr × Nat)) (fun u => (sL u.1 q u.2)) (fun u => dM u.1 q.length u.2) (fun u => [ow u.1 u.2 47 aX q]) rfl (aH rfl bn) (fun _ => rfl) (wn rfl) rfl Tryz.call161 (aj rfl (aj rfl aL)) (fun W hW hp hE => wW E q a2 hE) ?_
  intro u hu
  obtain ⟨y, A⟩ := u
  have O := hu
  have J : dM y q.length A := O --@phi
  dsimp only
  refine Tr.k rfl (ae (aa (az (ai (aA rfl (aT (bz Fy) rfl (aA rfl (ae (aa (Tr.block (df (σ := (List (List au)) × Nat × (List au) × (Option Addr) × Nat) (fun m w s => m = s.1.length + 1 ∧ s.1 = List.drop s.2.1 p0 ∧ s.2.1 ≤ p0.length ∧ fV s.1 s.2.1 s.2.2.1 = some r ∧ dM s.2.2.2.1 s.2.2.1.length s.2.2.2.2) (fun s => [(6, sL s.2.2.2.1 s.2.2.1 s.2.2.2.2), (25, sL g p0 i), (26, iv (p0.length : Int)), (27, iv (s.2.1 : Int))]) (fun s => [(2, ow s.2.2.2.1 s.2.2.2.2 47 aX s.2.2.1)]) (p0.length + 1) (p0, 0, q, y, A) ⟨rfl, rfl, Nat.zero_le _, H, J⟩ (.r rfl) (.r rfl) (fun _ _ h => absurd h.1 (by simp)) ?_)))))))))))
  intro w K m s hs
  obtain ⟨f, N, D, B, C⟩ := s
  obtain ⟨L, o, b5, H, F⟩ := hs
  replace o : f = List.drop N p0 := o
  replace H : fV f N D = some r := H
  replace L : m + 1 = f.length + 1 := L
  replace b := b.nL K
  replace leB := leB.trans K
  replace F : dM B D.length C := F
  obtain rfl : m = f.length := by omega
  clear L
  dsimp only
  cases f with
  | nil =>
   rw [fV.eq_1] at H
   refine ai (aC bg rfl rfl (ae (aa (az (eQ rfl (dZ o) (bW (aB (aB (aR (aa (ai (aA rfl (Tr.k rfl (ae (aa (aW ?_))))))))))))))))
   obtain rfl := oI H
   exact Tr.out (m := [sL B D C]) [] (cO rfl bO) (fun W hW => ⟨(B, C), rfl, F, HF.zK leB (hW.pick (ks := [2]) (by decide) (aH rfl bn)) ⟨qI _ _ _ _ uP, trivial⟩⟩)
  | cons a6 f =>
   rw [fV.eq_2] at H
   refine ai (aC bg rfl rfl (ae (aa (az (eP rfl (fJ o) (aN (aa (az (Tr.block (ai ?_))))))))))
   obtain ⟨a8, V, P, X⟩ := (b).el (gy o)
   obtain ⟨Q, S⟩ := a8
   have v := P
   replace v : Sl w.R w.W aX Q S a6 := v
   refine aG rfl (fun _ _ a c => ak Jq (a.ev rfl) b.form (a.ev rfl) (Int.natCast_nonneg _) (bF o)) (aG rfl (fun _ _ a c => ah tT (a.ev rfl) (ut V X c) rfl) (Tr.k rfl (ae (aa (aI (aA rfl (aA rfl ?_)))))))
   obtain ⟨a9, a3, H⟩ := bnd H
   exact vz 2 (t := aX) (l := D) (l2 := a6) (wn rfl) rfl rfl rfl rfl (Vw uP (fun W hW => (Sl.Cz v hW))) qc gV Ik (by decide) Jz rfl a3 fun a4 a5 Z => (Tr.k rfl (ae (aJ (aa (aI (aC bv rfl rfl (aA rfl (ae (aD K (f, (N + 1), a9, a4, a5) ⟨rfl, fe o, bF o, H, Z⟩ (.cons rfl (.cons rfl (.cons rfl (.cons (congrArg (fun z => some (Value.int .i64 z)) (eZ o b.form)) .nil)))) (.r rfl))))))))))
 | cons b3 d =>
  rw [fZ.eq_2] at H
  refine ai (aC bg rfl rfl (ae (aa (az (eP rfl (fJ j) (aN (aa (az (Tr.block (ai ?_))))))))))
  obtain ⟨b0, a0, T, a1⟩ := (b).el (gy j)
  obtain ⟨b1, b2⟩ := b0
  have a7 := T
  refine aG rfl (fun _ _ a c => ak Jq (a.ev rfl) b.form (a.ev rfl) (Int.natCast_nonneg _) (bF j)) (aG rfl (fun _ _ a c => ah tT (a.ev rfl) (ut a0 a1 c) rfl) (Tr.k rfl (ae (aa (ai (aA rfl (aA rfl (aT (bz qc) rfl (aC bv rfl rfl (Tr.k rfl (ae (aa (ai (aA rfl (aC bg rfl rfl (ae (aa (aP rfl H (fun H => ?_) (fun H => ?_)))))))))))))))))))
  ·cases H
  ·exact aN (aJ (aa (aI (aC bv rfl rfl (aA rfl (ae (aD G (d, (M + 1), (bG (E + (b3.length : Int)))) ⟨rfl, fe j, bF j, H⟩ (.cons rfl (.cons rfl (.cons rfl (.cons rfl (.cons (congrArg (fun z => some (Value.int .i64 z)) (eZ j b.form)) .nil))))) .nil)))))))

end Go.Proofs.YtcjeebkoafonpaaGreatDoor
