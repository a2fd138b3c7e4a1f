/- The walks: each function computes its plain function. -/
import Derived.Test.YtcjeebkoafonpaaGreatDoorXF
namespace Go.Proofs.YtcjeebkoafonpaaGreatDoor
open Go.RowKit
set_option maxRecDepth 100000
set_option maxHeartbeats 1000000
theorem BA {w : Bs} (p0 : Int) (p1 : Int) (p2 : Int) (r : Bool) (H : sU p0 p1 p2 = some r) (hE : HF w w.W E0) : Calls Tryz.prog 194 [iv p0, iv p1, iv p2].toArray w.W fun e W' => e = .returned (bV r) ∧ HF w W' E0 := by
 unfold sU at H
 have leB := Bs.Le.refl w
 refine bB (n := 15) Tryz.func194 rfl rfl rfl hE (aj (Tr.k rfl (ae (aa (aj (av rfl (av rfl (az tZ rfl rfl (av rfl (dW 4 [(14, bV ((decide (p1 ≤ p0)) && (decide (p0 ≤ p2))))] [] ?_ ?_))))))))))
 ·cases a : (decide (p1 ≤ p0))
  ·exact aS rfl (aS rfl (aS rfl (az bv rfl rfl (ae (bu (.r rfl) .nil)))))
  ·exact cz run_move rfl (cz run_move rfl (iZ nk rfl rfl (az bC rfl rfl (ae (bu (.r rfl) .nil)))))
 ·show Tr _ _ (LF [(14, bV ((decide (p1 ≤ p0)) && (decide (p0 ≤ p2))))]) (LE []) _
  refine Tr.k rfl (ae (aa (bg ?_)))
  obtain rfl := oI H
  exact dM leB

theorem rQ {w : Bs} (p0 : Int) (r : Bool) (H : qh p0 = some r) (hE : HF w w.W E0) : Calls Tryz.prog 141 [iv p0].toArray w.W fun e W' => e = .returned (bV r) ∧ HF w W' E0 := by
 unfold qh at H
 have leB := Bs.Le.refl w
 refine bB (n := 5) Tryz.func141 rfl rfl rfl hE (aj (Tr.k rfl (ae (aa (aj (av rfl ?_))))))
 obtain ⟨a, b, H⟩ := bnd H
 refine dn (r := (bV a)) (wn rfl) rfl Tryz.call194 (ak rfl (ak rfl (ak rfl aQ))) (fun W hW => BA p0 (-1000000) 1000000 a b (HF.start _)) (Tr.k rfl (ae (aa (bg ?_))))
 obtain rfl := oI H
 exact dM leB

theorem BB {w : Bs} (p0 : aI) (r : Bool) (H : qY p0 = some r) (hE : HF w w.W E0) : Calls Tryz.prog 104 [.agg #[iv p0.X0, iv p0.Y0, iv p0.X1, iv p0.Y1]].toArray w.W fun e W' => e = .returned (bV r) ∧ HF w W' E0 := by
 unfold qY at H
 have leB := Bs.Le.refl w
 refine bB (n := 21) Tryz.func104 rfl rfl rfl hE (aj (jN 1 (cs := [iv p0.X0, iv p0.Y0, iv p0.X1, iv p0.Y1]) (wn rfl) rfl rfl rfl fun d => (Tr.k rfl (ae (aa (aj (aU (ag qJ) rfl (aP rfl (fun _ _ a c => ah bQ (a.ev rfl) (dZ c (vs := [iv p0.X0, iv p0.Y0, iv p0.X1, iv p0.Y1]) (k := 1) rfl 0) rfl) ?_))))))))
 obtain ⟨i, u, H⟩ := bnd H
 refine dn (r := (bV i)) (wn rfl) rfl Tryz.call141 (ak rfl aQ) (fun W hW => rQ p0.X0 i u (HF.start _)) (av rfl ?_)
 obtain ⟨j, f, H⟩ := bnd H
 refine dW 4 [(1, pV d), (10, bV j)] [(1, bx d #[iv p0.X0, iv p0.Y0, iv p0.X1, iv p0.Y1] 38)] ?_ ?_
 ·cases b : i
  ·rw [b] at f
   rw [if_neg (by decide)] at f
   have H := f
   obtain rfl := oI H
   exact aS rfl (aS rfl (aS rfl (az bv rfl rfl (ae (bu (.r rfl) (.r rfl))))))
  ·rw [b] at f
   rw [if_pos rfl] at f
   have H := f
   refine cz (ag nO) rfl (Tr.x (fun _ _ a c => ah bQ (a.ev rfl) (dZ c (vs := [iv p0.X0, iv p0.Y0, iv p0.X1, iv p0.Y1]) (k := 1) rfl 1) rfl) ?_)
   obtain ⟨o, v, H⟩ := bnd H
   refine dn (r := (bV o)) (wg rfl rfl rfl) rfl Tryz.call141 (ak rfl aQ) (fun W hW => rQ p0.Y0 o v (HF.start _)) (az bC rfl rfl ?_)
   obtain rfl := oI H
   exact ae (bu (.r rfl) (.r rfl))
 ·show Tr _ _ (LF [(1, pV d), (10, bV j)]) (LE [(1, bx d #[iv p0.X0, iv p0.Y0, iv p0.X1, iv p0.Y1] 38)]) _
  refine av rfl ?_
  obtain ⟨l, g, H⟩ := bnd H
  refine dW 4 [(1, pV d), (15, bV l)] [(1, bx d #[iv p0.X0, iv p0.Y0, iv p0.X1, iv p0.Y1] 38)] ?_ ?_
  ·cases b : j
   ·rw [b] at g
    rw [if_neg (by decide)] at g
    have H := g
    obtain rfl := oI H
    exact aS rfl (aS rfl (aS rfl (az bv rfl rfl (ae (bu (.r rfl) (.r rfl))))))
   ·rw [b] at g
    rw [if_pos rfl] at g
    have H := g
    refine cz (ag wS) rfl (Tr.x (fun _ _ a c => ah bQ (a.ev rfl) (dZ c (vs := [iv p0.X0, iv p0.Y0, iv p0.X1, iv p0.Y1]) (k := 1) rfl 2) rfl) ?_)
    obtain ⟨q, y, H⟩ := bnd H
    refine dn (r := (bV q)) (wg rfl rfl rfl) rfl Tryz.call141 (ak rfl aQ) (fun W hW => rQ p0.X1 q y (HF.start _)) (az bC rfl rfl ?_)
    obtain rfl := oI H
    exact ae (bu (.r rfl) (.r rfl))
  ·show Tr _ _ (LF [(1, pV d), (15, bV l)]) (LE [(1, bx d #[iv p0.X0, iv p0.Y0, iv p0.X1, iv p0.Y1] 38)]) _
   refine av rfl ?_
   obtain ⟨s, h, H⟩ := bnd H
   refine dW 4 [(20, bV s)] [(1, bx d #[iv p0.X0, iv p0.Y0, iv p0.X1, iv p0.Y1] 38)] ?_ ?_
   ·cases b : l
    ·rw [b] at h
     rw [if_neg (by decide)] at h
     have H := h
     obtain rfl := oI H
     exact aS rfl (aS rfl (aS rfl (az bv rfl rfl (ae (bu (.r rfl) (.r rfl))))))
    ·rw [b] at h
     rw [if_pos rfl] at h
     have H := h
     refine cz (ag vk) rfl (Tr.x (fun _ _ a c => ah bQ (a.ev rfl) (dZ c (vs := [iv p0.X0, iv p0.Y0, iv p0.X1, iv p0.Y1]) (k := 1) rfl 3) rfl) ?_)
     obtain ⟨t, z, H⟩ := bnd H
     refine dn (r := (bV t)) (wg rfl rfl rfl) rfl Tryz.call141 (ak rfl aQ) (fun W hW => rQ p0.Y1 t z (HF.start _)) (az bC rfl rfl ?_)
     obtain rfl := oI H
     exact ae (bu (.r rfl) (.r rfl))
   ·show Tr _ _ (LF [(20, bV s)]) (LE [(1, bx d #[iv p0.X0, iv p0.Y0, iv p0.X1, iv p0.Y1] 38)]) _
    refine Tr.k rfl (ae (aa (bg ?_)))
    obtain rfl := oI H
    exact dM leB

theorem yJ {w : Bs} (p0 : (List aI)) (g : Option Addr) (i : Nat) (j : Sl w.R w.W bz g i p0) (r : Int) (H : om p0 = some r) (hE : HF w w.W E0) : Calls Tryz.prog 58 [sL g p0 i].toArray w.W fun e W' => e = .returned (iv r) ∧ HF w W' E0 := by
 unfold om at H
 have leB := Bs.Le.refl w
 refine bB (n := 30) Tryz.func58 rfl rfl rfl hE (aj (Tr.k rfl (ae (aa (ay (aj (av rfl (aU (bi pR) rfl (az kX rfl rfl (ae (aa (aN rfl H (fun H => ?_) (fun H => ?_)))))))))))))
 ·refine aj (Tr.k rfl (ae (aa (bg (aL ?_)))))
  obtain rfl := oI H
  exact dM leB
 ·refine aK (aa (ay (aj (av rfl (aU (bi pR) rfl (av rfl (ae (aa (Tr.block (bT (σ := (List aI) × Nat) (fun m w s => m = s.1.length + 1 ∧ s.1 = List.drop s.2 p0 ∧ s.2 ≤ p0.length ∧ iH s.1 s.2 = some r) (fun s => [(8, sL g p0 i), (9, iv (p0.length : Int)), (10, iv (s.2 : Int))]) (fun s => []) (p0.length + 1) (p0, 0) ⟨rfl, rfl, Nat.zero_le _, H⟩ (.r rfl) .nil (fun _ _ h => absurd h.1 (by simp)) ?_))))))))))
  intro w o m s hs
  obtain ⟨d, l⟩ := s
  obtain ⟨q, f, A, H⟩ := hs
  replace f : d = List.drop l p0 := f
  replace H : iH d l = some r := H
  replace q : m + 1 = d.length + 1 := q
  replace j := j.qG o
  replace leB := leB.trans o
  obtain rfl : m = d.length := by omega
  clear q
  dsimp only
  cases d with
  | nil =>
   rw [iH.eq_1] at H
   refine aj (az aX rfl rfl (ae (aa (ay (jB rfl (ji f) (bO (au (au (aM (aa (aj (Tr.k rfl (ae (aa (bg ?_)))))))))))))))
   obtain rfl := oI H
   exact dM leB
  | cons b d =>
   rw [iH.eq_2] at H
   refine aj (az aX rfl rfl (ae (aa (ay (jA rfl (jW f) (aK (aa (ay (Tr.block (aj (aP rfl (fun _ _ a c => ai oP (a.ev rfl) j.form (a.ev rfl) (Int.natCast_nonneg _) (ed f)) (aP rfl (fun _ _ a c => aO (cs := [iv b.X0, iv b.Y0, iv b.X1, iv b.Y1]) sP nV (a.ev rfl) (aC.take (oM iY j (lN f) c) 4) rfl) (Tr.alloc 2 (wn rfl) rfl zX fun t => (dm 2 (cs := [iv b.X0, iv b.Y0, iv b.X1, iv b.Y1]) [iv b.X0, iv b.Y0, iv b.X1, iv b.Y1] (wn rfl) rfl rfl rfl rfl nV rfl rfl rfl (ae (aa (ay (aj (aP rfl (fun _ _ a c => aO (cs := [iv b.X0, iv b.Y0, iv b.X1, iv b.Y1]) sP nV (a.ev rfl) (aC.take (dZ c (vs := [iv b.X0, iv b.Y0, iv b.X1, iv b.Y1]) (k := 2) rfl 0) 4) rfl) ?_)))))))))))))))))))
   obtain ⟨u, v, H⟩ := bnd H
   refine dn (r := (bV u)) (wn rfl) rfl Tryz.call104 (ak rfl aQ) (fun W hW => BB b u v (HF.start _)) (aU jP rfl (ae (aa (aN rfl H (fun H => ?_) (fun H => ?_)))))
   ·refine aj (Tr.k rfl (ae (aa (bg (aL (cB (aL (aL (cB (aL ?_))))))))))
    obtain rfl := oI H
    exact dM leB
   ·refine aK (aa (aj (aU (ag wS) rfl (aP rfl (fun _ _ a c => ah bQ (a.ev rfl) (dZ c (vs := [iv b.X0, iv b.Y0, iv b.X1, iv b.Y1]) (k := 2) rfl 2) rfl) (aU (ag qJ) rfl (aP rfl (fun _ _ a c => ah bQ (a.ev rfl) (dZ c (vs := [iv b.X0, iv b.Y0, iv b.X1, iv b.Y1]) (k := 2) rfl 0) rfl) (az nk rfl rfl (av rfl (dW 6 [(8, sL g p0 i), (9, iv (p0.length : Int)), (10, iv (l : Int)), (28, bV ((decide (b.X1 ≤ b.X0)) || (decide (b.Y1 ≤ b.Y0))))] [(2, bx t #[iv b.X0, iv b.Y0, iv b.X1, iv b.Y1] 38)] ?_ ?_)))))))))
    ·cases y : (decide (b.X1 ≤ b.X0))
     ·exact cz (ag vk) rfl (Tr.x (fun _ _ a c => ah bQ (a.ev rfl) (dZ c (vs := [iv b.X0, iv b.Y0, iv b.X1, iv b.Y1]) (k := 2) rfl 3) rfl) (cz (ag nO) rfl (Tr.x (fun _ _ a c => ah bQ (a.ev rfl) (dZ c (vs := [iv b.X0, iv b.Y0, iv b.X1, iv b.Y1]) (k := 2) rfl 1) rfl) (iZ nk rfl rfl (az bv rfl rfl (ae (bu (.r rfl) (.r rfl))))))))
     ·exact aS rfl (aS rfl (aS rfl (aS rfl (aS rfl (az bC rfl rfl (ae (bu (.r rfl) (.r rfl))))))))
    ·show Tr _ _ (LF [(8, sL g p0 i), (9, iv (p0.length : Int)), (10, iv (l : Int)), (28, bV ((decide (b.X1 ≤ b.X0)) || (decide (b.Y1 ≤ b.Y0))))]) (LE [(2, bx t #[iv b.X0, iv b.Y0, iv b.X1, iv b.Y1] 38)]) _
     refine ae (aa (aN rfl H (fun H => ?_) (fun H => ?_)))
     ·refine aj (Tr.k rfl (ae (aa (bg (cB (aL (aL (cB (aL ?_)))))))))
      obtain rfl := oI H
      exact dM leB
     ·exact aK (aH (aa (aD (az aZ rfl rfl (av rfl (ae (aB o (d, (l + 1)) ⟨rfl, jV f, ed f, H⟩ (.cons rfl (.cons rfl (.cons (congrArg (fun z => some (Value.int .i64 z)) (jU f j.form)) .nil))) .nil)))))))

theorem yn {w : Bs} (p0 : (List aI)) (a : Option Addr) (b : Nat) (c : Sl w.R w.W bz a b p0) (r : (List aI)) (H : pJ p0 = some r) (hE : HF w w.W (kw [emp])) : Calls Tryz.prog 59 [sL a p0 b].toArray w.W fun e W' => ∃ u : (Option Addr × Nat), e = .returned (sL u.1 r u.2) ∧ (fC u.1 r.length u.2) ∧ HF w W' (kw [ow u.1 u.2 38 bz r]) := by
 unfold pJ at H
 have leB := Bs.Le.refl w
 refine bB (n := 8) Tryz.func59 rfl rfl rfl hE (aj (Tr.k rfl (bS 1 38 bz ?_)))
 show Tr _ _ (uf _ 2 (sL none (([] : List aI)) 0)) _ _
 refine ae (aa (ay (aj (av rfl (az (JX pR) rfl rfl (ae (aa ?_)))))))
 cases a with
 | none =>
  have hl0 := Np c.form
  replace H : (some ([] : List aI)) = some r := by simpa [sj, hl0] using H
  refine jA rfl rfl (aj (Tr.k rfl (bS 2 38 bz ?_)))
  show Tr _ _ (uf _ 2 (sL none (([] : List aI)) 0)) _ _
  refine ae (aa (bg (aL ?_)))
  obtain rfl := oI H
  exact Tr.out (m := [sL none (([] : List aI)) 0]) [] (eU rfl dR) (fun W hW => ⟨(none, 0), rfl, iM, HF.xZ leB (hW.pick (ks := [2]) (by decide) (bA rfl bK)) ⟨pX _ _ _ _ ql, trivial⟩⟩)
 | some j =>
  refine jB rfl rfl (aK (aa (aj (dG 3 (e := 38) (vs := []) (cs := []) (wn rfl) rfl dL (by kernel_rfl) fun o => (av rfl (Tr.own 3 bz ([] : List aI) (css := []) rfl .nil rfl (by decide) (Lm rfl) ?_))))))
  obtain ⟨i, h, H⟩ := bnd H
  refine og 3 (t := bz) (l := ([] : List aI)) (l2 := p0) (wn rfl) rfl rfl rfl rfl (Rq ql (fun W hW => (Sl.BG c hW))) pR nV KN (by decide) L6 rfl h fun d f g => (Tr.k rfl (ae (aa (bg ?_))))
  obtain rfl := oI H
  exact Tr.out (m := [sL d i f]) [] (eU rfl dR) (fun W hW => ⟨(d, f), rfl, g, HF.xZ leB (hW.pick (ks := [3]) (by decide) (bA rfl bK)) ⟨pX _ _ _ _ ql, trivial⟩⟩)

theorem qX {w : Bs} (p0 : List aI) (a : Option Addr) (b : Nat) (p1 : aI → aI → Option Int) (fid1 : Nat) (c : List Value) (hg1 : ∀ args W, (callFunc fid1 args).run Tryz.prog W = .ok (.enter fid1 args) W) (hf1 : ∀ (w' : Bs), w.Ext w' → ∀ (z0 : aI) (z1 : aI), ∀ y, p1 z0 z1 = some y → Calls Tryz.prog fid1 (([.agg #[iv z0.X0, iv z0.Y0, iv z0.X1, iv z0.Y1], .agg #[iv z1.X0, iv z1.Y0, iv z1.X1, iv z1.Y1]] : List Value) ++ c).toArray w'.W fun e W'' => e = .returned (iv y) ∧ HF w' W'' E0) (r : List aI) (H : DW p0 p1 = some r) (hE : HF w w.W (kw [ow a b 38 bz p0])) : Calls Tryz.prog 60 [sL a p0 b, .func (.func fid1) #[] c.toArray].toArray w.W fun e W' => ∃ u : Unit, e = .returned (.tuple #[]) ∧ (r.length = p0.length) ∧ HF w W' (kw [ow a b 38 bz r]) :=
 Fa (ρ := Tryz.FD) Tryz.RY (fun _ => zH sP) (fun _ => run_sizeOf nV) iY ql () hg1 hf1 H hE

theorem AB {w : Bs} (p0 : aI) (p1 : aI) (r : Int) (H : oJ p0 p1 = some r) (hE : HF w w.W E0) : Calls Tryz.prog 61 [.agg #[iv p0.X0, iv p0.Y0, iv p0.X1, iv p0.Y1], .agg #[iv p1.X0, iv p1.Y0, iv p1.X1, iv p1.Y1]].toArray w.W fun e W' => e = .returned (iv r) ∧ HF w W' E0 := by
 unfold oJ at H
 have leB := Bs.Le.refl w
 refine bB (n := 10) Tryz.func61 rfl rfl rfl hE (aj (jN 1 (cs := [iv p0.X0, iv p0.Y0, iv p0.X1, iv p0.Y1]) (wn rfl) rfl rfl rfl fun b => (jN 2 (cs := [iv p1.X0, iv p1.Y0, iv p1.X1, iv p1.Y1]) (wn rfl) rfl rfl rfl fun d => (Tr.k rfl (ae (aa (aj (aU (ag nO) rfl (aP rfl (fun _ _ a c => ah bQ (a.ev rfl) (dZ c (vs := [iv p0.X0, iv p0.Y0, iv p0.X1, iv p0.Y1]) (k := 1) rfl 1) rfl) (aU (ag nO) rfl (aP rfl (fun _ _ a c => ah bQ (a.ev rfl) (dZ c (vs := [iv p1.X0, iv p1.Y0, iv p1.X1, iv p1.Y1]) (k := 2) rfl 1) rfl) (az eu rfl rfl (Tr.k rfl (ae (aa (bg ?_))))))))))))))))
 obtain rfl := oI H
 exact dM leB

theorem zw {w : Bs} (p0 : List Int) (a : Option Addr) (b : Nat) (r : List Int) (H : JO p0 = some r) (hE : HF w w.W (kw [ow a b 3 bL p0])) : Calls Tryz.prog 62 [sL a p0 b].toArray w.W fun e W' => ∃ u : Unit, e = .returned (.tuple #[]) ∧ (r.length = p0.length) ∧ HF w W' (kw [ow a b 3 bL r]) :=
 JP (ρ := Tryz.DY) Tryz.QM rfl jM BI () H hE

theorem xI {w : Bs} (p0 : List Int) (a : Option Addr) (b : Nat) (r : List Int) (H : Sj p0 = some r) (hE : HF w w.W (kw [ow a b 3 bL p0])) : Calls Tryz.prog 63 [sL a p0 b].toArray w.W fun e W' => ∃ u : (Option Addr × Nat), e = .returned (sL u.1 r u.2) ∧ (fC u.1 r.length u.2) ∧ HF w W' (kw [ow u.1 u.2 3 bL r]) :=
 Fh (ρ := Tryz.EL) Tryz.Rk rfl jM BI () H hE

theorem AA {w : Bs} (p0 : aI) (q0 : (List Int)) (Aq0_0 : Option Addr) (cq0_0 : Nat) (Qp : Sl w.R w.W bL Aq0_0 cq0_0 q0) (lW : Nat) (hb0 : w.R lW) (hc0 : aC w.W lW 0 [sL Aq0_0 q0 cq0_0]) (q1 : Int) (CU : Nat) (hb1 : w.R CU) (hc1 : aC w.W CU 0 [iv q1]) (r : Bool) (H : oH p0 q0 q1 = some r) (hE : HF w w.W E0) : Calls Tryz.prog 65 [.agg #[iv p0.X0, iv p0.Y0, iv p0.X1, iv p0.Y1], pV lW, pV CU].toArray w.W fun e W' => e = .returned (bV r) ∧ HF w W' E0 := by
 unfold oH at H
 have leB := Bs.Le.refl w
 refine bB (n := 12) Tryz.func65 rfl rfl rfl hE (aj (jN 1 (cs := [iv p0.X0, iv p0.Y0, iv p0.X1, iv p0.Y1]) (wn rfl) rfl rfl rfl fun h => (Tr.k rfl (ae (aa (ay (iN (by kernel_rfl) (by kernel_rfl) (gH (ag vk) rfl (aY rfl (fun _ _ a c => ah bQ (a.ev rfl) (dZ c (vs := [iv p0.X0, iv p0.Y0, iv p0.X1, iv p0.Y1]) (k := 1) rfl 3) rfl) (aY rfl (fun _ _ a c => ah mU (a.ev rfl) (yM hb0 hc0 c) rfl) (aY rfl (fun _ _ a c => ah bQ (a.ev rfl) (yM hb1 hc1 c) rfl) ?_)))))))))))
 obtain ⟨i, g, H⟩ := bnd H
 obtain ⟨b, d, f⟩ := aF g
 refine aY rfl (fun _ _ a c => ai lQ (a.ev rfl) Qp.form (a.ev rfl) b d) (aY rfl (fun _ _ a c => ah bQ (a.ev rfl) (oM jM Qp f c) rfl) (eP nk rfl rfl (vX rfl rfl (iJ (aa (bg ?_))))))
 obtain rfl := oI H
 exact dM leB

theorem vY {w : Bs} (p0 : (List aI)) (g : Option Addr) (i : Nat) (f : Sl w.R w.W bz g i p0) (p1 : aI → Option Bool) (fid1 : Nat) (j : List Value) (hg1 : ∀ args W, (callFunc fid1 args).run Tryz.prog W = .ok (.enter fid1 args) W) (hf1 : ∀ (w' : Bs), w.Ext w' → ∀ (z0 : aI), ∀ y, p1 z0 = some y → Calls Tryz.prog fid1 (([.agg #[iv z0.X0, iv z0.Y0, iv z0.X1, iv z0.Y1]] : List Value) ++ j).toArray w'.W fun e W'' => e = .returned (bV y) ∧ HF w' W'' E0) (r : Int) (H : nu p0 p1 = some r) (hE : HF w w.W E0) : Calls Tryz.prog 108 [sL g p0 i, .func (.func fid1) #[] j.toArray].toArray w.W fun e W' => e = .returned (iv r) ∧ HF w W' E0 := by
 unfold nu at H
 have leB := Bs.Le.refl w
 refine bB (n := 19) Tryz.func108 rfl rfl rfl hE (aj (Tr.k rfl (ae (aa (ay (aj (av rfl (aU (bi pR) rfl (av rfl (ae (aa (Tr.block (bT (σ := (List aI) × Nat) (fun m w s => m = s.1.length + 1 ∧ s.1 = List.drop s.2 p0 ∧ s.2 ≤ p0.length ∧ gQ p1 s.1 s.2 = some r) (fun s => [(0, sL g p0 i), (1, .func (.func fid1) #[] j.toArray), (7, iv (p0.length : Int)), (8, iv (s.2 : Int))]) (fun s => []) (p0.length + 1) (p0, 0) ⟨rfl, rfl, Nat.zero_le _, H⟩ (.r rfl) .nil (fun _ _ h => absurd h.1 (by simp)) ?_)))))))))))))
 intro w l m s hs
 obtain ⟨b, t⟩ := s
 obtain ⟨q, d, A, H⟩ := hs
 replace d : b = List.drop t p0 := d
 replace H : gQ p1 b t = some r := H
 replace q : m + 1 = b.length + 1 := q
 replace f := f.qG l
 replace hf1 := fun w' he => hf1 w' (l.ext.trans he)
 replace leB := leB.trans l
 obtain rfl : m = b.length := by omega
 clear q
 dsimp only
 cases b with
 | nil =>
  rw [gQ.eq_1] at H
  refine aj (az aX rfl rfl (ae (aa (ay (jB rfl (ji d) (bO (au (au (aM (aa (aj (Tr.k rfl (ae (aa (bg ?_)))))))))))))))
  obtain rfl := oI H
  exact dM leB
 | cons o b =>
  rw [gQ.eq_2] at H
  refine aj (az aX rfl rfl (ae (aa (ay (jA rfl (jW d) (aK (aa (ay (Tr.block (aj (av rfl (Tr.k rfl (ae (aa (aj (av rfl (av rfl (av rfl (aP rfl (fun _ _ a c => ai oP (a.ev rfl) f.form (a.ev rfl) (Int.natCast_nonneg _) (ed d)) (aP rfl (fun _ _ a c => aO (cs := [iv o.X0, iv o.Y0, iv o.X1, iv o.Y1]) sP nV (a.ev rfl) (aC.take (oM iY f (lN d) c) 4) rfl) ?_))))))))))))))))))))
  obtain ⟨v, u, H⟩ := bnd H
  refine zo (r := (bV v)) (wn rfl) rfl rfl hg1 (ak rfl aQ) (fun W hW => hf1 hW.all hW.dC o _ u) (ae (aa (aN rfl H (fun H => ?_) (fun H => ?_))))
  ·refine aj (av rfl (Tr.k rfl (ae (aa (bg (cB (aL (aL (cB (aL ?_))))))))))
   obtain rfl := oI H
   exact dM leB
  ·exact aK (aH (aa (aD (az aZ rfl rfl (av rfl (ae (aB l (b, (t + 1)) ⟨rfl, jV d, ed d, H⟩ (.cons rfl (.cons rfl (.cons rfl (.cons (congrArg (fun z => some (Value.int .i64 z)) (jU d f.form)) .nil)))) .nil)))))))

theorem vz (N : Nat) {w : Bs} (p0 : (List aI)) (d : Option Addr) (f : Nat) (p1 : aI → Option Bool) (fid1 : Nat) (z : List Value) (hg1 : ∀ args W, (callFunc fid1 args).run Tryz.prog W = .ok (.enter fid1 args) W) (hf1 : ∀ (w' : Bs), w.Ext w' → ∀ (z0 : aI), ∀ y, p1 z0 = some y → Calls Tryz.prog fid1 (([.agg #[iv z0.X0, iv z0.Y0, iv z0.X1, iv z0.Y1]] : List Value) ++ z).toArray w'.W fun e W'' => e = .returned (bV y) ∧ HF w' W'' E0) (r : (List aI)) (H : lm N p0 p1 = some r) (hE : HF w w.W (kw [ow d f 38 bz p0])) : Calls Tryz.prog 64 [sL d p0 f, .func (.func fid1) #[] z.toArray].toArray w.W fun e W' => ∃ u : (Option Addr × Nat), e = .returned (sL u.1 r u.2) ∧ (fC u.1 r.length u.2) ∧ HF w W' (kw [ow u.1 u.2 38 bz r]) := by
 unfold lm at H
 have F := (hE.sl (k := 0) rfl).form
 have leB := Bs.Le.refl w
 refine bB (n := 42) Tryz.func64 rfl rfl rfl hE (aj (Tr.k rfl (bS 1 38 bz ?_)))
 show Tr _ _ (uf _ 4 (sL none (([] : List aI)) 0)) _ _
 refine ae (aa (aj (av rfl (av rfl ?_))))
 obtain ⟨G, Z, H⟩ := bnd H
 refine dn (r := (iv G)) (wn rfl) rfl Tryz.call108 (ak rfl (ak rfl aQ)) (fun W hW => vY p0 d f (hW.sF (k := 0) rfl) p1 fid1 z hg1 (fun w' he => hf1 w' (hW.dC.trans he)) G Z (HF.start _)) (Tr.k rfl (ae (aa (ay (aj (av rfl (az iW rfl rfl (ae (aa (aN rfl H (fun H => ?_) (fun H => ?_)))))))))))
 ·refine aj (av rfl (Tr.k rfl (ae (aa (bg (aL ?_))))))
  obtain rfl := oI H
  exact Tr.out (m := [sL d p0 f]) [] (eU rfl dR) (fun W hW => ⟨(d, f), rfl, F, HF.xZ leB (hW.pick (ks := [0]) (by decide) (bA rfl bK)) ⟨pX _ _ _ _ ql, trivial⟩⟩)
 ·refine aK (aa (ay (aj (av rfl (az aZ rfl rfl (Tr.k rfl (ae (aa (Tr.block (bT (σ := (List aI) × Int × Int) (fun m w s => fH p1 m s.1 s.2.1 s.2.2 = some r ∧ s.1.length = p0.length) (fun s => [(0, sL d s.1 f), (1, .func (.func fid1) #[] z.toArray), (5, iv s.2.1), (6, iv s.2.2)]) (fun s => [(0, ow d f 38 bz s.1)]) N (p0, G, (bn (G + 1))) ⟨H, rfl⟩ (.r rfl) (.r rfl) (fun _ _ h => fU (h.1)) ?_))))))))))
  intro w I a5 s hs
  obtain ⟨g, j, o⟩ := s
  obtain ⟨H, B⟩ := hs
  replace H : fH p1 (a5 + 1) g j o = some r := H
  replace hf1 := fun w' he => hf1 w' (I.ext.trans he)
  replace leB := leB.trans I
  replace B : g.length = p0.length := B
  have A : fC d g.length f := (by rw [B]; exact F)
  rw [fH.eq_2] at H
  dsimp only
  refine ay (aj (av rfl (av rfl (aU (bi pR) rfl (az aX rfl rfl (ae (aa (aN rfl H (fun H => ?_) (fun H => ?_)))))))))
  ·refine aK (aa (ay (Tr.block (aj (av rfl (av rfl ?_))))))
   obtain ⟨b, a0, H⟩ := bnd H
   obtain ⟨O, P, Q⟩ := aF a0
   refine aP rfl (fun _ _ a c => ai oP (a.ev rfl) A (a.ev rfl) O P) (aP rfl (fun _ _ a c => aO (cs := [iv b.X0, iv b.Y0, iv b.X1, iv b.Y1]) sP nV (a.ev rfl) (aC.take (Ab iY (k := 0) c rfl Q) 4) rfl) (Tr.alloc 4 (wn rfl) rfl zX fun S => (dm 4 (cs := [iv b.X0, iv b.Y0, iv b.X1, iv b.Y1]) [iv b.X0, iv b.Y0, iv b.X1, iv b.Y1] (wn rfl) rfl rfl rfl rfl nV rfl rfl rfl (ae (aa (aj (av rfl (aP rfl (fun _ _ a c => aO (cs := [iv b.X0, iv b.Y0, iv b.X1, iv b.Y1]) sP nV (a.ev rfl) (aC.take (dZ c (vs := [iv b.X0, iv b.Y0, iv b.X1, iv b.Y1]) (k := 4) rfl 0) 4) rfl) ?_))))))))
   obtain ⟨L, a1, H⟩ := bnd H
   refine zo (r := (bV L)) (wn rfl) rfl rfl hg1 (ak rfl aQ) (fun W hW => hf1 hW.all hW.dC b _ a1) (aU jP rfl (ae (aa (aN rfl H (fun H => ?_) (fun H => ?_)))))
   ·refine aj (av rfl (av rfl (aP rfl (fun _ _ a c => aO (cs := [iv b.X0, iv b.Y0, iv b.X1, iv b.Y1]) sP nV (a.ev rfl) (aC.take (dZ c (vs := [iv b.X0, iv b.Y0, iv b.X1, iv b.Y1]) (k := 4) rfl 0) 4) rfl) ?_)))
    obtain ⟨a7, a2, H⟩ := bnd H
    obtain ⟨T, U, V⟩ := aF a2
    refine aP rfl (fun _ _ a c => ai oP (a.ev rfl) A (a.ev rfl) T U) ?_
    obtain ⟨C, M, H⟩ := bnd H
    have v := nW M
    refine nZ 0 (t := bz) (l := g) (i := j) (fo := 0) (cs := [iv b.X0, iv b.Y0, iv b.X1, iv b.Y1]) b (wn rfl) rfl rfl rfl rfl rfl V nV rfl (fun u _ => ⟨u, trivial, rfl⟩) rfl M ?_
    have a6 : fC d C.length f := by rw [v]; exact A
    have X := v.trans B
    exact Tr.wL (lf := [(0, sL d C f), (1, .func (.func fid1) #[] z.toArray), (5, iv j), (6, iv o), (7, pV S), (16, iv o), (17, sL d C f), (18, iv (g.length : Int)), (19, bV (decide (o < (g.length : Int)))), (22, sL d C f), (23, iv o), (25, .agg #[iv b.X0, iv b.Y0, iv b.X1, iv b.Y1]), (26, .func (.func fid1) #[] z.toArray), (27, .agg #[iv b.X0, iv b.Y0, iv b.X1, iv b.Y1]), (28, bV L), (29, bV (!L)), (30, sL d C f), (31, iv j), (32, .agg #[iv b.X0, iv b.Y0, iv b.X1, iv b.Y1])]) (le := [(0, ow d f 38 bz C), (4, bx S #[iv b.X0, iv b.Y0, iv b.X1, iv b.Y1] 38)]) (.cons (eG rfl (by unfold sL; rw [v])) (.cons rfl (.cons rfl (.cons rfl (.cons rfl (.cons rfl (.cons (eG rfl (by unfold sL; rw [v])) (.cons rfl (.cons rfl (.cons (eG rfl (by unfold sL; rw [v])) (.cons rfl (.cons rfl (.cons rfl (.cons rfl (.cons rfl (.cons rfl (.cons (eG rfl (by unfold sL; rw [v])) (.r rfl)))))))))))))))))) (.r rfl) (ae (aa (aD (av rfl (az aZ rfl rfl (Tr.k rfl (ae (aH (aa (aD (av rfl (az aZ rfl rfl (Tr.k rfl (ae (aB I (C, (bn (j + 1)), (bn (o + 1))) ⟨H, X⟩ (.r rfl) (.r rfl))))))))))))))))
   ·exact aK (aH (aa (aD (av rfl (az aZ rfl rfl (Tr.k rfl (ae (aB I (g, j, (bn (o + 1))) ⟨H, B⟩ (.r rfl) (.r rfl)))))))))
  ·refine bO (au (au (aM (aa (aj (av rfl (av rfl ?_)))))))
   obtain ⟨D, J, H⟩ := bnd H
   refine aP rfl (fun _ _ a c => sH oP (a.ev rfl) A (a.ev rfl) J) ?_
   have q := PR (aI.mk 0 0 0 0) J
   refine Jr 0 (lo := j) (t := bz) (l := g) (aI.mk 0 0 0 0) (wn rfl) rfl J rfl pR zX ⟨(), ql _ _ _ _, iY _ _⟩ rfl rfl ?_
   have E : fC d ((Oi g j D.length (aI.mk 0 0 0 0))).length f := by rw [q]; exact A
   have a3 := q.trans B
   refine Tr.wL (lf := [(0, sL d ((Oi g j D.length (aI.mk 0 0 0 0))) f), (1, .func (.func fid1) #[] z.toArray), (5, iv j), (6, iv o), (16, iv o), (17, sL d ((Oi g j D.length (aI.mk 0 0 0 0))) f), (18, iv (g.length : Int)), (19, bV (decide (o < (g.length : Int)))), (36, sL d ((Oi g j D.length (aI.mk 0 0 0 0))) f), (37, iv j)]) (le := [(0, ow d f 38 bz (Oi g j D.length (aI.mk 0 0 0 0)))]) (.cons (eG rfl (by unfold sL; rw [q])) (.cons rfl (.cons rfl (.cons rfl (.cons rfl (.cons (eG rfl (by unfold sL; rw [q])) (.cons rfl (.cons rfl (.cons (eG rfl (by unfold sL; rw [q])) (.r rfl)))))))))) (.r rfl) (ae (aa (aj (av rfl (av rfl ?_)))))
   obtain ⟨a4, K, H⟩ := bnd H
   refine aP rfl (fun _ _ a c => zG oP (a.ev rfl) E (a.ev rfl) K) (Tr.k rfl (ae (aa (bg ?_))))
   obtain rfl := oI H
   exact KG 0 K rfl (Tr.out (m := [sL d a4 f]) [] (eU rfl dR) (fun W hW => ⟨(d, f), rfl, (IC E K), HF.xZ leB (hW.pick (ks := [0]) (by decide) (bA rfl bK)) ⟨pX _ _ _ _ ql, trivial⟩⟩))

theorem yo {w : Bs} (p0 : aI) (p1 : aI) (r : Int) (H : mF p0 p1 = some r) (hE : HF w w.W E0) : Calls Tryz.prog 110 [.agg #[iv p0.X0, iv p0.Y0, iv p0.X1, iv p0.Y1], .agg #[iv p1.X0, iv p1.Y0, iv p1.X1, iv p1.Y1]].toArray w.W fun e W' => e = .returned (iv r) ∧ HF w W' E0 := by
 unfold mF at H
 have leB := Bs.Le.refl w
 refine bB (n := 10) Tryz.func110 rfl rfl rfl hE (aj (jN 1 (cs := [iv p0.X0, iv p0.Y0, iv p0.X1, iv p0.Y1]) (wn rfl) rfl rfl rfl fun b => (jN 2 (cs := [iv p1.X0, iv p1.Y0, iv p1.X1, iv p1.Y1]) (wn rfl) rfl rfl rfl fun d => (Tr.k rfl (ae (aa (aj (aU (ag qJ) rfl (aP rfl (fun _ _ a c => ah bQ (a.ev rfl) (dZ c (vs := [iv p0.X0, iv p0.Y0, iv p0.X1, iv p0.Y1]) (k := 1) rfl 0) rfl) (aU (ag qJ) rfl (aP rfl (fun _ _ a c => ah bQ (a.ev rfl) (dZ c (vs := [iv p1.X0, iv p1.Y0, iv p1.X1, iv p1.Y1]) (k := 2) rfl 0) rfl) (az eu rfl rfl (Tr.k rfl (ae (aa (bg ?_))))))))))))))))
 obtain rfl := oI H
 exact dM leB

theorem zx {w : Bs} (p0 : (List aI)) (f : Option Addr) (g : Nat) (r : ((List Int) × (List aI))) (H : oU p0 = some r) (hE : HF w w.W (kw [ow f g 38 bz p0, emp])) : Calls Tryz.prog 67 [sL f p0 g].toArray w.W fun e W' => ∃ u : (Option Addr × Nat), e = .returned (sL u.1 r.1 u.2) ∧ (fC u.1 r.1.length u.2 ∧ r.2.length = p0.length) ∧ HF w W' (kw [ow f g 38 bz r.2, ow u.1 u.2 3 bL r.1]) := by
 unfold oU at H
 have S := (hE.sl (k := 0) rfl).form
 have leB := Bs.Le.refl w
 refine bB (n := 48) Tryz.func67 rfl rfl rfl hE (aj (Tr.k rfl (bS 1 3 bL ?_)))
 show Tr _ _ (uf _ 2 (sL none (([] : List Int)) 0)) _ _
 refine ae (aa (aj (av rfl ?_)))
 obtain ⟨d, a8, H⟩ := bnd H
 refine jX [0] [ow f g 38 bz p0] (U := Unit) (fun u => (.tuple #[])) (fun u => d.length = p0.length) (fun u => [ow f g 38 bz d]) rfl (bA rfl bK) (fun _ => rfl) (wn rfl) rfl Tryz.call60 (ak rfl (ak rfl aQ)) (fun W hW hp hE => qX p0 f g (fun z0 z1 => mF z0 z1) 110 [] Tryz.call110 (fun w' he z0 z1 y hy => yo z0 z1 y hy (HF.start _)) d a8 hE) ?_
 intro u hu
 have M := hu
 have B : d.length = p0.length := M --@phi
 have D : fC f d.length g := by rw [B]; exact S
 have L := B.trans rfl
 show Tr _ _ (uf _ 8 (.tuple #[])) (up _ 0 (ow f g 38 bz d)) _
 refine Tr.wL (lf := [(0, sL f d g), (2, sL none (([] : List Int)) 0), (7, sL f d g), (8, (.tuple #[]))]) (le := [(0, ow f g 38 bz d), (1, ow none 0 3 bL ([] : List Int))]) (.cons (eG rfl (by unfold sL; rw [B])) (.cons rfl (.cons (eG rfl (by unfold sL; rw [B])) (.r rfl)))) (.r rfl) (ae (aa (aj (Tr.k rfl (bS 2 3 bL ?_)))))
 show Tr _ _ (uf _ 3 (sL none (([] : List Int)) 0)) _ _
 refine ae (aa (ay (aj (av rfl (aU (bi pR) rfl (av rfl (ae (aa (Tr.block (bT (σ := (List aI) × Nat × (List Int) × (Option Addr) × Nat) (fun m w s => m = s.1.length + 1 ∧ s.1 = List.drop s.2.1 d ∧ s.2.1 ≤ d.length ∧ iD d s.1 s.2.1 s.2.2.1 = some r ∧ fC s.2.2.2.1 s.2.2.1.length s.2.2.2.2) (fun s => [(3, sL s.2.2.2.1 s.2.2.1 s.2.2.2.2), (9, sL f d g), (10, iv (d.length : Int)), (11, iv (s.2.1 : Int))]) (fun s => [(0, ow f g 38 bz d), (2, ow s.2.2.2.1 s.2.2.2.2 3 bL s.2.2.1)]) (d.length + 1) (d, 0, ([] : List Int), none, 0) ⟨rfl, rfl, Nat.zero_le _, H, iM⟩ (.r rfl) (.r rfl) (fun _ _ h => absurd h.1 (by simp)) ?_))))))))))
 intro w N m s hs
 obtain ⟨v, I, q, j, o⟩ := s
 obtain ⟨O, A, b6, H, C⟩ := hs
 replace A : v = List.drop I d := A
 replace H : iD d v I q = some r := H
 replace O : m + 1 = v.length + 1 := O
 replace leB := leB.trans N
 replace C : fC j q.length o := C
 obtain rfl : m = v.length := by omega
 clear O
 dsimp only
 cases v with
 | nil =>
  rw [iD.eq_1] at H
  refine aj (az aX rfl rfl (ae (aa (ay (jB rfl (ji A) (bO (au (au (aM (aa (aj (av rfl (Tr.k rfl (ae (aa (bg ?_))))))))))))))))
  obtain rfl := oI H
  exact Tr.out (m := [sL j q o]) [] (eU rfl dR) (fun W hW => ⟨(j, o), rfl, ⟨C, L⟩, HF.xZ leB (hW.pick (ks := [0, 2]) (by decide) (bA rfl (bA rfl bK))) ⟨pX _ _ _ _ ql, pX _ _ _ _ BI, trivial⟩⟩)
 | cons b v =>
  rw [iD.eq_2] at H
  refine aj (az aX rfl rfl (ae (aa (ay (jA rfl (jW A) (aK (aa (ay (Tr.block (aj (aP rfl (fun _ _ a c => ai oP (a.ev rfl) D (a.ev rfl) (Int.natCast_nonneg _) (ed A)) (aP rfl (fun _ _ a c => aO (cs := [iv b.X0, iv b.Y0, iv b.X1, iv b.Y1]) sP nV (a.ev rfl) (aC.take (Ab iY (k := 0) c rfl (lN A)) 4) rfl) (Tr.alloc 7 (wn rfl) rfl zX fun J => (dm 7 (cs := [iv b.X0, iv b.Y0, iv b.X1, iv b.Y1]) [iv b.X0, iv b.Y0, iv b.X1, iv b.Y1] (wn rfl) rfl rfl rfl rfl nV rfl rfl rfl (ae (aa (aj (av rfl (aU (bi nE) rfl (az eu rfl rfl (Tr.k rfl (ae (aa (ay (iN (by kernel_rfl) (by kernel_rfl) (bU rfl (eP tZ rfl rfl (bU rfl ?_))))))))))))))))))))))))))))
  obtain ⟨T, E, H⟩ := bnd H
  refine oF 8 [(3, sL j q o), (5, pV J), (6, iv (bn ((q.length : Int) - 1))), (9, sL f d g), (10, iv (d.length : Int)), (11, iv (I : Int)), (28, bV T)] ?_ ?_
  ·cases P : (decide (0 ≤ (bn ((q.length : Int) - 1))))
   ·rw [P] at E
    rw [if_neg (by decide)] at E
    have H := E
    obtain rfl := oI H
    refine bq rfl (bq rfl (bq rfl (bq rfl (bq rfl (bq rfl (bq rfl ?_))))))
    exact eP bv rfl rfl (Tq.fin (.r rfl))
   ·rw [P] at E
    rw [if_pos rfl] at E
    have H := E
    refine gN (ag qJ) rfl (Tq.x (fun _ _ a c => ah bQ (a.ev rfl) (dZ c (vs := [iv b.X0, iv b.Y0, iv b.X1, iv b.Y1]) (k := 7) rfl 0) rfl) (gN run_move rfl (gN run_move rfl ?_)))
    obtain ⟨b7, a9, H⟩ := bnd H
    obtain ⟨V, X, Z⟩ := aF a9
    refine Tq.x (fun _ _ a c => ai lQ (a.ev rfl) C (a.ev rfl) V X) (Tq.x (fun _ _ a c => ah bQ (a.ev rfl) (Ab jM (k := 2) c rfl Z) rfl) (ou nk rfl rfl (eP bC rfl rfl ?_)))
    obtain rfl := oI H
    exact Tq.fin (.r rfl)
  ·refine iJ (aa (aN rfl H (fun H => ?_) (fun H => ?_)))
   ·refine nS 9 (by kernel_rfl) (by kernel_rfl) (bU rfl (bU rfl (bU rfl (bU rfl ?_))))
    obtain ⟨K, b0, H⟩ := bnd H
    obtain ⟨a0, a1, a2⟩ := aF b0
    refine aY rfl (fun _ _ a c => ai lQ (a.ev rfl) C (a.ev rfl) a0 a1) (aY rfl (fun _ _ a c => ah bQ (a.ev rfl) (Ab jM (k := 2) c rfl a2) rfl) (gH (ag wS) rfl (aY rfl (fun _ _ a c => ah bQ (a.ev rfl) (dZ c (vs := [iv b.X0, iv b.Y0, iv b.X1, iv b.Y1]) (k := 7) rfl 2) rfl) (aY rfl (fun _ _ a c => AV (a.ev rfl) (a.ev rfl) _) (iJ ?_)))))
    obtain ⟨b8, b1, H⟩ := bnd H
    obtain ⟨a3, a4, a5⟩ := aF b1
    refine aP rfl (fun _ _ a c => ai lQ (a.ev rfl) C (a.ev rfl) a3 a4) ?_
    obtain ⟨G, Q, H⟩ := bnd H
    have F := nW Q
    refine nZ 2 (t := bL) (l := q) (i := (bn ((q.length : Int) - 1))) (fo := 0) (cs := [iv (max K b.X1)]) (max K b.X1) (wn rfl) rfl rfl rfl rfl rfl a5 zR rfl (fun u _ => ⟨u, trivial, rfl⟩) rfl Q ?_
    have a6 : fC j G.length o := by rw [F]; exact C
    exact Tr.wL (lf := [(3, sL j G o), (5, pV J), (6, iv (bn ((q.length : Int) - 1))), (9, sL f d g), (10, iv (d.length : Int)), (11, iv (I : Int)), (28, bV T), (29, sL j G o), (30, iv (bn ((q.length : Int) - 1))), (31, sL j G o), (32, iv (bn ((q.length : Int) - 1))), (34, iv K), (35, .pointer (some ⟨J, 2, none⟩)), (36, iv b.X1), (37, iv (max K b.X1))]) (le := [(0, ow f g 38 bz d), (2, ow j o 3 bL G), (7, bx J #[iv b.X0, iv b.Y0, iv b.X1, iv b.Y1] 38)]) (.cons (eG rfl (by unfold sL; rw [F])) (.cons rfl (.cons rfl (.cons rfl (.cons rfl (.cons rfl (.cons rfl (.cons (eG rfl (by unfold sL; rw [F])) (.cons rfl (.cons (eG rfl (by unfold sL; rw [F])) (.r rfl))))))))))) (.r rfl) (ae (aH (aa (aD (az aZ rfl rfl (av rfl (ae (aB N (v, (I + 1), G, j, o) ⟨rfl, jV A, ed A, H, a6⟩ (.cons rfl (.cons rfl (.cons rfl (.cons (congrArg (fun z => some (Value.int .i64 z)) (jU A D)) .nil)))) (.r rfl)))))))))
   ·refine aD (av rfl (aU (ag qJ) rfl (aP rfl (fun _ _ a c => ah bQ (a.ev rfl) (dZ c (vs := [iv b.X0, iv b.Y0, iv b.X1, iv b.Y1]) (k := 7) rfl 0) rfl) (aU (ag wS) rfl (aP rfl (fun _ _ a c => ah bQ (a.ev rfl) (dZ c (vs := [iv b.X0, iv b.Y0, iv b.X1, iv b.Y1]) (k := 7) rfl 2) rfl) (dG 8 (e := 3) (vs := [(0, iv b.X0), (1, iv b.X1)]) (cs := [iv b.X0, iv b.X1]) (wn rfl) rfl (bD rfl (bD rfl dL)) (by kernel_rfl) fun b9 => ?_))))))
    obtain ⟨b5, b2, H⟩ := bnd H
    exact Tr.append 2 (t := bL) (l := q) (l2 := [b.X0, b.X1]) (wn rfl) rfl rfl rfl rfl (fun W hW => ⟨[[iv b.X0], [iv b.X1]], (.cons ⟨(), trivial, rfl⟩ (.cons ⟨(), trivial, rfl⟩ .nil)), dZ hW (vs := [iv b.X0, iv b.X1]) (k := 8) rfl 0⟩) nE zR JC (by decide) Kv rfl b2 fun b3 b4 a7 => (Tr.k rfl (ae (aH (aa (aD (az aZ rfl rfl (av rfl (ae (aB N (v, (I + 1), b5, b3, b4) ⟨rfl, jV A, ed A, H, a7⟩ (.cons rfl (.cons rfl (.cons rfl (.cons (congrArg (fun z => some (Value.int .i64 z)) (jU A D)) .nil)))) (.r rfl))))))))))

theorem yG {w : Bs} (p0 : (List Int)) (g : Option Addr) (i : Nat) (f : Sl w.R w.W bL g i p0) (p1 : (List Int)) (j : Option Addr) (l : Nat) (o : Sl w.R w.W bL j l p1) (r : Bool) (H : oh p0 p1 = some r) (hE : HF w w.W E0) : Calls Tryz.prog 109 [sL g p0 i, sL j p1 l].toArray w.W fun e W' => e = .returned (bV r) ∧ HF w W' E0 := by
 unfold oh at H
 have leB := Bs.Le.refl w
 refine bB (n := 26) Tryz.func109 rfl rfl rfl hE (aj (Tr.k rfl (ae (aa (ay (aj (av rfl (aU (bi nE) rfl (av rfl (aU (bi nE) rfl (az kW rfl rfl (ae (aa (aN rfl H (fun H => ?_) (fun H => ?_)))))))))))))))
 ·refine aj (Tr.k rfl (ae (aa (bg (aL ?_)))))
  obtain rfl := oI H
  exact dM leB
 ·refine aK (aa (ay (aj (av rfl (aU (bi nE) rfl (av rfl (ae (aa (Tr.block (bT (σ := (List Int) × Nat) (fun m w s => m = s.1.length + 1 ∧ s.1 = List.drop s.2 p0 ∧ s.2 ≤ p0.length ∧ iF p1 s.1 s.2 = some r) (fun s => [(0, sL g p0 i), (1, sL j p1 l), (12, iv (p0.length : Int)), (13, iv (s.2 : Int))]) (fun s => []) (p0.length + 1) (p0, 0) ⟨rfl, rfl, Nat.zero_le _, H⟩ (.r rfl) .nil (fun _ _ h => absurd h.1 (by simp)) ?_))))))))))
  intro w q m s hs
  obtain ⟨b, u⟩ := s
  obtain ⟨t, d, C, H⟩ := hs
  replace d : b = List.drop u p0 := d
  replace H : iF p1 b u = some r := H
  replace t : m + 1 = b.length + 1 := t
  replace f := f.qG q
  replace o := o.qG q
  replace leB := leB.trans q
  obtain rfl : m = b.length := by omega
  clear t
  dsimp only
  cases b with
  | nil =>
   rw [iF.eq_1] at H
   refine aj (az aX rfl rfl (ae (aa (ay (jB rfl (ji d) (bO (au (au (aM (aa (aj (Tr.k rfl (ae (aa (bg ?_)))))))))))))))
   obtain rfl := oI H
   exact dM leB
  | cons E b =>
   rw [iF.eq_2] at H
   refine aj (az aX rfl rfl (ae (aa (ay (jA rfl (jW d) (aK (aa (ay (Tr.block (aj (av rfl (Tr.k rfl (ae (aa (ay (iN (by kernel_rfl) (by kernel_rfl) (bU rfl (bU rfl (aY rfl (fun _ _ a c => ai lQ (a.ev rfl) f.form (a.ev rfl) (Int.natCast_nonneg _) (ed d)) (aY rfl (fun _ _ a c => ah bQ (a.ev rfl) (oM jM f (lN d) c) rfl) (bU rfl (bU rfl ?_))))))))))))))))))))))
   obtain ⟨D, B, H⟩ := bnd H
   obtain ⟨v, y, A⟩ := aF B
   refine aY rfl (fun _ _ a c => ai lQ (a.ev rfl) o.form (a.ev rfl) v y) (aY rfl (fun _ _ a c => ah bQ (a.ev rfl) (oM jM o A c) rfl) (eP kW rfl rfl (iJ (aa (aN rfl H (fun H => ?_) (fun H => ?_))))))
   ·refine aj (Tr.k rfl (ae (aa (bg (cB (aL (aL (cB (aL ?_)))))))))
    obtain rfl := oI H
    exact dM leB
   ·exact aK (aH (aa (aD (az aZ rfl rfl (av rfl (ae (aB q (b, (u + 1)) ⟨rfl, jV d, ed d, H⟩ (.cons rfl (.cons rfl (.cons rfl (.cons (congrArg (fun z => some (Value.int .i64 z)) (jU d f.form)) .nil)))) .nil)))))))

theorem zy {w : Bs} (p0 : (List jL)) (f : Option Addr) (g : Nat) (p1 : jL) (b : Option Addr) (d : Nat) (D : Sl w.O w.W bL b d p1.Xs) (r : (List jL)) (H : mf p0 p1 = some r) (hE : HF w w.W (kw [ow f g 98 jk p0])) : Calls Tryz.prog 66 [sL f p0 g, .agg #[iv p1.Y0, iv p1.Y1, sL b p1.Xs d]].toArray w.W fun e W' => ∃ (w' : Bs) (u : (Option Addr × Nat)), w.Le w' ∧ e = .returned (sL u.1 r u.2) ∧ (fC u.1 r.length u.2) ∧ HF w' W' (kw [ow u.1 u.2 98 jk r]) := by
 unfold mf at H
 have h := (hE.sl (k := 0) rfl).form
 have leB := Bs.Le.refl w
 refine bB (n := 54) Tryz.func66 rfl rfl rfl hE (aj (jN 1 (cs := [iv p1.Y0, iv p1.Y1, sL b p1.Xs d]) (wn rfl) rfl rfl rfl fun j => (Tr.k rfl (bS 2 98 jk ?_))))
 show Tr _ _ (uf _ 4 (sL none (([] : List jL)) 0)) _ _
 refine ae (aa (ay (aj (aU (ag pY) rfl (aP rfl (fun _ _ a c => ah mU (a.ev rfl) (dZ c (vs := [iv p1.Y0, iv p1.Y1, sL b p1.Xs d]) (k := 1) rfl 2) rfl) (aU (bi nE) rfl (az iW rfl rfl (av rfl (dW 6 [(0, sL f p0 g), (3, pV j), (16, bV (((p1.Xs.length : Int) == 0) || (decide (p1.Y1 ≤ p1.Y0))))] [(0, ow f g 98 jk p0), (1, bx j #[iv p1.Y0, iv p1.Y1, sL b p1.Xs d] 98), (2, ow none 0 98 jk ([] : List jL))] ?_ ?_)))))))))
 ·cases q : ((p1.Xs.length : Int) == 0)
  ·exact cz (ag uh) rfl (Tr.x (fun _ _ a c => ah bQ (a.ev rfl) (dZ c (vs := [iv p1.Y0, iv p1.Y1, sL b p1.Xs d]) (k := 1) rfl 1) rfl) (cz (ag vg) rfl (Tr.x (fun _ _ a c => ah bQ (a.ev rfl) (dZ c (vs := [iv p1.Y0, iv p1.Y1, sL b p1.Xs d]) (k := 1) rfl 0) rfl) (iZ nk rfl rfl (az bv rfl rfl (ae (bu (.r rfl) (.r rfl))))))))
  ·exact aS rfl (aS rfl (aS rfl (aS rfl (aS rfl (az bC rfl rfl (ae (bu (.r rfl) (.r rfl))))))))
 ·show Tr _ _ (LF [(0, sL f p0 g), (3, pV j), (16, bV (((p1.Xs.length : Int) == 0) || (decide (p1.Y1 ≤ p1.Y0))))]) (LE [(0, ow f g 98 jk p0), (1, bx j #[iv p1.Y0, iv p1.Y1, sL b p1.Xs d] 98), (2, ow none 0 98 jk ([] : List jL))]) _
  refine ae (aa (aN rfl H (fun H => ?_) (fun H => ?_)))
  ·refine aj (av rfl (Tr.k rfl (ae (aa (bg (aL ?_))))))
   obtain rfl := oI H
   exact Tr.out (m := [sL f p0 g]) [] (eU rfl dR) (fun W hW => ⟨w, (f, g), leB, rfl, h, hW.pick (ks := [0]) (by decide) (bA rfl bK)⟩)
  ·refine aK (aa (ay (aj (av rfl (aU (bi H9) rfl (az eu rfl rfl (Tr.k rfl (ae (aa (ay (iN (by kernel_rfl) (by kernel_rfl) (bU rfl (eP tZ rfl rfl (bU rfl ?_))))))))))))))
   obtain ⟨J, s, H⟩ := bnd H
   refine oF 9 [(0, sL f p0 g), (3, pV j), (5, iv (bn ((p0.length : Int) - 1))), (32, bV J)] ?_ ?_
   ·cases q : (decide (0 ≤ (bn ((p0.length : Int) - 1))))
    ·rw [q] at s
     rw [if_neg (by decide)] at s
     have H := s
     obtain rfl := oI H
     refine bq rfl (bq rfl (bq rfl (bq rfl (bq rfl (bq rfl (bq rfl ?_))))))
     exact bq rfl (eP bv rfl rfl (Tq.fin (.r rfl)))
    ·rw [q] at s
     rw [if_pos rfl] at s
     have H := s
     refine gN run_move rfl (gN run_move rfl ?_)
     obtain ⟨b2, a4, H⟩ := bnd H
     obtain ⟨K, L, M⟩ := aF a4
     refine Tq.x (fun _ _ a c => ai CL (a.ev rfl) h (a.ev rfl) K L) (gN (ag uh) rfl (Tq.x (fun _ _ a c => (HF.SS (k := 0) c rfl M).elim fun u hu => ah bQ (a.ev rfl) (hu.2.drop 1) rfl) (gN (ag vg) rfl (Tq.x (fun _ _ a c => ah bQ (a.ev rfl) (dZ c (vs := [iv p1.Y0, iv p1.Y1, sL b p1.Xs d]) (k := 1) rfl 0) rfl) (ou iW rfl rfl (eP bC rfl rfl ?_))))))
     obtain rfl := oI H
     exact Tq.fin (.r rfl)
   ·refine bU rfl ?_
    obtain ⟨N, v, H⟩ := bnd H
    refine oF 9 [(0, sL f p0 g), (3, pV j), (5, iv (bn ((p0.length : Int) - 1))), (42, bV N)] ?_ ?_
    ·cases q : J
     ·rw [q] at v
      rw [if_neg (by decide)] at v
      have H := v
      obtain rfl := oI H
      refine bq rfl (bq rfl (bq rfl (bq rfl (bq rfl (bq rfl (bq rfl ?_))))))
      exact bq rfl (eP bv rfl rfl (Tq.fin (.r rfl)))
     ·rw [q] at v
      rw [if_pos rfl] at v
      have H := v
      refine gN run_move rfl (gN run_move rfl ?_)
      obtain ⟨z, a5, H⟩ := bnd H
      obtain ⟨P, Q, S⟩ := aF a5
      refine Tq.x (fun _ _ a c => ai CL (a.ev rfl) h (a.ev rfl) P Q) (gN (ag pY) rfl (qb (U := (jk).Ad) (fun u => (jk).ok w.O w.W u z) (fun u => (sL u.1 z.Xs u.2)) (wg rfl rfl rfl) rfl (BF (κ := 0) (t := jk) (V := fun u => (sL u.1 z.Xs u.2)) rfl S (fun _ _ u a hc => ah mU (a.ev rfl) (hc.drop 2) rfl)) ?_))
      intro a9 I
      obtain ⟨A, B⟩ := a9
      have o := I
      replace o : Sl w.O w.W bL A B z.Xs := o
      dsimp only
      refine gN (ag pY) rfl (Tq.x (fun _ _ a c => ah mU (a.ev rfl) (dZ c (vs := [iv p1.Y0, iv p1.Y1, sL b p1.Xs d]) (k := 1) rfl 2) rfl) ?_)
      obtain ⟨T, a6, H⟩ := bnd H
      refine kR (r := (bV T)) (wg rfl rfl rfl) rfl Tryz.call109 (ak rfl (ak rfl aQ)) (fun W hW => yG z.Xs A B (o.rl.ext hW.dC) p1.Xs b d (D.rl.ext hW.dC) T a6 (HF.start _)) (eP bC rfl rfl ?_)
      obtain rfl := oI H
      exact Tq.fin (.r rfl)
    ·refine iJ (aa (aN rfl H (fun H => ?_) (fun H => ?_)))
     ·refine aj (av rfl (av rfl (aU (ag uh) rfl (aP rfl (fun _ _ a c => ah bQ (a.ev rfl) (dZ c (vs := [iv p1.Y0, iv p1.Y1, sL b p1.Xs d]) (k := 1) rfl 1) rfl) ?_))))
      obtain ⟨X, a7, H⟩ := bnd H
      obtain ⟨Z, a0, a1⟩ := aF a7
      refine aP rfl (fun _ _ a c => ai CL (a.ev rfl) h (a.ev rfl) Z a0) (aU (ag uh) rfl ?_)
      obtain ⟨C, E, H⟩ := bnd H
      have y := nW E
      refine nZ 0 (t := jk) (l := p0) (i := (bn ((p0.length : Int) - 1))) (fo := 1) (cs := [iv p1.Y1]) (jL.mk X.Y0 p1.Y1 X.Xs) (wn rfl) rfl rfl rfl rfl rfl a1 zR rfl (fun u hu => ⟨u, hu, rfl⟩) rfl E ?_
      have a2 : fC f C.length g := by rw [y]; exact h
      have b1 := y.trans rfl
      refine Tr.wL (lf := [(0, sL f C g), (3, pV j), (5, iv (bn ((p0.length : Int) - 1))), (42, bV N), (43, sL f C g), (44, iv (bn ((p0.length : Int) - 1))), (45, .pointer (some ⟨j, 1, none⟩)), (46, iv p1.Y1)]) (le := [(0, ow f g 98 jk C), (1, bx j #[iv p1.Y0, iv p1.Y1, sL b p1.Xs d] 98), (2, ow none 0 98 jk ([] : List jL))]) (.cons (eG rfl (by unfold sL; rw [y])) (.cons rfl (.cons rfl (.cons rfl (.cons (eG rfl (by unfold sL; rw [y])) (.r rfl)))))) (.r rfl) (ae (aa (aj (av rfl (Tr.k rfl (ae (aa (bg (aL ?_)))))))))
      obtain rfl := oI H
      exact Tr.out (m := [sL f C g]) [] (eU rfl dR) (fun W hW => ⟨w, (f, g), leB, rfl, a2, hW.pick (ks := [0]) (by decide) (bA rfl bK)⟩)
     ·refine aK (aa (aj (av rfl (aP rfl (fun _ _ a c => aO (cs := [iv p1.Y0, iv p1.Y1, sL b p1.Xs d]) Ov Fy (a.ev rfl) (aC.take (dZ c (vs := [iv p1.Y0, iv p1.Y1, sL b p1.Xs d]) (k := 1) rfl 0) 3) rfl) (dG 3 (e := 98) (vs := [(0, .agg #[iv p1.Y0, iv p1.Y1, sL b p1.Xs d])]) (cs := [iv p1.Y0, iv p1.Y1, sL b p1.Xs d]) (wn rfl) rfl (bD rfl dL) (by kernel_rfl) fun b3 => ?_)))))
      obtain ⟨b0, a8, H⟩ := bnd H
      refine Tr.append 0 (t := jk) (l := p0) (l2 := [p1]) (wn rfl) rfl rfl rfl rfl (fun W hW => ⟨[[iv p1.Y0, iv p1.Y1, sL b p1.Xs d]], (.cons ⟨(b, d), D, rfl⟩ .nil), dZ hW (vs := [iv p1.Y0, iv p1.Y1, sL b p1.Xs d]) (k := 3) rfl 0⟩) H9 Fy RD (by decide) Sm rfl a8 fun F G a3 => (Tr.k rfl (ae (aa (bg ?_))))
      obtain rfl := oI H
      exact Tr.out (m := [sL F b0 G]) [] (eU rfl dR) (fun W hW => ⟨w, (F, G), leB, rfl, a3, hW.pick (ks := [0]) (by decide) (bA rfl bK)⟩)

theorem xK (N : Nat) {w : Bs} (p0 : (List aI)) (b8 : Option Addr) (b9 : Nat) (h3 : Sl w.R w.W bz b8 b9 p0) (r : (List jL)) (H : nT N p0 = some r) (hE : HF w w.W (kw [emp])) : Calls Tryz.prog 32 [sL b8 p0 b9].toArray w.W fun e W' => ∃ (w' : Bs) (u : (Option Addr × Nat)), w.Le w' ∧ e = .returned (sL u.1 r u.2) ∧ (fC u.1 r.length u.2) ∧ HF w' W' (kw [ow u.1 u.2 98 jk r]) := by
 unfold nT at H
 have leB := Bs.Le.refl w
 refine bB (n := 83) Tryz.func32 rfl rfl rfl hE (aj (Tr.k rfl (bS 1 98 jk ?_)))
 show Tr _ _ (uf _ 2 (sL none (([] : List jL)) 0)) _ _
 refine ae (aa (aj (av rfl ?_)))
 obtain ⟨V, h4, H⟩ := bnd H
 refine jX [2] [emp] (U := (Option Addr × Nat)) (fun u => (sL u.1 V u.2)) (fun u => fC u.1 V.length u.2) (fun u => [ow u.1 u.2 38 bz V]) rfl (bA rfl bK) (fun _ => rfl) (wn rfl) rfl Tryz.call59 (ak rfl aQ) (fun W hW hp hE => yn p0 b8 b9 (h3.ext (hW.mQ hp)) V h4 hE) ?_
 intro u hu
 obtain ⟨d, f⟩ := u
 have e6 := hu
 have d3 : fC d V.length f := e6 --@phi
 dsimp only
 refine Tr.k rfl (ae (aa (aj (av rfl ?_))))
 obtain ⟨j, h5, H⟩ := bnd H
 refine jX [2] [ow d f 38 bz V] (U := Unit) (fun u => (.tuple #[])) (fun u => j.length = V.length) (fun u => [ow d f 38 bz j]) rfl (bA rfl bK) (fun _ => rfl) (wn rfl) rfl Tryz.call60 (ak rfl (ak rfl aQ)) (fun W hW hp hE => qX V d f (fun z0 z1 => oJ z0 z1) 61 [] Tryz.call61 (fun w' he z0 z1 y hy => AB z0 z1 y hy (HF.start _)) j h5 hE) ?_
 intro u hu
 have d4 := hu
 have a0 : j.length = V.length := d4 --@phi
 have a1 : fC d j.length f := by rw [a0]; exact d3
 show Tr _ _ (uf _ 13 (.tuple #[])) (up _ 2 (ow d f 38 bz j)) _
 refine Tr.wL (lf := [(0, sL d j f), (2, sL none (([] : List jL)) 0), (10, sL b8 p0 b9), (11, sL d j f), (12, sL d j f), (13, (.tuple #[]))]) (le := [(1, ow none 0 98 jk ([] : List jL)), (2, ow d f 38 bz j)]) (.cons (eG rfl (by unfold sL; rw [a0])) (.cons rfl (.cons rfl (.cons (eG rfl (by unfold sL; rw [a0])) (.cons (eG rfl (by unfold sL; rw [a0])) (.r rfl)))))) (.r rfl) (ae (aa (aj (Tr.alloc 3 (wn rfl) rfl RG fun C => (ae (aa (ay (aj (av rfl (aU (bi pR) rfl (av rfl (ae (aa (Tr.block (bS 12 3 bL (bT (σ := (List aI) × Nat × (List Int) × (Option Addr) × Nat) (fun m w s => m = s.1.length + 1 ∧ s.1 = List.drop s.2.1 j ∧ s.2.1 ≤ j.length ∧ kM N j s.1 s.2.1 s.2.2.1 = some r ∧ fC s.2.2.2.1 s.2.2.1.length s.2.2.2.2) (fun s => [(0, sL d j f), (3, pV C), (14, sL d j f), (15, iv (j.length : Int)), (16, iv (s.2.1 : Int))]) (fun s => [(2, ow d f 38 bz j), (3, bx C #[sL s.2.2.2.1 s.2.2.1 s.2.2.2.2] 96), (12, ow s.2.2.2.1 s.2.2.2.2 3 bL s.2.2.1)]) (j.length + 1) (j, 0, ([] : List Int), none, 0) ⟨rfl, rfl, Nat.zero_le _, H, iM⟩ (.r rfl) (.r rfl) (fun _ _ h => absurd h.1 (by simp)) ?_))))))))))))))))
 intro w f2 m s hs
 obtain ⟨X, c5, Z, F, G⟩ := s
 obtain ⟨d5, a2, k1, H, c6⟩ := hs
 replace a2 : X = List.drop c5 j := a2
 replace H : kM N j X c5 Z = some r := H
 replace d5 : m + 1 = X.length + 1 := d5
 replace leB := leB.trans f2
 replace c6 : fC F Z.length G := c6
 obtain rfl : m = X.length := by omega
 clear d5
 dsimp only
 cases X with
 | nil =>
  rw [kM.eq_1] at H
  refine aj (az aX rfl rfl (ae (aa (ay (jB rfl (ji a2) (bO (au (au (aM (aa (aj (aP rfl (fun _ _ a c => ah mU (a.ev rfl) (dZ c (vs := [sL F Z G]) (k := 3) rfl 0) rfl) ?_))))))))))))
  obtain ⟨T, h6, H⟩ := bnd H
  refine jX [12] [ow F G 3 bL Z] (U := Unit) (fun u => (.tuple #[])) (fun u => T.length = Z.length) (fun u => [ow F G 3 bL T]) rfl (bA rfl bK) (fun _ => rfl) (wn rfl) rfl Tryz.call62 (ak rfl aQ) (fun W hW hp hE => zw Z F G T h6 hE) ?_
  intro u hu
  have d6 := hu
  have a3 : T.length = Z.length := d6 --@phi
  have j1 : fC F T.length G := by rw [a3]; exact c6
  show Tr _ _ (uf _ 29 (.tuple #[])) (up _ 12 (ow F G 3 bL T)) _
  refine Tr.wL (lf := [(0, sL d j f), (3, pV C), (14, sL d j f), (15, iv (j.length : Int)), (16, iv (c5 : Int)), (17, bV (decide ((c5 : Int) < (j.length : Int)))), (28, sL F T G), (29, (.tuple #[]))]) (le := [(2, ow d f 38 bz j), (3, bx C #[sL F T G] 96), (12, ow F G 3 bL T)]) (.cons rfl (.cons rfl (.cons rfl (.cons rfl (.cons rfl (.cons rfl (.cons (eG rfl (by unfold sL; rw [a3])) (.r rfl)))))))) (.cons rfl (.cons (Uq rfl (by unfold sL; rw [a3])) (.r rfl))) (ae (aa (aj (aP rfl (fun _ _ a c => ah mU (a.ev rfl) (dZ c (vs := [sL F T G]) (k := 3) rfl 0) rfl) ?_))))
  obtain ⟨o, h7, H⟩ := bnd H
  refine jX [12] [ow F G 3 bL T] (U := (Option Addr × Nat)) (fun u => (sL u.1 o u.2)) (fun u => fC u.1 o.length u.2) (fun u => [ow u.1 u.2 3 bL o]) rfl (bA rfl bK) (fun _ => rfl) (wn rfl) rfl Tryz.call63 (ak rfl aQ) (fun W hW hp hE => xI T F G o h7 hE) ?_
  intro u hu
  obtain ⟨g, i⟩ := u
  have e7 := hu
  have b4 : fC g o.length i := e7 --@phi
  dsimp only
  refine dm 3 (cs := [sL g o i]) [sL g o i] (wn rfl) rfl rfl rfl rfl KX rfl rfl rfl (ae (aa (aj (Tr.k rfl (bS 13 98 jk ?_)))))
  show Tr _ _ (uf _ 6 (sL none (([] : List jL)) 0)) _ _
  refine ae (aa (aj (Tr.k rfl (bS 14 38 bz ?_))))
  show Tr _ _ (uf _ 7 (sL none (([] : List aI)) 0)) _ _
  refine ae (aa (aj (Tr.k rfl (ae (aa (ay (aj (Tr.alloc 15 (wn rfl) rfl RI fun j2 => (dm 15 (cs := [iv 0]) [iv 0] (wn rfl) rfl rfl rfl rfl zR rfl rfl rfl (ae (aa (Tr.block (zn 15 29 rfl rfl rfl (bT (σ := Int × (List jL) × (List aI) × Int × Nat × (Option Addr) × Nat × (Option Addr) × Nat) (fun m w s => gX N j o m s.1 s.2.1 s.2.2.1 s.2.2.2.1 = some r ∧ fC s.2.2.2.2.2.1 s.2.1.length s.2.2.2.2.2.2.1 ∧ fC s.2.2.2.2.2.2.2.1 s.2.2.1.length s.2.2.2.2.2.2.2.2) (fun s => [(0, sL d j f), (3, pV C), (6, sL s.2.2.2.2.2.1 s.2.1 s.2.2.2.2.2.2.1), (7, sL s.2.2.2.2.2.2.2.1 s.2.2.1 s.2.2.2.2.2.2.2.2), (8, iv s.2.2.2.1), (9, .pointer (some ⟨s.2.2.2.2.1, 0, none⟩))]) (fun s => [(2, ow d f 38 bz j), (3, bx C #[sL g o i] 96), (12, ow g i 3 bL o), (13, ow s.2.2.2.2.2.1 s.2.2.2.2.2.2.1 98 jk s.2.1), (14, ow s.2.2.2.2.2.2.2.1 s.2.2.2.2.2.2.2.2 38 bz s.2.2.1), (29, bx s.2.2.2.2.1 #[iv s.1] 3)]) N (0, ([] : List jL), ([] : List aI), 0, j2, none, 0, none, 0) ⟨H, iM, iM⟩ (.r rfl) (.r rfl) (fun _ _ h => fU (h.1)) ?_))))))))))))))
  intro w a4 f3 s hs
  obtain ⟨q, M, c4, d7, L, I, J, c0, c3⟩ := s
  obtain ⟨H, c7, k0⟩ := hs
  replace H : gX N j o (f3 + 1) q M c4 d7 = some r := H
  replace leB := leB.trans a4
  replace c7 : fC I M.length J := c7
  rw [gX.eq_2] at H
  dsimp only
  refine ay (aj (aP rfl (fun _ _ a c => ah bQ (a.ev rfl) (dZ c (vs := [iv q]) (k := 29) rfl 0) rfl) (az aZ rfl rfl (aP rfl (fun _ _ a c => ah mU (a.ev rfl) (dZ c (vs := [sL g o i]) (k := 3) rfl 0) rfl) (aU (bi nE) rfl (az aX rfl rfl (ae (aa (aN rfl H (fun H => ?_) (fun H => ?_))))))))))
  ·refine aK (aa (ay (Tr.block (aj (av rfl (vI (vs := [pV C, pV L]) (wn rfl) rfl (ak rfl (ak rfl aQ)) ?_))))))
   obtain ⟨a5, h8, H⟩ := bnd H
   refine jX [14] [ow c0 c3 38 bz c4] (U := (Option Addr × Nat)) (fun u => (sL u.1 a5 u.2)) (fun u => fC u.1 a5.length u.2) (fun u => [ow u.1 u.2 38 bz a5]) rfl (bA rfl bK) (fun _ => rfl) (wn rfl) rfl Tryz.call64 (ak rfl (ak rfl aQ)) (fun W hW hp hE => vz N c4 c0 c3 (fun z0 => oH z0 o q) 65 [pV C, pV L] Tryz.call65 (fun w' he z0 y hy => AA z0 o g i ((hW.Qk (k := 12) rfl hp rfl).ext he) C (he.r _ (hW.Jj (k := 3) rfl hp rfl)) (he.cells (hW.Jj (k := 3) rfl hp rfl) (hW.MV (k := 3) rfl)) q L (he.r _ (hW.Jj (k := 29) rfl hp rfl)) (he.cells (hW.Jj (k := 29) rfl hp rfl) (hW.MV (k := 29) rfl)) y hy (HF.start _)) a5 h8 hE) ?_
   intro u hu
   obtain ⟨a8, a9⟩ := u
   have e8 := hu
   have d8 : fC a8 a5.length a9 := e8 --@phi
   dsimp only
   refine Tr.k rfl (ae (aa (ay (Tr.block (bT (σ := (List aI) × Int × (Option Addr) × Nat) (fun m w s => kL j o q M (gX N j o f3) m s.1 s.2.1 = some r ∧ fC s.2.2.1 s.1.length s.2.2.2) (fun s => [(0, sL d j f), (3, pV C), (6, sL I M J), (7, sL s.2.2.1 s.1 s.2.2.2), (8, iv s.2.1), (9, pV L)]) (fun s => [(2, ow d f 38 bz j), (3, bx C #[sL g o i] 96), (12, ow g i 3 bL o), (13, ow I J 98 jk M), (14, ow s.2.2.1 s.2.2.2 38 bz s.1), (29, bx L #[iv q] 3)]) N (a5, d7, a8, a9) ⟨H, d8⟩ (.r rfl) (.r rfl) (fun _ _ h => fU (h.1)) ?_)))))
   intro w f4 j8 s hs
   obtain ⟨K, b5, v, A⟩ := s
   obtain ⟨H, c8⟩ := hs
   replace H : kL j o q M (gX N j o f3) (j8 + 1) K b5 = some r := H
   replace a4 := a4.trans f4
   replace c8 : fC v K.length A := c8
   rw [kL.eq_2] at H
   dsimp only
   refine ay (ay (iN (by kernel_rfl) (by kernel_rfl) (bU rfl (bU rfl (gH (bi pR) rfl (eP aX rfl rfl (bU rfl ?_)))))))
   obtain ⟨f5, b0, H⟩ := bnd H
   refine oF 11 [(0, sL d j f), (3, pV C), (6, sL I M J), (7, sL v K A), (8, iv b5), (9, pV L), (57, bV f5)] ?_ ?_
   ·cases e4 : (decide (b5 < (j.length : Int)))
    ·rw [e4] at b0
     rw [if_neg (by decide)] at b0
     have H := b0
     obtain rfl := oI H
     refine bq rfl (bq rfl (bq rfl (bq rfl (bq rfl (bq rfl (bq rfl ?_))))))
     exact bq rfl (bq rfl (bq rfl (eP bv rfl rfl (Tq.fin (.r rfl)))))
    ·rw [e4] at b0
     rw [if_pos rfl] at b0
     have H := b0
     refine gN run_move rfl (gN run_move rfl ?_)
     obtain ⟨k2, h9, H⟩ := bnd H
     obtain ⟨f6, f7, f8⟩ := aF h9
     refine Tq.x (fun _ _ a c => ai oP (a.ev rfl) a1 (a.ev rfl) f6 f7) (gN (ag nO) rfl (Tq.x (fun _ _ a c => ah bQ (a.ev rfl) (aC.drop (Ab iY (k := 2) c rfl f8) 1) rfl) (Tq.x (fun _ _ a c => ah mU (a.ev rfl) (dZ c (vs := [sL g o i]) (k := 3) rfl 0) rfl) (Tq.x (fun _ _ a c => ah bQ (a.ev rfl) (dZ c (vs := [iv q]) (k := 29) rfl 0) rfl) ?_))))
     obtain ⟨k3, i0, H⟩ := bnd H
     obtain ⟨f9, g0, g1⟩ := aF i0
     refine Tq.x (fun _ _ a c => ai lQ (a.ev rfl) b4 (a.ev rfl) f9 g0) (Tq.x (fun _ _ a c => ah bQ (a.ev rfl) (Ab jM (k := 12) c rfl g1) rfl) (ou nk rfl rfl (eP bC rfl rfl ?_)))
     obtain rfl := oI H
     exact Tq.fin (.r rfl)
   ·refine iJ (aa (aN rfl H (fun H => ?_) (fun H => ?_)))
    ·refine aK (aa (Tr.block (aD (av rfl (av rfl (av rfl ?_))))))
     obtain ⟨E, i1, H⟩ := bnd H
     obtain ⟨g2, g3, g4⟩ := aF i1
     refine aP rfl (fun _ _ a c => ai oP (a.ev rfl) a1 (a.ev rfl) g2 g3) (aP rfl (fun _ _ a c => aO (cs := [iv E.X0, iv E.Y0, iv E.X1, iv E.Y1]) sP nV (a.ev rfl) (aC.take (Ab iY (k := 2) c rfl g4) 4) rfl) (dG 32 (e := 38) (vs := [(0, .agg #[iv E.X0, iv E.Y0, iv E.X1, iv E.Y1])]) (cs := [iv E.X0, iv E.Y0, iv E.X1, iv E.Y1]) (wn rfl) rfl (bD rfl dL) (by kernel_rfl) fun k4 => ?_))
     obtain ⟨j3, i2, H⟩ := bnd H
     exact Tr.append 14 (t := bz) (l := K) (l2 := [E]) (wn rfl) rfl rfl rfl rfl (fun W hW => ⟨[[iv E.X0, iv E.Y0, iv E.X1, iv E.Y1]], (.cons ⟨(), trivial, rfl⟩ .nil), dZ hW (vs := [iv E.X0, iv E.Y0, iv E.X1, iv E.Y1]) (k := 32) rfl 0⟩) pR nV KN (by decide) L6 rfl i2 fun i3 i4 g5 => (av rfl (az aZ rfl rfl (Tr.k rfl (Tr.k rfl (ae (aH (aB f4 (j3, (bn (b5 + 1)), i3, i4) ⟨H, g5⟩ (.r rfl) (.r rfl))))))))
    ·refine bO (au (au (aM (aa (oQ 13 [(11, (ow v A 38 bz K).S)] [] (by kernel_rfl) (by kernel_rfl) fun b1 j4 j7 => (cu 0 (by kernel_rfl) rfl (wn rfl) rfl (by kernel_rfl) (fun _ _ a => run_move (a.ev rfl)) rfl (oK 1 [(68, sL g o i)] [11] false (by kernel_rfl) rfl rfl (by kernel_rfl) (fun W W' c hsW hk => HF.y8 (le := [(3, bx C #[sL g o i] 96)]) (ks := [(14, (ow v A 38 bz K).S)]) (s0 := b1) false c hk (fun h => absurd h (by decide)) (.r rfl) (fun b hb => hb.elim (fun ⟨p, hp, hf, hb⟩ => by simp only [List.mem_cons, List.not_mem_nil, or_false] at hp; rcases hp with rfl; exact .inl ⟨_, List.mem_cons_self, hb⟩) (fun hb => absurd hb.1 (by decide))) (List.forall_mem_cons.2 ⟨fun b hb => hb, (fun _ h => nomatch h)⟩) rfl) ?_ rfl rfl ?_)))))))
     ·exact aY rfl (fun _ _ a c => ah mU (a.ev rfl) (dZ c (vs := [sL g o i]) (k := 3) rfl 0) rfl) (Tq.fin (.r rfl))
     refine oK 2 [(69, iv q)] [11] false (by kernel_rfl) rfl rfl (by kernel_rfl) (fun W W' c hsW hk => HF.y8 (le := [(29, bx L #[iv q] 3)]) (ks := [(14, (ow v A 38 bz K).S)]) (s0 := b1) false c hk (fun h => absurd h (by decide)) (.r rfl) (fun b hb => hb.elim (fun ⟨p, hp, hf, hb⟩ => by simp only [List.mem_cons, List.not_mem_nil, or_false] at hp; rcases hp with rfl; exact .inl ⟨_, List.mem_cons_self, hb⟩) (fun hb => absurd hb.1 (by decide))) (List.forall_mem_cons.2 ⟨fun b hb => hb, (fun _ h => nomatch h)⟩) rfl) ?_ rfl rfl ?_
     ·exact aY rfl (fun _ _ a c => ah bQ (a.ev rfl) (dZ c (vs := [iv q]) (k := 29) rfl 0) rfl) (Tq.fin (.r rfl))
     obtain ⟨b6, i5, H⟩ := bnd H
     obtain ⟨g6, g7, g8⟩ := aF i5
     refine cu 3 (by kernel_rfl) rfl (wn rfl) rfl (by kernel_rfl) (fun _ _ a => ai lQ (a.ev rfl) b4 (a.ev rfl) g6 g7) rfl (oK 4 [(71, iv b6)] [11] false (by kernel_rfl) rfl rfl (by kernel_rfl) (fun W W' c hsW hk => HF.y8 (le := [(12, ow g i 3 bL o)]) (ks := [(14, (ow v A 38 bz K).S)]) (s0 := b1) false c hk (fun h => absurd h (by decide)) (.r rfl) (fun b hb => hb.elim (fun ⟨p, hp, hf, hb⟩ => by simp only [List.mem_cons, List.not_mem_nil, or_false] at hp; rcases hp with rfl; exact .inl ⟨_, List.mem_cons_self, hb⟩) (fun hb => absurd hb.1 (by decide))) (List.forall_mem_cons.2 ⟨fun b hb => hb, (fun _ h => nomatch h)⟩) rfl) ?_ rfl rfl ?_)
     ·exact aY rfl (fun _ _ a c => ah bQ (a.ev rfl) (Ab jM (k := 12) c rfl g8) rfl) (Tq.fin (.r rfl))
     refine oK 5 [(72, sL g o i)] [11] false (by kernel_rfl) rfl rfl (by kernel_rfl) (fun W W' c hsW hk => HF.y8 (le := [(3, bx C #[sL g o i] 96)]) (ks := [(14, (ow v A 38 bz K).S)]) (s0 := b1) false c hk (fun h => absurd h (by decide)) (.r rfl) (fun b hb => hb.elim (fun ⟨p, hp, hf, hb⟩ => by simp only [List.mem_cons, List.not_mem_nil, or_false] at hp; rcases hp with rfl; exact .inl ⟨_, List.mem_cons_self, hb⟩) (fun hb => absurd hb.1 (by decide))) (List.forall_mem_cons.2 ⟨fun b hb => hb, (fun _ h => nomatch h)⟩) rfl) ?_ rfl rfl ?_
     ·exact aY rfl (fun _ _ a c => ah mU (a.ev rfl) (dZ c (vs := [sL g o i]) (k := 3) rfl 0) rfl) (Tq.fin (.r rfl))
     refine oK 6 [(73, iv q)] [11] false (by kernel_rfl) rfl rfl (by kernel_rfl) (fun W W' c hsW hk => HF.y8 (le := [(29, bx L #[iv q] 3)]) (ks := [(14, (ow v A 38 bz K).S)]) (s0 := b1) false c hk (fun h => absurd h (by decide)) (.r rfl) (fun b hb => hb.elim (fun ⟨p, hp, hf, hb⟩ => by simp only [List.mem_cons, List.not_mem_nil, or_false] at hp; rcases hp with rfl; exact .inl ⟨_, List.mem_cons_self, hb⟩) (fun hb => absurd hb.1 (by decide))) (List.forall_mem_cons.2 ⟨fun b hb => hb, (fun _ h => nomatch h)⟩) rfl) ?_ rfl rfl ?_
     ·exact aY rfl (fun _ _ a c => ah bQ (a.ev rfl) (dZ c (vs := [iv q]) (k := 29) rfl 0) rfl) (Tq.fin (.r rfl))
     refine cu 7 (by kernel_rfl) rfl (wn rfl) rfl (by kernel_rfl) (fun _ _ a => aZ (a.ev rfl) (a.ev rfl)) rfl ?_
     obtain ⟨b7, i6, H⟩ := bnd H
     obtain ⟨g9, h0, h1⟩ := aF i6
     refine cu 8 (by kernel_rfl) rfl (wn rfl) rfl (by kernel_rfl) (fun _ _ a => ai lQ (a.ev rfl) b4 (a.ev rfl) g9 h0) rfl (oK 9 [(76, iv b7)] [11] false (by kernel_rfl) rfl rfl (by kernel_rfl) (fun W W' c hsW hk => HF.y8 (le := [(12, ow g i 3 bL o)]) (ks := [(14, (ow v A 38 bz K).S)]) (s0 := b1) false c hk (fun h => absurd h (by decide)) (.r rfl) (fun b hb => hb.elim (fun ⟨p, hp, hf, hb⟩ => by simp only [List.mem_cons, List.not_mem_nil, or_false] at hp; rcases hp with rfl; exact .inl ⟨_, List.mem_cons_self, hb⟩) (fun hb => absurd hb.1 (by decide))) (List.forall_mem_cons.2 ⟨fun b hb => hb, (fun _ h => nomatch h)⟩) rfl) ?_ rfl rfl ?_)
     ·exact aY rfl (fun _ _ a c => ah bQ (a.ev rfl) (Ab jM (k := 12) c rfl h1) rfl) (Tq.fin (.r rfl))
     refine aV 10 [(77, sL v K A)] (by kernel_rfl) rfl rfl (by kernel_rfl) ?_ rfl rfl ?_
     ·exact bU rfl (Tq.fin (.r rfl))
     obtain ⟨D, i7, H⟩ := bnd H
     refine Dr.one 11 (by kernel_rfl) (Js 11 [14, 33] [ow v A 38 bz K, emp] (U := (Option Addr × Nat)) (fun u => (sL u.1 D.1 u.2)) (fun u => fC u.1 D.1.length u.2 ∧ D.2.length = K.length) (fun u => [ow v A 38 bz D.2, ow u.1 u.2 3 bL D.1]) rfl (bA rfl (bA rfl bK)) (fun _ => rfl) (fun b ⟨e, he, hS⟩ => by simp only [List.mem_cons, List.not_mem_nil, or_false] at he; rcases he with rfl | rfl; exact .inl ⟨_, List.mem_cons_self, rfl, hS⟩; exact hS.elim) rfl (wn rfl) rfl Tryz.call67 (ak rfl aQ) (fun W hW hp hE => zx K v A D i7 hE) ?_)
     intro u hu j9
     obtain ⟨P, Q⟩ := u
     obtain ⟨e9, d9⟩ := hu
     have j5 : fC P D.1.length Q := e9
     have a6 : D.2.length = K.length := d9
     have d2 : fC v D.2.length A := by rw [a6]; exact c8
     dsimp only
     refine Dr.use (lf := [(0, sL d j f), (3, pV C), (6, sL I M J), (7, sL v D.2 A), (8, iv b5), (9, pV L), (57, bV f5), (67, sL I M J), (68, sL g o i), (69, iv q), (70, .pointer (some ⟨nY g, pF g + (q).toNat * 1, none⟩)), (71, iv b6), (72, sL g o i), (73, iv q), (74, iv (bn (q + 1))), (75, .pointer (some ⟨nY g, pF g + ((bn (q + 1))).toNat * 1, none⟩)), (76, iv b7), (77, sL v D.2 A), (78, sL P D.1 Q)]) (le := [(2, ow d f 38 bz j), (3, bx C #[sL g o i] 96), (12, ow g i 3 bL o), (13, ow I J 98 jk M), (14, ow v A 38 bz D.2), (29, bx L #[iv q] 3), (33, ow P Q 3 bL D.1)]) ?_ rfl (.cons rfl (.cons rfl (.cons rfl (.cons (eG rfl (by unfold sL; rw [a6])) (.cons rfl (.cons rfl (.cons rfl (.cons rfl (.cons rfl (.cons rfl (.cons rfl (.cons rfl (.cons rfl (.cons rfl (.cons rfl (.cons rfl (.cons rfl (.cons (eG rfl (by unfold sL; rw [a6])) (.r rfl))))))))))))))))))) (.r rfl)
     refine aV 12 [(79, .agg #[iv b6, iv b7, sL P D.1 Q])] (by kernel_rfl) rfl rfl (by kernel_rfl) ?_ rfl rfl ?_
     ·exact xE (vs := [(0, iv b6), (1, iv b7), (2, sL P D.1 Q)]) (cs := [iv b6, iv b7, sL P D.1 Q]) (wn rfl) rfl (bD rfl (bD rfl (bD rfl dL))) (by kernel_rfl) (Tq.fin (.r rfl))
     refine qN (by kernel_rfl) (Tr.freeze 33 rfl fun w i8 c9 => ?_)
     replace a4 := a4.trans i8
     obtain ⟨a7, i9, H⟩ := bnd H
     refine jl [13] [ow I J 98 jk M] (U := (Option Addr × Nat)) (fun u => (sL u.1 a7 u.2)) (fun O W u => fC u.1 a7.length u.2) (fun u => [ow u.1 u.2 98 jk a7]) rfl (bA rfl bK) (fun _ => rfl) (wn rfl) rfl Tryz.call66 (ak rfl (ak rfl aQ)) (fun W hW hp hE => zy M I J (jL.mk b6 b7 D.1) P Q (c9.Hd (hW.mQ hp)) a7 i9 hE) ?_
     intro w u e5 hu
     obtain ⟨b2, b3⟩ := u
     have f1 := hu
     replace c9 := c9.le e5
     replace a4 := a4.trans e5
     have e0 : fC b2 a7.length b3 := f1 --@phi
     dsimp only
     refine Tr.k rfl (ae (aH (aa (ay (aj (aP rfl (fun _ _ a c => ah bQ (a.ev rfl) (dZ c (vs := [iv q]) (k := 29) rfl 0) rfl) (ae (aa (aD (Tr.alloc 34 (wn rfl) rfl RI fun j6 => (dm 34 (cs := [iv q]) [iv q] (wn rfl) rfl rfl rfl rfl zR rfl rfl rfl (ae (aa (aD (aP rfl (fun _ _ a c => ah bQ (a.ev rfl) (dZ c (vs := [iv q]) (k := 34) rfl 0) rfl) (az aZ rfl rfl (dm 34 (cs := [iv (bn (q + 1))]) [iv (bn (q + 1))] (wn rfl) rfl rfl rfl rfl zR rfl rfl rfl (ae (Jq 29 (zn 34 29 rfl rfl rfl ?_))))))))))))))))))))
     exact aB a4 ((bn (q + 1)), a7, D.2, b5, j6, b2, b3, v, A) ⟨H, e0, d2⟩ (.r rfl) (.r rfl)
  ·refine bO (au (au (aM (aa (aj (av rfl (Tr.k rfl (ae (aa (bg ?_))))))))))
   obtain rfl := oI H
   exact Tr.out (m := [sL I M J]) [] (eU rfl dR) (fun W hW => ⟨w, (I, J), leB, rfl, c7, hW.pick (ks := [13]) (by decide) (bA rfl bK)⟩)
 | cons B X =>
  rw [kM.eq_2] at H
  refine aj (az aX rfl rfl (ae (aa (ay (jA rfl (jW a2) (aK (aa (ay (Tr.block (aj (aP rfl (fun _ _ a c => ai oP (a.ev rfl) a1 (a.ev rfl) (Int.natCast_nonneg _) (ed a2)) (aP rfl (fun _ _ a c => aO (cs := [iv B.X0, iv B.Y0, iv B.X1, iv B.Y1]) sP nV (a.ev rfl) (aC.take (Ab iY (k := 2) c rfl (lN a2)) 4) rfl) (Tr.alloc 35 (wn rfl) rfl zX fun k5 => (dm 35 (cs := [iv B.X0, iv B.Y0, iv B.X1, iv B.Y1]) [iv B.X0, iv B.Y0, iv B.X1, iv B.Y1] (wn rfl) rfl rfl rfl rfl nV rfl rfl rfl (ae (aa (aD (aP rfl (fun _ _ a c => ah mU (a.ev rfl) (dZ c (vs := [sL F Z G]) (k := 3) rfl 0) rfl) (aU (ag nO) rfl (aP rfl (fun _ _ a c => ah bQ (a.ev rfl) (dZ c (vs := [iv B.X0, iv B.Y0, iv B.X1, iv B.Y1]) (k := 35) rfl 1) rfl) ?_))))))))))))))))))))
  refine aU (ag vk) rfl (aP rfl (fun _ _ a c => ah bQ (a.ev rfl) (dZ c (vs := [iv B.X0, iv B.Y0, iv B.X1, iv B.Y1]) (k := 35) rfl 3) rfl) (dG 36 (e := 3) (vs := [(0, iv B.Y0), (1, iv B.Y1)]) (cs := [iv B.Y0, iv B.Y1]) (wn rfl) rfl (bD rfl (bD rfl dL)) (by kernel_rfl) fun k6 => ?_))
  obtain ⟨e3, j0, H⟩ := bnd H
  exact Tr.append 12 (t := bL) (l := Z) (l2 := [B.Y0, B.Y1]) (wn rfl) rfl rfl rfl rfl (fun W hW => ⟨[[iv B.Y0], [iv B.Y1]], (.cons ⟨(), trivial, rfl⟩ (.cons ⟨(), trivial, rfl⟩ .nil)), dZ hW (vs := [iv B.Y0, iv B.Y1]) (k := 36) rfl 0⟩) nE zR JC (by decide) Kv rfl j0 fun d0 d1 h2 => (dm 3 (cs := [sL d0 e3 d1]) [sL d0 e3 d1] (wn rfl) rfl rfl rfl rfl KX rfl rfl rfl (ae (aH (aa (aD (az aZ rfl rfl (av rfl (ae (aB f2 (X, (c5 + 1), e3, d0, d1) ⟨rfl, jV a2, ed a2, H, h2⟩ (.cons rfl (.cons rfl (.cons rfl (.cons rfl (.cons (congrArg (fun z => some (Value.int .i64 z)) (jU a2 a1)) .nil))))) (.r rfl))))))))))

theorem yI (N : Nat) {w : Bs} (p0 : (List jL)) (A : Option Addr) (B : Nat) (F : Sl w.R w.W jk A B p0) (r : (List aI)) (H : ol N p0 = some r) (hE : HF w w.W (kw [emp])) : Calls Tryz.prog 25 [sL A p0 B].toArray w.W fun e W' => ∃ u : (Option Addr × Nat), e = .returned (sL u.1 r u.2) ∧ (fC u.1 r.length u.2) ∧ HF w W' (kw [ow u.1 u.2 38 bz r]) := by
 unfold ol at H
 have leB := Bs.Le.refl w
 refine bB (n := 41) Tryz.func25 rfl rfl rfl hE (aj (Tr.k rfl (bS 1 38 bz ?_)))
 show Tr _ _ (uf _ 2 (sL none (([] : List aI)) 0)) _ _
 refine ae (aa (aj (Tr.k rfl (bS 2 38 bz ?_))))
 show Tr _ _ (uf _ 3 (sL none (([] : List aI)) 0)) _ _
 refine ae (aa (ay (aj (av rfl (aU (bi H9) rfl (av rfl (ae (aa (Tr.block (bT (σ := (List jL) × Nat × (List aI) × (Option Addr) × Nat) (fun m w s => m = s.1.length + 1 ∧ s.1 = List.drop s.2.1 p0 ∧ s.2.1 ≤ p0.length ∧ fJ N s.1 s.2.1 s.2.2.1 = some r ∧ fC s.2.2.2.1 s.2.2.1.length s.2.2.2.2) (fun s => [(3, sL s.2.2.2.1 s.2.2.1 s.2.2.2.2), (7, sL A p0 B), (8, iv (p0.length : Int)), (9, iv (s.2.1 : Int))]) (fun s => [(2, ow s.2.2.2.1 s.2.2.2.2 38 bz s.2.2.1)]) (p0.length + 1) (p0, 0, ([] : List aI), none, 0) ⟨rfl, rfl, Nat.zero_le _, H, iM⟩ (.r rfl) (.r rfl) (fun _ _ h => absurd h.1 (by simp)) ?_))))))))))
 intro w O m s hs
 obtain ⟨j, K, L, I, J⟩ := s
 obtain ⟨S, G, b4, H, M⟩ := hs
 replace G : j = List.drop K p0 := G
 replace H : fJ N j K L = some r := H
 replace S : m + 1 = j.length + 1 := S
 replace F := F.qG O
 replace leB := leB.trans O
 replace M : fC I L.length J := M
 obtain rfl : m = j.length := by omega
 clear S
 dsimp only
 cases j with
 | nil =>
  rw [fJ.eq_1] at H
  refine aj (az aX rfl rfl (ae (aa (ay (jB rfl (ji G) (bO (au (au (aM (aa (aj (av rfl (Tr.k rfl (ae (aa (bg ?_))))))))))))))))
  obtain rfl := oI H
  exact Tr.out (m := [sL I L J]) [] (eU rfl dR) (fun W hW => ⟨(I, J), rfl, M, HF.xZ leB (hW.pick (ks := [2]) (by decide) (bA rfl bK)) ⟨pX _ _ _ _ ql, trivial⟩⟩)
 | cons d j =>
  rw [fJ.eq_2] at H
  refine aj (az aX rfl rfl (ae (aa (ay (jA rfl (jW G) (aK (aa (ay (Tr.block (aj ?_))))))))))
  obtain ⟨b1, V, U, X⟩ := (F).el (lN G)
  obtain ⟨f, g⟩ := b1
  have i := U
  replace i : Sl w.R w.W bL f g d.Xs := i
  refine aP rfl (fun _ _ a c => ai CL (a.ev rfl) F.form (a.ev rfl) (Int.natCast_nonneg _) (ed G)) (aP rfl (fun _ _ a c => aO (cs := [iv d.Y0, iv d.Y1, sL f d.Xs g]) Ov Fy (a.ev rfl) (aC.take (yM V X c) 3) rfl) (Tr.alloc 11 (wn rfl) rfl Qc fun v => (dm 11 (cs := [iv d.Y0, iv d.Y1, sL f d.Xs g]) [iv d.Y0, iv d.Y1, sL f d.Xs g] (wn rfl) rfl rfl rfl rfl Fy rfl rfl rfl (ae (aa (aj (Tr.k rfl (ae (aa (Tr.block (bT (σ := (List aI) × Int × (Option Addr) × Nat) (fun m w s => iG (fJ N j (K + 1)) d m s.1 s.2.1 = some r ∧ fC s.2.2.1 s.1.length s.2.2.2) (fun s => [(3, sL s.2.2.1 s.1 s.2.2.2), (5, pV v), (6, iv s.2.1), (7, sL A p0 B), (8, iv (p0.length : Int)), (9, iv (K : Int))]) (fun s => [(2, ow s.2.2.1 s.2.2.2 38 bz s.1), (11, bx v #[iv d.Y0, iv d.Y1, sL f d.Xs g] 98)]) N (L, 0, I, J) ⟨H, M⟩ (.r rfl) (.r rfl) (fun _ _ h => fU (h.1)) ?_)))))))))))
  intro w P b3 s hs
  obtain ⟨E, y, C, D⟩ := s
  obtain ⟨H, Q⟩ := hs
  replace H : iG (fJ N j (K + 1)) d (b3 + 1) E y = some r := H
  replace i := i.qG P
  replace F := F.qG P
  replace O := O.trans P
  replace Q : fC C E.length D := Q
  rw [iG.eq_2] at H
  dsimp only
  refine ay (aj (av rfl (aU (ag pY) rfl (aP rfl (fun _ _ a c => ah mU (a.ev rfl) (dZ c (vs := [iv d.Y0, iv d.Y1, sL f d.Xs g]) (k := 11) rfl 2) rfl) (aU (bi nE) rfl (az aX rfl rfl (ae (aa (aN rfl H (fun H => ?_) (fun H => ?_))))))))))
  ·refine aK (aa (ay (Tr.block ?_)))
   obtain ⟨o, a6, H⟩ := bnd H
   obtain ⟨Z, a0, a1⟩ := aF a6
   obtain ⟨q, a7, H⟩ := bnd H
   obtain ⟨a2, a3, a4⟩ := aF a7
   refine EX 18 [(17, .makeFunc (.func 0) #[] #[.tmp 36])] [(17, ⟨37, 14, .func (.func 0) #[] #[.agg #[iv o, iv d.Y0, iv q, iv d.Y1]], fun b => .slice (some ⟨b, 0, none⟩) 1 1, fun b => bx b #[iv o, iv d.Y0, iv q, iv d.Y1] 38⟩)] [(3, sL C E D), (5, pV v), (6, iv y), (7, sL A p0 B), (8, iv (p0.length : Int)), (9, iv (K : Int)), (13, iv y), (14, .pointer (some ⟨v, 2, none⟩)), (15, sL f d.Xs g), (16, iv (d.Xs.length : Int)), (17, bV (decide (y < (d.Xs.length : Int)))), (20, sL C E D), (21, .pointer (some ⟨v, 2, none⟩)), (22, sL f d.Xs g), (23, iv y), (24, .pointer (some ⟨nY f, pF f + (y).toNat * 1, none⟩)), (25, iv o), (26, pV v), (27, iv d.Y0), (28, .pointer (some ⟨v, 2, none⟩)), (29, sL f d.Xs g), (30, iv y), (31, iv (bn (y + 1))), (32, .pointer (some ⟨nY f, pF f + ((bn (y + 1))).toNat * 1, none⟩)), (33, iv q), (34, .pointer (some ⟨v, 1, none⟩)), (35, iv d.Y1), (36, .agg #[iv o, iv d.Y0, iv q, iv d.Y1]), (37, .func (.func 0) #[] #[.agg #[iv o, iv d.Y0, iv q, iv d.Y1]])] (by kernel_rfl) (by kernel_rfl) (by kernel_rfl) (by kernel_rfl) (by kernel_rfl) (by kernel_rfl) (by kernel_rfl) (ru (Kk (vs := [(0, .agg #[iv o, iv d.Y0, iv q, iv d.Y1])]) rfl rfl rfl (by kernel_rfl)) sK) (ru rfl sK) (ru rfl sK) ?_ ?_
   ·refine bU rfl (gH (ag pY) rfl (aY rfl (fun _ _ a c => ah mU (a.ev rfl) (dZ c (vs := [iv d.Y0, iv d.Y1, sL f d.Xs g]) (k := 11) rfl 2) rfl) (bU rfl (aY rfl (fun _ _ a c => ai lQ (a.ev rfl) i.form (a.ev rfl) Z a0) (aY rfl (fun _ _ a c => ah bQ (a.ev rfl) (oM jM i a1 c) rfl) (gH (ag vg) rfl (aY rfl (fun _ _ a c => ah bQ (a.ev rfl) (dZ c (vs := [iv d.Y0, iv d.Y1, sL f d.Xs g]) (k := 11) rfl 0) rfl) (gH (ag pY) rfl (aY rfl (fun _ _ a c => ah mU (a.ev rfl) (dZ c (vs := [iv d.Y0, iv d.Y1, sL f d.Xs g]) (k := 11) rfl 2) rfl) (bU rfl (eP aZ rfl rfl (aY rfl (fun _ _ a c => ai lQ (a.ev rfl) i.form (a.ev rfl) a2 a3) (aY rfl (fun _ _ a c => ah bQ (a.ev rfl) (oM jM i a4 c) rfl) ?_)))))))))))))
    exact gH (ag uh) rfl (aY rfl (fun _ _ a c => ah bQ (a.ev rfl) (dZ c (vs := [iv d.Y0, iv d.Y1, sL f d.Xs g]) (k := 11) rfl 1) rfl) (xE (vs := [(0, iv o), (1, iv d.Y0), (2, iv q), (3, iv d.Y1)]) (cs := [iv o, iv d.Y0, iv q, iv d.Y1]) (wn rfl) rfl (bD rfl (bD rfl (bD rfl (bD rfl dL)))) (by kernel_rfl) (Ct (vs := [.agg #[iv o, iv d.Y0, iv q, iv d.Y1]]) (wn rfl) rfl (ak rfl aQ) (Tq.fin (.r rfl)))))
   ·intro T
    refine Tr.wL (lf := [(5, pV v), (6, iv y), (7, sL A p0 B), (8, iv (p0.length : Int)), (9, iv (K : Int)), (20, sL C E D), (37, .slice (some ⟨(T 17), 0, none⟩) 1 1)]) (le := [(2, ow C D 38 bz E), (11, bx v #[iv d.Y0, iv d.Y1, sL f d.Xs g] 98), (14, bx (T 17) #[iv o, iv d.Y0, iv q, iv d.Y1] 38)]) (.r rfl) (.r rfl) ?_
    obtain ⟨b2, a8, H⟩ := bnd H
    exact Tr.append 2 (t := bz) (l := E) (l2 := [(aI.mk o d.Y0 q d.Y1)]) (wn rfl) rfl rfl rfl rfl (fun W hW => ⟨[[iv o, iv d.Y0, iv q, iv d.Y1]], (.cons ⟨(), trivial, rfl⟩ .nil), dZ hW (vs := [iv o, iv d.Y0, iv q, iv d.Y1]) (k := 14) rfl 0⟩) pR nV KN (by decide) L6 rfl a8 fun a9 b0 a5 => (Tr.k rfl (ae (aH (aa (aD (av rfl (az aZ rfl rfl (Tr.k rfl (ae (aB P (b2, (bn (y + 2)), a9, b0) ⟨H, a5⟩ (.r rfl) (.r rfl)))))))))))
  ·exact bO (au (au (aM (aH (aa (aD (az aZ rfl rfl (av rfl (ae (aB O (j, (K + 1), E, C, D) ⟨rfl, jV G, ed G, H, Q⟩ (.cons rfl (.cons rfl (.cons rfl (.cons (congrArg (fun z => some (Value.int .i64 z)) (jU G F.form)) .nil)))) (.r rfl)))))))))))

theorem ym {w : Bs} (p0 : (List aI)) (g : Option Addr) (i : Nat) (f : Sl w.R w.W bz g i p0) (p1 : (List aI)) (j : Option Addr) (l : Nat) (o : Sl w.R w.W bz j l p1) (r : Bool) (H : mE p0 p1 = some r) (hE : HF w w.W E0) : Calls Tryz.prog 11 [sL g p0 i, sL j p1 l].toArray w.W fun e W' => e = .returned (bV r) ∧ HF w W' E0 := by
 unfold mE at H
 have leB := Bs.Le.refl w
 refine bB (n := 26) Tryz.func11 rfl rfl rfl hE (aj (Tr.k rfl (ae (aa (ay (aj (av rfl (aU (bi pR) rfl (av rfl (aU (bi pR) rfl (az kW rfl rfl (ae (aa (aN rfl H (fun H => ?_) (fun H => ?_)))))))))))))))
 ·refine aj (Tr.k rfl (ae (aa (bg (aL ?_)))))
  obtain rfl := oI H
  exact dM leB
 ·refine aK (aa (ay (aj (av rfl (aU (bi pR) rfl (av rfl (ae (aa (Tr.block (bT (σ := (List aI) × Nat) (fun m w s => m = s.1.length + 1 ∧ s.1 = List.drop s.2 p0 ∧ s.2 ≤ p0.length ∧ iA p1 s.1 s.2 = some r) (fun s => [(0, sL g p0 i), (1, sL j p1 l), (12, iv (p0.length : Int)), (13, iv (s.2 : Int))]) (fun s => []) (p0.length + 1) (p0, 0) ⟨rfl, rfl, Nat.zero_le _, H⟩ (.r rfl) .nil (fun _ _ h => absurd h.1 (by simp)) ?_))))))))))
  intro w t m s hs
  obtain ⟨b, y⟩ := s
  obtain ⟨v, d, E, H⟩ := hs
  replace d : b = List.drop y p0 := d
  replace H : iA p1 b y = some r := H
  replace v : m + 1 = b.length + 1 := v
  replace f := f.qG t
  replace o := o.qG t
  replace leB := leB.trans t
  obtain rfl : m = b.length := by omega
  clear v
  dsimp only
  cases b with
  | nil =>
   rw [iA.eq_1] at H
   refine aj (az aX rfl rfl (ae (aa (ay (jB rfl (ji d) (bO (au (au (aM (aa (aj (Tr.k rfl (ae (aa (bg ?_)))))))))))))))
   obtain rfl := oI H
   exact dM leB
  | cons u b =>
   rw [iA.eq_2] at H
   refine aj (az aX rfl rfl (ae (aa (ay (jA rfl (jW d) (aK (aa (ay (Tr.block (aj (av rfl (Tr.k rfl (ae (aa (ay (iN (by kernel_rfl) (by kernel_rfl) (bU rfl (bU rfl (aY rfl (fun _ _ a c => ai oP (a.ev rfl) f.form (a.ev rfl) (Int.natCast_nonneg _) (ed d)) (aY rfl (fun _ _ a c => aO (cs := [iv u.X0, iv u.Y0, iv u.X1, iv u.Y1]) sP nV (a.ev rfl) (aC.take (oM iY f (lN d) c) 4) rfl) (bU rfl (bU rfl ?_))))))))))))))))))))))
   obtain ⟨q, D, H⟩ := bnd H
   obtain ⟨A, B, C⟩ := aF D
   refine aY rfl (fun _ _ a c => ai oP (a.ev rfl) o.form (a.ev rfl) A B) (aY rfl (fun _ _ a c => aO (cs := [iv q.X0, iv q.Y0, iv q.X1, iv q.Y1]) sP nV (a.ev rfl) (aC.take (oM iY o C c) 4) rfl) (eP (D9 u q) rfl rfl (iJ (aa (aN rfl H (fun H => ?_) (fun H => ?_))))))
   ·refine aj (Tr.k rfl (ae (aa (bg (cB (aL (aL (cB (aL ?_)))))))))
    obtain rfl := oI H
    exact dM leB
   ·exact aK (aH (aa (aD (az aZ rfl rfl (av rfl (ae (aB t (b, (y + 1)) ⟨rfl, jV d, ed d, H⟩ (.cons rfl (.cons rfl (.cons rfl (.cons (congrArg (fun z => some (Value.int .i64 z)) (jU d f.form)) .nil)))) .nil)))))))

theorem yt (N : Nat) {w : Bs} (p0 : (List aI)) (g : Option Addr) (j : Nat) (l : Sl w.R w.W bz g j p0) (r : Int) (H : nK N p0 = some r) (hE : HF w w.W E0) : Calls Tryz.prog 31 [sL g p0 j].toArray w.W fun e W' => e = .returned (iv r) ∧ HF w W' E0 := by
 unfold nK at H
 have leB := Bs.Le.refl w
 refine bB (n := 52) Tryz.func31 rfl rfl rfl hE (aj (Tr.k rfl (ae (aa (ay (aj (av rfl ?_)))))))
 obtain ⟨L, Z, H⟩ := bnd H
 refine dn (r := (iv L)) (wn rfl) rfl Tryz.call58 (ak rfl aQ) (fun W hW => yJ p0 g j (l.ext hW.dC) L Z (HF.start _)) (Tr.k rfl (ae (aa (aj (av rfl (az kW rfl rfl (ae (aa (aN rfl H (fun H => ?_) (fun H => ?_))))))))))
 ·refine aj (av rfl (Tr.k rfl (ae (aa (bg (aL ?_))))))
  obtain rfl := oI H
  exact dM leB
 ·refine aK (aa (ay (aj (Tr.k rfl (ae (aa (Tr.block (bT (σ := Int) (fun m w s => fw N p0 m s = some r) (fun s => [(0, sL g p0 j), (4, iv s)]) (fun s => []) N 1 H (.r rfl) .nil (fun _ _ h => fU (h)) ?_))))))))
  intro w F a9 i hs
  have H := hs
  replace H : fw N p0 (a9 + 1) i = some r := H
  replace l := l.qG F
  replace leB := leB.trans F
  rw [fw.eq_2] at H
  show Tr _ _ (LF [(0, sL g p0 j), (4, iv i)]) (LE []) _
  refine ay (aj (av rfl (av rfl (aU (bi pR) rfl (az aX rfl rfl (ae (aa (aN rfl H (fun H => ?_) (fun H => ?_)))))))))
  ·refine aK (aa (ay (Tr.block (ay (oQ 12 [] [11] (by kernel_rfl) (by kernel_rfl) fun D G a8 => (aV 0 [(18, sL g p0 j)] (by kernel_rfl) rfl rfl (by kernel_rfl) ?_ rfl rfl ?_))))))
   ·exact bU rfl (Tq.fin (.r rfl))
   refine aV 1 [(19, iv i)] (by kernel_rfl) rfl rfl (by kernel_rfl) ?_ rfl rfl ?_
   ·exact bU rfl (Tq.fin (.r rfl))
   refine aV 2 [(20, iv (bn (i - 1)))] (by kernel_rfl) rfl rfl (by kernel_rfl) ?_ rfl rfl ?_
   ·exact eP eu rfl rfl (Tq.fin (.r rfl))
   obtain ⟨d, a0, H⟩ := bnd H
   obtain ⟨M, P, Q⟩ := aF a0
   refine aV 3 [(21, .pointer (some ⟨nY g, pF g + ((bn (i - 1))).toNat * 4, none⟩))] (by kernel_rfl) rfl rfl (by kernel_rfl) ?_ rfl rfl ?_
   ·exact aY rfl (fun _ _ a c => ai oP (a.ev rfl) l.form (a.ev rfl) M P) (Tq.fin (.r rfl))
   refine aV 4 [(22, .agg #[iv d.X0, iv d.Y0, iv d.X1, iv d.Y1])] (by kernel_rfl) rfl rfl (by kernel_rfl) ?_ rfl rfl ?_
   ·exact aY rfl (fun _ _ a c => aO (cs := [iv d.X0, iv d.Y0, iv d.X1, iv d.Y1]) sP nV (a.ev rfl) (aC.take (oM iY l Q c) 4) rfl) (Tq.fin (.r rfl))
   refine cu 5 (by kernel_rfl) rfl (wn rfl) rfl (by kernel_rfl) (fun _ _ a => run_move (a.ev rfl)) rfl (cu 6 (by kernel_rfl) rfl (wn rfl) rfl (by kernel_rfl) (fun _ _ a => run_move (a.ev rfl)) rfl ?_)
   obtain ⟨f, a1, H⟩ := bnd H
   obtain ⟨S, T, V⟩ := aF a1
   refine cu 7 (by kernel_rfl) rfl (wn rfl) rfl (by kernel_rfl) (fun _ _ a => ai oP (a.ev rfl) l.form (a.ev rfl) S T) rfl (oK 8 [(26, .agg #[iv f.X0, iv f.Y0, iv f.X1, iv f.Y1])] [] true (by kernel_rfl) rfl rfl (by kernel_rfl) (fun W W' c hsW hk => HF.y8 (le := []) (ks := []) (s0 := D) true c hk (fun _ => G) .nil (fun b hb => hb.elim (fun ⟨_, hp, _⟩ => nomatch hp) (fun hb => .inr ⟨rfl, hb.2, (fun _ h => nomatch h)⟩)) (fun _ h => nomatch h) rfl) ?_ rfl rfl ?_)
   ·exact aY rfl (fun _ _ a c => aO (cs := [iv f.X0, iv f.Y0, iv f.X1, iv f.Y1]) sP nV (a.ev rfl) (aC.take (oM iY l V c) 4) rfl) (Tq.fin (.r rfl))
   refine Dr.cut (U := Nat × Nat) [9, 10] 1 (fun u => D ≤ u.1 ∧ D ≤ u.2) (fun u => [(0, sL g p0 j), (4, iv i), (5, .pointer (some ⟨u.1, 0, none⟩)), (6, .pointer (some ⟨u.2, 0, none⟩)), (12, iv i), (13, sL g p0 j), (14, iv (p0.length : Int)), (15, bV (decide (i < (p0.length : Int)))), (18, sL g p0 j), (19, iv i), (20, iv (bn (i - 1))), (21, .pointer (some ⟨nY g, pF g + ((bn (i - 1))).toNat * 4, none⟩)), (22, .agg #[iv d.X0, iv d.Y0, iv d.X1, iv d.Y1]), (23, sL g p0 j), (24, iv i), (25, .pointer (some ⟨nY g, pF g + (i).toNat * 4, none⟩)), (26, .agg #[iv f.X0, iv f.Y0, iv f.X1, iv f.Y1])]) (fun u => [(5, bx u.1 #[iv 0, iv 0, iv 0, iv 0] 38), (6, bx u.2 #[iv 0, iv 0, iv 0, iv 0] 38)]) ?_ ?_
   ·intro hC
    refine Dw 9 10 (by kernel_rfl) ?_ ?_
    ·exact St.alloc 9 5 rfl (wn rfl) rfl zX fun o t => (Dr.one 10 (by kernel_rfl) (St.alloc 10 6 rfl (wn rfl) rfl zX fun q E => ((hC ⟨o, q⟩ ⟨t, E⟩).use (by kernel_rfl) (.r rfl) (.r rfl))))
    ·exact St.alloc 10 6 rfl (wn rfl) rfl zX fun q E => (Dr.one 9 (by kernel_rfl) (St.alloc 9 5 rfl (wn rfl) rfl zX fun o t => ((hC ⟨o, q⟩ ⟨t, E⟩).use (by kernel_rfl) (.r rfl) (.r rfl))))
   intro u hu
   obtain ⟨o, q⟩ := u
   obtain ⟨t, E⟩ := hu
   replace t : D ≤ o := t
   dsimp only
   refine Dr.one 11 (by kernel_rfl) (zq 11 5 (cs := [iv d.X0, iv d.Y0, iv d.X1, iv d.Y1]) [iv d.X0, iv d.Y0, iv d.X1, iv d.Y1] rfl (wn rfl) (.inr ⟨by simp, t⟩) rfl rfl rfl rfl nV rfl rfl rfl (qN (by kernel_rfl) (dm 6 (cs := [iv f.X0, iv f.Y0, iv f.X1, iv f.Y1]) [iv f.X0, iv f.Y0, iv f.X1, iv f.Y1] (wn rfl) rfl rfl rfl rfl nV rfl rfl rfl (ae (aa (aj (aU (ag nO) rfl (aP rfl (fun _ _ a c => ah bQ (a.ev rfl) (dZ c (vs := [iv f.X0, iv f.Y0, iv f.X1, iv f.Y1]) (k := 6) rfl 1) rfl) (aU (ag nO) rfl (aP rfl (fun _ _ a c => ah bQ (a.ev rfl) (dZ c (vs := [iv d.X0, iv d.Y0, iv d.X1, iv d.Y1]) (k := 5) rfl 1) rfl) (az aX rfl rfl (av rfl (dW 13 [(0, sL g p0 j), (4, iv i), (45, bV ((decide (f.Y0 < d.Y0)) || ((f.Y0 == d.Y0) && (decide (f.X0 ≤ d.X0)))))] [(5, bx o #[iv d.X0, iv d.Y0, iv d.X1, iv d.Y1] 38), (6, bx q #[iv f.X0, iv f.Y0, iv f.X1, iv f.Y1] 38)] ?_ ?_)))))))))))))
   ·cases a2 : (decide (f.Y0 < d.Y0))
    ·refine cz (ag nO) rfl (Tr.x (fun _ _ a c => ah bQ (a.ev rfl) (dZ c (vs := [iv f.X0, iv f.Y0, iv f.X1, iv f.Y1]) (k := 6) rfl 1) rfl) (cz (ag nO) rfl (Tr.x (fun _ _ a c => ah bQ (a.ev rfl) (dZ c (vs := [iv d.X0, iv d.Y0, iv d.X1, iv d.Y1]) (k := 5) rfl 1) rfl) (iZ iW rfl rfl (cz run_move rfl (dW 6 [(0, sL g p0 j), (4, iv i), (32, bV false), (44, bV ((f.Y0 == d.Y0) && (decide (f.X0 ≤ d.X0))))] [(5, bx o #[iv d.X0, iv d.Y0, iv d.X1, iv d.Y1] 38), (6, bx q #[iv f.X0, iv f.Y0, iv f.X1, iv f.Y1] 38)] ?_ ?_))))))
     ·cases a2 : (f.Y0 == d.Y0)
      ·exact aS rfl (aS rfl (aS rfl (aS rfl (aS rfl (iZ bv rfl rfl (ae (bu (.r rfl) (.r rfl))))))))
      ·exact cz (ag qJ) rfl (Tr.x (fun _ _ a c => ah bQ (a.ev rfl) (dZ c (vs := [iv f.X0, iv f.Y0, iv f.X1, iv f.Y1]) (k := 6) rfl 0) rfl) (cz (ag qJ) rfl (Tr.x (fun _ _ a c => ah bQ (a.ev rfl) (dZ c (vs := [iv d.X0, iv d.Y0, iv d.X1, iv d.Y1]) (k := 5) rfl 0) rfl) (iZ nk rfl rfl (iZ bC rfl rfl (ae (bu (.r rfl) (.r rfl))))))))
     ·dsimp only
      exact az bv rfl rfl (ae (bu (.r rfl) (.r rfl)))
    ·refine aS rfl (aS rfl (aS rfl (aS rfl (aS rfl (aS rfl (lK rfl ?_))))))
     exact lK rfl (lK rfl (lK rfl (lK rfl (aS rfl (az bC rfl rfl (ae (bu (.r rfl) (.r rfl))))))))
   ·show Tr _ _ (LF [(0, sL g p0 j), (4, iv i), (45, bV ((decide (f.Y0 < d.Y0)) || ((f.Y0 == d.Y0) && (decide (f.X0 ≤ d.X0)))))]) (LE [(5, bx o #[iv d.X0, iv d.Y0, iv d.X1, iv d.Y1] 38), (6, bx q #[iv f.X0, iv f.Y0, iv f.X1, iv f.Y1] 38)]) _
    refine ae (aa (aN rfl H (fun H => ?_) (fun H => ?_)))
    ·refine aj (Tr.k rfl (ae (aa (bg (cB (aL (aL (cB (aL ?_)))))))))
     obtain rfl := oI H
     exact dM leB
    ·exact aK (aH (aa (aD (av rfl (az aZ rfl rfl (Tr.k rfl (ae (aB F (bn (i + 1)) H (.r rfl) .nil))))))))
  ·refine bO (au (au (aM (aa (ay (aj (av rfl ?_)))))))
   obtain ⟨v, a3, H⟩ := bnd H
   refine jl [7] [emp] (U := (Option Addr × Nat)) (fun u => (sL u.1 v u.2)) (fun O W u => fC u.1 v.length u.2) (fun u => [ow u.1 u.2 98 jk v]) rfl (bA rfl bK) (fun _ => rfl) (wn rfl) rfl Tryz.call32 (ak rfl aQ) (fun W hW hp hE => xK N p0 g j (l.ext (hW.mQ hp)) v a3 hE) ?_
   intro w u I hu
   obtain ⟨z, A⟩ := u
   have J := hu
   replace l := l.qG I
   replace leB := leB.trans I
   have a6 : fC z v.length A := J --@phi
   dsimp only
   obtain ⟨y, a4, H⟩ := bnd H
   refine jX [8] [emp] (U := (Option Addr × Nat)) (fun u => (sL u.1 y u.2)) (fun u => fC u.1 y.length u.2) (fun u => [ow u.1 u.2 38 bz y]) rfl (bA rfl bK) (fun _ => rfl) (wn rfl) rfl Tryz.call25 (ak rfl aQ) (fun W hW hp hE => yI N v z A (hW.Qk (k := 7) rfl hp rfl) y a4 hE) ?_
   intro u hu
   obtain ⟨B, C⟩ := u
   have K := hu
   have a7 : fC B y.length C := K --@phi
   dsimp only
   refine av rfl ?_
   obtain ⟨X, a5, H⟩ := bnd H
   refine dn (r := (bV X)) (wn rfl) rfl Tryz.call11 (ak rfl (ak rfl aQ)) (fun W hW => ym y B C (hW.sF (k := 8) rfl) p0 g j (l.ext hW.dC) X a5 (HF.start _)) (aU jP rfl (ae (aa (aN rfl H (fun H => ?_) (fun H => ?_)))))
   ·refine aj (Tr.k rfl (ae (aa (bg (aL ?_)))))
    obtain rfl := oI H
    exact dM leB
   ·refine aK (aa (aj (Tr.k rfl (ae (aa (bg ?_))))))
    obtain rfl := oI H
    exact dM leB

theorem nz {w : Bs} (p0 : Int) (p1 : Int) (p2 : Int) (p3 : Int) (q0 : (List fE)) (Aq0_0 : Option Addr) (cq0_0 : Nat) (lW : Nat) (r : (List fE)) (H : jC p0 p1 p2 p3 q0 = some r) (hE : HF w w.W (kw [bx lW #[sL Aq0_0 q0 cq0_0] 121, ow Aq0_0 cq0_0 125 eZ q0])) : Calls Tryz.prog 111 [iv p0, iv p1, iv p2, iv p3, pV lW].toArray w.W fun e W' => ∃ u : (Option Addr × Nat), e = .returned (.tuple #[]) ∧ (fC u.1 r.length u.2) ∧ HF w W' (kw [bx lW #[sL u.1 r u.2] 121, ow u.1 u.2 125 eZ r]) := by
 unfold jC at H
 have SK := (hE.sl (k := 1) rfl).form
 have leB := Bs.Le.refl w
 refine bB (n := 19) Tryz.func111 rfl rfl rfl hE (aD (aP rfl (fun _ _ a c => ah uL (a.ev rfl) (dZ c (vs := [sL Aq0_0 q0 cq0_0]) (k := 0) rfl 0) rfl) (av rfl (av rfl (ja (vs := [(0, iv p0), (1, iv p1)]) (cs := [iv p0, iv p1]) (wn rfl) rfl (bD rfl (bD rfl dL)) (by kernel_rfl) (av rfl (av rfl (ja (vs := [(0, iv p2), (1, iv p3)]) (cs := [iv p2, iv p3]) (wn rfl) rfl (bD rfl (bD rfl dL)) (by kernel_rfl) (ja (vs := [(0, .agg #[iv p0, iv p1]), (1, .agg #[iv p2, iv p3])]) (cs := [iv p0, iv p1, iv p2, iv p3]) (wn rfl) rfl (bD rfl (bD rfl dL)) (by kernel_rfl) (dG 2 (e := 125) (vs := [(0, .agg #[iv p0, iv p1, iv p2, iv p3])]) (cs := [iv p0, iv p1, iv p2, iv p3]) (wn rfl) rfl (bD rfl dL) (by kernel_rfl) fun i => ?_))))))))))
 obtain ⟨f, h, H⟩ := bnd H
 refine Tr.append 1 (t := eZ) (l := q0) (l2 := [(fE.mk (aA.mk p0 p1) (aA.mk p2 p3))]) (wn rfl) rfl rfl rfl rfl (fun W hW => ⟨[[iv p0, iv p1, iv p2, iv p3]], (.cons ⟨(), trivial, rfl⟩ .nil), dZ hW (vs := [iv p0, iv p1, iv p2, iv p3]) (k := 2) rfl 0⟩) yQ qQ Nc (by decide) Oq rfl h fun b d g => (dm 0 (cs := [sL b f d]) [sL b f d] (wn rfl) rfl rfl rfl rfl Nl rfl rfl rfl (ae (qH ?_)))
 obtain rfl := oI H
 exact Tr.out (m := []) [] dR (fun W hW => ⟨(b, d), rfl, g, HF.xZ leB (hW.pick (ks := [0, 1]) (by decide) (bA rfl (bA rfl bK))) ⟨Ou _ _ _, pX _ _ _ _ DK, trivial⟩⟩)

theorem yA (N : Nat) {w : Bs} (p0 : (List Int)) (a5 : Option Addr) (a6 : Nat) (e4 : Sl w.R w.W bL a5 a6 p0) (p1 : (List Int)) (a7 : Option Addr) (a8 : Nat) (e5 : Sl w.R w.W bL a7 a8 p1) (p2 : Bool → Bool → Option Bool) (fid2 : Nat) (B : List Value) (hg2 : ∀ args W, (callFunc fid2 args).run Tryz.prog W = .ok (.enter fid2 args) W) (hf2 : ∀ (w' : Bs), w.Ext w' → ∀ (z0 : Bool) (z1 : Bool), ∀ y, p2 z0 z1 = some y → Calls Tryz.prog fid2 (([bV z0, bV z1] : List Value) ++ B).toArray w'.W fun e W'' => e = .returned (bV y) ∧ HF w' W'' E0) (r : (List Int)) (H : nP N p0 p1 p2 = some r) (hE : HF w w.W (kw [emp])) : Calls Tryz.prog 113 [sL a5 p0 a6, sL a7 p1 a8, .func (.func fid2) #[] B.toArray].toArray w.W fun e W' => ∃ u : (Option Addr × Nat), e = .returned (sL u.1 r u.2) ∧ (fC u.1 r.length u.2) ∧ HF w W' (kw [ow u.1 u.2 3 bL r]) := by
 unfold nP at H
 have leB := Bs.Le.refl w
 refine bB (n := 85) Tryz.func113 rfl rfl rfl hE (aj (Tr.k rfl (bS 1 3 bL ?_)))
 show Tr _ _ (uf _ 6 (sL none (([] : List Int)) 0)) _ _
 refine ae (aa (aj (Tr.k rfl (bS 2 3 bL ?_))))
 show Tr _ _ (uf _ 7 (sL none (([] : List Int)) 0)) _ _
 refine ae (aa (aj (Tr.k rfl (Tr.k rfl (Tr.k rfl (ae (aa (ay (Tr.block (bT (σ := (List Int) × (List Int) × (List Int) × Bool × Bool × Bool × (Option Addr) × Nat × (Option Addr) × Nat × (Option Addr) × Nat) (fun m w s => fq p2 m s.1 s.2.1 s.2.2.1 s.2.2.2.1 s.2.2.2.2.1 s.2.2.2.2.2.1 = some r ∧ Sl w.R w.W bL s.2.2.2.2.2.2.1 s.2.2.2.2.2.2.2.1 s.1 ∧ Sl w.R w.W bL s.2.2.2.2.2.2.2.2.1 s.2.2.2.2.2.2.2.2.2.1 s.2.1 ∧ fC s.2.2.2.2.2.2.2.2.2.2.1 s.2.2.1.length s.2.2.2.2.2.2.2.2.2.2.2) (fun s => [(0, sL s.2.2.2.2.2.2.1 s.1 s.2.2.2.2.2.2.2.1), (1, sL s.2.2.2.2.2.2.2.2.1 s.2.1 s.2.2.2.2.2.2.2.2.2.1), (2, .func (.func fid2) #[] B.toArray), (7, sL s.2.2.2.2.2.2.2.2.2.2.1 s.2.2.1 s.2.2.2.2.2.2.2.2.2.2.2), (8, bV s.2.2.2.1), (9, bV s.2.2.2.2.1), (10, bV s.2.2.2.2.2.1)]) (fun s => [(2, ow s.2.2.2.2.2.2.2.2.2.2.1 s.2.2.2.2.2.2.2.2.2.2.2 3 bL s.2.2.1)]) N (p0, p1, ([] : List Int), false, false, false, a5, a6, a7, a8, none, 0) ⟨H, e4, e5, iM⟩ (.r rfl) (.r rfl) (fun _ _ h => fU (h.1)) ?_))))))))))
 intro w L a0 s hs
 obtain ⟨v, g, f, F, q, i, E, C, o, j, b, d⟩ := s
 obtain ⟨H, D, z, U⟩ := hs
 replace H : fq p2 (a0 + 1) v g f F q i = some r := H
 replace hf2 := fun w' he => hf2 w' (L.ext.trans he)
 replace leB := leB.trans L
 replace D : Sl w.R w.W bL E C v := D
 replace z : Sl w.R w.W bL o j g := z
 replace U : fC b f.length d := U
 rw [fq.eq_2] at H
 dsimp only
 refine ay (aj (av rfl (aU (bi nE) rfl (az kX rfl rfl (av rfl (dW 4 [(0, sL E v C), (1, sL o g j), (2, .func (.func fid2) #[] B.toArray), (7, sL b f d), (8, bV F), (9, bV q), (10, bV i), (20, bV ((decide (0 < (v.length : Int))) || (decide (0 < (g.length : Int)))))] [(2, ow b d 3 bL f)] ?_ ?_))))))
 ·cases a9 : (decide (0 < (v.length : Int)))
  ·exact cz run_move rfl (cz (bi nE) rfl (iZ kX rfl rfl (az bv rfl rfl (ae (bu (.r rfl) (.r rfl))))))
  ·exact aS rfl (aS rfl (aS rfl (az bC rfl rfl (ae (bu (.r rfl) (.r rfl))))))
 ·show Tr _ _ (LF [(0, sL E v C), (1, sL o g j), (2, .func (.func fid2) #[] B.toArray), (7, sL b f d), (8, bV F), (9, bV q), (10, bV i), (20, bV ((decide (0 < (v.length : Int))) || (decide (0 < (g.length : Int)))))]) (LE [(2, ow b d 3 bL f)]) _
  refine ae (aa (aN rfl H (fun H => ?_) (fun H => ?_)))
  ·refine aK (aa (Tr.block (aj (Tr.k rfl (ae (aa ?_))))))
   have b0 := Bs.Le.refl w
   refine mH (σ := Int) (fun w s => kK p2 v g f F q i (fq p2 a0) s = some r) (fun s => [(0, sL E v C), (1, sL o g j), (2, .func (.func fid2) #[] B.toArray), (7, sL b f d), (8, bV F), (9, bV q), (10, bV i), (11, iv s)]) (fun s => [(2, ow b d 3 bL f)]) ?_ ?_
   ·refine ay (iN (by kernel_rfl) (by kernel_rfl) (bU rfl (gH (bi nE) rfl (eP iW rfl rfl (bU rfl ?_)))))
    obtain ⟨f7, M, H⟩ := bnd H
    refine oF 13 [(0, sL E v C), (1, sL o g j), (2, .func (.func fid2) #[] B.toArray), (7, sL b f d), (8, bV F), (9, bV q), (10, bV i), (37, bV f7)] ?_ ?_
    ·cases a9 : ((g.length : Int) == 0)
     ·rw [a9] at M
      rw [if_neg (by decide)] at M
      have H := M
      refine gN run_move rfl (gN (bi nE) rfl (ou kX rfl rfl (gN run_move rfl ?_)))
      obtain ⟨f8, O, H⟩ := bnd H
      refine oF 8 [(0, sL E v C), (1, sL o g j), (2, .func (.func fid2) #[] B.toArray), (7, sL b f d), (8, bV F), (9, bV q), (10, bV i), (24, bV false), (36, bV f8)] ?_ ?_
      ·cases b3 : (decide (0 < (v.length : Int)))
       ·rw [b3] at O
        rw [if_neg (by decide)] at O
        have H := O
        obtain rfl := oI H
        refine bq rfl (bq rfl (bq rfl (bq rfl (bq rfl (bq rfl (bq rfl ?_))))))
        exact ou bv rfl rfl (Tq.fin (.r rfl))
       ·rw [b3] at O
        rw [if_pos rfl] at O
        have H := O
        refine gN run_move rfl ?_
        obtain ⟨g4, e6, H⟩ := bnd H
        obtain ⟨b8, b9, c0⟩ := aF e6
        refine Tq.x (fun _ _ a c => ai lQ (a.ev rfl) D.form (a.ev rfl) b8 b9) (Tq.x (fun _ _ a c => ah bQ (a.ev rfl) (oM jM D c0 c) rfl) (gN run_move rfl ?_))
        obtain ⟨g5, e7, H⟩ := bnd H
        obtain ⟨c3, c4, c5⟩ := aF e7
        refine Tq.x (fun _ _ a c => ai lQ (a.ev rfl) z.form (a.ev rfl) c3 c4) (Tq.x (fun _ _ a c => ah bQ (a.ev rfl) (oM jM z c5 c) rfl) (ou nk rfl rfl (ou bC rfl rfl ?_)))
        obtain rfl := oI H
        exact Tq.fin (.r rfl)
      ·refine eP bv rfl rfl ?_
       obtain rfl := oI H
       exact Tq.fin (.r rfl)
     ·rw [a9] at M
      rw [if_pos rfl] at M
      have H := M
      obtain rfl := oI H
      refine bq rfl (bq rfl (bq rfl (bq rfl (lL rfl (lL rfl (lL rfl ?_))))))
      exact lL rfl (lL rfl (lL rfl (lL rfl (bq rfl (eP bC rfl rfl (Tq.fin (.r rfl)))))))
    ·refine iJ (aa (aN rfl H (fun H => ?_) (fun H => ?_)))
     ·refine aD (av rfl ?_)
      obtain ⟨f9, e8, H⟩ := bnd H
      obtain ⟨c6, c7, c8⟩ := aF e8
      exact aP rfl (fun _ _ a c => ai lQ (a.ev rfl) D.form (a.ev rfl) c6 c7) (aP rfl (fun _ _ a c => ah bQ (a.ev rfl) (oM jM D c8 c) rfl) (Tr.k rfl (ae (aB b0 f9 H (.r rfl) (.r rfl)))))
     ·refine aD (av rfl ?_)
      obtain ⟨g0, e9, H⟩ := bnd H
      obtain ⟨c9, d0, d1⟩ := aF e9
      exact aP rfl (fun _ _ a c => ai lQ (a.ev rfl) z.form (a.ev rfl) c9 d0) (aP rfl (fun _ _ a c => ah bQ (a.ev rfl) (oM jM z d1 c) rfl) (Tr.k rfl (ae (aB b0 g0 H (.r rfl) (.r rfl)))))
   ·intro w A T hs
    have H := hs
    replace H : kK p2 v g f F q i (fq p2 a0) A = some r := H
    replace D := D.qG T
    replace z := z.qG T
    replace hf2 := fun w' he => hf2 w' (T.ext.trans he)
    replace L := L.trans T
    unfold kK at H
    show Tr _ _ (LF [(0, sL E v C), (1, sL o g j), (2, .func (.func fid2) #[] B.toArray), (7, sL b f d), (8, bV F), (9, bV q), (10, bV i), (11, iv A)]) (LE [(2, ow b d 3 bL f)]) _
    have b1 := Bs.Le.refl w
    refine mH (σ := (List Int) × Bool × (Option Addr) × Nat) (fun w s => lG p2 g f q i (fq p2 a0) A s.1 s.2.1 = some r ∧ Sl w.R w.W bL s.2.2.1 s.2.2.2 s.1) (fun s => [(0, sL s.2.2.1 s.1 s.2.2.2), (1, sL o g j), (2, .func (.func fid2) #[] B.toArray), (7, sL b f d), (8, bV s.2.1), (9, bV q), (10, bV i), (11, iv A)]) (fun s => [(2, ow b d 3 bL f)]) ?_ ?_
    ·refine aj (av rfl (aU (bi nE) rfl (az kX rfl rfl (av rfl ?_))))
     obtain ⟨d2, P, H⟩ := bnd H
     refine dW 6 [(0, sL E v C), (1, sL o g j), (2, .func (.func fid2) #[] B.toArray), (7, sL b f d), (8, bV F), (9, bV q), (10, bV i), (11, iv A), (53, bV d2)] [(2, ow b d 3 bL f)] ?_ ?_
     ·cases b4 : (decide (0 < (v.length : Int)))
      ·rw [b4] at P
       rw [if_neg (by decide)] at P
       have H := P
       obtain rfl := oI H
       exact aS rfl (aS rfl (aS rfl (aS rfl (aS rfl (az bv rfl rfl (ae (bu (.r rfl) (.r rfl))))))))
      ·rw [b4] at P
       rw [if_pos rfl] at P
       have H := P
       refine cz run_move rfl ?_
       obtain ⟨g6, f1, H⟩ := bnd H
       obtain ⟨d3, d4, d5⟩ := aF f1
       refine Tr.x (fun _ _ a c => ai lQ (a.ev rfl) D.form (a.ev rfl) d3 d4) (Tr.x (fun _ _ a c => ah bQ (a.ev rfl) (oM jM D d5 c) rfl) (cz run_move rfl (iZ iW rfl rfl (az bC rfl rfl ?_))))
       obtain rfl := oI H
       exact ae (bu (.r rfl) (.r rfl))
     ·show Tr _ _ (LF [(0, sL E v C), (1, sL o g j), (2, .func (.func fid2) #[] B.toArray), (7, sL b f d), (8, bV F), (9, bV q), (10, bV i), (11, iv A), (53, bV d2)]) (LE [(2, ow b d 3 bL f)]) _
      refine ae (aa (aN rfl H (fun H => ?_) (fun H => ?_)))
      ·refine aD (av rfl ?_)
       obtain ⟨g1, b5, H⟩ := bnd H
       exact aP rfl (fun _ _ a c => sH lQ (a.ev rfl) D.form (a.ev rfl) b5) (av rfl (aU jP rfl (Tr.k rfl (Tr.k rfl (ae (aB b1 (g1, (!F), (wY E (1 : Int).toNat 1 C), (C - (1 : Int).toNat)) ⟨H, (Sl.cut D b5)⟩ (.r rfl) (.r rfl)))))))
      ·exact aK (aB b1 (v, F, E, C) ⟨H, D⟩ (.r rfl) (.r rfl))
    ·intro w s a1 hs
     obtain ⟨G, I, J, K⟩ := s
     obtain ⟨H, Q⟩ := hs
     replace H : lG p2 g f q i (fq p2 a0) A G I = some r := H
     replace z := z.qG a1
     replace hf2 := fun w' he => hf2 w' (a1.ext.trans he)
     replace L := L.trans a1
     replace Q : Sl w.R w.W bL J K G := Q
     unfold lG at H
     dsimp only
     have b2 := Bs.Le.refl w
     refine mH (σ := (List Int) × Bool × (Option Addr) × Nat) (fun w s => nC p2 f i (fq p2 a0) A G I s.1 s.2.1 = some r ∧ Sl w.R w.W bL s.2.2.1 s.2.2.2 s.1) (fun s => [(0, sL J G K), (1, sL s.2.2.1 s.1 s.2.2.2), (2, .func (.func fid2) #[] B.toArray), (7, sL b f d), (8, bV I), (9, bV s.2.1), (10, bV i), (11, iv A)]) (fun s => [(2, ow b d 3 bL f)]) ?_ ?_
     ·refine aj (av rfl (aU (bi nE) rfl (az kX rfl rfl (av rfl ?_))))
      obtain ⟨d6, S, H⟩ := bnd H
      refine dW 6 [(0, sL J G K), (1, sL o g j), (2, .func (.func fid2) #[] B.toArray), (7, sL b f d), (8, bV I), (9, bV q), (10, bV i), (11, iv A), (67, bV d6)] [(2, ow b d 3 bL f)] ?_ ?_
      ·cases b6 : (decide (0 < (g.length : Int)))
       ·rw [b6] at S
        rw [if_neg (by decide)] at S
        have H := S
        obtain rfl := oI H
        exact aS rfl (aS rfl (aS rfl (aS rfl (aS rfl (az bv rfl rfl (ae (bu (.r rfl) (.r rfl))))))))
       ·rw [b6] at S
        rw [if_pos rfl] at S
        have H := S
        refine cz run_move rfl ?_
        obtain ⟨g7, f2, H⟩ := bnd H
        obtain ⟨d7, d8, d9⟩ := aF f2
        refine Tr.x (fun _ _ a c => ai lQ (a.ev rfl) z.form (a.ev rfl) d7 d8) (Tr.x (fun _ _ a c => ah bQ (a.ev rfl) (oM jM z d9 c) rfl) (cz run_move rfl (iZ iW rfl rfl (az bC rfl rfl ?_))))
        obtain rfl := oI H
        exact ae (bu (.r rfl) (.r rfl))
      ·show Tr _ _ (LF [(0, sL J G K), (1, sL o g j), (2, .func (.func fid2) #[] B.toArray), (7, sL b f d), (8, bV I), (9, bV q), (10, bV i), (11, iv A), (67, bV d6)]) (LE [(2, ow b d 3 bL f)]) _
       refine ae (aa (aN rfl H (fun H => ?_) (fun H => ?_)))
       ·refine aD (av rfl ?_)
        obtain ⟨g2, b7, H⟩ := bnd H
        exact aP rfl (fun _ _ a c => sH lQ (a.ev rfl) z.form (a.ev rfl) b7) (av rfl (aU jP rfl (Tr.k rfl (Tr.k rfl (ae (aB b2 (g2, (!q), (wY o (1 : Int).toNat 1 j), (j - (1 : Int).toNat)) ⟨H, (Sl.cut z b7)⟩ (.r rfl) (.r rfl)))))))
       ·exact aK (aB b2 (g, q, o, j) ⟨H, z⟩ (.r rfl) (.r rfl))
     ·intro w s a2 hs
      obtain ⟨a3, a4, V, X⟩ := s
      obtain ⟨H, Z⟩ := hs
      replace H : nC p2 f i (fq p2 a0) A G I a3 a4 = some r := H
      replace Q := Q.qG a2
      replace hf2 := fun w' he => hf2 w' (a2.ext.trans he)
      replace L := L.trans a2
      replace Z : Sl w.R w.W bL V X a3 := Z
      unfold nC at H
      dsimp only
      refine aj (av rfl (av rfl (av rfl ?_)))
      obtain ⟨e0, f3, H⟩ := bnd H
      refine zo (r := (bV e0)) (wn rfl) rfl rfl hg2 (ak rfl (ak rfl aQ)) (fun W hW => hf2 hW.all hW.dC I a4 _ f3) (Tr.k rfl (ae (aa (aj (av rfl (av rfl (az (Nz RL) rfl rfl (ae (aa (aN rfl H (fun H => ?_) (fun H => ?_)))))))))))
      ·refine aD (av rfl (av rfl (dG 5 (e := 3) (vs := [(0, iv A)]) (cs := [iv A]) (wn rfl) rfl (bD rfl dL) (by kernel_rfl) fun g8 => ?_)))
       obtain ⟨g3, f4, H⟩ := bnd H
       exact Tr.append 2 (t := bL) (l := f) (l2 := [A]) (wn rfl) rfl rfl rfl rfl (fun W hW => ⟨[[iv A]], (.cons ⟨(), trivial, rfl⟩ .nil), dZ hW (vs := [iv A]) (k := 5) rfl 0⟩) nE zR JC (by decide) Kv rfl f4 fun f5 f6 e3 => (av rfl (Tr.k rfl (Tr.k rfl (ae (aH (aB L (G, a3, g3, I, a4, e0, J, K, V, X, f5, f6) ⟨H, Q, Z, e3⟩ (.r rfl) (.r rfl)))))))
      ·exact aK (aH (aB L (G, a3, f, I, a4, i, J, K, V, X, b, d) ⟨H, Q, Z, U⟩ (.r rfl) (.r rfl)))
  ·refine bO (au (au (aM (aa (aj (av rfl (Tr.k rfl (ae (aa (bg ?_))))))))))
   obtain rfl := oI H
   exact Tr.out (m := [sL b f d]) [] (eU rfl dR) (fun W hW => ⟨(b, d), rfl, U, HF.xZ leB (hW.pick (ks := [2]) (by decide) (bA rfl bK)) ⟨pX _ _ _ _ BI, trivial⟩⟩)

theorem wB {w : Bs} (p0 : Bool) (p1 : Bool) (r : Bool) (H : jJ p0 p1 = some r) (hE : HF w w.W E0) : Calls Tryz.prog 114 [bV p0, bV p1].toArray w.W fun e W' => e = .returned (bV r) ∧ HF w W' E0 := by
 unfold jJ at H
 have leB := Bs.Le.refl w
 refine bB (n := 10) Tryz.func114 rfl rfl rfl hE (aj (Tr.k rfl (ae (aa (aj (av rfl (av rfl (dW 3 [(9, bV (p0 && (!p1)))] [] ?_ ?_))))))))
 ·cases a : p0
  ·exact aS rfl (aS rfl (az bv rfl rfl (ae (bu (.r rfl) .nil))))
  ·exact cz run_move rfl (cz jP rfl (az bC rfl rfl (ae (bu (.r rfl) .nil))))
 ·show Tr _ _ (LF [(9, bV (p0 && (!p1)))]) (LE []) _
  refine Tr.k rfl (ae (aa (bg ?_)))
  obtain rfl := oI H
  exact dM leB

theorem wz {w : Bs} (p0 : Bool) (p1 : Bool) (r : Bool) (H : jI p0 p1 = some r) (hE : HF w w.W E0) : Calls Tryz.prog 115 [bV p0, bV p1].toArray w.W fun e W' => e = .returned (bV r) ∧ HF w W' E0 := by
 unfold jI at H
 have leB := Bs.Le.refl w
 refine bB (n := 10) Tryz.func115 rfl rfl rfl hE (aj (Tr.k rfl (ae (aa (aj (av rfl (av rfl (dW 3 [(9, bV (p1 && (!p0)))] [] ?_ ?_))))))))
 ·cases a : p1
  ·exact aS rfl (aS rfl (az bv rfl rfl (ae (bu (.r rfl) .nil))))
  ·exact cz run_move rfl (cz jP rfl (az bC rfl rfl (ae (bu (.r rfl) .nil))))
 ·show Tr _ _ (LF [(9, bV (p1 && (!p0)))]) (LE []) _
  refine Tr.k rfl (ae (aa (bg ?_)))
  obtain rfl := oI H
  exact dM leB

theorem lZ (N : Nat) {w : Bs} (p0 : Int) (p1 : (List Int)) (B : Option Addr) (C : Nat) (M : Sl w.R w.W bL B C p1) (p2 : (List Int)) (D : Option Addr) (E : Nat) (O : Sl w.R w.W bL D E p2) (lW : Nat) (q1 : (List fE)) (Aq1_0 : Option Addr) (cq1_0 : Nat) (CU : Nat) (hb0 : w.R lW) (hc0 : aC w.W lW 0 [.func (.func 111) #[] #[pV CU]]) (r : (List fE)) (H : fM N p0 p1 p2 q1 = some r) (hE : HF w w.W (kw [bx CU #[sL Aq1_0 q1 cq1_0] 121, ow Aq1_0 cq1_0 125 eZ q1])) : Calls Tryz.prog 112 [iv p0, sL B p1 C, sL D p2 E, pV lW].toArray w.W fun e W' => ∃ u : (Option Addr × Nat), e = .returned (.tuple #[]) ∧ (fC u.1 r.length u.2) ∧ HF w W' (kw [bx CU #[sL u.1 r u.2] 121, ow u.1 u.2 125 eZ r]) := by
 unfold fM at H
 have PD := (hE.sl (k := 1) rfl).form
 have leB := Bs.Le.refl w
 refine bB (n := 54) Tryz.func112 rfl rfl rfl hE (aj (av rfl (av rfl ?_)))
 obtain ⟨b, b8, H⟩ := bnd H
 refine jX [2] [emp] (U := (Option Addr × Nat)) (fun u => (sL u.1 b u.2)) (fun u => fC u.1 b.length u.2) (fun u => [ow u.1 u.2 3 bL b]) rfl (bA rfl bK) (fun _ => rfl) (wn rfl) rfl Tryz.call113 (ak rfl (ak rfl (ak rfl aQ))) (fun W hW hp hE => yA N p1 B C (M.ext (hW.mQ hp)) p2 D E (O.ext (hW.mQ hp)) (fun z0 z1 => jJ z0 z1) 114 [] Tryz.call114 (fun w' he z0 z1 y hy => wB z0 z1 y hy (HF.start _)) b b8 hE) ?_
 intro u hu
 obtain ⟨d, f⟩ := u
 have a2 := hu
 have P : fC d b.length f := a2 --@phi
 dsimp only
 refine Tr.k rfl (ae (aa (ay (aj (Tr.k rfl (ae (aa (Tr.block (bT (σ := (List fE) × Int × (Option Addr) × Nat) (fun m w s => eX N p0 p1 p2 b m s.1 s.2.1 = some r ∧ fC s.2.2.1 s.1.length s.2.2.2) (fun s => [(0, iv p0), (1, sL B p1 C), (2, sL D p2 E), (3, pV lW), (7, sL d b f), (8, iv s.2.1)]) (fun s => [(0, bx CU #[sL s.2.2.1 s.1 s.2.2.2] 121), (1, ow s.2.2.1 s.2.2.2 125 eZ s.1), (2, ow d f 3 bL b)]) N (q1, 0, Aq1_0, cq1_0) ⟨H, PD⟩ (.r rfl) (.r rfl) (fun _ _ h => fU (h.1)) ?_)))))))))
 intro w L d2 s hs
 obtain ⟨v, X, l, o⟩ := s
 obtain ⟨H, S⟩ := hs
 replace H : eX N p0 p1 p2 b (d2 + 1) v X = some r := H
 replace M := M.qG L
 replace O := O.qG L
 replace hc0 := L.ext.cells hb0 hc0
 replace hb0 := L.r _ hb0
 replace leB := leB.trans L
 replace S : fC l v.length o := S
 rw [eX.eq_2] at H
 dsimp only
 refine ay (aj (av rfl (av rfl (aU (bi nE) rfl (az aX rfl rfl (ae (aa (aN rfl H (fun H => ?_) (fun H => ?_)))))))))
 ·refine aK (aa (ay (Tr.block (nS 12 (by kernel_rfl) (by kernel_rfl) (aY rfl (fun _ _ a c => ah Hr (a.ev rfl) (yM hb0 hc0 c) rfl) (bU rfl (bU rfl (eP aZ rfl rfl ?_))))))))
  obtain ⟨c8, b9, H⟩ := bnd H
  obtain ⟨a6, a7, a8⟩ := aF b9
  refine aY rfl (fun _ _ a c => ai lQ (a.ev rfl) P (a.ev rfl) a6 a7) (aY rfl (fun _ _ a c => ah bQ (a.ev rfl) (Ab jM (k := 2) c rfl a8) rfl) (bU rfl (bU rfl (bU rfl ?_))))
  obtain ⟨c9, c0, H⟩ := bnd H
  obtain ⟨a9, b0, b1⟩ := aF c0
  refine aY rfl (fun _ _ a c => ai lQ (a.ev rfl) P (a.ev rfl) a9 b0) (aY rfl (fun _ _ a c => ah bQ (a.ev rfl) (Ab jM (k := 2) c rfl b1) rfl) (bU rfl (iJ ?_)))
  obtain ⟨z, c3, H⟩ := bnd H
  refine tQ [0, 1] [bx CU #[sL l v o] 121, ow l o 125 eZ v] (U := (Option Addr × Nat)) (fun u => (.tuple #[])) (fun u => fC u.1 z.length u.2) (fun u => [bx CU #[sL u.1 z u.2] 121, ow u.1 u.2 125 eZ z]) rfl (bA rfl (bA rfl bK)) (fun _ => rfl) (wn rfl) rfl rfl Tryz.call111 (ak rfl (ak rfl (ak rfl (ak rfl aQ)))) (fun W hW hp hE => nz c8 p0 c9 p0 v l o CU z c3 hE) ?_
  intro u hu
  obtain ⟨F, G⟩ := u
  have a3 := hu
  have Z : fC F z.length G := a3 --@phi
  dsimp only
  exact ae (aH (aa (aD (av rfl (az aZ rfl rfl (Tr.k rfl (ae (aB L (z, (bn (X + 2)), F, G) ⟨H, Z⟩ (.r rfl) (.r rfl)))))))))
 ·refine bO (au (au (aM (aa (aj (av rfl (av rfl ?_)))))))
  obtain ⟨g, c4, H⟩ := bnd H
  refine jX [3] [emp] (U := (Option Addr × Nat)) (fun u => (sL u.1 g u.2)) (fun u => fC u.1 g.length u.2) (fun u => [ow u.1 u.2 3 bL g]) rfl (bA rfl bK) (fun _ => rfl) (wn rfl) rfl Tryz.call113 (ak rfl (ak rfl (ak rfl aQ))) (fun W hW hp hE => yA N p1 B C (M.ext (hW.mQ hp)) p2 D E (O.ext (hW.mQ hp)) (fun z0 z1 => jI z0 z1) 115 [] Tryz.call115 (fun w' he z0 z1 y hy => wz z0 z1 y hy (HF.start _)) g c4 hE) ?_
  intro u hu
  obtain ⟨i, j⟩ := u
  have a4 := hu
  have Q : fC i g.length j := a4 --@phi
  dsimp only
  refine Tr.k rfl (ae (aa (aj (Tr.k rfl (ae (aa (Tr.block (bT (σ := (List fE) × Int × (Option Addr) × Nat) (fun m w s => dX p0 g m s.1 s.2.1 = some r ∧ fC s.2.2.1 s.1.length s.2.2.2) (fun s => [(0, iv p0), (3, pV lW), (7, sL i g j), (9, iv s.2.1)]) (fun s => [(0, bx CU #[sL s.2.2.1 s.1 s.2.2.2] 121), (1, ow s.2.2.1 s.2.2.2 125 eZ s.1), (3, ow i j 3 bL g)]) N (v, 0, l, o) ⟨H, S⟩ (.r rfl) (.r rfl) (fun _ _ h => fU (h.1)) ?_))))))))
  intro w T d3 s hs
  obtain ⟨K, a0, q, t⟩ := s
  obtain ⟨H, V⟩ := hs
  replace H : dX p0 g (d3 + 1) K a0 = some r := H
  replace hc0 := T.ext.cells hb0 hc0
  replace hb0 := T.r _ hb0
  replace leB := leB.trans T
  replace V : fC q K.length t := V
  rw [dX.eq_2] at H
  dsimp only
  refine ay (aj (av rfl (av rfl (aU (bi nE) rfl (az aX rfl rfl (ae (aa (aN rfl H (fun H => ?_) (fun H => ?_)))))))))
  ·refine aK (aa (ay (Tr.block (nS 12 (by kernel_rfl) (by kernel_rfl) (aY rfl (fun _ _ a c => ah Hr (a.ev rfl) (yM hb0 hc0 c) rfl) (bU rfl (bU rfl ?_)))))))
   obtain ⟨d0, c5, H⟩ := bnd H
   obtain ⟨b2, b3, b4⟩ := aF c5
   refine aY rfl (fun _ _ a c => ai lQ (a.ev rfl) Q (a.ev rfl) b2 b3) (aY rfl (fun _ _ a c => ah bQ (a.ev rfl) (Ab jM (k := 3) c rfl b4) rfl) (bU rfl (bU rfl (bU rfl (eP aZ rfl rfl ?_)))))
   obtain ⟨d1, c6, H⟩ := bnd H
   obtain ⟨b5, b6, b7⟩ := aF c6
   refine aY rfl (fun _ _ a c => ai lQ (a.ev rfl) Q (a.ev rfl) b5 b6) (aY rfl (fun _ _ a c => ah bQ (a.ev rfl) (Ab jM (k := 3) c rfl b7) rfl) (bU rfl (iJ ?_)))
   obtain ⟨A, c7, H⟩ := bnd H
   refine tQ [0, 1] [bx CU #[sL q K t] 121, ow q t 125 eZ K] (U := (Option Addr × Nat)) (fun u => (.tuple #[])) (fun u => fC u.1 A.length u.2) (fun u => [bx CU #[sL u.1 A u.2] 121, ow u.1 u.2 125 eZ A]) rfl (bA rfl (bA rfl bK)) (fun _ => rfl) (wn rfl) rfl rfl Tryz.call111 (ak rfl (ak rfl (ak rfl (ak rfl aQ)))) (fun W hW hp hE => nz d0 p0 d1 p0 K q t CU A c7 hE) ?_
   intro u hu
   obtain ⟨I, J⟩ := u
   have a5 := hu
   have a1 : fC I A.length J := a5 --@phi
   dsimp only
   exact ae (aH (aa (aD (av rfl (az aZ rfl rfl (Tr.k rfl (ae (aB T (A, (bn (a0 + 2)), I, J) ⟨H, a1⟩ (.r rfl) (.r rfl)))))))))
  ·refine bO (au (au (aM (qH ?_))))
   obtain rfl := oI H
   exact Tr.out (m := []) [] dR (fun W hW => ⟨(q, t), rfl, V, HF.xZ leB (hW.pick (ks := [0, 1]) (by decide) (bA rfl (bA rfl bK))) ⟨Ou _ _ _, pX _ _ _ _ DK, trivial⟩⟩)

theorem yH (N : Nat) {w : Bs} (p0 : (List jL)) (l : Option Addr) (o : Nat) (q : Sl w.R w.W jk l o p0) (r : (List fE)) (H : qg N p0 = some r) (hE : HF w w.W (kw [emp])) : Calls Tryz.prog 68 [sL l p0 o].toArray w.W fun e W' => ∃ u : (Option Addr × Nat), e = .returned (sL u.1 r u.2) ∧ (fC u.1 r.length u.2) ∧ HF w W' (kw [ow u.1 u.2 125 eZ r]) := by
 unfold qg at H
 have leB := Bs.Le.refl w
 refine bB (n := 114) Tryz.func68 rfl rfl rfl hE (aj (Tr.k rfl (bS 1 125 eZ ?_)))
 show Tr _ _ (uf _ 2 (sL none (([] : List fE)) 0)) _ _
 refine ae (aa (aj (Tr.alloc 2 (wn rfl) rfl Ng fun g => (ae (aa (aj (vI (vs := [pV g]) (wn rfl) rfl (ak rfl aQ) (Tr.alloc 3 (wn rfl) rfl Qy fun j => (dm 3 (cs := [.func (.func 111) #[] #[pV g]]) [.func (.func 111) #[] #[pV g]] (wn rfl) rfl rfl rfl rfl QI rfl rfl rfl (ae (aa (aj (vI (vs := [pV j]) (wn rfl) rfl (ak rfl aQ) (Tr.k rfl (ae (aa (ay (aj (av rfl (aU (bi H9) rfl (av rfl (ae (aa (Tr.block (bS 14 125 eZ ?_)))))))))))))))))))))))))
 refine bT (σ := (List jL) × Nat × (List fE) × (Option Addr) × Nat) (fun m w s => m = s.1.length + 1 ∧ s.1 = List.drop s.2.1 p0 ∧ s.2.1 ≤ p0.length ∧ dB N p0 s.1 s.2.1 s.2.2.1 = some r ∧ fC s.2.2.2.1 s.2.2.1.length s.2.2.2.2) (fun s => [(0, sL l p0 o), (3, pV g), (4, pV j), (5, .func (.func 112) #[] #[pV j]), (11, sL l p0 o), (12, iv (p0.length : Int)), (13, iv (s.2.1 : Int))]) (fun s => [(2, bx g #[sL s.2.2.2.1 s.2.2.1 s.2.2.2.2] 121), (3, bx j #[.func (.func 111) #[] #[pV g]] 162), (14, ow s.2.2.2.1 s.2.2.2.2 125 eZ s.2.2.1)]) (p0.length + 1) (p0, 0, ([] : List fE), none, 0) ⟨rfl, rfl, Nat.zero_le _, H, iM⟩ (.r rfl) (.r rfl) (fun _ _ h => absurd h.1 (by simp)) ?_
 intro w M m s hs
 obtain ⟨v, t, a8, I, J⟩ := s
 obtain ⟨b6, B, j9, H, a9⟩ := hs
 replace B : v = List.drop t p0 := B
 replace H : dB N p0 v t a8 = some r := H
 replace b6 : m + 1 = v.length + 1 := b6
 replace q := q.qG M
 replace leB := leB.trans M
 replace a9 : fC I a8.length J := a9
 obtain rfl : m = v.length := by omega
 clear b6
 dsimp only
 cases v with
 | nil =>
  rw [dB.eq_1] at H
  refine aj (az aX rfl rfl (ae (aa (ay (jB rfl (ji B) (bO (au (au (aM (aa (aj (aP rfl (fun _ _ a c => ah uL (a.ev rfl) (dZ c (vs := [sL I a8 J]) (k := 2) rfl 0) rfl) (Tr.k rfl (ae (aa (bg ?_))))))))))))))))
  obtain rfl := oI H
  exact Tr.out (m := [sL I a8 J]) [] (eU rfl dR) (fun W hW => ⟨(I, J), rfl, a9, HF.xZ leB (hW.pick (ks := [14]) (by decide) (bA rfl bK)) ⟨pX _ _ _ _ DK, trivial⟩⟩)
 | cons b v =>
  rw [dB.eq_2] at H
  refine aj (az aX rfl rfl (ae (aa (ay (jA rfl (jW B) (aK (aa (ay (Tr.block (aj (av rfl ?_)))))))))))
  obtain ⟨i2, d5, c6, d6⟩ := (q).el (lN B)
  obtain ⟨d, f⟩ := i2
  have i := c6
  replace i : Sl w.R w.W bL d f b.Xs := i
  refine aP rfl (fun _ _ a c => ai CL (a.ev rfl) q.form (a.ev rfl) (Int.natCast_nonneg _) (ed B)) (aP rfl (fun _ _ a c => aO (cs := [iv b.Y0, iv b.Y1, sL d b.Xs f]) Ov Fy (a.ev rfl) (aC.take (yM d5 d6 c) 3) rfl) (Tr.alloc 15 (wn rfl) rfl Qc fun F => (Tr.k rfl (dm 15 (cs := [iv b.Y0, iv b.Y1, sL d b.Xs f]) [iv b.Y0, iv b.Y1, sL d b.Xs f] (wn rfl) rfl rfl rfl rfl Fy rfl rfl rfl (ae (aa (ay (aj (Tr.k rfl (ae (aa (Tr.block (bT (σ := (List fE) × Int × (Option Addr) × Nat) (fun m w s => gD N p0 (dB N p0 v (t + 1)) b t m s.1 s.2.1 = some r ∧ fC s.2.2.1 s.1.length s.2.2.2) (fun s => [(0, sL l p0 o), (3, pV g), (4, pV j), (5, .func (.func 112) #[] #[pV j]), (6, iv (t : Int)), (7, pV F), (8, iv s.2.1), (11, sL l p0 o), (12, iv (p0.length : Int)), (13, iv (t : Int))]) (fun s => [(2, bx g #[sL s.2.2.1 s.1 s.2.2.2] 121), (3, bx j #[.func (.func 111) #[] #[pV g]] 162), (14, ow s.2.2.1 s.2.2.2 125 eZ s.1), (15, bx F #[iv b.Y0, iv b.Y1, sL d b.Xs f] 98)]) N (a8, 0, I, J) ⟨H, a9⟩ (.r rfl) (.r rfl) (fun _ _ h => fU (h.1)) ?_)))))))))))))
  intro w b3 j7 s hs
  obtain ⟨C, b7, y, A⟩ := s
  obtain ⟨H, j8⟩ := hs
  replace H : gD N p0 (dB N p0 v (t + 1)) b t (j7 + 1) C b7 = some r := H
  replace q := q.qG b3
  replace i := i.qG b3
  replace M := M.trans b3
  rw [gD.eq_2] at H
  dsimp only
  refine ay (aj (av rfl (aU (ag pY) rfl (aP rfl (fun _ _ a c => ah mU (a.ev rfl) (dZ c (vs := [iv b.Y0, iv b.Y1, sL d b.Xs f]) (k := 15) rfl 2) rfl) (aU (bi nE) rfl (az aX rfl rfl (ae (aa (aN rfl H (fun H => ?_) (fun H => ?_))))))))))
  ·refine aK (aa (ay (Tr.block (ay (nS 15 (by kernel_rfl) (by kernel_rfl) (aY rfl (fun _ _ a c => ah Hr (a.ev rfl) (dZ c (vs := [.func (.func 111) #[] #[pV g]]) (k := 3) rfl 0) rfl) (gH (ag pY) rfl (aY rfl (fun _ _ a c => ah mU (a.ev rfl) (dZ c (vs := [iv b.Y0, iv b.Y1, sL d b.Xs f]) (k := 15) rfl 2) rfl) (bU rfl ?_)))))))))
   obtain ⟨i3, g8, H⟩ := bnd H
   obtain ⟨d7, d8, d9⟩ := aF g8
   refine aY rfl (fun _ _ a c => ai lQ (a.ev rfl) i.form (a.ev rfl) d7 d8) (aY rfl (fun _ _ a c => ah bQ (a.ev rfl) (oM jM i d9 c) rfl) (gH (ag uh) rfl (aY rfl (fun _ _ a c => ah bQ (a.ev rfl) (dZ c (vs := [iv b.Y0, iv b.Y1, sL d b.Xs f]) (k := 15) rfl 1) rfl) (gH (ag pY) rfl (aY rfl (fun _ _ a c => ah mU (a.ev rfl) (dZ c (vs := [iv b.Y0, iv b.Y1, sL d b.Xs f]) (k := 15) rfl 2) rfl) (bU rfl ?_))))))
   obtain ⟨i4, g9, H⟩ := bnd H
   obtain ⟨e0, e3, e4⟩ := aF g9
   refine aY rfl (fun _ _ a c => ai lQ (a.ev rfl) i.form (a.ev rfl) e0 e3) (aY rfl (fun _ _ a c => ah bQ (a.ev rfl) (oM jM i e4 c) rfl) (gH (ag vg) rfl (aY rfl (fun _ _ a c => ah bQ (a.ev rfl) (dZ c (vs := [iv b.Y0, iv b.Y1, sL d b.Xs f]) (k := 15) rfl 0) rfl) (iJ ?_))))
   obtain ⟨G, h0, H⟩ := bnd H
   refine tQ [2, 14] [bx g #[sL y C A] 121, ow y A 125 eZ C] (U := (Option Addr × Nat)) (fun u => (.tuple #[])) (fun u => fC u.1 G.length u.2) (fun u => [bx g #[sL u.1 G u.2] 121, ow u.1 u.2 125 eZ G]) rfl (bA rfl (bA rfl bK)) (fun _ => rfl) (wn rfl) rfl rfl Tryz.call111 (ak rfl (ak rfl (ak rfl (ak rfl aQ)))) (fun W hW hp hE => nz i3 b.Y1 i4 b.Y0 C y A g G h0 hE) ?_
   intro u hu
   obtain ⟨D, E⟩ := u
   have c7 := hu
   have i5 : fC D G.length E := c7 --@phi
   dsimp only
   refine ae (aa (nS 17 (by kernel_rfl) (by kernel_rfl) (aY rfl (fun _ _ a c => ah Hr (a.ev rfl) (dZ c (vs := [.func (.func 111) #[] #[pV g]]) (k := 3) rfl 0) rfl) (gH (ag pY) rfl (aY rfl (fun _ _ a c => ah mU (a.ev rfl) (dZ c (vs := [iv b.Y0, iv b.Y1, sL d b.Xs f]) (k := 15) rfl 2) rfl) (bU rfl (eP aZ rfl rfl ?_)))))))
   obtain ⟨i6, h1, H⟩ := bnd H
   obtain ⟨e5, e6, e7⟩ := aF h1
   refine aY rfl (fun _ _ a c => ai lQ (a.ev rfl) i.form (a.ev rfl) e5 e6) (aY rfl (fun _ _ a c => ah bQ (a.ev rfl) (oM jM i e7 c) rfl) (gH (ag vg) rfl (aY rfl (fun _ _ a c => ah bQ (a.ev rfl) (dZ c (vs := [iv b.Y0, iv b.Y1, sL d b.Xs f]) (k := 15) rfl 0) rfl) (gH (ag pY) rfl (aY rfl (fun _ _ a c => ah mU (a.ev rfl) (dZ c (vs := [iv b.Y0, iv b.Y1, sL d b.Xs f]) (k := 15) rfl 2) rfl) (bU rfl (eP aZ rfl rfl ?_)))))))
   obtain ⟨i7, h2, H⟩ := bnd H
   obtain ⟨e8, e9, f1⟩ := aF h2
   refine aY rfl (fun _ _ a c => ai lQ (a.ev rfl) i.form (a.ev rfl) e8 e9) (aY rfl (fun _ _ a c => ah bQ (a.ev rfl) (oM jM i f1 c) rfl) (gH (ag uh) rfl (aY rfl (fun _ _ a c => ah bQ (a.ev rfl) (dZ c (vs := [iv b.Y0, iv b.Y1, sL d b.Xs f]) (k := 15) rfl 1) rfl) (iJ ?_))))
   obtain ⟨O, h3, H⟩ := bnd H
   refine tQ [2, 14] [bx g #[sL D G E] 121, ow D E 125 eZ G] (U := (Option Addr × Nat)) (fun u => (.tuple #[])) (fun u => fC u.1 O.length u.2) (fun u => [bx g #[sL u.1 O u.2] 121, ow u.1 u.2 125 eZ O]) rfl (bA rfl (bA rfl bK)) (fun _ => rfl) (wn rfl) rfl rfl Tryz.call111 (ak rfl (ak rfl (ak rfl (ak rfl aQ)))) (fun W hW hp hE => nz i6 b.Y0 i7 b.Y1 G D E g O h3 hE) ?_
   intro u hu
   obtain ⟨X, Z⟩ := u
   have c8 := hu
   have b8 : fC X O.length Z := c8 --@phi
   dsimp only
   exact ae (aH (aa (aD (av rfl (az aZ rfl rfl (Tr.k rfl (ae (aB b3 (O, (bn (b7 + 2)), X, Z) ⟨H, b8⟩ (.r rfl) (.r rfl)))))))))
  ·refine bO (au (au (aM (aa ?_))))
   have b5 := Bs.Le.refl w
   refine mH (σ := (List fE) × (Option Addr) × Nat) (fun w s => jR N p0 (dB N p0 v (t + 1)) b t s.1 = some r ∧ fC s.2.1 s.1.length s.2.2) (fun s => [(0, sL l p0 o), (3, pV g), (4, pV j), (5, .func (.func 112) #[] #[pV j]), (6, iv (t : Int)), (7, pV F), (11, sL l p0 o), (12, iv (p0.length : Int)), (13, iv (t : Int))]) (fun s => [(2, bx g #[sL s.2.1 s.1 s.2.2] 121), (3, bx j #[.func (.func 111) #[] #[pV g]] 162), (14, ow s.2.1 s.2.2 125 eZ s.1), (15, bx F #[iv b.Y0, iv b.Y1, sL d b.Xs f] 98)]) ?_ ?_
   ·refine ay (iN (by kernel_rfl) (by kernel_rfl) (bU rfl (eP iW rfl rfl (bU rfl ?_))))
    obtain ⟨i8, a0, H⟩ := bnd H
    refine oF 10 [(0, sL l p0 o), (3, pV g), (4, pV j), (5, .func (.func 112) #[] #[pV j]), (6, iv (t : Int)), (7, pV F), (11, sL l p0 o), (12, iv (p0.length : Int)), (13, iv (t : Int)), (71, bV i8)] ?_ ?_
    ·cases c4 : ((t : Int) == 0)
     ·rw [c4] at a0
      rw [if_neg (by decide)] at a0
      have H := a0
      refine gN run_move rfl (gN run_move rfl (ou eu rfl rfl ?_))
      obtain ⟨k0, h4, H⟩ := bnd H
      obtain ⟨f2, f3, f4⟩ := aF h4
      obtain ⟨i9, f5, c9, f6⟩ := (q).el f4
      obtain ⟨j3, j4⟩ := i9
      have i0 := c9
      refine Tq.x (fun _ _ a c => ai CL (a.ev rfl) q.form (a.ev rfl) f2 f3) (gN (ag uh) rfl (Tq.x (fun _ _ a c => ah bQ (a.ev rfl) (aC.drop (yM f5 f6 c) 1) rfl) (gN (ag vg) rfl (Tq.x (fun _ _ a c => ah bQ (a.ev rfl) (dZ c (vs := [iv b.Y0, iv b.Y1, sL d b.Xs f]) (k := 15) rfl 0) rfl) (ou aX rfl rfl (eP bv rfl rfl ?_))))))
      obtain rfl := oI H
      exact Tq.fin (.r rfl)
     ·rw [c4] at a0
      rw [if_pos rfl] at a0
      have H := a0
      obtain rfl := oI H
      refine bq rfl (bq rfl (bq rfl (bq rfl (bq rfl (bq rfl (bq rfl ?_))))))
      exact bq rfl (bq rfl (eP bC rfl rfl (Tq.fin (.r rfl))))
    ·refine iJ (aa (aN rfl H (fun H => ?_) (fun H => ?_)))
     ·refine aD (av rfl (aU (ag vg) rfl (aP rfl (fun _ _ a c => ah bQ (a.ev rfl) (dZ c (vs := [iv b.Y0, iv b.Y1, sL d b.Xs f]) (k := 15) rfl 0) rfl) (aU (ag pY) rfl (aP rfl (fun _ _ a c => ah mU (a.ev rfl) (dZ c (vs := [iv b.Y0, iv b.Y1, sL d b.Xs f]) (k := 15) rfl 2) rfl) ?_)))))
      obtain ⟨P, h5, H⟩ := bnd H
      refine tQ [2, 14] [bx g #[sL y C A] 121, ow y A 125 eZ C] (U := (Option Addr × Nat)) (fun u => (.tuple #[])) (fun u => fC u.1 P.length u.2) (fun u => [bx g #[sL u.1 P u.2] 121, ow u.1 u.2 125 eZ P]) rfl (bA rfl (bA rfl bK)) (fun _ => rfl) (wn rfl) rfl rfl Tryz.call112 (ak rfl (ak rfl (ak rfl aQ))) (fun W hW hp hE => lZ N b.Y0 [] none 0 (Sl.nil _ _ _) b.Xs d f (i.ext (hW.mQ hp)) j C y A g (hW.Jj (k := 3) rfl hp rfl) (hW.MV (k := 3) rfl) P h5 hE) ?_
      intro u hu
      obtain ⟨a1, a2⟩ := u
      have d0 := hu
      have b9 : fC a1 P.length a2 := d0 --@phi
      dsimp only
      exact ae (aB b5 (P, a1, a2) ⟨H, b9⟩ (.r rfl) (.r rfl))
     ·refine nS 11 (by kernel_rfl) (by kernel_rfl) (bU rfl (gH (ag vg) rfl (aY rfl (fun _ _ a c => ah bQ (a.ev rfl) (dZ c (vs := [iv b.Y0, iv b.Y1, sL d b.Xs f]) (k := 15) rfl 0) rfl) (bU rfl (bU rfl (eP eu rfl rfl ?_))))))
      obtain ⟨f7, h6, H⟩ := bnd H
      obtain ⟨f8, f9, g0⟩ := aF h6
      obtain ⟨j0, g1, d1, g2⟩ := (q).el g0
      obtain ⟨b1, b2⟩ := j0
      have Q := d1
      replace Q : Sl w.R w.W bL b1 b2 f7.Xs := Q
      refine aY rfl (fun _ _ a c => ai CL (a.ev rfl) q.form (a.ev rfl) f8 f9) (gH (ag pY) rfl (aY rfl (fun _ _ a c => ah mU (a.ev rfl) (aC.drop (yM g1 g2 c) 2) rfl) (gH (ag pY) rfl (aY rfl (fun _ _ a c => ah mU (a.ev rfl) (dZ c (vs := [iv b.Y0, iv b.Y1, sL d b.Xs f]) (k := 15) rfl 2) rfl) (iJ ?_)))))
      obtain ⟨S, h7, H⟩ := bnd H
      refine tQ [2, 14] [bx g #[sL y C A] 121, ow y A 125 eZ C] (U := (Option Addr × Nat)) (fun u => (.tuple #[])) (fun u => fC u.1 S.length u.2) (fun u => [bx g #[sL u.1 S u.2] 121, ow u.1 u.2 125 eZ S]) rfl (bA rfl (bA rfl bK)) (fun _ => rfl) (wn rfl) rfl rfl Tryz.call112 (ak rfl (ak rfl (ak rfl aQ))) (fun W hW hp hE => lZ N b.Y0 f7.Xs b1 b2 (Q.ext (hW.mQ hp)) b.Xs d f (i.ext (hW.mQ hp)) j C y A g (hW.Jj (k := 3) rfl hp rfl) (hW.MV (k := 3) rfl) S h7 hE) ?_
      intro u hu
      obtain ⟨a3, a4⟩ := u
      have d2 := hu
      have c0 : fC a3 S.length a4 := d2 --@phi
      dsimp only
      exact ae (aB b5 (S, a3, a4) ⟨H, c0⟩ (.r rfl) (.r rfl))
   ·intro w s b0 hs
    obtain ⟨T, K, L⟩ := s
    obtain ⟨H, b4⟩ := hs
    replace H : jR N p0 (dB N p0 v (t + 1)) b t T = some r := H
    replace q := q.qG b0
    replace i := i.qG b0
    replace M := M.trans b0
    replace b4 : fC K T.length L := b4
    unfold jR at H
    dsimp only
    refine ay (iN (by kernel_rfl) (by kernel_rfl) (bU rfl (eP aZ rfl rfl (bU rfl (gH (bi H9) rfl (eP iW rfl rfl (bU rfl ?_)))))))
    obtain ⟨j1, a5, H⟩ := bnd H
    refine oF 10 [(0, sL l p0 o), (3, pV g), (4, pV j), (5, .func (.func 112) #[] #[pV j]), (7, pV F), (11, sL l p0 o), (12, iv (p0.length : Int)), (13, iv (t : Int)), (105, bV j1)] ?_ ?_
    ·cases c5 : ((bn ((t : Int) + 1)) == (p0.length : Int))
     ·rw [c5] at a5
      rw [if_neg (by decide)] at a5
      have H := a5
      refine gN run_move rfl (gN run_move rfl (ou aZ rfl rfl ?_))
      obtain ⟨k1, h8, H⟩ := bnd H
      obtain ⟨g3, g4, g5⟩ := aF h8
      obtain ⟨j2, g6, d3, g7⟩ := (q).el g5
      obtain ⟨j5, j6⟩ := j2
      have i1 := d3
      refine Tq.x (fun _ _ a c => ai CL (a.ev rfl) q.form (a.ev rfl) g3 g4) (gN (ag vg) rfl (Tq.x (fun _ _ a c => ah bQ (a.ev rfl) (aC.drop (yM g6 g7 c) 0) rfl) (gN (ag uh) rfl (Tq.x (fun _ _ a c => ah bQ (a.ev rfl) (dZ c (vs := [iv b.Y0, iv b.Y1, sL d b.Xs f]) (k := 15) rfl 1) rfl) (ou kX rfl rfl (eP bv rfl rfl ?_))))))
      obtain rfl := oI H
      exact Tq.fin (.r rfl)
     ·rw [c5] at a5
      rw [if_pos rfl] at a5
      have H := a5
      obtain rfl := oI H
      refine bq rfl (bq rfl (bq rfl (bq rfl (bq rfl (bq rfl (bq rfl ?_))))))
      exact bq rfl (bq rfl (eP bC rfl rfl (Tq.fin (.r rfl))))
    ·refine iJ (aa (aN rfl H (fun H => ?_) (fun H => ?_)))
     ·refine aD (av rfl (aU (ag uh) rfl (aP rfl (fun _ _ a c => ah bQ (a.ev rfl) (dZ c (vs := [iv b.Y0, iv b.Y1, sL d b.Xs f]) (k := 15) rfl 1) rfl) (aU (ag pY) rfl (aP rfl (fun _ _ a c => ah mU (a.ev rfl) (dZ c (vs := [iv b.Y0, iv b.Y1, sL d b.Xs f]) (k := 15) rfl 2) rfl) ?_)))))
      obtain ⟨V, h9, H⟩ := bnd H
      refine tQ [2, 14] [bx g #[sL K T L] 121, ow K L 125 eZ T] (U := (Option Addr × Nat)) (fun u => (.tuple #[])) (fun u => fC u.1 V.length u.2) (fun u => [bx g #[sL u.1 V u.2] 121, ow u.1 u.2 125 eZ V]) rfl (bA rfl (bA rfl bK)) (fun _ => rfl) (wn rfl) rfl rfl Tryz.call112 (ak rfl (ak rfl (ak rfl aQ))) (fun W hW hp hE => lZ N b.Y1 b.Xs d f (i.ext (hW.mQ hp)) [] none 0 (Sl.nil _ _ _) j T K L g (hW.Jj (k := 3) rfl hp rfl) (hW.MV (k := 3) rfl) V h9 hE) ?_
      intro u hu
      obtain ⟨a6, a7⟩ := u
      have d4 := hu
      have c3 : fC a6 V.length a7 := d4 --@phi
      dsimp only
      exact ae (aH (aa (aD (az aZ rfl rfl (av rfl (ae (aB M (v, (t + 1), V, a6, a7) ⟨rfl, jV B, ed B, H, c3⟩ (.cons rfl (.cons rfl (.cons rfl (.cons rfl (.cons rfl (.cons rfl (.cons (congrArg (fun z => some (Value.int .i64 z)) (jU B q.form)) .nil))))))) (.r rfl))))))))
     ·exact aK (aH (aa (aD (az aZ rfl rfl (av rfl (ae (aB M (v, (t + 1), T, K, L) ⟨rfl, jV B, ed B, H, b4⟩ (.cons rfl (.cons rfl (.cons rfl (.cons rfl (.cons rfl (.cons rfl (.cons (congrArg (fun z => some (Value.int .i64 z)) (jU B q.form)) .nil))))))) (.r rfl))))))))

theorem qz {w : Bs} (p0 : Int) (r : Int) (H : kT p0 = some r) (hE : HF w w.W E0) : Calls Tryz.prog 116 [iv p0].toArray w.W fun e W' => e = .returned (iv r) ∧ HF w W' E0 := by
 unfold kT at H
 have leB := Bs.Le.refl w
 refine bB (n := 6) Tryz.func116 rfl rfl rfl hE (aj (Tr.k rfl (ae (aa (aj (av rfl (aP rfl (fun _ _ a c => AV (a.ev rfl) (a.ev rfl) _) (aP rfl (fun _ _ a c => GJ (a.ev rfl) (a.ev rfl) _) (Tr.k rfl (ae (aa (bg ?_))))))))))))
 obtain rfl := oI H
 exact dM leB

theorem lY {w : Bs} (p0 : fE) (r : aA) (H : gW p0 = some r) (hE : HF w w.W E0) : Calls Tryz.prog 70 [.agg #[iv p0.from_.X, iv p0.from_.Y, iv p0.to_.X, iv p0.to_.Y]].toArray w.W fun e W' => e = .returned (.agg #[iv r.X, iv r.Y]) ∧ HF w W' E0 := by
 unfold gW at H
 have leB := Bs.Le.refl w
 refine bB (n := 23) Tryz.func70 rfl rfl rfl hE (aj (jN 1 (cs := [iv p0.from_.X, iv p0.from_.Y, iv p0.to_.X, iv p0.to_.Y]) (wn rfl) rfl rfl rfl fun h => (Tr.alloc 2 (wn rfl) rfl ui fun i => (ae (aa (aj (Tr.k rfl (ae (aa (ay (nS 17 (by kernel_rfl) (by kernel_rfl) (bU rfl (gH (ag zb) rfl (gH (ag oq) rfl (aY rfl (fun _ _ a c => ah bQ (a.ev rfl) (dZ c (vs := [iv p0.from_.X, iv p0.from_.Y, iv p0.to_.X, iv p0.to_.Y]) (k := 1) rfl 2) rfl) (gH (ag ze) rfl (gH (ag oq) rfl (aY rfl (fun _ _ a c => ah bQ (a.ev rfl) (dZ c (vs := [iv p0.from_.X, iv p0.from_.Y, iv p0.to_.X, iv p0.to_.Y]) (k := 1) rfl 0) rfl) (eP eu rfl rfl ?_)))))))))))))))))))
 obtain ⟨b, f, H⟩ := bnd H
 refine rJ (r := (iv b)) (wn rfl) rfl rfl Tryz.call116 (ak rfl aQ) (fun W hW => qz (bn (p0.to_.X - p0.from_.X)) b f (HF.start _)) (bU rfl (gH (ag zb) rfl (gH (ag mG) rfl (aY rfl (fun _ _ a c => ah bQ (a.ev rfl) (dZ c (vs := [iv p0.from_.X, iv p0.from_.Y, iv p0.to_.X, iv p0.to_.Y]) (k := 1) rfl 3) rfl) (gH (ag ze) rfl (gH (ag mG) rfl (aY rfl (fun _ _ a c => ah bQ (a.ev rfl) (dZ c (vs := [iv p0.from_.X, iv p0.from_.Y, iv p0.to_.X, iv p0.to_.Y]) (k := 1) rfl 1) rfl) (eP eu rfl rfl (iJ ?_)))))))))
 obtain ⟨d, g, H⟩ := bnd H
 refine zo (r := (iv d)) (wn rfl) rfl rfl Tryz.call116 (ak rfl aQ) (fun W hW => qz (bn (p0.to_.Y - p0.from_.Y)) d g (HF.start _)) (ja (vs := [(0, iv b), (1, iv d)]) (cs := [iv b, iv d]) (wn rfl) rfl (bD rfl (bD rfl dL)) (by kernel_rfl) (dm 2 (cs := [iv b, iv d]) [iv b, iv d] (wn rfl) rfl rfl rfl rfl iK rfl rfl rfl (ae (aa (bg ?_)))))
 obtain rfl := oI H
 exact Tr.out (m := [.agg #[iv b, iv d]]) [2] (rG rfl rfl lJ iK dR) (fun W hW => ⟨rfl, hW.low leB⟩)

theorem wD {w : Bs} (p0 : fE) (r : aA) (H : mh p0 = some r) (hE : HF w w.W E0) : Calls Tryz.prog 69 [.agg #[iv p0.from_.X, iv p0.from_.Y, iv p0.to_.X, iv p0.to_.Y]].toArray w.W fun e W' => e = .returned (.agg #[iv r.X, iv r.Y]) ∧ HF w W' E0 := by
 unfold mh at H
 have leB := Bs.Le.refl w
 refine bB (n := 12) Tryz.func69 rfl rfl rfl hE (aj (jN 1 (cs := [iv p0.from_.X, iv p0.from_.Y, iv p0.to_.X, iv p0.to_.Y]) (wn rfl) rfl rfl rfl fun f => (Tr.alloc 2 (wn rfl) rfl ui fun g => (ae (aa (aj (aP rfl (fun _ _ a c => aO (cs := [iv p0.from_.X, iv p0.from_.Y, iv p0.to_.X, iv p0.to_.Y]) tO qQ (a.ev rfl) (aC.take (dZ c (vs := [iv p0.from_.X, iv p0.from_.Y, iv p0.to_.X, iv p0.to_.Y]) (k := 1) rfl 0) 4) rfl) ?_)))))))
 obtain ⟨b, d, H⟩ := bnd H
 refine dn (r := (.agg #[iv b.X, iv b.Y])) (wn rfl) rfl Tryz.call70 (ak rfl aQ) (fun W hW => lY p0 b d (HF.start _)) (Tr.alloc 3 (wn rfl) rfl ui fun h => (dm 3 (cs := [iv b.X, iv b.Y]) [iv b.X, iv b.Y] (wn rfl) rfl rfl rfl rfl iK rfl rfl rfl (ae (aa (aj (aU (ag mG) rfl (aP rfl (fun _ _ a c => ah bQ (a.ev rfl) (dZ c (vs := [iv b.X, iv b.Y]) (k := 3) rfl 1) rfl) (aU GI rfl (aU (ag oq) rfl (aP rfl (fun _ _ a c => ah bQ (a.ev rfl) (dZ c (vs := [iv b.X, iv b.Y]) (k := 3) rfl 0) rfl) (ja (vs := [(0, iv (bn (0 - b.Y))), (1, iv b.X)]) (cs := [iv (bn (0 - b.Y)), iv b.X]) (wn rfl) rfl (bD rfl (bD rfl dL)) (by kernel_rfl) (dm 2 (cs := [iv (bn (0 - b.Y)), iv b.X]) [iv (bn (0 - b.Y)), iv b.X] (wn rfl) rfl rfl rfl rfl iK rfl rfl rfl ?_))))))))))))
 refine ae (aa (bg ?_))
 obtain rfl := oI H
 exact Tr.out (m := [.agg #[iv (bn (0 - b.Y)), iv b.X]]) [2] (rG rfl rfl lJ iK dR) (fun W hW => ⟨rfl, hW.low leB⟩)

theorem uN {w : Bs} (p0 : aA) (p1 : aA) (r : Bool) (H : qf p0 p1 = some r) (hE : HF w w.W E0) : Calls Tryz.prog 76 [.agg #[iv p0.X, iv p0.Y], .agg #[iv p1.X, iv p1.Y]].toArray w.W fun e W' => e = .returned (bV r) ∧ HF w W' E0 := by
 unfold qf at H
 have leB := Bs.Le.refl w
 refine bB (n := 24) Tryz.func76 rfl rfl rfl hE (aj (jN 1 (cs := [iv p0.X, iv p0.Y]) (wn rfl) rfl rfl rfl fun b => (jN 2 (cs := [iv p1.X, iv p1.Y]) (wn rfl) rfl rfl rfl fun d => (Tr.k rfl (ae (aa (aj (aU (ag mG) rfl (aP rfl (fun _ _ a c => ah bQ (a.ev rfl) (dZ c (vs := [iv p0.X, iv p0.Y]) (k := 1) rfl 1) rfl) (aU (ag mG) rfl (aP rfl (fun _ _ a c => ah bQ (a.ev rfl) (dZ c (vs := [iv p1.X, iv p1.Y]) (k := 2) rfl 1) rfl) (az aX rfl rfl (av rfl (dW 13 [(23, bV ((decide (p0.Y < p1.Y)) || ((p0.Y == p1.Y) && (decide (p0.X < p1.X)))))] [(1, bx b #[iv p0.X, iv p0.Y] 47), (2, bx d #[iv p1.X, iv p1.Y] 47)] ?_ ?_))))))))))))))
 ·cases f : (decide (p0.Y < p1.Y))
  ·refine cz (ag mG) rfl (Tr.x (fun _ _ a c => ah bQ (a.ev rfl) (dZ c (vs := [iv p0.X, iv p0.Y]) (k := 1) rfl 1) rfl) (cz (ag mG) rfl (Tr.x (fun _ _ a c => ah bQ (a.ev rfl) (dZ c (vs := [iv p1.X, iv p1.Y]) (k := 2) rfl 1) rfl) (iZ iW rfl rfl (cz run_move rfl (dW 6 [(10, bV false), (22, bV ((p0.Y == p1.Y) && (decide (p0.X < p1.X))))] [(1, bx b #[iv p0.X, iv p0.Y] 47), (2, bx d #[iv p1.X, iv p1.Y] 47)] ?_ ?_))))))
   ·cases f : (p0.Y == p1.Y)
    ·exact aS rfl (aS rfl (aS rfl (aS rfl (aS rfl (iZ bv rfl rfl (ae (bu (.r rfl) (.r rfl))))))))
    ·exact cz (ag oq) rfl (Tr.x (fun _ _ a c => ah bQ (a.ev rfl) (dZ c (vs := [iv p0.X, iv p0.Y]) (k := 1) rfl 0) rfl) (cz (ag oq) rfl (Tr.x (fun _ _ a c => ah bQ (a.ev rfl) (dZ c (vs := [iv p1.X, iv p1.Y]) (k := 2) rfl 0) rfl) (iZ aX rfl rfl (iZ bC rfl rfl (ae (bu (.r rfl) (.r rfl))))))))
   ·dsimp only
    exact az bv rfl rfl (ae (bu (.r rfl) (.r rfl)))
  ·refine aS rfl (aS rfl (aS rfl (aS rfl (aS rfl (aS rfl (lK rfl ?_))))))
   exact lK rfl (lK rfl (lK rfl (lK rfl (aS rfl (az bC rfl rfl (ae (bu (.r rfl) (.r rfl))))))))
 ·show Tr _ _ (LF [(23, bV ((decide (p0.Y < p1.Y)) || ((p0.Y == p1.Y) && (decide (p0.X < p1.X)))))]) (LE [(1, bx b #[iv p0.X, iv p0.Y] 47), (2, bx d #[iv p1.X, iv p1.Y] 47)]) _
  refine Tr.k rfl (ae (aa (bg ?_)))
  obtain rfl := oI H
  exact dM leB

theorem xH {w : Bs} (p1 : Int) (r : (List aA)) (H : Si p1 = some r) (hE : HF w w.W (kw [emp])) : Calls Tryz.prog 161 [.slice none 0 0, iv p1].toArray w.W fun e W' => ∃ u : (Option Addr × Nat), e = .returned (sL u.1 r u.2) ∧ (fC u.1 r.length u.2) ∧ HF w W' (kw [ow u.1 u.2 47 bE r]) :=
 Kj (ρ := Tryz.CG) Tryz.PG rfl iK Fv (by decide) Gl rfl H hE

theorem w9 {w : Bs} (p0 : (List (List aA))) (g : Option Addr) (i : Nat) (b : Sl w.R w.W aW g i p0) (r : (List aA)) (H : lg p0 = some r) (hE : HF w w.W (kw [emp])) : Calls Tryz.prog 117 [sL g p0 i].toArray w.W fun e W' => ∃ u : (Option Addr × Nat), e = .returned (sL u.1 r u.2) ∧ (fC u.1 r.length u.2) ∧ HF w W' (kw [ow u.1 u.2 47 bE r]) := by
 unfold lg at H
 have leB := Bs.Le.refl w
 refine bB (n := 36) Tryz.func117 rfl rfl rfl hE (aj (Tr.k rfl (bS 1 47 bE ?_)))
 show Tr _ _ (uf _ 2 (sL none (([] : List aA)) 0)) _ _
 refine ae (aa (aj (Tr.k rfl (ae (aa (ay (aj (av rfl (aU (bi uV) rfl (av rfl (ae (aa (Tr.block (bT (σ := (List (List aA)) × Nat × Int) (fun m w s => m = s.1.length + 1 ∧ s.1 = List.drop s.2.1 p0 ∧ s.2.1 ≤ p0.length ∧ gM p0 s.1 s.2.1 s.2.2 = some r) (fun s => [(0, sL g p0 i), (3, iv s.2.2), (9, sL g p0 i), (10, iv (p0.length : Int)), (11, iv (s.2.1 : Int))]) (fun s => []) (p0.length + 1) (p0, 0, 0) ⟨rfl, rfl, Nat.zero_le _, H⟩ (.r rfl) .nil (fun _ _ h => absurd h.1 (by simp)) ?_))))))))))))))
 intro w G m s hs
 obtain ⟨d, M, E⟩ := s
 obtain ⟨I, j, b4, H⟩ := hs
 replace j : d = List.drop M p0 := j
 replace H : gM p0 d M E = some r := H
 replace I : m + 1 = d.length + 1 := I
 replace b := b.qG G
 replace leB := leB.trans G
 obtain rfl : m = d.length := by omega
 clear I
 dsimp only
 cases d with
 | nil =>
  rw [gM.eq_1] at H
  refine aj (az aX rfl rfl (ae (aa (ay (jB rfl (ji j) (bO (au (au (aM (aa (aj (av rfl ?_))))))))))))
  obtain ⟨q, a2, H⟩ := bnd H
  refine jX [2] [emp] (U := (Option Addr × Nat)) (fun u => (sL u.1 q u.2)) (fun u => fC u.1 q.length u.2) (fun u => [ow u.1 u.2 47 bE q]) rfl (bA rfl bK) (fun _ => rfl) (wn rfl) rfl Tryz.call161 (ak rfl (ak rfl aQ)) (fun W hW hp hE => xH E q a2 hE) ?_
  intro u hu
  obtain ⟨y, A⟩ := u
  have O := hu
  have J : fC y q.length A := O --@phi
  dsimp only
  refine Tr.k rfl (ae (aa (ay (aj (av rfl (aU (bi uV) rfl (av rfl (ae (aa (Tr.block (bT (σ := (List (List aA)) × Nat × (List aA) × (Option Addr) × Nat) (fun m w s => m = s.1.length + 1 ∧ s.1 = List.drop s.2.1 p0 ∧ s.2.1 ≤ p0.length ∧ gL s.1 s.2.1 s.2.2.1 = some r ∧ fC s.2.2.2.1 s.2.2.1.length s.2.2.2.2) (fun s => [(6, sL s.2.2.2.1 s.2.2.1 s.2.2.2.2), (25, sL g p0 i), (26, iv (p0.length : Int)), (27, iv (s.2.1 : Int))]) (fun s => [(2, ow s.2.2.2.1 s.2.2.2.2 47 bE s.2.2.1)]) (p0.length + 1) (p0, 0, q, y, A) ⟨rfl, rfl, Nat.zero_le _, H, J⟩ (.r rfl) (.r rfl) (fun _ _ h => absurd h.1 (by simp)) ?_)))))))))))
  intro w K m s hs
  obtain ⟨f, N, D, B, C⟩ := s
  obtain ⟨L, o, b5, H, F⟩ := hs
  replace o : f = List.drop N p0 := o
  replace H : gL f N D = some r := H
  replace L : m + 1 = f.length + 1 := L
  replace b := b.qG K
  replace leB := leB.trans K
  replace F : fC B D.length C := F
  obtain rfl : m = f.length := by omega
  clear L
  dsimp only
  cases f with
  | nil =>
   rw [gL.eq_1] at H
   refine aj (az aX rfl rfl (ae (aa (ay (jB rfl (ji o) (bO (au (au (aM (aa (aj (av rfl (Tr.k rfl (ae (aa (bg ?_))))))))))))))))
   obtain rfl := oI H
   exact Tr.out (m := [sL B D C]) [] (eU rfl dR) (fun W hW => ⟨(B, C), rfl, F, HF.xZ leB (hW.pick (ks := [2]) (by decide) (bA rfl bK)) ⟨pX _ _ _ _ vF, trivial⟩⟩)
  | cons a6 f =>
   rw [gL.eq_2] at H
   refine aj (az aX rfl rfl (ae (aa (ay (jA rfl (jW o) (aK (aa (ay (Tr.block (aj ?_))))))))))
   obtain ⟨a8, V, P, X⟩ := (b).el (lN o)
   obtain ⟨Q, S⟩ := a8
   have v := P
   replace v : Sl w.R w.W bE Q S a6 := v
   refine aP rfl (fun _ _ a c => ai uz (a.ev rfl) b.form (a.ev rfl) (Int.natCast_nonneg _) (ed o)) (aP rfl (fun _ _ a c => ah tq (a.ev rfl) (yM V X c) rfl) (Tr.k rfl (ae (aa (aD (av rfl (av rfl ?_)))))))
   obtain ⟨a9, a3, H⟩ := bnd H
   exact og 2 (t := bE) (l := D) (l2 := a6) (wn rfl) rfl rfl rfl rfl (Rq vF (fun W hW => (Sl.BG v hW))) qP iK Fv (by decide) Gl rfl a3 fun a4 a5 Z => (Tr.k rfl (ae (aH (aa (aD (az aZ rfl rfl (av rfl (ae (aB K (f, (N + 1), a9, a4, a5) ⟨rfl, jV o, ed o, H, Z⟩ (.cons rfl (.cons rfl (.cons rfl (.cons (congrArg (fun z => some (Value.int .i64 z)) (jU o b.form)) .nil)))) (.r rfl))))))))))
 | cons b3 d =>
  rw [gM.eq_2] at H
  refine aj (az aX rfl rfl (ae (aa (ay (jA rfl (jW j) (aK (aa (ay (Tr.block (aj ?_))))))))))
  obtain ⟨b0, a0, T, a1⟩ := (b).el (lN j)
  obtain ⟨b1, b2⟩ := b0
  have a7 := T
  refine aP rfl (fun _ _ a c => ai uz (a.ev rfl) b.form (a.ev rfl) (Int.natCast_nonneg _) (ed j)) (aP rfl (fun _ _ a c => ah tq (a.ev rfl) (yM a0 a1 c) rfl) (Tr.k rfl (ae (aa (aj (av rfl (av rfl (aU (bi qP) rfl (az aZ rfl rfl (Tr.k rfl (ae (aa (aj (av rfl (az aX rfl rfl (ae (aa (aN rfl H (fun H => ?_) (fun H => ?_)))))))))))))))))))
  ·cases H
  ·exact aK (aH (aa (aD (az aZ rfl rfl (av rfl (ae (aB G (d, (M + 1), (bn (E + (b3.length : Int)))) ⟨rfl, jV j, ed j, H⟩ (.cons rfl (.cons rfl (.cons rfl (.cons rfl (.cons (congrArg (fun z => some (Value.int .i64 z)) (jU j b.form)) .nil))))) .nil)))))))

end Go.Proofs.YtcjeebkoafonpaaGreatDoor
