/- The walks: each function computes its plain function. -/
import Derived.Test.YtcjeebkoafonpaaGreatDoorXWc
namespace Go.Proofs.YtcjeebkoafonpaaGreatDoor
open Go.RowKit
set_option maxRecDepth 100000
set_option maxHeartbeats 1000000
theorem xN (N : Nat) {w : Bs} (p0 : (List aG)) (g : Option Addr) (i : Nat) (u : Sl w.R w.W bG g i p0) (p1 : (List Bool)) (j : Option Addr) (l : Nat) (z : Sl w.R w.W lF j l p1) (p2 : aG) (r : Int) (H : pg N p0 p1 p2 = some r) (hE : HF w w.W E0) : Calls Tryz.prog 83 [sL g p0 i, sL j p1 l, .agg #[iv p2.from_.X, iv p2.from_.Y, iv p2.to_.X, iv p2.to_.Y]].toArray w.W fun e W' => e = .returned (iv r) ∧ HF w W' E0 := by
 unfold pg at H
 have leB := Bs.Le.refl w
 refine bB (n := 58) Tryz.func83 rfl rfl rfl hE (aj (jN 1 (cs := [iv p2.from_.X, iv p2.from_.Y, iv p2.to_.X, iv p2.to_.Y]) (wn rfl) rfl rfl rfl fun o => (Tr.k rfl (ae (aa (aj (Tr.k rfl (ae (aa (aj (aP rfl (fun _ _ a c => aO (cs := [iv p2.from_.X, iv p2.from_.Y, iv p2.to_.X, iv p2.to_.Y]) Ay tF (a.ev rfl) (aC.take (dZ c (vs := [iv p2.from_.X, iv p2.from_.Y, iv p2.to_.X, iv p2.to_.Y]) (k := 1) rfl 0) 4) rfl) ?_)))))))))))
 obtain ⟨b, P, H⟩ := bnd H
 refine dn (r := (.agg #[iv b.X, iv b.Y])) (wn rfl) rfl Tryz.call127 (ak rfl aQ) (fun W hW => nQ p2 b P (HF.start _)) (Tr.alloc 2 (wn rfl) rfl ui fun q => (dm 2 (cs := [iv b.X, iv b.Y]) [iv b.X, iv b.Y] (wn rfl) rfl rfl rfl rfl iK rfl rfl rfl (ae (aa (ay (aj (Tr.k rfl (ae (aa (Tr.block (bT (σ := Int × Int) (fun m w s => dz p0 p1 p2 b m s.1 s.2 = some r) (fun s => [(0, sL g p0 i), (1, sL j p1 l), (5, pV o), (7, iv s.1), (8, pV q), (9, iv s.2)]) (fun s => [(1, bx o #[iv p2.from_.X, iv p2.from_.Y, iv p2.to_.X, iv p2.to_.Y] 142), (2, bx q #[iv b.X, iv b.Y] 47)]) N ((-1), 0) H (.r rfl) (.r rfl) (fun _ _ h => fU (h)) ?_)))))))))))
 intro w y a0 s hs
 obtain ⟨f, t⟩ := s
 have H := hs
 replace H : dz p0 p1 p2 b (a0 + 1) f t = some r := H
 replace u := u.qG y
 replace z := z.qG y
 replace leB := leB.trans y
 rw [dz.eq_2] at H
 dsimp only
 refine ay (aj (av rfl (av rfl (aU (bi vM) rfl (az aX rfl rfl (ae (aa (aN rfl H (fun H => ?_) (fun H => ?_)))))))))
 ·refine aK (aa (ay (Tr.block (ay (ay (iN (by kernel_rfl) (by kernel_rfl) (bU rfl (bU rfl ?_))))))))
  obtain ⟨V, Q, H⟩ := bnd H
  obtain ⟨D, E, F⟩ := aF Q
  refine aY rfl (fun _ _ a c => ai yh (a.ev rfl) z.form (a.ev rfl) D E) (aY rfl (fun _ _ a c => ah MX (a.ev rfl) (oM zM z F c) rfl) (bU rfl ?_))
  obtain ⟨Z, v, H⟩ := bnd H
  refine oF 9 [(0, sL g p0 i), (1, sL j p1 l), (5, pV o), (7, iv f), (8, pV q), (9, iv t), (33, bV Z)] ?_ ?_
  ·cases B : V
   ·rw [B] at v
    rw [if_neg (by decide)] at v
    have H := v
    refine gN run_move rfl (gN run_move rfl ?_)
    obtain ⟨C, S, H⟩ := bnd H
    obtain ⟨G, I, J⟩ := aF S
    refine Tq.x (fun _ _ a c => ai Au (a.ev rfl) u.form (a.ev rfl) G I) (gN (ag Bh) rfl (Tq.x (fun _ _ a c => aO (cs := [iv C.from_.X, iv C.from_.Y]) lJ iK (a.ev rfl) (aC.take (aC.drop (oM jQ u J c) 0) 2) rfl) (gN (ag EB) rfl (Tq.x (fun _ _ a c => aO (cs := [iv p2.to_.X, iv p2.to_.Y]) lJ iK (a.ev rfl) (aC.take (dZ c (vs := [iv p2.from_.X, iv p2.from_.Y, iv p2.to_.X, iv p2.to_.Y]) (k := 1) rfl 2) 2) rfl) (ou (vP C.from_ p2.to_) rfl rfl (eP bv rfl rfl ?_))))))
    obtain rfl := oI H
    exact Tq.fin (.r rfl)
   ·rw [B] at v
    rw [if_pos rfl] at v
    have H := v
    obtain rfl := oI H
    refine bq rfl (bq rfl (bq rfl (bq rfl (bq rfl (bq rfl (bq rfl ?_))))))
    exact bq rfl (eP bC rfl rfl (Tq.fin (.r rfl)))
  ·refine iJ (aa (aN rfl H (fun H => ?_) (fun H => ?_)))
   ·exact bO (au (aM (aa (aD (av rfl (az aZ rfl rfl (Tr.k rfl (ae (aB y (f, (bn (t + 1))) H (.r rfl) (.r rfl))))))))))
   ·refine aK (aa (aj (av rfl (av rfl ?_))))
    obtain ⟨A, T, H⟩ := bnd H
    obtain ⟨K, L, M⟩ := aF T
    refine aP rfl (fun _ _ a c => ai Au (a.ev rfl) u.form (a.ev rfl) K L) (aP rfl (fun _ _ a c => aO (cs := [iv A.from_.X, iv A.from_.Y, iv A.to_.X, iv A.to_.Y]) Ay tF (a.ev rfl) (aC.take (oM jQ u M c) 4) rfl) ?_)
    obtain ⟨d, U, H⟩ := bnd H
    refine dn (r := (.agg #[iv d.X, iv d.Y])) (wn rfl) rfl Tryz.call127 (ak rfl aQ) (fun W hW => nQ A d U (HF.start _)) (Tr.alloc 5 (wn rfl) rfl ui fun O => (dm 5 (cs := [iv d.X, iv d.Y]) [iv d.X, iv d.Y] (wn rfl) rfl rfl rfl rfl iK rfl rfl rfl (ae (aa (aj (aU (ag oq) rfl (aP rfl (fun _ _ a c => ah bQ (a.ev rfl) (dZ c (vs := [iv b.X, iv b.Y]) (k := 2) rfl 0) rfl) (aU (ag mG) rfl (aP rfl (fun _ _ a c => ah bQ (a.ev rfl) (dZ c (vs := [iv d.X, iv d.Y]) (k := 5) rfl 1) rfl) (az rP rfl rfl (aU (ag mG) rfl (aP rfl (fun _ _ a c => ah bQ (a.ev rfl) (dZ c (vs := [iv b.X, iv b.Y]) (k := 2) rfl 1) rfl) (aU (ag oq) rfl (aP rfl (fun _ _ a c => ah bQ (a.ev rfl) (dZ c (vs := [iv d.X, iv d.Y]) (k := 5) rfl 0) rfl) ?_))))))))))))))
    refine az rP rfl rfl (az eu rfl rfl (az kX rfl rfl (Tr.k rfl (ae (aa (aj (av rfl (az aX rfl rfl (av rfl (dW 2 [(0, sL g p0 i), (1, sL j p1 l), (5, pV o), (7, iv f), (8, pV q), (9, iv t), (55, bV ((decide (f < 0)) || (decide (0 < (bn ((bn (b.X * d.Y)) - (bn (b.Y * d.X))))))))] [(1, bx o #[iv p2.from_.X, iv p2.from_.Y, iv p2.to_.X, iv p2.to_.Y] 142), (2, bx q #[iv b.X, iv b.Y] 47), (5, bx O #[iv d.X, iv d.Y] 47)] ?_ ?_))))))))))
    ·cases B : (decide (f < 0))
     ·exact cz run_move rfl (az bv rfl rfl (ae (bu (.r rfl) (.r rfl))))
     ·exact aS rfl (az bC rfl rfl (ae (bu (.r rfl) (.r rfl))))
    ·show Tr _ _ (LF [(0, sL g p0 i), (1, sL j p1 l), (5, pV o), (7, iv f), (8, pV q), (9, iv t), (55, bV ((decide (f < 0)) || (decide (0 < (bn ((bn (b.X * d.Y)) - (bn (b.Y * d.X))))))))]) (LE [(1, bx o #[iv p2.from_.X, iv p2.from_.Y, iv p2.to_.X, iv p2.to_.Y] 142), (2, bx q #[iv b.X, iv b.Y] 47), (5, bx O #[iv d.X, iv d.Y] 47)]) _
     refine ae (aa (aN rfl H (fun H => ?_) (fun H => ?_)))
     ·exact aD (av rfl (Tr.k rfl (ae (aH (aa (aD (av rfl (az aZ rfl rfl (Tr.k rfl (ae (aB y (t, (bn (t + 1))) H (.r rfl) (.r rfl))))))))))))
     ·exact aK (aH (aa (aD (av rfl (az aZ rfl rfl (Tr.k rfl (ae (aB y (f, (bn (t + 1))) H (.r rfl) (.r rfl)))))))))
 ·refine bO (au (au (aM (aa (aj (av rfl (Tr.k rfl (ae (aa (bg ?_))))))))))
  obtain rfl := oI H
  exact dM leB

theorem pO {w : Bs} (p0 : aA) (p1 : aA) (r : Bool) (H : kE p0 p1 = some r) (hE : HF w w.W E0) : Calls Tryz.prog 85 [.agg #[iv p0.X, iv p0.Y], .agg #[iv p1.X, iv p1.Y]].toArray w.W fun e W' => e = .returned (bV r) ∧ HF w W' E0 := by
 unfold kE at H
 have leB := Bs.Le.refl w
 refine bB (n := 24) Tryz.func85 rfl rfl rfl hE (aj (jN 1 (cs := [iv p0.X, iv p0.Y]) (wn rfl) rfl rfl rfl fun b => (jN 2 (cs := [iv p1.X, iv p1.Y]) (wn rfl) rfl rfl rfl fun d => (Tr.k rfl (ae (aa (aj (aU (ag mG) rfl (aP rfl (fun _ _ a c => ah bQ (a.ev rfl) (dZ c (vs := [iv p0.X, iv p0.Y]) (k := 1) rfl 1) rfl) (aU (ag mG) rfl (aP rfl (fun _ _ a c => ah bQ (a.ev rfl) (dZ c (vs := [iv p1.X, iv p1.Y]) (k := 2) rfl 1) rfl) (az aX rfl rfl (av rfl (dW 13 [(23, bV ((decide (p0.Y < p1.Y)) || ((p0.Y == p1.Y) && (decide (p0.X < p1.X)))))] [(1, bx b #[iv p0.X, iv p0.Y] 47), (2, bx d #[iv p1.X, iv p1.Y] 47)] ?_ ?_))))))))))))))
 ·cases f : (decide (p0.Y < p1.Y))
  ·refine cz (ag mG) rfl (Tr.x (fun _ _ a c => ah bQ (a.ev rfl) (dZ c (vs := [iv p0.X, iv p0.Y]) (k := 1) rfl 1) rfl) (cz (ag mG) rfl (Tr.x (fun _ _ a c => ah bQ (a.ev rfl) (dZ c (vs := [iv p1.X, iv p1.Y]) (k := 2) rfl 1) rfl) (iZ iW rfl rfl (cz run_move rfl (dW 6 [(10, bV false), (22, bV ((p0.Y == p1.Y) && (decide (p0.X < p1.X))))] [(1, bx b #[iv p0.X, iv p0.Y] 47), (2, bx d #[iv p1.X, iv p1.Y] 47)] ?_ ?_))))))
   ·cases f : (p0.Y == p1.Y)
    ·exact aS rfl (aS rfl (aS rfl (aS rfl (aS rfl (iZ bv rfl rfl (ae (bu (.r rfl) (.r rfl))))))))
    ·exact cz (ag oq) rfl (Tr.x (fun _ _ a c => ah bQ (a.ev rfl) (dZ c (vs := [iv p0.X, iv p0.Y]) (k := 1) rfl 0) rfl) (cz (ag oq) rfl (Tr.x (fun _ _ a c => ah bQ (a.ev rfl) (dZ c (vs := [iv p1.X, iv p1.Y]) (k := 2) rfl 0) rfl) (iZ aX rfl rfl (iZ bC rfl rfl (ae (bu (.r rfl) (.r rfl))))))))
   ·dsimp only
    exact az bv rfl rfl (ae (bu (.r rfl) (.r rfl)))
  ·refine aS rfl (aS rfl (aS rfl (aS rfl (aS rfl (aS rfl (lK rfl ?_))))))
   exact lK rfl (lK rfl (lK rfl (lK rfl (aS rfl (az bC rfl rfl (ae (bu (.r rfl) (.r rfl))))))))
 ·show Tr _ _ (LF [(23, bV ((decide (p0.Y < p1.Y)) || ((p0.Y == p1.Y) && (decide (p0.X < p1.X)))))]) (LE [(1, bx b #[iv p0.X, iv p0.Y] 47), (2, bx d #[iv p1.X, iv p1.Y] 47)]) _
  refine Tr.k rfl (ae (aa (bg ?_)))
  obtain rfl := oI H
  exact dM leB

theorem wu (N : Nat) {w : Bs} (p0 : (List aG)) (q : Option Addr) (v : Nat) (g : Sl w.R w.W bG q v p0) (r : (List aA)) (H : kz N p0 = some r) (hE : HF w w.W (kw [emp])) : Calls Tryz.prog 84 [sL q p0 v].toArray w.W fun e W' => ∃ u : (Option Addr × Nat), e = .returned (sL u.1 r u.2) ∧ (fC u.1 r.length u.2) ∧ HF w W' (kw [ow u.1 u.2 47 bE r]) := by
 unfold kz at H
 have leB := Bs.Le.refl w
 refine bB (n := 68) Tryz.func84 rfl rfl rfl hE (aj (Tr.k rfl (bS 1 47 bE ?_)))
 show Tr _ _ (uf _ 2 (sL none (([] : List aA)) 0)) _ _
 refine ae (aa (aj (Tr.k rfl (bS 2 47 bE ?_))))
 show Tr _ _ (uf _ 3 (sL none (([] : List aA)) 0)) _ _
 refine ae (aa (ay (aj (Tr.k rfl (ae (aa (Tr.block (bT (σ := (List aA) × Int × (Option Addr) × Nat) (fun m w s => fZ N p0 m s.1 s.2.1 = some r ∧ fC s.2.2.1 s.1.length s.2.2.2) (fun s => [(0, sL q p0 v), (3, sL s.2.2.1 s.1 s.2.2.2), (4, iv s.2.1)]) (fun s => [(2, ow s.2.2.1 s.2.2.2 47 bE s.1)]) N (([] : List aA), 0, none, 0) ⟨H, iM⟩ (.r rfl) (.r rfl) (fun _ _ h => fU (h.1)) ?_))))))))
 intro w A d1 s hs
 obtain ⟨d, B, i, j⟩ := s
 obtain ⟨H, o⟩ := hs
 replace H : fZ N p0 (d1 + 1) d B = some r := H
 replace g := g.qG A
 replace leB := leB.trans A
 replace o : fC i d.length j := o
 rw [fZ.eq_2] at H
 dsimp only
 refine ay (aj (av rfl (av rfl (aU (bi vM) rfl (az aX rfl rfl (ae (aa (aN rfl H (fun H => ?_) (fun H => ?_)))))))))
 ·refine aK (aa (ay (Tr.block (aj (av rfl (av rfl (av rfl (aU (bi vM) rfl (az aZ rfl rfl (az eu rfl rfl (av rfl (aU (bi vM) rfl ?_))))))))))))
  obtain ⟨d6, b0, H⟩ := bnd H
  refine aP rfl (fun _ _ a c => Eb (a.ev rfl) (a.ev rfl) b0) ?_
  obtain ⟨b, b1, H⟩ := bnd H
  obtain ⟨O, P, Q⟩ := aF b1
  refine aP rfl (fun _ _ a c => ai Au (a.ev rfl) g.form (a.ev rfl) O P) (aP rfl (fun _ _ a c => aO (cs := [iv b.from_.X, iv b.from_.Y, iv b.to_.X, iv b.to_.Y]) Ay tF (a.ev rfl) (aC.take (oM jQ g Q c) 4) rfl) (Tr.alloc 7 (wn rfl) rfl Qz fun d7 => (dm 7 (cs := [iv b.from_.X, iv b.from_.Y, iv b.to_.X, iv b.to_.Y]) [iv b.from_.X, iv b.from_.Y, iv b.to_.X, iv b.to_.Y] (wn rfl) rfl rfl rfl rfl tF rfl rfl rfl (ae (aa (ay (iN (by kernel_rfl) (by kernel_rfl) (aY rfl (fun _ _ a c => aO (cs := [iv b.from_.X, iv b.from_.Y, iv b.to_.X, iv b.to_.Y]) Ay tF (a.ev rfl) (aC.take (dZ c (vs := [iv b.from_.X, iv b.from_.Y, iv b.to_.X, iv b.to_.Y]) (k := 7) rfl 0) 4) rfl) ?_))))))))
  obtain ⟨C, b2, H⟩ := bnd H
  refine kR (r := (.agg #[iv C.X, iv C.Y])) (wn rfl) rfl Tryz.call127 (ak rfl aQ) (fun W hW => nQ b C b2 (HF.start _)) (bU rfl (bU rfl ?_))
  obtain ⟨y, b3, H⟩ := bnd H
  obtain ⟨S, T, U⟩ := aF b3
  refine aY rfl (fun _ _ a c => ai Au (a.ev rfl) g.form (a.ev rfl) S T) (aY rfl (fun _ _ a c => aO (cs := [iv y.from_.X, iv y.from_.Y, iv y.to_.X, iv y.to_.Y]) Ay tF (a.ev rfl) (aC.take (oM jQ g U c) 4) rfl) ?_)
  obtain ⟨D, b4, H⟩ := bnd H
  refine kR (r := (.agg #[iv D.X, iv D.Y])) (wn rfl) rfl Tryz.call127 (ak rfl aQ) (fun W hW => nQ y D b4 (HF.start _)) (eP (vP C D) rfl rfl (iJ (aa (aN rfl H (fun H => ?_) (fun H => ?_)))))
  ·refine aD (av rfl (av rfl (av rfl ?_)))
   obtain ⟨f, b5, H⟩ := bnd H
   obtain ⟨V, Z, a0⟩ := aF b5
   refine aP rfl (fun _ _ a c => ai Au (a.ev rfl) g.form (a.ev rfl) V Z) (aU (ag Bh) rfl (aP rfl (fun _ _ a c => aO (cs := [iv f.from_.X, iv f.from_.Y]) lJ iK (a.ev rfl) (aC.take (aC.drop (oM jQ g a0 c) 0) 2) rfl) (dG 8 (e := 47) (vs := [(0, .agg #[iv f.from_.X, iv f.from_.Y])]) (cs := [iv f.from_.X, iv f.from_.Y]) (wn rfl) rfl (bD rfl dL) (by kernel_rfl) fun d8 => ?_)))
   obtain ⟨c6, b6, H⟩ := bnd H
   exact Tr.append 2 (t := bE) (l := d) (l2 := [f.from_]) (wn rfl) rfl rfl rfl rfl (fun W hW => ⟨[[iv f.from_.X, iv f.from_.Y]], (.cons ⟨(), trivial, rfl⟩ .nil), dZ hW (vs := [iv f.from_.X, iv f.from_.Y]) (k := 8) rfl 0⟩) qP iK Fv (by decide) Gl rfl b6 fun b7 b8 a1 => (Tr.k rfl (ae (aH (aa (aD (av rfl (az aZ rfl rfl (Tr.k rfl (ae (aB A (c6, (bn (B + 1)), b7, b8) ⟨H, a1⟩ (.r rfl) (.r rfl)))))))))))
  ·exact aK (aH (aa (aD (av rfl (az aZ rfl rfl (Tr.k rfl (ae (aB A (d, (bn (B + 1)), i, j) ⟨H, o⟩ (.r rfl) (.r rfl)))))))))
 ·refine bO (au (au (aM (aa (aj (Tr.k rfl (ae (aa (ay (aj (Tr.k rfl (ae (aa (Tr.block (bT (σ := Int × Int) (fun m w s => fe d m s.1 s.2 = some r) (fun s => [(3, sL i d j), (6, iv s.1), (7, iv s.2)]) (fun s => [(2, ow i j 47 bE d)]) N (0, 0) H (.r rfl) (.r rfl) (fun _ _ h => fU (h)) ?_)))))))))))))))
  intro w E d2 s hs
  obtain ⟨F, z⟩ := s
  have H := hs
  replace H : fe d (d2 + 1) F z = some r := H
  replace leB := leB.trans E
  rw [fe.eq_2] at H
  dsimp only
  refine ay (aj (av rfl (av rfl (aU (bi qP) rfl (az aX rfl rfl (ae (aa (aN rfl H (fun H => ?_) (fun H => ?_)))))))))
  ·refine aK (aa (ay (Tr.block (ay (iN (by kernel_rfl) (by kernel_rfl) (bU rfl (bU rfl ?_)))))))
   obtain ⟨G, b9, H⟩ := bnd H
   obtain ⟨a2, a3, a4⟩ := aF b9
   refine aY rfl (fun _ _ a c => ai oO (a.ev rfl) o (a.ev rfl) a2 a3) (aY rfl (fun _ _ a c => aO (cs := [iv G.X, iv G.Y]) lJ iK (a.ev rfl) (aC.take (Ab iV (k := 2) c rfl a4) 2) rfl) (bU rfl (bU rfl ?_)))
   obtain ⟨I, c0, H⟩ := bnd H
   obtain ⟨a5, a6, a7⟩ := aF c0
   refine aY rfl (fun _ _ a c => ai oO (a.ev rfl) o (a.ev rfl) a5 a6) (aY rfl (fun _ _ a c => aO (cs := [iv I.X, iv I.Y]) lJ iK (a.ev rfl) (aC.take (Ab iV (k := 2) c rfl a7) 2) rfl) ?_)
   obtain ⟨a8, c3, H⟩ := bnd H
   refine kR (r := (bV a8)) (wn rfl) rfl Tryz.call85 (ak rfl (ak rfl aQ)) (fun W hW => pO G I a8 c3 (HF.start _)) (iJ (aa (aN rfl H (fun H => ?_) (fun H => ?_))))
   ·exact aD (av rfl (Tr.k rfl (ae (aH (aa (aD (av rfl (az aZ rfl rfl (Tr.k rfl (ae (aB E (z, (bn (z + 1))) H (.r rfl) (.r rfl))))))))))))
   ·exact aK (aH (aa (aD (av rfl (az aZ rfl rfl (Tr.k rfl (ae (aB E (F, (bn (z + 1))) H (.r rfl) (.r rfl)))))))))
  ·refine bO (au (au (aM (aa (aj (Tr.k rfl (bS 9 47 bE ?_)))))))
   show Tr _ _ (uf _ 8 (sL none (([] : List aA)) 0)) _ _
   refine ae (aa (aj (av rfl (av rfl (av rfl ?_)))))
   obtain ⟨c7, J, H⟩ := bnd H
   refine aP rfl (fun _ _ a c => sH oO (a.ev rfl) o (a.ev rfl) J) ?_
   obtain ⟨c8, c4, H⟩ := bnd H
   refine og 9 (t := bE) (l := ([] : List aA)) (l2 := c7) (wn rfl) rfl rfl rfl rfl (Rq vF (fun W hW => (Sl.cut (hW.SF (k := 2) rfl) J))) qP iK Fv (by decide) Gl rfl c4 fun d4 d5 d3 => (Tr.k rfl (ae (aa (aj (av rfl (av rfl (av rfl ?_)))))))
   obtain ⟨c9, K, H⟩ := bnd H
   refine aP rfl (fun _ _ a c => zG oO (a.ev rfl) o (a.ev rfl) K) ?_
   obtain ⟨d0, c5, H⟩ := bnd H
   refine og 9 (t := bE) (l := c8) (l2 := c9) (wn rfl) rfl rfl rfl rfl (Rq vF (fun W hW => (Sl.pre (hW.SF (k := 2) rfl) K))) qP iK Fv (by decide) Gl rfl c5 fun L M a9 => (Tr.k rfl (ae (aa (bg ?_))))
   obtain rfl := oI H
   exact Tr.out (m := [sL L d0 M]) [] (eU rfl dR) (fun W hW => ⟨(L, M), rfl, a9, HF.xZ leB (hW.pick (ks := [9]) (by decide) (bA rfl bK)) ⟨pX _ _ _ _ vF, trivial⟩⟩)

theorem uF (N : Nat) {w : Bs} (p0 : (List aI)) (c3 : Option Addr) (c4 : Nat) (j4 : Sl w.R w.W bz c3 c4 p0) (r : (List (List aA))) (H : kF N p0 = some r) (hE : HF w w.W (kw [emp])) : Calls Tryz.prog 37 [sL c3 p0 c4].toArray w.W fun e W' => ∃ (w' : Bs) (u : (Option Addr × Nat)), w.Le w' ∧ e = .returned (sL u.1 r u.2) ∧ (fC u.1 r.length u.2) ∧ HF w' W' (kw [ow u.1 u.2 43 aW r]) := by
 unfold kF at H
 have leB := Bs.Le.refl w
 refine bB (n := 109) Tryz.func37 rfl rfl rfl hE (aj (Tr.k rfl (bS 1 43 aW ?_)))
 show Tr _ _ (uf _ 2 (sL none (([] : List (List aA))) 0)) _ _
 refine ae (aa (aj (av rfl ?_)))
 obtain ⟨f, j5, H⟩ := bnd H
 refine jX [2] [emp] (U := (Option Addr × Nat)) (fun u => (sL u.1 f u.2)) (fun u => fC u.1 f.length u.2) (fun u => [ow u.1 u.2 142 bG f]) rfl (bA rfl bK) (fun _ => rfl) (wn rfl) rfl Tryz.call82 (ak rfl aQ) (fun W hW hp hE => xg N p0 c3 c4 (j4.ext (hW.mQ hp)) f j5 hE) ?_
 intro u hu
 obtain ⟨b, d⟩ := u
 have d9 := hu
 have a9 : fC b f.length d := d9 --@phi
 dsimp only
 refine Tr.k rfl (ae (aa (aj (av rfl (aU (bi vM) rfl ?_)))))
 obtain ⟨e6, j6, H⟩ := bnd H
 refine yj 3 lF false (wn rfl) rfl rfl rfl JK Ml rfl Qx Rn rfl ⟨(), fun _ _ => Gw _ _ _ _, rfl⟩ j6 fun m5 e7 => (Tr.k rfl (ae (aa (aj (Tr.k rfl (bS 4 43 aW ?_))))))
 show Tr _ _ (uf _ 5 (sL none (([] : List (List aA))) 0)) _ _
 refine ae (aa (ay (aj (Tr.k rfl (ae (aa (Tr.block (zn 4 22 rfl rfl rfl (bT (σ := (List Bool) × (List (List aA)) × Int × (Option Addr) × Nat × (Option Addr) × Nat) (fun m w s => bM N f m s.1 s.2.1 s.2.2.1 = some r ∧ fC s.2.2.2.1 s.1.length s.2.2.2.2.1 ∧ fC s.2.2.2.2.2.1 s.2.1.length s.2.2.2.2.2.2) (fun s => [(3, sL b f d), (4, sL s.2.2.2.1 s.1 s.2.2.2.2.1), (5, sL s.2.2.2.2.2.1 s.2.1 s.2.2.2.2.2.2), (6, iv s.2.2.1)]) (fun s => [(2, ow b d 142 bG f), (3, ow s.2.2.2.1 s.2.2.2.2.1 4 lF s.1), (22, ow s.2.2.2.2.2.1 s.2.2.2.2.2.2 43 aW s.2.1)]) N (e6, ([] : List (List aA)), 0, (some ⟨m5, 0, none⟩), e6.length, none, 0) ⟨H, e7, iM⟩ (.r rfl) (.r rfl) (fun _ _ h => fU (h.1)) ?_)))))))))
 intro w E c7 s hs
 obtain ⟨a7, o, C, Z, a0, q, v⟩ := s
 obtain ⟨H, a1, F⟩ := hs
 replace H : bM N f (c7 + 1) a7 o C = some r := H
 replace leB := leB.trans E
 replace a1 : fC Z a7.length a0 := a1
 replace F : fC q o.length v := F
 rw [bM.eq_2] at H
 dsimp only
 refine ay (aj (av rfl (av rfl (aU (bi vM) rfl (az aX rfl rfl (ae (aa (aN rfl H (fun H => ?_) (fun H => ?_)))))))))
 ·refine aK (aa (ay (Tr.block (ay (aj (av rfl (av rfl ?_)))))))
  obtain ⟨o8, j7, H⟩ := bnd H
  obtain ⟨e8, e9, f1⟩ := aF j7
  refine aP rfl (fun _ _ a c => ai yh (a.ev rfl) a1 (a.ev rfl) e8 e9) (aP rfl (fun _ _ a c => ah MX (a.ev rfl) (Ab zM (k := 3) c rfl f1) rfl) (ae (aa (aN rfl H (fun H => ?_) (fun H => ?_)))))
  ·exact bO (au (aM (aa (aD (av rfl (az aZ rfl rfl (Tr.k rfl (ae (aB E (a7, o, (bn (C + 1)), Z, a0, q, v) ⟨H, a1, F⟩ (.r rfl) (.r rfl))))))))))
  ·refine aK (aa (aj (Tr.k rfl (bS 23 142 bG ?_))))
   show Tr _ _ (uf _ 7 (sL none (([] : List aG)) 0)) _ _
   refine ae (aa (ay (aj (av rfl (Tr.k rfl (ae (aa (Tr.block (bT (σ := (List Bool) × (List aG) × Int × (Option Addr) × Nat × (Option Addr) × Nat) (fun m w s => fQ N f o C (bM N f c7) m s.1 s.2.1 s.2.2.1 = some r ∧ fC s.2.2.2.1 s.1.length s.2.2.2.2.1 ∧ fC s.2.2.2.2.2.1 s.2.1.length s.2.2.2.2.2.2) (fun s => [(3, sL b f d), (4, sL s.2.2.2.1 s.1 s.2.2.2.2.1), (5, sL q o v), (6, iv C), (7, sL s.2.2.2.2.2.1 s.2.1 s.2.2.2.2.2.2), (8, iv s.2.2.1)]) (fun s => [(2, ow b d 142 bG f), (3, ow s.2.2.2.1 s.2.2.2.2.1 4 lF s.1), (22, ow q v 43 aW o), (23, ow s.2.2.2.2.2.1 s.2.2.2.2.2.2 142 bG s.2.1)]) N (a7, ([] : List aG), C, Z, a0, none, 0) ⟨H, a1, iM⟩ (.r rfl) (.r rfl) (fun _ _ h => fU (h.1)) ?_)))))))))
   intro w f2 n8 s hs
   obtain ⟨D, P, Q, y, z, a2, a3⟩ := s
   obtain ⟨H, a4, o3⟩ := hs
   replace H : fQ N f o C (bM N f c7) (n8 + 1) D P Q = some r := H
   replace E := E.trans f2
   replace a4 : fC y D.length z := a4
   rw [fQ.eq_2] at H
   dsimp only
   refine ay (aj (av rfl (az tZ rfl rfl (ae (aa (aN rfl H (fun H => ?_) (fun H => ?_)))))))
   ·refine aK (aa (ay (Tr.block (aj (av rfl (av rfl ?_))))))
    obtain ⟨o9, j8, H⟩ := bnd H
    obtain ⟨f3, f4, f5⟩ := aF j8
    refine aP rfl (fun _ _ a c => ai yh (a.ev rfl) a4 (a.ev rfl) f3 f4) ?_
    obtain ⟨a8, d4, H⟩ := bnd H
    have b0 := nW d4
    refine nZ 3 (t := lF) (l := D) (i := Q) (fo := 0) (cs := [bV true]) true (wn rfl) rfl rfl rfl rfl rfl f5 Ml rfl (fun u _ => ⟨u, trivial, rfl⟩) rfl d4 ?_
    have f6 : fC y a8.length z := by rw [b0]; exact a4
    refine Tr.wL (lf := [(3, sL b f d), (4, sL y a8 z), (5, sL q o v), (6, iv C), (7, sL a2 P a3), (8, iv Q), (28, iv Q), (29, bV (decide (0 ≤ Q))), (37, sL y a8 z), (38, iv Q)]) (le := [(2, ow b d 142 bG f), (3, ow y z 4 lF a8), (22, ow q v 43 aW o), (23, ow a2 a3 142 bG P)]) (.cons rfl (.cons (eG rfl (by unfold sL; rw [b0])) (.cons rfl (.cons rfl (.cons rfl (.cons rfl (.cons rfl (.cons rfl (.cons (eG rfl (by unfold sL; rw [b0])) (.r rfl)))))))))) (.r rfl) (ae (aa (aD (av rfl (av rfl (av rfl ?_))))))
    obtain ⟨A, j9, H⟩ := bnd H
    obtain ⟨f7, f8, f9⟩ := aF j9
    refine aP rfl (fun _ _ a c => ai Au (a.ev rfl) a9 (a.ev rfl) f7 f8) (aP rfl (fun _ _ a c => aO (cs := [iv A.from_.X, iv A.from_.Y, iv A.to_.X, iv A.to_.Y]) Ay tF (a.ev rfl) (aC.take (Ab jQ (k := 2) c rfl f9) 4) rfl) (dG 26 (e := 142) (vs := [(0, .agg #[iv A.from_.X, iv A.from_.Y, iv A.to_.X, iv A.to_.Y])]) (cs := [iv A.from_.X, iv A.from_.Y, iv A.to_.X, iv A.to_.Y]) (wn rfl) rfl (bD rfl dL) (by kernel_rfl) fun p1 => ?_))
    obtain ⟨m6, k0, H⟩ := bnd H
    refine Tr.append 23 (t := bG) (l := P) (l2 := [A]) (wn rfl) rfl rfl rfl rfl (fun W hW => ⟨[[iv A.from_.X, iv A.from_.Y, iv A.to_.X, iv A.to_.Y]], (.cons ⟨(), trivial, rfl⟩ .nil), dZ hW (vs := [iv A.from_.X, iv A.from_.Y, iv A.to_.X, iv A.to_.Y]) (k := 26) rfl 0⟩) vM tF Dy (by decide) EO rfl k0 fun k1 k2 g0 => (Tr.k rfl (ae (aH (aa (aD (av rfl (av rfl (av rfl (av rfl ?_)))))))))
    obtain ⟨b1, k3, H⟩ := bnd H
    obtain ⟨g1, g2, g3⟩ := aF k3
    refine aP rfl (fun _ _ a c => ai Au (a.ev rfl) a9 (a.ev rfl) g1 g2) (aP rfl (fun _ _ a c => aO (cs := [iv b1.from_.X, iv b1.from_.Y, iv b1.to_.X, iv b1.to_.Y]) Ay tF (a.ev rfl) (aC.take (Ab jQ (k := 2) c rfl g3) 4) rfl) ?_)
    obtain ⟨c8, k4, H⟩ := bnd H
    exact dn (r := (iv c8)) (wn rfl) rfl Tryz.call83 (ak rfl (ak rfl (ak rfl aQ))) (fun W hW => xN N f b d (hW.sF (k := 2) rfl) a8 y z (hW.sF (k := 3) rfl) b1 c8 k4 (HF.start _)) (Tr.k rfl (ae (aB f2 (a8, m6, c8, y, z, k1, k2) ⟨H, f6, g0⟩ (.r rfl) (.r rfl))))
   ·refine bO (au (au (aM (aa (aj (av rfl ?_))))))
    obtain ⟨B, k5, H⟩ := bnd H
    refine jX [27] [emp] (U := (Option Addr × Nat)) (fun u => (sL u.1 B u.2)) (fun u => fC u.1 B.length u.2) (fun u => [ow u.1 u.2 47 bE B]) rfl (bA rfl bK) (fun _ => rfl) (wn rfl) rfl Tryz.call84 (ak rfl aQ) (fun W hW hp hE => wu N P a2 a3 (hW.Qk (k := 23) rfl hp rfl) B k5 hE) ?_
    intro u hu
    obtain ⟨g, j⟩ := u
    have e0 := hu
    have S : fC g B.length j := e0 --@phi
    dsimp only
    refine Tr.k rfl (ae (aa (aj (av rfl (aU (bi uV) rfl (Tr.k rfl (ae (aa (ay (Tr.block (bT (σ := Int) (fun m w s => eY o C (bM N f c7) D B m s = some r) (fun s => [(3, sL b f d), (4, sL y D z), (5, sL q o v), (6, iv C), (9, sL g B j), (10, iv s)]) (fun s => [(2, ow b d 142 bG f), (3, ow y z 4 lF D), (22, ow q v 43 aW o), (27, ow g j 47 bE B)]) N (o.length : Int) H (.r rfl) (.r rfl) (fun _ _ h => fU (h)) ?_)))))))))))
    intro w g4 n9 T hs
    have H := hs
    replace H : eY o C (bM N f c7) D B (n9 + 1) T = some r := H
    replace E := E.trans g4
    rw [eY.eq_2] at H
    show Tr _ _ (LF [(3, sL b f d), (4, sL y D z), (5, sL q o v), (6, iv C), (9, sL g B j), (10, iv T)]) (LE [(2, ow b d 142 bG f), (3, ow y z 4 lF D), (22, ow q v 43 aW o), (27, ow g j 47 bE B)]) _
    refine ay (ay (iN (by kernel_rfl) (by kernel_rfl) (bU rfl (eP kX rfl rfl (bU rfl ?_)))))
    obtain ⟨m7, K, H⟩ := bnd H
    refine oF 38 [(3, sL b f d), (4, sL y D z), (5, sL q o v), (6, iv C), (9, sL g B j), (10, iv T), (91, bV m7)] ?_ ?_
    ·cases d5 : (decide (0 < T))
     ·rw [d5] at K
      rw [if_neg (by decide)] at K
      have H := K
      obtain rfl := oI H
      refine bq rfl (bq rfl (bq rfl (bq rfl (bq rfl (bq rfl (bq rfl ?_))))))
      refine bq rfl (bq rfl (bq rfl (bq rfl (bq rfl (lL rfl (lL rfl ?_))))))
      refine lL rfl (lL rfl (lL rfl (lL rfl (lL rfl (lL rfl (lL rfl ?_))))))
      refine lL rfl (lL rfl (lL rfl (lL rfl (lL rfl (lL rfl (lL rfl ?_))))))
      refine lL rfl (lL rfl (lL rfl (lL rfl (lL rfl (lL rfl (lL rfl ?_))))))
      exact lL rfl (bq rfl (eP bv rfl rfl (Tq.fin (.r rfl))))
     ·rw [d5] at K
      rw [if_pos rfl] at K
      have H := K
      refine gN run_move rfl ?_
      obtain ⟨c9, k6, H⟩ := bnd H
      obtain ⟨g5, g6, g7⟩ := aF k6
      refine Tq.x (fun _ _ a c => ai oO (a.ev rfl) S (a.ev rfl) g5 g6) (Tq.x (fun _ _ a c => aO (cs := [iv c9.X, iv c9.Y]) lJ iK (a.ev rfl) (aC.take (Ab iV (k := 27) c rfl g7) 2) rfl) (gN run_move rfl (gN run_move rfl (ou eu rfl rfl ?_))))
      obtain ⟨b2, k7, H⟩ := bnd H
      obtain ⟨g8, g9, h0⟩ := aF k7
      refine Tq.x (fun _ _ a c => ai uz (a.ev rfl) F (a.ev rfl) g8 g9) (qb (U := (aW).Ad) (fun u => (aW).ok w.O w.W u b2) (fun u => (sL u.1 b2 u.2)) (wg rfl rfl rfl) rfl (BF (κ := 22) (t := aW) (V := fun u => (sL u.1 b2 u.2)) rfl h0 (fun _ _ u a hc => ah tq (a.ev rfl) hc rfl)) ?_)
      intro m8 e3
      obtain ⟨b5, b6⟩ := m8
      have G := e3
      replace G : Sl w.O w.W bE b5 b6 b2 := G
      dsimp only
      obtain ⟨d0, k8, H⟩ := bnd H
      obtain ⟨h1, h2, h3⟩ := aF k8
      refine Tq.x (fun _ _ a c => ai oO (a.ev rfl) G.form (a.ev rfl) h1 h2) (Tq.x (fun _ _ a c => aO (cs := [iv d0.X, iv d0.Y]) lJ iK (a.ev rfl) (aC.take (oM iV (G.rl) h3 c) 2) rfl) ?_)
      obtain ⟨d1, k9, H⟩ := bnd H
      refine kR (r := (bV d1)) (wg rfl rfl rfl) rfl Tryz.call85 (ak rfl (ak rfl aQ)) (fun W hW => pO c9 d0 d1 k9 (HF.start _)) (gN run_move rfl ?_)
      obtain ⟨m9, L, H⟩ := bnd H
      refine oF 25 [(3, sL b f d), (4, sL y D z), (5, sL q o v), (6, iv C), (9, sL g B j), (10, iv T), (53, bV true), (90, bV m9)] ?_ ?_
      ·cases a5 : d1
       ·rw [a5] at L
        rw [if_neg (by decide)] at L
        have H := L
        refine gN run_move rfl ?_
        obtain ⟨c5, l0, H⟩ := bnd H
        obtain ⟨h4, h5, h6⟩ := aF l0
        refine Tq.x (fun _ _ a c => ai oO (a.ev rfl) S (a.ev rfl) h4 h5) (Tq.x (fun _ _ a c => aO (cs := [iv c5.X, iv c5.Y]) lJ iK (a.ev rfl) (aC.take (Ab iV (k := 27) c rfl h6) 2) rfl) (gN run_move rfl (gN run_move rfl (ou eu rfl rfl ?_))))
        obtain ⟨b3, l1, H⟩ := bnd H
        obtain ⟨h7, h8, h9⟩ := aF l1
        refine Tq.x (fun _ _ a c => ai uz (a.ev rfl) F (a.ev rfl) h7 h8) (qb (U := (aW).Ad) (fun u => (aW).ok w.O w.W u b3) (fun u => (sL u.1 b3 u.2)) (wg rfl rfl rfl) rfl (BF (κ := 22) (t := aW) (V := fun u => (sL u.1 b3 u.2)) rfl h9 (fun _ _ u a hc => ah tq (a.ev rfl) hc rfl)) ?_)
        intro n0 e4
        obtain ⟨b7, b8⟩ := n0
        have I := e4
        replace I : Sl w.O w.W bE b7 b8 b3 := I
        dsimp only
        obtain ⟨c6, l3, H⟩ := bnd H
        obtain ⟨i0, i1, i2⟩ := aF l3
        refine Tq.x (fun _ _ a c => ai oO (a.ev rfl) I.form (a.ev rfl) i0 i1) (Tq.x (fun _ _ a c => aO (cs := [iv c6.X, iv c6.Y]) lJ iK (a.ev rfl) (aC.take (oM iV (I.rl) i2 c) 2) rfl) (ou (vQ c5 c6) rfl rfl (gN run_move rfl ?_)))
        obtain ⟨n1, M, H⟩ := bnd H
        refine oF 12 [(3, sL b f d), (4, sL y D z), (5, sL q o v), (6, iv C), (9, sL g B j), (10, iv T), (53, bV true), (65, bV false), (89, bV n1)] ?_ ?_
        ·cases a5 : (fB c5 c6)
         ·rw [a5] at M
          rw [if_neg (by decide)] at M
          have H := M
          obtain rfl := oI H
          refine bq rfl (bq rfl (bq rfl (bq rfl (bq rfl (bq rfl (bq rfl ?_))))))
          exact bq rfl (bq rfl (bq rfl (bq rfl (ou bv rfl rfl (Tq.fin (.r rfl))))))
         ·rw [a5] at M
          rw [if_pos rfl] at M
          have H := M
          refine gN run_move rfl (gN run_move rfl (ou eu rfl rfl ?_))
          obtain ⟨b4, l4, H⟩ := bnd H
          obtain ⟨i3, i4, i5⟩ := aF l4
          refine Tq.x (fun _ _ a c => ai uz (a.ev rfl) F (a.ev rfl) i3 i4) (qb (U := (aW).Ad) (fun u => (aW).ok w.O w.W u b4) (fun u => (sL u.1 b4 u.2)) (wg rfl rfl rfl) rfl (BF (κ := 22) (t := aW) (V := fun u => (sL u.1 b4 u.2)) rfl i5 (fun _ _ u a hc => ah tq (a.ev rfl) hc rfl)) ?_)
          intro n2 e5
          obtain ⟨b9, c0⟩ := n2
          have J := e5
          replace J : Sl w.O w.W bE b9 c0 b4 := J
          dsimp only
          obtain ⟨d2, l5, H⟩ := bnd H
          obtain ⟨i6, i7, i8⟩ := aF l5
          refine Tq.x (fun _ _ a c => ai oO (a.ev rfl) J.form (a.ev rfl) i6 i7) (Tq.x (fun _ _ a c => aO (cs := [iv d2.X, iv d2.Y]) lJ iK (a.ev rfl) (aC.take (oM iV (J.rl) i8 c) 2) rfl) (gN run_move rfl ?_))
          obtain ⟨d3, l6, H⟩ := bnd H
          obtain ⟨i9, j0, j1⟩ := aF l6
          refine Tq.x (fun _ _ a c => ai oO (a.ev rfl) S (a.ev rfl) i9 j0) (Tq.x (fun _ _ a c => aO (cs := [iv d3.X, iv d3.Y]) lJ iK (a.ev rfl) (aC.take (Ab iV (k := 27) c rfl j1) 2) rfl) ?_)
          obtain ⟨j2, l7, H⟩ := bnd H
          refine kR (r := (bV j2)) (wg rfl rfl rfl) rfl Tryz.call85 (ak rfl (ak rfl aQ)) (fun W hW => pO d2 d3 j2 l7 (HF.start _)) (ou bC rfl rfl ?_)
          obtain rfl := oI H
          exact Tq.fin (.r rfl)
        ·refine ou bv rfl rfl ?_
         obtain rfl := oI H
         exact Tq.fin (.r rfl)
       ·rw [a5] at L
        rw [if_pos rfl] at L
        have H := L
        obtain rfl := oI H
        refine bq rfl (bq rfl (bq rfl (bq rfl (bq rfl (bq rfl (bq rfl ?_))))))
        refine bq rfl (bq rfl (bq rfl (bq rfl (bq rfl (lL rfl (lL rfl ?_))))))
        refine lL rfl (lL rfl (lL rfl (lL rfl (lL rfl (lL rfl (lL rfl ?_))))))
        exact lL rfl (lL rfl (bq rfl (ou bC rfl rfl (Tq.fin (.r rfl)))))
      ·refine eP bC rfl rfl ?_
       obtain rfl := oI H
       exact Tq.fin (.r rfl)
    ·refine iJ (aa (aN rfl H (fun H => ?_) (fun H => ?_)))
     ·exact aK (aa (Tr.block (aD (av rfl (az eu rfl rfl (Tr.k rfl (ae (aH (aB g4 (bn (T - 1)) H (.r rfl) (.r rfl))))))))))
     ·refine bO (au (au (aM (aa (aj (Tr.k rfl (bS 28 43 aW ?_)))))))
      show Tr _ _ (uf _ 11 (sL none (([] : List (List aA))) 0)) _ _
      refine ae (aa (aj (av rfl (av rfl (av rfl ?_)))))
      obtain ⟨n3, d6, H⟩ := bnd H
      refine aP rfl (fun _ _ a c => zG uz (a.ev rfl) F (a.ev rfl) d6) (Tr.freeze 22 rfl fun w l8 a6 => ?_)
      replace E := E.trans l8
      obtain ⟨n4, l9, H⟩ := bnd H
      refine og 28 (t := aW) (l := ([] : List (List aA))) (l2 := n3) (wn rfl) rfl rfl rfl rfl (SV (Sl.pre a6 d6)) uV DL Dx (by decide) EN rfl l9 fun o4 o5 o0 => (Tr.k rfl (ae (aa (aj (av rfl (av rfl (Tr.freeze 27 rfl fun w d7 m0 => ?_)))))))
      replace a6 := a6.le d7
      replace E := E.trans d7
      refine dG 29 (e := 43) (vs := [(0, sL g B j)]) (cs := [sL g B j]) (wn rfl) rfl (bD rfl dL) (by kernel_rfl) fun p2 => ?_
      obtain ⟨n5, m1, H⟩ := bnd H
      refine Tr.append 28 (t := aW) (l := n4) (l2 := [B]) (wn rfl) rfl rfl rfl rfl (fun W hW => ⟨[[sL g B j]], (.cons ⟨(g, j), m0, rfl⟩ .nil), dZ hW (vs := [sL g B j]) (k := 29) rfl 0⟩) uV DL Dx (by decide) EN rfl m1 fun o6 o7 o2 => (Tr.k rfl (ae (aa (aD (av rfl (av rfl (av rfl ?_)))))))
      obtain ⟨n6, d8, H⟩ := bnd H
      refine aP rfl (fun _ _ a c => sH uz (a.ev rfl) a6.form (a.ev rfl) d8) ?_
      obtain ⟨n7, m2, H⟩ := bnd H
      exact og 28 (t := aW) (l := n5) (l2 := n6) (wn rfl) rfl rfl rfl rfl (SV (Sl.cut a6 d8)) uV DL Dx (by decide) EN rfl m2 fun m3 m4 j3 => (Tr.k rfl (ae (aH (aa (aD (av rfl (az aZ rfl rfl (Tr.k rfl (ae (zn 28 22 rfl rfl rfl (aB E (D, n7, (bn (C + 1)), y, z, m3, m4) ⟨H, a4, j3⟩ (.r rfl) (.r rfl))))))))))))
 ·refine bO (au (au (aM (aa (aj (av rfl (Tr.k rfl (ae (aa (bg ?_))))))))))
  obtain rfl := oI H
  exact Tr.out (m := [sL q o v]) [] (eU rfl dR) (fun W hW => ⟨w, (q, v), leB, rfl, F, hW.pick (ks := [22]) (by decide) (bA rfl bK)⟩)

theorem vD (N : Nat) {w : Bs} (p0 : (List aI)) (g : Option Addr) (i : Nat) (y : Sl w.R w.W bz g i p0) (r : ((List (List aA)) × Int)) (H : lC N p0 = some r) (hE : HF w w.W (kw [emp])) : Calls Tryz.prog 17 [sL g p0 i].toArray w.W fun e W' => ∃ (w' : Bs) (u : (Option Addr × Nat)), w.Le w' ∧ e = .returned (.tuple #[sL u.1 r.1 u.2, iv r.2]) ∧ (fC u.1 r.1.length u.2) ∧ HF w' W' (kw [ow u.1 u.2 43 aW r.1]) := by
 unfold lC at H
 have leB := Bs.Le.refl w
 refine bB (n := 31) Tryz.func17 rfl rfl rfl hE (aj (Tr.k rfl (bS 1 43 aW ?_)))
 show Tr _ _ (uf _ 2 (sL none (([] : List (List aA))) 0)) _ _
 refine Tr.k rfl (ae (aa (ay (aj (av rfl ?_)))))
 obtain ⟨o, I, H⟩ := bnd H
 refine dn (r := (iv o)) (wn rfl) rfl Tryz.call36 (ak rfl aQ) (fun W hW => tY N p0 g i (y.ext hW.dC) o I (HF.start _)) (Tr.k rfl (ae (aa (aj (av rfl (az kW rfl rfl (ae (aa (aN rfl H (fun H => ?_) (fun H => ?_))))))))))
 ·refine aj (av rfl (Tr.k rfl (bS 2 43 aW ?_)))
  show Tr _ _ (uf _ 2 (sL none (([] : List (List aA))) 0)) _ _
  refine Tr.k rfl (ae (aa (bg (aL ?_))))
  obtain rfl := oI H
  exact Tr.out (m := [sL none (([] : List (List aA))) 0, iv o]) [] (eU rfl (eU rfl dR)) (fun W hW => ⟨w, (none, 0), leB, rfl, iM, hW.pick (ks := [2]) (by decide) (bA rfl bK)⟩)
 ·refine aK (aa (aj (av rfl ?_)))
  obtain ⟨f, J, H⟩ := bnd H
  refine jl [3] [emp] (U := (Option Addr × Nat)) (fun u => (sL u.1 f u.2)) (fun O W u => fC u.1 f.length u.2) (fun u => [ow u.1 u.2 43 aW f]) rfl (bA rfl bK) (fun _ => rfl) (wn rfl) rfl Tryz.call37 (ak rfl aQ) (fun W hW hp hE => uF N p0 g i (y.ext (hW.mQ hp)) f J hE) ?_
  intro w u K hu
  obtain ⟨b, d⟩ := u
  have z := hu
  replace leB := leB.trans K
  have j : fC b f.length d := z --@phi
  dsimp only
  refine Tr.k rfl (ae (aa (aj (Tr.k rfl (ae (aa (ay (aj (Tr.k rfl (ae (aa (Tr.block (bT (σ := Int × Int) (fun m w s => gI f m s.1 s.2 = some r) (fun s => [(5, sL b f d), (6, iv s.1), (7, iv s.2)]) (fun s => [(3, ow b d 43 aW f)]) N (0, 0) H (.r rfl) (.r rfl) (fun _ _ h => fU (h)) ?_)))))))))))))
  intro w D Q s hs
  obtain ⟨q, v⟩ := s
  have H := hs
  replace H : gI f (Q + 1) q v = some r := H
  replace leB := leB.trans D
  rw [gI.eq_2] at H
  dsimp only
  refine ay (aj (av rfl (av rfl (aU (bi uV) rfl (az aX rfl rfl (ae (aa (aN rfl H (fun H => ?_) (fun H => ?_)))))))))
  ·refine aK (aa (ay (Tr.block (aD (av rfl (av rfl (av rfl ?_)))))))
   obtain ⟨l, L, H⟩ := bnd H
   obtain ⟨E, F, G⟩ := aF L
   refine aP rfl (fun _ _ a c => ai uz (a.ev rfl) j (a.ev rfl) E F) (Bt (U := (aW).Ad) (fun u => (aW).ok w.O w.W u l) (fun u => (sL u.1 l u.2)) (wn rfl) rfl (BF (κ := 3) (t := aW) (V := fun u => (sL u.1 l u.2)) rfl G (fun _ _ u a hc => ah tq (a.ev rfl) hc rfl)) ?_)
   intro P A
   obtain ⟨B, C⟩ := P
   have M := A
   dsimp only
   exact aU (bi qP) rfl (az aZ rfl rfl (Tr.k rfl (ae (aH (aa (aD (av rfl (az aZ rfl rfl (Tr.k rfl (ae (aB D ((bn (q + (l.length : Int))), (bn (v + 1))) H (.r rfl) (.r rfl))))))))))))
  ·refine bO (au (au (aM (aa (ay (aj (av rfl (az kX rfl rfl (ae (aa (aN rfl H (fun H => ?_) (fun H => ?_))))))))))))
   ·refine aj (Tr.k rfl (bS 4 43 aW ?_))
    show Tr _ _ (uf _ 2 (sL none (([] : List (List aA))) 0)) _ _
    refine Tr.k rfl (ae (aa (bg (aL ?_))))
    obtain rfl := oI H
    exact Tr.out (m := [sL none (([] : List (List aA))) 0, iv 2]) [] (eU rfl (eU rfl dR)) (fun W hW => ⟨w, (none, 0), leB, rfl, iM, hW.pick (ks := [4]) (by decide) (bA rfl bK)⟩)
   ·refine aK (aa (aj (av rfl (Tr.k rfl (Tr.k rfl (ae (aa (bg ?_))))))))
    obtain rfl := oI H
    exact Tr.out (m := [sL b f d, iv 0]) [] (eU rfl (eU rfl dR)) (fun W hW => ⟨w, (b, d), leB, rfl, j, hW.pick (ks := [3]) (by decide) (bA rfl bK)⟩)

theorem oG (N : Nat) {w : Bs} (p0 : (List aA)) (d : Option Addr) (f : Nat) (o : Sl w.R w.W bE d f p0) (r : Int) (H : kN N p0 = some r) (hE : HF w w.W E0) : Calls Tryz.prog 19 [sL d p0 f].toArray w.W fun e W' => e = .returned (iv r) ∧ HF w W' E0 := by
 unfold kN at H
 have leB := Bs.Le.refl w
 refine bB (n := 39) Tryz.func19 rfl rfl rfl hE (aj (Tr.k rfl (ae (aa (aj (Tr.k rfl (ae (aa (ay (aj (Tr.k rfl (ae (aa (Tr.block (bT (σ := Int × Int) (fun m w s => ig p0 m s.1 s.2 = some r) (fun s => [(0, sL d p0 f), (3, iv s.1), (4, iv s.2)]) (fun s => []) N (0, 0) H (.r rfl) .nil (fun _ _ h => fU (h)) ?_)))))))))))))))
 intro w B P s hs
 obtain ⟨z, g⟩ := s
 have H := hs
 replace H : ig p0 (P + 1) z g = some r := H
 replace o := o.qG B
 replace leB := leB.trans B
 rw [ig.eq_2] at H
 dsimp only
 refine ay (aj (av rfl (av rfl (aU (bi qP) rfl (az aX rfl rfl (ae (aa (aN rfl H (fun H => ?_) (fun H => ?_)))))))))
 ·refine aK (aa (ay (Tr.block (ay (oQ 15 [] [14] (by kernel_rfl) (by kernel_rfl) fun v C O => (aV 0 [(13, sL d p0 f)] (by kernel_rfl) rfl rfl (by kernel_rfl) ?_ rfl rfl ?_))))))
  ·exact bU rfl (Tq.fin (.r rfl))
  refine aV 1 [(14, iv g)] (by kernel_rfl) rfl rfl (by kernel_rfl) ?_ rfl rfl ?_
  ·exact bU rfl (Tq.fin (.r rfl))
  obtain ⟨i, K, H⟩ := bnd H
  obtain ⟨D, E, F⟩ := aF K
  refine aV 2 [(15, .pointer (some ⟨nY d, pF d + (g).toNat * 2, none⟩))] (by kernel_rfl) rfl rfl (by kernel_rfl) ?_ rfl rfl ?_
  ·exact aY rfl (fun _ _ a c => ai oO (a.ev rfl) o.form (a.ev rfl) D E) (Tq.fin (.r rfl))
  refine aV 3 [(16, .agg #[iv i.X, iv i.Y])] (by kernel_rfl) rfl rfl (by kernel_rfl) ?_ rfl rfl ?_
  ·exact aY rfl (fun _ _ a c => aO (cs := [iv i.X, iv i.Y]) lJ iK (a.ev rfl) (aC.take (oM iV o F c) 2) rfl) (Tq.fin (.r rfl))
  refine cu 4 (by kernel_rfl) rfl (wn rfl) rfl (by kernel_rfl) (fun _ _ a => run_move (a.ev rfl)) rfl (cu 5 (by kernel_rfl) rfl (wn rfl) rfl (by kernel_rfl) (fun _ _ a => run_move (a.ev rfl)) rfl (cu 6 (by kernel_rfl) rfl (wn rfl) rfl (by kernel_rfl) (fun _ _ a => aZ (a.ev rfl) (a.ev rfl)) rfl (cu 7 (by kernel_rfl) rfl (wn rfl) rfl (by kernel_rfl) (fun _ _ a => run_move (a.ev rfl)) rfl (cu 8 (by kernel_rfl) rfl (wn rfl) rfl (by kernel_rfl) (fun _ _ a => bi qP (a.ev rfl)) rfl ?_))))
  obtain ⟨A, L, H⟩ := bnd H
  refine cu 9 (by kernel_rfl) rfl (wn rfl) rfl (by kernel_rfl) (fun _ _ a => Eb (a.ev rfl) (a.ev rfl) L) rfl ?_
  obtain ⟨j, M, H⟩ := bnd H
  obtain ⟨G, I, J⟩ := aF M
  refine cu 10 (by kernel_rfl) rfl (wn rfl) rfl (by kernel_rfl) (fun _ _ a => ai oO (a.ev rfl) o.form (a.ev rfl) G I) rfl (oK 11 [(24, .agg #[iv j.X, iv j.Y])] [] true (by kernel_rfl) rfl rfl (by kernel_rfl) (fun W W' c hsW hk => HF.y8 (le := []) (ks := []) (s0 := v) true c hk (fun _ => C) .nil (fun b hb => hb.elim (fun ⟨_, hp, _⟩ => nomatch hp) (fun hb => .inr ⟨rfl, hb.2, (fun _ h => nomatch h)⟩)) (fun _ h => nomatch h) rfl) ?_ rfl rfl ?_)
  ·exact aY rfl (fun _ _ a c => aO (cs := [iv j.X, iv j.Y]) lJ iK (a.ev rfl) (aC.take (oM iV o J c) 2) rfl) (Tq.fin (.r rfl))
  refine Dr.cut (U := Nat × Nat) [12, 13] 1 (fun u => v ≤ u.1 ∧ v ≤ u.2) (fun u => [(0, sL d p0 f), (3, iv z), (4, iv g), (5, .pointer (some ⟨u.1, 0, none⟩)), (6, .pointer (some ⟨u.2, 0, none⟩)), (7, iv g), (8, sL d p0 f), (9, iv (p0.length : Int)), (10, bV (decide (g < (p0.length : Int)))), (13, sL d p0 f), (14, iv g), (15, .pointer (some ⟨nY d, pF d + (g).toNat * 2, none⟩)), (16, .agg #[iv i.X, iv i.Y]), (17, sL d p0 f), (18, iv g), (19, iv (bn (g + 1))), (20, sL d p0 f), (21, iv (p0.length : Int)), (22, iv A), (23, .pointer (some ⟨nY d, pF d + (A).toNat * 2, none⟩)), (24, .agg #[iv j.X, iv j.Y])]) (fun u => [(5, bx u.1 #[iv 0, iv 0] 47), (6, bx u.2 #[iv 0, iv 0] 47)]) ?_ ?_
  ·intro hC
   refine Dw 12 13 (by kernel_rfl) ?_ ?_
   ·exact St.alloc 12 5 rfl (wn rfl) rfl ui fun q l => (Dr.one 13 (by kernel_rfl) (St.alloc 13 6 rfl (wn rfl) rfl ui fun t y => ((hC ⟨q, t⟩ ⟨l, y⟩).use (by kernel_rfl) (.r rfl) (.r rfl))))
   ·exact St.alloc 13 6 rfl (wn rfl) rfl ui fun t y => (Dr.one 12 (by kernel_rfl) (St.alloc 12 5 rfl (wn rfl) rfl ui fun q l => ((hC ⟨q, t⟩ ⟨l, y⟩).use (by kernel_rfl) (.r rfl) (.r rfl))))
  intro u hu
  obtain ⟨q, t⟩ := u
  obtain ⟨l, y⟩ := hu
  replace l : v ≤ q := l
  dsimp only
  refine Dr.one 14 (by kernel_rfl) (zq 14 5 (cs := [iv i.X, iv i.Y]) [iv i.X, iv i.Y] rfl (wn rfl) (.inr ⟨by simp, l⟩) rfl rfl rfl rfl iK rfl rfl rfl (qN (by kernel_rfl) (dm 6 (cs := [iv j.X, iv j.Y]) [iv j.X, iv j.Y] (wn rfl) rfl rfl rfl rfl iK rfl rfl rfl (ae (aa (aD (av rfl (aU (ag oq) rfl (aP rfl (fun _ _ a c => ah bQ (a.ev rfl) (dZ c (vs := [iv i.X, iv i.Y]) (k := 5) rfl 0) rfl) (aU (ag mG) rfl (aP rfl (fun _ _ a c => ah bQ (a.ev rfl) (dZ c (vs := [iv j.X, iv j.Y]) (k := 6) rfl 1) rfl) (az rP rfl rfl (aU (ag oq) rfl (aP rfl (fun _ _ a c => ah bQ (a.ev rfl) (dZ c (vs := [iv j.X, iv j.Y]) (k := 6) rfl 0) rfl) ?_))))))))))))))
  exact aU (ag mG) rfl (aP rfl (fun _ _ a c => ah bQ (a.ev rfl) (dZ c (vs := [iv i.X, iv i.Y]) (k := 5) rfl 1) rfl) (az rP rfl rfl (az eu rfl rfl (az aZ rfl rfl (Tr.k rfl (ae (aH (aa (aD (av rfl (az aZ rfl rfl (Tr.k rfl (ae (aB B ((bn (z + (bn ((bn (i.X * j.Y)) - (bn (j.X * i.Y)))))), (bn (g + 1))) H (.r rfl) .nil))))))))))))))
 ·refine bO (au (au (aM (aa (aj (av rfl (Tr.k rfl (ae (aa (bg ?_))))))))))
  obtain rfl := oI H
  exact dM leB

theorem rX {w : Bs} (p0 : Int) (r : Int) (H : ni p0 = some r) (hE : HF w w.W E0) : Calls Tryz.prog 18 [iv p0].toArray w.W fun e W' => e = .returned (iv r) ∧ HF w W' E0 := by
 unfold ni at H
 have leB := Bs.Le.refl w
 refine bB (n := 7) Tryz.func18 rfl rfl rfl hE (aj (Tr.k rfl (ae (aa (aj (av rfl (av rfl (aU GI rfl (aP rfl (fun _ _ a c => AV (a.ev rfl) (a.ev rfl) _) (Tr.k rfl (ae (aa (bg ?_)))))))))))))
 obtain rfl := oI H
 exact dM leB

theorem mI {w : Bs} (p0 : Int) (p1 : Int) (p2 : Int) (r : Bool) (H : fV p0 p1 p2 = some r) (hE : HF w w.W E0) : Calls Tryz.prog 86 [iv p0, iv p1, iv p2].toArray w.W fun e W' => e = .returned (bV r) ∧ HF w W' E0 := by
 unfold fV at H
 have leB := Bs.Le.refl w
 refine bB (n := 15) Tryz.func86 rfl rfl rfl hE (aj (Tr.k rfl (ae (aa (aj (av rfl (av rfl (az tZ rfl rfl (av rfl (dW 4 [(14, bV ((decide (p1 ≤ p0)) && (decide (p0 ≤ p2))))] [] ?_ ?_))))))))))
 ·cases a : (decide (p1 ≤ p0))
  ·exact aS rfl (aS rfl (aS rfl (az bv rfl rfl (ae (bu (.r rfl) .nil)))))
  ·exact cz run_move rfl (cz run_move rfl (iZ nk rfl rfl (az bC rfl rfl (ae (bu (.r rfl) .nil)))))
 ·show Tr _ _ (LF [(14, bV ((decide (p1 ≤ p0)) && (decide (p0 ≤ p2))))]) (LE []) _
  refine Tr.k rfl (ae (aa (bg ?_)))
  obtain rfl := oI H
  exact dM leB

theorem rY {w : Bs} (p0 : Int) (p1 : Int) (r : Bool) (H : lS p0 p1 = some r) (hE : HF w w.W E0) : Calls Tryz.prog 128 [iv p0, iv p1].toArray w.W fun e W' => e = .returned (bV r) ∧ HF w W' E0 := by
 unfold lS at H
 have leB := Bs.Le.refl w
 refine bB (n := 13) Tryz.func128 rfl rfl rfl hE (aj (Tr.k rfl (ae (aa (aj (av rfl ?_))))))
 obtain ⟨b, g, H⟩ := bnd H
 refine dn (r := (bV b)) (wn rfl) rfl Tryz.call120 (ak rfl aQ) (fun W hW => lh p0 b g (HF.start _)) (av rfl ?_)
 obtain ⟨d, a, H⟩ := bnd H
 refine dW 5 [(12, bV d)] [] ?_ ?_
 ·cases c : b
  ·rw [c] at a
   rw [if_neg (by decide)] at a
   have H := a
   obtain rfl := oI H
   exact aS rfl (aS rfl (aS rfl (aS rfl (az bv rfl rfl (ae (bu (.r rfl) .nil))))))
  ·rw [c] at a
   rw [if_pos rfl] at a
   have H := a
   refine cz run_move rfl (cz run_move rfl (iZ rP rfl rfl ?_))
   obtain ⟨f, h, H⟩ := bnd H
   refine dn (r := (bV f)) (wg rfl rfl rfl) rfl Tryz.call120 (ak rfl aQ) (fun W hW => lh (bn (p0 * p1)) f h (HF.start _)) (az bC rfl rfl ?_)
   obtain rfl := oI H
   exact ae (bu (.r rfl) .nil)
 ·show Tr _ _ (LF [(12, bV d)]) (LE []) _
  refine Tr.k rfl (ae (aa (bg ?_)))
  obtain rfl := oI H
  exact dM leB

theorem wh (N : Nat) (rec : (List aJ) → Option Int) (hrec : ∀ {w : Bs} (p0 : (List aJ)) (b : Option Addr) (d : Nat) (f : Sl w.R w.W aT b d p0) (r : Int) (H : rec p0 = some r) (hE : HF w w.W E0), Calls Tryz.prog 89 [sL b p0 d].toArray w.W fun e W' => e = .returned (iv r) ∧ HF w W' E0) {w : Bs} (p0 : (List aJ)) (b : Option Addr) (d : Nat) (f : Sl w.R w.W aT b d p0) (r : Int) (H : pM N rec p0 = some r) (hE : HF w w.W E0) : Calls Tryz.prog 89 [sL b p0 d].toArray w.W fun e W' => e = .returned (iv r) ∧ HF w W' E0 := by
 unfold pM at H
 have leB := Bs.Le.refl w
 refine bB (n := 55) Tryz.func89 rfl rfl rfl hE (aj (Tr.k rfl (ae (aa (aj (Tr.k rfl (ae (aa (ay (aj (Tr.k rfl (ae (aa (Tr.block (bT (σ := Int × Int) (fun m w s => eF p0 rec m s.1 s.2 = some r) (fun s => [(0, sL b p0 d), (3, iv s.1), (4, iv s.2)]) (fun s => []) N (0, 0) H (.r rfl) .nil (fun _ _ h => fU (h)) ?_)))))))))))))))
 intro w l t s hs
 obtain ⟨i, g⟩ := s
 have H := hs
 replace H : eF p0 rec (t + 1) i g = some r := H
 replace f := f.qG l
 replace leB := leB.trans l
 rw [eF.eq_2] at H
 dsimp only
 refine ay (aj (av rfl (av rfl (aU (bi xn) rfl (az aX rfl rfl (av rfl (dW 3 [(0, sL b p0 d), (3, iv i), (4, iv g), (14, bV ((decide (g < (p0.length : Int))) && (decide (i ≤ 3000))))] [] ?_ ?_)))))))
 ·cases c9 : (decide (g < (p0.length : Int)))
  ·exact aS rfl (aS rfl (az bv rfl rfl (ae (bu (.r rfl) .nil))))
  ·exact cz run_move rfl (iZ nk rfl rfl (az bC rfl rfl (ae (bu (.r rfl) .nil))))
 ·show Tr _ _ (LF [(0, sL b p0 d), (3, iv i), (4, iv g), (14, bV ((decide (g < (p0.length : Int))) && (decide (i ≤ 3000))))]) (LE []) _
  refine ae (aa (aN rfl H (fun H => ?_) (fun H => ?_)))
  ·refine aK (aa (ay (Tr.block (aj (av rfl (az aZ rfl rfl (Tr.k rfl (ae (aa (aj (Tr.k rfl (Tr.k rfl (ae (aa ?_))))))))))))))
   have C := Bs.Le.refl w
   refine mH (σ := Unit) (fun w _ => lu p0 rec i g (eF p0 rec t) = some r) (fun _ => [(0, sL b p0 d), (3, iv (bn (i + 1))), (4, iv g), (5, iv 1), (6, iv 1)]) (fun _ => []) ?_ ?_
   ·refine aj (av rfl (av rfl ?_))
    obtain ⟨b2, a1, H⟩ := bnd H
    obtain ⟨D, E, F⟩ := aF a1
    obtain ⟨b3, G, z, I⟩ := (f).el F
    obtain ⟨⟨b7, b8⟩, ⟨b9, c0⟩⟩ := b3
    obtain ⟨a7, a8⟩ := lX.1 z
    refine aP rfl (fun _ _ a c => ai EJ (a.ev rfl) f.form (a.ev rfl) D E) (aU (ag Dk) rfl (aP rfl (fun _ _ a c => ah bQ (a.ev rfl) (aC.drop (yM G I c) 5) rfl) ?_))
    obtain ⟨J, a2, H⟩ := bnd H
    refine dn (r := (bV J)) (wn rfl) rfl Tryz.call86 (ak rfl (ak rfl (ak rfl aQ))) (fun W hW => mI b2.NX 1 100 J a2 (HF.start _)) (ae (aa (aN rfl H (fun H => ?_) (fun H => ?_))))
    ·cases H
    ·exact aK (aB C () H (.r rfl) .nil)
   ·intro w _ u hs
    have H := hs
    replace H : lu p0 rec i g (eF p0 rec t) = some r := H
    replace f := f.qG u
    replace l := l.trans u
    unfold lu at H
    show Tr _ _ (LF [(0, sL b p0 d), (3, iv (bn (i + 1))), (4, iv g), (5, iv 1), (6, iv 1)]) (LE []) _
    have K := Bs.Le.refl w
    refine mH (σ := Unit) (fun w _ => lv p0 rec i g (eF p0 rec t) = some r) (fun _ => [(0, sL b p0 d), (3, iv (bn (i + 1))), (4, iv g), (5, iv 1), (6, iv 1)]) (fun _ => []) ?_ ?_
    ·refine aj (av rfl (av rfl ?_))
     obtain ⟨b4, a3, H⟩ := bnd H
     obtain ⟨L, M, O⟩ := aF a3
     obtain ⟨b5, P, A, Q⟩ := (f).el O
     obtain ⟨⟨c3, c4⟩, ⟨c5, c6⟩⟩ := b5
     obtain ⟨a9, b0⟩ := lX.1 A
     refine aP rfl (fun _ _ a c => ai EJ (a.ev rfl) f.form (a.ev rfl) L M) (aU (ag Di) rfl (aP rfl (fun _ _ a c => ah bQ (a.ev rfl) (aC.drop (yM P Q c) 6) rfl) ?_))
     obtain ⟨S, a4, H⟩ := bnd H
     refine dn (r := (bV S)) (wn rfl) rfl Tryz.call86 (ak rfl (ak rfl (ak rfl aQ))) (fun W hW => mI b4.NY 1 100 S a4 (HF.start _)) (ae (aa (aN rfl H (fun H => ?_) (fun H => ?_))))
     ·cases H
     ·exact aK (aB K () H (.r rfl) .nil)
    ·intro w _ v hs
     have H := hs
     replace H : lv p0 rec i g (eF p0 rec t) = some r := H
     replace f := f.qG v
     replace l := l.trans v
     unfold lv at H
     show Tr _ _ (LF [(0, sL b p0 d), (3, iv (bn (i + 1))), (4, iv g), (5, iv 1), (6, iv 1)]) (LE []) _
     refine aD (av rfl (av rfl (av rfl (az rP rfl rfl (av rfl (av rfl ?_))))))
     obtain ⟨T, a5, H⟩ := bnd H
     obtain ⟨U, V, X⟩ := aF a5
     obtain ⟨b6, Z, B, a0⟩ := (f).el X
     obtain ⟨⟨c7, c8⟩, ⟨o, q⟩⟩ := b6
     obtain ⟨b1, j⟩ := lX.1 B
     replace j : Sl w.R w.W aT o q T.Steps := j
     refine aP rfl (fun _ _ a c => ai EJ (a.ev rfl) f.form (a.ev rfl) U V) (aU (ag Be) rfl (aP rfl (fun _ _ a c => ah uX (a.ev rfl) (aC.drop (yM Z a0 c) 7) rfl) ?_))
     obtain ⟨y, a6, H⟩ := bnd H
     exact dn (r := (iv y)) (wn rfl) rfl Tryz.call89 (ak rfl aQ) (fun W hW => hrec T.Steps o q (j.ext hW.dC) y a6 (HF.start _)) (az rP rfl rfl (az aZ rfl rfl (Tr.k rfl (ae (aH (aa (aD (av rfl (az aZ rfl rfl (Tr.k rfl (ae (aB l ((bn ((bn (i + 1)) + (bn ((bn (1 * 1)) * y)))), (bn (g + 1))) H (.r rfl) .nil))))))))))))
  ·refine bO (au (au (aM (aa (aj (av rfl (aP rfl (fun _ _ a c => GJ (a.ev rfl) (a.ev rfl) _) (Tr.k rfl (ae (aa (bg ?_)))))))))))
   obtain rfl := oI H
   exact dM leB
theorem rM : ∀ (N : Nat) {w : Bs} (p0 : (List aJ)) (a : Option Addr) (b : Nat) (c : Sl w.R w.W aT a b p0) (r : Int) (H : jS N p0 = some r) (hE : HF w w.W E0), Calls Tryz.prog 89 [sL a p0 b].toArray w.W fun e W' => e = .returned (iv r) ∧ HF w W' E0
 | 0 => by intros; rename_i H _; cases H
 | N + 1 => wh N (jS N) (rM N)

theorem wE {w : Bs} (p0 : aJ) (b : Option Addr) (d : Nat) (y : Sl w.R w.W bE b d p0.Points) (f : Option Addr) (g : Nat) (z : Sl w.R w.W aT f g p0.Steps) (r : Bool) (H : jc p0 = some r) (hE : HF w w.W E0) : Calls Tryz.prog 177 [.agg #[iv p0.Kind, sv p0.Name, iv p0.At.X, iv p0.At.Y, sL b p0.Points d, iv p0.NX, iv p0.NY, sL f p0.Steps g]].toArray w.W fun e W' => e = .returned (bV r) ∧ HF w W' E0 := by
 unfold jc at H
 have leB := Bs.Le.refl w
 refine bB (n := 62) Tryz.func177 rfl rfl rfl hE (aj (jN 1 (cs := [iv p0.Kind, sv p0.Name, iv p0.At.X, iv p0.At.Y, sL b p0.Points d, iv p0.NX, iv p0.NY, sL f p0.Steps g]) (wn rfl) rfl rfl rfl fun h => (Tr.k rfl (ae (aa (aj (Tr.k rfl (Tr.k rfl (Tr.k rfl (Tr.k rfl (ae (aa ?_))))))))))))
 have l := Bs.Le.refl w
 refine mH (σ := Bool × Bool) (fun w s => iQ p0 s.1 s.2 = some r) (fun s => [(1, pV h), (3, bV s.1), (4, bV false), (5, bV s.2), (6, bV false)]) (fun s => [(1, bx h #[iv p0.Kind, sv p0.Name, iv p0.At.X, iv p0.At.Y, sL b p0.Points d, iv p0.NX, iv p0.NY, sL f p0.Steps g] 53)]) ?_ ?_
 ·refine aj (aU (ag yc) rfl (aP rfl (fun _ _ a c => ah bQ (a.ev rfl) (dZ c (vs := [iv p0.Kind, sv p0.Name, iv p0.At.X, iv p0.At.Y, sL b p0.Points d, iv p0.NX, iv p0.NY, sL f p0.Steps g]) (k := 1) rfl 0) rfl) (ae (aa (Tr.block (aj (az iW rfl rfl (Tr.k rfl (ae (aa (aN rfl H (fun H => ?_) (fun H => ?_))))))))))))
  ·exact aD (Tr.k rfl (ae (aH (aB l (true, false) H (.r rfl) (.r rfl)))))
  ·have q := Bs.Le.refl w
   refine mH (σ := Bool) (fun w s => iP p0 s = some r) (fun s => [(1, pV h), (3, bV false), (4, bV false), (5, bV false), (6, bV false), (8, iv p0.Kind), (11, bV s)]) (fun s => [(1, bx h #[iv p0.Kind, sv p0.Name, iv p0.At.X, iv p0.At.Y, sL b p0.Points d, iv p0.NX, iv p0.NY, sL f p0.Steps g] 53)]) ?_ ?_
   ·refine aj (az iW rfl rfl (Tr.k rfl (ae (aa (aN rfl H (fun H => ?_) (fun H => ?_))))))
    ·exact aK (aB q (p0.Kind == 4) H (.r rfl) (.r rfl))
    ·refine aj (az iW rfl rfl (Tr.k rfl (ae (aa (aN rfl H (fun H => ?_) (fun H => ?_))))))
     ·exact aK (aB q (p0.Kind == 5) H (.r rfl) (.r rfl))
     ·exact aD (az iW rfl rfl (Tr.k rfl (ae (aB q (p0.Kind == 6) H (.r rfl) (.r rfl)))))
   ·intro w t u hs
    have H := hs
    replace H : iP p0 t = some r := H
    replace l := l.trans u
    unfold iP at H
    show Tr _ _ (LF [(1, pV h), (3, bV false), (4, bV false), (5, bV false), (6, bV false), (8, iv p0.Kind), (11, bV t)]) (LE [(1, bx h #[iv p0.Kind, sv p0.Name, iv p0.At.X, iv p0.At.Y, sL b p0.Points d, iv p0.NX, iv p0.NY, sL f p0.Steps g] 53)]) _
    refine aN rfl H (fun H => ?_) (fun H => ?_)
    ·cases H
    ·refine aj (az iW rfl rfl (Tr.k rfl (ae (aa (aN rfl H (fun H => ?_) (fun H => ?_))))))
     ·exact aD (Tr.k rfl (ae (aH (aB l (false, true) H (.r rfl) (.r rfl)))))
     ·refine aj (az iW rfl rfl (Tr.k rfl (ae (aa (aN rfl H (fun H => ?_) (fun H => ?_))))))
      ·cases H
      ·exact aK (aH (aB l (false, false) H (.r rfl) (.r rfl)))
 ·intro w s v hs
  obtain ⟨i, j⟩ := s
  have H := hs
  replace H : iQ p0 i j = some r := H
  replace leB := leB.trans v
  unfold iQ at H
  dsimp only
  refine aj (av rfl (av rfl (dW 4 [(1, pV h), (4, bV false), (5, bV j), (6, bV false), (24, bV (i || (yL p0.Name ByteArray.empty)))] [(1, bx h #[iv p0.Kind, sv p0.Name, iv p0.At.X, iv p0.At.Y, sL b p0.Points d, iv p0.NX, iv p0.NY, sL f p0.Steps g] 53)] ?_ ?_)))
  ·cases o : i
   ·exact cz (ag Dn) rfl (Tr.x (fun _ _ a c => ah P5 (a.ev rfl) (dZ c (vs := [iv p0.Kind, sv p0.Name, iv p0.At.X, iv p0.At.Y, sL b p0.Points d, iv p0.NX, iv p0.NY, sL f p0.Steps g]) (k := 1) rfl 1) rfl) (iZ Im rfl rfl (az bv rfl rfl (ae (bu (.r rfl) (.r rfl))))))
   ·exact aS rfl (aS rfl (aS rfl (az bC rfl rfl (ae (bu (.r rfl) (.r rfl))))))
  ·show Tr _ _ (LF [(1, pV h), (4, bV false), (5, bV j), (6, bV false), (24, bV (i || (yL p0.Name ByteArray.empty)))]) (LE [(1, bx h #[iv p0.Kind, sv p0.Name, iv p0.At.X, iv p0.At.Y, sL b p0.Points d, iv p0.NX, iv p0.NY, sL f p0.Steps g] 53)]) _
   refine av rfl (dW 8 [(1, pV h), (5, bV j), (6, bV false), (33, bV ((i || (yL p0.Name ByteArray.empty)) && (fB p0.At (aA.mk 0 0))))] [(1, bx h #[iv p0.Kind, sv p0.Name, iv p0.At.X, iv p0.At.Y, sL b p0.Points d, iv p0.NX, iv p0.NY, sL f p0.Steps g] 53)] ?_ ?_)
   ·cases o : (i || (yL p0.Name ByteArray.empty))
    ·refine aS rfl (aS rfl (lK rfl (lK rfl (lK rfl (lK rfl (aS rfl ?_))))))
     exact az bv rfl rfl (ae (bu (.r rfl) (.r rfl)))
    ·refine cz run_move rfl (cz run_move rfl (cz (ag Dm) rfl (Tr.x (fun _ _ a c => aO (cs := [iv p0.At.X, iv p0.At.Y]) lJ iK (a.ev rfl) (aC.take (dZ c (vs := [iv p0.Kind, sv p0.Name, iv p0.At.X, iv p0.At.Y, sL b p0.Points d, iv p0.NX, iv p0.NY, sL f p0.Steps g]) (k := 1) rfl 2) 2) rfl) (ja (vs := []) (cs := [iv 0, iv 0]) (wg rfl rfl rfl) rfl dL (by kernel_rfl) (Md (wg rfl rfl rfl) rfl (vQ p0.At (aA.mk 0 0)) rfl rfl (iZ bv rfl rfl ?_))))))
     exact az bC rfl rfl (ae (bu (.r rfl) (.r rfl)))
   ·show Tr _ _ (LF [(1, pV h), (5, bV j), (6, bV false), (33, bV ((i || (yL p0.Name ByteArray.empty)) && (fB p0.At (aA.mk 0 0))))]) (LE [(1, bx h #[iv p0.Kind, sv p0.Name, iv p0.At.X, iv p0.At.Y, sL b p0.Points d, iv p0.NX, iv p0.NY, sL f p0.Steps g] 53)]) _
    refine av rfl (dW 8 [(1, pV h), (6, bV false), (42, bV (((i || (yL p0.Name ByteArray.empty)) && (fB p0.At (aA.mk 0 0))) && (j || ((p0.Points.length : Int) == 0))))] [(1, bx h #[iv p0.Kind, sv p0.Name, iv p0.At.X, iv p0.At.Y, sL b p0.Points d, iv p0.NX, iv p0.NY, sL f p0.Steps g] 53)] ?_ ?_)
    ·cases o : ((i || (yL p0.Name ByteArray.empty)) && (fB p0.At (aA.mk 0 0)))
     ·refine aS rfl (aS rfl (lK rfl (lK rfl (lK rfl (lK rfl (aS rfl ?_))))))
      exact az bv rfl rfl (ae (bu (.r rfl) (.r rfl)))
     ·refine cz run_move rfl (cz run_move rfl (dW 5 [(1, pV h), (6, bV false), (34, bV true), (41, bV (j || ((p0.Points.length : Int) == 0)))] [(1, bx h #[iv p0.Kind, sv p0.Name, iv p0.At.X, iv p0.At.Y, sL b p0.Points d, iv p0.NX, iv p0.NY, sL f p0.Steps g] 53)] ?_ ?_))
      ·cases o : j
       ·exact cz (ag Dl) rfl (Tr.x (fun _ _ a c => ah tq (a.ev rfl) (dZ c (vs := [iv p0.Kind, sv p0.Name, iv p0.At.X, iv p0.At.Y, sL b p0.Points d, iv p0.NX, iv p0.NY, sL f p0.Steps g]) (k := 1) rfl 4) rfl) (cz (bi qP) rfl (iZ iW rfl rfl (iZ bv rfl rfl (ae (bu (.r rfl) (.r rfl)))))))
       ·exact aS rfl (aS rfl (aS rfl (aS rfl (iZ bC rfl rfl (ae (bu (.r rfl) (.r rfl)))))))
      ·dsimp only
       exact az bC rfl rfl (ae (bu (.r rfl) (.r rfl)))
    ·show Tr _ _ (LF [(1, pV h), (6, bV false), (42, bV (((i || (yL p0.Name ByteArray.empty)) && (fB p0.At (aA.mk 0 0))) && (j || ((p0.Points.length : Int) == 0))))]) (LE [(1, bx h #[iv p0.Kind, sv p0.Name, iv p0.At.X, iv p0.At.Y, sL b p0.Points d, iv p0.NX, iv p0.NY, sL f p0.Steps g] 53)]) _
     refine av rfl (dW 18 [(61, bV ((((i || (yL p0.Name ByteArray.empty)) && (fB p0.At (aA.mk 0 0))) && (j || ((p0.Points.length : Int) == 0))) && (((p0.NX == 0) && (p0.NY == 0)) && ((p0.Steps.length : Int) == 0))))] [(1, bx h #[iv p0.Kind, sv p0.Name, iv p0.At.X, iv p0.At.Y, sL b p0.Points d, iv p0.NX, iv p0.NY, sL f p0.Steps g] 53)] ?_ ?_)
     ·cases o : (((i || (yL p0.Name ByteArray.empty)) && (fB p0.At (aA.mk 0 0))) && (j || ((p0.Points.length : Int) == 0)))
      ·refine aS rfl (aS rfl (lK rfl (lK rfl (lK rfl (lK rfl (lK rfl ?_))))))
       refine lK rfl (lK rfl (lK rfl (lK rfl (lK rfl (lK rfl (lK rfl ?_))))))
       exact lK rfl (lK rfl (aS rfl (az bv rfl rfl (ae (bu (.r rfl) (.r rfl))))))
      ·refine cz run_move rfl (cz run_move rfl (cz (ag Dk) rfl (Tr.x (fun _ _ a c => ah bQ (a.ev rfl) (dZ c (vs := [iv p0.Kind, sv p0.Name, iv p0.At.X, iv p0.At.Y, sL b p0.Points d, iv p0.NX, iv p0.NY, sL f p0.Steps g]) (k := 1) rfl 5) rfl) (iZ iW rfl rfl (cz run_move rfl (dW 4 [(1, pV h), (43, bV true), (45, bV false), (53, bV ((p0.NX == 0) && (p0.NY == 0)))] [(1, bx h #[iv p0.Kind, sv p0.Name, iv p0.At.X, iv p0.At.Y, sL b p0.Points d, iv p0.NX, iv p0.NY, sL f p0.Steps g] 53)] ?_ ?_))))))
       ·cases o : (p0.NX == 0)
        ·exact aS rfl (aS rfl (aS rfl (iZ bv rfl rfl (ae (bu (.r rfl) (.r rfl))))))
        ·exact cz (ag Di) rfl (Tr.x (fun _ _ a c => ah bQ (a.ev rfl) (dZ c (vs := [iv p0.Kind, sv p0.Name, iv p0.At.X, iv p0.At.Y, sL b p0.Points d, iv p0.NX, iv p0.NY, sL f p0.Steps g]) (k := 1) rfl 6) rfl) (iZ iW rfl rfl (iZ bC rfl rfl (ae (bu (.r rfl) (.r rfl))))))
       ·dsimp only
        refine cz run_move rfl (dW 5 [(43, bV true), (45, bV false), (59, bV (((p0.NX == 0) && (p0.NY == 0)) && ((p0.Steps.length : Int) == 0)))] [(1, bx h #[iv p0.Kind, sv p0.Name, iv p0.At.X, iv p0.At.Y, sL b p0.Points d, iv p0.NX, iv p0.NY, sL f p0.Steps g] 53)] ?_ ?_)
        ·cases o : ((p0.NX == 0) && (p0.NY == 0))
         ·exact aS rfl (aS rfl (aS rfl (aS rfl (iZ bv rfl rfl (ae (bu (.r rfl) (.r rfl)))))))
         ·exact cz (ag Be) rfl (Tr.x (fun _ _ a c => ah uX (a.ev rfl) (dZ c (vs := [iv p0.Kind, sv p0.Name, iv p0.At.X, iv p0.At.Y, sL b p0.Points d, iv p0.NX, iv p0.NY, sL f p0.Steps g]) (k := 1) rfl 7) rfl) (cz (bi xn) rfl (iZ iW rfl rfl (iZ bC rfl rfl (ae (bu (.r rfl) (.r rfl)))))))
        ·dsimp only
         exact iZ bv rfl rfl (az bC rfl rfl (ae (bu (.r rfl) (.r rfl))))
     ·show Tr _ _ (LF [(61, bV ((((i || (yL p0.Name ByteArray.empty)) && (fB p0.At (aA.mk 0 0))) && (j || ((p0.Points.length : Int) == 0))) && (((p0.NX == 0) && (p0.NY == 0)) && ((p0.Steps.length : Int) == 0))))]) (LE [(1, bx h #[iv p0.Kind, sv p0.Name, iv p0.At.X, iv p0.At.Y, sL b p0.Points d, iv p0.NX, iv p0.NY, sL f p0.Steps g] 53)]) _
      refine Tr.k rfl (ae (aa (bg ?_)))
      obtain rfl := oI H
      exact dM leB

theorem xL {w : Bs} (p0 : gK) (a : Option Addr) (b : Nat) (f : Sl w.R w.W eD a b p0.Tools) (c : Option Addr) (d : Nat) (g : Sl w.R w.W aT c d p0.Steps) (p1 : ByteArray) (r : Int) (H : rf p0 p1 = some r) (hE : HF w w.W E0) : Calls Tryz.prog 178 [.agg #[iv p0.Unit, sL a p0.Tools b, sL c p0.Steps d], sv p1].toArray w.W fun e W' => e = .returned (iv r) ∧ HF w W' E0 := by
 unfold rf at H
 refine bB (n := 22) Tryz.func178 rfl rfl rfl hE (ay ?_)
 cases H

theorem qE {w : Bs} (p0 : aA) (p1 : Int) (r : Bool) (H : ic p0 p1 = some r) (hE : HF w w.W E0) : Calls Tryz.prog 179 [.agg #[iv p0.X, iv p0.Y], iv p1].toArray w.W fun e W' => e = .returned (bV r) ∧ HF w W' E0 := by
 unfold ic at H
 have leB := Bs.Le.refl w
 refine bB (n := 15) Tryz.func179 rfl rfl rfl hE (aj (jN 1 (cs := [iv p0.X, iv p0.Y]) (wn rfl) rfl rfl rfl fun g => (Tr.k rfl (ae (aa (aj (aU (ag oq) rfl (aP rfl (fun _ _ a c => ah bQ (a.ev rfl) (dZ c (vs := [iv p0.X, iv p0.Y]) (k := 1) rfl 0) rfl) (av rfl ?_)))))))))
 obtain ⟨d, j, H⟩ := bnd H
 refine dn (r := (bV d)) (wn rfl) rfl Tryz.call128 (ak rfl (ak rfl aQ)) (fun W hW => rY p0.X p1 d j (HF.start _)) (av rfl ?_)
 obtain ⟨h, b, H⟩ := bnd H
 refine dW 5 [(14, bV h)] [(1, bx g #[iv p0.X, iv p0.Y] 47)] ?_ ?_
 ·cases f : d
  ·rw [f] at b
   rw [if_neg (by decide)] at b
   have H := b
   obtain rfl := oI H
   exact aS rfl (aS rfl (aS rfl (aS rfl (az bv rfl rfl (ae (bu (.r rfl) (.r rfl)))))))
  ·rw [f] at b
   rw [if_pos rfl] at b
   have H := b
   refine cz (ag mG) rfl (Tr.x (fun _ _ a c => ah bQ (a.ev rfl) (dZ c (vs := [iv p0.X, iv p0.Y]) (k := 1) rfl 1) rfl) (cz run_move rfl ?_))
   obtain ⟨i, l, H⟩ := bnd H
   refine dn (r := (bV i)) (wg rfl rfl rfl) rfl Tryz.call128 (ak rfl (ak rfl aQ)) (fun W hW => rY p0.Y p1 i l (HF.start _)) (az bC rfl rfl ?_)
   obtain rfl := oI H
   exact ae (bu (.r rfl) (.r rfl))
 ·show Tr _ _ (LF [(14, bV h)]) (LE [(1, bx g #[iv p0.X, iv p0.Y] 47)]) _
  refine Tr.k rfl (ae (aa (bg ?_)))
  obtain rfl := oI H
  exact dM leB

theorem uQ (N : Nat) {w : Bs} (p0 : (List aA)) (d : Option Addr) (f : Nat) (l : Sl w.R w.W bE d f p0) (p1 : Int) (r : Int) (H : jE N p0 p1 = some r) (hE : HF w w.W E0) : Calls Tryz.prog 180 [sL d p0 f, iv p1].toArray w.W fun e W' => e = .returned (iv r) ∧ HF w W' E0 := by
 unfold jE at H
 have leB := Bs.Le.refl w
 refine bB (n := 57) Tryz.func180 rfl rfl rfl hE (aj (Tr.k rfl (ae (aa (ay (aj (Tr.k rfl (ae (aa (Tr.block (bT (σ := Int) (fun m w s => gu N p0 p1 m s = some r) (fun s => [(0, sL d p0 f), (1, iv p1), (5, iv s)]) (fun s => []) N 0 H (.r rfl) .nil (fun _ _ h => fU (h)) ?_)))))))))))
 intro w A a2 B hs
 have H := hs
 replace H : gu N p0 p1 (a2 + 1) B = some r := H
 replace l := l.qG A
 replace leB := leB.trans A
 rw [gu.eq_2] at H
 show Tr _ _ (LF [(0, sL d p0 f), (1, iv p1), (5, iv B)]) (LE []) _
 refine ay (aj (av rfl (av rfl (aU (bi qP) rfl (az aX rfl rfl (ae (aa (aN rfl H (fun H => ?_) (fun H => ?_)))))))))
 ·refine aK (aa (ay (Tr.block (aj (av rfl (av rfl ?_))))))
  obtain ⟨C, S, H⟩ := bnd H
  obtain ⟨F, G, I⟩ := aF S
  refine aP rfl (fun _ _ a c => ai oO (a.ev rfl) l.form (a.ev rfl) F G) (aP rfl (fun _ _ a c => aO (cs := [iv C.X, iv C.Y]) lJ iK (a.ev rfl) (aC.take (oM iV l I c) 2) rfl) (av rfl ?_))
  obtain ⟨J, T, H⟩ := bnd H
  refine dn (r := (bV J)) (wn rfl) rfl Tryz.call179 (ak rfl (ak rfl aQ)) (fun W hW => qE C p1 J T (HF.start _)) (aU jP rfl (ae (aa (aN rfl H (fun H => ?_) (fun H => ?_)))))
  ·refine aj (Tr.k rfl (ae (aa (bg (cB (aL (aL (cB (aL ?_)))))))))
   obtain rfl := oI H
   exact dM leB
  ·exact aK (aH (aa (aD (av rfl (az aZ rfl rfl (Tr.k rfl (ae (aB A (bn (B + 1)) H (.r rfl) .nil))))))))
 ·refine bO (au (au (aM (aa (ay (aj (av rfl (aU (bi qP) rfl (az kX rfl rfl (ae (aa (aN rfl H (fun H => ?_) (fun H => ?_)))))))))))))
  ·refine aj (Tr.k rfl (ae (aa (bg (aL ?_)))))
   obtain rfl := oI H
   exact dM leB
  ·refine aK (aa (ay (aj (av rfl (aU (bi qP) rfl (az aX rfl rfl (ae (aa (aN rfl H (fun H => ?_) (fun H => ?_))))))))))
   ·refine aj (Tr.k rfl (ae (aa (bg (aL ?_)))))
    obtain rfl := oI H
    exact dM leB
   ·refine aK (aa (ay (aj (Tr.k rfl (ae (aa (Tr.block (bT (σ := Int) (fun m w s => gq p0 m s = some r) (fun s => [(0, sL d p0 f), (6, iv s)]) (fun s => []) N 0 H (.r rfl) .nil (fun _ _ h => fU (h)) ?_))))))))
    intro w D a3 g hs
    have H := hs
    replace H : gq p0 (a3 + 1) g = some r := H
    replace l := l.qG D
    replace leB := leB.trans D
    rw [gq.eq_2] at H
    show Tr _ _ (LF [(0, sL d p0 f), (6, iv g)]) (LE []) _
    refine ay (aj (av rfl (av rfl (aU (bi qP) rfl (az aX rfl rfl (ae (aa (aN rfl H (fun H => ?_) (fun H => ?_)))))))))
    ·refine aK (aa (ay (Tr.block (ay (oQ 15 [] [14] (by kernel_rfl) (by kernel_rfl) fun v E a1 => (aV 0 [(34, sL d p0 f)] (by kernel_rfl) rfl rfl (by kernel_rfl) ?_ rfl rfl ?_))))))
     ·exact bU rfl (Tq.fin (.r rfl))
     refine aV 1 [(35, iv g)] (by kernel_rfl) rfl rfl (by kernel_rfl) ?_ rfl rfl ?_
     ·exact bU rfl (Tq.fin (.r rfl))
     obtain ⟨i, V, H⟩ := bnd H
     obtain ⟨K, L, M⟩ := aF V
     refine aV 2 [(36, .pointer (some ⟨nY d, pF d + (g).toNat * 2, none⟩))] (by kernel_rfl) rfl rfl (by kernel_rfl) ?_ rfl rfl ?_
     ·exact aY rfl (fun _ _ a c => ai oO (a.ev rfl) l.form (a.ev rfl) K L) (Tq.fin (.r rfl))
     refine aV 3 [(37, .agg #[iv i.X, iv i.Y])] (by kernel_rfl) rfl rfl (by kernel_rfl) ?_ rfl rfl ?_
     ·exact aY rfl (fun _ _ a c => aO (cs := [iv i.X, iv i.Y]) lJ iK (a.ev rfl) (aC.take (oM iV l M c) 2) rfl) (Tq.fin (.r rfl))
     refine cu 4 (by kernel_rfl) rfl (wn rfl) rfl (by kernel_rfl) (fun _ _ a => run_move (a.ev rfl)) rfl (cu 5 (by kernel_rfl) rfl (wn rfl) rfl (by kernel_rfl) (fun _ _ a => run_move (a.ev rfl)) rfl (cu 6 (by kernel_rfl) rfl (wn rfl) rfl (by kernel_rfl) (fun _ _ a => aZ (a.ev rfl) (a.ev rfl)) rfl (cu 7 (by kernel_rfl) rfl (wn rfl) rfl (by kernel_rfl) (fun _ _ a => run_move (a.ev rfl)) rfl (cu 8 (by kernel_rfl) rfl (wn rfl) rfl (by kernel_rfl) (fun _ _ a => bi qP (a.ev rfl)) rfl ?_))))
     obtain ⟨z, Z, H⟩ := bnd H
     refine cu 9 (by kernel_rfl) rfl (wn rfl) rfl (by kernel_rfl) (fun _ _ a => Eb (a.ev rfl) (a.ev rfl) Z) rfl ?_
     obtain ⟨j, a0, H⟩ := bnd H
     obtain ⟨O, P, Q⟩ := aF a0
     refine cu 10 (by kernel_rfl) rfl (wn rfl) rfl (by kernel_rfl) (fun _ _ a => ai oO (a.ev rfl) l.form (a.ev rfl) O P) rfl (oK 11 [(45, .agg #[iv j.X, iv j.Y])] [] true (by kernel_rfl) rfl rfl (by kernel_rfl) (fun W W' c hsW hk => HF.y8 (le := []) (ks := []) (s0 := v) true c hk (fun _ => E) .nil (fun b hb => hb.elim (fun ⟨_, hp, _⟩ => nomatch hp) (fun hb => .inr ⟨rfl, hb.2, (fun _ h => nomatch h)⟩)) (fun _ h => nomatch h) rfl) ?_ rfl rfl ?_)
     ·exact aY rfl (fun _ _ a c => aO (cs := [iv j.X, iv j.Y]) lJ iK (a.ev rfl) (aC.take (oM iV l Q c) 2) rfl) (Tq.fin (.r rfl))
     refine Dr.cut (U := Nat × Nat) [12, 13] 1 (fun u => v ≤ u.1 ∧ v ≤ u.2) (fun u => [(0, sL d p0 f), (6, iv g), (7, .pointer (some ⟨u.1, 0, none⟩)), (8, .pointer (some ⟨u.2, 0, none⟩)), (28, iv g), (29, sL d p0 f), (30, iv (p0.length : Int)), (31, bV (decide (g < (p0.length : Int)))), (34, sL d p0 f), (35, iv g), (36, .pointer (some ⟨nY d, pF d + (g).toNat * 2, none⟩)), (37, .agg #[iv i.X, iv i.Y]), (38, sL d p0 f), (39, iv g), (40, iv (bn (g + 1))), (41, sL d p0 f), (42, iv (p0.length : Int)), (43, iv z), (44, .pointer (some ⟨nY d, pF d + (z).toNat * 2, none⟩)), (45, .agg #[iv j.X, iv j.Y])]) (fun u => [(5, bx u.1 #[iv 0, iv 0] 47), (6, bx u.2 #[iv 0, iv 0] 47)]) ?_ ?_
     ·intro hC
      refine Dw 12 13 (by kernel_rfl) ?_ ?_
      ·exact St.alloc 12 5 rfl (wn rfl) rfl ui fun q o => (Dr.one 13 (by kernel_rfl) (St.alloc 13 6 rfl (wn rfl) rfl ui fun t y => ((hC ⟨q, t⟩ ⟨o, y⟩).use (by kernel_rfl) (.r rfl) (.r rfl))))
      ·exact St.alloc 13 6 rfl (wn rfl) rfl ui fun t y => (Dr.one 12 (by kernel_rfl) (St.alloc 12 5 rfl (wn rfl) rfl ui fun q o => ((hC ⟨q, t⟩ ⟨o, y⟩).use (by kernel_rfl) (.r rfl) (.r rfl))))
     intro u hu
     obtain ⟨q, t⟩ := u
     obtain ⟨o, y⟩ := hu
     replace o : v ≤ q := o
     dsimp only
     refine Dr.one 14 (by kernel_rfl) (zq 14 5 (cs := [iv i.X, iv i.Y]) [iv i.X, iv i.Y] rfl (wn rfl) (.inr ⟨by simp, o⟩) rfl rfl rfl rfl iK rfl rfl rfl (qN (by kernel_rfl) (dm 6 (cs := [iv j.X, iv j.Y]) [iv j.X, iv j.Y] (wn rfl) rfl rfl rfl rfl iK rfl rfl rfl (ae (aa (aj (aU (ag oq) rfl (aP rfl (fun _ _ a c => ah bQ (a.ev rfl) (dZ c (vs := [iv i.X, iv i.Y]) (k := 5) rfl 0) rfl) (aU (ag oq) rfl (aP rfl (fun _ _ a c => ah bQ (a.ev rfl) (dZ c (vs := [iv j.X, iv j.Y]) (k := 6) rfl 0) rfl) (az iW rfl rfl (aU (ag mG) rfl (aP rfl (fun _ _ a c => ah bQ (a.ev rfl) (dZ c (vs := [iv i.X, iv i.Y]) (k := 5) rfl 1) rfl) ?_)))))))))))))
     refine aU (ag mG) rfl (aP rfl (fun _ _ a c => ah bQ (a.ev rfl) (dZ c (vs := [iv j.X, iv j.Y]) (k := 6) rfl 1) rfl) (az iW rfl rfl (az (NA RL) rfl rfl (ae (aa (aN rfl H (fun H => ?_) (fun H => ?_)))))))
     ·refine aj (Tr.k rfl (ae (aa (bg (cB (aL (aL (cB (aL ?_)))))))))
      obtain rfl := oI H
      exact dM leB
     ·exact aK (aH (aa (aD (av rfl (az aZ rfl rfl (Tr.k rfl (ae (aB D (bn (g + 1)) H (.r rfl) .nil))))))))
    ·refine bO (au (au (aM (aa (aj (Tr.k rfl (ae (aa (bg ?_)))))))))
     obtain rfl := oI H
     exact dM leB

theorem uP (N : Nat) {w : Bs} (p0 : gK) (h : Option Addr) (i : Nat) (F : Sl w.R w.W eD h i p0.Tools) (j : Option Addr) (l : Nat) (G : Sl w.R w.W aT j l p0.Steps) (p1 : aJ) (b : Option Addr) (d : Nat) (t : Sl w.R w.W bE b d p1.Points) (f : Option Addr) (g : Nat) (I : Sl w.R w.W aT f g p1.Steps) (p2 : Int) (r : Int) (H : gB N p0 p1 p2 = some r) (hE : HF w w.W E0) : Calls Tryz.prog 129 [.agg #[iv p0.Unit, sL h p0.Tools i, sL j p0.Steps l], .agg #[iv p1.Kind, sv p1.Name, iv p1.At.X, iv p1.At.Y, sL b p1.Points d, iv p1.NX, iv p1.NY, sL f p1.Steps g], iv p2].toArray w.W fun e W' => e = .returned (iv r) ∧ HF w W' E0 := by
 unfold gB at H
 have leB := Bs.Le.refl w
 refine bB (n := 57) Tryz.func129 rfl rfl rfl hE (aj (jN 1 (cs := [iv p0.Unit, sL h p0.Tools i, sL j p0.Steps l]) (wn rfl) rfl rfl rfl fun q => (jN 2 (cs := [iv p1.Kind, sv p1.Name, iv p1.At.X, iv p1.At.Y, sL b p1.Points d, iv p1.NX, iv p1.NY, sL f p1.Steps g]) (wn rfl) rfl rfl rfl fun s => (Tr.k rfl (ae (aa (ay (aj (aU (ag yc) rfl (aP rfl (fun _ _ a c => ah bQ (a.ev rfl) (dZ c (vs := [iv p1.Kind, sv p1.Name, iv p1.At.X, iv p1.At.Y, sL b p1.Points d, iv p1.NX, iv p1.NY, sL f p1.Steps g]) (k := 2) rfl 0) rfl) ?_))))))))))
 obtain ⟨v, J, H⟩ := bnd H
 refine dn (r := (bV v)) (wn rfl) rfl Tryz.call86 (ak rfl (ak rfl (ak rfl aQ))) (fun W hW => mI p1.Kind 1 8 v J (HF.start _)) (aU jP rfl (ae (aa (aN rfl H (fun H => ?_) (fun H => ?_)))))
 ·refine aj (Tr.k rfl (ae (aa (bg (aL ?_)))))
  obtain rfl := oI H
  exact dM leB
 ·refine aK (aa (ay (aj (aP rfl (fun _ _ a c => aO (cs := [iv p1.Kind, sv p1.Name, iv p1.At.X, iv p1.At.Y, sL b p1.Points d, iv p1.NX, iv p1.NY, sL f p1.Steps g]) Ma zY (a.ev rfl) (aC.take (dZ c (vs := [iv p1.Kind, sv p1.Name, iv p1.At.X, iv p1.At.Y, sL b p1.Points d, iv p1.NX, iv p1.NY, sL f p1.Steps g]) (k := 2) rfl 0) 8) rfl) ?_))))
  obtain ⟨y, K, H⟩ := bnd H
  refine dn (r := (bV y)) (wn rfl) rfl Tryz.call177 (ak rfl aQ) (fun W hW => wE p1 b d (t.ext hW.dC) f g (I.ext hW.dC) y K (HF.start _)) (aU jP rfl (ae (aa (aN rfl H (fun H => ?_) (fun H => ?_)))))
  ·refine aj (Tr.k rfl (ae (aa (bg (aL ?_)))))
   obtain rfl := oI H
   exact dM leB
  ·refine aK (aa (ay (aj (aU (ag yc) rfl (aP rfl (fun _ _ a c => ah bQ (a.ev rfl) (dZ c (vs := [iv p1.Kind, sv p1.Name, iv p1.At.X, iv p1.At.Y, sL b p1.Points d, iv p1.NX, iv p1.NY, sL f p1.Steps g]) (k := 2) rfl 0) rfl) (az iW rfl rfl (av rfl ?_)))))))
   obtain ⟨z, o, H⟩ := bnd H
   refine dW 6 [(2, iv p2), (3, pV q), (4, pV s), (23, bV z)] [(1, bx q #[iv p0.Unit, sL h p0.Tools i, sL j p0.Steps l] 26), (2, bx s #[iv p1.Kind, sv p1.Name, iv p1.At.X, iv p1.At.Y, sL b p1.Points d, iv p1.NX, iv p1.NY, sL f p1.Steps g] 53)] ?_ ?_
   ·cases u : (p1.Kind == 3)
    ·rw [u] at o
     rw [if_neg (by decide)] at o
     have H := o
     obtain rfl := oI H
     exact aS rfl (aS rfl (aS rfl (aS rfl (aS rfl (az bv rfl rfl (ae (bu (.r rfl) (.r rfl))))))))
    ·rw [u] at o
     rw [if_pos rfl] at o
     have H := o
     refine Tr.x (fun _ _ a c => aO (cs := [iv p0.Unit, sL h p0.Tools i, sL j p0.Steps l]) tu pE (a.ev rfl) (aC.take (dZ c (vs := [iv p0.Unit, sL h p0.Tools i, sL j p0.Steps l]) (k := 1) rfl 0) 3) rfl) (cz (ag Dn) rfl (Tr.x (fun _ _ a c => ah P5 (a.ev rfl) (dZ c (vs := [iv p1.Kind, sv p1.Name, iv p1.At.X, iv p1.At.Y, sL b p1.Points d, iv p1.NX, iv p1.NY, sL f p1.Steps g]) (k := 2) rfl 1) rfl) ?_))
     obtain ⟨A, L, H⟩ := bnd H
     refine dn (r := (iv A)) (wg rfl rfl rfl) rfl Tryz.call178 (ak rfl (ak rfl aQ)) (fun W hW => xL p0 h i (F.ext hW.dC) j l (G.ext hW.dC) p1.Name A L (HF.start _)) (iZ aX rfl rfl (az bC rfl rfl ?_))
     obtain rfl := oI H
     exact ae (bu (.r rfl) (.r rfl))
   ·show Tr _ _ (LF [(2, iv p2), (3, pV q), (4, pV s), (23, bV z)]) (LE [(1, bx q #[iv p0.Unit, sL h p0.Tools i, sL j p0.Steps l] 26), (2, bx s #[iv p1.Kind, sv p1.Name, iv p1.At.X, iv p1.At.Y, sL b p1.Points d, iv p1.NX, iv p1.NY, sL f p1.Steps g] 53)]) _
    refine ae (aa (aN rfl H (fun H => ?_) (fun H => ?_)))
    ·refine aj (Tr.k rfl (ae (aa (bg (aL ?_)))))
     obtain rfl := oI H
     exact dM leB
    ·refine aK (aa (ay (aj (aU (ag Dm) rfl (aP rfl (fun _ _ a c => aO (cs := [iv p1.At.X, iv p1.At.Y]) lJ iK (a.ev rfl) (aC.take (dZ c (vs := [iv p1.Kind, sv p1.Name, iv p1.At.X, iv p1.At.Y, sL b p1.Points d, iv p1.NX, iv p1.NY, sL f p1.Steps g]) (k := 2) rfl 2) 2) rfl) (aU (ag yf) rfl (aP rfl (fun _ _ a c => ah bQ (a.ev rfl) (dZ c (vs := [iv p0.Unit, sL h p0.Tools i, sL j p0.Steps l]) (k := 1) rfl 0) rfl) ?_)))))))
     obtain ⟨B, M, H⟩ := bnd H
     refine dn (r := (bV B)) (wn rfl) rfl Tryz.call179 (ak rfl (ak rfl aQ)) (fun W hW => qE p1.At p0.Unit B M (HF.start _)) (aU jP rfl (ae (aa (aN rfl H (fun H => ?_) (fun H => ?_)))))
     ·refine aj (Tr.k rfl (ae (aa (bg (aL ?_)))))
      obtain rfl := oI H
      exact dM leB
     ·refine aK (aa (ay (aj (aU (ag yc) rfl (aP rfl (fun _ _ a c => ah bQ (a.ev rfl) (dZ c (vs := [iv p1.Kind, sv p1.Name, iv p1.At.X, iv p1.At.Y, sL b p1.Points d, iv p1.NX, iv p1.NY, sL f p1.Steps g]) (k := 2) rfl 0) rfl) (az iW rfl rfl (ae (aa (aN rfl H (fun H => ?_) (fun H => ?_))))))))))
      ·refine aj (aU (ag Dl) rfl (aP rfl (fun _ _ a c => ah tq (a.ev rfl) (dZ c (vs := [iv p1.Kind, sv p1.Name, iv p1.At.X, iv p1.At.Y, sL b p1.Points d, iv p1.NX, iv p1.NY, sL f p1.Steps g]) (k := 2) rfl 4) rfl) (aU (ag yf) rfl (aP rfl (fun _ _ a c => ah bQ (a.ev rfl) (dZ c (vs := [iv p0.Unit, sL h p0.Tools i, sL j p0.Steps l]) (k := 1) rfl 0) rfl) ?_))))
       obtain ⟨C, O, H⟩ := bnd H
       refine dn (r := (iv C)) (wn rfl) rfl Tryz.call180 (ak rfl (ak rfl aQ)) (fun W hW => uQ N p1.Points b d (t.ext hW.dC) p0.Unit C O (HF.start _)) (Tr.k rfl (ae (aa (bg (aL ?_)))))
       obtain rfl := oI H
       exact dM leB
      ·refine aK (aa ?_)
       have D := Bs.Le.refl w
       refine mH (σ := Unit) (fun w _ => lI = some r) (fun _ => []) (fun _ => []) ?_ ?_
       ·refine aj (aU (ag yc) rfl (aP rfl (fun _ _ a c => ah bQ (a.ev rfl) (dZ c (vs := [iv p1.Kind, sv p1.Name, iv p1.At.X, iv p1.At.Y, sL b p1.Points d, iv p1.NX, iv p1.NY, sL f p1.Steps g]) (k := 2) rfl 0) rfl) (az iW rfl rfl (ae (aa (aN rfl H (fun H => ?_) (fun H => ?_)))))))
        ·refine ay (ay ?_)
         cases H
        ·exact aK (aB D () H .nil .nil)
       ·intro w _ E hs
        have H := hs
        replace H : lI = some r := H
        replace leB := leB.trans E
        unfold lI at H
        show Tr _ _ (LF []) (LE []) _
        refine aj (Tr.k rfl (ae (aa (bg ?_))))
        obtain rfl := oI H
        exact dM leB

theorem sW (N : Nat) (rec : gK → (List aJ) → Int → Option Int) (hrec : ∀ {w : Bs} (p0 : gK) (b : Option Addr) (d : Nat) (v : Sl w.R w.W eD b d p0.Tools) (f : Option Addr) (g : Nat) (y : Sl w.R w.W aT f g p0.Steps) (p1 : (List aJ)) (j : Option Addr) (l : Nat) (o : Sl w.R w.W aT j l p1) (p2 : Int) (r : Int) (H : rec p0 p1 p2 = some r) (hE : HF w w.W E0), Calls Tryz.prog 90 [.agg #[iv p0.Unit, sL b p0.Tools d, sL f p0.Steps g], sL j p1 l, iv p2].toArray w.W fun e W' => e = .returned (iv r) ∧ HF w W' E0) {w : Bs} (p0 : gK) (b : Option Addr) (d : Nat) (v : Sl w.R w.W eD b d p0.Tools) (f : Option Addr) (g : Nat) (y : Sl w.R w.W aT f g p0.Steps) (p1 : (List aJ)) (j : Option Addr) (l : Nat) (o : Sl w.R w.W aT j l p1) (p2 : Int) (r : Int) (H : nD N rec p0 p1 p2 = some r) (hE : HF w w.W E0) : Calls Tryz.prog 90 [.agg #[iv p0.Unit, sL b p0.Tools d, sL f p0.Steps g], sL j p1 l, iv p2].toArray w.W fun e W' => e = .returned (iv r) ∧ HF w W' E0 := by
 unfold nD at H
 have leB := Bs.Le.refl w
 refine bB (n := 38) Tryz.func90 rfl rfl rfl hE (aj (jN 1 (cs := [iv p0.Unit, sL b p0.Tools d, sL f p0.Steps g]) (wn rfl) rfl rfl rfl fun G => (Tr.k rfl (ae (aa (ay (aj (Tr.k rfl (ae (aa (Tr.block (bT (σ := Int) (fun m w s => fP N p0 p1 p2 rec m s = some r) (fun s => [(1, sL j p1 l), (2, iv p2), (3, pV G), (7, iv s)]) (fun s => [(1, bx G #[iv p0.Unit, sL b p0.Tools d, sL f p0.Steps g] 26)]) N 0 H (.r rfl) (.r rfl) (fun _ _ h => fU (h)) ?_))))))))))))
 intro w D b2 I hs
 have H := hs
 replace H : fP N p0 p1 p2 rec (b2 + 1) I = some r := H
 replace o := o.qG D
 replace v := v.qG D
 replace y := y.qG D
 replace leB := leB.trans D
 rw [fP.eq_2] at H
 show Tr _ _ (LF [(1, sL j p1 l), (2, iv p2), (3, pV G), (7, iv I)]) (LE [(1, bx G #[iv p0.Unit, sL b p0.Tools d, sL f p0.Steps g] 26)]) _
 refine ay (aj (av rfl (av rfl (aU (bi xn) rfl (az aX rfl rfl (ae (aa (aN rfl H (fun H => ?_) (fun H => ?_)))))))))
 ·refine aK (aa (ay (Tr.block (ay (ay (iN (by kernel_rfl) (by kernel_rfl) (aY rfl (fun _ _ a c => aO (cs := [iv p0.Unit, sL b p0.Tools d, sL f p0.Steps g]) tu pE (a.ev rfl) (aC.take (dZ c (vs := [iv p0.Unit, sL b p0.Tools d, sL f p0.Steps g]) (k := 1) rfl 0) 3) rfl) (bU rfl (bU rfl ?_)))))))))
  obtain ⟨i, a3, H⟩ := bnd H
  obtain ⟨L, M, O⟩ := aF a3
  obtain ⟨a8, P, J, Q⟩ := (o).el O
  obtain ⟨⟨z, A⟩, ⟨B, C⟩⟩ := a8
  obtain ⟨q, t⟩ := lX.1 J
  replace q : Sl w.R w.W bE z A i.Points := q
  replace t : Sl w.R w.W aT B C i.Steps := t
  refine aY rfl (fun _ _ a c => ai EJ (a.ev rfl) o.form (a.ev rfl) L M) (aY rfl (fun _ _ a c => aO (cs := [iv i.Kind, sv i.Name, iv i.At.X, iv i.At.Y, sL z i.Points A, iv i.NX, iv i.NY, sL B i.Steps C]) Ma zY (a.ev rfl) (aC.take (yM P Q c) 8) rfl) (bU rfl ?_))
  obtain ⟨S, a4, H⟩ := bnd H
  refine kR (r := (iv S)) (wn rfl) rfl Tryz.call129 (ak rfl (ak rfl (ak rfl aQ))) (fun W hW => uP N p0 b d (v.ext hW.dC) f g (y.ext hW.dC) i z A (q.ext hW.dC) B C (t.ext hW.dC) p2 S a4 (HF.start _)) (vX rfl rfl (iJ (aa (aj (av rfl (az kW rfl rfl (ae (aa (aN rfl H (fun H => ?_) (fun H => ?_))))))))))
  ·refine aj (av rfl (Tr.k rfl (ae (aa (bg (aL (cB (aL (aL (cB (aL ?_)))))))))))
   obtain rfl := oI H
   exact dM leB
  ·refine aK (aa (ay (iN (by kernel_rfl) (by kernel_rfl) (aY rfl (fun _ _ a c => aO (cs := [iv p0.Unit, sL b p0.Tools d, sL f p0.Steps g]) tu pE (a.ev rfl) (aC.take (dZ c (vs := [iv p0.Unit, sL b p0.Tools d, sL f p0.Steps g]) (k := 1) rfl 0) 3) rfl) (bU rfl (bU rfl ?_))))))
   obtain ⟨T, a5, H⟩ := bnd H
   obtain ⟨U, V, Z⟩ := aF a5
   obtain ⟨a9, a0, K, a1⟩ := (o).el Z
   obtain ⟨⟨b0, b1⟩, ⟨E, F⟩⟩ := a9
   obtain ⟨a7, u⟩ := lX.1 K
   replace u : Sl w.R w.W aT E F T.Steps := u
   refine aY rfl (fun _ _ a c => ai EJ (a.ev rfl) o.form (a.ev rfl) U V) (gH (ag Be) rfl (aY rfl (fun _ _ a c => ah uX (a.ev rfl) (aC.drop (yM a0 a1 c) 7) rfl) (bU rfl (eP aZ rfl rfl ?_))))
   obtain ⟨a2, a6, H⟩ := bnd H
   refine kR (r := (iv a2)) (wn rfl) rfl Tryz.call90 (ak rfl (ak rfl (ak rfl aQ))) (fun W hW => hrec p0 b d (v.ext hW.dC) f g (y.ext hW.dC) T.Steps E F (u.ext hW.dC) (bn (p2 + 1)) a2 a6 (HF.start _)) (vX rfl rfl (iJ (aa (aj (av rfl (az kW rfl rfl (ae (aa (aN rfl H (fun H => ?_) (fun H => ?_))))))))))
   ·refine aj (av rfl (Tr.k rfl (ae (aa (bg (cB (aL (aL (cB (aL ?_))))))))))
    obtain rfl := oI H
    exact dM leB
   ·exact aK (aH (aa (aD (av rfl (az aZ rfl rfl (Tr.k rfl (ae (aB D (bn (I + 1)) H (.r rfl) (.r rfl)))))))))
 ·refine bO (au (au (aM (aa (aj (Tr.k rfl (ae (aa (bg ?_)))))))))
  obtain rfl := oI H
  exact dM leB
theorem pU : ∀ (N : Nat) {w : Bs} (p0 : gK) (a : Option Addr) (b : Nat) (h : Sl w.R w.W eD a b p0.Tools) (c : Option Addr) (d : Nat) (i : Sl w.R w.W aT c d p0.Steps) (p1 : (List aJ)) (f : Option Addr) (g : Nat) (j : Sl w.R w.W aT f g p1) (p2 : Int) (r : Int) (H : iE N p0 p1 p2 = some r) (hE : HF w w.W E0), Calls Tryz.prog 90 [.agg #[iv p0.Unit, sL a p0.Tools b, sL c p0.Steps d], sL f p1 g, iv p2].toArray w.W fun e W' => e = .returned (iv r) ∧ HF w W' E0
 | 0 => by intros; rename_i H _; cases H
 | N + 1 => sW N (iE N) (pU N)

theorem uR (N : Nat) {w : Bs} (p0 : gK) (f : Option Addr) (g : Nat) (j : Sl w.R w.W eD f g p0.Tools) (b : Option Addr) (d : Nat) (i : Sl w.R w.W aT b d p0.Steps) (r : Int) (H : kV N p0 = some r) (hE : HF w w.W E0) : Calls Tryz.prog 38 [.agg #[iv p0.Unit, sL f p0.Tools g, sL b p0.Steps d]].toArray w.W fun e W' => e = .returned (iv r) ∧ HF w W' E0 := by
 unfold kV at H
 have leB := Bs.Le.refl w
 refine bB (n := 60) Tryz.func38 rfl rfl rfl hE (aj (jN 1 (cs := [iv p0.Unit, sL f p0.Tools g, sL b p0.Steps d]) (wn rfl) rfl rfl rfl fun l => (Tr.k rfl (ae (aa (ay (aj (aU (ag yf) rfl (aP rfl (fun _ _ a c => ah bQ (a.ev rfl) (dZ c (vs := [iv p0.Unit, sL f p0.Tools g, sL b p0.Steps d]) (k := 1) rfl 0) rfl) ?_)))))))))
 obtain ⟨q, u, H⟩ := bnd H
 refine dn (r := (bV q)) (wn rfl) rfl Tryz.call86 (ak rfl (ak rfl (ak rfl aQ))) (fun W hW => mI p0.Unit 1 1000 q u (HF.start _)) (aU jP rfl (ae (aa (aN rfl H (fun H => ?_) (fun H => ?_)))))
 ·refine aj (Tr.k rfl (ae (aa (bg (aL ?_)))))
  obtain rfl := oI H
  exact dM leB
 ·refine aK (aa (ay (aj (aU (ag wT) rfl (aP rfl (fun _ _ a c => ah CQ (a.ev rfl) (dZ c (vs := [iv p0.Unit, sL f p0.Tools g, sL b p0.Steps d]) (k := 1) rfl 1) rfl) (aU (bi Cv) rfl (az kX rfl rfl (ae (aa (aN rfl H (fun H => ?_) (fun H => ?_)))))))))))
  ·refine aj (Tr.k rfl (ae (aa (bg (aL ?_)))))
   obtain rfl := oI H
   exact dM leB
  ·refine aK (aa (ay (aj (Tr.k rfl (ae (aa (Tr.block (bT (σ := Unit) (fun m w _ => jO N p0 m = some r) (fun _ => [(1, pV l), (3, iv 0)]) (fun _ => [(1, bx l #[iv p0.Unit, sL f p0.Tools g, sL b p0.Steps d] 26)]) N () H (.r rfl) (.r rfl) (fun _ _ h => fU (h)) ?_))))))))
   intro w o z _ hs
   have H := hs
   replace H : jO N p0 (z + 1) = some r := H
   replace j := j.qG o
   replace i := i.qG o
   replace leB := leB.trans o
   rw [jO.eq_2] at H
   show Tr _ _ (LF [(1, pV l), (3, iv 0)]) (LE [(1, bx l #[iv p0.Unit, sL f p0.Tools g, sL b p0.Steps d] 26)]) _
   refine ay (aj (av rfl (aU (ag wT) rfl (aP rfl (fun _ _ a c => ah CQ (a.ev rfl) (dZ c (vs := [iv p0.Unit, sL f p0.Tools g, sL b p0.Steps d]) (k := 1) rfl 1) rfl) (aU (bi Cv) rfl (az aX rfl rfl (ae (aa (aN rfl H (fun H => ?_) (fun H => ?_))))))))))
   ·refine aK (aa (ay (Tr.block (ay ?_))))
    cases H
   ·refine bO (au (au (aM (aa (ay (aj (aU (ag qa) rfl (aP rfl (fun _ _ a c => ah uX (a.ev rfl) (dZ c (vs := [iv p0.Unit, sL f p0.Tools g, sL b p0.Steps d]) (k := 1) rfl 2) rfl) ?_))))))))
    obtain ⟨s, v, H⟩ := bnd H
    refine dn (r := (iv s)) (wn rfl) rfl Tryz.call89 (ak rfl aQ) (fun W hW => rM N p0.Steps b d (i.ext hW.dC) s v (HF.start _)) (az kX rfl rfl (ae (aa (aN rfl H (fun H => ?_) (fun H => ?_)))))
    ·refine aj (Tr.k rfl (ae (aa (bg (aL ?_)))))
     obtain rfl := oI H
     exact dM leB
    ·refine aK (aa (aj (aP rfl (fun _ _ a c => aO (cs := [iv p0.Unit, sL f p0.Tools g, sL b p0.Steps d]) tu pE (a.ev rfl) (aC.take (dZ c (vs := [iv p0.Unit, sL f p0.Tools g, sL b p0.Steps d]) (k := 1) rfl 0) 3) rfl) (aU (ag qa) rfl (aP rfl (fun _ _ a c => ah uX (a.ev rfl) (dZ c (vs := [iv p0.Unit, sL f p0.Tools g, sL b p0.Steps d]) (k := 1) rfl 2) rfl) ?_)))))
     obtain ⟨t, y, H⟩ := bnd H
     refine dn (r := (iv t)) (wn rfl) rfl Tryz.call90 (ak rfl (ak rfl (ak rfl aQ))) (fun W hW => pU N p0 f g (j.ext hW.dC) b d (i.ext hW.dC) p0.Steps b d (i.ext hW.dC) 0 t y (HF.start _)) (Tr.k rfl (ae (aa (bg ?_))))
     obtain rfl := oI H
     exact dM leB

theorem xe (N : Nat) {w : Bs} (p0 : gK) (b : Option Addr) (d : Nat) (i : Sl w.O w.W eD b d p0.Tools) (f : Option Addr) (g : Nat) (j : Sl w.O w.W aT f g p0.Steps) (r : (gK × Int)) (H : gF N p0 = some r) (hE : HF w w.W (kw [])) : Calls Tryz.prog 20 [.agg #[iv p0.Unit, sL b p0.Tools d, sL f p0.Steps g]].toArray w.W fun e W' => ∃ (w' : Bs) (u : (Option Addr × Nat) × (Option Addr × Nat)), w.Le w' ∧ e = .returned (.tuple #[.agg #[iv r.1.Unit, sL u.1.1 r.1.Tools u.1.2, sL u.2.1 r.1.Steps u.2.2], iv r.2]) ∧ (Sl w'.O w'.W eD u.1.1 u.1.2 r.1.Tools ∧ Sl w'.O w'.W aT u.2.1 u.2.2 r.1.Steps) ∧ HF w' W' (kw []) := by
 unfold gF at H
 have leB := Bs.Le.refl w
 refine bB (n := 12) Tryz.func20 rfl rfl rfl hE (aj (jN 1 (cs := [iv p0.Unit, sL b p0.Tools d, sL f p0.Steps g]) (wn rfl) rfl rfl rfl fun o => (Tr.alloc 2 (wn rfl) rfl Dz fun q => (Tr.k rfl (ae (aa (ay (aj (aP rfl (fun _ _ a c => aO (cs := [iv p0.Unit, sL b p0.Tools d, sL f p0.Steps g]) tu pE (a.ev rfl) (aC.take (dZ c (vs := [iv p0.Unit, sL b p0.Tools d, sL f p0.Steps g]) (k := 1) rfl 0) 3) rfl) ?_)))))))))
 obtain ⟨h, l, H⟩ := bnd H
 refine dn (r := (iv h)) (wn rfl) rfl Tryz.call38 (ak rfl aQ) (fun W hW => uR N p0 b d (i.rl.ext hW.dC) f g (j.rl.ext hW.dC) h l (HF.start _)) (Tr.k rfl (ae (aa (aj (av rfl (az kW rfl rfl (ae (aa (aN rfl H (fun H => ?_) (fun H => ?_))))))))))
 ·refine aj (ja (vs := []) (cs := [iv 0, .slice none 0 0, .slice none 0 0]) (wn rfl) rfl dL (by kernel_rfl) (av rfl (dm 2 (cs := [iv 0, .slice none 0 0, .slice none 0 0]) [iv 0, .slice none 0 0, .slice none 0 0] (wn rfl) rfl rfl rfl rfl pE rfl rfl rfl (Tr.k rfl (ae (aa (bg (aL ?_))))))))
  obtain rfl := oI H
  exact Tr.out (m := [.agg #[iv 0, .slice none 0 0, .slice none 0 0], iv h]) [2] (rG rfl rfl tu pE (eU rfl dR)) (fun W hW => ⟨w, ((none, 0), (none, 0)), leB, rfl, ⟨(Sl.nil _ _ _), (Sl.nil _ _ _)⟩, hW.pick (ks := []) (by decide) bK⟩)
 ·refine aK (aa (aj (aP rfl (fun _ _ a c => aO (cs := [iv p0.Unit, sL b p0.Tools d, sL f p0.Steps g]) tu pE (a.ev rfl) (aC.take (dZ c (vs := [iv p0.Unit, sL b p0.Tools d, sL f p0.Steps g]) (k := 1) rfl 0) 3) rfl) (dm 2 (cs := [iv p0.Unit, sL b p0.Tools d, sL f p0.Steps g]) [iv p0.Unit, sL b p0.Tools d, sL f p0.Steps g] (wn rfl) rfl rfl rfl rfl pE rfl rfl rfl (Tr.k rfl (ae (aa (bg ?_))))))))
  obtain rfl := oI H
  exact Tr.out (m := [.agg #[iv p0.Unit, sL b p0.Tools d, sL f p0.Steps g], iv 0]) [2] (rG rfl rfl tu pE (eU rfl dR)) (fun W hW => ⟨w, ((b, d), (f, g)), leB, rfl, ⟨i, j⟩, hW.pick (ks := []) (by decide) bK⟩)

theorem yK (N : Nat) {w : Bs} (p0 : (List aI)) (c6 : Option Addr) (c7 : Nat) (i9 : Sl w.R w.W bz c6 c7 p0) (r : (gK × Int)) (H : lM N p0 = some r) (hE : HF w w.W (kw [])) : Calls Tryz.prog 6 [sL c6 p0 c7].toArray w.W fun e W' => ∃ (w' : Bs) (u : (Option Addr × Nat) × (Option Addr × Nat)), w.Le w' ∧ e = .returned (.tuple #[.agg #[iv r.1.Unit, sL u.1.1 r.1.Tools u.1.2, sL u.2.1 r.1.Steps u.2.2], iv r.2]) ∧ (Sl w'.O w'.W eD u.1.1 u.1.2 r.1.Tools ∧ Sl w'.O w'.W aT u.2.1 u.2.2 r.1.Steps) ∧ HF w' W' (kw []) := by
 unfold lM at H
 have leB := Bs.Le.refl w
 refine bB (n := 106) Tryz.func6 rfl rfl rfl hE (aj (Tr.alloc 1 (wn rfl) rfl Dz fun o => (Tr.k rfl (ae (aa (aj (av rfl ?_)))))))
 obtain ⟨j, j0, H⟩ := bnd H
 refine jl [2] [emp] (U := (Option Addr × Nat)) (fun u => (.tuple #[sL u.1 j.1 u.2, iv j.2])) (fun O W u => fC u.1 j.1.length u.2) (fun u => [ow u.1 u.2 43 aW j.1]) rfl (bA rfl bK) (fun _ => rfl) (wn rfl) rfl Tryz.call17 (ak rfl aQ) (fun W hW hp hE => vD N p0 c6 c7 (i9.ext (hW.mQ hp)) j j0 hE) ?_
 intro w u j1 hu
 obtain ⟨v, y⟩ := u
 have f5 := hu
 replace leB := leB.trans j1
 have b7 : fC v j.1.length y := f5 --@phi
 dsimp only
 refine av rfl (aP rfl (fun _ _ a c => kY (a.ev rfl) rfl) (aP rfl (fun _ _ a c => kY (a.ev rfl) rfl) (Tr.k rfl (Tr.k rfl (ae (aa (ay (aj (av rfl (az kW rfl rfl (ae (aa (aN rfl H (fun H => ?_) (fun H => ?_))))))))))))))
 ·refine aj (ja (vs := []) (cs := [iv 0, .slice none 0 0, .slice none 0 0]) (wn rfl) rfl dL (by kernel_rfl) (av rfl (dm 1 (cs := [iv 0, .slice none 0 0, .slice none 0 0]) [iv 0, .slice none 0 0, .slice none 0 0] (wn rfl) rfl rfl rfl rfl pE rfl rfl rfl (Tr.k rfl (ae (aa (bg (aL ?_))))))))
  obtain rfl := oI H
  exact Tr.out (m := [.agg #[iv 0, .slice none 0 0, .slice none 0 0], iv j.2]) [1] (rG rfl rfl tu pE (eU rfl dR)) (fun W hW => ⟨w, ((none, 0), (none, 0)), leB, rfl, ⟨(Sl.nil _ _ _), (Sl.nil _ _ _)⟩, hW.pick (ks := []) (by decide) bK⟩)
 ·refine aK (aa (aj (Tr.k rfl (bS 3 43 aW ?_))))
  show Tr _ _ (uf _ 6 (sL none (([] : List (List aA))) 0)) _ _
  refine ae (aa (ay (aj (Tr.k rfl (ae (aa (Tr.block (zn 3 11 rfl rfl rfl (bT (σ := (List (List aA)) × Int × (Option Addr) × Nat) (fun m w s => fK N j m s.1 s.2.1 = some r ∧ fC s.2.2.1 s.1.length s.2.2.2) (fun s => [(2, pV o), (4, sL v j.1 y), (6, sL s.2.2.1 s.1 s.2.2.2), (7, iv s.2.1)]) (fun s => [(1, bx o #[iv 0, .slice none 0 0, .slice none 0 0] 26), (2, ow v y 43 aW j.1), (11, ow s.2.2.1 s.2.2.2 43 aW s.1)]) N (([] : List (List aA)), 0, none, 0) ⟨H, iM⟩ (.r rfl) (.r rfl) (fun _ _ h => fU (h.1)) ?_)))))))))
  intro w a9 g3 s hs
  obtain ⟨d, a0, f, z⟩ := s
  obtain ⟨H, b6⟩ := hs
  replace H : fK N j (g3 + 1) d a0 = some r := H
  replace leB := leB.trans a9
  replace b6 : fC f d.length z := b6
  rw [fK.eq_2] at H
  dsimp only
  refine ay (aj (av rfl (av rfl (aU (bi uV) rfl (az aX rfl rfl (ae (aa (aN rfl H (fun H => ?_) (fun H => ?_)))))))))
  ·refine aK (aa (ay (Tr.block (aj (av rfl (aU (bi uV) rfl (Tr.k rfl (ae (aa (ay (Tr.block (bT (σ := Int) (fun m w s => jT N j d a0 (fK N j g3) m s = some r) (fun s => [(2, pV o), (4, sL v j.1 y), (6, sL f d z), (7, iv a0), (8, iv s)]) (fun s => [(1, bx o #[iv 0, .slice none 0 0, .slice none 0 0] 26), (2, ow v y 43 aW j.1), (11, ow f z 43 aW d)]) N (d.length : Int) H (.r rfl) (.r rfl) (fun _ _ h => fU (h)) ?_))))))))))))
   intro w g4 m4 b8 hs
   have H := hs
   replace H : jT N j d a0 (fK N j g3) (m4 + 1) b8 = some r := H
   replace a9 := a9.trans g4
   rw [jT.eq_2] at H
   show Tr _ _ (LF [(2, pV o), (4, sL v j.1 y), (6, sL f d z), (7, iv a0), (8, iv b8)]) (LE [(1, bx o #[iv 0, .slice none 0 0, .slice none 0 0] 26), (2, ow v y 43 aW j.1), (11, ow f z 43 aW d)]) _
   refine ay (ay (iN (by kernel_rfl) (by kernel_rfl) (bU rfl (eP kX rfl rfl (bU rfl ?_)))))
   obtain ⟨l3, a6, H⟩ := bnd H
   refine oF 15 [(2, pV o), (4, sL v j.1 y), (6, sL f d z), (7, iv a0), (8, iv b8), (48, bV l3)] ?_ ?_
   ·cases e9 : (decide (0 < b8))
    ·rw [e9] at a6
     rw [if_neg (by decide)] at a6
     have H := a6
     obtain rfl := oI H
     refine bq rfl (bq rfl (bq rfl (bq rfl (bq rfl (bq rfl (bq rfl ?_))))))
     refine bq rfl (bq rfl (bq rfl (bq rfl (bq rfl (bq rfl (bq rfl ?_))))))
     exact eP bv rfl rfl (Tq.fin (.r rfl))
    ·rw [e9] at a6
     rw [if_pos rfl] at a6
     have H := a6
     refine gN run_move rfl (gN run_move rfl (ou eu rfl rfl ?_))
     obtain ⟨b0, j2, H⟩ := bnd H
     obtain ⟨g5, g6, g7⟩ := aF j2
     refine Tq.x (fun _ _ a c => ai uz (a.ev rfl) b6 (a.ev rfl) g5 g6) (qb (U := (aW).Ad) (fun u => (aW).ok w.O w.W u b0) (fun u => (sL u.1 b0 u.2)) (wg rfl rfl rfl) rfl (BF (κ := 11) (t := aW) (V := fun u => (sL u.1 b0 u.2)) rfl g7 (fun _ _ u a hc => ah tq (a.ev rfl) hc rfl)) ?_)
     intro l4 f6
     obtain ⟨b1, b2⟩ := l4
     have a1 := f6
     replace a1 : Sl w.O w.W bE b1 b2 b0 := a1
     dsimp only
     obtain ⟨e3, j3, H⟩ := bnd H
     refine kR (r := (iv e3)) (wg rfl rfl rfl) rfl Tryz.call19 (ak rfl aQ) (fun W hW => oG N b0 b1 b2 (a1.rl.ext hW.dC) e3 j3 (HF.start _)) ?_
     obtain ⟨g8, j4, H⟩ := bnd H
     refine kR (r := (iv g8)) (wg rfl rfl rfl) rfl Tryz.call18 (ak rfl aQ) (fun W hW => rX e3 g8 j4 (HF.start _)) (gN run_move rfl (gN run_move rfl ?_))
     obtain ⟨b3, j5, H⟩ := bnd H
     obtain ⟨g9, h0, h1⟩ := aF j5
     refine Tq.x (fun _ _ a c => ai uz (a.ev rfl) b7 (a.ev rfl) g9 h0) (qb (U := (aW).Ad) (fun u => (aW).ok w.O w.W u b3) (fun u => (sL u.1 b3 u.2)) (wg rfl rfl rfl) rfl (BF (κ := 2) (t := aW) (V := fun u => (sL u.1 b3 u.2)) rfl h1 (fun _ _ u a hc => ah tq (a.ev rfl) hc rfl)) ?_)
     intro l5 f7
     obtain ⟨b4, b5⟩ := l5
     have a2 := f7
     replace a2 : Sl w.O w.W bE b4 b5 b3 := a2
     dsimp only
     obtain ⟨e4, j6, H⟩ := bnd H
     refine kR (r := (iv e4)) (wg rfl rfl rfl) rfl Tryz.call19 (ak rfl aQ) (fun W hW => oG N b3 b4 b5 (a2.rl.ext hW.dC) e4 j6 (HF.start _)) ?_
     obtain ⟨h2, j7, H⟩ := bnd H
     refine kR (r := (iv h2)) (wg rfl rfl rfl) rfl Tryz.call18 (ak rfl aQ) (fun W hW => rX e4 h2 j7 (HF.start _)) (ou aX rfl rfl (eP bC rfl rfl ?_))
     obtain rfl := oI H
     exact Tq.fin (.r rfl)
   ·refine iJ (aa (aN rfl H (fun H => ?_) (fun H => ?_)))
    ·exact aK (aa (Tr.block (aD (av rfl (az eu rfl rfl (Tr.k rfl (ae (aH (aB g4 (bn (b8 - 1)) H (.r rfl) (.r rfl))))))))))
    ·refine bO (au (au (aM (aa (aj (Tr.k rfl (bS 12 43 aW ?_)))))))
     show Tr _ _ (uf _ 9 (sL none (([] : List (List aA))) 0)) _ _
     refine ae (aa (aj (av rfl (av rfl (av rfl ?_)))))
     obtain ⟨l6, f1, H⟩ := bnd H
     refine aP rfl (fun _ _ a c => zG uz (a.ev rfl) b6 (a.ev rfl) f1) (Tr.freeze 11 rfl fun w j8 c8 => ?_)
     replace a9 := a9.trans j8
     obtain ⟨l7, j9, H⟩ := bnd H
     refine og 12 (t := aW) (l := ([] : List (List aA))) (l2 := l6) (wn rfl) rfl rfl rfl rfl (SV (Sl.pre c8 f1)) uV DL Dx (by decide) EN rfl j9 fun m7 m8 m5 => (Tr.k rfl (ae (aa (aj (av rfl (av rfl (av rfl ?_)))))))
     obtain ⟨Q, k0, H⟩ := bnd H
     obtain ⟨h3, h4, h5⟩ := aF k0
     refine aP rfl (fun _ _ a c => ai uz (a.ev rfl) b7 (a.ev rfl) h3 h4) (Bt (U := (aW).Ad) (fun u => (aW).ok w.O w.W u Q) (fun u => (sL u.1 Q u.2)) (wn rfl) rfl (BF (κ := 2) (t := aW) (V := fun u => (sL u.1 Q u.2)) rfl h5 (fun _ _ u a hc => ah tq (a.ev rfl) hc rfl)) ?_)
     intro l8 f8
     obtain ⟨I, J⟩ := l8
     have a3 := f8
     replace a3 : Sl w.O w.W bE I J Q := a3
     dsimp only
     refine dG 13 (e := 43) (vs := [(0, sL I Q J)]) (cs := [sL I Q J]) (wn rfl) rfl (bD rfl dL) (by kernel_rfl) fun n2 => ?_
     obtain ⟨l9, k1, H⟩ := bnd H
     refine Tr.append 12 (t := aW) (l := l7) (l2 := [Q]) (wn rfl) rfl rfl rfl rfl (fun W hW => ⟨[[sL I Q J]], (.cons ⟨(I, J), a3, rfl⟩ .nil), dZ hW (vs := [sL I Q J]) (k := 13) rfl 0⟩) uV DL Dx (by decide) EN rfl k1 fun m9 n0 m6 => (Tr.k rfl (ae (aa (aD (av rfl (av rfl (av rfl ?_)))))))
     obtain ⟨m0, f2, H⟩ := bnd H
     refine aP rfl (fun _ _ a c => sH uz (a.ev rfl) c8.form (a.ev rfl) f2) ?_
     obtain ⟨m1, k2, H⟩ := bnd H
     exact og 12 (t := aW) (l := l9) (l2 := m0) (wn rfl) rfl rfl rfl rfl (SV (Sl.cut c8 f2)) uV DL Dx (by decide) EN rfl k2 fun k3 k4 h6 => (Tr.k rfl (ae (aH (aa (aD (av rfl (az aZ rfl rfl (Tr.k rfl (ae (zn 12 11 rfl rfl rfl (aB a9 (m1, (bn (a0 + 1)), k3, k4) ⟨H, h6⟩ (.r rfl) (.r rfl))))))))))))
  ·refine bO (au (au (aM (aa (ay (Tr.freeze 11 rfl fun w k5 A => ?_))))))
   replace leB := leB.trans k5
   refine aD (ja (vs := [(0, iv 1)]) (cs := [iv 1, .slice none 0 0, .slice none 0 0]) (wn rfl) rfl (bD rfl dL) (by kernel_rfl) (Tr.alloc 14 (wn rfl) rfl Dz fun B => (dm 14 (cs := [iv 1, .slice none 0 0, .slice none 0 0]) [iv 1, .slice none 0 0, .slice none 0 0] (wn rfl) rfl rfl rfl rfl pE rfl rfl rfl (ae (aa (aj (Tr.k rfl (ae (aa (ay (aj (Tr.k rfl (ae (aa (Tr.block (bS 27 53 aT (bT (σ := (List aJ) × Int × Int × (Option Addr) × Nat) (fun m w s => dU N d m s.1 s.2.1 s.2.2.1 = some r ∧ fC s.2.2.2.1 s.1.length s.2.2.2.2) (fun s => [(2, pV o), (6, sL f d z), (10, pV B), (11, iv s.2.1), (12, iv s.2.2.1)]) (fun s => [(1, bx o #[iv 0, .slice none 0 0, .slice none 0 0] 26), (14, bx B #[iv 1, .slice none 0 0, sL s.2.2.2.1 s.1 s.2.2.2.2] 26), (27, ow s.2.2.2.1 s.2.2.2.2 53 aT s.1)]) N (([] : List aJ), 1, 0, none, 0) ⟨H, iM⟩ (.r rfl) (.r rfl) (fun _ _ h => fU (h.1)) ?_)))))))))))))))))
   intro w a7 d6 s hs
   obtain ⟨C, a8, F, D, E⟩ := s
   obtain ⟨H, c9⟩ := hs
   replace H : dU N d (d6 + 1) C a8 F = some r := H
   replace A := A.le a7
   replace leB := leB.trans a7
   replace c9 : fC D C.length E := c9
   rw [dU.eq_2] at H
   dsimp only
   refine ay (aj (av rfl (av rfl (aU (bi uV) rfl (az aX rfl rfl (ae (aa (aN rfl H (fun H => ?_) (fun H => ?_)))))))))
   ·refine aK (aa (ay (Tr.block (aj (Tr.k rfl (ae (aa ?_)))))))
    have d7 := Bs.Le.refl w
    refine mH (σ := Int) (fun w s => jK d C a8 F (dU N d d6) s = some r) (fun s => [(2, pV o), (6, sL f d z), (10, pV B), (11, iv a8), (12, iv F), (13, iv s)]) (fun s => [(1, bx o #[iv 0, .slice none 0 0, .slice none 0 0] 26), (14, bx B #[iv 1, .slice none 0 0, sL D C E] 26), (27, ow D E 53 aT C)]) ?_ ?_
    ·refine aj (av rfl (av rfl ?_))
     obtain ⟨h7, k6, H⟩ := bnd H
     obtain ⟨h8, h9, i0⟩ := aF k6
     obtain ⟨m2, b9, f9, i1⟩ := (A).el i0
     obtain ⟨c4, c5⟩ := m2
     have a4 := f9
     replace a4 : Sl w.O w.W bE c4 c5 h7 := a4
     replace b9 : w.R (nY f) := Or.inl b9
     refine aP rfl (fun _ _ a c => ai uz (a.ev rfl) A.form (a.ev rfl) h8 h9) (aP rfl (fun _ _ a c => ah tq (a.ev rfl) (yM b9 i1 c) rfl) ?_)
     obtain ⟨i2, k7, H⟩ := bnd H
     refine dn (r := (iv i2)) (wn rfl) rfl Tryz.call19 (ak rfl aQ) (fun W hW => oG N h7 c4 c5 (a4.rl.ext hW.dC) i2 k7 (HF.start _)) (az aX rfl rfl (ae (aa (aN rfl H (fun H => ?_) (fun H => ?_)))))
     ·exact aD (Tr.k rfl (ae (aB d7 2 H (.r rfl) (.r rfl))))
     ·exact aK (aB d7 1 H (.r rfl) (.r rfl))
    ·intro w S d8 hs
     have H := hs
     replace H : jK d C a8 F (dU N d d6) S = some r := H
     replace A := A.le d8
     replace a7 := a7.trans d8
     unfold jK at H
     show Tr _ _ (LF [(2, pV o), (6, sL f d z), (10, pV B), (11, iv a8), (12, iv F), (13, iv S)]) (LE [(1, bx o #[iv 0, .slice none 0 0, .slice none 0 0] 26), (14, bx B #[iv 1, .slice none 0 0, sL D C E] 26), (27, ow D E 53 aT C)]) _
     have d9 := Bs.Le.refl w
     refine mH (σ := (List aJ) × Int × (Option Addr) × Nat) (fun w s => kP d F (dU N d d6) s.1 s.2.1 = some r ∧ fC s.2.2.1 s.1.length s.2.2.2) (fun s => [(2, pV o), (6, sL f d z), (10, pV B), (11, iv s.2.1), (12, iv F)]) (fun s => [(1, bx o #[iv 0, .slice none 0 0, .slice none 0 0] 26), (14, bx B #[iv 1, .slice none 0 0, sL s.2.2.1 s.1 s.2.2.2] 26), (27, ow s.2.2.1 s.2.2.2 53 aT s.1)]) ?_ ?_
     ·refine aj (av rfl (av rfl (az kW rfl rfl (ae (aa (aN rfl H (fun H => ?_) (fun H => ?_)))))))
      ·refine aj (aU (ag qa) rfl (aP rfl (fun _ _ a c => ah uX (a.ev rfl) (dZ c (vs := [iv 1, .slice none 0 0, sL D C E]) (k := 14) rfl 2) rfl) (av rfl (ja (vs := [(0, iv S)]) (cs := [iv S, sv ⟨#[]⟩, iv 0, iv 0, .slice none 0 0, iv 0, iv 0, .slice none 0 0]) (wn rfl) rfl (bD rfl dL) (by kernel_rfl) (dG 30 (e := 53) (vs := [(0, .agg #[iv S, sv ⟨#[]⟩, iv 0, iv 0, .slice none 0 0, iv 0, iv 0, .slice none 0 0])]) (cs := [iv S, sv ⟨#[]⟩, iv 0, iv 0, .slice none 0 0, iv 0, iv 0, .slice none 0 0]) (wn rfl) rfl (bD rfl dL) (by kernel_rfl) fun n3 => ?_)))))
       obtain ⟨e5, k8, H⟩ := bnd H
       exact Tr.append 27 (t := aT) (l := C) (l2 := [(aJ.mk S (⟨#[]⟩) (aA.mk 0 0) [] 0 0 [])]) (wn rfl) rfl rfl rfl rfl (fun W hW => ⟨[[iv S, sv ⟨#[]⟩, iv 0, iv 0, .slice none 0 0, iv 0, iv 0, .slice none 0 0]], (.cons ⟨((none, 0), (none, 0)), (lX.2 ⟨(Sl.nil _ _ _), (Sl.nil _ _ _)⟩), rfl⟩ .nil), dZ hW (vs := [iv S, sv ⟨#[]⟩, iv 0, iv 0, .slice none 0 0, iv 0, iv 0, .slice none 0 0]) (k := 30) rfl 0⟩) xn zY KM (by decide) LZ rfl k8 fun d0 d1 i3 => (aU (ag qa) rfl (dm 14 (cs := [sL d0 e5 d1]) [iv 1, .slice none 0 0, sL d0 e5 d1] (wn rfl) rfl rfl rfl rfl KY rfl rfl rfl (ae (aa (aD (av rfl (Tr.k rfl (ae (aB d9 (e5, S, d0, d1) ⟨H, i3⟩ (.r rfl) (.r rfl))))))))))
      ·exact aK (aB d9 (C, a8, D, E) ⟨H, c9⟩ (.r rfl) (.r rfl))
     ·intro w s e0 hs
      obtain ⟨T, c0, X, Z⟩ := s
      obtain ⟨H, n1⟩ := hs
      replace H : kP d F (dU N d d6) T c0 = some r := H
      replace A := A.le e0
      replace a7 := a7.trans e0
      unfold kP at H
      dsimp only
      obtain ⟨G, k9, H⟩ := bnd H
      obtain ⟨i4, i5, i6⟩ := aF k9
      obtain ⟨m3, c3, g0, i7⟩ := (A).el i6
      obtain ⟨g, i⟩ := m3
      have a5 := g0
      replace a5 : Sl w.O w.W bE g i G := a5
      replace c3 : w.R (nY f) := Or.inl c3
      refine EX 8 [(7, .makeFunc (.func 0) #[] #[.tmp 98])] [(7, ⟨99, 29, .func (.func 0) #[] #[.agg #[iv 7, sv ⟨#[]⟩, iv 0, iv 0, sL g G i, iv 0, iv 0, .slice none 0 0]], fun b => .slice (some ⟨b, 0, none⟩) 1 1, fun b => bx b #[iv 7, sv ⟨#[]⟩, iv 0, iv 0, sL g G i, iv 0, iv 0, .slice none 0 0] 53⟩)] [(2, pV o), (6, sL f d z), (10, pV B), (11, iv c0), (12, iv F), (92, .pointer (some ⟨B, 2, none⟩)), (93, sL X T Z), (94, sL f d z), (95, iv F), (96, .pointer (some ⟨nY f, pF f + (F).toNat * 1, none⟩)), (97, sL g G i), (98, .agg #[iv 7, sv ⟨#[]⟩, iv 0, iv 0, sL g G i, iv 0, iv 0, .slice none 0 0]), (99, .func (.func 0) #[] #[.agg #[iv 7, sv ⟨#[]⟩, iv 0, iv 0, sL g G i, iv 0, iv 0, .slice none 0 0]])] (by kernel_rfl) (by kernel_rfl) (by kernel_rfl) (by kernel_rfl) (by kernel_rfl) (by kernel_rfl) (by kernel_rfl) (ru (Kk (vs := [(0, .agg #[iv 7, sv ⟨#[]⟩, iv 0, iv 0, sL g G i, iv 0, iv 0, .slice none 0 0])]) rfl rfl rfl (by kernel_rfl)) sK) (ru rfl sK) (ru rfl sK) ?_ ?_
      ·exact gH (ag qa) rfl (aY rfl (fun _ _ a c => ah uX (a.ev rfl) (dZ c (vs := [iv 1, .slice none 0 0, sL X T Z]) (k := 14) rfl 2) rfl) (bU rfl (bU rfl (aY rfl (fun _ _ a c => ai uz (a.ev rfl) A.form (a.ev rfl) i4 i5) (aY rfl (fun _ _ a c => ah tq (a.ev rfl) (yM c3 i7 c) rfl) (xE (vs := [(0, iv 7), (3, sL g G i)]) (cs := [iv 7, sv ⟨#[]⟩, iv 0, iv 0, sL g G i, iv 0, iv 0, .slice none 0 0]) (wn rfl) rfl (bD rfl (bD rfl dL)) (by kernel_rfl) (Ct (vs := [.agg #[iv 7, sv ⟨#[]⟩, iv 0, iv 0, sL g G i, iv 0, iv 0, .slice none 0 0]]) (wn rfl) rfl (ak rfl aQ) (Tq.fin (.r rfl)))))))))
      ·intro f3
       refine Tr.wL (lf := [(2, pV o), (6, sL f d z), (10, pV B), (11, iv c0), (12, iv F), (93, sL X T Z), (99, .slice (some ⟨(f3 7), 0, none⟩) 1 1)]) (le := [(1, bx o #[iv 0, .slice none 0 0, .slice none 0 0] 26), (14, bx B #[iv 1, .slice none 0 0, sL X T Z] 26), (27, ow X Z 53 aT T), (29, bx (f3 7) #[iv 7, sv ⟨#[]⟩, iv 0, iv 0, sL g G i, iv 0, iv 0, .slice none 0 0] 53)]) (.r rfl) (.r rfl) ?_
       obtain ⟨e6, l0, H⟩ := bnd H
       exact Tr.append 27 (t := aT) (l := T) (l2 := [(aJ.mk 7 (⟨#[]⟩) (aA.mk 0 0) G 0 0 [])]) (wn rfl) rfl rfl rfl rfl (fun W hW => ⟨[[iv 7, sv ⟨#[]⟩, iv 0, iv 0, sL g G i, iv 0, iv 0, .slice none 0 0]], (.cons ⟨((g, i), (none, 0)), (lX.2 ⟨a5, (Sl.nil _ _ _)⟩), rfl⟩ .nil), dZ hW (vs := [iv 7, sv ⟨#[]⟩, iv 0, iv 0, sL g G i, iv 0, iv 0, .slice none 0 0]) (k := 29) rfl 0⟩) xn zY KM (by decide) LZ rfl l0 fun d2 d3 i8 => (aU (ag qa) rfl (dm 14 (cs := [sL d2 e6 d3]) [iv 1, .slice none 0 0, sL d2 e6 d3] (wn rfl) rfl rfl rfl rfl KY rfl rfl rfl (ae (aH (aa (aD (av rfl (az aZ rfl rfl (Tr.k rfl (ae (aB a7 (e6, c0, (bn (F + 1)), d2, d3) ⟨H, i8⟩ (.r rfl) (.r rfl))))))))))))
   ·refine bO (au (au (aM (aa (aj (aP rfl (fun _ _ a c => aO (cs := [iv 1, .slice none 0 0, sL D C E]) tu pE (a.ev rfl) (aC.take (dZ c (vs := [iv 1, .slice none 0 0, sL D C E]) (k := 14) rfl 0) 3) rfl) (Tr.freeze 27 rfl fun w f4 d4 => ?_)))))))
    replace A := A.le f4
    replace leB := leB.trans f4
    obtain ⟨q, l1, H⟩ := bnd H
    refine jl [] [] (U := (Option Addr × Nat) × (Option Addr × Nat)) (fun u => (.tuple #[.agg #[iv q.1.Unit, sL u.1.1 q.1.Tools u.1.2, sL u.2.1 q.1.Steps u.2.2], iv q.2])) (fun O W u => Sl O W eD u.1.1 u.1.2 q.1.Tools ∧ Sl O W aT u.2.1 u.2.2 q.1.Steps) (fun u => []) rfl bK (fun _ => rfl) (wn rfl) rfl Tryz.call20 (ak rfl aQ) (fun W hW hp hE => xe N (gK.mk 1 [] C) none 0 (Sl.nil _ _ _) D E (d4.Hd (hW.mQ hp)) q l1 hE) ?_
    intro w u d5 hu
    obtain ⟨⟨K, L⟩, ⟨M, P⟩⟩ := u
    obtain ⟨g1, g2⟩ := hu
    replace A := A.le d5
    replace d4 := d4.le d5
    replace leB := leB.trans d5
    have e7 : Sl w.O w.W eD K L q.1.Tools := g1 --@phi
    have e8 : Sl w.O w.W aT M P q.1.Steps := g2 --@phi
    dsimp only
    refine aP rfl (fun _ _ a c => kY (a.ev rfl) rfl) (aP rfl (fun _ _ a c => kY (a.ev rfl) rfl) (dm 1 (cs := [iv q.1.Unit, sL K q.1.Tools L, sL M q.1.Steps P]) [iv q.1.Unit, sL K q.1.Tools L, sL M q.1.Steps P] (wn rfl) rfl rfl rfl rfl pE rfl rfl rfl (Tr.k rfl (ae (aa (bg ?_))))))
    obtain rfl := oI H
    exact Tr.out (m := [.agg #[iv q.1.Unit, sL K q.1.Tools L, sL M q.1.Steps P], iv q.2]) [1] (rG rfl rfl tu pE (eU rfl dR)) (fun W hW => ⟨w, ((K, L), (M, P)), leB, rfl, ⟨e7, e8⟩, hW.pick (ks := []) (by decide) bK⟩)

theorem uE (N : Nat) {w : Bs} (p0 : (List aA)) (b : Option Addr) (d : Nat) (f : Sl w.R w.W bE b d p0) (p1 : (List aA)) (g : Option Addr) (i : Nat) (j : Sl w.R w.W bE g i p1) (r : Bool) (H : kD N p0 p1 = some r) (hE : HF w w.W E0) : Calls Tryz.prog 39 [sL b p0 d, sL g p1 i].toArray w.W fun e W' => e = .returned (bV r) ∧ HF w W' E0 := by
 unfold kD at H
 have leB := Bs.Le.refl w
 refine bB (n := 26) Tryz.func39 rfl rfl rfl hE (aj (Tr.k rfl (ae (aa (ay (aj (av rfl (aU (bi qP) rfl (av rfl (aU (bi qP) rfl (az kW rfl rfl (ae (aa (aN rfl H (fun H => ?_) (fun H => ?_)))))))))))))))
 ·refine aj (Tr.k rfl (ae (aa (bg (aL ?_)))))
  obtain rfl := oI H
  exact dM leB
 ·refine aK (aa (ay (aj (Tr.k rfl (ae (aa (Tr.block (bT (σ := Int) (fun m w s => fO p0 p1 m s = some r) (fun s => [(0, sL b p0 d), (1, sL g p1 i), (5, iv s)]) (fun s => []) N 0 H (.r rfl) .nil (fun _ _ h => fU (h)) ?_))))))))
  intro w l E o hs
  have H := hs
  replace H : fO p0 p1 (E + 1) o = some r := H
  replace f := f.qG l
  replace j := j.qG l
  replace leB := leB.trans l
  rw [fO.eq_2] at H
  show Tr _ _ (LF [(0, sL b p0 d), (1, sL g p1 i), (5, iv o)]) (LE []) _
  refine ay (aj (av rfl (av rfl (aU (bi qP) rfl (az aX rfl rfl (ae (aa (aN rfl H (fun H => ?_) (fun H => ?_)))))))))
  ·refine aK (aa (ay (Tr.block (ay (iN (by kernel_rfl) (by kernel_rfl) (bU rfl (bU rfl ?_)))))))
   obtain ⟨q, C, H⟩ := bnd H
   obtain ⟨u, v, y⟩ := aF C
   refine aY rfl (fun _ _ a c => ai oO (a.ev rfl) f.form (a.ev rfl) u v) (aY rfl (fun _ _ a c => aO (cs := [iv q.X, iv q.Y]) lJ iK (a.ev rfl) (aC.take (oM iV f y c) 2) rfl) (bU rfl (bU rfl ?_)))
   obtain ⟨t, D, H⟩ := bnd H
   obtain ⟨z, A, B⟩ := aF D
   refine aY rfl (fun _ _ a c => ai oO (a.ev rfl) j.form (a.ev rfl) z A) (aY rfl (fun _ _ a c => aO (cs := [iv t.X, iv t.Y]) lJ iK (a.ev rfl) (aC.take (oM iV j B c) 2) rfl) (eP (vP q t) rfl rfl (iJ (aa (aN rfl H (fun H => ?_) (fun H => ?_))))))
   ·refine aj (Tr.k rfl (ae (aa (bg (cB (aL (aL (cB (aL ?_)))))))))
    obtain rfl := oI H
    exact dM leB
   ·exact aK (aH (aa (aD (av rfl (az aZ rfl rfl (Tr.k rfl (ae (aB l (bn (o + 1)) H (.r rfl) .nil))))))))
  ·refine bO (au (au (aM (aa (aj (Tr.k rfl (ae (aa (bg ?_)))))))))
   obtain rfl := oI H
   exact dM leB

theorem tX (N : Nat) (rec : (List aJ) → (List aJ) → Option Bool) (hrec : ∀ {w : Bs} (p0 : (List aJ)) (y : Option Addr) (A : Nat) (P : Sl w.R w.W aT y A p0) (p1 : (List aJ)) (z : Option Addr) (C : Nat) (Q : Sl w.R w.W aT z C p1) (r : Bool) (H : rec p0 p1 = some r) (hE : HF w w.W E0), Calls Tryz.prog 21 [sL y p0 A, sL z p1 C].toArray w.W fun e W' => e = .returned (bV r) ∧ HF w W' E0) {w : Bs} (p0 : (List aJ)) (y : Option Addr) (A : Nat) (P : Sl w.R w.W aT y A p0) (p1 : (List aJ)) (z : Option Addr) (C : Nat) (Q : Sl w.R w.W aT z C p1) (r : Bool) (H : kg N rec p0 p1 = some r) (hE : HF w w.W E0) : Calls Tryz.prog 21 [sL y p0 A, sL z p1 C].toArray w.W fun e W' => e = .returned (bV r) ∧ HF w W' E0 := by
 unfold kg at H
 have leB := Bs.Le.refl w
 refine bB (n := 76) Tryz.func21 rfl rfl rfl hE (aj (Tr.k rfl (ae (aa (ay (aj (av rfl (aU (bi xn) rfl (av rfl (aU (bi xn) rfl (az kW rfl rfl (ae (aa (aN rfl H (fun H => ?_) (fun H => ?_)))))))))))))))
 ·refine aj (Tr.k rfl (ae (aa (bg (aL ?_)))))
  obtain rfl := oI H
  exact dM leB
 ·refine aK (aa (ay (aj (Tr.k rfl (ae (aa (Tr.block (bT (σ := Int) (fun m w s => gp N p0 p1 rec m s = some r) (fun s => [(0, sL y p0 A), (1, sL z p1 C), (5, iv s)]) (fun s => []) N 0 H (.r rfl) .nil (fun _ _ h => fU (h)) ?_))))))))
  intro w V c5 B hs
  have H := hs
  replace H : gp N p0 p1 rec (c5 + 1) B = some r := H
  replace P := P.qG V
  replace Q := Q.qG V
  replace leB := leB.trans V
  rw [gp.eq_2] at H
  show Tr _ _ (LF [(0, sL y p0 A), (1, sL z p1 C), (5, iv B)]) (LE []) _
  refine ay (aj (av rfl (av rfl (aU (bi xn) rfl (az aX rfl rfl (ae (aa (aN rfl H (fun H => ?_) (fun H => ?_)))))))))
  ·refine aK (aa (ay (Tr.block (ay (oQ 11 [] [10] (by kernel_rfl) (by kernel_rfl) fun S Z c4 => (aV 0 [(19, sL y p0 A)] (by kernel_rfl) rfl rfl (by kernel_rfl) ?_ rfl rfl ?_))))))
   ·exact bU rfl (Tq.fin (.r rfl))
   refine aV 1 [(20, iv B)] (by kernel_rfl) rfl rfl (by kernel_rfl) ?_ rfl rfl ?_
   ·exact bU rfl (Tq.fin (.r rfl))
   obtain ⟨d, b6, H⟩ := bnd H
   obtain ⟨a3, a4, a5⟩ := aF b6
   obtain ⟨c0, a6, a1, a7⟩ := (P).el a5
   obtain ⟨⟨g, i⟩, ⟨j, l⟩⟩ := c0
   obtain ⟨I, J⟩ := lX.1 a1
   replace I : Sl w.R w.W bE g i d.Points := I
   replace J : Sl w.R w.W aT j l d.Steps := J
   refine aV 2 [(21, .pointer (some ⟨nY y, pF y + (B).toNat * 8, none⟩))] (by kernel_rfl) rfl rfl (by kernel_rfl) ?_ rfl rfl ?_
   ·exact aY rfl (fun _ _ a c => ai EJ (a.ev rfl) P.form (a.ev rfl) a3 a4) (Tq.fin (.r rfl))
   refine aV 3 [(22, .agg #[iv d.Kind, sv d.Name, iv d.At.X, iv d.At.Y, sL g d.Points i, iv d.NX, iv d.NY, sL j d.Steps l])] (by kernel_rfl) rfl rfl (by kernel_rfl) ?_ rfl rfl ?_
   ·exact aY rfl (fun _ _ a c => aO (cs := [iv d.Kind, sv d.Name, iv d.At.X, iv d.At.Y, sL g d.Points i, iv d.NX, iv d.NY, sL j d.Steps l]) Ma zY (a.ev rfl) (aC.take (yM a6 a7 c) 8) rfl) (Tq.fin (.r rfl))
   refine cu 4 (by kernel_rfl) rfl (wn rfl) rfl (by kernel_rfl) (fun _ _ a => run_move (a.ev rfl)) rfl (cu 5 (by kernel_rfl) rfl (wn rfl) rfl (by kernel_rfl) (fun _ _ a => run_move (a.ev rfl)) rfl ?_)
   obtain ⟨f, b7, H⟩ := bnd H
   obtain ⟨a8, a9, b0⟩ := aF b7
   obtain ⟨c3, b1, a2, b2⟩ := (Q).el b0
   obtain ⟨⟨o, q⟩, ⟨t, v⟩⟩ := c3
   obtain ⟨K, L⟩ := lX.1 a2
   replace K : Sl w.R w.W bE o q f.Points := K
   replace L : Sl w.R w.W aT t v f.Steps := L
   refine cu 6 (by kernel_rfl) rfl (wn rfl) rfl (by kernel_rfl) (fun _ _ a => ai EJ (a.ev rfl) Q.form (a.ev rfl) a8 a9) rfl (oK 7 [(26, .agg #[iv f.Kind, sv f.Name, iv f.At.X, iv f.At.Y, sL o f.Points q, iv f.NX, iv f.NY, sL t f.Steps v])] [] true (by kernel_rfl) rfl rfl (by kernel_rfl) (fun W W' c hsW hk => HF.y8 (le := []) (ks := []) (s0 := S) true c hk (fun _ => Z) .nil (fun b hb => hb.elim (fun ⟨_, hp, _⟩ => nomatch hp) (fun hb => .inr ⟨rfl, hb.2, (fun _ h => nomatch h)⟩)) (fun _ h => nomatch h) rfl) ?_ rfl rfl ?_)
   ·exact aY rfl (fun _ _ a c => aO (cs := [iv f.Kind, sv f.Name, iv f.At.X, iv f.At.Y, sL o f.Points q, iv f.NX, iv f.NY, sL t f.Steps v]) Ma zY (a.ev rfl) (aC.take (yM b1 b2 c) 8) rfl) (Tq.fin (.r rfl))
   refine Dr.cut (U := Nat × Nat) [8, 9] 1 (fun u => S ≤ u.1 ∧ S ≤ u.2) (fun u => [(0, sL y p0 A), (1, sL z p1 C), (5, iv B), (6, .pointer (some ⟨u.1, 0, none⟩)), (7, .pointer (some ⟨u.2, 0, none⟩)), (13, iv B), (14, sL y p0 A), (15, iv (p0.length : Int)), (16, bV (decide (B < (p0.length : Int)))), (19, sL y p0 A), (20, iv B), (21, .pointer (some ⟨nY y, pF y + (B).toNat * 8, none⟩)), (22, .agg #[iv d.Kind, sv d.Name, iv d.At.X, iv d.At.Y, sL g d.Points i, iv d.NX, iv d.NY, sL j d.Steps l]), (23, sL z p1 C), (24, iv B), (25, .pointer (some ⟨nY z, pF z + (B).toNat * 8, none⟩)), (26, .agg #[iv f.Kind, sv f.Name, iv f.At.X, iv f.At.Y, sL o f.Points q, iv f.NX, iv f.NY, sL t f.Steps v])]) (fun u => [(5, bx u.1 #[iv 0, sv ⟨#[]⟩, iv 0, iv 0, .slice none 0 0, iv 0, iv 0, .slice none 0 0] 53), (6, bx u.2 #[iv 0, sv ⟨#[]⟩, iv 0, iv 0, .slice none 0 0, iv 0, iv 0, .slice none 0 0] 53)]) ?_ ?_
   ·intro hC
    refine Dw 8 9 (by kernel_rfl) ?_ ?_
    ·exact St.alloc 8 5 rfl (wn rfl) rfl KO fun D G => (Dr.one 9 (by kernel_rfl) (St.alloc 9 6 rfl (wn rfl) rfl KO fun E T => ((hC ⟨D, E⟩ ⟨G, T⟩).use (by kernel_rfl) (.r rfl) (.r rfl))))
    ·exact St.alloc 9 6 rfl (wn rfl) rfl KO fun E T => (Dr.one 8 (by kernel_rfl) (St.alloc 8 5 rfl (wn rfl) rfl KO fun D G => ((hC ⟨D, E⟩ ⟨G, T⟩).use (by kernel_rfl) (.r rfl) (.r rfl))))
   intro u hu
   obtain ⟨D, E⟩ := u
   obtain ⟨G, T⟩ := hu
   replace G : S ≤ D := G
   dsimp only
   refine Dr.one 10 (by kernel_rfl) (zq 10 5 (cs := [iv d.Kind, sv d.Name, iv d.At.X, iv d.At.Y, sL g d.Points i, iv d.NX, iv d.NY, sL j d.Steps l]) [iv d.Kind, sv d.Name, iv d.At.X, iv d.At.Y, sL g d.Points i, iv d.NX, iv d.NY, sL j d.Steps l] rfl (wn rfl) (.inr ⟨by simp, G⟩) rfl rfl rfl rfl zY rfl rfl rfl (qN (by kernel_rfl) (dm 6 (cs := [iv f.Kind, sv f.Name, iv f.At.X, iv f.At.Y, sL o f.Points q, iv f.NX, iv f.NY, sL t f.Steps v]) [iv f.Kind, sv f.Name, iv f.At.X, iv f.At.Y, sL o f.Points q, iv f.NX, iv f.NY, sL t f.Steps v] (wn rfl) rfl rfl rfl rfl zY rfl rfl rfl (ae (aa (aj (aU (ag yc) rfl (aP rfl (fun _ _ a c => ah bQ (a.ev rfl) (dZ c (vs := [iv d.Kind, sv d.Name, iv d.At.X, iv d.At.Y, sL g d.Points i, iv d.NX, iv d.NY, sL j d.Steps l]) (k := 5) rfl 0) rfl) (aU (ag yc) rfl (aP rfl (fun _ _ a c => ah bQ (a.ev rfl) (dZ c (vs := [iv f.Kind, sv f.Name, iv f.At.X, iv f.At.Y, sL o f.Points q, iv f.NX, iv f.NY, sL t f.Steps v]) (k := 6) rfl 0) rfl) (az kW rfl rfl (av rfl (dW 6 [(0, sL y p0 A), (1, sL z p1 C), (5, iv B), (6, pV D), (7, pV E), (38, bV ((d.Kind != f.Kind) || (!yL d.Name f.Name)))] [(5, bx D #[iv d.Kind, sv d.Name, iv d.At.X, iv d.At.Y, sL g d.Points i, iv d.NX, iv d.NY, sL j d.Steps l] 53), (6, bx E #[iv f.Kind, sv f.Name, iv f.At.X, iv f.At.Y, sL o f.Points q, iv f.NX, iv f.NY, sL t f.Steps v] 53)] ?_ ?_)))))))))))))
   ·cases F : (d.Kind != f.Kind)
    ·exact cz (ag Dn) rfl (Tr.x (fun _ _ a c => ah P5 (a.ev rfl) (dZ c (vs := [iv d.Kind, sv d.Name, iv d.At.X, iv d.At.Y, sL g d.Points i, iv d.NX, iv d.NY, sL j d.Steps l]) (k := 5) rfl 1) rfl) (cz (ag Dn) rfl (Tr.x (fun _ _ a c => ah P5 (a.ev rfl) (dZ c (vs := [iv f.Kind, sv f.Name, iv f.At.X, iv f.At.Y, sL o f.Points q, iv f.NX, iv f.NY, sL t f.Steps v]) (k := 6) rfl 1) rfl) (iZ Ny rfl rfl (az bv rfl rfl (ae (bu (.r rfl) (.r rfl))))))))
    ·exact aS rfl (aS rfl (aS rfl (aS rfl (aS rfl (az bC rfl rfl (ae (bu (.r rfl) (.r rfl))))))))
   ·show Tr _ _ (LF [(0, sL y p0 A), (1, sL z p1 C), (5, iv B), (6, pV D), (7, pV E), (38, bV ((d.Kind != f.Kind) || (!yL d.Name f.Name)))]) (LE [(5, bx D #[iv d.Kind, sv d.Name, iv d.At.X, iv d.At.Y, sL g d.Points i, iv d.NX, iv d.NY, sL j d.Steps l] 53), (6, bx E #[iv f.Kind, sv f.Name, iv f.At.X, iv f.At.Y, sL o f.Points q, iv f.NX, iv f.NY, sL t f.Steps v] 53)]) _
    refine av rfl (dW 6 [(0, sL y p0 A), (1, sL z p1 C), (5, iv B), (6, pV D), (7, pV E), (45, bV (((d.Kind != f.Kind) || (!yL d.Name f.Name)) || (!(fB d.At f.At))))] [(5, bx D #[iv d.Kind, sv d.Name, iv d.At.X, iv d.At.Y, sL g d.Points i, iv d.NX, iv d.NY, sL j d.Steps l] 53), (6, bx E #[iv f.Kind, sv f.Name, iv f.At.X, iv f.At.Y, sL o f.Points q, iv f.NX, iv f.NY, sL t f.Steps v] 53)] ?_ ?_)
    ·cases F : ((d.Kind != f.Kind) || (!yL d.Name f.Name))
     ·exact cz (ag Dm) rfl (Tr.x (fun _ _ a c => aO (cs := [iv d.At.X, iv d.At.Y]) lJ iK (a.ev rfl) (aC.take (dZ c (vs := [iv d.Kind, sv d.Name, iv d.At.X, iv d.At.Y, sL g d.Points i, iv d.NX, iv d.NY, sL j d.Steps l]) (k := 5) rfl 2) 2) rfl) (cz (ag Dm) rfl (Tr.x (fun _ _ a c => aO (cs := [iv f.At.X, iv f.At.Y]) lJ iK (a.ev rfl) (aC.take (dZ c (vs := [iv f.Kind, sv f.Name, iv f.At.X, iv f.At.Y, sL o f.Points q, iv f.NX, iv f.NY, sL t f.Steps v]) (k := 6) rfl 2) 2) rfl) (iZ (vP d.At f.At) rfl rfl (az bv rfl rfl (ae (bu (.r rfl) (.r rfl))))))))
     ·exact aS rfl (aS rfl (aS rfl (aS rfl (aS rfl (az bC rfl rfl (ae (bu (.r rfl) (.r rfl))))))))
    ·show Tr _ _ (LF [(0, sL y p0 A), (1, sL z p1 C), (5, iv B), (6, pV D), (7, pV E), (45, bV (((d.Kind != f.Kind) || (!yL d.Name f.Name)) || (!(fB d.At f.At))))]) (LE [(5, bx D #[iv d.Kind, sv d.Name, iv d.At.X, iv d.At.Y, sL g d.Points i, iv d.NX, iv d.NY, sL j d.Steps l] 53), (6, bx E #[iv f.Kind, sv f.Name, iv f.At.X, iv f.At.Y, sL o f.Points q, iv f.NX, iv f.NY, sL t f.Steps v] 53)]) _
     refine av rfl (dW 6 [(0, sL y p0 A), (1, sL z p1 C), (5, iv B), (6, pV D), (7, pV E), (52, bV ((((d.Kind != f.Kind) || (!yL d.Name f.Name)) || (!(fB d.At f.At))) || (d.NX != f.NX)))] [(5, bx D #[iv d.Kind, sv d.Name, iv d.At.X, iv d.At.Y, sL g d.Points i, iv d.NX, iv d.NY, sL j d.Steps l] 53), (6, bx E #[iv f.Kind, sv f.Name, iv f.At.X, iv f.At.Y, sL o f.Points q, iv f.NX, iv f.NY, sL t f.Steps v] 53)] ?_ ?_)
     ·cases F : (((d.Kind != f.Kind) || (!yL d.Name f.Name)) || (!(fB d.At f.At)))
      ·exact cz (ag Dk) rfl (Tr.x (fun _ _ a c => ah bQ (a.ev rfl) (dZ c (vs := [iv d.Kind, sv d.Name, iv d.At.X, iv d.At.Y, sL g d.Points i, iv d.NX, iv d.NY, sL j d.Steps l]) (k := 5) rfl 5) rfl) (cz (ag Dk) rfl (Tr.x (fun _ _ a c => ah bQ (a.ev rfl) (dZ c (vs := [iv f.Kind, sv f.Name, iv f.At.X, iv f.At.Y, sL o f.Points q, iv f.NX, iv f.NY, sL t f.Steps v]) (k := 6) rfl 5) rfl) (iZ kW rfl rfl (az bv rfl rfl (ae (bu (.r rfl) (.r rfl))))))))
      ·exact aS rfl (aS rfl (aS rfl (aS rfl (aS rfl (az bC rfl rfl (ae (bu (.r rfl) (.r rfl))))))))
     ·show Tr _ _ (LF [(0, sL y p0 A), (1, sL z p1 C), (5, iv B), (6, pV D), (7, pV E), (52, bV ((((d.Kind != f.Kind) || (!yL d.Name f.Name)) || (!(fB d.At f.At))) || (d.NX != f.NX)))]) (LE [(5, bx D #[iv d.Kind, sv d.Name, iv d.At.X, iv d.At.Y, sL g d.Points i, iv d.NX, iv d.NY, sL j d.Steps l] 53), (6, bx E #[iv f.Kind, sv f.Name, iv f.At.X, iv f.At.Y, sL o f.Points q, iv f.NX, iv f.NY, sL t f.Steps v] 53)]) _
      refine av rfl (dW 6 [(0, sL y p0 A), (1, sL z p1 C), (5, iv B), (6, pV D), (7, pV E), (59, bV (((((d.Kind != f.Kind) || (!yL d.Name f.Name)) || (!(fB d.At f.At))) || (d.NX != f.NX)) || (d.NY != f.NY)))] [(5, bx D #[iv d.Kind, sv d.Name, iv d.At.X, iv d.At.Y, sL g d.Points i, iv d.NX, iv d.NY, sL j d.Steps l] 53), (6, bx E #[iv f.Kind, sv f.Name, iv f.At.X, iv f.At.Y, sL o f.Points q, iv f.NX, iv f.NY, sL t f.Steps v] 53)] ?_ ?_)
      ·cases F : ((((d.Kind != f.Kind) || (!yL d.Name f.Name)) || (!(fB d.At f.At))) || (d.NX != f.NX))
       ·exact cz (ag Di) rfl (Tr.x (fun _ _ a c => ah bQ (a.ev rfl) (dZ c (vs := [iv d.Kind, sv d.Name, iv d.At.X, iv d.At.Y, sL g d.Points i, iv d.NX, iv d.NY, sL j d.Steps l]) (k := 5) rfl 6) rfl) (cz (ag Di) rfl (Tr.x (fun _ _ a c => ah bQ (a.ev rfl) (dZ c (vs := [iv f.Kind, sv f.Name, iv f.At.X, iv f.At.Y, sL o f.Points q, iv f.NX, iv f.NY, sL t f.Steps v]) (k := 6) rfl 6) rfl) (iZ kW rfl rfl (az bv rfl rfl (ae (bu (.r rfl) (.r rfl))))))))
       ·exact aS rfl (aS rfl (aS rfl (aS rfl (aS rfl (az bC rfl rfl (ae (bu (.r rfl) (.r rfl))))))))
      ·show Tr _ _ (LF [(0, sL y p0 A), (1, sL z p1 C), (5, iv B), (6, pV D), (7, pV E), (59, bV (((((d.Kind != f.Kind) || (!yL d.Name f.Name)) || (!(fB d.At f.At))) || (d.NX != f.NX)) || (d.NY != f.NY)))]) (LE [(5, bx D #[iv d.Kind, sv d.Name, iv d.At.X, iv d.At.Y, sL g d.Points i, iv d.NX, iv d.NY, sL j d.Steps l] 53), (6, bx E #[iv f.Kind, sv f.Name, iv f.At.X, iv f.At.Y, sL o f.Points q, iv f.NX, iv f.NY, sL t f.Steps v] 53)]) _
       refine av rfl ?_
       obtain ⟨a0, M, H⟩ := bnd H
       refine dW 7 [(0, sL y p0 A), (1, sL z p1 C), (5, iv B), (6, pV D), (7, pV E), (67, bV a0)] [(5, bx D #[iv d.Kind, sv d.Name, iv d.At.X, iv d.At.Y, sL g d.Points i, iv d.NX, iv d.NY, sL j d.Steps l] 53), (6, bx E #[iv f.Kind, sv f.Name, iv f.At.X, iv f.At.Y, sL o f.Points q, iv f.NX, iv f.NY, sL t f.Steps v] 53)] ?_ ?_
       ·cases F : (((((d.Kind != f.Kind) || (!yL d.Name f.Name)) || (!(fB d.At f.At))) || (d.NX != f.NX)) || (d.NY != f.NY))
        ·rw [F] at M
         rw [if_neg (by decide)] at M
         have H := M
         refine cz (ag Dl) rfl (Tr.x (fun _ _ a c => ah tq (a.ev rfl) (dZ c (vs := [iv d.Kind, sv d.Name, iv d.At.X, iv d.At.Y, sL g d.Points i, iv d.NX, iv d.NY, sL j d.Steps l]) (k := 5) rfl 4) rfl) (cz (ag Dl) rfl (Tr.x (fun _ _ a c => ah tq (a.ev rfl) (dZ c (vs := [iv f.Kind, sv f.Name, iv f.At.X, iv f.At.Y, sL o f.Points q, iv f.NX, iv f.NY, sL t f.Steps v]) (k := 6) rfl 4) rfl) ?_)))
         obtain ⟨b3, b8, H⟩ := bnd H
         refine dn (r := (bV b3)) (wg rfl rfl rfl) rfl Tryz.call39 (ak rfl (ak rfl aQ)) (fun W hW => uE N d.Points g i (I.ext hW.dC) f.Points o q (K.ext hW.dC) b3 b8 (HF.start _)) (cz jP rfl (az bv rfl rfl ?_))
         obtain rfl := oI H
         exact ae (bu (.r rfl) (.r rfl))
        ·rw [F] at M
         rw [if_pos rfl] at M
         have H := M
         obtain rfl := oI H
         exact aS rfl (aS rfl (aS rfl (aS rfl (aS rfl (aS rfl (az bC rfl rfl (ae (bu (.r rfl) (.r rfl)))))))))
       ·show Tr _ _ (LF [(0, sL y p0 A), (1, sL z p1 C), (5, iv B), (6, pV D), (7, pV E), (67, bV a0)]) (LE [(5, bx D #[iv d.Kind, sv d.Name, iv d.At.X, iv d.At.Y, sL g d.Points i, iv d.NX, iv d.NY, sL j d.Steps l] 53), (6, bx E #[iv f.Kind, sv f.Name, iv f.At.X, iv f.At.Y, sL o f.Points q, iv f.NX, iv f.NY, sL t f.Steps v] 53)]) _
        refine av rfl ?_
        obtain ⟨b4, O, H⟩ := bnd H
        refine dW 7 [(0, sL y p0 A), (1, sL z p1 C), (5, iv B), (75, bV b4)] [(5, bx D #[iv d.Kind, sv d.Name, iv d.At.X, iv d.At.Y, sL g d.Points i, iv d.NX, iv d.NY, sL j d.Steps l] 53), (6, bx E #[iv f.Kind, sv f.Name, iv f.At.X, iv f.At.Y, sL o f.Points q, iv f.NX, iv f.NY, sL t f.Steps v] 53)] ?_ ?_
        ·cases F : a0
         ·rw [F] at O
          rw [if_neg (by decide)] at O
          have H := O
          refine cz (ag Be) rfl (Tr.x (fun _ _ a c => ah uX (a.ev rfl) (dZ c (vs := [iv d.Kind, sv d.Name, iv d.At.X, iv d.At.Y, sL g d.Points i, iv d.NX, iv d.NY, sL j d.Steps l]) (k := 5) rfl 7) rfl) (cz (ag Be) rfl (Tr.x (fun _ _ a c => ah uX (a.ev rfl) (dZ c (vs := [iv f.Kind, sv f.Name, iv f.At.X, iv f.At.Y, sL o f.Points q, iv f.NX, iv f.NY, sL t f.Steps v]) (k := 6) rfl 7) rfl) ?_)))
          obtain ⟨b5, b9, H⟩ := bnd H
          refine dn (r := (bV b5)) (wg rfl rfl rfl) rfl Tryz.call21 (ak rfl (ak rfl aQ)) (fun W hW => hrec d.Steps j l (J.ext hW.dC) f.Steps t v (L.ext hW.dC) b5 b9 (HF.start _)) (cz jP rfl (az bv rfl rfl ?_))
          obtain rfl := oI H
          exact ae (bu (.r rfl) (.r rfl))
         ·rw [F] at O
          rw [if_pos rfl] at O
          have H := O
          obtain rfl := oI H
          exact aS rfl (aS rfl (aS rfl (aS rfl (aS rfl (aS rfl (az bC rfl rfl (ae (bu (.r rfl) (.r rfl)))))))))
        ·show Tr _ _ (LF [(0, sL y p0 A), (1, sL z p1 C), (5, iv B), (75, bV b4)]) (LE [(5, bx D #[iv d.Kind, sv d.Name, iv d.At.X, iv d.At.Y, sL g d.Points i, iv d.NX, iv d.NY, sL j d.Steps l] 53), (6, bx E #[iv f.Kind, sv f.Name, iv f.At.X, iv f.At.Y, sL o f.Points q, iv f.NX, iv f.NY, sL t f.Steps v] 53)]) _
         refine ae (aa (aN rfl H (fun H => ?_) (fun H => ?_)))
         ·refine aj (Tr.k rfl (ae (aa (bg (cB (aL (aL (cB (aL ?_)))))))))
          obtain rfl := oI H
          exact dM leB
         ·exact aK (aH (aa (aD (av rfl (az aZ rfl rfl (Tr.k rfl (ae (aB V (bn (B + 1)) H (.r rfl) .nil))))))))
  ·refine bO (au (au (aM (aa (aj (Tr.k rfl (ae (aa (bg ?_)))))))))
   obtain rfl := oI H
   exact dM leB
theorem qD : ∀ (N : Nat) {w : Bs} (p0 : (List aJ)) (a : Option Addr) (b : Nat) (f : Sl w.R w.W aT a b p0) (p1 : (List aJ)) (c : Option Addr) (d : Nat) (g : Sl w.R w.W aT c d p1) (r : Bool) (H : kU N p0 p1 = some r) (hE : HF w w.W E0), Calls Tryz.prog 21 [sL a p0 b, sL c p1 d].toArray w.W fun e W' => e = .returned (bV r) ∧ HF w W' E0
 | 0 => by intros; rename_i H _; cases H
 | N + 1 => tX N (kU N) (qD N)

end Go.Proofs.YtcjeebkoafonpaaGreatDoor
