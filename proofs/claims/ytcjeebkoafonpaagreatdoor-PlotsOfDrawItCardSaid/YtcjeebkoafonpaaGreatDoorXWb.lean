/- The walks: each function computes its plain function. -/
import Derived.Test.YtcjeebkoafonpaaGreatDoorXWa
namespace Go.Proofs.YtcjeebkoafonpaaGreatDoor
open Go.RowKit
set_option maxRecDepth 100000
set_option maxHeartbeats 1000000
theorem Ar {w : Bs} (p0 : (List fE)) (F : Option Addr) (G : Nat) (A : Sl w.R w.W eO F G p0) (r : (List au)) (H : pg p0 = some r) (hE : HF w w.W (iF [emp])) : Calls Tryz.prog 73 [sL F p0 G].toArray w.W fun e W' => ∃ u : (Option Addr × Nat), e = .returned (sL u.1 r u.2) ∧ (dM u.1 r.length u.2) ∧ HF w W' (iF [ow u.1 u.2 47 aX r]) := by
 unfold pg at H
 have leB := Bs.Le.refl w
 refine aZ (n := 60) Tryz.func73 rfl rfl rfl hE (ai (Tr.k rfl (bM 1 47 aX ?_)))
 show Tr _ _ (uf _ 2 (sL none (([] : List au)) 0)) _ _
 refine ae (aa (ai (Tr.k rfl (bM 2 47 aX ?_))))
 show Tr _ _ (uf _ 3 (sL none (([] : List au)) 0)) _ _
 refine ae (aa (az (ai (aA rfl (aT (bz yD) rfl (aA rfl (ae (aa (Tr.block (df (σ := (List fE) × Nat × (List au) × (Option Addr) × Nat) (fun m w s => m = s.1.length + 1 ∧ s.1 = List.drop s.2.1 p0 ∧ s.2.1 ≤ p0.length ∧ gF p0 s.1 s.2.1 s.2.2.1 = some r ∧ dM s.2.2.2.1 s.2.2.1.length s.2.2.2.2) (fun s => [(0, sL F p0 G), (3, sL s.2.2.2.1 s.2.2.1 s.2.2.2.2), (9, sL F p0 G), (10, iv (p0.length : Int)), (11, iv (s.2.1 : Int))]) (fun s => [(2, ow s.2.2.2.1 s.2.2.2.2 47 aX s.2.2.1)]) (p0.length + 1) (p0, 0, ([] : List au), none, 0) ⟨rfl, rfl, Nat.zero_le _, H, gL⟩ (.r rfl) (.r rfl) (fun _ _ h => absurd h.1 (by simp)) ?_))))))))))
 intro w M m s hs
 obtain ⟨i, P, g, f, b⟩ := s
 obtain ⟨Q, o, c7, H, v⟩ := hs
 replace o : i = List.drop P p0 := o
 replace H : gF p0 i P g = some r := H
 replace Q : m + 1 = i.length + 1 := Q
 replace A := A.nL M
 replace leB := leB.trans M
 replace v : dM f g.length b := v
 obtain rfl : m = i.length := by omega
 clear Q
 dsimp only
 cases i with
 | nil =>
  rw [gF.eq_1] at H
  refine ai (aC bg rfl rfl (ae (aa (az (eQ rfl (dZ o) (bW (aB (aB (aR (aa (ai (Tr.k rfl (ae (aa (az (ai (aA rfl (aT (bz qc) rfl (aA rfl (ae (aa (Tr.block (df (σ := (List au) × Nat × Int) (fun m w s => m = s.1.length + 1 ∧ s.1 = List.drop s.2.1 g ∧ s.2.1 ≤ g.length ∧ fU g s.1 s.2.1 s.2.2 = some r) (fun s => [(3, sL f g b), (6, iv s.2.2), (37, sL f g b), (38, iv (g.length : Int)), (39, iv (s.2.1 : Int))]) (fun s => [(2, ow f b 47 aX g)]) (g.length + 1) (g, 0, 0) ⟨rfl, rfl, Nat.zero_le _, H⟩ (.r rfl) (.r rfl) (fun _ _ h => absurd h.1 (by simp)) ?_)))))))))))))))))))))))
  intro w S m s hs
  obtain ⟨j, L, y⟩ := s
  obtain ⟨T, q, c8, H⟩ := hs
  replace q : j = List.drop L g := q
  replace H : fU g j L y = some r := H
  replace T : m + 1 = j.length + 1 := T
  replace leB := leB.trans S
  obtain rfl : m = j.length := by omega
  clear T
  dsimp only
  cases j with
  | nil =>
   rw [fU.eq_1] at H
   refine ai (aC bg rfl rfl (ae (aa (az (eQ rfl (dZ q) (bW (aB (aB (aR (aa (az (kG 6 (by kernel_rfl) (by kernel_rfl) (dD rfl (dD rfl ?_))))))))))))))
   obtain ⟨I, a0, H⟩ := bnd H
   refine bi rfl (fun _ _ a c => uX qH (a.ev rfl) v (a.ev rfl) a0) (dD rfl (dD rfl ?_))
   obtain ⟨J, a1, H⟩ := bnd H
   refine bi rfl (fun _ _ a c => GL qH (a.ev rfl) v (a.ev rfl) a1) (iE (Tr.freeze 2 rfl fun w b2 a2 => ?_))
   replace leB := leB.trans b2
   refine dS 9 (e := 43) (vs := [(0, sL (uF f y.toNat 2 b) I (b - y.toNat)), (1, sL f J b)]) (cs := [sL (uF f y.toNat 2 b) I (b - y.toNat), sL f J b]) (wn rfl) rfl (bH rfl (bH rfl eF)) (by kernel_rfl) fun c5 => (Tr.own 9 dV [I, J] (css := [[sL (uF f y.toNat 2 b) I (b - y.toNat)], [sL f J b]]) rfl (.cons ⟨((uF f y.toNat 2 b), (b - y.toNat)), (Sl.cut a2 a0), rfl⟩ (.cons ⟨(f, b), (Sl.pre a2 a1), rfl⟩ .nil)) rfl (by decide) (vU rfl) ?_)
   obtain ⟨D, b3, H⟩ := bnd H
   refine ja [10] [emp] (U := (Option Addr × Nat)) (fun u => (sL u.1 D u.2)) (fun u => dM u.1 D.length u.2) (fun u => [ow u.1 u.2 47 aX D]) rfl (aH rfl bn) (fun _ => rfl) (wn rfl) rfl Tryz.call117 (aj rfl aL) (fun W hW hp hE => wF [I, J] (some ⟨c5, 0, none⟩) 2 (hW.Qq (k := 9) rfl hp rfl) D b3 hE) ?_
   intro u hu
   obtain ⟨B, C⟩ := u
   have a3 := hu
   have V : dM B D.length C := a3 --@phi
   dsimp only
   refine Tr.k rfl (ae (aa (aW ?_)))
   obtain rfl := oI H
   exact Tr.out (m := [sL B D C]) [] (cO rfl bO) (fun W hW => ⟨(B, C), rfl, V, HF.zK leB (hW.pick (ks := [10]) (by decide) (aH rfl bn)) ⟨qI _ _ _ _ uP, trivial⟩⟩)
  | cons E j =>
   rw [fU.eq_2] at H
   refine ai (aC bg rfl rfl (ae (aa (az (eP rfl (fJ q) (aN (aa (az (Tr.block (ai (aA rfl (aG rfl (fun _ _ a c => ak qH (a.ev rfl) v (a.ev rfl) (Int.natCast_nonneg _) (bF q)) (aG rfl (fun _ _ a c => aM (cs := [iv E.X, iv E.Y]) jZ gV (a.ev rfl) (aF.take (Ac jF (k := 2) c rfl (gy q)) 2) rfl) (Tr.alloc 11 (wn rfl) rfl vQ fun c9 => (Tr.k rfl (bJ 11 (cs := [iv E.X, iv E.Y]) [iv E.X, iv E.Y] (wn rfl) rfl rfl rfl rfl gV rfl rfl rfl (ae (aa (az (jb (by kernel_rfl) (by kernel_rfl) (bi rfl (fun _ _ a c => aM (cs := [iv E.X, iv E.Y]) jZ gV (a.ev rfl) (aF.take (dR c (vs := [iv E.X, iv E.Y]) (k := 11) rfl 0) 2) rfl) ?_)))))))))))))))))))))
   refine dD rfl (dD rfl ?_)
   obtain ⟨Z, b4, H⟩ := bnd H
   obtain ⟨a4, a5, a6⟩ := aU b4
   refine bi rfl (fun _ _ a c => ak qH (a.ev rfl) v (a.ev rfl) a4 a5) (bi rfl (fun _ _ a c => aM (cs := [iv Z.X, iv Z.Y]) jZ gV (a.ev rfl) (aF.take (Ac jF (k := 2) c rfl a6) 2) rfl) ?_)
   obtain ⟨a7, b5, H⟩ := bnd H
   refine qV (r := (bV a7)) (wn rfl) rfl Tryz.call76 (aj rfl (aj rfl aL)) (fun W hW => uA E Z a7 b5 (HF.start _)) (iE (aa (aP rfl H (fun H => ?_) (fun H => ?_))))
   ·exact aI (aA rfl (Tr.k rfl (ae (aJ (aa (aI (aC bv rfl rfl (aA rfl (ae (aD S (j, (L + 1), (L : Int)) ⟨rfl, fe q, bF q, H⟩ (.cons rfl (.cons rfl (.cons rfl (.cons rfl (.cons (congrArg (fun z => some (Value.int .i64 z)) (eZ q v)) .nil))))) (.r rfl)))))))))))
   ·exact aN (aJ (aa (aI (aC bv rfl rfl (aA rfl (ae (aD S (j, (L + 1), y) ⟨rfl, fe q, bF q, H⟩ (.cons rfl (.cons rfl (.cons rfl (.cons rfl (.cons (congrArg (fun z => some (Value.int .i64 z)) (eZ q v)) .nil))))) (.r rfl))))))))
 | cons d i =>
  rw [gF.eq_2] at H
  refine ai (aC bg rfl rfl (ae (aa (az (eP rfl (fJ o) (aN (aa (az (Tr.block (ai (aA rfl (aG rfl (fun _ _ a c => ak wC (a.ev rfl) A.form (a.ev rfl) (Int.natCast_nonneg _) (bF o)) (aG rfl (fun _ _ a c => aM (cs := [iv d.from_.X, iv d.from_.Y, iv d.to_.X, iv d.to_.Y]) sP qf (a.ev rfl) (aF.take (uZ qU A (gy o) c) 4) rfl) (Tr.alloc 12 (wn rfl) rfl NG fun d0 => (Tr.k rfl (bJ 12 (cs := [iv d.from_.X, iv d.from_.Y, iv d.to_.X, iv d.to_.Y]) [iv d.from_.X, iv d.from_.Y, iv d.to_.X, iv d.to_.Y] (wn rfl) rfl rfl rfl rfl qf rfl rfl rfl (ae (aa (az (jb (by kernel_rfl) (by kernel_rfl) (bi rfl (fun _ _ a c => aM (cs := [iv d.from_.X, iv d.from_.Y, iv d.to_.X, iv d.to_.Y]) sP qf (a.ev rfl) (aF.take (dR c (vs := [iv d.from_.X, iv d.from_.Y, iv d.to_.X, iv d.to_.Y]) (k := 12) rfl 0) 4) rfl) ?_)))))))))))))))))))))
  obtain ⟨N, b6, H⟩ := bnd H
  refine qV (r := (.agg #[iv N.X, iv N.Y])) (wn rfl) rfl Tryz.call70 (aj rfl aL) (fun W hW => kU d N b6 (HF.start _)) (dD rfl (dD rfl (dD rfl (fQ (bz yD) rfl (fO bv rfl rfl (fO gH rfl rfl (dD rfl (fQ (bz yD) rfl ?_))))))))
  obtain ⟨d1, b7, H⟩ := bnd H
  refine bi rfl (fun _ _ a c => GM (a.ev rfl) (a.ev rfl) b7) ?_
  obtain ⟨K, b8, H⟩ := bnd H
  obtain ⟨a8, a9, b0⟩ := aU b8
  refine bi rfl (fun _ _ a c => ak wC (a.ev rfl) A.form (a.ev rfl) a8 a9) (bi rfl (fun _ _ a c => aM (cs := [iv K.from_.X, iv K.from_.Y, iv K.to_.X, iv K.to_.Y]) sP qf (a.ev rfl) (aF.take (uZ qU A b0 c) 4) rfl) ?_)
  obtain ⟨O, b9, H⟩ := bnd H
  refine qV (r := (.agg #[iv O.X, iv O.Y])) (wn rfl) rfl Tryz.call70 (aj rfl aL) (fun W hW => kU K O b9 (HF.start _)) (fO (xx N O) rfl rfl (iE (aa (aP rfl H (fun H => ?_) (fun H => ?_)))))
  ·refine aI (aA rfl (aT (ag yR) rfl (aG rfl (fun _ _ a c => aM (cs := [iv d.from_.X, iv d.from_.Y]) jZ gV (a.ev rfl) (aF.take (dR c (vs := [iv d.from_.X, iv d.from_.Y, iv d.to_.X, iv d.to_.Y]) (k := 12) rfl 0) 2) rfl) (dS 13 (e := 47) (vs := [(0, .agg #[iv d.from_.X, iv d.from_.Y])]) (cs := [iv d.from_.X, iv d.from_.Y]) (wn rfl) rfl (bH rfl eF) (by kernel_rfl) fun d2 => ?_))))
   obtain ⟨c6, c0, H⟩ := bnd H
   exact Tr.append 2 (t := aX) (l := g) (l2 := [d.from_]) (wn rfl) rfl rfl rfl rfl (fun W hW => ⟨[[iv d.from_.X, iv d.from_.Y]], (.cons ⟨(), trivial, rfl⟩ .nil), dR hW (vs := [iv d.from_.X, iv d.from_.Y]) (k := 13) rfl 0⟩) qc gV Ik (by decide) Jz rfl c0 fun c3 c4 b1 => (Tr.k rfl (ae (aJ (aa (aI (aC bv rfl rfl (aA rfl (ae (aD M (i, (P + 1), c6, c3, c4) ⟨rfl, fe o, bF o, H, b1⟩ (.cons rfl (.cons rfl (.cons rfl (.cons rfl (.cons (congrArg (fun z => some (Value.int .i64 z)) (eZ o A.form)) .nil))))) (.r rfl))))))))))
  ·exact aN (aJ (aa (aI (aC bv rfl rfl (aA rfl (ae (aD M (i, (P + 1), g, f, b) ⟨rfl, fe o, bF o, H, v⟩ (.cons rfl (.cons rfl (.cons rfl (.cons rfl (.cons (congrArg (fun z => some (Value.int .i64 z)) (eZ o A.form)) .nil))))) (.r rfl))))))))

theorem uy {w : Bs} (p0 : List (List au)) (a : Option Addr) (b : Nat) (p1 : (List au) → (List au) → Option Int) (fid1 : Nat) (c : List Value) (hg1 : ∀ args W, (callFunc fid1 args).run Tryz.prog W = .ok (.enter fid1 args) W) (hf1 : ∀ (w' : Bs), w.Ext w' → ∀ (z0 : (List au)) (A0 : Option Addr) (c0 : Nat), Sl w'.R w'.W aX A0 c0 z0 → ∀ (z1 : (List au)) (A1 : Option Addr) (c1 : Nat), Sl w'.R w'.W aX A1 c1 z1 → ∀ y, p1 z0 z1 = some y → Calls Tryz.prog fid1 (([sL A0 z0 c0, sL A1 z1 c1] : List Value) ++ c).toArray w'.W fun e W'' => e = .returned (iv y) ∧ HF w' W'' E0) (r : List (List au)) (H : DT p0 p1 = some r) (hE : HF w w.W (iF [ow a b 43 dV p0])) : Calls Tryz.prog 74 [sL a p0 b, .func (.func fid1) #[] c.toArray].toArray w.W fun e W' => ∃ u : Unit, e = .returned (.tuple #[]) ∧ (r.length = p0.length) ∧ HF w W' (iF [ow a b 43 dV r]) :=
 DW (ρ := Tryz.FD) Tryz.Ua rfl (fun _ _ u x h => ⟨(u, x), rfl, rfl, h⟩) (fun _ _ p h => ⟨p.1, h, rfl⟩) hg1 hf1 H hE

theorem vN {w : Bs} (p0 : (List au)) (u : Option Addr) (v : Nat) (b : Sl w.R w.W aX u v p0) (p1 : (List au)) (y : Option Addr) (z : Nat) (d : Sl w.R w.W aX y z p1) (r : Int) (H : dP p0 p1 = some r) (hE : HF w w.W E0) : Calls Tryz.prog 75 [sL u p0 v, sL y p1 z].toArray w.W fun e W' => e = .returned (iv r) ∧ HF w W' E0 := by
 unfold dP at H
 have leB := Bs.Le.refl w
 refine aZ (n := 29) Tryz.func75 rfl rfl rfl hE (ai (Tr.k rfl (ae (aa (az (Tr.block ?_))))))
 have i := Bs.Le.refl w
 refine kT (σ := Bool) (fun w s => gG s = some r) (fun s => [(5, bV s)]) (fun s => []) ?_ ?_
 ·refine az (jb (by kernel_rfl) (by kernel_rfl) (dD rfl ?_))
  obtain ⟨j, a2, H⟩ := bnd H
  obtain ⟨B, C, D⟩ := aU a2
  refine bi rfl (fun _ _ a c => ak qH (a.ev rfl) b.form (a.ev rfl) B C) (bi rfl (fun _ _ a c => aM (cs := [iv j.X, iv j.Y]) jZ gV (a.ev rfl) (aF.take (uZ jF b D c) 2) rfl) (dD rfl ?_))
  obtain ⟨l, a3, H⟩ := bnd H
  obtain ⟨E, F, G⟩ := aU a3
  refine bi rfl (fun _ _ a c => ak qH (a.ev rfl) d.form (a.ev rfl) E F) (bi rfl (fun _ _ a c => aM (cs := [iv l.X, iv l.Y]) jZ gV (a.ev rfl) (aF.take (uZ jF d G c) 2) rfl) ?_)
  obtain ⟨o, a4, H⟩ := bnd H
  refine qV (r := (bV o)) (wn rfl) rfl Tryz.call76 (aj rfl (aj rfl aL)) (fun W hW => uA j l o a4 (HF.start _)) (rU rfl rfl (iE (aa (aP rfl H (fun H => ?_) (fun H => ?_)))))
  ·exact aN (aD i o H (.r rfl) .nil)
  ·refine jb (by kernel_rfl) (by kernel_rfl) (dD rfl ?_)
   obtain ⟨g, a5, H⟩ := bnd H
   obtain ⟨I, J, K⟩ := aU a5
   refine bi rfl (fun _ _ a c => ak qH (a.ev rfl) b.form (a.ev rfl) I J) (bi rfl (fun _ _ a c => aM (cs := [iv g.X, iv g.Y]) jZ gV (a.ev rfl) (aF.take (uZ jF b K c) 2) rfl) (dD rfl ?_))
   obtain ⟨h, a6, H⟩ := bnd H
   obtain ⟨L, M, N⟩ := aU a6
   refine bi rfl (fun _ _ a c => ak qH (a.ev rfl) d.form (a.ev rfl) L M) (bi rfl (fun _ _ a c => aM (cs := [iv h.X, iv h.Y]) jZ gV (a.ev rfl) (aF.take (uZ jF d N c) 2) rfl) (fO (Ab g h) rfl rfl (dD rfl ?_)))
   obtain ⟨O, f, H⟩ := bnd H
   refine rz 8 [(28, bV O)] ?_ ?_
   ·cases A : (gz g h)
    ·rw [A] at f
     rw [if_neg (by decide)] at f
     have H := f
     obtain rfl := oI H
     refine cZ rfl (cZ rfl (cZ rfl (cZ rfl (cZ rfl (cZ rfl (cZ rfl ?_))))))
     exact fO bE rfl rfl (Tq.fin (.r rfl))
    ·rw [A] at f
     rw [if_pos rfl] at f
     have H := f
     refine kg run_move rfl ?_
     obtain ⟨q, a7, H⟩ := bnd H
     obtain ⟨P, Q, S⟩ := aU a7
     refine Tq.x (fun _ _ a c => ak qH (a.ev rfl) d.form (a.ev rfl) P Q) (Tq.x (fun _ _ a c => aM (cs := [iv q.X, iv q.Y]) jZ gV (a.ev rfl) (aF.take (uZ jF d S c) 2) rfl) (kg run_move rfl ?_))
     obtain ⟨t, a8, H⟩ := bnd H
     obtain ⟨T, U, V⟩ := aU a8
     refine Tq.x (fun _ _ a c => ak qH (a.ev rfl) b.form (a.ev rfl) T U) (Tq.x (fun _ _ a c => aM (cs := [iv t.X, iv t.Y]) jZ gV (a.ev rfl) (aF.take (uZ jF b V c) 2) rfl) ?_)
     obtain ⟨Z, a9, H⟩ := bnd H
     refine qV (r := (bV Z)) (wg rfl rfl rfl) rfl Tryz.call76 (aj rfl (aj rfl aL)) (fun W hW => uA q t Z a9 (HF.start _)) (fO bD rfl rfl ?_)
     obtain rfl := oI H
     exact Tq.fin (.r rfl)
   ·exact rU rfl rfl (iE (aD i O H (.r rfl) .nil))
 ·intro w a0 a1 hs
  have H := hs
  replace H : gG a0 = some r := H
  replace leB := leB.trans a1
  unfold gG at H
  show Tr _ _ (LF [(5, bV a0)]) (LE []) _
  refine aP rfl H (fun H => ?_) (fun H => ?_)
  ·refine ai (Tr.k rfl (ae (aa (aW (bL (aK ?_))))))
   obtain rfl := oI H
   exact dQ leB
  ·refine aN (aJ (aa (ai (Tr.k rfl (ae (aa (aW ?_)))))))
   obtain rfl := oI H
   exact dQ leB

theorem lZ {w : Bs} (p0 : fE) (p1 : fE) (q0 : (List ((Int × Int) × List Int))) (bmq0 : Nat) (hmq0 : K3 w.R w.W HV Ij bmq0 bK q0) (iW : Nat) (hb0 : w.R iW) (hc0 : aF w.W iW 0 [(.map (some bmq0))]) (vI : Nat) (hb1 : w.R vI) (hc1 : aF w.W vI 0 [.func (.func 69) #[] #[]]) (r : Bool) (H : fC p0 p1 q0 = some r) (hE : HF w w.W E0) : Calls Tryz.prog 71 [.agg #[iv p0.from_.X, iv p0.from_.Y, iv p0.to_.X, iv p0.to_.Y], .agg #[iv p1.from_.X, iv p1.from_.Y, iv p1.to_.X, iv p1.to_.Y], pV iW, pV vI].toArray w.W fun e W' => e = .returned (bV r) ∧ HF w W' E0 := by
 unfold fC at H
 have leB := Bs.Le.refl w
 refine aZ (n := 21) Tryz.func71 rfl rfl rfl hE (ai (gN 1 (cs := [iv p0.from_.X, iv p0.from_.Y, iv p0.to_.X, iv p0.to_.Y]) (wn rfl) rfl rfl rfl fun v => (gN 2 (cs := [iv p1.from_.X, iv p1.from_.Y, iv p1.to_.X, iv p1.to_.Y]) (wn rfl) rfl rfl rfl fun y => (Tr.k rfl (ae (aa (az (jb (by kernel_rfl) (by kernel_rfl) (bi rfl (fun _ _ a c => ah KY (a.ev rfl) (ut hb0 hc0 c) rfl) (fQ (ag yQ) rfl (bi rfl (fun _ _ a c => aM (cs := [iv p0.to_.X, iv p0.to_.Y]) jZ gV (a.ev rfl) (aF.take (dR c (vs := [iv p0.from_.X, iv p0.from_.Y, iv p0.to_.X, iv p0.to_.Y]) (k := 1) rfl 2) 2) rfl) ?_)))))))))))
 obtain ⟨o, i, H⟩ := bnd H
 obtain ⟨t, u, s, h⟩ := hmq0.look i
 refine bi rfl (fun _ _ a c => h c JX OI NC (a.ev rfl) (a.ev rfl)) (fQ (bz nz) rfl (fO dL rfl rfl (dD rfl ?_)))
 obtain ⟨q, b, H⟩ := bnd H
 refine rz 7 [(20, bV q)] ?_ ?_
 ·cases g : ((o.length : Int) == 1)
  ·rw [g] at b
   rw [if_neg (by decide)] at b
   have H := b
   refine Tq.x (fun _ _ a c => aM (cs := [iv p1.from_.X, iv p1.from_.Y, iv p1.to_.X, iv p1.to_.Y]) sP qf (a.ev rfl) (aF.take (dR c (vs := [iv p1.from_.X, iv p1.from_.Y, iv p1.to_.X, iv p1.to_.Y]) (k := 2) rfl 0) 4) rfl) ?_
   obtain ⟨d, j, H⟩ := bnd H
   refine qV (r := (.agg #[iv d.X, iv d.Y])) (wg rfl rfl rfl) rfl Tryz.call70 (aj rfl aL) (fun W hW => kU p1 d j (HF.start _)) (Tq.x (fun _ _ a c => ah Tu (a.ev rfl) (ut hb1 hc1 c) rfl) (Tq.x (fun _ _ a c => aM (cs := [iv p0.from_.X, iv p0.from_.Y, iv p0.to_.X, iv p0.to_.Y]) sP qf (a.ev rfl) (aF.take (dR c (vs := [iv p0.from_.X, iv p0.from_.Y, iv p0.to_.X, iv p0.to_.Y]) (k := 1) rfl 0) 4) rfl) ?_))
   obtain ⟨f, l, H⟩ := bnd H
   refine oo (r := (.agg #[iv f.X, iv f.Y])) (wg rfl rfl rfl) rfl rfl Tryz.call69 (aj rfl aL) (fun W hW => vO p0 f l (HF.start _)) (ug (Ab d f) rfl rfl (fO bE rfl rfl ?_))
   obtain rfl := oI H
   exact Tq.fin (.r rfl)
  ·rw [g] at b
   rw [if_pos rfl] at b
   have H := b
   obtain rfl := oI H
   exact cZ rfl (cZ rfl (cZ rfl (cZ rfl (cZ rfl (cZ rfl (fO bD rfl rfl (Tq.fin (.r rfl))))))))
 ·refine rU rfl rfl (iE (aa (aW ?_)))
  obtain rfl := oI H
  exact dQ leB

theorem nI {w : Bs} (p0 : fE) (q0 : (List ((Int × Int) × List Int))) (bmq0 : Nat) (hmq0 : K3 w.R w.W HV Ij bmq0 bK q0) (iW : Nat) (hb0 : w.R iW) (hc0 : aF w.W iW 0 [(.map (some bmq0))]) (q1 : (List Bool)) (Aq1_0 : Option Addr) (cq1_0 : Nat) (LX : Sl w.R w.W tq Aq1_0 cq1_0 q1) (vI : Nat) (hb1 : w.R vI) (hc1 : aF w.W vI 0 [sL Aq1_0 q1 cq1_0]) (UF : Nat) (q3 : (List fE)) (Aq3_0 : Option Addr) (cq3_0 : Nat) (LW : Sl w.R w.W eO Aq3_0 cq3_0 q3) (UE : Nat) (hb3 : w.R UE) (hc3 : aF w.W UE 0 [sL Aq3_0 q3 cq3_0]) (q4 : (List ((Int × Int) × List Int))) (bmq4 : Nat) (hmq4 : K3 w.R w.W HV Ij bmq4 bK q4) (UX : Nat) (hb4 : w.R UX) (hc4 : aF w.W UX 0 [(.map (some bmq4))]) (UW : Nat) (hb2 : w.R UF) (hc2 : aF w.W UF 0 [.func (.func 71) #[] #[pV UX, pV UW]]) (hb5 : w.R UW) (Vo : aF w.W UW 0 [.func (.func 69) #[] #[]]) (r : Int) (H : fw p0 q0 q1 q3 q4 = some r) (hE : HF w w.W E0) : Calls Tryz.prog 72 [.agg #[iv p0.from_.X, iv p0.from_.Y, iv p0.to_.X, iv p0.to_.Y], pV iW, pV vI, pV UF, pV UE].toArray w.W fun e W' => e = .returned (iv r) ∧ HF w W' E0 := by
 unfold fw at H
 have leB := Bs.Le.refl w
 refine aZ (n := 34) Tryz.func72 rfl rfl rfl hE (ai (gN 1 (cs := [iv p0.from_.X, iv p0.from_.Y, iv p0.to_.X, iv p0.to_.Y]) (wn rfl) rfl rfl rfl fun l => (Tr.k rfl (ae (aa (az (ai (aG rfl (fun _ _ a c => ah KY (a.ev rfl) (ut hb0 hc0 c) rfl) (aT (ag yQ) rfl (aG rfl (fun _ _ a c => aM (cs := [iv p0.to_.X, iv p0.to_.Y]) jZ gV (a.ev rfl) (aF.take (dR c (vs := [iv p0.from_.X, iv p0.from_.Y, iv p0.to_.X, iv p0.to_.Y]) (k := 1) rfl 2) 2) rfl) ?_))))))))))
 obtain ⟨d, J, H⟩ := bnd H
 obtain ⟨q, t, i, A⟩ := hmq0.look J
 refine aG rfl (fun _ _ a c => A c JX OI NC (a.ev rfl) (a.ev rfl)) (aT (bz nz) rfl (aA rfl (ae (aa (Tr.block (df (σ := (List Int) × Nat) (fun m w s => m = s.1.length + 1 ∧ s.1 = List.drop s.2 d ∧ s.2 ≤ d.length ∧ bP p0 q1 q3 q4 s.1 s.2 = some r) (fun s => [(2, pV vI), (3, pV UF), (4, pV UE), (5, pV l), (12, sL q d t), (13, iv (d.length : Int)), (14, iv (s.2 : Int))]) (fun s => [(1, bx l #[iv p0.from_.X, iv p0.from_.Y, iv p0.to_.X, iv p0.to_.Y] 125)]) (d.length + 1) (d, 0) ⟨rfl, rfl, Nat.zero_le _, H⟩ (.r rfl) (.r rfl) (fun _ _ h => absurd h.1 (by simp)) ?_))))))
 intro w b m s hs
 obtain ⟨f, u⟩ := s
 obtain ⟨v, g, Q, H⟩ := hs
 replace g : f = List.drop u d := g
 replace H : bP p0 q1 q3 q4 f u = some r := H
 replace v : m + 1 = f.length + 1 := v
 replace hc1 := b.ext.cells hb1 hc1
 replace hb1 := b.r _ hb1
 replace LX := LX.nL b
 replace hc2 := b.ext.cells hb2 hc2
 replace hb2 := b.r _ hb2
 replace hc4 := b.ext.cells hb4 hc4
 replace hb4 := b.r _ hb4
 replace hmq4 := hmq4.nL b
 replace Vo := b.ext.cells hb5 Vo
 replace hb5 := b.r _ hb5
 replace hc3 := b.ext.cells hb3 hc3
 replace hb3 := b.r _ hb3
 replace LW := LW.nL b
 replace i := i.nL b
 replace leB := leB.trans b
 obtain rfl : m = f.length := by omega
 clear v
 dsimp only
 cases f with
 | nil =>
  rw [bP.eq_1] at H
  refine ai (aC bg rfl rfl (ae (aa (az (eQ rfl (dZ g) (bW (aB (aB (aR (aa (ai (Tr.k rfl (ae (aa (aW ?_)))))))))))))))
  obtain rfl := oI H
  exact dQ leB
 | cons P f =>
  rw [bP.eq_2] at H
  refine ai (aC bg rfl rfl (ae (aa (az (eP rfl (fJ g) (aN (aa (az (Tr.block (ai (aG rfl (fun _ _ a c => ak kS (a.ev rfl) i.form (a.ev rfl) (Int.natCast_nonneg _) (bF g)) (aG rfl (fun _ _ a c => ah bT (a.ev rfl) (uZ je i (gy g) c) rfl) (Tr.k rfl (ae (aa (az (jb (by kernel_rfl) (by kernel_rfl) (bi rfl (fun _ _ a c => ah KX (a.ev rfl) (ut hb1 hc1 c) rfl) (dD rfl ?_)))))))))))))))))))
  obtain ⟨N, K, H⟩ := bnd H
  obtain ⟨B, C, D⟩ := aU K
  refine bi rfl (fun _ _ a c => ak KH (a.ev rfl) LX.form (a.ev rfl) B C) (bi rfl (fun _ _ a c => ah Fu (a.ev rfl) (uZ Mi LX D c) rfl) (fQ jC rfl (dD rfl ?_)))
  obtain ⟨O, j, H⟩ := bnd H
  refine rz 8 [(2, pV vI), (3, pV UF), (4, pV UE), (5, pV l), (8, iv P), (12, sL q d t), (13, iv (d.length : Int)), (14, iv (u : Int)), (31, bV O)] ?_ ?_
  ·cases y : (!N)
   ·rw [y] at j
    rw [if_neg (by decide)] at j
    have H := j
    obtain rfl := oI H
    refine cZ rfl (cZ rfl (cZ rfl (cZ rfl (cZ rfl (cZ rfl (cZ rfl ?_))))))
    exact fO bE rfl rfl (Tq.fin (.r rfl))
   ·rw [y] at j
    rw [if_pos rfl] at j
    have H := j
    refine Tq.x (fun _ _ a c => ah PG (a.ev rfl) (ut hb2 hc2 c) rfl) (Tq.x (fun _ _ a c => aM (cs := [iv p0.from_.X, iv p0.from_.Y, iv p0.to_.X, iv p0.to_.Y]) sP qf (a.ev rfl) (aF.take (dR c (vs := [iv p0.from_.X, iv p0.from_.Y, iv p0.to_.X, iv p0.to_.Y]) (k := 1) rfl 0) 4) rfl) (Tq.x (fun _ _ a c => ah uw (a.ev rfl) (ut hb3 hc3 c) rfl) (kg run_move rfl ?_)))
    obtain ⟨o, L, H⟩ := bnd H
    obtain ⟨E, F, G⟩ := aU L
    refine Tq.x (fun _ _ a c => ak wC (a.ev rfl) LW.form (a.ev rfl) E F) (Tq.x (fun _ _ a c => aM (cs := [iv o.from_.X, iv o.from_.Y, iv o.to_.X, iv o.to_.Y]) sP qf (a.ev rfl) (aF.take (uZ qU LW G c) 4) rfl) ?_)
    obtain ⟨I, M, H⟩ := bnd H
    refine oo (r := (bV I)) (wg rfl rfl rfl) rfl rfl Tryz.call71 (aj rfl (aj rfl aL)) (fun W hW => lZ p0 o q4 bmq4 (hmq4.ext hW.cB) UX (hW.cB.r _ hb4) (hW.cB.cells hb4 hc4) UW (hW.cB.r _ hb5) (hW.cB.cells hb5 Vo) I M (HF.start _)) (fO bD rfl rfl ?_)
    obtain rfl := oI H
    exact Tq.fin (.r rfl)
  ·refine iE (aa (aP rfl H (fun H => ?_) (fun H => ?_)))
   ·refine ai (aA rfl (Tr.k rfl (ae (aa (aW (bL (aK (aK (bL (aK ?_))))))))))
    obtain rfl := oI H
    exact dQ leB
   ·exact aN (aJ (aa (aI (aC bv rfl rfl (aA rfl (ae (aD b (f, (u + 1)) ⟨rfl, fe g, bF g, H⟩ (.cons rfl (.cons rfl (.cons rfl (.cons rfl (.cons rfl (.cons rfl (.cons (congrArg (fun z => some (Value.int .i64 z)) (eZ g i.form)) .nil))))))) (.r rfl))))))))

theorem wY (N : Nat) {w : Bs} (p0 : (List aV)) (d0 : Option Addr) (d1 : Nat) (i6 : Sl w.R w.W aS d0 d1 p0) (r : (List (List au))) (H : lD N p0 = some r) (hE : HF w w.W (iF [emp])) : Calls Tryz.prog 33 [sL d0 p0 d1].toArray w.W fun e W' => ∃ (w' : Bs) (u : (Option Addr × Nat)), w.Le w' ∧ e = .returned (sL u.1 r u.2) ∧ (dM u.1 r.length u.2) ∧ HF w' W' (iF [ow u.1 u.2 43 dV r]) := by
 unfold lD at H
 have leB := Bs.Le.refl w
 refine aZ (n := 100) Tryz.func33 rfl rfl rfl hE (ai (Tr.k rfl (bM 1 43 dV ?_)))
 show Tr _ _ (uf _ 2 (sL none (([] : List (List au))) 0)) _ _
 refine ae (aa (ai (aA rfl ?_)))
 obtain ⟨b, i7, H⟩ := bnd H
 refine ja [2] [emp] (U := (Option Addr × Nat)) (fun u => (sL u.1 b u.2)) (fun u => dM u.1 b.length u.2) (fun u => [ow u.1 u.2 125 eO b]) rfl (aH rfl bn) (fun _ => rfl) (wn rfl) rfl Tryz.call68 (aj rfl aL) (fun W hW hp hE => yo N p0 d0 d1 (i6.ext (hW.gM hp)) b i7 hE) ?_
 intro u hu
 obtain ⟨d, f⟩ := u
 have f8 := hu
 have D : dM d b.length f := f8 --@phi
 dsimp only
 refine Tr.alloc 3 (wn rfl) rfl NH fun j => (bJ 3 (cs := [sL d b f]) [sL d b f] (wn rfl) rfl rfl rfl rfl NQ rfl rfl rfl (ae (aa (ai (JH HV Ij 4 3 bK (wn rfl) rfl fun G => (Tr.alloc 5 (wn rfl) rfl RZ fun g => (bJ 5 (cs := [(.map (some G))]) [(.map (some G))] (wn rfl) rfl rfl rfl rfl Sc rfl rfl rfl (ae (aa (az (ai (aG rfl (fun _ _ a c => ah uw (a.ev rfl) (dR c (vs := [sL d b f]) (k := 3) rfl 0) rfl) (aT (bz yD) rfl (aA rfl (ae (aa (Tr.block (df (σ := (List fE) × Nat × (List ((Int × Int) × List Int)) × (List (KE (Int × Int) Int))) (fun m w s => m = s.1.length + 1 ∧ s.1 = List.drop s.2.1 b ∧ s.2.1 ≤ b.length ∧ eu N b s.1 s.2.1 s.2.2.1 = some r ∧ MQ s.2.2.2 s.2.2.1) (fun s => [(3, pV j), (4, pV g), (18, sL d b f), (19, iv (b.length : Int)), (20, iv (s.2.1 : Int))]) (fun s => [(2, ow d f 125 eO b), (3, bx j #[sL d b f] 121), (4, mq HV Ij G 3 bK s.2.2.2), (5, bx g #[(.map (some G))] 123)]) (b.length + 1) (b, 0, ([] : List ((Int × Int) × List Int)), ([] : List (KE (Int × Int) Int))) ⟨rfl, rfl, Nat.zero_le _, H, MQ.nil⟩ (.r rfl) (.r rfl) (fun _ _ h => absurd h.1 (by simp)) ?_))))))))))))))))))
 intro w g1 m s hs
 obtain ⟨V, b4, P, e3⟩ := s
 obtain ⟨e8, a2, m3, H, b9⟩ := hs
 replace a2 : V = List.drop b4 b := a2
 replace H : eu N b V b4 P = some r := H
 replace e8 : m + 1 = V.length + 1 := e8
 replace leB := leB.trans g1
 replace b9 : MQ e3 P := b9
 obtain rfl : m = V.length := by omega
 clear e8
 dsimp only
 cases V with
 | nil =>
  rw [eu.eq_1] at H
  refine ai (aC bg rfl rfl (ae (aa (az (eQ rfl (dZ a2) (bW (aB (aB (aR (aa (az (Ia 4 rfl b9 fun w i8 Q => ?_))))))))))))
  replace leB := leB.trans i8
  refine aI (aG rfl (fun _ _ a c => ah uw (a.ev rfl) (dR c (vs := [sL d b f]) (k := 3) rfl 0) rfl) (aT (bz yD) rfl ?_))
  obtain ⟨b8, i9, H⟩ := bnd H
  refine Ib 12 tq false (wn rfl) rfl rfl rfl R4 R6 rfl UZ Vq rfl ⟨(), fun _ _ => Qk _ _ _ _, rfl⟩ i9 fun e9 g2 => (Tr.alloc 13 (wn rfl) rfl RY fun v => (bJ 13 (cs := [sL (some ⟨e9, 0, none⟩) b8 b8.length]) [sL (some ⟨e9, 0, none⟩) b8 b8.length] (wn rfl) rfl rfl rfl rfl Sb rfl rfl rfl (ae (aa (ai (Tr.alloc 14 (wn rfl) rfl RX fun C => (bJ 14 (cs := [.func (.func 69) #[] #[]]) [.func (.func 69) #[] #[]] (wn rfl) rfl rfl rfl rfl Sa rfl rfl rfl (ae (aa (ai (pK (vs := [pV g, pV C]) (wn rfl) rfl (aj rfl (aj rfl aL)) (Tr.alloc 15 (wn rfl) rfl RV fun A => ?_))))))))))))
  refine bJ 15 (cs := [.func (.func 71) #[] #[pV g, pV C]]) [.func (.func 71) #[] #[pV g, pV C]] (wn rfl) rfl rfl rfl rfl R8 rfl rfl rfl (ae (aa (ai (pK (vs := [pV g, pV v, pV A, pV j]) (wn rfl) rfl (aj rfl (aj rfl (aj rfl (aj rfl aL)))) (Tr.k rfl (ae (aa (ai (Tr.k rfl (bM 16 43 dV ?_))))))))))
  show Tr _ _ (uf _ 11 (sL none (([] : List (List au))) 0)) _ _
  refine ae (aa (az (ai (aG rfl (fun _ _ a c => ah uw (a.ev rfl) (dR c (vs := [sL d b f]) (k := 3) rfl 0) rfl) (aT (bz yD) rfl (aA rfl (ae (aa (Tr.block (df (σ := (List fE) × Nat × (List Bool) × (List (List au)) × (Option Addr) × Nat × (Option Addr) × Nat) (fun m w s => m = s.1.length + 1 ∧ s.1 = List.drop s.2.1 b ∧ s.2.1 ≤ b.length ∧ bQ N b P s.1 s.2.1 s.2.2.1 s.2.2.2.1 = some r ∧ dM s.2.2.2.2.1 s.2.2.1.length s.2.2.2.2.2.1 ∧ dM s.2.2.2.2.2.2.1 s.2.2.2.1.length s.2.2.2.2.2.2.2) (fun s => [(3, pV j), (7, pV v), (9, pV A), (10, .func (.func 72) #[] #[pV g, pV v, pV A, pV j]), (11, sL s.2.2.2.2.2.2.1 s.2.2.2.1 s.2.2.2.2.2.2.2), (41, iv (b.length : Int)), (42, iv (s.2.1 : Int))]) (fun s => [(2, ow d f 125 eO b), (3, bx j #[sL d b f] 121), (5, bx g #[(.map (some G))] 123), (12, ow s.2.2.2.2.1 s.2.2.2.2.2.1 4 tq s.2.2.1), (13, bx v #[sL s.2.2.2.2.1 s.2.2.1 s.2.2.2.2.2.1] 126), (14, bx C #[.func (.func 69) #[] #[]] 128), (15, bx A #[.func (.func 71) #[] #[pV g, pV C]] 129), (16, ow s.2.2.2.2.2.2.1 s.2.2.2.2.2.2.2 43 dV s.2.2.2.1)]) (b.length + 1) (b, 0, b8, ([] : List (List au)), (some ⟨e9, 0, none⟩), b8.length, none, 0) ⟨rfl, rfl, Nat.zero_le _, H, g2, gL⟩ (.r rfl) (.r rfl) (fun _ _ h => absurd h.1 (by simp)) ?_))))))))))
  intro w a4 m s hs
  obtain ⟨F, I, a3, B, Z, a0, o, q⟩ := s
  obtain ⟨f1, S, m4, H, b5, c3⟩ := hs
  replace S : F = List.drop I b := S
  replace H : bQ N b P F I a3 B = some r := H
  replace f1 : m + 1 = F.length + 1 := f1
  replace Q := Q.nL a4
  replace leB := leB.trans a4
  replace b5 : dM Z a3.length a0 := b5
  replace c3 : dM o B.length q := c3
  obtain rfl : m = F.length := by omega
  clear f1
  dsimp only
  cases F with
  | nil =>
   rw [bQ.eq_1] at H
   refine ai (aC bg rfl rfl (ae (aa (az (eQ rfl (dZ S) (bW (aB (aB (aR (aa (ai (aA rfl ?_))))))))))))
   obtain ⟨a1, j0, H⟩ := bnd H
   refine ja [16] [ow o q 43 dV B] (U := Unit) (fun u => (.tuple #[])) (fun u => a1.length = B.length) (fun u => [ow o q 43 dV a1]) rfl (aH rfl bn) (fun _ => rfl) (wn rfl) rfl Tryz.call74 (aj rfl (aj rfl aL)) (fun W hW hp hE => uy B o q (fun z0 z1 => dP z0 z1) 75 [] Tryz.call75 (fun w' he z0 A0 c0 h0 z1 A1 c1 a y hy => vN z0 A0 c0 h0 z1 A1 c1 a y hy (HF.start _)) a1 j0 hE) ?_
   intro u hu
   have f2 := hu
   have a5 : a1.length = B.length := f2 --@phi
   have e4 : dM o a1.length q := by rw [a5]; exact c3
   show Tr _ _ (uf _ 98 (.tuple #[])) (up _ 16 (ow o q 43 dV a1)) _
   refine Tr.vJ (lf := [(3, pV j), (7, pV v), (9, pV A), (10, .func (.func 72) #[] #[pV g, pV v, pV A, pV j]), (11, sL o a1 q), (41, iv (b.length : Int)), (42, iv (I : Int)), (43, bV (decide ((I : Int) < (b.length : Int)))), (97, sL o a1 q), (98, (.tuple #[]))]) (le := [(2, ow d f 125 eO b), (3, bx j #[sL d b f] 121), (5, bx g #[(.map (some G))] 123), (12, ow Z a0 4 tq a3), (13, bx v #[sL Z a3 a0] 126), (14, bx C #[.func (.func 69) #[] #[]] 128), (15, bx A #[.func (.func 71) #[] #[pV g, pV C]] 129), (16, ow o q 43 dV a1)]) (.cons rfl (.cons rfl (.cons rfl (.cons rfl (.cons (dJ rfl (by unfold sL; rw [a5])) (.cons rfl (.cons rfl (.cons rfl (.cons (dJ rfl (by unfold sL; rw [a5])) (.r rfl)))))))))) (.r rfl) (ae (aa (ai (aA rfl (Tr.k rfl (ae (aa (aW ?_))))))))
   obtain rfl := oI H
   exact Tr.out (m := [sL o a1 q]) [] (cO rfl bO) (fun W hW => ⟨w, (o, q), leB, rfl, e4, hW.pick (ks := [16]) (by decide) (aH rfl bn)⟩)
  | cons a6 F =>
   rw [bQ.eq_2] at H
   refine ai (aC bg rfl rfl (ae (aa (az (eP rfl (fJ S) (aN (aa (az (Tr.block (ai (aA rfl (Tr.k rfl (ae (aa (az (ai (aG rfl (fun _ _ a c => ah KX (a.ev rfl) (dR c (vs := [sL Z a3 a0]) (k := 13) rfl 0) rfl) (aA rfl ?_))))))))))))))))))
   obtain ⟨m5, j1, H⟩ := bnd H
   obtain ⟨g3, g4, g5⟩ := aU j1
   refine aG rfl (fun _ _ a c => ak KH (a.ev rfl) b5 (a.ev rfl) g3 g4) (aG rfl (fun _ _ a c => ah Fu (a.ev rfl) (Ac Mi (k := 12) c rfl g5) rfl) (ae (aa (aP rfl H (fun H => ?_) (fun H => ?_)))))
   ·exact bW (aB (aR (aa (aI (aC bv rfl rfl (aA rfl (ae (aD a4 (F, (I + 1), a3, B, Z, a0, o, q) ⟨rfl, fe S, bF S, H, b5, c3⟩ (.cons rfl (.cons rfl (.cons rfl (.cons rfl (.cons rfl (.cons rfl (.cons (congrArg (fun z => some (Value.int .i64 z)) (eZ S D)) .nil))))))) (.r rfl)))))))))
   ·refine aN (aa (ai (Tr.k rfl (bM 35 125 eO ?_))))
    show Tr _ _ (uf _ 13 (sL none (([] : List fE)) 0)) _ _
    refine ae (aa ?_)
    have b6 := Bs.Le.refl w
    refine kT (σ := (List Bool) × (List fE) × (Option Addr) × Nat × (Option Addr) × Nat) (fun w s => iH B (bQ N b P F (I + 1)) s.1 s.2.1 = some r ∧ dM s.2.2.1 s.1.length s.2.2.2.1 ∧ dM s.2.2.2.2.1 s.2.1.length s.2.2.2.2.2) (fun s => [(3, pV j), (7, pV v), (9, pV A), (10, .func (.func 72) #[] #[pV g, pV v, pV A, pV j]), (11, sL o B q), (13, sL s.2.2.2.2.1 s.2.1 s.2.2.2.2.2), (41, iv (b.length : Int)), (42, iv (I : Int))]) (fun s => [(2, ow d f 125 eO b), (3, bx j #[sL d b f] 121), (5, bx g #[(.map (some G))] 123), (12, ow s.2.2.1 s.2.2.2.1 4 tq s.1), (13, bx v #[sL s.2.2.1 s.1 s.2.2.2.1] 126), (14, bx C #[.func (.func 69) #[] #[]] 128), (15, bx A #[.func (.func 71) #[] #[pV g, pV C]] 129), (16, ow o q 43 dV B), (35, ow s.2.2.2.2.1 s.2.2.2.2.2 125 eO s.2.1)]) ?_ ?_
    ·refine ai (aA rfl (Tr.k rfl (ae (aa (Tr.block (df (σ := (List Bool) × (List fE) × Int × (Option Addr) × Nat × (Option Addr) × Nat) (fun m w s => iG b P B (bQ N b P F (I + 1)) a6 m s.1 s.2.1 s.2.2.1 = some r ∧ dM s.2.2.2.1 s.1.length s.2.2.2.2.1 ∧ dM s.2.2.2.2.2.1 s.2.1.length s.2.2.2.2.2.2) (fun s => [(3, pV j), (7, pV v), (9, pV A), (10, .func (.func 72) #[] #[pV g, pV v, pV A, pV j]), (11, sL o B q), (12, iv (I : Int)), (13, sL s.2.2.2.2.2.1 s.2.1 s.2.2.2.2.2.2), (14, iv s.2.2.1), (41, iv (b.length : Int)), (42, iv (I : Int))]) (fun s => [(2, ow d f 125 eO b), (3, bx j #[sL d b f] 121), (5, bx g #[(.map (some G))] 123), (12, ow s.2.2.2.1 s.2.2.2.2.1 4 tq s.1), (13, bx v #[sL s.2.2.2.1 s.1 s.2.2.2.2.1] 126), (14, bx C #[.func (.func 69) #[] #[]] 128), (15, bx A #[.func (.func 71) #[] #[pV g, pV C]] 129), (16, ow o q 43 dV B), (35, ow s.2.2.2.2.2.1 s.2.2.2.2.2.2 125 eO s.2.1)]) N (a3, ([] : List fE), (I : Int), Z, a0, none, 0) ⟨H, b5, gL⟩ (.r rfl) (.r rfl) (fun _ _ h => jQ (h.1)) ?_))))))
     intro w d2 k8 s hs
     obtain ⟨b2, a7, a8, J, K, a9, b0⟩ := s
     obtain ⟨H, b7, d3⟩ := hs
     replace H : iG b P B (bQ N b P F (I + 1)) a6 (k8 + 1) b2 a7 a8 = some r := H
     replace Q := Q.nL d2
     replace b6 := b6.trans d2
     replace b7 : dM J b2.length K := b7
     replace d3 : dM a9 a7.length b0 := d3
     rw [iG.eq_2] at H
     dsimp only
     refine az (ai (aA rfl (aC xA rfl rfl (ae (aa (aP rfl H (fun H => ?_) (fun H => ?_)))))))
     ·refine aN (aa (az (Tr.block (ai (aG rfl (fun _ _ a c => ah KX (a.ev rfl) (dR c (vs := [sL J b2 K]) (k := 13) rfl 0) rfl) (aA rfl ?_))))))
      obtain ⟨m6, j2, H⟩ := bnd H
      obtain ⟨g6, g7, g8⟩ := aU j2
      refine aG rfl (fun _ _ a c => ak KH (a.ev rfl) b7 (a.ev rfl) g6 g7) ?_
      obtain ⟨b3, f5, H⟩ := bnd H
      have c6 := nZ f5
      refine oK 12 (t := tq) (l := b2) (i := a8) (fo := 0) (cs := [bV true]) true (wn rfl) rfl rfl rfl rfl rfl g8 R6 rfl (fun u _ => ⟨u, trivial, rfl⟩) rfl f5 ?_
      have e5 : dM J b3.length K := by rw [c6]; exact b7
      refine Tr.vJ (lf := [(3, pV j), (7, pV v), (9, pV A), (10, .func (.func 72) #[] #[pV g, pV v, pV A, pV j]), (11, sL o B q), (12, iv (I : Int)), (13, sL a9 a7 b0), (14, iv a8), (41, iv (b.length : Int)), (42, iv (I : Int)), (50, iv a8), (51, bV (decide (0 ≤ a8))), (58, sL J b3 K), (59, iv a8)]) (le := [(2, ow d f 125 eO b), (3, bx j #[sL d b f] 121), (5, bx g #[(.map (some G))] 123), (12, ow J K 4 tq b3), (13, bx v #[sL J b3 K] 126), (14, bx C #[.func (.func 69) #[] #[]] 128), (15, bx A #[.func (.func 71) #[] #[pV g, pV C]] 129), (16, ow o q 43 dV B), (35, ow a9 b0 125 eO a7)]) (.cons rfl (.cons rfl (.cons rfl (.cons rfl (.cons rfl (.cons rfl (.cons rfl (.cons rfl (.cons rfl (.cons rfl (.cons rfl (.cons rfl (.cons (dJ rfl (by unfold sL; rw [c6])) (.r rfl)))))))))))))) (.cons rfl (.cons rfl (.cons rfl (.cons rfl (.cons (VI rfl (by unfold sL; rw [c6])) (.r rfl)))))) (ae (aa (ai (aA rfl (aG rfl (fun _ _ a c => ah uw (a.ev rfl) (dR c (vs := [sL d b f]) (k := 3) rfl 0) rfl) (aA rfl ?_))))))
      obtain ⟨E, j3, H⟩ := bnd H
      obtain ⟨g9, h1, h2⟩ := aU j3
      refine aG rfl (fun _ _ a c => ak wC (a.ev rfl) D (a.ev rfl) g9 h1) (aG rfl (fun _ _ a c => aM (cs := [iv E.from_.X, iv E.from_.Y, iv E.to_.X, iv E.to_.Y]) sP qf (a.ev rfl) (aF.take (Ac qU (k := 2) c rfl h2) 4) rfl) (dS 43 (e := 125) (vs := [(0, .agg #[iv E.from_.X, iv E.from_.Y, iv E.to_.X, iv E.to_.Y])]) (cs := [iv E.from_.X, iv E.from_.Y, iv E.to_.X, iv E.to_.Y]) (wn rfl) rfl (bH rfl eF) (by kernel_rfl) fun m7 => ?_))
      obtain ⟨f3, j4, H⟩ := bnd H
      refine Tr.append 35 (t := eO) (l := a7) (l2 := [E]) (wn rfl) rfl rfl rfl rfl (fun W hW => ⟨[[iv E.from_.X, iv E.from_.Y, iv E.to_.X, iv E.to_.Y]], (.cons ⟨(), trivial, rfl⟩ .nil), dR hW (vs := [iv E.from_.X, iv E.from_.Y, iv E.to_.X, iv E.to_.Y]) (k := 43) rfl 0⟩) yD qf NE (by decide) Pp rfl j4 fun d4 d5 e6 => (Tr.k rfl (ae (aa (az (jb (by kernel_rfl) (by kernel_rfl) (bi rfl (fun _ _ a c => ah uw (a.ev rfl) (dR c (vs := [sL d b f]) (k := 3) rfl 0) rfl) (dD rfl ?_)))))))
      obtain ⟨d6, j5, H⟩ := bnd H
      obtain ⟨h3, h4, h5⟩ := aU j5
      refine bi rfl (fun _ _ a c => ak wC (a.ev rfl) D (a.ev rfl) h3 h4) (fQ (ag yQ) rfl (bi rfl (fun _ _ a c => aM (cs := [iv d6.to_.X, iv d6.to_.Y]) jZ gV (a.ev rfl) (aF.take (aF.drop (Ac qU (k := 2) c rfl h5) 2) 2) rfl) (bi rfl (fun _ _ a c => ah uw (a.ev rfl) (dR c (vs := [sL d b f]) (k := 3) rfl 0) rfl) (dD rfl (bi rfl (fun _ _ a c => ak wC (a.ev rfl) D (a.ev rfl) (Int.natCast_nonneg _) (bF S)) (fQ (ag yR) rfl (bi rfl (fun _ _ a c => aM (cs := [iv a6.from_.X, iv a6.from_.Y]) jZ gV (a.ev rfl) (aF.take (aF.drop (Ac qU (k := 2) c rfl (gy S)) 0) 2) rfl) (fO (Ab d6.to_ a6.from_) rfl rfl (dD rfl ?_)))))))))
      obtain ⟨k9, b1, H⟩ := bnd H
      refine rz 11 [(3, pV j), (7, pV v), (9, pV A), (10, .func (.func 72) #[] #[pV g, pV v, pV A, pV j]), (11, sL o B q), (12, iv (I : Int)), (13, sL d4 f3 d5), (14, iv a8), (41, iv (b.length : Int)), (42, iv (I : Int)), (90, bV k9)] ?_ ?_
      ·cases f6 : (gz d6.to_ a6.from_)
       ·rw [f6] at b1
        rw [if_neg (by decide)] at b1
        have H := b1
        obtain rfl := oI H
        refine cZ rfl (cZ rfl (cZ rfl (cZ rfl (cZ rfl (cZ rfl (cZ rfl ?_))))))
        exact cZ rfl (cZ rfl (cZ rfl (fO bE rfl rfl (Tq.fin (.r rfl)))))
       ·rw [f6] at b1
        rw [if_pos rfl] at b1
        have H := b1
        refine Tq.x (fun _ _ a c => ah PG (a.ev rfl) (dR c (vs := [.func (.func 71) #[] #[pV g, pV C]]) (k := 15) rfl 0) rfl) (Tq.x (fun _ _ a c => ah uw (a.ev rfl) (dR c (vs := [sL d b f]) (k := 3) rfl 0) rfl) (kg run_move rfl ?_))
        obtain ⟨c7, j6, H⟩ := bnd H
        obtain ⟨h6, h7, h8⟩ := aU j6
        refine Tq.x (fun _ _ a c => ak wC (a.ev rfl) D (a.ev rfl) h6 h7) (Tq.x (fun _ _ a c => aM (cs := [iv c7.from_.X, iv c7.from_.Y, iv c7.to_.X, iv c7.to_.Y]) sP qf (a.ev rfl) (aF.take (Ac qU (k := 2) c rfl h8) 4) rfl) (Tq.x (fun _ _ a c => ah uw (a.ev rfl) (dR c (vs := [sL d b f]) (k := 3) rfl 0) rfl) (kg run_move rfl (Tq.x (fun _ _ a c => ak wC (a.ev rfl) D (a.ev rfl) (Int.natCast_nonneg _) (bF S)) (Tq.x (fun _ _ a c => aM (cs := [iv a6.from_.X, iv a6.from_.Y, iv a6.to_.X, iv a6.to_.Y]) sP qf (a.ev rfl) (aF.take (Ac qU (k := 2) c rfl (gy S)) 4) rfl) ?_)))))
        obtain ⟨h9, j7, H⟩ := bnd H
        refine oo (r := (bV h9)) (wg rfl rfl rfl) rfl rfl Tryz.call71 (aj rfl (aj rfl aL)) (fun W hW => lZ c7 a6 P G (Q.ext hW.cB) g (hW.CO (k := 5) rfl) (hW.EL (k := 5) rfl) C (hW.CO (k := 14) rfl) (hW.EL (k := 14) rfl) h9 j7 (HF.start _)) (fO bD rfl rfl ?_)
        obtain rfl := oI H
        exact Tq.fin (.r rfl)
      ·refine iE (aa (aP rfl H (fun H => ?_) (fun H => ?_)))
       ·exact bW (JI rfl (aB (aB (aR (aD b6 (b3, f3, J, K, d4, d5) ⟨H, e5, e6⟩ (.r rfl) (.r rfl))))))
       ·refine aN (aJ (aa (aI (aA rfl (aG rfl (fun _ _ a c => ah uw (a.ev rfl) (dR c (vs := [sL d b f]) (k := 3) rfl 0) rfl) (aA rfl ?_))))))
        obtain ⟨c8, j8, H⟩ := bnd H
        obtain ⟨i0, i1, i2⟩ := aU j8
        refine aG rfl (fun _ _ a c => ak wC (a.ev rfl) D (a.ev rfl) i0 i1) (aG rfl (fun _ _ a c => aM (cs := [iv c8.from_.X, iv c8.from_.Y, iv c8.to_.X, iv c8.to_.Y]) sP qf (a.ev rfl) (aF.take (Ac qU (k := 2) c rfl i2) 4) rfl) ?_)
        obtain ⟨f4, j9, H⟩ := bnd H
        exact vw (r := (iv f4)) (wn rfl) rfl rfl Tryz.call72 (aj rfl aL) (fun W hW => nI c8 P G (Q.ext hW.cB) g (hW.CO (k := 5) rfl) (hW.EL (k := 5) rfl) b3 J K (hW.sK (k := 12) rfl) v (hW.CO (k := 13) rfl) (hW.EL (k := 13) rfl) A b d f (hW.sK (k := 2) rfl) j (hW.CO (k := 3) rfl) (hW.EL (k := 3) rfl) P G (Q.ext hW.cB) g (hW.CO (k := 5) rfl) (hW.EL (k := 5) rfl) C (hW.CO (k := 15) rfl) (hW.EL (k := 15) rfl) (hW.CO (k := 14) rfl) (hW.EL (k := 14) rfl) f4 j9 (HF.start _)) (Tr.k rfl (ae (aD d2 (b3, f3, f4, J, K, d4, d5) ⟨H, e5, e6⟩ (.r rfl) (.r rfl))))
     ·exact bW (aB (aB (aR (aD b6 (b2, a7, J, K, a9, b0) ⟨H, b7, d3⟩ (.r rfl) (.r rfl)))))
    ·intro w s e7 hs
     obtain ⟨c9, d7, c4, c5, d8, d9⟩ := s
     obtain ⟨H, e0, l8⟩ := hs
     replace H : iH B (bQ N b P F (I + 1)) c9 d7 = some r := H
     replace Q := Q.nL e7
     replace a4 := a4.trans e7
     replace e0 : dM c4 c9.length c5 := e0
     unfold iH at H
     dsimp only
     refine aI (aA rfl (aA rfl ?_))
     obtain ⟨T, k0, H⟩ := bnd H
     refine ja [39] [emp] (U := (Option Addr × Nat)) (fun u => (sL u.1 T u.2)) (fun u => dM u.1 T.length u.2) (fun u => [ow u.1 u.2 47 aX T]) rfl (aH rfl bn) (fun _ => rfl) (wn rfl) rfl Tryz.call73 (aj rfl aL) (fun W hW hp hE => Ar d7 d8 d9 (hW.Qq (k := 35) rfl hp rfl) T k0 hE) ?_
     intro u hu
     obtain ⟨L, M⟩ := u
     have f9 := hu
     have l0 : dM L T.length M := f9 --@phi
     dsimp only
     refine Tr.freeze 39 rfl fun w f7 k1 => ?_
     replace Q := Q.nL f7
     replace a4 := a4.trans f7
     refine dS 40 (e := 43) (vs := [(0, sL L T M)]) (cs := [sL L T M]) (wn rfl) rfl (bH rfl eF) (by kernel_rfl) fun m8 => ?_
     obtain ⟨l1, k2, H⟩ := bnd H
     exact Tr.append 16 (t := dV) (l := B) (l2 := [T]) (wn rfl) rfl rfl rfl rfl (fun W hW => ⟨[[sL L T M]], (.cons ⟨(L, M), k1, rfl⟩ .nil), dR hW (vs := [sL L T M]) (k := 40) rfl 0⟩) Fy Rx TK (by decide) UD rfl k2 fun k3 k4 i3 => (Tr.k rfl (ae (aJ (aa (aI (aC bv rfl rfl (aA rfl (ae (aD a4 (F, (I + 1), c9, l1, c4, c5, k3, k4) ⟨rfl, fe S, bF S, H, e0, i3⟩ (.cons rfl (.cons rfl (.cons rfl (.cons rfl (.cons rfl (.cons rfl (.cons (congrArg (fun z => some (Value.int .i64 z)) (eZ S D)) .nil))))))) (.r rfl))))))))))
 | cons O V =>
  rw [eu.eq_2] at H
  refine ai (aC bg rfl rfl (ae (aa (az (eP rfl (fJ a2) (aN (aa (az (Tr.block (ai (aA rfl (aG rfl (fun _ _ a c => ak wC (a.ev rfl) D (a.ev rfl) (Int.natCast_nonneg _) (bF a2)) (aG rfl (fun _ _ a c => aM (cs := [iv O.from_.X, iv O.from_.Y, iv O.to_.X, iv O.to_.Y]) sP qf (a.ev rfl) (aF.take (Ac qU (k := 2) c rfl (gy a2)) 4) rfl) (Tr.alloc 44 (wn rfl) rfl NG fun m9 => (Tr.k rfl (bJ 44 (cs := [iv O.from_.X, iv O.from_.Y, iv O.to_.X, iv O.to_.Y]) [iv O.from_.X, iv O.from_.Y, iv O.to_.X, iv O.to_.Y] (wn rfl) rfl rfl rfl rfl qf rfl rfl rfl (ae (aa (aI (aG rfl (fun _ _ a c => ah KY (a.ev rfl) (dR c (vs := [(.map (some G))]) (k := 5) rfl 0) rfl) (aT (ag yR) rfl (aG rfl (fun _ _ a c => aM (cs := [iv O.from_.X, iv O.from_.Y]) jZ gV (a.ev rfl) (aF.take (dR c (vs := [iv O.from_.X, iv O.from_.Y, iv O.to_.X, iv O.to_.Y]) (k := 44) rfl 0) 2) rfl) ?_))))))))))))))))))))))
  refine aA rfl (dS 45 (e := 3) (vs := [(0, iv (b4 : Int))]) (cs := [iv (b4 : Int)]) (wn rfl) rfl (bH rfl eF) (by kernel_rfl) fun n0 => ?_)
  obtain ⟨l3, k5, H⟩ := bnd H
  refine Ic 4 46 OI (wn rfl) rfl JX NC rfl rfl rfl rfl b9 k5 fun l5 l6 l9 m0 i4 l7 => (aG rfl (fun _ _ a c => ib (a.ev rfl) rfl) ?_)
  obtain ⟨l4, k6, H⟩ := bnd H
  exact Tr.append 46 (t := bK) (l := l3) (l2 := [(b4 : Int)]) (wn rfl) rfl rfl rfl rfl (fun W hW => ⟨[[iv (b4 : Int)]], (.cons ⟨(), trivial, rfl⟩ .nil), dR hW (vs := [iv (b4 : Int)]) (k := 45) rfl 0⟩) nz zY ML (by decide) Nn rfl k6 fun m1 m2 i5 => (aG rfl (fun _ _ a c => ib (a.ev rfl) rfl) (JJ 4 46 (wn rfl) rfl rfl rfl rfl rfl rfl i4 i5 fun k7 g0 => (ae (aJ (aa (aI (aC bv rfl rfl (aA rfl (ae (aD g1 (V, (b4 + 1), (vW P (O.from_.X, O.from_.Y) l4), k7) ⟨rfl, fe a2, bF a2, H, g0⟩ (.cons rfl (.cons rfl (.cons rfl (.cons rfl (.cons (congrArg (fun z => some (Value.int .i64 z)) (eZ a2 D)) .nil))))) (.r rfl)))))))))))

theorem zO (N : Nat) {w : Bs} (p0 : (List aQ)) (v : Option Addr) (y : Nat) (E : Sl w.R w.W bq v y p0) (r : ((List (List au)) × Int)) (H : mF N p0 = some r) (hE : HF w w.W (iF [emp])) : Calls Tryz.prog 12 [sL v p0 y].toArray w.W fun e W' => ∃ (w' : Bs) (u : (Option Addr × Nat)), w.Le w' ∧ e = .returned (.tuple #[sL u.1 r.1 u.2, iv r.2]) ∧ (dM u.1 r.1.length u.2) ∧ HF w' W' (iF [ow u.1 u.2 43 dV r.1]) := by
 unfold mF at H
 have leB := Bs.Le.refl w
 refine aZ (n := 31) Tryz.func12 rfl rfl rfl hE (ai (Tr.k rfl (bM 1 43 dV ?_)))
 show Tr _ _ (uf _ 2 (sL none (([] : List (List au))) 0)) _ _
 refine Tr.k rfl (ae (aa (az (ai (aA rfl ?_)))))
 obtain ⟨B, P, H⟩ := bnd H
 refine di (r := (iv B)) (wn rfl) rfl Tryz.call31 (aj rfl aL) (fun W hW => xX N p0 v y (E.ext hW.cB) B P (HF.start _)) (Tr.k rfl (ae (aa (ai (aA rfl (aC jD rfl rfl (ae (aa (aP rfl H (fun H => ?_) (fun H => ?_))))))))))
 ·refine ai (aA rfl (Tr.k rfl (bM 2 43 dV ?_)))
  show Tr _ _ (uf _ 2 (sL none (([] : List (List au))) 0)) _ _
  refine Tr.k rfl (ae (aa (aW (aK ?_))))
  obtain rfl := oI H
  exact Tr.out (m := [sL none (([] : List (List au))) 0, iv B]) [] (cO rfl (cO rfl bO)) (fun W hW => ⟨w, (none, 0), leB, rfl, gL, hW.pick (ks := [2]) (by decide) (aH rfl bn)⟩)
 ·refine aN (aa (ai (aA rfl ?_)))
  obtain ⟨j, Q, H⟩ := bnd H
  refine fq [3] [emp] (U := (Option Addr × Nat)) (fun u => (sL u.1 j u.2)) (fun O W u => dM u.1 j.length u.2) (fun u => [ow u.1 u.2 98 aS j]) rfl (aH rfl bn) (fun _ => rfl) (wn rfl) rfl Tryz.call32 (aj rfl aL) (fun W hW hp hE => wZ N p0 v y (E.ext (hW.gM hp)) j Q hE) ?_
  intro w u S hu
  obtain ⟨l, o⟩ := u
  have G := hu
  replace leB := leB.trans S
  have a0 : dM l j.length o := G --@phi
  dsimp only
  obtain ⟨b, T, H⟩ := bnd H
  refine fq [4] [emp] (U := (Option Addr × Nat)) (fun u => (sL u.1 b u.2)) (fun O W u => dM u.1 b.length u.2) (fun u => [ow u.1 u.2 43 dV b]) rfl (aH rfl bn) (fun _ => rfl) (wn rfl) rfl Tryz.call33 (aj rfl aL) (fun W hW hp hE => wY N j l o (hW.Qq (k := 3) rfl hp rfl) b T hE) ?_
  intro w u X hu
  obtain ⟨d, f⟩ := u
  have I := hu
  replace leB := leB.trans X
  have q : dM d b.length f := I --@phi
  dsimp only
  refine Tr.k rfl (ae (aa (ai (Tr.k rfl (ae (aa (az (ai (aA rfl (aT (bz Fy) rfl (aA rfl (ae (aa (Tr.block (df (σ := (List (List au)) × Nat × Int) (fun m w s => m = s.1.length + 1 ∧ s.1 = List.drop s.2.1 b ∧ s.2.1 ≤ b.length ∧ iK b s.1 s.2.1 s.2.2 = some r) (fun s => [(5, sL d b f), (6, iv s.2.2), (17, sL d b f), (18, iv (b.length : Int)), (19, iv (s.2.1 : Int))]) (fun s => [(4, ow d f 43 dV b)]) (b.length + 1) (b, 0, 0) ⟨rfl, rfl, Nat.zero_le _, H⟩ (.r rfl) (.r rfl) (fun _ _ h => absurd h.1 (by simp)) ?_)))))))))))))))
  intro w M m s hs
  obtain ⟨g, F, C⟩ := s
  obtain ⟨D, i, a2, H⟩ := hs
  replace i : g = List.drop F b := i
  replace H : iK b g F C = some r := H
  replace D : m + 1 = g.length + 1 := D
  replace leB := leB.trans M
  obtain rfl : m = g.length := by omega
  clear D
  dsimp only
  cases g with
  | nil =>
   rw [iK.eq_1] at H
   refine ai (aC bg rfl rfl (ae (aa (az (eQ rfl (dZ i) (bW (aB (aB (aR (aa (az (ai (aA rfl (aC jq rfl rfl (ae (aa (aP rfl H (fun H => ?_) (fun H => ?_))))))))))))))))))
   ·refine ai (Tr.k rfl (bM 5 43 dV ?_))
    show Tr _ _ (uf _ 2 (sL none (([] : List (List au))) 0)) _ _
    refine Tr.k rfl (ae (aa (aW (aK ?_))))
    obtain rfl := oI H
    exact Tr.out (m := [sL none (([] : List (List au))) 0, iv 2]) [] (cO rfl (cO rfl bO)) (fun W hW => ⟨w, (none, 0), leB, rfl, gL, hW.pick (ks := [5]) (by decide) (aH rfl bn)⟩)
   ·refine aN (aa (ai (aA rfl (Tr.k rfl (Tr.k rfl (ae (aa (aW ?_))))))))
    obtain rfl := oI H
    exact Tr.out (m := [sL d b f, iv 0]) [] (cO rfl (cO rfl bO)) (fun W hW => ⟨w, (d, f), leB, rfl, q, hW.pick (ks := [4]) (by decide) (aH rfl bn)⟩)
  | cons A g =>
   rw [iK.eq_2] at H
   refine ai (aC bg rfl rfl (ae (aa (az (eP rfl (fJ i) (aN (aa (az (Tr.block (ai (aG rfl (fun _ _ a c => ak Jq (a.ev rfl) q (a.ev rfl) (Int.natCast_nonneg _) (bF i)) (Dp (U := (dV).Ad) (fun u => (dV).ok w.O w.W u A) (fun u => (sL u.1 A u.2)) (wn rfl) rfl (Fj (κ := 4) (t := dV) (V := fun u => (sL u.1 A u.2)) rfl (gy i) (fun _ _ u a hc => ah tT (a.ev rfl) hc rfl)) ?_))))))))))))
   intro a1 J
   obtain ⟨K, L⟩ := a1
   have Z := J
   dsimp only
   exact Tr.k rfl (ae (aa (aI (aA rfl (aA rfl (aT (bz qc) rfl (aC bv rfl rfl (Tr.k rfl (ae (aJ (aa (aI (aC bv rfl rfl (aA rfl (ae (aD M (g, (F + 1), (bG (C + (A.length : Int)))) ⟨rfl, fe i, bF i, H⟩ (.cons rfl (.cons rfl (.cons rfl (.cons rfl (.cons (congrArg (fun z => some (Value.int .i64 z)) (eZ i q)) .nil))))) (.r rfl)))))))))))))))))

theorem zg {w : Bs} (p0 : dK) (b : Option Addr) (d : Nat) (f : Sl w.R w.W aX b d p0.points) (r : Int) (H : um p0 = some r) (hE : HF w w.W E0) : Calls Tryz.prog 13 [.agg #[sL b p0.points d, iv p0.area]].toArray w.W fun e W' => e = .returned (iv r) ∧ HF w W' E0 := by
 unfold um at H
 have leB := Bs.Le.refl w
 refine aZ (n := 9) Tryz.func13 rfl rfl rfl hE (ai (gN 1 (cs := [sL b p0.points d, iv p0.area]) (wn rfl) rfl rfl rfl fun g => (Tr.k rfl (ae (aa (ai (aT (ag Bl) rfl (aG rfl (fun _ _ a c => ah bT (a.ev rfl) (dR c (vs := [sL b p0.points d, iv p0.area]) (k := 1) rfl 1) rfl) (aT (ag Bl) rfl (aG rfl (fun _ _ a c => ah bT (a.ev rfl) (dR c (vs := [sL b p0.points d, iv p0.area]) (k := 1) rfl 1) rfl) (aT Lj rfl (aG rfl (fun _ _ a c => zq (a.ev rfl) (a.ev rfl) _) (Tr.k rfl (ae (aa (aW ?_))))))))))))))))
 obtain rfl := oI H
 exact dQ leB

theorem vH {w : Bs} (p0 : Int) (r : Bool) (H : pG p0 = some r) (hE : HF w w.W E0) : Calls Tryz.prog 35 [iv p0].toArray w.W fun e W' => e = .returned (bV r) ∧ HF w W' E0 := by
 unfold pG at H
 have leB := Bs.Le.refl w
 refine aZ (n := 6) Tryz.func35 rfl rfl rfl hE (ai (Tr.k rfl (ae (aa (ai (aA rfl (aA rfl (aC jD rfl rfl (Tr.k rfl (ae (aa (aW ?_))))))))))))
 obtain rfl := oI H
 exact dQ leB

theorem zh {w : Bs} (p0 : Int) (p1 : Int) (r : Int) (H : qa p0 p1 = some r) (hE : HF w w.W E0) : Calls Tryz.prog 16 [iv p0, iv p1].toArray w.W fun e W' => e = .returned (iv r) ∧ HF w W' E0 := by
 unfold qa at H
 have leB := Bs.Le.refl w
 refine aZ (n := 20) Tryz.func16 rfl rfl rfl hE (ai (Tr.k rfl (ae (aa (ai (aA rfl ?_))))))
 obtain ⟨a, c, H⟩ := bnd H
 refine di (r := (bV a)) (wn rfl) rfl Tryz.call35 (aj rfl aL) (fun W hW => vH p0 a c (HF.start _)) (Tr.k rfl (ae (aa (ai (aA rfl ?_)))))
 obtain ⟨b, d, H⟩ := bnd H
 refine di (r := (bV b)) (wn rfl) rfl Tryz.call35 (aj rfl aL) (fun W hW => vH p1 b d (HF.start _)) (Tr.k rfl (ae (aa (az (ai (aA rfl (ae (aa (aP rfl H (fun H => ?_) (fun H => ?_))))))))))
 ·refine az (ai (aA rfl (ae (aa (aP rfl H (fun H => ?_) (fun H => ?_))))))
  ·refine ai (Tr.k rfl (ae (aa (aW (aK (aK ?_))))))
   obtain rfl := oI H
   exact dQ leB
  ·refine aN (aa (ai (Tr.k rfl (ae (aa (aW (aK ?_)))))))
   obtain rfl := oI H
   exact dQ leB
 ·refine aN (aa (az (ai (aA rfl (ae (aa (aP rfl H (fun H => ?_) (fun H => ?_))))))))
  ·refine ai (Tr.k rfl (ae (aa (aW (aK ?_)))))
   obtain rfl := oI H
   exact dQ leB
  ·refine aN (aa (az (ai (aA rfl (aA rfl (aC bg rfl rfl (ae (aa (aP rfl H (fun H => ?_) (fun H => ?_))))))))))
   ·refine ai (Tr.k rfl (ae (aa (aW (aK ?_)))))
    obtain rfl := oI H
    exact dQ leB
   ·refine aN (aa (az (ai (aA rfl (aA rfl (aC jq rfl rfl (ae (aa (aP rfl H (fun H => ?_) (fun H => ?_))))))))))
    ·refine ai (Tr.k rfl (ae (aa (aW (aK ?_)))))
     obtain rfl := oI H
     exact dQ leB
    ·refine aN (aa (ai (Tr.k rfl (ae (aa (aW ?_))))))
     obtain rfl := oI H
     exact dQ leB

theorem nJ {w : Bs} (p0 : dK) (b : Option Addr) (d : Nat) (l : Sl w.R w.W aX b d p0.points) (p1 : dK) (f : Option Addr) (g : Nat) (o : Sl w.R w.W aX f g p1.points) (iW : Nat) (hb0 : w.R iW) (hc0 : aF w.W iW 0 [.func (.func 13) #[] #[]]) (r : Int) (H : jV p0 p1 = some r) (hE : HF w w.W E0) : Calls Tryz.prog 15 [.agg #[sL b p0.points d, iv p0.area], .agg #[sL f p1.points g, iv p1.area], pV iW].toArray w.W fun e W' => e = .returned (iv r) ∧ HF w W' E0 := by
 unfold jV at H
 have leB := Bs.Le.refl w
 refine aZ (n := 13) Tryz.func15 rfl rfl rfl hE (ai (gN 1 (cs := [sL b p0.points d, iv p0.area]) (wn rfl) rfl rfl rfl fun u => (gN 2 (cs := [sL f p1.points g, iv p1.area]) (wn rfl) rfl rfl rfl fun v => (Tr.k rfl (ae (aa (az (jb (by kernel_rfl) (by kernel_rfl) (bi rfl (fun _ _ a c => ah RP (a.ev rfl) (ut hb0 hc0 c) rfl) (bi rfl (fun _ _ a c => aM (cs := [sL f p1.points g, iv p1.area]) rE mH (a.ev rfl) (aF.take (dR c (vs := [sL f p1.points g, iv p1.area]) (k := 2) rfl 0) 2) rfl) ?_))))))))))
 obtain ⟨h, q, H⟩ := bnd H
 refine oo (r := (iv h)) (wn rfl) rfl rfl Tryz.call13 (aj rfl aL) (fun W hW => zg p1 f g (o.ext hW.cB) h q (HF.start _)) (bi rfl (fun _ _ a c => ah RP (a.ev rfl) (ut hb0 hc0 c) rfl) (bi rfl (fun _ _ a c => aM (cs := [sL b p0.points d, iv p0.area]) rE mH (a.ev rfl) (aF.take (dR c (vs := [sL b p0.points d, iv p0.area]) (k := 1) rfl 0) 2) rfl) ?_))
 obtain ⟨i, s, H⟩ := bnd H
 refine oo (r := (iv i)) (wn rfl) rfl rfl Tryz.call13 (aj rfl aL) (fun W hW => zg p0 b d (l.ext hW.cB) i s (HF.start _)) ?_
 obtain ⟨j, t, H⟩ := bnd H
 refine qV (r := (iv j)) (wn rfl) rfl Tryz.call16 (aj rfl (aj rfl aL)) (fun W hW => zh h i j t (HF.start _)) (rU rfl rfl (iE (aa (aW ?_))))
 obtain rfl := oI H
 exact dQ leB

theorem jM (N : Nat) {w : Bs} (p0 : (List dK)) (d : Option Addr) (f : Nat) (p1 : Int) (p2 : Int) (iW : Nat) (hb0 : w.R iW) (hc0 : aF w.W iW 0 [.func (.func 13) #[] #[]]) (r : (List dK)) (H : dN N p0 p1 p2 = some r) (hE : HF w w.W (iF [ow d f 45 aO p0])) : Calls Tryz.prog 77 [sL d p0 f, iv p1, iv p2, .func (.func 15) #[] #[pV iW]].toArray w.W fun e W' => ∃ (w' : Bs) (u : Unit), w.Le w' ∧ e = .returned (.tuple #[]) ∧ (r.length = p0.length) ∧ HF w' W' (iF [ow d f 45 aO r]) := by
 unfold dN at H
 have a5 := (hE.sl (k := 0) rfl).form
 have leB := Bs.Le.refl w
 refine aZ (n := 53) Tryz.func77 rfl rfl rfl hE (ai (aA rfl (aC bv rfl rfl (Tr.k rfl (ae (aa (Tr.block (df (σ := (List dK) × Int) (fun m w s => bB N p1 p2 m s.1 s.2 = some r ∧ s.1.length = p0.length) (fun s => [(0, sL d s.1 f), (1, iv p1), (2, iv p2), (3, .func (.func 15) #[] #[pV iW]), (8, iv s.2)]) (fun s => [(0, ow d f 45 aO s.1)]) N (p0, (bG (p1 + 1))) ⟨H, rfl⟩ (.r rfl) (.r rfl) (fun _ _ h => jQ (h.1)) ?_))))))))
 intro w Z b6 s hs
 obtain ⟨a0, A⟩ := s
 obtain ⟨H, T⟩ := hs
 replace H : bB N p1 p2 (b6 + 1) a0 A = some r := H
 replace hc0 := Z.ext.cells hb0 hc0
 replace hb0 := Z.r _ hb0
 replace leB := leB.trans Z
 replace T : a0.length = p0.length := T
 have f6 : dM d a0.length f := (by rw [T]; exact a5)
 rw [bB.eq_2] at H
 dsimp only
 refine az (ai (aA rfl (aA rfl (aC bg rfl rfl (ae (aa (aP rfl H (fun H => ?_) (fun H => ?_))))))))
 ·refine aN (aa (az (Tr.block (ai (aA rfl (Tr.k rfl (ae (aa (Tr.block (df (σ := (List dK) × Int) (fun m w s => cK p1 A (bB N p1 p2 b6) m s.1 s.2 = some r ∧ s.1.length = p0.length) (fun s => [(0, sL d s.1 f), (1, iv p1), (2, iv p2), (3, .func (.func 15) #[] #[pV iW]), (8, iv A), (9, iv s.2)]) (fun s => [(0, ow d f 45 aO s.1)]) N (a0, A) ⟨H, T⟩ (.r rfl) (.r rfl) (fun _ _ h => jQ (h.1)) ?_))))))))))
  intro w a6 f7 s hs
  obtain ⟨B, g⟩ := s
  obtain ⟨H, X⟩ := hs
  replace H : cK p1 A (bB N p1 p2 b6) (f7 + 1) B g = some r := H
  replace hc0 := a6.ext.cells hb0 hc0
  replace hb0 := a6.r _ hb0
  replace Z := Z.trans a6
  replace X : B.length = p0.length := X
  have G : dM d B.length f := (by rw [X]; exact a5)
  rw [cK.eq_2] at H
  dsimp only
  refine az (az (jb (by kernel_rfl) (by kernel_rfl) (dD rfl (dD rfl (fO jq rfl rfl (dD rfl ?_))))))
  obtain ⟨a8, Q, H⟩ := bnd H
  refine rz 13 [(0, sL d B f), (1, iv p1), (2, iv p2), (3, .func (.func 15) #[] #[pV iW]), (8, iv A), (9, iv g), (34, bV a8)] ?_ ?_
  ·cases a9 : (decide (p1 < g))
   ·rw [a9] at Q
    rw [if_neg (by decide)] at Q
    have H := Q
    obtain rfl := oI H
    refine cZ rfl (cZ rfl (cZ rfl (cZ rfl (cZ rfl (cZ rfl (cZ rfl ?_))))))
    exact cZ rfl (cZ rfl (cZ rfl (cZ rfl (cZ rfl (fO bE rfl rfl (Tq.fin (.r rfl)))))))
   ·rw [a9] at Q
    rw [if_pos rfl] at Q
    have H := Q
    refine kg run_move rfl (kg run_move rfl (kg run_move rfl ?_))
    obtain ⟨C, e0, H⟩ := bnd H
    obtain ⟨b7, b8, b9⟩ := aU e0
    refine Tq.x (fun _ _ a c => ak oU (a.ev rfl) G (a.ev rfl) b7 b8) (uG (U := (aO).Ad) (fun u => (aO).ok w.O w.W u C) (fun u => (.agg #[sL u.1 C.points u.2, iv C.area])) (wg rfl rfl rfl) rfl (Fj (κ := 0) (t := aO) (V := fun u => (.agg #[sL u.1 C.points u.2, iv C.area])) rfl b9 (fun _ _ u a hc => aM (cs := [sL u.1 C.points u.2, iv C.area]) rE mH (a.ev rfl) (aF.take hc 2) rfl)) ?_)
    intro e9 b2
    obtain ⟨a1, a2⟩ := e9
    have I := b2
    replace I : Sl w.O w.W aX a1 a2 C.points := I
    dsimp only
    refine kg run_move rfl (kg run_move rfl (ug gH rfl rfl ?_))
    obtain ⟨D, e3, H⟩ := bnd H
    obtain ⟨c0, c3, c4⟩ := aU e3
    refine Tq.x (fun _ _ a c => ak oU (a.ev rfl) G (a.ev rfl) c0 c3) (uG (U := (aO).Ad) (fun u => (aO).ok w.O w.W u D) (fun u => (.agg #[sL u.1 D.points u.2, iv D.area])) (wg rfl rfl rfl) rfl (Fj (κ := 0) (t := aO) (V := fun u => (.agg #[sL u.1 D.points u.2, iv D.area])) rfl c4 (fun _ _ u a hc => aM (cs := [sL u.1 D.points u.2, iv D.area]) rE mH (a.ev rfl) (aF.take hc 2) rfl)) ?_)
    intro f1 b3
    obtain ⟨a3, a4⟩ := f1
    have J := b3
    replace J : Sl w.O w.W aX a3 a4 D.points := J
    dsimp only
    obtain ⟨c5, e4, H⟩ := bnd H
    refine oo (r := (iv c5)) (wg rfl rfl rfl) rfl rfl Tryz.call15 (aj rfl (aj rfl aL)) (fun W hW => nJ C a1 a2 (I.rl.ext hW.cB) D a3 a4 (J.rl.ext hW.cB) iW (hW.cB.r _ hb0) (hW.cB.cells hb0 hc0) c5 e4 (HF.start _)) (ug bg rfl rfl (fO bD rfl rfl ?_))
    obtain rfl := oI H
    exact Tq.fin (.r rfl)
  ·refine iE (aa (aP rfl H (fun H => ?_) (fun H => ?_)))
   ·refine aN (aa (az (Tr.block (tZ 16 [(15, (ow d f 45 aO B).S)] [] (by kernel_rfl) (by kernel_rfl) fun f9 f2 f5 => (dE 0 [(37, sL d B f)] (by kernel_rfl) rfl rfl (by kernel_rfl) ?_ rfl rfl ?_)))))
    ·exact dD rfl (Tq.fin (.r rfl))
    refine dE 1 [(38, iv g)] (by kernel_rfl) rfl rfl (by kernel_rfl) ?_ rfl rfl ?_
    ·exact dD rfl (Tq.fin (.r rfl))
    refine dI 2 (by kernel_rfl) rfl (wn rfl) rfl (by kernel_rfl) (fun _ _ a => run_move (a.ev rfl)) rfl (dI 3 (by kernel_rfl) rfl (wn rfl) rfl (by kernel_rfl) (fun _ _ a => run_move (a.ev rfl)) rfl (dI 4 (by kernel_rfl) rfl (wn rfl) rfl (by kernel_rfl) (fun _ _ a => gH (a.ev rfl) (a.ev rfl)) rfl (dE 5 [(42, sL d B f)] (by kernel_rfl) rfl rfl (by kernel_rfl) ?_ rfl rfl ?_)))
    ·exact dD rfl (Tq.fin (.r rfl))
    refine dE 6 [(43, iv g)] (by kernel_rfl) rfl rfl (by kernel_rfl) ?_ rfl rfl ?_
    ·exact dD rfl (Tq.fin (.r rfl))
    refine dE 7 [(44, iv (bG (g - 1)))] (by kernel_rfl) rfl rfl (by kernel_rfl) ?_ rfl rfl ?_
    ·exact fO gH rfl rfl (Tq.fin (.r rfl))
    obtain ⟨j, e5, H⟩ := bnd H
    obtain ⟨c6, c7, c8⟩ := aU e5
    refine dE 8 [(45, .pointer (some ⟨mV d, pW d + ((bG (g - 1))).toNat * 2, none⟩))] (by kernel_rfl) rfl rfl (by kernel_rfl) ?_ rfl rfl ?_
    ·exact bi rfl (fun _ _ a c => ak oU (a.ev rfl) G (a.ev rfl) c6 c7) (Tq.fin (.r rfl))
    refine rH 9 (U := (aO).Ad) (fun u => (aO).ok w.O w.W u j) (fun u => (.agg #[sL u.1 j.points u.2, iv j.area])) (by kernel_rfl) rfl (wn rfl) rfl (by kernel_rfl) (Fj (κ := 0) (t := aO) (V := fun u => (.agg #[sL u.1 j.points u.2, iv j.area])) rfl c8 (fun _ _ u a hc => aM (cs := [sL u.1 j.points u.2, iv j.area]) rE mH (a.ev rfl) (aF.take hc 2) rfl)) ?_
    intro f3 b4
    obtain ⟨q, v⟩ := f3
    have K := b4
    replace K : Sl w.O w.W aX q v j.points := K
    dsimp only
    refine dI 10 (by kernel_rfl) rfl (wn rfl) rfl (by kernel_rfl) (fun _ _ a => run_move (a.ev rfl)) rfl (dI 11 (by kernel_rfl) rfl (wn rfl) rfl (by kernel_rfl) (fun _ _ a => run_move (a.ev rfl)) rfl ?_)
    obtain ⟨o, e6, H⟩ := bnd H
    obtain ⟨c9, d0, d1⟩ := aU e6
    refine dI 12 (by kernel_rfl) rfl (wn rfl) rfl (by kernel_rfl) (fun _ _ a => ak oU (a.ev rfl) G (a.ev rfl) c9 d0) rfl (rH 13 (U := (aO).Ad) (fun u => (aO).ok w.O w.W u o) (fun u => (.agg #[sL u.1 o.points u.2, iv o.area])) (by kernel_rfl) rfl (wn rfl) rfl (by kernel_rfl) (Fj (κ := 0) (t := aO) (V := fun u => (.agg #[sL u.1 o.points u.2, iv o.area])) rfl d1 (fun _ _ u a hc => aM (cs := [sL u.1 o.points u.2, iv o.area]) rE mH (a.ev rfl) (aF.take hc 2) rfl)) ?_)
    intro f4 b5
    obtain ⟨y, z⟩ := f4
    have L := b5
    replace L : Sl w.O w.W aX y z o.points := L
    dsimp only
    obtain ⟨g0, e7, H⟩ := bnd H
    obtain ⟨d2, d3, d4⟩ := aU e7
    refine dE 14 [(51, .pointer (some ⟨mV d, pW d + (g).toNat * 2, none⟩))] (by kernel_rfl) rfl rfl (by kernel_rfl) ?_ rfl rfl ?_
    ·exact bi rfl (fun _ _ a c => ak oU (a.ev rfl) G (a.ev rfl) d2 d3) (Tq.fin (.r rfl))
    obtain ⟨M, b0, H⟩ := bnd H
    refine Dr.one 15 (by kernel_rfl) ?_
    have E := nZ b0
    refine xP 15 0 (t' := aO) (ll := B) (ix := g) (fo := 0) (cs := [sL q j.points v, iv j.area]) j (fun b hb => .inl ⟨_, List.mem_cons_self, rfl, hb⟩) rfl (wn rfl) rfl rfl rfl rfl rfl d4 mH rfl (fun u hu => ⟨(q, v), K, rfl⟩) rfl b0 ?_
    have a7 : dM d M.length f := by rw [E]; exact G
    have d5 := E.trans X
    refine Dr.use (lf := [(0, sL d M f), (1, iv p1), (2, iv p2), (3, .func (.func 15) #[] #[pV iW]), (8, iv A), (9, iv g), (34, bV a8), (37, sL d M f), (38, iv g), (39, sL d M f), (40, iv g), (41, iv (bG (g - 1))), (42, sL d M f), (43, iv g), (44, iv (bG (g - 1))), (46, .agg #[sL q j.points v, iv j.area]), (47, sL d M f), (48, iv g), (50, .agg #[sL y o.points z, iv o.area])]) (le := [(0, ow d f 45 aO M)]) ?_ rfl (.cons (dJ rfl (by unfold sL; rw [E])) (.cons rfl (.cons rfl (.cons rfl (.cons rfl (.cons rfl (.cons rfl (.cons (dJ rfl (by unfold sL; rw [E])) (.cons rfl (.cons (dJ rfl (by unfold sL; rw [E])) (.cons rfl (.cons rfl (.cons (dJ rfl (by unfold sL; rw [E])) (.cons rfl (.cons rfl (.cons rfl (.cons (dJ rfl (by unfold sL; rw [E])) (.r rfl)))))))))))))))))) (.r rfl)
    refine wy (by kernel_rfl) ?_
    obtain ⟨g1, e8, H⟩ := bnd H
    obtain ⟨d6, d7, d8⟩ := aU e8
    refine aG rfl (fun _ _ a c => ak oU (a.ev rfl) a7 (a.ev rfl) d6 d7) ?_
    obtain ⟨P, b1, H⟩ := bnd H
    have F := nZ b1
    refine oK 0 (t := aO) (l := M) (i := (bG (g - 1))) (fo := 0) (cs := [sL y o.points z, iv o.area]) o (wn rfl) rfl rfl rfl rfl rfl d8 mH rfl (fun u hu => ⟨(y, z), L, rfl⟩) rfl b1 ?_
    have f8 : dM d P.length f := by rw [F]; exact a7
    have d9 := F.trans d5
    exact Tr.vJ (lf := [(0, sL d P f), (1, iv p1), (2, iv p2), (3, .func (.func 15) #[] #[pV iW]), (8, iv A), (9, iv g), (34, bV a8), (37, sL d P f), (38, iv g), (39, sL d P f), (40, iv g), (41, iv (bG (g - 1))), (42, sL d P f), (43, iv g), (44, iv (bG (g - 1))), (46, .agg #[sL q j.points v, iv j.area]), (47, sL d P f), (48, iv g), (50, .agg #[sL y o.points z, iv o.area])]) (le := [(0, ow d f 45 aO P)]) (.cons (dJ rfl (by unfold sL; rw [F])) (.cons rfl (.cons rfl (.cons rfl (.cons rfl (.cons rfl (.cons rfl (.cons (dJ rfl (by unfold sL; rw [F])) (.cons rfl (.cons (dJ rfl (by unfold sL; rw [F])) (.cons rfl (.cons rfl (.cons (dJ rfl (by unfold sL; rw [F])) (.cons rfl (.cons rfl (.cons rfl (.cons (dJ rfl (by unfold sL; rw [F])) (.r rfl)))))))))))))))))) (.r rfl) (ae (aJ (aa (aI (aA rfl (aC gH rfl rfl (Tr.k rfl (ae (aD a6 (P, (bG (g - 1))) ⟨H, d9⟩ (.r rfl) (.r rfl))))))))))
   ·exact bW (aB (aB (aR (aJ (aa (aI (aA rfl (aC bv rfl rfl (Tr.k rfl (ae (aD Z (B, (bG (A + 1))) ⟨H, X⟩ (.r rfl) (.r rfl))))))))))))
 ·refine bW (aB (aB (aR (om ?_))))
  obtain rfl := oI H
  exact Tr.out (m := []) [] bO (fun W hW => ⟨w, (), leB, rfl, T, hW.pick (ks := [0]) (by decide) (aH rfl bn)⟩)

theorem iN (N : Nat) {w : Bs} (p0 : (List dK)) (d : Option Addr) (g : Nat) (p1 : Int) (p2 : Int) (p3 : Int) (iW : Nat) (hb0 : w.R iW) (hc0 : aF w.W iW 0 [.func (.func 13) #[] #[]]) (r : (List dK)) (H : ed N p0 p1 p2 p3 = some r) (hE : HF w w.W (iF [ow d g 45 aO p0])) : Calls Tryz.prog 170 [sL d p0 g, iv p1, iv p2, iv p3, .func (.func 15) #[] #[pV iW]].toArray w.W fun e W' => ∃ (w' : Bs) (u : Unit), w.Le w' ∧ e = .returned (.tuple #[]) ∧ (r.length = p0.length) ∧ HF w' W' (iF [ow d g 45 aO r]) := by
 unfold ed at H
 have P := (hE.sl (k := 0) rfl).form
 have leB := Bs.Le.refl w
 refine aZ (n := 38) Tryz.func170 rfl rfl rfl hE (ai (Tr.k rfl (ae (aa (Tr.block (df (σ := (List dK) × Int) (fun m w s => dw p1 p2 p3 m s.1 s.2 = some r ∧ s.1.length = p0.length) (fun s => [(0, sL d s.1 g), (1, iv p1), (2, iv p2), (3, iv p3), (10, iv s.2)]) (fun s => [(0, ow d g 45 aO s.1)]) N (p0, 0) ⟨H, rfl⟩ (.r rfl) (.r rfl) (fun _ _ h => jQ (h.1)) ?_))))))
 intro w X c3 s hs
 obtain ⟨C, f⟩ := s
 obtain ⟨H, I⟩ := hs
 replace H : dw p1 p2 p3 (c3 + 1) C f = some r := H
 replace leB := leB.trans X
 replace I : C.length = p0.length := I
 have J : dM d C.length g := (by rw [I]; exact P)
 rw [dw.eq_2] at H
 dsimp only
 refine az (ai (aA rfl (aA rfl (aC bg rfl rfl (ae (aa (aP rfl H (fun H => ?_) (fun H => ?_))))))))
 ·refine aN (aa (az (Tr.block (tZ 22 [(21, (ow d g 45 aO C).S)] [] (by kernel_rfl) (by kernel_rfl) fun c5 b7 c0 => (dE 0 [(16, sL d C g)] (by kernel_rfl) rfl rfl (by kernel_rfl) ?_ rfl rfl ?_)))))
  ·exact dD rfl (Tq.fin (.r rfl))
  refine dE 1 [(17, iv p1)] (by kernel_rfl) rfl rfl (by kernel_rfl) ?_ rfl rfl ?_
  ·exact dD rfl (Tq.fin (.r rfl))
  refine dE 2 [(18, iv f)] (by kernel_rfl) rfl rfl (by kernel_rfl) ?_ rfl rfl ?_
  ·exact dD rfl (Tq.fin (.r rfl))
  refine dE 3 [(19, iv (bG (p1 + f)))] (by kernel_rfl) rfl rfl (by kernel_rfl) ?_ rfl rfl ?_
  ·exact fO bv rfl rfl (Tq.fin (.r rfl))
  refine dI 4 (by kernel_rfl) rfl (wn rfl) rfl (by kernel_rfl) (fun _ _ a => run_move (a.ev rfl)) rfl (dI 5 (by kernel_rfl) rfl (wn rfl) rfl (by kernel_rfl) (fun _ _ a => run_move (a.ev rfl)) rfl (dI 6 (by kernel_rfl) rfl (wn rfl) rfl (by kernel_rfl) (fun _ _ a => run_move (a.ev rfl)) rfl (dI 7 (by kernel_rfl) rfl (wn rfl) rfl (by kernel_rfl) (fun _ _ a => bv (a.ev rfl) (a.ev rfl)) rfl (dE 8 [(24, sL d C g)] (by kernel_rfl) rfl rfl (by kernel_rfl) ?_ rfl rfl ?_))))
  ·exact dD rfl (Tq.fin (.r rfl))
  refine dE 9 [(25, iv p2)] (by kernel_rfl) rfl rfl (by kernel_rfl) ?_ rfl rfl ?_
  ·exact dD rfl (Tq.fin (.r rfl))
  refine dE 10 [(26, iv f)] (by kernel_rfl) rfl rfl (by kernel_rfl) ?_ rfl rfl ?_
  ·exact dD rfl (Tq.fin (.r rfl))
  refine dE 11 [(27, iv (bG (p2 + f)))] (by kernel_rfl) rfl rfl (by kernel_rfl) ?_ rfl rfl ?_
  ·exact fO bv rfl rfl (Tq.fin (.r rfl))
  obtain ⟨j, b3, H⟩ := bnd H
  obtain ⟨Z, a0, a1⟩ := aU b3
  refine dE 12 [(28, .pointer (some ⟨mV d, pW d + ((bG (p2 + f))).toNat * 2, none⟩))] (by kernel_rfl) rfl rfl (by kernel_rfl) ?_ rfl rfl ?_
  ·exact bi rfl (fun _ _ a c => ak oU (a.ev rfl) J (a.ev rfl) Z a0) (Tq.fin (.r rfl))
  refine rH 13 (U := (aO).Ad) (fun u => (aO).ok w.O w.W u j) (fun u => (.agg #[sL u.1 j.points u.2, iv j.area])) (by kernel_rfl) rfl (wn rfl) rfl (by kernel_rfl) (Fj (κ := 0) (t := aO) (V := fun u => (.agg #[sL u.1 j.points u.2, iv j.area])) rfl a1 (fun _ _ u a hc => aM (cs := [sL u.1 j.points u.2, iv j.area]) rE mH (a.ev rfl) (aF.take hc 2) rfl)) ?_
  intro b8 Q
  obtain ⟨q, v⟩ := b8
  have D := Q
  replace D : Sl w.O w.W aX q v j.points := D
  dsimp only
  refine dI 14 (by kernel_rfl) rfl (wn rfl) rfl (by kernel_rfl) (fun _ _ a => run_move (a.ev rfl)) rfl (dI 15 (by kernel_rfl) rfl (wn rfl) rfl (by kernel_rfl) (fun _ _ a => run_move (a.ev rfl)) rfl (dI 16 (by kernel_rfl) rfl (wn rfl) rfl (by kernel_rfl) (fun _ _ a => run_move (a.ev rfl)) rfl (dI 17 (by kernel_rfl) rfl (wn rfl) rfl (by kernel_rfl) (fun _ _ a => bv (a.ev rfl) (a.ev rfl)) rfl ?_)))
  obtain ⟨o, b4, H⟩ := bnd H
  obtain ⟨a2, a3, a4⟩ := aU b4
  refine dI 18 (by kernel_rfl) rfl (wn rfl) rfl (by kernel_rfl) (fun _ _ a => ak oU (a.ev rfl) J (a.ev rfl) a2 a3) rfl (rH 19 (U := (aO).Ad) (fun u => (aO).ok w.O w.W u o) (fun u => (.agg #[sL u.1 o.points u.2, iv o.area])) (by kernel_rfl) rfl (wn rfl) rfl (by kernel_rfl) (Fj (κ := 0) (t := aO) (V := fun u => (.agg #[sL u.1 o.points u.2, iv o.area])) rfl a4 (fun _ _ u a hc => aM (cs := [sL u.1 o.points u.2, iv o.area]) rE mH (a.ev rfl) (aF.take hc 2) rfl)) ?_)
  intro b9 T
  obtain ⟨y, z⟩ := b9
  have E := T
  replace E : Sl w.O w.W aX y z o.points := E
  dsimp only
  obtain ⟨c6, b5, H⟩ := bnd H
  obtain ⟨a5, a6, a7⟩ := aU b5
  refine dE 20 [(36, .pointer (some ⟨mV d, pW d + ((bG (p1 + f))).toNat * 2, none⟩))] (by kernel_rfl) rfl rfl (by kernel_rfl) ?_ rfl rfl ?_
  ·exact bi rfl (fun _ _ a c => ak oU (a.ev rfl) J (a.ev rfl) a5 a6) (Tq.fin (.r rfl))
  obtain ⟨F, L, H⟩ := bnd H
  refine Dr.one 21 (by kernel_rfl) ?_
  have A := nZ L
  refine xP 21 0 (t' := aO) (ll := C) (ix := (bG (p1 + f))) (fo := 0) (cs := [sL q j.points v, iv j.area]) j (fun b hb => .inl ⟨_, List.mem_cons_self, rfl, hb⟩) rfl (wn rfl) rfl rfl rfl rfl rfl a7 mH rfl (fun u hu => ⟨(q, v), D, rfl⟩) rfl L ?_
  have K : dM d F.length g := by rw [A]; exact J
  have a8 := A.trans I
  refine Dr.use (lf := [(0, sL d F g), (1, iv p1), (2, iv p2), (3, iv p3), (10, iv f), (11, iv f), (12, iv p3), (13, bV (decide (f < p3))), (16, sL d F g), (17, iv p1), (18, iv f), (19, iv (bG (p1 + f))), (20, sL d F g), (21, iv p2), (22, iv f), (23, iv (bG (p2 + f))), (24, sL d F g), (25, iv p2), (26, iv f), (27, iv (bG (p2 + f))), (29, .agg #[sL q j.points v, iv j.area]), (30, sL d F g), (31, iv p1), (32, iv f), (33, iv (bG (p1 + f))), (35, .agg #[sL y o.points z, iv o.area])]) (le := [(0, ow d g 45 aO F)]) ?_ rfl (.cons (dJ rfl (by unfold sL; rw [A])) (.cons rfl (.cons rfl (.cons rfl (.cons rfl (.cons rfl (.cons rfl (.cons rfl (.cons (dJ rfl (by unfold sL; rw [A])) (.cons rfl (.cons rfl (.cons rfl (.cons (dJ rfl (by unfold sL; rw [A])) (.cons rfl (.cons rfl (.cons rfl (.cons (dJ rfl (by unfold sL; rw [A])) (.cons rfl (.cons rfl (.cons rfl (.cons rfl (.cons (dJ rfl (by unfold sL; rw [A])) (.r rfl))))))))))))))))))))))) (.r rfl)
  refine wy (by kernel_rfl) ?_
  obtain ⟨c7, b6, H⟩ := bnd H
  obtain ⟨a9, b0, b1⟩ := aU b6
  refine aG rfl (fun _ _ a c => ak oU (a.ev rfl) K (a.ev rfl) a9 b0) ?_
  obtain ⟨G, M, H⟩ := bnd H
  have B := nZ M
  refine oK 0 (t := aO) (l := F) (i := (bG (p2 + f))) (fo := 0) (cs := [sL y o.points z, iv o.area]) o (wn rfl) rfl rfl rfl rfl rfl b1 mH rfl (fun u hu => ⟨(y, z), E, rfl⟩) rfl M ?_
  have c4 : dM d G.length g := by rw [B]; exact K
  have b2 := B.trans a8
  exact Tr.vJ (lf := [(0, sL d G g), (1, iv p1), (2, iv p2), (3, iv p3), (10, iv f), (11, iv f), (12, iv p3), (13, bV (decide (f < p3))), (16, sL d G g), (17, iv p1), (18, iv f), (19, iv (bG (p1 + f))), (20, sL d G g), (21, iv p2), (22, iv f), (23, iv (bG (p2 + f))), (24, sL d G g), (25, iv p2), (26, iv f), (27, iv (bG (p2 + f))), (29, .agg #[sL q j.points v, iv j.area]), (30, sL d G g), (31, iv p1), (32, iv f), (33, iv (bG (p1 + f))), (35, .agg #[sL y o.points z, iv o.area])]) (le := [(0, ow d g 45 aO G)]) (.cons (dJ rfl (by unfold sL; rw [B])) (.cons rfl (.cons rfl (.cons rfl (.cons rfl (.cons rfl (.cons rfl (.cons rfl (.cons (dJ rfl (by unfold sL; rw [B])) (.cons rfl (.cons rfl (.cons rfl (.cons (dJ rfl (by unfold sL; rw [B])) (.cons rfl (.cons rfl (.cons rfl (.cons (dJ rfl (by unfold sL; rw [B])) (.cons rfl (.cons rfl (.cons rfl (.cons rfl (.cons (dJ rfl (by unfold sL; rw [B])) (.r rfl))))))))))))))))))))))) (.r rfl) (ae (aJ (aa (aI (aA rfl (aC bv rfl rfl (Tr.k rfl (ae (aD X (G, (bG (f + 1))) ⟨H, b2⟩ (.r rfl) (.r rfl))))))))))
 ·refine bW (aB (aB (aR (om ?_))))
  obtain rfl := oI H
  exact Tr.out (m := []) [] bO (fun W hW => ⟨w, (), leB, rfl, I, hW.pick (ks := [0]) (by decide) (aH rfl bn)⟩)

theorem oW (N : Nat) {w : Bs} (p0 : (List dK)) (a : Option Addr) (b : Nat) (p1 : Int) (p2 : Int) (p3 : Int) (iW : Nat) (hb0 : w.R iW) (hc0 : aF w.W iW 0 [.func (.func 13) #[] #[]]) (r : (List dK)) (H : gp N p0 p1 p2 p3 = some r) (hE : HF w w.W (iF [ow a b 45 aO p0])) : Calls Tryz.prog 119 [sL a p0 b, iv p1, iv p2, iv p3, .func (.func 15) #[] #[pV iW]].toArray w.W fun e W' => ∃ (w' : Bs) (u : Unit), w.Le w' ∧ e = .returned (.tuple #[]) ∧ (r.length = p0.length) ∧ HF w' W' (iF [ow a b 45 aO r]) := by
 unfold gp at H
 have F := (hE.sl (k := 0) rfl).form
 have leB := Bs.Le.refl w
 refine aZ (n := 58) Tryz.func119 rfl rfl rfl hE (ai (aA rfl (aA rfl (aC gH rfl rfl (Tr.k rfl (ae (aa (ai (aA rfl (aA rfl (aC gH rfl rfl (Tr.k rfl (ae (aa (az (Tr.block (df (σ := (List dK) × Int × Int) (fun m w s => dh N p2 m s.1 s.2.1 s.2.2 = some r ∧ s.1.length = p0.length) (fun s => [(0, sL a s.1 b), (2, iv p2), (4, .func (.func 15) #[] #[pV iW]), (10, iv s.2.1), (11, iv s.2.2)]) (fun s => [(0, ow a b 45 aO s.1)]) N (p0, (bG (p2 - p1)), (bG (p3 - p2))) ⟨H, rfl⟩ (.r rfl) (.r rfl) (fun _ _ h => jQ (h.1)) ?_)))))))))))))))))
 intro w q T s hs
 obtain ⟨f, c, d⟩ := s
 obtain ⟨H, v⟩ := hs
 replace H : dh N p2 (T + 1) f c d = some r := H
 replace hc0 := q.ext.cells hb0 hc0
 replace hb0 := q.r _ hb0
 replace leB := leB.trans q
 replace v : f.length = p0.length := v
 have y : dM a f.length b := (by rw [v]; exact F)
 rw [dh.eq_2] at H
 dsimp only
 refine az (ai (aA rfl (aA rfl (aC jD rfl rfl (ae (aa (aP rfl H (fun H => ?_) (fun H => ?_))))))))
 ·refine aN (aa (Tr.block (ai (aA rfl (aA rfl (aC jq rfl rfl (ae (aa (aP rfl H (fun H => ?_) (fun H => ?_))))))))))
  ·refine ai (aA rfl (aA rfl (aA rfl (aC gH rfl rfl (aA rfl (aA rfl (aA rfl ?_)))))))
   obtain ⟨l, G, H⟩ := bnd H
   refine fq [0] [ow a b 45 aO f] (U := Unit) (fun u => (.tuple #[])) (fun O W u => l.length = f.length) (fun u => [ow a b 45 aO l]) rfl (aH rfl bn) (fun _ => rfl) (wn rfl) rfl Tryz.call170 (aj rfl (aj rfl (aj rfl (aj rfl (aj rfl aL))))) (fun W hW hp hE => iN N f a b (bG (p2 - c)) p2 d iW ((hW.gM hp).r _ hb0) ((hW.gM hp).cells hb0 hc0) l G hE) ?_
   intro w u I hu
   have C := hu
   replace q := q.trans I
   have g : l.length = f.length := C --@phi
   have P : dM a l.length b := by rw [g]; exact y
   have z := g.trans v
   show Tr _ _ (uf _ 31 (.tuple #[])) (up _ 0 (ow a b 45 aO l)) _
   exact Tr.vJ (lf := [(0, sL a l b), (2, iv p2), (4, .func (.func 15) #[] #[pV iW]), (10, iv c), (11, iv d), (18, iv c), (19, iv d), (20, bV (c != d)), (21, iv c), (22, iv d), (23, bV (decide (d < c))), (24, sL a l b), (25, iv p2), (26, iv c), (27, iv (bG (p2 - c))), (28, iv p2), (29, iv d), (30, .func (.func 15) #[] #[pV iW]), (31, (.tuple #[]))]) (le := [(0, ow a b 45 aO l)]) (.cons (dJ rfl (by unfold sL; rw [g])) (.cons rfl (.cons rfl (.cons rfl (.cons rfl (.cons rfl (.cons rfl (.cons rfl (.cons rfl (.cons rfl (.cons rfl (.cons (dJ rfl (by unfold sL; rw [g])) (.r rfl))))))))))))) (.r rfl) (ae (aa (aI (aA rfl (aA rfl (aC gH rfl rfl (Tr.k rfl (ae (aJ (aD q (l, (bG (c - d)), d) ⟨H, z⟩ (.r rfl) (.r rfl)))))))))))
  ·refine ai (aA rfl (aA rfl (aA rfl (aC gH rfl rfl (aA rfl (aA rfl (aC bv rfl rfl (aA rfl (aC gH rfl rfl (aA rfl (aA rfl ?_)))))))))))
   obtain ⟨o, J, H⟩ := bnd H
   refine fq [0] [ow a b 45 aO f] (U := Unit) (fun u => (.tuple #[])) (fun O W u => o.length = f.length) (fun u => [ow a b 45 aO o]) rfl (aH rfl bn) (fun _ => rfl) (wn rfl) rfl Tryz.call170 (aj rfl (aj rfl (aj rfl (aj rfl (aj rfl aL))))) (fun W hW hp hE => iN N f a b (bG (p2 - c)) (bG ((bG (p2 + d)) - c)) c iW ((hW.gM hp).r _ hb0) ((hW.gM hp).cells hb0 hc0) o J hE) ?_
   intro w u K hu
   have D := hu
   replace q := q.trans K
   have i : o.length = f.length := D --@phi
   have Q : dM a o.length b := by rw [i]; exact y
   have A := i.trans v
   show Tr _ _ (uf _ 46 (.tuple #[])) (up _ 0 (ow a b 45 aO o)) _
   exact Tr.vJ (lf := [(0, sL a o b), (2, iv p2), (4, .func (.func 15) #[] #[pV iW]), (10, iv c), (11, iv d), (18, iv c), (19, iv d), (20, bV (c != d)), (21, iv c), (22, iv d), (23, bV (decide (d < c))), (35, sL a o b), (36, iv p2), (37, iv c), (38, iv (bG (p2 - c))), (39, iv p2), (40, iv d), (41, iv (bG (p2 + d))), (42, iv c), (43, iv (bG ((bG (p2 + d)) - c))), (44, iv c), (45, .func (.func 15) #[] #[pV iW]), (46, (.tuple #[]))]) (le := [(0, ow a b 45 aO o)]) (.cons (dJ rfl (by unfold sL; rw [i])) (.cons rfl (.cons rfl (.cons rfl (.cons rfl (.cons rfl (.cons rfl (.cons rfl (.cons rfl (.cons rfl (.cons rfl (.cons (dJ rfl (by unfold sL; rw [i])) (.r rfl))))))))))))) (.r rfl) (ae (aa (aI (aA rfl (aA rfl (aC gH rfl rfl (Tr.k rfl (ae (aJ (aD q (o, c, (bG (d - c))) ⟨H, A⟩ (.r rfl) (.r rfl)))))))))))
 ·refine bW (aB (aB (aR (aa (aI (aA rfl (aA rfl (aA rfl (aC gH rfl rfl (aA rfl (aA rfl (aA rfl ?_))))))))))))
  obtain ⟨t, L, H⟩ := bnd H
  refine fq [0] [ow a b 45 aO f] (U := Unit) (fun u => (.tuple #[])) (fun O W u => t.length = f.length) (fun u => [ow a b 45 aO t]) rfl (aH rfl bn) (fun _ => rfl) (wn rfl) rfl Tryz.call170 (aj rfl (aj rfl (aj rfl (aj rfl (aj rfl aL))))) (fun W hW hp hE => iN N f a b (bG (p2 - c)) p2 c iW ((hW.gM hp).r _ hb0) ((hW.gM hp).cells hb0 hc0) t L hE) ?_
  intro w u M hu
  have E := hu
  replace leB := leB.trans M
  have j : t.length = f.length := E --@phi
  have S : dM a t.length b := by rw [j]; exact y
  have B := j.trans v
  show Tr _ _ (uf _ 57 (.tuple #[])) (up _ 0 (ow a b 45 aO t)) _
  refine Tr.vJ (lf := [(0, sL a t b), (2, iv p2), (4, .func (.func 15) #[] #[pV iW]), (10, iv c), (11, iv d), (18, iv c), (19, iv d), (20, bV (c != d)), (50, sL a t b), (51, iv p2), (52, iv c), (53, iv (bG (p2 - c))), (54, iv p2), (55, iv c), (56, .func (.func 15) #[] #[pV iW]), (57, (.tuple #[]))]) (le := [(0, ow a b 45 aO t)]) (.cons (dJ rfl (by unfold sL; rw [j])) (.cons rfl (.cons rfl (.cons rfl (.cons rfl (.cons rfl (.cons rfl (.cons rfl (.cons (dJ rfl (by unfold sL; rw [j])) (.r rfl)))))))))) (.r rfl) (ae (om ?_))
  obtain rfl := oI H
  exact Tr.out (m := []) [] bO (fun W hW => ⟨w, (), leB, rfl, B, hW.pick (ks := [0]) (by decide) (aH rfl bn)⟩)

theorem nU (N : Nat) (rec : (List dK) → Int → Int → Int → Option (List dK)) (hrec : ∀ {w : Bs} (p0 : (List dK)) (d : Option Addr) (f : Nat) (p1 : Int) (p2 : Int) (p3 : Int) (iW : Nat) (hb0 : w.R iW) (hc0 : aF w.W iW 0 [.func (.func 13) #[] #[]]) (r : (List dK)) (H : rec p0 p1 p2 p3 = some r) (hE : HF w w.W (iF [ow d f 45 aO p0])), Calls Tryz.prog 78 [sL d p0 f, iv p1, iv p2, iv p3, .func (.func 15) #[] #[pV iW]].toArray w.W fun e W' => ∃ (w' : Bs) (u : Unit), w.Le w' ∧ e = .returned (.tuple #[]) ∧ (r.length = p0.length) ∧ HF w' W' (iF [ow d f 45 aO r])) {w : Bs} (p0 : (List dK)) (d : Option Addr) (f : Nat) (p1 : Int) (p2 : Int) (p3 : Int) (iW : Nat) (hb0 : w.R iW) (hc0 : aF w.W iW 0 [.func (.func 13) #[] #[]]) (r : (List dK)) (H : gP N rec p0 p1 p2 p3 = some r) (hE : HF w w.W (iF [ow d f 45 aO p0])) : Calls Tryz.prog 78 [sL d p0 f, iv p1, iv p2, iv p3, .func (.func 15) #[] #[pV iW]].toArray w.W fun e W' => ∃ (w' : Bs) (u : Unit), w.Le w' ∧ e = .returned (.tuple #[]) ∧ (r.length = p0.length) ∧ HF w' W' (iF [ow d f 45 aO r]) := by
 unfold gP at H
 have v := (hE.sl (k := 0) rfl).form
 have leB := Bs.Le.refl w
 refine aZ (n := 220) Tryz.func78 rfl rfl rfl hE (az (ai (aA rfl (aA rfl (aC gH rfl rfl (aC dL rfl rfl (ae (aa (aP rfl H (fun H => ?_) (fun H => ?_))))))))))
 ·refine ai (aA rfl (Tr.k rfl (ae (aa (ai (aA rfl (Tr.k rfl (ae (aa (az (Tr.block (df (σ := Int × Int) (fun m w s => cz N p0 p1 m s.1 s.2 = some r) (fun s => [(0, sL d p0 f), (1, iv p1), (4, .func (.func 15) #[] #[pV iW]), (10, iv s.1), (11, iv s.2)]) (fun s => [(0, ow d f 45 aO p0)]) N (p2, p3) H (.r rfl) (.r rfl) (fun _ _ h => jQ (h)) ?_))))))))))))
  intro w f4 t8 s hs
  obtain ⟨C, g6⟩ := s
  have H := hs
  replace H : cz N p0 p1 (t8 + 1) C g6 = some r := H
  replace hc0 := f4.ext.cells hb0 hc0
  replace hb0 := f4.r _ hb0
  replace leB := leB.trans f4
  rw [cz.eq_2] at H
  dsimp only
  refine az (ai (aA rfl (aA rfl (aC bg rfl rfl (ae (aa (aP rfl H (fun H => ?_) (fun H => ?_))))))))
  ·refine aN (aa (Tr.block (ai (aA rfl (aA rfl (aC bv rfl rfl ?_))))))
   obtain ⟨v0, o5, H⟩ := bnd H
   refine aG rfl (fun _ _ a c => CY Ip yC (a.ev rfl) o5) (aC A7 rfl rfl ?_)
   obtain ⟨i8, o6, H⟩ := bnd H
   refine aG rfl (fun _ _ a c => CZ yC Ip (a.ev rfl) o6) (Tr.k rfl (ae (aa (az (jb (by kernel_rfl) (by kernel_rfl) (dD rfl (dD rfl (dD rfl ?_))))))))
   obtain ⟨T, o7, H⟩ := bnd H
   obtain ⟨i9, j0, j1⟩ := aU o7
   refine bi rfl (fun _ _ a c => ak oU (a.ev rfl) v (a.ev rfl) i9 j0) (uG (U := (aO).Ad) (fun u => (aO).ok w.O w.W u T) (fun u => (.agg #[sL u.1 T.points u.2, iv T.area])) (wn rfl) rfl (Fj (κ := 0) (t := aO) (V := fun u => (.agg #[sL u.1 T.points u.2, iv T.area])) rfl j1 (fun _ _ u a hc => aM (cs := [sL u.1 T.points u.2, iv T.area]) rE mH (a.ev rfl) (aF.take hc 2) rfl)) ?_)
   intro s4 h8
   obtain ⟨d9, e0⟩ := s4
   have b5 := h8
   replace b5 : Sl w.O w.W aX d9 e0 T.points := b5
   dsimp only
   refine dD rfl (dD rfl ?_)
   obtain ⟨X, o8, H⟩ := bnd H
   obtain ⟨j2, j3, j4⟩ := aU o8
   refine bi rfl (fun _ _ a c => ak oU (a.ev rfl) v (a.ev rfl) j2 j3) (uG (U := (aO).Ad) (fun u => (aO).ok w.O w.W u X) (fun u => (.agg #[sL u.1 X.points u.2, iv X.area])) (wn rfl) rfl (Fj (κ := 0) (t := aO) (V := fun u => (.agg #[sL u.1 X.points u.2, iv X.area])) rfl j4 (fun _ _ u a hc => aM (cs := [sL u.1 X.points u.2, iv X.area]) rE mH (a.ev rfl) (aF.take hc 2) rfl)) ?_)
   intro s5 h9
   obtain ⟨e3, e4⟩ := s5
   have b6 := h9
   replace b6 : Sl w.O w.W aX e3 e4 X.points := b6
   dsimp only
   obtain ⟨j5, o9, H⟩ := bnd H
   refine oo (r := (iv j5)) (wn rfl) rfl rfl Tryz.call15 (aj rfl (aj rfl aL)) (fun W hW => nJ T d9 e0 (b5.rl.ext hW.cB) X e3 e4 (b6.rl.ext hW.cB) iW (hW.cB.r _ hb0) (hW.cB.cells hb0 hc0) j5 o9 (HF.start _)) (fO bg rfl rfl (iE (aa (aP rfl H (fun H => ?_) (fun H => ?_)))))
   ·exact aI (aA rfl (aC bv rfl rfl (Tr.k rfl (ae (aJ (aD f4 ((bG (i8 + 1)), g6) H (.r rfl) (.r rfl)))))))
   ·exact aI (aA rfl (Tr.k rfl (ae (aJ (aD f4 (C, i8) H (.r rfl) (.r rfl))))))
  ·refine bW (aB (aB (aR (aa (az (ai (aA rfl (Tr.k rfl (ae (aa (Tr.block (df (σ := (List dK) × Int) (fun m w s => cu C m s.1 s.2 = some r ∧ s.1.length = p0.length) (fun s => [(0, sL d s.1 f), (10, iv C), (13, iv s.2)]) (fun s => [(0, ow d f 45 aO s.1)]) N (p0, p1) ⟨H, rfl⟩ (.r rfl) (.r rfl) (fun _ _ h => jQ (h.1)) ?_))))))))))))
   intro w j6 t9 s hs
   obtain ⟨b2, o⟩ := s
   obtain ⟨H, d1⟩ := hs
   replace H : cu C (t9 + 1) b2 o = some r := H
   replace leB := leB.trans j6
   replace d1 : b2.length = p0.length := d1
   have d2 : dM d b2.length f := (by rw [d1]; exact v)
   rw [cu.eq_2] at H
   dsimp only
   refine az (ai (aA rfl (aA rfl (aC gH rfl rfl (aC bg rfl rfl (ae (aa (aP rfl H (fun H => ?_) (fun H => ?_)))))))))
   ·refine aN (aa (az (Tr.block (tZ 16 [(15, (ow d f 45 aO b2).S)] [] (by kernel_rfl) (by kernel_rfl) fun u5 s6 t6 => (dE 0 [(61, sL d b2 f)] (by kernel_rfl) rfl rfl (by kernel_rfl) ?_ rfl rfl ?_)))))
    ·exact dD rfl (Tq.fin (.r rfl))
    refine dE 1 [(62, iv o)] (by kernel_rfl) rfl rfl (by kernel_rfl) ?_ rfl rfl ?_
    ·exact dD rfl (Tq.fin (.r rfl))
    refine dI 2 (by kernel_rfl) rfl (wn rfl) rfl (by kernel_rfl) (fun _ _ a => run_move (a.ev rfl)) rfl (dI 3 (by kernel_rfl) rfl (wn rfl) rfl (by kernel_rfl) (fun _ _ a => run_move (a.ev rfl)) rfl (dI 4 (by kernel_rfl) rfl (wn rfl) rfl (by kernel_rfl) (fun _ _ a => bv (a.ev rfl) (a.ev rfl)) rfl (dE 5 [(66, sL d b2 f)] (by kernel_rfl) rfl rfl (by kernel_rfl) ?_ rfl rfl ?_)))
    ·exact dD rfl (Tq.fin (.r rfl))
    refine dE 6 [(67, iv o)] (by kernel_rfl) rfl rfl (by kernel_rfl) ?_ rfl rfl ?_
    ·exact dD rfl (Tq.fin (.r rfl))
    refine dE 7 [(68, iv (bG (o + 1)))] (by kernel_rfl) rfl rfl (by kernel_rfl) ?_ rfl rfl ?_
    ·exact fO bv rfl rfl (Tq.fin (.r rfl))
    obtain ⟨y, p4, H⟩ := bnd H
    obtain ⟨j7, j8, j9⟩ := aU p4
    refine dE 8 [(69, .pointer (some ⟨mV d, pW d + ((bG (o + 1))).toNat * 2, none⟩))] (by kernel_rfl) rfl rfl (by kernel_rfl) ?_ rfl rfl ?_
    ·exact bi rfl (fun _ _ a c => ak oU (a.ev rfl) d2 (a.ev rfl) j7 j8) (Tq.fin (.r rfl))
    refine rH 9 (U := (aO).Ad) (fun u => (aO).ok w.O w.W u y) (fun u => (.agg #[sL u.1 y.points u.2, iv y.area])) (by kernel_rfl) rfl (wn rfl) rfl (by kernel_rfl) (Fj (κ := 0) (t := aO) (V := fun u => (.agg #[sL u.1 y.points u.2, iv y.area])) rfl j9 (fun _ _ u a hc => aM (cs := [sL u.1 y.points u.2, iv y.area]) rE mH (a.ev rfl) (aF.take hc 2) rfl)) ?_
    intro s7 i0
    obtain ⟨G, I⟩ := s7
    have b7 := i0
    replace b7 : Sl w.O w.W aX G I y.points := b7
    dsimp only
    refine dI 10 (by kernel_rfl) rfl (wn rfl) rfl (by kernel_rfl) (fun _ _ a => run_move (a.ev rfl)) rfl (dI 11 (by kernel_rfl) rfl (wn rfl) rfl (by kernel_rfl) (fun _ _ a => run_move (a.ev rfl)) rfl ?_)
    obtain ⟨z, p5, H⟩ := bnd H
    obtain ⟨k0, k1, k2⟩ := aU p5
    refine dI 12 (by kernel_rfl) rfl (wn rfl) rfl (by kernel_rfl) (fun _ _ a => ak oU (a.ev rfl) d2 (a.ev rfl) k0 k1) rfl (rH 13 (U := (aO).Ad) (fun u => (aO).ok w.O w.W u z) (fun u => (.agg #[sL u.1 z.points u.2, iv z.area])) (by kernel_rfl) rfl (wn rfl) rfl (by kernel_rfl) (Fj (κ := 0) (t := aO) (V := fun u => (.agg #[sL u.1 z.points u.2, iv z.area])) rfl k2 (fun _ _ u a hc => aM (cs := [sL u.1 z.points u.2, iv z.area]) rE mH (a.ev rfl) (aF.take hc 2) rfl)) ?_)
    intro s8 i1
    obtain ⟨J, K⟩ := s8
    have b8 := i1
    replace b8 : Sl w.O w.W aX J K z.points := b8
    dsimp only
    obtain ⟨v3, p6, H⟩ := bnd H
    obtain ⟨k3, k4, k5⟩ := aU p6
    refine dE 14 [(75, .pointer (some ⟨mV d, pW d + (o).toNat * 2, none⟩))] (by kernel_rfl) rfl rfl (by kernel_rfl) ?_ rfl rfl ?_
    ·exact bi rfl (fun _ _ a c => ak oU (a.ev rfl) d2 (a.ev rfl) k3 k4) (Tq.fin (.r rfl))
    obtain ⟨b9, h4, H⟩ := bnd H
    refine Dr.one 15 (by kernel_rfl) ?_
    have Z := nZ h4
    refine xP 15 0 (t' := aO) (ll := b2) (ix := o) (fo := 0) (cs := [sL G y.points I, iv y.area]) y (fun b hb => .inl ⟨_, List.mem_cons_self, rfl, hb⟩) rfl (wn rfl) rfl rfl rfl rfl rfl k5 mH rfl (fun u hu => ⟨(G, I), b7, rfl⟩) rfl h4 ?_
    have g0 : dM d b9.length f := by rw [Z]; exact d2
    have k6 := Z.trans d1
    refine Dr.use (lf := [(0, sL d b9 f), (10, iv C), (13, iv o), (55, iv o), (56, iv C), (57, iv (bG (C - 1))), (58, bV (decide (o < (bG (C - 1))))), (61, sL d b9 f), (62, iv o), (63, sL d b9 f), (64, iv o), (65, iv (bG (o + 1))), (66, sL d b9 f), (67, iv o), (68, iv (bG (o + 1))), (70, .agg #[sL G y.points I, iv y.area]), (71, sL d b9 f), (72, iv o), (74, .agg #[sL J z.points K, iv z.area])]) (le := [(0, ow d f 45 aO b9)]) ?_ rfl (.cons (dJ rfl (by unfold sL; rw [Z])) (.cons rfl (.cons rfl (.cons rfl (.cons rfl (.cons rfl (.cons rfl (.cons (dJ rfl (by unfold sL; rw [Z])) (.cons rfl (.cons (dJ rfl (by unfold sL; rw [Z])) (.cons rfl (.cons rfl (.cons (dJ rfl (by unfold sL; rw [Z])) (.cons rfl (.cons rfl (.cons rfl (.cons (dJ rfl (by unfold sL; rw [Z])) (.r rfl)))))))))))))))))) (.r rfl)
    refine wy (by kernel_rfl) ?_
    obtain ⟨v4, p7, H⟩ := bnd H
    obtain ⟨k7, k8, k9⟩ := aU p7
    refine aG rfl (fun _ _ a c => ak oU (a.ev rfl) g0 (a.ev rfl) k7 k8) ?_
    obtain ⟨c0, h5, H⟩ := bnd H
    have a0 := nZ h5
    refine oK 0 (t := aO) (l := b9) (i := (bG (o + 1))) (fo := 0) (cs := [sL J z.points K, iv z.area]) z (wn rfl) rfl rfl rfl rfl rfl k9 mH rfl (fun u hu => ⟨(J, K), b8, rfl⟩) rfl h5 ?_
    have u0 : dM d c0.length f := by rw [a0]; exact g0
    have l0 := a0.trans k6
    exact Tr.vJ (lf := [(0, sL d c0 f), (10, iv C), (13, iv o), (55, iv o), (56, iv C), (57, iv (bG (C - 1))), (58, bV (decide (o < (bG (C - 1))))), (61, sL d c0 f), (62, iv o), (63, sL d c0 f), (64, iv o), (65, iv (bG (o + 1))), (66, sL d c0 f), (67, iv o), (68, iv (bG (o + 1))), (70, .agg #[sL G y.points I, iv y.area]), (71, sL d c0 f), (72, iv o), (74, .agg #[sL J z.points K, iv z.area])]) (le := [(0, ow d f 45 aO c0)]) (.cons (dJ rfl (by unfold sL; rw [a0])) (.cons rfl (.cons rfl (.cons rfl (.cons rfl (.cons rfl (.cons rfl (.cons (dJ rfl (by unfold sL; rw [a0])) (.cons rfl (.cons (dJ rfl (by unfold sL; rw [a0])) (.cons rfl (.cons rfl (.cons (dJ rfl (by unfold sL; rw [a0])) (.cons rfl (.cons rfl (.cons rfl (.cons (dJ rfl (by unfold sL; rw [a0])) (.r rfl)))))))))))))))))) (.r rfl) (ae (aJ (aa (aI (aA rfl (aC bv rfl rfl (Tr.k rfl (ae (aD j6 (c0, (bG (o + 1))) ⟨H, l0⟩ (.r rfl) (.r rfl))))))))))
   ·refine bW (aB (aB (aR (aa (aW (aK ?_))))))
    obtain rfl := oI H
    exact Tr.out (m := []) [] bO (fun W hW => ⟨w, (), leB, rfl, d1, hW.pick (ks := [0]) (by decide) (aH rfl bn)⟩)
 ·refine aN (aa (az (ai (aA rfl (aA rfl (aC gH rfl rfl (aC dL rfl rfl (ae (aa (aP rfl H (fun H => ?_) (fun H => ?_)))))))))))
  ·refine ai (aA rfl (Tr.k rfl (ae (aa (ai (aA rfl (Tr.k rfl (ae (aa (az (Tr.block (df (σ := Int × Int) (fun m w s => bZ N p0 p2 m s.1 s.2 = some r) (fun s => [(0, sL d p0 f), (2, iv p2), (4, .func (.func 15) #[] #[pV iW]), (14, iv s.1), (15, iv s.2)]) (fun s => [(0, ow d f 45 aO p0)]) N (p1, p2) H (.r rfl) (.r rfl) (fun _ _ h => jQ (h)) ?_))))))))))))
   intro w f5 u1 s hs
   obtain ⟨E, g7⟩ := s
   have H := hs
   replace H : bZ N p0 p2 (u1 + 1) E g7 = some r := H
   replace hc0 := f5.ext.cells hb0 hc0
   replace hb0 := f5.r _ hb0
   replace leB := leB.trans f5
   rw [bZ.eq_2] at H
   dsimp only
   refine az (ai (aA rfl (aA rfl (aC bg rfl rfl (ae (aa (aP rfl H (fun H => ?_) (fun H => ?_))))))))
   ·refine aN (aa (Tr.block (ai (aA rfl (aA rfl (aC bv rfl rfl ?_))))))
    obtain ⟨v5, p8, H⟩ := bnd H
    refine aG rfl (fun _ _ a c => CY Ip yC (a.ev rfl) p8) (aC A7 rfl rfl ?_)
    obtain ⟨l1, p9, H⟩ := bnd H
    refine aG rfl (fun _ _ a c => CZ yC Ip (a.ev rfl) p9) (Tr.k rfl (ae (aa (az (jb (by kernel_rfl) (by kernel_rfl) (dD rfl (dD rfl (dD rfl ?_))))))))
    obtain ⟨a1, q0, H⟩ := bnd H
    obtain ⟨l2, l3, l4⟩ := aU q0
    refine bi rfl (fun _ _ a c => ak oU (a.ev rfl) v (a.ev rfl) l2 l3) (uG (U := (aO).Ad) (fun u => (aO).ok w.O w.W u a1) (fun u => (.agg #[sL u.1 a1.points u.2, iv a1.area])) (wn rfl) rfl (Fj (κ := 0) (t := aO) (V := fun u => (.agg #[sL u.1 a1.points u.2, iv a1.area])) rfl l4 (fun _ _ u a hc => aM (cs := [sL u.1 a1.points u.2, iv a1.area]) rE mH (a.ev rfl) (aF.take hc 2) rfl)) ?_)
    intro s9 i2
    obtain ⟨e5, e6⟩ := s9
    have c3 := i2
    replace c3 : Sl w.O w.W aX e5 e6 a1.points := c3
    dsimp only
    refine dD rfl (dD rfl ?_)
    obtain ⟨a2, q1, H⟩ := bnd H
    obtain ⟨l5, l6, l7⟩ := aU q1
    refine bi rfl (fun _ _ a c => ak oU (a.ev rfl) v (a.ev rfl) l5 l6) (uG (U := (aO).Ad) (fun u => (aO).ok w.O w.W u a2) (fun u => (.agg #[sL u.1 a2.points u.2, iv a2.area])) (wn rfl) rfl (Fj (κ := 0) (t := aO) (V := fun u => (.agg #[sL u.1 a2.points u.2, iv a2.area])) rfl l7 (fun _ _ u a hc => aM (cs := [sL u.1 a2.points u.2, iv a2.area]) rE mH (a.ev rfl) (aF.take hc 2) rfl)) ?_)
    intro t0 i3
    obtain ⟨e7, e8⟩ := t0
    have c4 := i3
    replace c4 : Sl w.O w.W aX e7 e8 a2.points := c4
    dsimp only
    obtain ⟨l8, q2, H⟩ := bnd H
    refine oo (r := (iv l8)) (wn rfl) rfl rfl Tryz.call15 (aj rfl (aj rfl aL)) (fun W hW => nJ a1 e5 e6 (c3.rl.ext hW.cB) a2 e7 e8 (c4.rl.ext hW.cB) iW (hW.cB.r _ hb0) (hW.cB.cells hb0 hc0) l8 q2 (HF.start _)) (fO bg rfl rfl (fQ jC rfl (iE (aa (aP rfl H (fun H => ?_) (fun H => ?_))))))
    ·exact aI (aA rfl (aC bv rfl rfl (Tr.k rfl (ae (aJ (aD f5 ((bG (l1 + 1)), g7) H (.r rfl) (.r rfl)))))))
    ·exact aI (aA rfl (Tr.k rfl (ae (aJ (aD f5 (E, l1) H (.r rfl) (.r rfl))))))
   ·refine bW (aB (aB (aR (aa (az (ai (aA rfl (Tr.k rfl (ae (aa (Tr.block (df (σ := (List dK) × Int) (fun m w s => bY E m s.1 s.2 = some r ∧ s.1.length = p0.length) (fun s => [(0, sL d s.1 f), (14, iv E), (17, iv s.2)]) (fun s => [(0, ow d f 45 aO s.1)]) N (p0, p2) ⟨H, rfl⟩ (.r rfl) (.r rfl) (fun _ _ h => jQ (h.1)) ?_))))))))))))
    intro w l9 u2 s hs
    obtain ⟨b3, q⟩ := s
    obtain ⟨H, d3⟩ := hs
    replace H : bY E (u2 + 1) b3 q = some r := H
    replace leB := leB.trans l9
    replace d3 : b3.length = p0.length := d3
    have d4 : dM d b3.length f := (by rw [d3]; exact v)
    rw [bY.eq_2] at H
    dsimp only
    refine az (ai (aA rfl (aA rfl (aC jq rfl rfl (ae (aa (aP rfl H (fun H => ?_) (fun H => ?_))))))))
    ·refine aN (aa (az (Tr.block (tZ 16 [(15, (ow d f 45 aO b3).S)] [] (by kernel_rfl) (by kernel_rfl) fun u6 t1 t7 => (dE 0 [(113, sL d b3 f)] (by kernel_rfl) rfl rfl (by kernel_rfl) ?_ rfl rfl ?_)))))
     ·exact dD rfl (Tq.fin (.r rfl))
     refine dE 1 [(114, iv q)] (by kernel_rfl) rfl rfl (by kernel_rfl) ?_ rfl rfl ?_
     ·exact dD rfl (Tq.fin (.r rfl))
     refine dI 2 (by kernel_rfl) rfl (wn rfl) rfl (by kernel_rfl) (fun _ _ a => run_move (a.ev rfl)) rfl (dI 3 (by kernel_rfl) rfl (wn rfl) rfl (by kernel_rfl) (fun _ _ a => run_move (a.ev rfl)) rfl (dI 4 (by kernel_rfl) rfl (wn rfl) rfl (by kernel_rfl) (fun _ _ a => gH (a.ev rfl) (a.ev rfl)) rfl (dE 5 [(118, sL d b3 f)] (by kernel_rfl) rfl rfl (by kernel_rfl) ?_ rfl rfl ?_)))
     ·exact dD rfl (Tq.fin (.r rfl))
     refine dE 6 [(119, iv q)] (by kernel_rfl) rfl rfl (by kernel_rfl) ?_ rfl rfl ?_
     ·exact dD rfl (Tq.fin (.r rfl))
     refine dE 7 [(120, iv (bG (q - 1)))] (by kernel_rfl) rfl rfl (by kernel_rfl) ?_ rfl rfl ?_
     ·exact fO gH rfl rfl (Tq.fin (.r rfl))
     obtain ⟨A, q3, H⟩ := bnd H
     obtain ⟨m0, m1, m2⟩ := aU q3
     refine dE 8 [(121, .pointer (some ⟨mV d, pW d + ((bG (q - 1))).toNat * 2, none⟩))] (by kernel_rfl) rfl rfl (by kernel_rfl) ?_ rfl rfl ?_
     ·exact bi rfl (fun _ _ a c => ak oU (a.ev rfl) d4 (a.ev rfl) m0 m1) (Tq.fin (.r rfl))
     refine rH 9 (U := (aO).Ad) (fun u => (aO).ok w.O w.W u A) (fun u => (.agg #[sL u.1 A.points u.2, iv A.area])) (by kernel_rfl) rfl (wn rfl) rfl (by kernel_rfl) (Fj (κ := 0) (t := aO) (V := fun u => (.agg #[sL u.1 A.points u.2, iv A.area])) rfl m2 (fun _ _ u a hc => aM (cs := [sL u.1 A.points u.2, iv A.area]) rE mH (a.ev rfl) (aF.take hc 2) rfl)) ?_
     intro t2 i4
     obtain ⟨L, M⟩ := t2
     have c5 := i4
     replace c5 : Sl w.O w.W aX L M A.points := c5
     dsimp only
     refine dI 10 (by kernel_rfl) rfl (wn rfl) rfl (by kernel_rfl) (fun _ _ a => run_move (a.ev rfl)) rfl (dI 11 (by kernel_rfl) rfl (wn rfl) rfl (by kernel_rfl) (fun _ _ a => run_move (a.ev rfl)) rfl ?_)
     obtain ⟨B, q4, H⟩ := bnd H
     obtain ⟨m3, m4, m5⟩ := aU q4
     refine dI 12 (by kernel_rfl) rfl (wn rfl) rfl (by kernel_rfl) (fun _ _ a => ak oU (a.ev rfl) d4 (a.ev rfl) m3 m4) rfl (rH 13 (U := (aO).Ad) (fun u => (aO).ok w.O w.W u B) (fun u => (.agg #[sL u.1 B.points u.2, iv B.area])) (by kernel_rfl) rfl (wn rfl) rfl (by kernel_rfl) (Fj (κ := 0) (t := aO) (V := fun u => (.agg #[sL u.1 B.points u.2, iv B.area])) rfl m5 (fun _ _ u a hc => aM (cs := [sL u.1 B.points u.2, iv B.area]) rE mH (a.ev rfl) (aF.take hc 2) rfl)) ?_)
     intro t3 i5
     obtain ⟨P, Q⟩ := t3
     have c6 := i5
     replace c6 : Sl w.O w.W aX P Q B.points := c6
     dsimp only
     obtain ⟨v6, q5, H⟩ := bnd H
     obtain ⟨m6, m7, m8⟩ := aU q5
     refine dE 14 [(127, .pointer (some ⟨mV d, pW d + (q).toNat * 2, none⟩))] (by kernel_rfl) rfl rfl (by kernel_rfl) ?_ rfl rfl ?_
     ·exact bi rfl (fun _ _ a c => ak oU (a.ev rfl) d4 (a.ev rfl) m6 m7) (Tq.fin (.r rfl))
     obtain ⟨c7, h6, H⟩ := bnd H
     refine Dr.one 15 (by kernel_rfl) ?_
     have a3 := nZ h6
     refine xP 15 0 (t' := aO) (ll := b3) (ix := q) (fo := 0) (cs := [sL L A.points M, iv A.area]) A (fun b hb => .inl ⟨_, List.mem_cons_self, rfl, hb⟩) rfl (wn rfl) rfl rfl rfl rfl rfl m8 mH rfl (fun u hu => ⟨(L, M), c5, rfl⟩) rfl h6 ?_
     have g1 : dM d c7.length f := by rw [a3]; exact d4
     have m9 := a3.trans d3
     refine Dr.use (lf := [(0, sL d c7 f), (14, iv E), (17, iv q), (108, iv q), (109, iv E), (110, bV (decide (E < q))), (113, sL d c7 f), (114, iv q), (115, sL d c7 f), (116, iv q), (117, iv (bG (q - 1))), (118, sL d c7 f), (119, iv q), (120, iv (bG (q - 1))), (122, .agg #[sL L A.points M, iv A.area]), (123, sL d c7 f), (124, iv q), (126, .agg #[sL P B.points Q, iv B.area])]) (le := [(0, ow d f 45 aO c7)]) ?_ rfl (.cons (dJ rfl (by unfold sL; rw [a3])) (.cons rfl (.cons rfl (.cons rfl (.cons rfl (.cons rfl (.cons (dJ rfl (by unfold sL; rw [a3])) (.cons rfl (.cons (dJ rfl (by unfold sL; rw [a3])) (.cons rfl (.cons rfl (.cons (dJ rfl (by unfold sL; rw [a3])) (.cons rfl (.cons rfl (.cons rfl (.cons (dJ rfl (by unfold sL; rw [a3])) (.r rfl))))))))))))))))) (.r rfl)
     refine wy (by kernel_rfl) ?_
     obtain ⟨v7, q6, H⟩ := bnd H
     obtain ⟨n0, n1, n2⟩ := aU q6
     refine aG rfl (fun _ _ a c => ak oU (a.ev rfl) g1 (a.ev rfl) n0 n1) ?_
     obtain ⟨c8, h7, H⟩ := bnd H
     have a4 := nZ h7
     refine oK 0 (t := aO) (l := c7) (i := (bG (q - 1))) (fo := 0) (cs := [sL P B.points Q, iv B.area]) B (wn rfl) rfl rfl rfl rfl rfl n2 mH rfl (fun u hu => ⟨(P, Q), c6, rfl⟩) rfl h7 ?_
     have u3 : dM d c8.length f := by rw [a4]; exact g1
     have n3 := a4.trans m9
     exact Tr.vJ (lf := [(0, sL d c8 f), (14, iv E), (17, iv q), (108, iv q), (109, iv E), (110, bV (decide (E < q))), (113, sL d c8 f), (114, iv q), (115, sL d c8 f), (116, iv q), (117, iv (bG (q - 1))), (118, sL d c8 f), (119, iv q), (120, iv (bG (q - 1))), (122, .agg #[sL L A.points M, iv A.area]), (123, sL d c8 f), (124, iv q), (126, .agg #[sL P B.points Q, iv B.area])]) (le := [(0, ow d f 45 aO c8)]) (.cons (dJ rfl (by unfold sL; rw [a4])) (.cons rfl (.cons rfl (.cons rfl (.cons rfl (.cons rfl (.cons (dJ rfl (by unfold sL; rw [a4])) (.cons rfl (.cons (dJ rfl (by unfold sL; rw [a4])) (.cons rfl (.cons rfl (.cons (dJ rfl (by unfold sL; rw [a4])) (.cons rfl (.cons rfl (.cons rfl (.cons (dJ rfl (by unfold sL; rw [a4])) (.r rfl))))))))))))))))) (.r rfl) (ae (aJ (aa (aI (aA rfl (aC gH rfl rfl (Tr.k rfl (ae (aD l9 (c8, (bG (q - 1))) ⟨H, n3⟩ (.r rfl) (.r rfl))))))))))
    ·refine bW (aB (aB (aR (aa (aW (aK ?_))))))
     obtain rfl := oI H
     exact Tr.out (m := []) [] bO (fun W hW => ⟨w, (), leB, rfl, d3, hW.pick (ks := [0]) (by decide) (aH rfl bn)⟩)
  ·refine aN (aa (ai (aA rfl (aA rfl (aC bv rfl rfl ?_)))))
   obtain ⟨v8, q7, H⟩ := bnd H
   refine aG rfl (fun _ _ a c => CY Ip yC (a.ev rfl) q7) (aC A7 rfl rfl ?_)
   obtain ⟨g, q8, H⟩ := bnd H
   refine aG rfl (fun _ _ a c => CZ yC Ip (a.ev rfl) q8) (Tr.k rfl (ae (aa (ai (aA rfl (aA rfl (aC bv rfl rfl (Tr.k rfl (ae (aa (ai (Tr.k rfl (Tr.k rfl (ae (aa ?_)))))))))))))))
   have g2 := Bs.Le.refl w
   refine kT (σ := Int × Int) (fun w s => dz N p0 p1 p2 p3 rec g s.1 s.2 = some r) (fun s => [(0, sL d p0 f), (1, iv p1), (2, iv p2), (3, iv p3), (4, .func (.func 15) #[] #[pV iW]), (18, iv g), (19, iv (bG (g + p2))), (20, iv s.1), (21, iv s.2)]) (fun s => [(0, ow d f 45 aO p0)]) ?_ ?_
   ·refine ai (aA rfl (aA rfl (aC jq rfl rfl (ae (aa (aP rfl H (fun H => ?_) (fun H => ?_)))))))
    ·exact ai (aA rfl (aA rfl (aC gH rfl rfl (Tr.k rfl (ae (aa (aI (aA rfl (Tr.k rfl (ae (aD g2 ((bG ((bG (g + p2)) - p3)), g) H (.r rfl) (.r rfl))))))))))))
    ·exact ai (aA rfl (Tr.k rfl (ae (aa (aI (aA rfl (Tr.k rfl (ae (aD g2 (p1, p2) H (.r rfl) (.r rfl))))))))))
   ·intro w s f6 hs
    obtain ⟨g8, g9⟩ := s
    have H := hs
    replace H : dz N p0 p1 p2 p3 rec g g8 g9 = some r := H
    replace hc0 := f6.ext.cells hb0 hc0
    replace hb0 := f6.r _ hb0
    replace leB := leB.trans f6
    unfold dz at H
    dsimp only
    refine ai (aA rfl (aC gH rfl rfl (Tr.k rfl (ae (aa (az (Tr.block (df (σ := Int × Int) (fun m w s => bC N p0 p1 p2 p3 rec g m s.1 s.2 = some r) (fun s => [(0, sL d p0 f), (1, iv p1), (2, iv p2), (3, iv p3), (4, .func (.func 15) #[] #[pV iW]), (18, iv g), (19, iv (bG (g + p2))), (20, iv s.1), (21, iv s.2), (22, iv (bG ((bG (g + p2)) - 1)))]) (fun s => [(0, ow d f 45 aO p0)]) N (g8, g9) H (.r rfl) (.r rfl) (fun _ _ h => jQ (h)) ?_))))))))
    intro w f7 u4 s hs
    obtain ⟨j, h0⟩ := s
    have H := hs
    replace H : bC N p0 p1 p2 p3 rec g (u4 + 1) j h0 = some r := H
    replace hc0 := f7.ext.cells hb0 hc0
    replace hb0 := f7.r _ hb0
    replace leB := leB.trans f7
    rw [bC.eq_2] at H
    dsimp only
    refine az (ai (aA rfl (aA rfl (aC bg rfl rfl (ae (aa (aP rfl H (fun H => ?_) (fun H => ?_))))))))
    ·refine aN (aa (Tr.block (ai (aA rfl (aA rfl (aC bv rfl rfl ?_))))))
     obtain ⟨v9, q9, H⟩ := bnd H
     refine aG rfl (fun _ _ a c => CY Ip yC (a.ev rfl) q9) (aC A7 rfl rfl ?_)
     obtain ⟨n4, r0, H⟩ := bnd H
     refine aG rfl (fun _ _ a c => CZ yC Ip (a.ev rfl) r0) (Tr.k rfl (ae (aa (az (jb (by kernel_rfl) (by kernel_rfl) (dD rfl (dD rfl (dD rfl (dD rfl (fO gH rfl rfl ?_))))))))))
     obtain ⟨a5, r1, H⟩ := bnd H
     obtain ⟨n5, n6, n7⟩ := aU r1
     refine bi rfl (fun _ _ a c => ak oU (a.ev rfl) v (a.ev rfl) n5 n6) (uG (U := (aO).Ad) (fun u => (aO).ok w.O w.W u a5) (fun u => (.agg #[sL u.1 a5.points u.2, iv a5.area])) (wn rfl) rfl (Fj (κ := 0) (t := aO) (V := fun u => (.agg #[sL u.1 a5.points u.2, iv a5.area])) rfl n7 (fun _ _ u a hc => aM (cs := [sL u.1 a5.points u.2, iv a5.area]) rE mH (a.ev rfl) (aF.take hc 2) rfl)) ?_)
     intro t4 i6
     obtain ⟨e9, f1⟩ := t4
     have c9 := i6
     replace c9 : Sl w.O w.W aX e9 f1 a5.points := c9
     dsimp only
     refine dD rfl (dD rfl ?_)
     obtain ⟨a6, r2, H⟩ := bnd H
     obtain ⟨n8, n9, o0⟩ := aU r2
     refine bi rfl (fun _ _ a c => ak oU (a.ev rfl) v (a.ev rfl) n8 n9) (uG (U := (aO).Ad) (fun u => (aO).ok w.O w.W u a6) (fun u => (.agg #[sL u.1 a6.points u.2, iv a6.area])) (wn rfl) rfl (Fj (κ := 0) (t := aO) (V := fun u => (.agg #[sL u.1 a6.points u.2, iv a6.area])) rfl o0 (fun _ _ u a hc => aM (cs := [sL u.1 a6.points u.2, iv a6.area]) rE mH (a.ev rfl) (aF.take hc 2) rfl)) ?_)
     intro t5 i7
     obtain ⟨f2, f3⟩ := t5
     have d0 := i7
     replace d0 : Sl w.O w.W aX f2 f3 a6.points := d0
     dsimp only
     obtain ⟨o2, r3, H⟩ := bnd H
     refine oo (r := (iv o2)) (wn rfl) rfl rfl Tryz.call15 (aj rfl (aj rfl aL)) (fun W hW => nJ a5 e9 f1 (c9.rl.ext hW.cB) a6 f2 f3 (d0.rl.ext hW.cB) iW (hW.cB.r _ hb0) (hW.cB.cells hb0 hc0) o2 r3 (HF.start _)) (fO bg rfl rfl (fQ jC rfl (iE (aa (aP rfl H (fun H => ?_) (fun H => ?_))))))
     ·exact aI (aA rfl (aC bv rfl rfl (Tr.k rfl (ae (aJ (aD f7 ((bG (n4 + 1)), h0) H (.r rfl) (.r rfl)))))))
     ·exact aI (aA rfl (Tr.k rfl (ae (aJ (aD f7 (j, n4) H (.r rfl) (.r rfl))))))
    ·refine bW (aB (aB (aR (aa (ai (aA rfl (aA rfl (aC gH rfl rfl (Tr.k rfl (ae (aa ?_)))))))))))
     have d5 := Bs.Le.refl w
     refine kT (σ := (List dK)) (fun w s => dA p1 p2 p3 rec g j s = some r ∧ s.length = p0.length) (fun s => [(0, sL d s f), (1, iv p1), (3, iv p3), (4, .func (.func 15) #[] #[pV iW]), (18, iv g), (20, iv j), (24, iv (bG ((bG (g + p2)) - j)))]) (fun s => [(0, ow d f 45 aO s)]) ?_ ?_
     ·refine ai (aA rfl (aA rfl (aC bg rfl rfl (aA rfl (dX 4 [(0, sL d p0 f), (1, iv p1), (2, iv p2), (3, iv p3), (4, .func (.func 15) #[] #[pV iW]), (18, iv g), (20, iv j), (24, iv (bG ((bG (g + p2)) - j))), (185, bV ((decide (j < p2)) && (decide (p2 < (bG ((bG (g + p2)) - j))))))] [(0, ow d f 45 aO p0)] ?_ ?_)))))
      ·cases u7 : (decide (j < p2))
       ·exact bf rfl (bf rfl (bf rfl (aC bE rfl rfl (ae (bu (.r rfl) (.r rfl))))))
       ·exact dU run_move rfl (dU run_move rfl (kF bg rfl rfl (aC bD rfl rfl (ae (bu (.r rfl) (.r rfl))))))
      ·show Tr _ _ (LF [(0, sL d p0 f), (1, iv p1), (2, iv p2), (3, iv p3), (4, .func (.func 15) #[] #[pV iW]), (18, iv g), (20, iv j), (24, iv (bG ((bG (g + p2)) - j))), (185, bV ((decide (j < p2)) && (decide (p2 < (bG ((bG (g + p2)) - j))))))]) (LE [(0, ow d f 45 aO p0)]) _
       refine ae (aa (aP rfl H (fun H => ?_) (fun H => ?_)))
       ·refine aI (aA rfl (aA rfl (aA rfl (aA rfl (aA rfl ?_)))))
        obtain ⟨b0, r4, H⟩ := bnd H
        refine fq [0] [ow d f 45 aO p0] (U := Unit) (fun u => (.tuple #[])) (fun O W u => b0.length = p0.length) (fun u => [ow d f 45 aO b0]) rfl (aH rfl bn) (fun _ => rfl) (wn rfl) rfl Tryz.call119 (aj rfl (aj rfl (aj rfl (aj rfl (aj rfl aL))))) (fun W hW hp hE => oW N p0 d f j p2 (bG ((bG (g + p2)) - j)) iW ((hW.gM hp).r _ hb0) ((hW.gM hp).cells hb0 hc0) b0 r4 hE) ?_
        intro w u r5 hu
        have h1 := hu
        replace d5 := d5.trans r5
        have a7 : b0.length = p0.length := h1 --@phi
        have s1 : dM d b0.length f := by rw [a7]; exact v
        have g3 := a7.trans rfl
        show Tr _ _ (uf _ 191 (.tuple #[])) (up _ 0 (ow d f 45 aO b0)) _
        exact Tr.vJ (lf := [(0, sL d b0 f), (1, iv p1), (2, iv p2), (3, iv p3), (4, .func (.func 15) #[] #[pV iW]), (18, iv g), (20, iv j), (24, iv (bG ((bG (g + p2)) - j))), (185, bV ((decide (j < p2)) && (decide (p2 < (bG ((bG (g + p2)) - j)))))), (186, sL d b0 f), (187, iv j), (188, iv p2), (189, iv (bG ((bG (g + p2)) - j))), (190, .func (.func 15) #[] #[pV iW]), (191, (.tuple #[]))]) (le := [(0, ow d f 45 aO b0)]) (.cons (dJ rfl (by unfold sL; rw [a7])) (.cons rfl (.cons rfl (.cons rfl (.cons rfl (.cons rfl (.cons rfl (.cons rfl (.cons rfl (.cons (dJ rfl (by unfold sL; rw [a7])) (.r rfl))))))))))) (.r rfl) (ae (aD d5 b0 ⟨H, g3⟩ (.r rfl) (.r rfl)))
       ·exact aN (aD d5 p0 ⟨H, rfl⟩ (.r rfl) (.r rfl))
     ·intro w D f8 hs
      obtain ⟨H, d6⟩ := hs
      replace H : dA p1 p2 p3 rec g j D = some r := H
      replace hc0 := f8.ext.cells hb0 hc0
      replace hb0 := f8.r _ hb0
      replace leB := leB.trans f8
      replace d6 : D.length = p0.length := d6
      have o3 : dM d D.length f := (by rw [d6]; exact v)
      unfold dA at H
      show Tr _ _ (LF [(0, sL d D f), (1, iv p1), (3, iv p3), (4, .func (.func 15) #[] #[pV iW]), (18, iv g), (20, iv j), (24, iv (bG ((bG (g + p2)) - j)))]) (LE [(0, ow d f 45 aO D)]) _
      have d7 := Bs.Le.refl w
      refine kT (σ := (List dK)) (fun w s => dB p2 p3 rec g j s = some r ∧ s.length = p0.length) (fun s => [(0, sL d s f), (3, iv p3), (4, .func (.func 15) #[] #[pV iW]), (18, iv g), (24, iv (bG ((bG (g + p2)) - j)))]) (fun s => [(0, ow d f 45 aO s)]) ?_ ?_
      ·refine ai (aA rfl (aA rfl (aC bg rfl rfl (aA rfl (dX 4 [(0, sL d D f), (1, iv p1), (3, iv p3), (4, .func (.func 15) #[] #[pV iW]), (18, iv g), (20, iv j), (24, iv (bG ((bG (g + p2)) - j))), (199, bV ((decide (p1 < j)) && (decide (j < g))))] [(0, ow d f 45 aO D)] ?_ ?_)))))
       ·cases u8 : (decide (p1 < j))
        ·exact bf rfl (bf rfl (bf rfl (aC bE rfl rfl (ae (bu (.r rfl) (.r rfl))))))
        ·exact dU run_move rfl (dU run_move rfl (kF bg rfl rfl (aC bD rfl rfl (ae (bu (.r rfl) (.r rfl))))))
       ·show Tr _ _ (LF [(0, sL d D f), (1, iv p1), (3, iv p3), (4, .func (.func 15) #[] #[pV iW]), (18, iv g), (20, iv j), (24, iv (bG ((bG (g + p2)) - j))), (199, bV ((decide (p1 < j)) && (decide (j < g))))]) (LE [(0, ow d f 45 aO D)]) _
        refine ae (aa (aP rfl H (fun H => ?_) (fun H => ?_)))
        ·refine aI (aA rfl (aA rfl (aA rfl (aA rfl (aA rfl ?_)))))
         obtain ⟨b1, r6, H⟩ := bnd H
         refine fq [0] [ow d f 45 aO D] (U := Unit) (fun u => (.tuple #[])) (fun O W u => b1.length = D.length) (fun u => [ow d f 45 aO b1]) rfl (aH rfl bn) (fun _ => rfl) (wn rfl) rfl Tryz.call78 (aj rfl (aj rfl (aj rfl (aj rfl (aj rfl aL))))) (fun W hW hp hE => hrec D d f p1 j g iW ((hW.gM hp).r _ hb0) ((hW.gM hp).cells hb0 hc0) b1 r6 hE) ?_
         intro w u r7 hu
         have h2 := hu
         replace d7 := d7.trans r7
         have a8 : b1.length = D.length := h2 --@phi
         have s2 : dM d b1.length f := by rw [a8]; exact o3
         have g4 := a8.trans d6
         show Tr _ _ (uf _ 205 (.tuple #[])) (up _ 0 (ow d f 45 aO b1)) _
         exact Tr.vJ (lf := [(0, sL d b1 f), (1, iv p1), (3, iv p3), (4, .func (.func 15) #[] #[pV iW]), (18, iv g), (20, iv j), (24, iv (bG ((bG (g + p2)) - j))), (199, bV ((decide (p1 < j)) && (decide (j < g)))), (200, sL d b1 f), (201, iv p1), (202, iv j), (203, iv g), (204, .func (.func 15) #[] #[pV iW]), (205, (.tuple #[]))]) (le := [(0, ow d f 45 aO b1)]) (.cons (dJ rfl (by unfold sL; rw [a8])) (.cons rfl (.cons rfl (.cons rfl (.cons rfl (.cons rfl (.cons rfl (.cons rfl (.cons (dJ rfl (by unfold sL; rw [a8])) (.r rfl)))))))))) (.r rfl) (ae (aD d7 b1 ⟨H, g4⟩ (.r rfl) (.r rfl)))
        ·exact aN (aD d7 D ⟨H, d6⟩ (.r rfl) (.r rfl))
      ·intro w F f9 hs
       obtain ⟨H, d8⟩ := hs
       replace H : dB p2 p3 rec g j F = some r := H
       replace hc0 := f9.ext.cells hb0 hc0
       replace hb0 := f9.r _ hb0
       replace leB := leB.trans f9
       replace d8 : F.length = p0.length := d8
       have o4 : dM d F.length f := (by rw [d8]; exact v)
       unfold dB at H
       show Tr _ _ (LF [(0, sL d F f), (3, iv p3), (4, .func (.func 15) #[] #[pV iW]), (18, iv g), (24, iv (bG ((bG (g + p2)) - j)))]) (LE [(0, ow d f 45 aO F)]) _
       refine ai (aA rfl (aA rfl (aC bg rfl rfl (aA rfl (dX 4 [(0, sL d F f), (3, iv p3), (4, .func (.func 15) #[] #[pV iW]), (18, iv g), (24, iv (bG ((bG (g + p2)) - j))), (213, bV ((decide (g < (bG ((bG (g + p2)) - j)))) && (decide ((bG ((bG (g + p2)) - j)) < p3))))] [(0, ow d f 45 aO F)] ?_ ?_)))))
       ·cases u9 : (decide (g < (bG ((bG (g + p2)) - j))))
        ·exact bf rfl (bf rfl (bf rfl (aC bE rfl rfl (ae (bu (.r rfl) (.r rfl))))))
        ·exact dU run_move rfl (dU run_move rfl (kF bg rfl rfl (aC bD rfl rfl (ae (bu (.r rfl) (.r rfl))))))
       ·show Tr _ _ (LF [(0, sL d F f), (3, iv p3), (4, .func (.func 15) #[] #[pV iW]), (18, iv g), (24, iv (bG ((bG (g + p2)) - j))), (213, bV ((decide (g < (bG ((bG (g + p2)) - j)))) && (decide ((bG ((bG (g + p2)) - j)) < p3))))]) (LE [(0, ow d f 45 aO F)]) _
        refine ae (aa (aP rfl H (fun H => ?_) (fun H => ?_)))
        ·refine aI (aA rfl (aA rfl (aA rfl (aA rfl (aA rfl ?_)))))
         obtain ⟨b4, r8, H⟩ := bnd H
         refine fq [0] [ow d f 45 aO F] (U := Unit) (fun u => (.tuple #[])) (fun O W u => b4.length = F.length) (fun u => [ow d f 45 aO b4]) rfl (aH rfl bn) (fun _ => rfl) (wn rfl) rfl Tryz.call78 (aj rfl (aj rfl (aj rfl (aj rfl (aj rfl aL))))) (fun W hW hp hE => hrec F d f g (bG ((bG (g + p2)) - j)) p3 iW ((hW.gM hp).r _ hb0) ((hW.gM hp).cells hb0 hc0) b4 r8 hE) ?_
         intro w u s0 hu
         have h3 := hu
         replace leB := leB.trans s0
         have a9 : b4.length = F.length := h3 --@phi
         have s3 : dM d b4.length f := by rw [a9]; exact o4
         have g5 := a9.trans d8
         show Tr _ _ (uf _ 219 (.tuple #[])) (up _ 0 (ow d f 45 aO b4)) _
         refine Tr.vJ (lf := [(0, sL d b4 f), (3, iv p3), (4, .func (.func 15) #[] #[pV iW]), (18, iv g), (24, iv (bG ((bG (g + p2)) - j))), (213, bV ((decide (g < (bG ((bG (g + p2)) - j)))) && (decide ((bG ((bG (g + p2)) - j)) < p3)))), (214, sL d b4 f), (215, iv g), (216, iv (bG ((bG (g + p2)) - j))), (217, iv p3), (218, .func (.func 15) #[] #[pV iW]), (219, (.tuple #[]))]) (le := [(0, ow d f 45 aO b4)]) (.cons (dJ rfl (by unfold sL; rw [a9])) (.cons rfl (.cons rfl (.cons rfl (.cons rfl (.cons rfl (.cons (dJ rfl (by unfold sL; rw [a9])) (.r rfl)))))))) (.r rfl) (ae (om ?_))
         obtain rfl := oI H
         exact Tr.out (m := []) [] bO (fun W hW => ⟨w, (), leB, rfl, g5, hW.pick (ks := [0]) (by decide) (aH rfl bn)⟩)
        ·refine aN (om ?_)
         obtain rfl := oI H
         exact Tr.out (m := []) [] bO (fun W hW => ⟨w, (), leB, rfl, d8, hW.pick (ks := [0]) (by decide) (aH rfl bn)⟩)
theorem iR : ∀ (N : Nat) {w : Bs} (p0 : (List dK)) (a : Option Addr) (b : Nat) (p1 : Int) (p2 : Int) (p3 : Int) (iW : Nat) (hb0 : w.R iW) (hc0 : aF w.W iW 0 [.func (.func 13) #[] #[]]) (r : (List dK)) (H : bI N p0 p1 p2 p3 = some r) (hE : HF w w.W (iF [ow a b 45 aO p0])), Calls Tryz.prog 78 [sL a p0 b, iv p1, iv p2, iv p3, .func (.func 15) #[] #[pV iW]].toArray w.W fun e W' => ∃ (w' : Bs) (u : Unit), w.Le w' ∧ e = .returned (.tuple #[]) ∧ (r.length = p0.length) ∧ HF w' W' (iF [ow a b 45 aO r])
 | 0 => by intros; rename_i H _; cases H
 | N + 1 => nU N (bI N) (iR N)

theorem oV (N : Nat) {w : Bs} (p0 : (List dK)) (a : Option Addr) (b : Nat) (p1 : Int) (iW : Nat) (hb0 : w.R iW) (hc0 : aF w.W iW 0 [.func (.func 13) #[] #[]]) (r : (List dK)) (H : ik N p0 p1 = some r) (hE : HF w w.W (iF [ow a b 45 aO p0])) : Calls Tryz.prog 34 [sL a p0 b, iv p1, .func (.func 15) #[] #[pV iW]].toArray w.W fun e W' => ∃ (w' : Bs) (u : Unit), w.Le w' ∧ e = .returned (.tuple #[]) ∧ (r.length = p0.length) ∧ HF w' W' (iF [ow a b 45 aO r]) := by
 unfold ik at H
 have D := (hE.sl (k := 0) rfl).form
 have leB := Bs.Le.refl w
 refine aZ (n := 63) Tryz.func34 rfl rfl rfl hE (ai (Tr.k rfl (ae (aa (ai (aA rfl (Tr.k rfl (Tr.k rfl (ae (aa (az (Tr.block (df (σ := (List dK) × Int × Int) (fun m w s => dG N p1 m s.1 s.2.1 s.2.2 = some r ∧ s.1.length = p0.length) (fun s => [(0, sL a s.1 b), (1, iv p1), (2, .func (.func 15) #[] #[pV iW]), (6, iv 20), (7, iv s.2.1), (8, iv s.2.2)]) (fun s => [(0, ow a b 45 aO s.1)]) N (p0, 0, 20) ⟨H, rfl⟩ (.r rfl) (.r rfl) (fun _ _ h => jQ (h.1)) ?_)))))))))))))
 intro w J b8 s hs
 obtain ⟨g, B, i⟩ := s
 obtain ⟨H, F⟩ := hs
 replace H : dG N p1 (b8 + 1) g B i = some r := H
 replace hc0 := J.ext.cells hb0 hc0
 replace hb0 := J.r _ hb0
 replace leB := leB.trans J
 replace F : g.length = p0.length := F
 have S : dM a g.length b := (by rw [F]; exact D)
 rw [dG.eq_2] at H
 dsimp only
 refine az (ai (aA rfl (aA rfl (aC oH rfl rfl (ae (aa (aP rfl H (fun H => ?_) (fun H => ?_))))))))
 ·refine aN (aa (Tr.block (ai (aA rfl (aA rfl (aA rfl (aA rfl ?_)))))))
  obtain ⟨v, a7, H⟩ := bnd H
  refine fq [0] [ow a b 45 aO g] (U := Unit) (fun u => (.tuple #[])) (fun O W u => v.length = g.length) (fun u => [ow a b 45 aO v]) rfl (aH rfl bn) (fun _ => rfl) (wn rfl) rfl Tryz.call77 (aj rfl (aj rfl (aj rfl (aj rfl aL)))) (fun W hW hp hE => jM N g a b B i iW ((hW.gM hp).r _ hb0) ((hW.gM hp).cells hb0 hc0) v a7 hE) ?_
  intro w u a8 hu
  have a2 := hu
  replace J := J.trans a8
  have l : v.length = g.length := a2 --@phi
  have b4 : dM a v.length b := by rw [l]; exact S
  have T := l.trans F
  show Tr _ _ (uf _ 18 (.tuple #[])) (up _ 0 (ow a b 45 aO v)) _
  exact Tr.vJ (lf := [(0, sL a v b), (1, iv p1), (2, .func (.func 15) #[] #[pV iW]), (6, iv 20), (7, iv B), (8, iv i), (11, iv i), (12, iv p1), (13, bV (decide (i ≤ p1))), (14, sL a v b), (15, iv B), (16, iv i), (17, .func (.func 15) #[] #[pV iW]), (18, (.tuple #[]))]) (le := [(0, ow a b 45 aO v)]) (.cons (dJ rfl (by unfold sL; rw [l])) (.cons rfl (.cons rfl (.cons rfl (.cons rfl (.cons rfl (.cons rfl (.cons rfl (.cons rfl (.cons (dJ rfl (by unfold sL; rw [l])) (.r rfl))))))))))) (.r rfl) (ae (aa (ai (aA rfl (Tr.k rfl (ae (aa (aI (aA rfl (aA rfl (aC bv rfl rfl (Tr.k rfl (ae (aJ (aD J (v, i, (bG (i + 20))) ⟨H, T⟩ (.r rfl) (.r rfl))))))))))))))))
 ·refine bW (aB (aB (aR (aa (ai (aA rfl (aA rfl (aA rfl (aA rfl ?_)))))))))
  obtain ⟨y, a9, H⟩ := bnd H
  refine fq [0] [ow a b 45 aO g] (U := Unit) (fun u => (.tuple #[])) (fun O W u => y.length = g.length) (fun u => [ow a b 45 aO y]) rfl (aH rfl bn) (fun _ => rfl) (wn rfl) rfl Tryz.call77 (aj rfl (aj rfl (aj rfl (aj rfl aL)))) (fun W hW hp hE => jM N g a b B p1 iW ((hW.gM hp).r _ hb0) ((hW.gM hp).cells hb0 hc0) y a9 hE) ?_
  intro w u Q hu
  have a3 := hu
  replace hc0 := Q.ext.cells hb0 hc0
  replace hb0 := Q.r _ hb0
  replace leB := leB.trans Q
  have o : y.length = g.length := a3 --@phi
  have b5 : dM a y.length b := by rw [o]; exact S
  have V := o.trans F
  show Tr _ _ (uf _ 27 (.tuple #[])) (up _ 0 (ow a b 45 aO y)) _
  refine Tr.vJ (lf := [(0, sL a y b), (1, iv p1), (2, .func (.func 15) #[] #[pV iW]), (6, iv 20), (7, iv B), (8, iv i), (11, iv i), (12, iv p1), (13, bV (decide (i ≤ p1))), (23, sL a y b), (24, iv B), (25, iv p1), (26, .func (.func 15) #[] #[pV iW]), (27, (.tuple #[]))]) (le := [(0, ow a b 45 aO y)]) (.cons (dJ rfl (by unfold sL; rw [o])) (.cons rfl (.cons rfl (.cons rfl (.cons rfl (.cons rfl (.cons rfl (.cons rfl (.cons rfl (.cons (dJ rfl (by unfold sL; rw [o])) (.r rfl))))))))))) (.r rfl) (ae (aa (Tr.block (df (σ := (List dK) × Int) (fun m w s => bA N p1 m s.1 s.2 = some r ∧ s.1.length = p0.length) (fun s => [(0, sL a s.1 b), (1, iv p1), (2, .func (.func 15) #[] #[pV iW]), (6, iv s.2)]) (fun s => [(0, ow a b 45 aO s.1)]) N (y, 20) ⟨H, V⟩ (.r rfl) (.r rfl) (fun _ _ h => jQ (h.1)) ?_))))
  intro w C X s hs
  obtain ⟨K, c⟩ := s
  obtain ⟨H, G⟩ := hs
  replace H : bA N p1 (X + 1) K c = some r := H
  replace hc0 := C.ext.cells hb0 hc0
  replace hb0 := C.r _ hb0
  replace leB := leB.trans C
  replace G : K.length = p0.length := G
  have b9 : dM a K.length b := (by rw [G]; exact D)
  rw [bA.eq_2] at H
  dsimp only
  refine az (ai (aA rfl (aA rfl (aC bg rfl rfl (ae (aa (aP rfl H (fun H => ?_) (fun H => ?_))))))))
  ·refine aN (aa (Tr.block (ai (aA rfl (aC xy rfl rfl (Tr.k rfl (Tr.k rfl (ae (aa (az (Tr.block (df (σ := (List dK) × Int × Int) (fun m w s => dF N p1 c (bA N p1 X) m s.1 s.2.1 s.2.2 = some r ∧ s.1.length = p0.length) (fun s => [(0, sL a s.1 b), (1, iv p1), (2, .func (.func 15) #[] #[pV iW]), (6, iv c), (7, iv s.2.1), (8, iv s.2.2)]) (fun s => [(0, ow a b 45 aO s.1)]) N (K, 0, (bG (2 * c))) ⟨H, G⟩ (.r rfl) (.r rfl) (fun _ _ h => jQ (h.1)) ?_))))))))))))
   intro w L c0 s hs
   obtain ⟨f, d, j⟩ := s
   obtain ⟨H, E⟩ := hs
   replace H : dF N p1 c (bA N p1 X) (c0 + 1) f d j = some r := H
   replace hc0 := L.ext.cells hb0 hc0
   replace hb0 := L.r _ hb0
   replace C := C.trans L
   replace E : f.length = p0.length := E
   have Z : dM a f.length b := (by rw [E]; exact D)
   rw [dF.eq_2] at H
   dsimp only
   refine az (ai (aA rfl (aA rfl (aC oH rfl rfl (ae (aa (aP rfl H (fun H => ?_) (fun H => ?_))))))))
   ·refine aN (aa (Tr.block (ai (aA rfl (aA rfl (aA rfl (aA rfl (aC bv rfl rfl (aA rfl (aA rfl ?_))))))))))
    obtain ⟨z, b0, H⟩ := bnd H
    refine fq [0] [ow a b 45 aO f] (U := Unit) (fun u => (.tuple #[])) (fun O W u => z.length = f.length) (fun u => [ow a b 45 aO z]) rfl (aH rfl bn) (fun _ => rfl) (wn rfl) rfl Tryz.call78 (aj rfl (aj rfl (aj rfl (aj rfl (aj rfl aL))))) (fun W hW hp hE => iR N f a b d (bG (d + c)) j iW ((hW.gM hp).r _ hb0) ((hW.gM hp).cells hb0 hc0) z b0 hE) ?_
    intro w u b1 hu
    have a4 := hu
    replace L := L.trans b1
    have q : z.length = f.length := a4 --@phi
    have b6 : dM a z.length b := by rw [q]; exact Z
    have a0 := q.trans E
    show Tr _ _ (uf _ 43 (.tuple #[])) (up _ 0 (ow a b 45 aO z)) _
    exact Tr.vJ (lf := [(0, sL a z b), (1, iv p1), (2, .func (.func 15) #[] #[pV iW]), (6, iv c), (7, iv d), (8, iv j), (33, iv j), (34, iv p1), (35, bV (decide (j ≤ p1))), (36, sL a z b), (37, iv d), (38, iv d), (39, iv c), (40, iv (bG (d + c))), (41, iv j), (42, .func (.func 15) #[] #[pV iW]), (43, (.tuple #[]))]) (le := [(0, ow a b 45 aO z)]) (.cons (dJ rfl (by unfold sL; rw [q])) (.cons rfl (.cons rfl (.cons rfl (.cons rfl (.cons rfl (.cons rfl (.cons rfl (.cons rfl (.cons (dJ rfl (by unfold sL; rw [q])) (.r rfl))))))))))) (.r rfl) (ae (aa (ai (aA rfl (Tr.k rfl (ae (aa (aI (aA rfl (aA rfl (aC xy rfl rfl (aC bv rfl rfl (Tr.k rfl (ae (aJ (aD L (z, j, (bG (j + (bG (2 * c))))) ⟨H, a0⟩ (.r rfl) (.r rfl)))))))))))))))))
   ·refine bW (aB (aB (aR (aa ?_))))
    have I := Bs.Le.refl w
    refine kT (σ := (List dK)) (fun w s => dH c (bA N p1 X) s = some r ∧ s.length = p0.length) (fun s => [(0, sL a s b), (1, iv p1), (2, .func (.func 15) #[] #[pV iW]), (6, iv c)]) (fun s => [(0, ow a b 45 aO s)]) ?_ ?_
    ·refine ai (aA rfl (aA rfl (aC bv rfl rfl (Tr.k rfl (ae (aa (ai (aA rfl (aA rfl (aC bg rfl rfl (ae (aa (aP rfl H (fun H => ?_) (fun H => ?_))))))))))))))
     ·refine aI (aA rfl (aA rfl (aA rfl (aA rfl (aA rfl ?_)))))
      obtain ⟨A, b2, H⟩ := bnd H
      refine fq [0] [ow a b 45 aO f] (U := Unit) (fun u => (.tuple #[])) (fun O W u => A.length = f.length) (fun u => [ow a b 45 aO A]) rfl (aH rfl bn) (fun _ => rfl) (wn rfl) rfl Tryz.call78 (aj rfl (aj rfl (aj rfl (aj rfl (aj rfl aL))))) (fun W hW hp hE => iR N f a b d (bG (d + c)) p1 iW ((hW.gM hp).r _ hb0) ((hW.gM hp).cells hb0 hc0) A b2 hE) ?_
      intro w u b3 hu
      have a5 := hu
      replace I := I.trans b3
      have t : A.length = f.length := a5 --@phi
      have b7 : dM a A.length b := by rw [t]; exact Z
      have a1 := t.trans E
      show Tr _ _ (uf _ 60 (.tuple #[])) (up _ 0 (ow a b 45 aO A)) _
      exact Tr.vJ (lf := [(0, sL a A b), (1, iv p1), (2, .func (.func 15) #[] #[pV iW]), (6, iv c), (7, iv d), (8, iv j), (9, iv (bG (d + c))), (33, iv j), (34, iv p1), (35, bV (decide (j ≤ p1))), (49, iv d), (50, iv c), (51, iv (bG (d + c))), (52, iv (bG (d + c))), (53, iv p1), (54, bV (decide ((bG (d + c)) < p1))), (55, sL a A b), (56, iv d), (57, iv (bG (d + c))), (58, iv p1), (59, .func (.func 15) #[] #[pV iW]), (60, (.tuple #[]))]) (le := [(0, ow a b 45 aO A)]) (.cons (dJ rfl (by unfold sL; rw [t])) (.cons rfl (.cons rfl (.cons rfl (.cons rfl (.cons rfl (.cons rfl (.cons rfl (.cons rfl (.cons rfl (.cons rfl (.cons rfl (.cons rfl (.cons rfl (.cons rfl (.cons rfl (.cons (dJ rfl (by unfold sL; rw [t])) (.r rfl)))))))))))))))))) (.r rfl) (ae (aD I A ⟨H, a1⟩ (.r rfl) (.r rfl)))
     ·exact aN (aD I f ⟨H, E⟩ (.r rfl) (.r rfl))
    ·intro w M a6 hs
     obtain ⟨H, P⟩ := hs
     replace H : dH c (bA N p1 X) M = some r := H
     replace C := C.trans a6
     replace P : M.length = p0.length := P
     have c3 : dM a M.length b := (by rw [P]; exact D)
     unfold dH at H
     show Tr _ _ (LF [(0, sL a M b), (1, iv p1), (2, .func (.func 15) #[] #[pV iW]), (6, iv c)]) (LE [(0, ow a b 45 aO M)]) _
     exact aI (aA rfl (aC xy rfl rfl (Tr.k rfl (ae (aJ (aD C (M, (bG (c * 2))) ⟨H, P⟩ (.r rfl) (.r rfl)))))))
  ·refine bW (aB (aB (aR (om ?_))))
   obtain rfl := oI H
   exact Tr.out (m := []) [] bO (fun W hW => ⟨w, (), leB, rfl, G, hW.pick (ks := [0]) (by decide) (aH rfl bn)⟩)

theorem oM (N : Nat) {w : Bs} (p0 : (List dK)) (a : Option Addr) (b : Nat) (iW : Nat) (hb0 : w.R iW) (hc0 : aF w.W iW 0 [.func (.func 13) #[] #[]]) (r : (List dK)) (H : eY N p0 = some r) (hE : HF w w.W (iF [ow a b 45 aO p0])) : Calls Tryz.prog 14 [sL a p0 b, .func (.func 15) #[] #[pV iW]].toArray w.W fun e W' => ∃ (w' : Bs) (u : Unit), w.Le w' ∧ e = .returned (.tuple #[]) ∧ (r.length = p0.length) ∧ HF w' W' (iF [ow a b 45 aO r]) := by
 unfold eY at H
 have h := (hE.sl (k := 0) rfl).form
 have leB := Bs.Le.refl w
 refine aZ (n := 9) Tryz.func14 rfl rfl rfl hE (aI (aA rfl (aA rfl (aT (bz NM) rfl (aA rfl ?_)))))
 obtain ⟨d, i, H⟩ := bnd H
 refine fq [0] [ow a b 45 aO p0] (U := Unit) (fun u => (.tuple #[])) (fun O W u => d.length = p0.length) (fun u => [ow a b 45 aO d]) rfl (aH rfl bn) (fun _ => rfl) (wn rfl) rfl Tryz.call34 (aj rfl (aj rfl (aj rfl aL))) (fun W hW hp hE => oV N p0 a b (p0.length : Int) iW ((hW.gM hp).r _ hb0) ((hW.gM hp).cells hb0 hc0) d i hE) ?_
 intro w u j hu
 have g := hu
 replace leB := leB.trans j
 have c : d.length = p0.length := g --@phi
 have l : dM a d.length b := by rw [c]; exact h
 have f := c.trans rfl
 show Tr _ _ (uf _ 8 (.tuple #[])) (up _ 0 (ow a b 45 aO d)) _
 refine Tr.vJ (lf := [(0, sL a d b), (1, .func (.func 15) #[] #[pV iW]), (4, sL a d b), (5, sL a d b), (6, iv (p0.length : Int)), (7, .func (.func 15) #[] #[pV iW]), (8, (.tuple #[]))]) (le := [(0, ow a b 45 aO d)]) (.cons (dJ rfl (by unfold sL; rw [c])) (.cons rfl (.cons (dJ rfl (by unfold sL; rw [c])) (.cons (dJ rfl (by unfold sL; rw [c])) (.r rfl))))) (.r rfl) (ae (om ?_))
 obtain rfl := oI H
 exact Tr.out (m := []) [] bO (fun W hW => ⟨w, (), leB, rfl, f, hW.pick (ks := [0]) (by decide) (aH rfl bn)⟩)

end Go.Proofs.YtcjeebkoafonpaaGreatDoor
