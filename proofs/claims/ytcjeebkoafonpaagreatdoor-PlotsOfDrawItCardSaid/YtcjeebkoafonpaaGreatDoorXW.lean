/- The walks: each function computes its plain function. -/
import Derived.Test.YtcjeebkoafonpaaGreatDoorXWd
namespace Go.Proofs.YtcjeebkoafonpaaGreatDoor
open Go.RowKit
set_option maxRecDepth 100000
set_option maxHeartbeats 1000000
theorem uq (N : Nat) {w : Bs} (p0 : (List au)) (b : Option Addr) (d : Nat) (f : Sl w.R w.W aX b d p0) (p1 : (List au)) (g : Option Addr) (i : Nat) (j : Sl w.R w.W aX g i p1) (r : Bool) (H : jA N p0 p1 = some r) (hE : HF w w.W E0) : Calls Tryz.prog 39 [sL b p0 d, sL g p1 i].toArray w.W fun e W' => e = .returned (bV r) ∧ HF w W' E0 := by
 unfold jA at H
 have leB := Bs.Le.refl w
 refine aZ (n := 26) Tryz.func39 rfl rfl rfl hE (ai (Tr.k rfl (ae (aa (az (ai (aA rfl (aT (bz qc) rfl (aA rfl (aT (bz qc) rfl (aC jD rfl rfl (ae (aa (aP rfl H (fun H => ?_) (fun H => ?_)))))))))))))))
 ·refine ai (Tr.k rfl (ae (aa (aW (aK ?_)))))
  obtain rfl := oI H
  exact dQ leB
 ·refine aN (aa (az (ai (Tr.k rfl (ae (aa (Tr.block (df (σ := Int) (fun m w s => fH p0 p1 m s = some r) (fun s => [(0, sL b p0 d), (1, sL g p1 i), (5, iv s)]) (fun s => []) N 0 H (.r rfl) .nil (fun _ _ h => jQ (h)) ?_))))))))
  intro w l E o hs
  have H := hs
  replace H : fH p0 p1 (E + 1) o = some r := H
  replace f := f.nL l
  replace j := j.nL l
  replace leB := leB.trans l
  rw [fH.eq_2] at H
  show Tr _ _ (LF [(0, sL b p0 d), (1, sL g p1 i), (5, iv o)]) (LE []) _
  refine az (ai (aA rfl (aA rfl (aT (bz qc) rfl (aC bg rfl rfl (ae (aa (aP rfl H (fun H => ?_) (fun H => ?_)))))))))
  ·refine aN (aa (az (Tr.block (az (jb (by kernel_rfl) (by kernel_rfl) (dD rfl (dD rfl ?_)))))))
   obtain ⟨q, C, H⟩ := bnd H
   obtain ⟨u, v, y⟩ := aU C
   refine bi rfl (fun _ _ a c => ak qH (a.ev rfl) f.form (a.ev rfl) u v) (bi rfl (fun _ _ a c => aM (cs := [iv q.X, iv q.Y]) jZ gV (a.ev rfl) (aF.take (uZ jF f y c) 2) rfl) (dD rfl (dD rfl ?_)))
   obtain ⟨t, D, H⟩ := bnd H
   obtain ⟨z, A, B⟩ := aU D
   refine bi rfl (fun _ _ a c => ak qH (a.ev rfl) j.form (a.ev rfl) z A) (bi rfl (fun _ _ a c => aM (cs := [iv t.X, iv t.Y]) jZ gV (a.ev rfl) (aF.take (uZ jF j B c) 2) rfl) (fO (xx q t) rfl rfl (iE (aa (aP rfl H (fun H => ?_) (fun H => ?_))))))
   ·refine ai (Tr.k rfl (ae (aa (aW (bL (aK (aK (bL (aK ?_)))))))))
    obtain rfl := oI H
    exact dQ leB
   ·exact aN (aJ (aa (aI (aA rfl (aC bv rfl rfl (Tr.k rfl (ae (aD l (bG (o + 1)) H (.r rfl) .nil))))))))
  ·refine bW (aB (aB (aR (aa (ai (Tr.k rfl (ae (aa (aW ?_)))))))))
   obtain rfl := oI H
   exact dQ leB

theorem sW (N : Nat) (rec : (List av) → (List av) → Option Bool) (hrec : ∀ {w : Bs} (p0 : (List av)) (y : Option Addr) (A : Nat) (P : Sl w.R w.W ay y A p0) (p1 : (List av)) (z : Option Addr) (C : Nat) (Q : Sl w.R w.W ay z C p1) (r : Bool) (H : rec p0 p1 = some r) (hE : HF w w.W E0), Calls Tryz.prog 21 [sL y p0 A, sL z p1 C].toArray w.W fun e W' => e = .returned (bV r) ∧ HF w W' E0) {w : Bs} (p0 : (List av)) (y : Option Addr) (A : Nat) (P : Sl w.R w.W ay y A p0) (p1 : (List av)) (z : Option Addr) (C : Nat) (Q : Sl w.R w.W ay z C p1) (r : Bool) (H : ji N rec p0 p1 = some r) (hE : HF w w.W E0) : Calls Tryz.prog 21 [sL y p0 A, sL z p1 C].toArray w.W fun e W' => e = .returned (bV r) ∧ HF w W' E0 := by
 unfold ji at H
 have leB := Bs.Le.refl w
 refine aZ (n := 76) Tryz.func21 rfl rfl rfl hE (ai (Tr.k rfl (ae (aa (az (ai (aA rfl (aT (bz tH) rfl (aA rfl (aT (bz tH) rfl (aC jD rfl rfl (ae (aa (aP rfl H (fun H => ?_) (fun H => ?_)))))))))))))))
 ·refine ai (Tr.k rfl (ae (aa (aW (aK ?_)))))
  obtain rfl := oI H
  exact dQ leB
 ·refine aN (aa (az (ai (Tr.k rfl (ae (aa (Tr.block (df (σ := Int) (fun m w s => fK N p0 p1 rec m s = some r) (fun s => [(0, sL y p0 A), (1, sL z p1 C), (5, iv s)]) (fun s => []) N 0 H (.r rfl) .nil (fun _ _ h => jQ (h)) ?_))))))))
  intro w V c5 B hs
  have H := hs
  replace H : fK N p0 p1 rec (c5 + 1) B = some r := H
  replace P := P.nL V
  replace Q := Q.nL V
  replace leB := leB.trans V
  rw [fK.eq_2] at H
  show Tr _ _ (LF [(0, sL y p0 A), (1, sL z p1 C), (5, iv B)]) (LE []) _
  refine az (ai (aA rfl (aA rfl (aT (bz tH) rfl (aC bg rfl rfl (ae (aa (aP rfl H (fun H => ?_) (fun H => ?_)))))))))
  ·refine aN (aa (az (Tr.block (az (tZ 11 [] [10] (by kernel_rfl) (by kernel_rfl) fun S Z c4 => (dE 0 [(19, sL y p0 A)] (by kernel_rfl) rfl rfl (by kernel_rfl) ?_ rfl rfl ?_))))))
   ·exact dD rfl (Tq.fin (.r rfl))
   refine dE 1 [(20, iv B)] (by kernel_rfl) rfl rfl (by kernel_rfl) ?_ rfl rfl ?_
   ·exact dD rfl (Tq.fin (.r rfl))
   obtain ⟨d, b6, H⟩ := bnd H
   obtain ⟨a3, a4, a5⟩ := aU b6
   obtain ⟨c0, a6, a1, a7⟩ := (P).el a5
   obtain ⟨⟨g, i⟩, ⟨j, l⟩⟩ := c0
   obtain ⟨I, J⟩ := kw.1 a1
   replace I : Sl w.R w.W aX g i d.Points := I
   replace J : Sl w.R w.W ay j l d.Steps := J
   refine dE 2 [(21, .pointer (some ⟨mV y, pW y + (B).toNat * 8, none⟩))] (by kernel_rfl) rfl rfl (by kernel_rfl) ?_ rfl rfl ?_
   ·exact bi rfl (fun _ _ a c => ak wS (a.ev rfl) P.form (a.ev rfl) a3 a4) (Tq.fin (.r rfl))
   refine dE 3 [(22, .agg #[iv d.Kind, sv d.Name, iv d.At.X, iv d.At.Y, sL g d.Points i, iv d.NX, iv d.NY, sL j d.Steps l])] (by kernel_rfl) rfl rfl (by kernel_rfl) ?_ rfl rfl ?_
   ·exact bi rfl (fun _ _ a c => aM (cs := [iv d.Kind, sv d.Name, iv d.At.X, iv d.At.Y, sL g d.Points i, iv d.NX, iv d.NY, sL j d.Steps l]) yY qF (a.ev rfl) (aF.take (ut a6 a7 c) 8) rfl) (Tq.fin (.r rfl))
   refine dI 4 (by kernel_rfl) rfl (wn rfl) rfl (by kernel_rfl) (fun _ _ a => run_move (a.ev rfl)) rfl (dI 5 (by kernel_rfl) rfl (wn rfl) rfl (by kernel_rfl) (fun _ _ a => run_move (a.ev rfl)) rfl ?_)
   obtain ⟨f, b7, H⟩ := bnd H
   obtain ⟨a8, a9, b0⟩ := aU b7
   obtain ⟨c3, b1, a2, b2⟩ := (Q).el b0
   obtain ⟨⟨o, q⟩, ⟨t, v⟩⟩ := c3
   obtain ⟨K, L⟩ := kw.1 a2
   replace K : Sl w.R w.W aX o q f.Points := K
   replace L : Sl w.R w.W ay t v f.Steps := L
   refine dI 6 (by kernel_rfl) rfl (wn rfl) rfl (by kernel_rfl) (fun _ _ a => ak wS (a.ev rfl) Q.form (a.ev rfl) a8 a9) rfl (nu 7 [(26, .agg #[iv f.Kind, sv f.Name, iv f.At.X, iv f.At.Y, sL o f.Points q, iv f.NX, iv f.NY, sL t f.Steps v])] [] true (by kernel_rfl) rfl rfl (by kernel_rfl) (fun W W' c hsW hk => HF.yN (le := []) (ks := []) (s0 := S) true c hk (fun _ => Z) .nil (fun b hb => hb.elim (fun ⟨_, hp, _⟩ => nomatch hp) (fun hb => .inr ⟨rfl, hb.2, (fun _ h => nomatch h)⟩)) (fun _ h => nomatch h) rfl) ?_ rfl rfl ?_)
   ·exact bi rfl (fun _ _ a c => aM (cs := [iv f.Kind, sv f.Name, iv f.At.X, iv f.At.Y, sL o f.Points q, iv f.NX, iv f.NY, sL t f.Steps v]) yY qF (a.ev rfl) (aF.take (ut b1 b2 c) 8) rfl) (Tq.fin (.r rfl))
   refine Dr.cut (U := Nat × Nat) [8, 9] 1 (fun u => S ≤ u.1 ∧ S ≤ u.2) (fun u => [(0, sL y p0 A), (1, sL z p1 C), (5, iv B), (6, .pointer (some ⟨u.1, 0, none⟩)), (7, .pointer (some ⟨u.2, 0, none⟩)), (13, iv B), (14, sL y p0 A), (15, iv (p0.length : Int)), (16, bV (decide (B < (p0.length : Int)))), (19, sL y p0 A), (20, iv B), (21, .pointer (some ⟨mV y, pW y + (B).toNat * 8, none⟩)), (22, .agg #[iv d.Kind, sv d.Name, iv d.At.X, iv d.At.Y, sL g d.Points i, iv d.NX, iv d.NY, sL j d.Steps l]), (23, sL z p1 C), (24, iv B), (25, .pointer (some ⟨mV z, pW z + (B).toNat * 8, none⟩)), (26, .agg #[iv f.Kind, sv f.Name, iv f.At.X, iv f.At.Y, sL o f.Points q, iv f.NX, iv f.NY, sL t f.Steps v])]) (fun u => [(5, bx u.1 #[iv 0, sv ⟨#[]⟩, iv 0, iv 0, .slice none 0 0, iv 0, iv 0, .slice none 0 0] 53), (6, bx u.2 #[iv 0, sv ⟨#[]⟩, iv 0, iv 0, .slice none 0 0, iv 0, iv 0, .slice none 0 0] 53)]) ?_ ?_
   ·intro hC
    refine MK 8 9 (by kernel_rfl) ?_ ?_
    ·exact St.alloc 8 5 rfl (wn rfl) rfl AJ fun D G => (Dr.one 9 (by kernel_rfl) (St.alloc 9 6 rfl (wn rfl) rfl AJ fun E T => ((hC ⟨D, E⟩ ⟨G, T⟩).use (by kernel_rfl) (.r rfl) (.r rfl))))
    ·exact St.alloc 9 6 rfl (wn rfl) rfl AJ fun E T => (Dr.one 8 (by kernel_rfl) (St.alloc 8 5 rfl (wn rfl) rfl AJ fun D G => ((hC ⟨D, E⟩ ⟨G, T⟩).use (by kernel_rfl) (.r rfl) (.r rfl))))
   intro u hu
   obtain ⟨D, E⟩ := u
   obtain ⟨G, T⟩ := hu
   replace G : S ≤ D := G
   dsimp only
   refine Dr.one 10 (by kernel_rfl) (EX 10 5 (cs := [iv d.Kind, sv d.Name, iv d.At.X, iv d.At.Y, sL g d.Points i, iv d.NX, iv d.NY, sL j d.Steps l]) [iv d.Kind, sv d.Name, iv d.At.X, iv d.At.Y, sL g d.Points i, iv d.NX, iv d.NY, sL j d.Steps l] rfl (wn rfl) (.inr ⟨by simp, G⟩) rfl rfl rfl rfl qF rfl rfl rfl (wy (by kernel_rfl) (bJ 6 (cs := [iv f.Kind, sv f.Name, iv f.At.X, iv f.At.Y, sL o f.Points q, iv f.NX, iv f.NY, sL t f.Steps v]) [iv f.Kind, sv f.Name, iv f.At.X, iv f.At.Y, sL o f.Points q, iv f.NX, iv f.NY, sL t f.Steps v] (wn rfl) rfl rfl rfl rfl qF rfl rfl rfl (ae (aa (ai (aT (ag qZ) rfl (aG rfl (fun _ _ a c => ah bT (a.ev rfl) (dR c (vs := [iv d.Kind, sv d.Name, iv d.At.X, iv d.At.Y, sL g d.Points i, iv d.NX, iv d.NY, sL j d.Steps l]) (k := 5) rfl 0) rfl) (aT (ag qZ) rfl (aG rfl (fun _ _ a c => ah bT (a.ev rfl) (dR c (vs := [iv f.Kind, sv f.Name, iv f.At.X, iv f.At.Y, sL o f.Points q, iv f.NX, iv f.NY, sL t f.Steps v]) (k := 6) rfl 0) rfl) (aC jD rfl rfl (aA rfl (dX 6 [(0, sL y p0 A), (1, sL z p1 C), (5, iv B), (6, pV D), (7, pV E), (38, bV ((d.Kind != f.Kind) || (!AC d.Name f.Name)))] [(5, bx D #[iv d.Kind, sv d.Name, iv d.At.X, iv d.At.Y, sL g d.Points i, iv d.NX, iv d.NY, sL j d.Steps l] 53), (6, bx E #[iv f.Kind, sv f.Name, iv f.At.X, iv f.At.Y, sL o f.Points q, iv f.NX, iv f.NY, sL t f.Steps v] 53)] ?_ ?_)))))))))))))
   ·cases F : (d.Kind != f.Kind)
    ·exact dU (ag Df) rfl (Tr.x (fun _ _ a c => ah Rh (a.ev rfl) (dR c (vs := [iv d.Kind, sv d.Name, iv d.At.X, iv d.At.Y, sL g d.Points i, iv d.NX, iv d.NY, sL j d.Steps l]) (k := 5) rfl 1) rfl) (dU (ag Df) rfl (Tr.x (fun _ _ a c => ah Rh (a.ev rfl) (dR c (vs := [iv f.Kind, sv f.Name, iv f.At.X, iv f.At.Y, sL o f.Points q, iv f.NX, iv f.NY, sL t f.Steps v]) (k := 6) rfl 1) rfl) (kF IG rfl rfl (aC bE rfl rfl (ae (bu (.r rfl) (.r rfl))))))))
    ·exact bf rfl (bf rfl (bf rfl (bf rfl (bf rfl (aC bD rfl rfl (ae (bu (.r rfl) (.r rfl))))))))
   ·show Tr _ _ (LF [(0, sL y p0 A), (1, sL z p1 C), (5, iv B), (6, pV D), (7, pV E), (38, bV ((d.Kind != f.Kind) || (!AC d.Name f.Name)))]) (LE [(5, bx D #[iv d.Kind, sv d.Name, iv d.At.X, iv d.At.Y, sL g d.Points i, iv d.NX, iv d.NY, sL j d.Steps l] 53), (6, bx E #[iv f.Kind, sv f.Name, iv f.At.X, iv f.At.Y, sL o f.Points q, iv f.NX, iv f.NY, sL t f.Steps v] 53)]) _
    refine aA rfl (dX 6 [(0, sL y p0 A), (1, sL z p1 C), (5, iv B), (6, pV D), (7, pV E), (45, bV (((d.Kind != f.Kind) || (!AC d.Name f.Name)) || (!(gz d.At f.At))))] [(5, bx D #[iv d.Kind, sv d.Name, iv d.At.X, iv d.At.Y, sL g d.Points i, iv d.NX, iv d.NY, sL j d.Steps l] 53), (6, bx E #[iv f.Kind, sv f.Name, iv f.At.X, iv f.At.Y, sL o f.Points q, iv f.NX, iv f.NY, sL t f.Steps v] 53)] ?_ ?_)
    ·cases F : ((d.Kind != f.Kind) || (!AC d.Name f.Name))
     ·exact dU (ag xN) rfl (Tr.x (fun _ _ a c => aM (cs := [iv d.At.X, iv d.At.Y]) jZ gV (a.ev rfl) (aF.take (dR c (vs := [iv d.Kind, sv d.Name, iv d.At.X, iv d.At.Y, sL g d.Points i, iv d.NX, iv d.NY, sL j d.Steps l]) (k := 5) rfl 2) 2) rfl) (dU (ag xN) rfl (Tr.x (fun _ _ a c => aM (cs := [iv f.At.X, iv f.At.Y]) jZ gV (a.ev rfl) (aF.take (dR c (vs := [iv f.Kind, sv f.Name, iv f.At.X, iv f.At.Y, sL o f.Points q, iv f.NX, iv f.NY, sL t f.Steps v]) (k := 6) rfl 2) 2) rfl) (kF (xx d.At f.At) rfl rfl (aC bE rfl rfl (ae (bu (.r rfl) (.r rfl))))))))
     ·exact bf rfl (bf rfl (bf rfl (bf rfl (bf rfl (aC bD rfl rfl (ae (bu (.r rfl) (.r rfl))))))))
    ·show Tr _ _ (LF [(0, sL y p0 A), (1, sL z p1 C), (5, iv B), (6, pV D), (7, pV E), (45, bV (((d.Kind != f.Kind) || (!AC d.Name f.Name)) || (!(gz d.At f.At))))]) (LE [(5, bx D #[iv d.Kind, sv d.Name, iv d.At.X, iv d.At.Y, sL g d.Points i, iv d.NX, iv d.NY, sL j d.Steps l] 53), (6, bx E #[iv f.Kind, sv f.Name, iv f.At.X, iv f.At.Y, sL o f.Points q, iv f.NX, iv f.NY, sL t f.Steps v] 53)]) _
     refine aA rfl (dX 6 [(0, sL y p0 A), (1, sL z p1 C), (5, iv B), (6, pV D), (7, pV E), (52, bV ((((d.Kind != f.Kind) || (!AC d.Name f.Name)) || (!(gz d.At f.At))) || (d.NX != f.NX)))] [(5, bx D #[iv d.Kind, sv d.Name, iv d.At.X, iv d.At.Y, sL g d.Points i, iv d.NX, iv d.NY, sL j d.Steps l] 53), (6, bx E #[iv f.Kind, sv f.Name, iv f.At.X, iv f.At.Y, sL o f.Points q, iv f.NX, iv f.NY, sL t f.Steps v] 53)] ?_ ?_)
     ·cases F : (((d.Kind != f.Kind) || (!AC d.Name f.Name)) || (!(gz d.At f.At)))
      ·exact dU (ag Hw) rfl (Tr.x (fun _ _ a c => ah bT (a.ev rfl) (dR c (vs := [iv d.Kind, sv d.Name, iv d.At.X, iv d.At.Y, sL g d.Points i, iv d.NX, iv d.NY, sL j d.Steps l]) (k := 5) rfl 5) rfl) (dU (ag Hw) rfl (Tr.x (fun _ _ a c => ah bT (a.ev rfl) (dR c (vs := [iv f.Kind, sv f.Name, iv f.At.X, iv f.At.Y, sL o f.Points q, iv f.NX, iv f.NY, sL t f.Steps v]) (k := 6) rfl 5) rfl) (kF jD rfl rfl (aC bE rfl rfl (ae (bu (.r rfl) (.r rfl))))))))
      ·exact bf rfl (bf rfl (bf rfl (bf rfl (bf rfl (aC bD rfl rfl (ae (bu (.r rfl) (.r rfl))))))))
     ·show Tr _ _ (LF [(0, sL y p0 A), (1, sL z p1 C), (5, iv B), (6, pV D), (7, pV E), (52, bV ((((d.Kind != f.Kind) || (!AC d.Name f.Name)) || (!(gz d.At f.At))) || (d.NX != f.NX)))]) (LE [(5, bx D #[iv d.Kind, sv d.Name, iv d.At.X, iv d.At.Y, sL g d.Points i, iv d.NX, iv d.NY, sL j d.Steps l] 53), (6, bx E #[iv f.Kind, sv f.Name, iv f.At.X, iv f.At.Y, sL o f.Points q, iv f.NX, iv f.NY, sL t f.Steps v] 53)]) _
      refine aA rfl (dX 6 [(0, sL y p0 A), (1, sL z p1 C), (5, iv B), (6, pV D), (7, pV E), (59, bV (((((d.Kind != f.Kind) || (!AC d.Name f.Name)) || (!(gz d.At f.At))) || (d.NX != f.NX)) || (d.NY != f.NY)))] [(5, bx D #[iv d.Kind, sv d.Name, iv d.At.X, iv d.At.Y, sL g d.Points i, iv d.NX, iv d.NY, sL j d.Steps l] 53), (6, bx E #[iv f.Kind, sv f.Name, iv f.At.X, iv f.At.Y, sL o f.Points q, iv f.NX, iv f.NY, sL t f.Steps v] 53)] ?_ ?_)
      ·cases F : ((((d.Kind != f.Kind) || (!AC d.Name f.Name)) || (!(gz d.At f.At))) || (d.NX != f.NX))
       ·exact dU (ag Hu) rfl (Tr.x (fun _ _ a c => ah bT (a.ev rfl) (dR c (vs := [iv d.Kind, sv d.Name, iv d.At.X, iv d.At.Y, sL g d.Points i, iv d.NX, iv d.NY, sL j d.Steps l]) (k := 5) rfl 6) rfl) (dU (ag Hu) rfl (Tr.x (fun _ _ a c => ah bT (a.ev rfl) (dR c (vs := [iv f.Kind, sv f.Name, iv f.At.X, iv f.At.Y, sL o f.Points q, iv f.NX, iv f.NY, sL t f.Steps v]) (k := 6) rfl 6) rfl) (kF jD rfl rfl (aC bE rfl rfl (ae (bu (.r rfl) (.r rfl))))))))
       ·exact bf rfl (bf rfl (bf rfl (bf rfl (bf rfl (aC bD rfl rfl (ae (bu (.r rfl) (.r rfl))))))))
      ·show Tr _ _ (LF [(0, sL y p0 A), (1, sL z p1 C), (5, iv B), (6, pV D), (7, pV E), (59, bV (((((d.Kind != f.Kind) || (!AC d.Name f.Name)) || (!(gz d.At f.At))) || (d.NX != f.NX)) || (d.NY != f.NY)))]) (LE [(5, bx D #[iv d.Kind, sv d.Name, iv d.At.X, iv d.At.Y, sL g d.Points i, iv d.NX, iv d.NY, sL j d.Steps l] 53), (6, bx E #[iv f.Kind, sv f.Name, iv f.At.X, iv f.At.Y, sL o f.Points q, iv f.NX, iv f.NY, sL t f.Steps v] 53)]) _
       refine aA rfl ?_
       obtain ⟨a0, M, H⟩ := bnd H
       refine dX 7 [(0, sL y p0 A), (1, sL z p1 C), (5, iv B), (6, pV D), (7, pV E), (67, bV a0)] [(5, bx D #[iv d.Kind, sv d.Name, iv d.At.X, iv d.At.Y, sL g d.Points i, iv d.NX, iv d.NY, sL j d.Steps l] 53), (6, bx E #[iv f.Kind, sv f.Name, iv f.At.X, iv f.At.Y, sL o f.Points q, iv f.NX, iv f.NY, sL t f.Steps v] 53)] ?_ ?_
       ·cases F : (((((d.Kind != f.Kind) || (!AC d.Name f.Name)) || (!(gz d.At f.At))) || (d.NX != f.NX)) || (d.NY != f.NY))
        ·rw [F] at M
         rw [if_neg (by decide)] at M
         have H := M
         refine dU (ag qY) rfl (Tr.x (fun _ _ a c => ah tT (a.ev rfl) (dR c (vs := [iv d.Kind, sv d.Name, iv d.At.X, iv d.At.Y, sL g d.Points i, iv d.NX, iv d.NY, sL j d.Steps l]) (k := 5) rfl 4) rfl) (dU (ag qY) rfl (Tr.x (fun _ _ a c => ah tT (a.ev rfl) (dR c (vs := [iv f.Kind, sv f.Name, iv f.At.X, iv f.At.Y, sL o f.Points q, iv f.NX, iv f.NY, sL t f.Steps v]) (k := 6) rfl 4) rfl) ?_)))
         obtain ⟨b3, b8, H⟩ := bnd H
         refine di (r := (bV b3)) (wg rfl rfl rfl) rfl Tryz.call39 (aj rfl (aj rfl aL)) (fun W hW => uq N d.Points g i (I.ext hW.cB) f.Points o q (K.ext hW.cB) b3 b8 (HF.start _)) (dU jC rfl (aC bE rfl rfl ?_))
         obtain rfl := oI H
         exact ae (bu (.r rfl) (.r rfl))
        ·rw [F] at M
         rw [if_pos rfl] at M
         have H := M
         obtain rfl := oI H
         exact bf rfl (bf rfl (bf rfl (bf rfl (bf rfl (bf rfl (aC bD rfl rfl (ae (bu (.r rfl) (.r rfl)))))))))
       ·show Tr _ _ (LF [(0, sL y p0 A), (1, sL z p1 C), (5, iv B), (6, pV D), (7, pV E), (67, bV a0)]) (LE [(5, bx D #[iv d.Kind, sv d.Name, iv d.At.X, iv d.At.Y, sL g d.Points i, iv d.NX, iv d.NY, sL j d.Steps l] 53), (6, bx E #[iv f.Kind, sv f.Name, iv f.At.X, iv f.At.Y, sL o f.Points q, iv f.NX, iv f.NY, sL t f.Steps v] 53)]) _
        refine aA rfl ?_
        obtain ⟨b4, O, H⟩ := bnd H
        refine dX 7 [(0, sL y p0 A), (1, sL z p1 C), (5, iv B), (75, bV b4)] [(5, bx D #[iv d.Kind, sv d.Name, iv d.At.X, iv d.At.Y, sL g d.Points i, iv d.NX, iv d.NY, sL j d.Steps l] 53), (6, bx E #[iv f.Kind, sv f.Name, iv f.At.X, iv f.At.Y, sL o f.Points q, iv f.NX, iv f.NY, sL t f.Steps v] 53)] ?_ ?_
        ·cases F : a0
         ·rw [F] at O
          rw [if_neg (by decide)] at O
          have H := O
          refine dU (ag xM) rfl (Tr.x (fun _ _ a c => ah tX (a.ev rfl) (dR c (vs := [iv d.Kind, sv d.Name, iv d.At.X, iv d.At.Y, sL g d.Points i, iv d.NX, iv d.NY, sL j d.Steps l]) (k := 5) rfl 7) rfl) (dU (ag xM) rfl (Tr.x (fun _ _ a c => ah tX (a.ev rfl) (dR c (vs := [iv f.Kind, sv f.Name, iv f.At.X, iv f.At.Y, sL o f.Points q, iv f.NX, iv f.NY, sL t f.Steps v]) (k := 6) rfl 7) rfl) ?_)))
          obtain ⟨b5, b9, H⟩ := bnd H
          refine di (r := (bV b5)) (wg rfl rfl rfl) rfl Tryz.call21 (aj rfl (aj rfl aL)) (fun W hW => hrec d.Steps j l (J.ext hW.cB) f.Steps t v (L.ext hW.cB) b5 b9 (HF.start _)) (dU jC rfl (aC bE rfl rfl ?_))
          obtain rfl := oI H
          exact ae (bu (.r rfl) (.r rfl))
         ·rw [F] at O
          rw [if_pos rfl] at O
          have H := O
          obtain rfl := oI H
          exact bf rfl (bf rfl (bf rfl (bf rfl (bf rfl (bf rfl (aC bD rfl rfl (ae (bu (.r rfl) (.r rfl)))))))))
        ·show Tr _ _ (LF [(0, sL y p0 A), (1, sL z p1 C), (5, iv B), (75, bV b4)]) (LE [(5, bx D #[iv d.Kind, sv d.Name, iv d.At.X, iv d.At.Y, sL g d.Points i, iv d.NX, iv d.NY, sL j d.Steps l] 53), (6, bx E #[iv f.Kind, sv f.Name, iv f.At.X, iv f.At.Y, sL o f.Points q, iv f.NX, iv f.NY, sL t f.Steps v] 53)]) _
         refine ae (aa (aP rfl H (fun H => ?_) (fun H => ?_)))
         ·refine ai (Tr.k rfl (ae (aa (aW (bL (aK (aK (bL (aK ?_)))))))))
          obtain rfl := oI H
          exact dQ leB
         ·exact aN (aJ (aa (aI (aA rfl (aC bv rfl rfl (Tr.k rfl (ae (aD V (bG (B + 1)) H (.r rfl) .nil))))))))
  ·refine bW (aB (aB (aR (aa (ai (Tr.k rfl (ae (aa (aW ?_)))))))))
   obtain rfl := oI H
   exact dQ leB
theorem pF : ∀ (N : Nat) {w : Bs} (p0 : (List av)) (a : Option Addr) (b : Nat) (f : Sl w.R w.W ay a b p0) (p1 : (List av)) (c : Option Addr) (d : Nat) (g : Sl w.R w.W ay c d p1) (r : Bool) (H : jP N p0 p1 = some r) (hE : HF w w.W E0), Calls Tryz.prog 21 [sL a p0 b, sL c p1 d].toArray w.W fun e W' => e = .returned (bV r) ∧ HF w W' E0
 | 0 => by intros; rename_i H _; cases H
 | N + 1 => sW N (jP N) (pF N)

theorem uM (N : Nat) {w : Bs} (p0 : gu) (f : Option Addr) (g : Nat) (E : Sl w.R w.W aY f g p0.Tools) (b : Option Addr) (d : Nat) (z : Sl w.R w.W ay b d p0.Steps) (p1 : gu) (l : Option Addr) (o : Nat) (F : Sl w.R w.W aY l o p1.Tools) (i : Option Addr) (j : Nat) (A : Sl w.R w.W ay i j p1.Steps) (r : Bool) (H : ku N p0 p1 = some r) (hE : HF w w.W E0) : Calls Tryz.prog 7 [.agg #[iv p0.Unit, sL f p0.Tools g, sL b p0.Steps d], .agg #[iv p1.Unit, sL l p1.Tools o, sL i p1.Steps j]].toArray w.W fun e W' => e = .returned (bV r) ∧ HF w W' E0 := by
 unfold ku at H
 have leB := Bs.Le.refl w
 refine aZ (n := 64) Tryz.func7 rfl rfl rfl hE (ai (gN 1 (cs := [iv p0.Unit, sL f p0.Tools g, sL b p0.Steps d]) (wn rfl) rfl rfl rfl fun q => (gN 2 (cs := [iv p1.Unit, sL l p1.Tools o, sL i p1.Steps j]) (wn rfl) rfl rfl rfl fun s => (Tr.k rfl (ae (aa (az (ai (aT (ag uD) rfl (aG rfl (fun _ _ a c => ah bT (a.ev rfl) (dR c (vs := [iv p0.Unit, sL f p0.Tools g, sL b p0.Steps d]) (k := 1) rfl 0) rfl) (aT (ag uD) rfl (aG rfl (fun _ _ a c => ah bT (a.ev rfl) (dR c (vs := [iv p1.Unit, sL l p1.Tools o, sL i p1.Steps j]) (k := 2) rfl 0) rfl) (aC jD rfl rfl (aA rfl (dX 8 [(2, pV q), (3, pV s), (19, bV ((p0.Unit != p1.Unit) || ((p0.Tools.length : Int) != (p1.Tools.length : Int))))] [(1, bx q #[iv p0.Unit, sL f p0.Tools g, sL b p0.Steps d] 26), (2, bx s #[iv p1.Unit, sL l p1.Tools o, sL i p1.Steps j] 26)] ?_ ?_)))))))))))))))
 ·cases u : (p0.Unit != p1.Unit)
  ·refine dU (ag vX) rfl (Tr.x (fun _ _ a c => ah CG (a.ev rfl) (dR c (vs := [iv p0.Unit, sL f p0.Tools g, sL b p0.Steps d]) (k := 1) rfl 1) rfl) (dU (bz zR) rfl (dU (ag vX) rfl (Tr.x (fun _ _ a c => ah CG (a.ev rfl) (dR c (vs := [iv p1.Unit, sL l p1.Tools o, sL i p1.Steps j]) (k := 2) rfl 1) rfl) (dU (bz zR) rfl (kF jD rfl rfl ?_))))))
   exact aC bE rfl rfl (ae (bu (.r rfl) (.r rfl)))
  ·refine bf rfl (bf rfl (bf rfl (bf rfl (bf rfl (bf rfl (bf rfl ?_))))))
   exact aC bD rfl rfl (ae (bu (.r rfl) (.r rfl)))
 ·show Tr _ _ (LF [(2, pV q), (3, pV s), (19, bV ((p0.Unit != p1.Unit) || ((p0.Tools.length : Int) != (p1.Tools.length : Int))))]) (LE [(1, bx q #[iv p0.Unit, sL f p0.Tools g, sL b p0.Steps d] 26), (2, bx s #[iv p1.Unit, sL l p1.Tools o, sL i p1.Steps j] 26)]) _
  refine aA rfl ?_
  obtain ⟨v, t, H⟩ := bnd H
  refine dX 7 [(2, pV q), (3, pV s), (27, bV v)] [(1, bx q #[iv p0.Unit, sL f p0.Tools g, sL b p0.Steps d] 26), (2, bx s #[iv p1.Unit, sL l p1.Tools o, sL i p1.Steps j] 26)] ?_ ?_
  ·cases u : ((p0.Unit != p1.Unit) || ((p0.Tools.length : Int) != (p1.Tools.length : Int)))
   ·rw [u] at t
    rw [if_neg (by decide)] at t
    have H := t
    refine dU (ag qA) rfl (Tr.x (fun _ _ a c => ah tX (a.ev rfl) (dR c (vs := [iv p0.Unit, sL f p0.Tools g, sL b p0.Steps d]) (k := 1) rfl 2) rfl) (dU (ag qA) rfl (Tr.x (fun _ _ a c => ah tX (a.ev rfl) (dR c (vs := [iv p1.Unit, sL l p1.Tools o, sL i p1.Steps j]) (k := 2) rfl 2) rfl) ?_)))
    obtain ⟨y, B, H⟩ := bnd H
    refine di (r := (bV y)) (wg rfl rfl rfl) rfl Tryz.call21 (aj rfl (aj rfl aL)) (fun W hW => pF N p0.Steps b d (z.ext hW.cB) p1.Steps i j (A.ext hW.cB) y B (HF.start _)) (dU jC rfl (aC bE rfl rfl ?_))
    obtain rfl := oI H
    exact ae (bu (.r rfl) (.r rfl))
   ·rw [u] at t
    rw [if_pos rfl] at t
    have H := t
    obtain rfl := oI H
    exact bf rfl (bf rfl (bf rfl (bf rfl (bf rfl (bf rfl (aC bD rfl rfl (ae (bu (.r rfl) (.r rfl)))))))))
  ·show Tr _ _ (LF [(2, pV q), (3, pV s), (27, bV v)]) (LE [(1, bx q #[iv p0.Unit, sL f p0.Tools g, sL b p0.Steps d] 26), (2, bx s #[iv p1.Unit, sL l p1.Tools o, sL i p1.Steps j] 26)]) _
   refine ae (aa (aP rfl H (fun H => ?_) (fun H => ?_)))
   ·refine ai (Tr.k rfl (ae (aa (aW (aK ?_)))))
    obtain rfl := oI H
    exact dQ leB
   ·refine aN (aa (az (ai (Tr.k rfl (ae (aa (Tr.block (df (σ := Unit) (fun m w _ => jk p0 m = some r) (fun _ => [(2, pV q), (3, pV s), (5, iv 0)]) (fun _ => [(1, bx q #[iv p0.Unit, sL f p0.Tools g, sL b p0.Steps d] 26), (2, bx s #[iv p1.Unit, sL l p1.Tools o, sL i p1.Steps j] 26)]) N () H (.r rfl) (.r rfl) (fun _ _ h => jQ (h)) ?_))))))))
    intro w C D _ hs
    have H := hs
    replace H : jk p0 (D + 1) = some r := H
    replace leB := leB.trans C
    rw [jk.eq_2] at H
    show Tr _ _ (LF [(2, pV q), (3, pV s), (5, iv 0)]) (LE [(1, bx q #[iv p0.Unit, sL f p0.Tools g, sL b p0.Steps d] 26), (2, bx s #[iv p1.Unit, sL l p1.Tools o, sL i p1.Steps j] 26)]) _
    refine az (ai (aA rfl (aT (ag vX) rfl (aG rfl (fun _ _ a c => ah CG (a.ev rfl) (dR c (vs := [iv p0.Unit, sL f p0.Tools g, sL b p0.Steps d]) (k := 1) rfl 1) rfl) (aT (bz zR) rfl (aC bg rfl rfl (ae (aa (aP rfl H (fun H => ?_) (fun H => ?_))))))))))
    ·refine aN (aa (az (Tr.block (az ?_))))
     cases H
    ·refine bW (aB (aB (aR (aa (ai (Tr.k rfl (ae (aa (aW ?_)))))))))
     obtain rfl := oI H
     exact dQ leB

theorem sD (N : Nat) {w : Bs} (p0 : (List aQ)) (K : Option Addr) (L : Nat) (y : Sl w.R w.W bq K L p0) (r : Bool) (H : iV N p0 = some r) (hE : HF w w.W E0) : Calls Tryz.prog 4 [sL K p0 L].toArray w.W fun e W' => e = .returned (bV r) ∧ HF w W' E0 := by
 unfold iV at H
 have leB := Bs.Le.refl w
 refine aZ (n := 54) Tryz.func4 rfl rfl rfl hE (ai (Tr.k rfl (ae (aa (ai (aA rfl ?_))))))
 obtain ⟨b, b1, H⟩ := bnd H
 refine fq [1, 2] [emp, emp] (U := (Option Addr × Nat) × (Option Addr × Nat)) (fun u => (.tuple #[.agg #[iv b.1.Unit, sL u.1.1 b.1.Tools u.1.2, sL u.2.1 b.1.Steps u.2.2], iv b.2])) (fun O W u => dM u.1.1 b.1.Tools.length u.1.2 ∧ dM u.2.1 b.1.Steps.length u.2.2) (fun u => [ow u.1.1 u.1.2 58 aY b.1.Tools, ow u.2.1 u.2.2 53 ay b.1.Steps]) rfl (aH rfl (aH rfl bn)) (fun _ => rfl) (wn rfl) rfl Tryz.call5 (aj rfl aL) (fun W hW hp hE => Ih N p0 K L (y.ext (hW.gM hp)) b b1 hE) ?_
 intro w u S hu
 obtain ⟨⟨f, g⟩, ⟨h, i⟩⟩ := u
 obtain ⟨Z, a0⟩ := hu
 replace y := y.nL S
 replace leB := leB.trans S
 have b9 : dM f b.1.Tools.length g := Z --@phi
 have c0 : dM h b.1.Steps.length i := a0 --@phi
 dsimp only
 refine aA rfl (aG rfl (fun _ _ a c => ib (a.ev rfl) rfl) (aG rfl (fun _ _ a c => ib (a.ev rfl) rfl) (Tr.alloc 3 (wn rfl) rfl Dq fun z => (bJ 3 (cs := [iv b.1.Unit, sL f b.1.Tools g, sL h b.1.Steps i]) [iv b.1.Unit, sL f b.1.Tools g, sL h b.1.Steps i] (wn rfl) rfl rfl rfl rfl mr rfl rfl rfl (Tr.k rfl (ae (aa (az (ai (aA rfl (aC jD rfl rfl (ae (aa (aP rfl H (fun H => ?_) (fun H => ?_)))))))))))))))
 ·refine ai (aT (ag qA) rfl (aG rfl (fun _ _ a c => ah tX (a.ev rfl) (dR c (vs := [iv b.1.Unit, sL f b.1.Tools g, sL h b.1.Steps i]) (k := 3) rfl 2) rfl) (aT (bz tH) rfl (aC dL rfl rfl (aA rfl ?_)))))
  obtain ⟨a4, C, H⟩ := bnd H
  refine dX 2 [(21, bV a4)] [(1, ow f g 58 aY b.1.Tools), (2, ow h i 53 ay b.1.Steps), (3, bx z #[iv b.1.Unit, sL f b.1.Tools g, sL h b.1.Steps i] 26)] ?_ ?_
  ·cases T : ((b.1.Steps.length : Int) == 0)
   ·rw [T] at C
    rw [if_neg (by decide)] at C
    have H := C
    obtain rfl := oI H
    exact bf rfl (aC bE rfl rfl (ae (bu (.r rfl) (.r rfl))))
   ·rw [T] at C
    rw [if_pos rfl] at C
    have H := C
    obtain ⟨a5, b2, H⟩ := bnd H
    refine di (r := (bV a5)) (wg rfl rfl rfl) rfl Tryz.call8 aL (fun W hW => nT N a5 b2 (HF.start _)) (aC bD rfl rfl ?_)
    obtain rfl := oI H
    exact ae (bu (.r rfl) (.r rfl))
  ·show Tr _ _ (LF [(21, bV a4)]) (LE [(1, ow f g 58 aY b.1.Tools), (2, ow h i 53 ay b.1.Steps), (3, bx z #[iv b.1.Unit, sL f b.1.Tools g, sL h b.1.Steps i] 26)]) _
   refine Tr.k rfl (ae (aa (aW (aK ?_))))
   obtain rfl := oI H
   exact dQ leB
 ·refine aN (aa (ai (aG rfl (fun _ _ a c => aM (cs := [iv b.1.Unit, sL f b.1.Tools g, sL h b.1.Steps i]) ql mr (a.ev rfl) (aF.take (dR c (vs := [iv b.1.Unit, sL f b.1.Tools g, sL h b.1.Steps i]) (k := 3) rfl 0) 3) rfl) (Tr.freeze 1 rfl fun w V A => ?_))))
  replace y := y.nL V
  replace leB := leB.trans V
  refine Tr.freeze 2 rfl fun w P I => ?_
  replace y := y.nL P
  replace A := A.le P
  replace leB := leB.trans P
  obtain ⟨v, b3, H⟩ := bnd H
  refine ja [4] [emp] (U := (Option Addr × Nat)) (fun u => (.tuple #[sL u.1 v.1 u.2, iv v.2])) (fun u => dM u.1 v.1.length u.2) (fun u => [ow u.1 u.2 38 bq v.1]) rfl (aH rfl bn) (fun _ => rfl) (wn rfl) rfl Tryz.call9 (aj rfl aL) (fun W hW hp hE => CU N b.1 f g (A.qK (hW.gM hp)) h i (I.qK (hW.gM hp)) v b3 hE) ?_
  intro u hu
  obtain ⟨s, t⟩ := u
  have a1 := hu
  have c3 : dM s v.1.length t := a1 --@phi
  dsimp only
  refine aA rfl (aG rfl (fun _ _ a c => ib (a.ev rfl) rfl) (aG rfl (fun _ _ a c => ib (a.ev rfl) rfl) (Tr.k rfl (Tr.k rfl (ae (aa (az (ai (aA rfl (aC jD rfl rfl (ae (aa (aP rfl H (fun H => ?_) (fun H => ?_))))))))))))))
  ·refine ai (aA rfl (aC dL rfl rfl (aA rfl ?_)))
   obtain ⟨a6, D, H⟩ := bnd H
   refine dX 2 [(33, bV a6)] [(3, bx z #[iv b.1.Unit, sL f b.1.Tools g, sL h b.1.Steps i] 26), (4, ow s t 38 bq v.1)] ?_ ?_
   ·cases X : (v.2 == 2)
    ·rw [X] at D
     rw [if_neg (by decide)] at D
     have H := D
     obtain rfl := oI H
     exact bf rfl (aC bE rfl rfl (ae (bu (.r rfl) (.r rfl))))
    ·rw [X] at D
     rw [if_pos rfl] at D
     have H := D
     obtain ⟨a7, b4, H⟩ := bnd H
     refine di (r := (bV a7)) (wg rfl rfl rfl) rfl Tryz.call8 aL (fun W hW => nT N a7 b4 (HF.start _)) (aC bD rfl rfl ?_)
     obtain rfl := oI H
     exact ae (bu (.r rfl) (.r rfl))
   ·show Tr _ _ (LF [(33, bV a6)]) (LE [(3, bx z #[iv b.1.Unit, sL f b.1.Tools g, sL h b.1.Steps i] 26), (4, ow s t 38 bq v.1)]) _
    refine Tr.k rfl (ae (aa (aW (aK ?_))))
    obtain rfl := oI H
    exact dQ leB
  ·refine aN (aa (ai (aG rfl (fun _ _ a c => aM (cs := [iv b.1.Unit, sL f b.1.Tools g, sL h b.1.Steps i]) ql mr (a.ev rfl) (aF.take (dR c (vs := [iv b.1.Unit, sL f b.1.Tools g, sL h b.1.Steps i]) (k := 3) rfl 0) 3) rfl) ?_)))
   obtain ⟨d, b5, H⟩ := bnd H
   refine fq [5, 6] [emp, emp] (U := (Option Addr × Nat) × (Option Addr × Nat)) (fun u => (.tuple #[.agg #[iv d.1.Unit, sL u.1.1 d.1.Tools u.1.2, sL u.2.1 d.1.Steps u.2.2], iv d.2])) (fun O W u => dM u.1.1 d.1.Tools.length u.1.2 ∧ dM u.2.1 d.1.Steps.length u.2.2) (fun u => [ow u.1.1 u.1.2 58 aY d.1.Tools, ow u.2.1 u.2.2 53 ay d.1.Steps]) rfl (aH rfl (aH rfl bn)) (fun _ => rfl) (wn rfl) rfl Tryz.call10 (aj rfl aL) (fun W hW hp hE => CS N b.1 f g (A.qK (hW.gM hp)) h i (I.qK (hW.gM hp)) d b5 hE) ?_
   intro w u M hu
   obtain ⟨⟨j, l⟩, ⟨o, q⟩⟩ := u
   obtain ⟨a2, a3⟩ := hu
   replace y := y.nL M
   replace A := A.le M
   replace I := I.le M
   replace leB := leB.trans M
   have c4 : dM j d.1.Tools.length l := a2 --@phi
   have c5 : dM o d.1.Steps.length q := a3 --@phi
   dsimp only
   refine aA rfl (aG rfl (fun _ _ a c => ib (a.ev rfl) rfl) (aG rfl (fun _ _ a c => ib (a.ev rfl) rfl) (Tr.alloc 7 (wn rfl) rfl Dq fun B => (bJ 7 (cs := [iv d.1.Unit, sL j d.1.Tools l, sL o d.1.Steps q]) [iv d.1.Unit, sL j d.1.Tools l, sL o d.1.Steps q] (wn rfl) rfl rfl rfl rfl mr rfl rfl rfl (Tr.k rfl (ae (aa (ai (aA rfl (aA rfl ?_))))))))))
   obtain ⟨J, b6, H⟩ := bnd H
   refine di (r := (bV J)) (wn rfl) rfl Tryz.call11 (aj rfl (aj rfl aL)) (fun W hW => rX v.1 s t (hW.sK (k := 4) rfl) p0 K L (y.ext hW.cB) J b6 (HF.start _)) (aA rfl (dX 3 [(3, pV z), (6, pV B), (45, bV (J && (d.2 == 0)))] [(3, bx z #[iv b.1.Unit, sL f b.1.Tools g, sL h b.1.Steps i] 26), (4, ow s t 38 bq v.1), (5, ow j l 58 aY d.1.Tools), (6, ow o q 53 ay d.1.Steps), (7, bx B #[iv d.1.Unit, sL j d.1.Tools l, sL o d.1.Steps q] 26)] ?_ ?_))
   ·cases E : J
    ·exact bf rfl (bf rfl (aC bE rfl rfl (ae (bu (.r rfl) (.r rfl)))))
    ·exact dU run_move rfl (kF dL rfl rfl (aC bD rfl rfl (ae (bu (.r rfl) (.r rfl)))))
   ·show Tr _ _ (LF [(3, pV z), (6, pV B), (45, bV (J && (d.2 == 0)))]) (LE [(3, bx z #[iv b.1.Unit, sL f b.1.Tools g, sL h b.1.Steps i] 26), (4, ow s t 38 bq v.1), (5, ow j l 58 aY d.1.Tools), (6, ow o q 53 ay d.1.Steps), (7, bx B #[iv d.1.Unit, sL j d.1.Tools l, sL o d.1.Steps q] 26)]) _
    refine aA rfl ?_
    obtain ⟨Q, F, H⟩ := bnd H
    refine dX 4 [(50, bV Q)] [(3, bx z #[iv b.1.Unit, sL f b.1.Tools g, sL h b.1.Steps i] 26), (4, ow s t 38 bq v.1), (5, ow j l 58 aY d.1.Tools), (6, ow o q 53 ay d.1.Steps), (7, bx B #[iv d.1.Unit, sL j d.1.Tools l, sL o d.1.Steps q] 26)] ?_ ?_
    ·cases E : (J && (d.2 == 0))
     ·rw [E] at F
      rw [if_neg (by decide)] at F
      have H := F
      obtain rfl := oI H
      exact bf rfl (bf rfl (bf rfl (aC bE rfl rfl (ae (bu (.r rfl) (.r rfl))))))
     ·rw [E] at F
      rw [if_pos rfl] at F
      have H := F
      refine Tr.x (fun _ _ a c => aM (cs := [iv d.1.Unit, sL j d.1.Tools l, sL o d.1.Steps q]) ql mr (a.ev rfl) (aF.take (dR c (vs := [iv d.1.Unit, sL j d.1.Tools l, sL o d.1.Steps q]) (k := 7) rfl 0) 3) rfl) (Tr.x (fun _ _ a c => aM (cs := [iv b.1.Unit, sL f b.1.Tools g, sL h b.1.Steps i]) ql mr (a.ev rfl) (aF.take (dR c (vs := [iv b.1.Unit, sL f b.1.Tools g, sL h b.1.Steps i]) (k := 3) rfl 0) 3) rfl) ?_)
      obtain ⟨a8, b7, H⟩ := bnd H
      refine di (r := (bV a8)) (wg rfl rfl rfl) rfl Tryz.call7 (aj rfl (aj rfl aL)) (fun W hW => uM N d.1 j l (hW.sK (k := 5) rfl) o q (hW.sK (k := 6) rfl) b.1 f g (A.rl.ext hW.cB) h i (I.rl.ext hW.cB) a8 b7 (HF.start _)) (aC bD rfl rfl ?_)
      obtain rfl := oI H
      exact ae (bu (.r rfl) (.r rfl))
    ·show Tr _ _ (LF [(50, bV Q)]) (LE [(3, bx z #[iv b.1.Unit, sL f b.1.Tools g, sL h b.1.Steps i] 26), (4, ow s t 38 bq v.1), (5, ow j l 58 aY d.1.Tools), (6, ow o q 53 ay d.1.Steps), (7, bx B #[iv d.1.Unit, sL j d.1.Tools l, sL o d.1.Steps q] 26)]) _
     refine aA rfl ?_
     obtain ⟨a9, G, H⟩ := bnd H
     refine dX 2 [(53, bV a9)] [(3, bx z #[iv b.1.Unit, sL f b.1.Tools g, sL h b.1.Steps i] 26), (4, ow s t 38 bq v.1), (5, ow j l 58 aY d.1.Tools), (6, ow o q 53 ay d.1.Steps), (7, bx B #[iv d.1.Unit, sL j d.1.Tools l, sL o d.1.Steps q] 26)] ?_ ?_
     ·cases E : Q
      ·rw [E] at G
       rw [if_neg (by decide)] at G
       have H := G
       obtain rfl := oI H
       exact bf rfl (aC bE rfl rfl (ae (bu (.r rfl) (.r rfl))))
      ·rw [E] at G
       rw [if_pos rfl] at G
       have H := G
       obtain ⟨b0, b8, H⟩ := bnd H
       refine di (r := (bV b0)) (wg rfl rfl rfl) rfl Tryz.call8 aL (fun W hW => nT N b0 b8 (HF.start _)) (aC bD rfl rfl ?_)
       obtain rfl := oI H
       exact ae (bu (.r rfl) (.r rfl))
     ·show Tr _ _ (LF [(53, bV a9)]) (LE [(3, bx z #[iv b.1.Unit, sL f b.1.Tools g, sL h b.1.Steps i] 26), (4, ow s t 38 bq v.1), (5, ow j l 58 aY d.1.Tools), (6, ow o q 53 ay d.1.Steps), (7, bx B #[iv d.1.Unit, sL j d.1.Tools l, sL o d.1.Steps q] 26)]) _
      refine Tr.k rfl (ae (aa (aW ?_)))
      obtain rfl := oI H
      exact dQ leB

end Go.Proofs.YtcjeebkoafonpaaGreatDoor
