/- The walks: each function computes its plain function. -/
import Derived.Test.YtcjeebkoafonpaaGreatDoorXWd
namespace Go.Proofs.YtcjeebkoafonpaaGreatDoor
open Go.RowKit
set_option maxRecDepth 100000
set_option maxHeartbeats 1000000
theorem vC (N : Nat) {w : Bs} (p0 : gK) (f : Option Addr) (g : Nat) (E : Sl w.R w.W eD f g p0.Tools) (b : Option Addr) (d : Nat) (z : Sl w.R w.W aT b d p0.Steps) (p1 : gK) (l : Option Addr) (o : Nat) (F : Sl w.R w.W eD l o p1.Tools) (i : Option Addr) (j : Nat) (A : Sl w.R w.W aT i j p1.Steps) (r : Bool) (H : lw N p0 p1 = some r) (hE : HF w w.W E0) : Calls Tryz.prog 7 [.agg #[iv p0.Unit, sL f p0.Tools g, sL b p0.Steps d], .agg #[iv p1.Unit, sL l p1.Tools o, sL i p1.Steps j]].toArray w.W fun e W' => e = .returned (bV r) ∧ HF w W' E0 := by
 unfold lw at H
 have leB := Bs.Le.refl w
 refine bB (n := 64) Tryz.func7 rfl rfl rfl hE (aj (jN 1 (cs := [iv p0.Unit, sL f p0.Tools g, sL b p0.Steps d]) (wn rfl) rfl rfl rfl fun q => (jN 2 (cs := [iv p1.Unit, sL l p1.Tools o, sL i p1.Steps j]) (wn rfl) rfl rfl rfl fun s => (Tr.k rfl (ae (aa (ay (aj (aU (ag yf) rfl (aP rfl (fun _ _ a c => ah bQ (a.ev rfl) (dZ c (vs := [iv p0.Unit, sL f p0.Tools g, sL b p0.Steps d]) (k := 1) rfl 0) rfl) (aU (ag yf) rfl (aP rfl (fun _ _ a c => ah bQ (a.ev rfl) (dZ c (vs := [iv p1.Unit, sL l p1.Tools o, sL i p1.Steps j]) (k := 2) rfl 0) rfl) (az kW rfl rfl (av rfl (dW 8 [(2, pV q), (3, pV s), (19, bV ((p0.Unit != p1.Unit) || ((p0.Tools.length : Int) != (p1.Tools.length : Int))))] [(1, bx q #[iv p0.Unit, sL f p0.Tools g, sL b p0.Steps d] 26), (2, bx s #[iv p1.Unit, sL l p1.Tools o, sL i p1.Steps j] 26)] ?_ ?_)))))))))))))))
 ·cases u : (p0.Unit != p1.Unit)
  ·refine cz (ag wT) rfl (Tr.x (fun _ _ a c => ah CQ (a.ev rfl) (dZ c (vs := [iv p0.Unit, sL f p0.Tools g, sL b p0.Steps d]) (k := 1) rfl 1) rfl) (cz (bi Cv) rfl (cz (ag wT) rfl (Tr.x (fun _ _ a c => ah CQ (a.ev rfl) (dZ c (vs := [iv p1.Unit, sL l p1.Tools o, sL i p1.Steps j]) (k := 2) rfl 1) rfl) (cz (bi Cv) rfl (iZ kW rfl rfl ?_))))))
   exact az bv rfl rfl (ae (bu (.r rfl) (.r rfl)))
  ·refine aS rfl (aS rfl (aS rfl (aS rfl (aS rfl (aS rfl (aS rfl ?_))))))
   exact az bC rfl rfl (ae (bu (.r rfl) (.r rfl)))
 ·show Tr _ _ (LF [(2, pV q), (3, pV s), (19, bV ((p0.Unit != p1.Unit) || ((p0.Tools.length : Int) != (p1.Tools.length : Int))))]) (LE [(1, bx q #[iv p0.Unit, sL f p0.Tools g, sL b p0.Steps d] 26), (2, bx s #[iv p1.Unit, sL l p1.Tools o, sL i p1.Steps j] 26)]) _
  refine av rfl ?_
  obtain ⟨v, t, H⟩ := bnd H
  refine dW 7 [(2, pV q), (3, pV s), (27, bV v)] [(1, bx q #[iv p0.Unit, sL f p0.Tools g, sL b p0.Steps d] 26), (2, bx s #[iv p1.Unit, sL l p1.Tools o, sL i p1.Steps j] 26)] ?_ ?_
  ·cases u : ((p0.Unit != p1.Unit) || ((p0.Tools.length : Int) != (p1.Tools.length : Int)))
   ·rw [u] at t
    rw [if_neg (by decide)] at t
    have H := t
    refine cz (ag qa) rfl (Tr.x (fun _ _ a c => ah uX (a.ev rfl) (dZ c (vs := [iv p0.Unit, sL f p0.Tools g, sL b p0.Steps d]) (k := 1) rfl 2) rfl) (cz (ag qa) rfl (Tr.x (fun _ _ a c => ah uX (a.ev rfl) (dZ c (vs := [iv p1.Unit, sL l p1.Tools o, sL i p1.Steps j]) (k := 2) rfl 2) rfl) ?_)))
    obtain ⟨y, B, H⟩ := bnd H
    refine dn (r := (bV y)) (wg rfl rfl rfl) rfl Tryz.call21 (ak rfl (ak rfl aQ)) (fun W hW => qD N p0.Steps b d (z.ext hW.dC) p1.Steps i j (A.ext hW.dC) y B (HF.start _)) (cz jP rfl (az bv rfl rfl ?_))
    obtain rfl := oI H
    exact ae (bu (.r rfl) (.r rfl))
   ·rw [u] at t
    rw [if_pos rfl] at t
    have H := t
    obtain rfl := oI H
    exact aS rfl (aS rfl (aS rfl (aS rfl (aS rfl (aS rfl (az bC rfl rfl (ae (bu (.r rfl) (.r rfl)))))))))
  ·show Tr _ _ (LF [(2, pV q), (3, pV s), (27, bV v)]) (LE [(1, bx q #[iv p0.Unit, sL f p0.Tools g, sL b p0.Steps d] 26), (2, bx s #[iv p1.Unit, sL l p1.Tools o, sL i p1.Steps j] 26)]) _
   refine ae (aa (aN rfl H (fun H => ?_) (fun H => ?_)))
   ·refine aj (Tr.k rfl (ae (aa (bg (aL ?_)))))
    obtain rfl := oI H
    exact dM leB
   ·refine aK (aa (ay (aj (Tr.k rfl (ae (aa (Tr.block (bT (σ := Unit) (fun m w _ => ko p0 m = some r) (fun _ => [(2, pV q), (3, pV s), (5, iv 0)]) (fun _ => [(1, bx q #[iv p0.Unit, sL f p0.Tools g, sL b p0.Steps d] 26), (2, bx s #[iv p1.Unit, sL l p1.Tools o, sL i p1.Steps j] 26)]) N () H (.r rfl) (.r rfl) (fun _ _ h => fU (h)) ?_))))))))
    intro w C D _ hs
    have H := hs
    replace H : ko p0 (D + 1) = some r := H
    replace leB := leB.trans C
    rw [ko.eq_2] at H
    show Tr _ _ (LF [(2, pV q), (3, pV s), (5, iv 0)]) (LE [(1, bx q #[iv p0.Unit, sL f p0.Tools g, sL b p0.Steps d] 26), (2, bx s #[iv p1.Unit, sL l p1.Tools o, sL i p1.Steps j] 26)]) _
    refine ay (aj (av rfl (aU (ag wT) rfl (aP rfl (fun _ _ a c => ah CQ (a.ev rfl) (dZ c (vs := [iv p0.Unit, sL f p0.Tools g, sL b p0.Steps d]) (k := 1) rfl 1) rfl) (aU (bi Cv) rfl (az aX rfl rfl (ae (aa (aN rfl H (fun H => ?_) (fun H => ?_))))))))))
    ·refine aK (aa (ay (Tr.block (ay ?_))))
     cases H
    ·refine bO (au (au (aM (aa (aj (Tr.k rfl (ae (aa (bg ?_)))))))))
     obtain rfl := oI H
     exact dM leB

theorem Cu {w : Bs} (p0 : Int) (p1 : Int) (p2 : Int) (r : Bool) (H : xc p0 p1 p2 = some r) (hE : HF w w.W E0) : Calls Tryz.prog 47 [iv p0, iv p1, iv p2].toArray w.W fun e W' => e = .returned (bV r) ∧ HF w W' E0 := by
 unfold xc at H
 have leB := Bs.Le.refl w
 refine bB (n := 15) Tryz.func47 rfl rfl rfl hE (aj (Tr.k rfl (ae (aa (aj (av rfl (av rfl (az tZ rfl rfl (av rfl (dW 4 [(14, bV ((decide (p1 ≤ p0)) && (decide (p0 ≤ p2))))] [] ?_ ?_))))))))))
 ·cases a : (decide (p1 ≤ p0))
  ·exact aS rfl (aS rfl (aS rfl (az bv rfl rfl (ae (bu (.r rfl) .nil)))))
  ·exact cz run_move rfl (cz run_move rfl (iZ nk rfl rfl (az bC rfl rfl (ae (bu (.r rfl) .nil)))))
 ·show Tr _ _ (LF [(14, bV ((decide (p1 ≤ p0)) && (decide (p0 ≤ p2))))]) (LE []) _
  refine Tr.k rfl (ae (aa (bg ?_)))
  obtain rfl := oI H
  exact dM leB

theorem BC (N : Nat) (rec : (List aJ) → Option Int) (hrec : ∀ {w : Bs} (p0 : (List aJ)) (b : Option Addr) (c : Nat) (i : Sl w.R w.W aT b c p0) (r : Int) (H : rec p0 = some r) (hE : HF w w.W E0), Calls Tryz.prog 49 [sL b p0 c].toArray w.W fun e W' => e = .returned (iv r) ∧ HF w W' E0) {w : Bs} (p0 : (List aJ)) (b : Option Addr) (c : Nat) (i : Sl w.R w.W aT b c p0) (r : Int) (H : vZ N rec p0 = some r) (hE : HF w w.W E0) : Calls Tryz.prog 49 [sL b p0 c].toArray w.W fun e W' => e = .returned (iv r) ∧ HF w W' E0 := by
 unfold vZ at H
 have leB := Bs.Le.refl w
 refine bB (n := 30) Tryz.func49 rfl rfl rfl hE (aj (Tr.k rfl (ae (aa (aj (Tr.k rfl (ae (aa (ay (aj (av rfl (aU (bi xn) rfl (av rfl (ae (aa (Tr.block (bT (σ := (List aJ) × Nat) (fun m w s => m = s.1.length + 1 ∧ s.1 = List.drop s.2 p0 ∧ s.2 ≤ p0.length ∧ qC s.1 s.2 = some r) (fun s => [(3, iv 0), (6, sL b p0 c), (7, iv (p0.length : Int)), (8, iv (s.2 : Int))]) (fun s => []) (p0.length + 1) (p0, 0) ⟨rfl, rfl, Nat.zero_le _, H⟩ (.r rfl) .nil (fun _ _ h => absurd h.1 (by simp)) ?_)))))))))))))))))
 intro w j m s hs
 obtain ⟨a, g⟩ := s
 obtain ⟨f, d, l, H⟩ := hs
 replace d : a = List.drop g p0 := d
 replace H : qC a g = some r := H
 replace f : m + 1 = a.length + 1 := f
 replace leB := leB.trans j
 obtain rfl : m = a.length := by omega
 clear f
 dsimp only
 cases a with
 | nil =>
  rw [qC.eq_1] at H
  refine aj (az aX rfl rfl (ae (aa (ay (jB rfl (ji d) (bO (au (au (aM (aa (aj (av rfl (Tr.k rfl (ae (aa (bg ?_))))))))))))))))
  obtain rfl := oI H
  exact dM leB
 | cons o a =>
  rw [qC.eq_2] at H
  refine aj (az aX rfl rfl (ae (aa (ay (jA rfl (jW d) (aK (aa (ay (Tr.block (ay ?_))))))))))
  cases H
theorem yB : ∀ (N : Nat) {w : Bs} (p0 : (List aJ)) (a : Option Addr) (b : Nat) (c : Sl w.R w.W aT a b p0) (r : Int) (H : vB N p0 = some r) (hE : HF w w.W E0), Calls Tryz.prog 49 [sL a p0 b].toArray w.W fun e W' => e = .returned (iv r) ∧ HF w W' E0
 | 0 => by intros; rename_i H _; cases H
 | N + 1 => BC N (vB N) (yB N)

theorem yw (N : Nat) (rec : gK → (List aJ) → Int → Option Int) (hrec : ∀ {w : Bs} (p0 : gK) (a : Option Addr) (b : Nat) (t : Sl w.R w.W eD a b p0.Tools) (c : Option Addr) (d : Nat) (u : Sl w.R w.W aT c d p0.Steps) (p1 : (List aJ)) (g : Option Addr) (i : Nat) (v : Sl w.R w.W aT g i p1) (p2 : Int) (r : Int) (H : rec p0 p1 p2 = some r) (hE : HF w w.W E0), Calls Tryz.prog 50 [.agg #[iv p0.Unit, sL a p0.Tools b, sL c p0.Steps d], sL g p1 i, iv p2].toArray w.W fun e W' => e = .returned (iv r) ∧ HF w W' E0) {w : Bs} (p0 : gK) (a : Option Addr) (b : Nat) (t : Sl w.R w.W eD a b p0.Tools) (c : Option Addr) (d : Nat) (u : Sl w.R w.W aT c d p0.Steps) (p1 : (List aJ)) (g : Option Addr) (i : Nat) (v : Sl w.R w.W aT g i p1) (p2 : Int) (r : Int) (H : rF N rec p0 p1 p2 = some r) (hE : HF w w.W E0) : Calls Tryz.prog 50 [.agg #[iv p0.Unit, sL a p0.Tools b, sL c p0.Steps d], sL g p1 i, iv p2].toArray w.W fun e W' => e = .returned (iv r) ∧ HF w W' E0 := by
 unfold rF at H
 have leB := Bs.Le.refl w
 refine bB (n := 34) Tryz.func50 rfl rfl rfl hE (aj (jN 1 (cs := [iv p0.Unit, sL a p0.Tools b, sL c p0.Steps d]) (wn rfl) rfl rfl rfl fun j => (Tr.k rfl (ae (aa (ay (aj (av rfl (aU (bi xn) rfl (av rfl (ae (aa (Tr.block (bT (σ := (List aJ) × Nat) (fun m w s => m = s.1.length + 1 ∧ s.1 = List.drop s.2 p1 ∧ s.2 ≤ p1.length ∧ ng s.1 s.2 = some r) (fun s => [(2, iv p2), (3, pV j), (11, sL g p1 i), (12, iv (p1.length : Int)), (13, iv (s.2 : Int))]) (fun s => [(1, bx j #[iv p0.Unit, sL a p0.Tools b, sL c p0.Steps d] 26)]) (p1.length + 1) (p1, 0) ⟨rfl, rfl, Nat.zero_le _, H⟩ (.r rfl) (.r rfl) (fun _ _ h => absurd h.1 (by simp)) ?_))))))))))))))
 intro w y m s hs
 obtain ⟨f, q⟩ := s
 obtain ⟨o, l, z, H⟩ := hs
 replace l : f = List.drop q p1 := l
 replace H : ng f q = some r := H
 replace o : m + 1 = f.length + 1 := o
 replace leB := leB.trans y
 obtain rfl : m = f.length := by omega
 clear o
 dsimp only
 cases f with
 | nil =>
  rw [ng.eq_1] at H
  refine aj (az aX rfl rfl (ae (aa (ay (jB rfl (ji l) (bO (au (au (aM (aa (aj (Tr.k rfl (ae (aa (bg ?_)))))))))))))))
  obtain rfl := oI H
  exact dM leB
 | cons A f =>
  rw [ng.eq_2] at H
  refine aj (az aX rfl rfl (ae (aa (ay (jA rfl (jW l) (aK (aa (ay (Tr.block (ay ?_))))))))))
  cases H
theorem uB : ∀ (N : Nat) {w : Bs} (p0 : gK) (a : Option Addr) (b : Nat) (h : Sl w.R w.W eD a b p0.Tools) (c : Option Addr) (d : Nat) (i : Sl w.R w.W aT c d p0.Steps) (p1 : (List aJ)) (f : Option Addr) (g : Nat) (j : Sl w.R w.W aT f g p1) (p2 : Int) (r : Int) (H : qL N p0 p1 p2 = some r) (hE : HF w w.W E0), Calls Tryz.prog 50 [.agg #[iv p0.Unit, sL a p0.Tools b, sL c p0.Steps d], sL f p1 g, iv p2].toArray w.W fun e W' => e = .returned (iv r) ∧ HF w W' E0
 | 0 => by intros; rename_i H _; cases H
 | N + 1 => yw N (qL N) (uB N)

theorem zW (N : Nat) {w : Bs} (p0 : gK) (b : Option Addr) (d : Nat) (l : Sl w.R w.W eD b d p0.Tools) (f : Option Addr) (g : Nat) (j : Sl w.R w.W aT f g p0.Steps) (r : Int) (H : rz N p0 = some r) (hE : HF w w.W E0) : Calls Tryz.prog 26 [.agg #[iv p0.Unit, sL b p0.Tools d, sL f p0.Steps g]].toArray w.W fun e W' => e = .returned (iv r) ∧ HF w W' E0 := by
 unfold rz at H
 have leB := Bs.Le.refl w
 refine bB (n := 52) Tryz.func26 rfl rfl rfl hE (aj (jN 1 (cs := [iv p0.Unit, sL b p0.Tools d, sL f p0.Steps g]) (wn rfl) rfl rfl rfl fun o => (Tr.k rfl (ae (aa (ay (aj (aU (ag yf) rfl (aP rfl (fun _ _ a c => ah bQ (a.ev rfl) (dZ c (vs := [iv p0.Unit, sL b p0.Tools d, sL f p0.Steps g]) (k := 1) rfl 0) rfl) ?_)))))))))
 obtain ⟨v, B, H⟩ := bnd H
 refine dn (r := (bV v)) (wn rfl) rfl Tryz.call47 (ak rfl (ak rfl (ak rfl aQ))) (fun W hW => Cu p0.Unit 1 1000 v B (HF.start _)) (aU jP rfl (ae (aa (aN rfl H (fun H => ?_) (fun H => ?_)))))
 ·refine aj (Tr.k rfl (ae (aa (bg (aL ?_)))))
  obtain rfl := oI H
  exact dM leB
 ·refine aK (aa (ay (aj (aU (ag wT) rfl (aP rfl (fun _ _ a c => ah CQ (a.ev rfl) (dZ c (vs := [iv p0.Unit, sL b p0.Tools d, sL f p0.Steps g]) (k := 1) rfl 1) rfl) (aU (bi Cv) rfl (az kX rfl rfl (ae (aa (aN rfl H (fun H => ?_) (fun H => ?_)))))))))))
  ·refine aj (Tr.k rfl (ae (aa (bg (aL ?_)))))
   obtain rfl := oI H
   exact dM leB
  ·refine aK (aa (ay (aj (aU (ag wT) rfl (aP rfl (fun _ _ a c => ah CQ (a.ev rfl) (dZ c (vs := [iv p0.Unit, sL b p0.Tools d, sL f p0.Steps g]) (k := 1) rfl 1) rfl) (aU (bi Cv) rfl (av rfl (ae (aa (Tr.block (bT (σ := (List vJ) × Nat) (fun m w s => m = s.1.length + 1 ∧ s.1 = List.drop s.2 p0.Tools ∧ s.2 ≤ p0.Tools.length ∧ nL N p0 s.1 s.2 = some r) (fun s => [(1, pV o), (15, sL b p0.Tools d), (16, iv (p0.Tools.length : Int)), (17, iv (s.2 : Int))]) (fun s => [(1, bx o #[iv p0.Unit, sL b p0.Tools d, sL f p0.Steps g] 26)]) (p0.Tools.length + 1) (p0.Tools, 0) ⟨rfl, rfl, Nat.zero_le _, H⟩ (.r rfl) (.r rfl) (fun _ _ h => absurd h.1 (by simp)) ?_)))))))))))
   intro w t m s hs
   obtain ⟨i, y⟩ := s
   obtain ⟨u, q, E, H⟩ := hs
   replace q : i = List.drop y p0.Tools := q
   replace H : nL N p0 i y = some r := H
   replace u : m + 1 = i.length + 1 := u
   replace l := l.qG t
   replace j := j.qG t
   replace leB := leB.trans t
   obtain rfl : m = i.length := by omega
   clear u
   dsimp only
   cases i with
   | nil =>
    rw [nL.eq_1] at H
    refine aj (az aX rfl rfl (ae (aa (ay (jB rfl (ji q) (bO (au (au (aM (aa (ay (aj (aU (ag qa) rfl (aP rfl (fun _ _ a c => ah uX (a.ev rfl) (dZ c (vs := [iv p0.Unit, sL b p0.Tools d, sL f p0.Steps g]) (k := 1) rfl 2) rfl) ?_))))))))))))))
    obtain ⟨z, C, H⟩ := bnd H
    refine dn (r := (iv z)) (wn rfl) rfl Tryz.call49 (ak rfl aQ) (fun W hW => yB N p0.Steps f g (j.ext hW.dC) z C (HF.start _)) (az kX rfl rfl (ae (aa (aN rfl H (fun H => ?_) (fun H => ?_)))))
    ·refine aj (Tr.k rfl (ae (aa (bg (aL ?_)))))
     obtain rfl := oI H
     exact dM leB
    ·refine aK (aa (aj (aP rfl (fun _ _ a c => aO (cs := [iv p0.Unit, sL b p0.Tools d, sL f p0.Steps g]) tu pE (a.ev rfl) (aC.take (dZ c (vs := [iv p0.Unit, sL b p0.Tools d, sL f p0.Steps g]) (k := 1) rfl 0) 3) rfl) (aU (ag qa) rfl (aP rfl (fun _ _ a c => ah uX (a.ev rfl) (dZ c (vs := [iv p0.Unit, sL b p0.Tools d, sL f p0.Steps g]) (k := 1) rfl 2) rfl) ?_)))))
     obtain ⟨A, D, H⟩ := bnd H
     refine dn (r := (iv A)) (wn rfl) rfl Tryz.call50 (ak rfl (ak rfl (ak rfl aQ))) (fun W hW => uB N p0 b d (l.ext hW.dC) f g (j.ext hW.dC) p0.Steps f g (j.ext hW.dC) 0 A D (HF.start _)) (Tr.k rfl (ae (aa (bg ?_))))
     obtain rfl := oI H
     exact dM leB
   | cons F i =>
    rw [nL.eq_2] at H
    refine aj (az aX rfl rfl (ae (aa (ay (jA rfl (jW q) (aK (aa (ay (Tr.block (ay ?_))))))))))
    cases H

theorem Bz {w : Bs} (p0 : Int) (r : ByteArray) (H : Eu p0 = some r) (hE : HF w w.W E0) : Calls Tryz.prog 41 [iv p0].toArray w.W fun e W' => e = .returned (sv r) ∧ HF w W' E0 :=
 Ke (ρ := Tryz.Ev) Tryz.Rb H hE

end Go.Proofs.YtcjeebkoafonpaaGreatDoor
namespace Go.Proofs
open Go.Shelf
def Tryz.Cm : Go.Shelf.Ren := ⟨fun | 166 => 40 | 240 => 91 | 276 => 130 | n => n, fun | 5 => 5 | 37 => 78 | 70 => 77 | 72 => 80 | 75 => 82 | 80 => 89 | 164 => 180 | n => n, fun n => n⟩
theorem Tryz.Sy : Go.Proofs.Lays.n166 Tryz.prog Tryz.Cm := {
 mixed := by kernel_rfl
 f166 := Tryz.func40.trans (congrArg some (by kernel_rfl))
 f240 := Tryz.func91.trans (congrArg some (by kernel_rfl))
 f276 := Tryz.func130.trans (congrArg some (by kernel_rfl))
 t0 := Tryz.underlying0
 a0 := Tryz.isAgg0
 z0 := Tryz.sizeOf0
 v0 := Tryz.zeroValue0
 t3 := Tryz.underlying3
 a3 := Tryz.isAgg3
 z3 := Tryz.sizeOf3
 v3 := Tryz.zeroValue3
 t4 := Tryz.underlying4
 a4 := Tryz.isAgg4
 z4 := Tryz.sizeOf4
 v4 := Tryz.zeroValue4
 t9 := Tryz.underlying9
 a9 := Tryz.isAgg9
 z9 := Tryz.sizeOf9
 v9 := Tryz.zeroValue9
 t20 := Tryz.underlying20
 a20 := Tryz.isAgg20
 z20 := Tryz.sizeOf20
 v20 := Tryz.zeroValue20
 t37 := Tryz.underlying78
 a37 := Tryz.isAgg78
 z37 := Tryz.sizeOf78
 v37 := Tryz.zeroValue78
 t70 := Tryz.underlying77
 a70 := Tryz.isAgg77
 z70 := Tryz.sizeOf77
 v70 := Tryz.zeroValue77
 t72 := Tryz.underlying80
 a72 := Tryz.isAgg80
 z72 := Tryz.sizeOf80
 v72 := Tryz.zeroValue80
 t75 := Tryz.underlying82
 a75 := Tryz.isAgg82
 z75 := Tryz.sizeOf82
 v75 := Tryz.zeroValue82
 t164 := Tryz.underlying180
 a164 := Tryz.isAgg180
 z164 := Tryz.sizeOf180
 v164 := Tryz.zeroValue180
}
end Go.Proofs
namespace Go.Proofs.YtcjeebkoafonpaaGreatDoor
open Go.RowKit
theorem Ug : Builder.Extra Tryz.prog Tryz.Cm where
 sizeBuilder := by kernel_rfl
 liesBuilder := by kernel_rfl
 t5 := Tryz.underlying5
 a5 := Tryz.isAgg5
 z5 := Tryz.sizeOf5
 v5 := Tryz.zeroValue5
 infoByte := by kernel_rfl
 cellsByte := by kernel_rfl
 sizeByte := by kernel_rfl
 neB5 := by decide
theorem sS {w : Bs} (p0 : ByteArray) (b : Option Addr) (c : Nat) (a : Nat) (p1 : ByteArray) (r : ByteArray) (H : SG p0 p1 = some r) (hE : HF w w.W (kw [sb 80 5 a b c p0])) : Calls Tryz.prog 40 [pV a, .string p1].toArray w.W fun e W' => ∃ u : (Option Addr × Nat), e = .returned (.tuple #[.int .i64 p1.size, .nilIface]) ∧ (True) ∧ HF w W' (kw [sb 80 5 a u.1 u.2 r]) :=
 Nt (ρ := Tryz.Cm) Tryz.Sy Ug H hE

theorem yu (N : Nat) (rec : ByteArray → (List aJ) → Option ByteArray) (hrec : ∀ {w : Bs} (p0 : ByteArray) (f : Option Addr) (g : Nat) (d : Nat) (p1 : (List aJ)) (b : Option Addr) (c : Nat) (o : Sl w.R w.W aT b c p1) (r : ByteArray) (H : rec p0 p1 = some r) (hE : HF w w.W (kw [sb 80 5 d f g p0])), Calls Tryz.prog 43 [pV d, sL b p1 c].toArray w.W fun e W' => ∃ u : (Option Addr × Nat), e = .returned (.tuple #[]) ∧ (True) ∧ HF w W' (kw [sb 80 5 d u.1 u.2 r])) {w : Bs} (p0 : ByteArray) (f : Option Addr) (g : Nat) (d : Nat) (p1 : (List aJ)) (b : Option Addr) (c : Nat) (o : Sl w.R w.W aT b c p1) (r : ByteArray) (H : rE N rec p0 p1 = some r) (hE : HF w w.W (kw [sb 80 5 d f g p0])) : Calls Tryz.prog 43 [pV d, sL b p1 c].toArray w.W fun e W' => ∃ u : (Option Addr × Nat), e = .returned (.tuple #[]) ∧ (True) ∧ HF w W' (kw [sb 80 5 d u.1 u.2 r]) := by
 unfold rE at H
 have leB := Bs.Le.refl w
 refine bB (n := 91) Tryz.func43 rfl rfl rfl hE (aj (av rfl (aU (bi xn) rfl (av rfl (ae (aa (Tr.block (bT (σ := (List aJ) × Nat) (fun m w s => m = s.1.length + 1 ∧ s.1 = List.drop s.2 p1 ∧ s.2 ≤ p1.length ∧ mZ p0 s.1 s.2 = some r) (fun s => [(0, pV d), (6, sL b p1 c), (7, iv (p1.length : Int)), (8, iv (s.2 : Int))]) (fun s => [(0, sb 80 5 d f g p0)]) (p1.length + 1) (p1, 0) ⟨rfl, rfl, Nat.zero_le _, H⟩ (.r rfl) (.r rfl) (fun _ _ h => absurd h.1 (by simp)) ?_))))))))
 intro w q m s hs
 obtain ⟨a, l⟩ := s
 obtain ⟨j, i, t, H⟩ := hs
 replace i : a = List.drop l p1 := i
 replace H : mZ p0 a l = some r := H
 replace j : m + 1 = a.length + 1 := j
 replace leB := leB.trans q
 obtain rfl : m = a.length := by omega
 clear j
 dsimp only
 cases a with
 | nil =>
  rw [mZ.eq_1] at H
  refine aj (az aX rfl rfl (ae (aa (ay (jB rfl (ji i) (bO (au (au (aM (qH ?_))))))))))
  obtain rfl := oI H
  exact Tr.out (m := []) [] dR (fun W hW => ⟨(f, g), rfl, trivial, HF.xZ leB (hW.pick (ks := [0]) (by decide) (bA rfl bK)) ⟨QR, trivial⟩⟩)
 | cons v a =>
  rw [mZ.eq_2] at H
  refine aj (az aX rfl rfl (ae (aa (ay (jA rfl (jW i) (aK (aa (ay (Tr.block (ay ?_))))))))))
  cases H
theorem uA : ∀ (N : Nat) {w : Bs} (p0 : ByteArray) (d : Option Addr) (f : Nat) (c : Nat) (p1 : (List aJ)) (a : Option Addr) (b : Nat) (g : Sl w.R w.W aT a b p1) (r : ByteArray) (H : qK N p0 p1 = some r) (hE : HF w w.W (kw [sb 80 5 c d f p0])), Calls Tryz.prog 43 [pV c, sL a p1 b].toArray w.W fun e W' => ∃ u : (Option Addr × Nat), e = .returned (.tuple #[]) ∧ (True) ∧ HF w W' (kw [sb 80 5 c u.1 u.2 r])
 | 0 => by intros; rename_i H _; cases H
 | N + 1 => yu N (qK N) (uA N)

theorem wZ {w : Bs} (p0 : ByteArray) (b : Option Addr) (c : Nat) (a : Nat) (r : (Int × ByteArray)) (H : Tx p0 = some r) (hE : HF w w.W (kw [sb 80 5 a b c p0])) : Calls Tryz.prog 44 [pV a].toArray w.W fun e W' => ∃ u : (Option Addr × Nat), e = .returned (iv r.1) ∧ (True) ∧ HF w W' (kw [sb 80 5 a u.1 u.2 r.2]) :=
 QQ (ρ := Tryz.Gm) Tryz.Sw H hE

end Go.Proofs.YtcjeebkoafonpaaGreatDoor
namespace Go.Proofs
open Go.Shelf
def Tryz.Ck : Go.Shelf.Ren := ⟨fun | 169 => 45 | n => n, fun | 5 => 5 | 37 => 78 | 70 => 77 | 72 => 80 | 127 => 146 | n => n, fun n => n⟩
theorem Tryz.Sv : Go.Proofs.Lays.n169 Tryz.prog Tryz.Ck := {
 mixed := by kernel_rfl
 f169 := Tryz.func45.trans (congrArg some (by kernel_rfl))
 t0 := Tryz.underlying0
 a0 := Tryz.isAgg0
 z0 := Tryz.sizeOf0
 v0 := Tryz.zeroValue0
 t3 := Tryz.underlying3
 a3 := Tryz.isAgg3
 z3 := Tryz.sizeOf3
 v3 := Tryz.zeroValue3
 t9 := Tryz.underlying9
 a9 := Tryz.isAgg9
 z9 := Tryz.sizeOf9
 v9 := Tryz.zeroValue9
 t37 := Tryz.underlying78
 a37 := Tryz.isAgg78
 z37 := Tryz.sizeOf78
 v37 := Tryz.zeroValue78
 t70 := Tryz.underlying77
 a70 := Tryz.isAgg77
 z70 := Tryz.sizeOf77
 v70 := Tryz.zeroValue77
 t72 := Tryz.underlying80
 a72 := Tryz.isAgg80
 z72 := Tryz.sizeOf80
 v72 := Tryz.zeroValue80
 t127 := Tryz.underlying146
 a127 := Tryz.isAgg146
 z127 := Tryz.sizeOf146
 v127 := Tryz.zeroValue146
}
end Go.Proofs
namespace Go.Proofs.YtcjeebkoafonpaaGreatDoor
open Go.RowKit
theorem Uf : Builder.Extra Tryz.prog Tryz.Ck where
 sizeBuilder := by kernel_rfl
 liesBuilder := by kernel_rfl
 t5 := Tryz.underlying5
 a5 := Tryz.isAgg5
 z5 := Tryz.sizeOf5
 v5 := Tryz.zeroValue5
 infoByte := by kernel_rfl
 cellsByte := by kernel_rfl
 sizeByte := by kernel_rfl
 neB5 := by decide
theorem vw {w : Bs} (p0 : ByteArray) (b : Option Addr) (c : Nat) (a : Nat) (r : (ByteArray × ByteArray)) (H : SH p0 = some r) (hE : HF w w.W (kw [sb 80 5 a b c p0])) : Calls Tryz.prog 45 [pV a].toArray w.W fun e W' => ∃ u : (Option Addr × Nat), e = .returned (sv r.1) ∧ (True) ∧ HF w W' (kw [sb 80 5 a u.1 u.2 r.2]) :=
 Mv (ρ := Tryz.Ck) Tryz.Sv Uf H hE

theorem EZ (N : Nat) {w : Bs} (p0 : gK) (d : Option Addr) (f : Nat) (X : Sl w.R w.W eD d f p0.Tools) (g : Option Addr) (i : Nat) (C : Sl w.R w.W aT g i p0.Steps) (r : (ByteArray × Int)) (H : uC N p0 = some r) (hE : HF w w.W E0) : Calls Tryz.prog 23 [.agg #[iv p0.Unit, sL d p0.Tools f, sL g p0.Steps i]].toArray w.W fun e W' => e = .returned (.tuple #[sv r.1, iv r.2]) ∧ HF w W' E0 := by
 unfold uC at H
 have leB := Bs.Le.refl w
 refine bB (n := 61) Tryz.func23 rfl rfl rfl hE (aj (jN 1 (cs := [iv p0.Unit, sL d p0.Tools f, sL g p0.Steps i]) (wn rfl) rfl rfl rfl fun E => (Tr.k rfl (Tr.k rfl (ae (aa (ay (aj (aP rfl (fun _ _ a c => aO (cs := [iv p0.Unit, sL d p0.Tools f, sL g p0.Steps i]) tu pE (a.ev rfl) (aC.take (dZ c (vs := [iv p0.Unit, sL d p0.Tools f, sL g p0.Steps i]) (k := 1) rfl 0) 3) rfl) ?_)))))))))
 obtain ⟨G, Z, H⟩ := bnd H
 refine dn (r := (iv G)) (wn rfl) rfl Tryz.call26 (ak rfl aQ) (fun W hW => zW N p0 d f (X.ext hW.dC) g i (C.ext hW.dC) G Z (HF.start _)) (Tr.k rfl (ae (aa (aj (av rfl (az kW rfl rfl (ae (aa (aN rfl H (fun H => ?_) (fun H => ?_))))))))))
 ·refine aj (av rfl (Tr.k rfl (Tr.k rfl (ae (aa (bg (aL ?_)))))))
  obtain rfl := oI H
  exact Tr.out (m := [sv ByteArray.empty, iv G]) [] (eU rfl (eU rfl dR)) (fun W hW => ⟨rfl, hW.low leB⟩)
 ·refine aK (aa (aj (Oy (e := 5) 2 (wn rfl) rfl RJ fun b => (ae (aa (aj (aU (ag yf) rfl (aP rfl (fun _ _ a c => ah bQ (a.ev rfl) (dZ c (vs := [iv p0.Unit, sL d p0.Tools f, sL g p0.Steps i]) (k := 1) rfl 0) rfl) ?_))))))))
  obtain ⟨S, a0, H⟩ := bnd H
  refine dn (r := (sv S)) (wn rfl) rfl Tryz.call41 (ak rfl aQ) (fun W hW => Bz p0.Unit S a0 (HF.start _)) ?_
  obtain ⟨b1, a1, H⟩ := bnd H
  refine aP rfl (fun _ _ a c => Io (a.ev rfl) (a.ev rfl) a1) ?_
  obtain ⟨I, a2, H⟩ := bnd H
  refine aP rfl (fun _ _ a c => Io (a.ev rfl) (a.ev rfl) a2) ?_
  obtain ⟨q, a3, H⟩ := bnd H
  refine jX [2] [sb 80 5 b none 0 ByteArray.empty] (U := (Option Addr × Nat)) (fun u => (.tuple #[iv ((I : ByteArray).size : Int), .nilIface])) (fun u => True) (fun u => [sb 80 5 b u.1 u.2 q]) rfl (bA rfl bK) (fun _ => rfl) (wn rfl) rfl Tryz.call40 (ak rfl (ak rfl aQ)) (fun W hW hp hE => sS ByteArray.empty none 0 b I q a3 hE) ?_
  intro u hu
  obtain ⟨j, l⟩ := u
  have K := hu
  have a7 : True := K --@phi
  dsimp only
  refine ae (aa (ay (aj (aU (ag wT) rfl (aP rfl (fun _ _ a c => ah CQ (a.ev rfl) (dZ c (vs := [iv p0.Unit, sL d p0.Tools f, sL g p0.Steps i]) (k := 1) rfl 1) rfl) (aU (bi Cv) rfl (av rfl (ae (aa (Tr.block (bT (σ := (List vJ) × Nat) (fun m w s => m = s.1.length + 1 ∧ s.1 = List.drop s.2 p0.Tools ∧ s.2 ≤ p0.Tools.length ∧ qZ N p0 q s.1 s.2 = some r) (fun s => [(1, pV E), (5, pV b), (22, sL d p0.Tools f), (23, iv (p0.Tools.length : Int)), (24, iv (s.2 : Int))]) (fun s => [(1, bx E #[iv p0.Unit, sL d p0.Tools f, sL g p0.Steps i] 26), (2, sb 80 5 b j l q)]) (p0.Tools.length + 1) (p0.Tools, 0) ⟨rfl, rfl, Nat.zero_le _, H⟩ (.r rfl) (.r rfl) (fun _ _ h => absurd h.1 (by simp)) ?_)))))))))))
  intro w T m s hs
  obtain ⟨o, V⟩ := s
  obtain ⟨J, F, b2, H⟩ := hs
  replace F : o = List.drop V p0.Tools := F
  replace H : qZ N p0 q o V = some r := H
  replace J : m + 1 = o.length + 1 := J
  replace C := C.qG T
  replace leB := leB.trans T
  obtain rfl : m = o.length := by omega
  clear J
  dsimp only
  cases o with
  | nil =>
   rw [qZ.eq_1] at H
   refine aj (az aX rfl rfl (ae (aa (ay (jB rfl (ji F) (bO (au (au (aM (aa (aj (aU (ag qa) rfl (aP rfl (fun _ _ a c => ah uX (a.ev rfl) (dZ c (vs := [iv p0.Unit, sL d p0.Tools f, sL g p0.Steps i]) (k := 1) rfl 2) rfl) ?_)))))))))))))
   obtain ⟨D, a4, H⟩ := bnd H
   refine jX [2] [sb 80 5 b j l q] (U := (Option Addr × Nat)) (fun u => (.tuple #[])) (fun u => True) (fun u => [sb 80 5 b u.1 u.2 D]) rfl (bA rfl bK) (fun _ => rfl) (wn rfl) rfl Tryz.call43 (ak rfl (ak rfl aQ)) (fun W hW hp hE => uA N q j l b p0.Steps g i (C.ext (hW.mQ hp)) D a4 hE) ?_
   intro u hu
   obtain ⟨v, y⟩ := u
   have L := hu
   have a8 : True := L --@phi
   dsimp only
   refine ae (aa (ay (aj ?_)))
   obtain ⟨t, a5, H⟩ := bnd H
   refine jX [2] [sb 80 5 b v y D] (U := (Option Addr × Nat)) (fun u => (iv t.1)) (fun u => True) (fun u => [sb 80 5 b u.1 u.2 t.2]) rfl (bA rfl bK) (fun _ => rfl) (wn rfl) rfl Tryz.call44 (ak rfl aQ) (fun W hW hp hE => wZ D v y b t a5 hE) ?_
   intro u hu
   obtain ⟨z, A⟩ := u
   have M := hu
   have a9 : True := M --@phi
   dsimp only
   refine az kX rfl rfl (ae (aa (aN rfl H (fun H => ?_) (fun H => ?_))))
   ·refine aj (Tr.k rfl (Tr.k rfl (ae (aa (bg (aL ?_))))))
    obtain rfl := oI H
    exact Tr.out (m := [sv ByteArray.empty, iv 2]) [] (eU rfl (eU rfl dR)) (fun W hW => ⟨rfl, hW.low leB⟩)
   ·refine aK (aa (aj ?_))
    obtain ⟨B, a6, H⟩ := bnd H
    refine jX [2] [sb 80 5 b z A t.2] (U := (Option Addr × Nat)) (fun u => (sv B.1)) (fun u => True) (fun u => [sb 80 5 b u.1 u.2 B.2]) rfl (bA rfl bK) (fun _ => rfl) (wn rfl) rfl Tryz.call45 (ak rfl aQ) (fun W hW hp hE => vw t.2 z A b B a6 hE) ?_
    intro u hu
    obtain ⟨O, P⟩ := u
    have Q := hu
    have b0 : True := Q --@phi
    dsimp only
    refine Tr.k rfl (Tr.k rfl (ae (aa (bg ?_))))
    obtain rfl := oI H
    exact Tr.out (m := [sv B.1, iv 0]) [] (eU rfl (eU rfl dR)) (fun W hW => ⟨rfl, hW.low leB⟩)
  | cons b3 o =>
   rw [qZ.eq_2] at H
   refine aj (az aX rfl rfl (ae (aa (ay (jA rfl (jW F) (aK (aa (ay (Tr.block (ay ?_))))))))))
   cases H

theorem xh (N : Nat) {w : Bs}  (r : Bool) (H : mK N = some r) (hE : HF w w.W E0) : Calls Tryz.prog 8 [].toArray w.W fun e W' => e = .returned (bV r) ∧ HF w W' E0 := by
 unfold mK at H
 have leB := Bs.Le.refl w
 refine bB (n := 14) Tryz.func8 rfl rfl rfl hE (aj (Tr.k rfl (ae (aa (aj (ja (vs := [(0, iv 7)]) (cs := [iv 7, .slice none 0 0, .slice none 0 0]) (wn rfl) rfl (bD rfl dL) (by kernel_rfl) ?_))))))
 obtain ⟨b, d, H⟩ := bnd H
 refine dn (r := (.tuple #[sv b.1, iv b.2])) (wn rfl) rfl Tryz.call23 (ak rfl aQ) (fun W hW => EZ N (gK.mk 7 [] []) none 0 (Sl.nil _ _ _) none 0 (Sl.nil _ _ _) b d (HF.start _)) (av rfl (aP rfl (fun _ _ a c => kY (a.ev rfl) rfl) (aP rfl (fun _ _ a c => kY (a.ev rfl) rfl) (Tr.k rfl (Tr.k rfl (ae (aa (aj (av rfl (az iW rfl rfl (av rfl (dW 3 [(13, bV ((b.2 == 0) && (yL b.1 (⟨#[117, 110, 105, 116, 32, 55, 10]⟩))))] [] ?_ ?_))))))))))))
 ·cases f : (b.2 == 0)
  ·exact aS rfl (aS rfl (az bv rfl rfl (ae (bu (.r rfl) .nil))))
  ·exact cz run_move rfl (iZ Im rfl rfl (az bC rfl rfl (ae (bu (.r rfl) .nil))))
 ·show Tr _ _ (LF [(13, bV ((b.2 == 0) && (yL b.1 (⟨#[117, 110, 105, 116, 32, 55, 10]⟩))))]) (LE []) _
  refine Tr.k rfl (ae (aa (bg ?_)))
  obtain rfl := oI H
  exact dM leB

theorem rO (N : Nat) {w : Bs} (p0 : (List aI)) (v : Option Addr) (y : Nat) (z : Sl w.R w.W bz v y p0) (r : Bool) (H : je N p0 = some r) (hE : HF w w.W E0) : Calls Tryz.prog 3 [sL v p0 y].toArray w.W fun e W' => e = .returned (bV r) ∧ HF w W' E0 := by
 unfold je at H
 have leB := Bs.Le.refl w
 refine bB (n := 28) Tryz.func3 rfl rfl rfl hE (aj (Tr.k rfl (ae (aa (aj (av rfl ?_))))))
 obtain ⟨b, P, H⟩ := bnd H
 refine jl [1, 2] [emp, emp] (U := (Option Addr × Nat) × (Option Addr × Nat)) (fun u => (.tuple #[.agg #[iv b.1.Unit, sL u.1.1 b.1.Tools u.1.2, sL u.2.1 b.1.Steps u.2.2], iv b.2])) (fun O W u => fC u.1.1 b.1.Tools.length u.1.2 ∧ fC u.2.1 b.1.Steps.length u.2.2) (fun u => [ow u.1.1 u.1.2 58 eD b.1.Tools, ow u.2.1 u.2.2 53 aT b.1.Steps]) rfl (bA rfl (bA rfl bK)) (fun _ => rfl) (wn rfl) rfl Tryz.call5 (ak rfl aQ) (fun W hW hp hE => Hz N p0 v y (z.ext (hW.mQ hp)) b P hE) ?_
 intro w u F hu
 obtain ⟨⟨f, g⟩, ⟨h, i⟩⟩ := u
 obtain ⟨G, I⟩ := hu
 replace z := z.qG F
 replace leB := leB.trans F
 have X : fC f b.1.Tools.length g := G --@phi
 have Z : fC h b.1.Steps.length i := I --@phi
 dsimp only
 refine av rfl (aP rfl (fun _ _ a c => kY (a.ev rfl) rfl) (aP rfl (fun _ _ a c => kY (a.ev rfl) rfl) (Tr.alloc 3 (wn rfl) rfl Dz fun A => (dm 3 (cs := [iv b.1.Unit, sL f b.1.Tools g, sL h b.1.Steps i]) [iv b.1.Unit, sL f b.1.Tools g, sL h b.1.Steps i] (wn rfl) rfl rfl rfl rfl pE rfl rfl rfl (Tr.k rfl (ae (aa (aj (av rfl ?_)))))))))
 obtain ⟨d, Q, H⟩ := bnd H
 refine jl [] [] (U := (Option Addr × Nat) × (Option Addr × Nat)) (fun u => (.tuple #[.agg #[iv d.1.Unit, sL u.1.1 d.1.Tools u.1.2, sL u.2.1 d.1.Steps u.2.2], iv d.2])) (fun O W u => Sl O W eD u.1.1 u.1.2 d.1.Tools ∧ Sl O W aT u.2.1 u.2.2 d.1.Steps) (fun u => []) rfl bK (fun _ => rfl) (wn rfl) rfl Tryz.call6 (ak rfl aQ) (fun W hW hp hE => yK N p0 v y (z.ext (hW.mQ hp)) d Q hE) ?_
 intro w u S hu
 obtain ⟨⟨j, l⟩, ⟨o, q⟩⟩ := u
 obtain ⟨J, K⟩ := hu
 replace leB := leB.trans S
 have D : Sl w.O w.W eD j l d.1.Tools := J --@phi
 have E : Sl w.O w.W aT o q d.1.Steps := K --@phi
 dsimp only
 refine av rfl (aP rfl (fun _ _ a c => kY (a.ev rfl) rfl) (aP rfl (fun _ _ a c => kY (a.ev rfl) rfl) (Tr.alloc 4 (wn rfl) rfl Dz fun B => (dm 4 (cs := [iv d.1.Unit, sL j d.1.Tools l, sL o d.1.Steps q]) [iv d.1.Unit, sL j d.1.Tools l, sL o d.1.Steps q] (wn rfl) rfl rfl rfl rfl pE rfl rfl rfl (Tr.k rfl (ae (aa (aj (aP rfl (fun _ _ a c => aO (cs := [iv b.1.Unit, sL f b.1.Tools g, sL h b.1.Steps i]) tu pE (a.ev rfl) (aC.take (dZ c (vs := [iv b.1.Unit, sL f b.1.Tools g, sL h b.1.Steps i]) (k := 3) rfl 0) 3) rfl) (aP rfl (fun _ _ a c => aO (cs := [iv d.1.Unit, sL j d.1.Tools l, sL o d.1.Steps q]) tu pE (a.ev rfl) (aC.take (dZ c (vs := [iv d.1.Unit, sL j d.1.Tools l, sL o d.1.Steps q]) (k := 4) rfl 0) 3) rfl) ?_))))))))))
 obtain ⟨t, T, H⟩ := bnd H
 refine dn (r := (bV t)) (wn rfl) rfl Tryz.call7 (ak rfl (ak rfl aQ)) (fun W hW => vC N b.1 f g (hW.sF (k := 1) rfl) h i (hW.sF (k := 2) rfl) d.1 j l (D.rl.ext hW.dC) o q (E.rl.ext hW.dC) t T (HF.start _)) (av rfl (dW 4 [(24, bV (t && (b.2 == d.2)))] [(1, ow f g 58 eD b.1.Tools), (2, ow h i 53 aT b.1.Steps), (3, bx A #[iv b.1.Unit, sL f b.1.Tools g, sL h b.1.Steps i] 26), (4, bx B #[iv d.1.Unit, sL j d.1.Tools l, sL o d.1.Steps q] 26)] ?_ ?_))
 ·cases C : t
  ·exact aS rfl (aS rfl (aS rfl (az bv rfl rfl (ae (bu (.r rfl) (.r rfl))))))
  ·exact cz run_move rfl (cz run_move rfl (iZ iW rfl rfl (az bC rfl rfl (ae (bu (.r rfl) (.r rfl))))))
 ·show Tr _ _ (LF [(24, bV (t && (b.2 == d.2)))]) (LE [(1, ow f g 58 eD b.1.Tools), (2, ow h i 53 aT b.1.Steps), (3, bx A #[iv b.1.Unit, sL f b.1.Tools g, sL h b.1.Steps i] 26), (4, bx B #[iv d.1.Unit, sL j d.1.Tools l, sL o d.1.Steps q] 26)]) _
  refine av rfl ?_
  obtain ⟨L, s, H⟩ := bnd H
  refine dW 2 [(27, bV L)] [(1, ow f g 58 eD b.1.Tools), (2, ow h i 53 aT b.1.Steps), (3, bx A #[iv b.1.Unit, sL f b.1.Tools g, sL h b.1.Steps i] 26), (4, bx B #[iv d.1.Unit, sL j d.1.Tools l, sL o d.1.Steps q] 26)] ?_ ?_
  ·cases C : (t && (b.2 == d.2))
   ·rw [C] at s
    rw [if_neg (by decide)] at s
    have H := s
    obtain rfl := oI H
    exact aS rfl (az bv rfl rfl (ae (bu (.r rfl) (.r rfl))))
   ·rw [C] at s
    rw [if_pos rfl] at s
    have H := s
    obtain ⟨M, V, H⟩ := bnd H
    refine dn (r := (bV M)) (wg rfl rfl rfl) rfl Tryz.call8 aQ (fun W hW => xh N M V (HF.start _)) (az bC rfl rfl ?_)
    obtain rfl := oI H
    exact ae (bu (.r rfl) (.r rfl))
  ·show Tr _ _ (LF [(27, bV L)]) (LE [(1, ow f g 58 eD b.1.Tools), (2, ow h i 53 aT b.1.Steps), (3, bx A #[iv b.1.Unit, sL f b.1.Tools g, sL h b.1.Steps i] 26), (4, bx B #[iv d.1.Unit, sL j d.1.Tools l, sL o d.1.Steps q] 26)]) _
   refine Tr.k rfl (ae (aa (bg ?_)))
   obtain rfl := oI H
   exact dM leB

end Go.Proofs.YtcjeebkoafonpaaGreatDoor
