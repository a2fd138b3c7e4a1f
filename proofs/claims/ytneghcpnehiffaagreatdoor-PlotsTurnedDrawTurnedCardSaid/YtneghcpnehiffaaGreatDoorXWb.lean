/- The walks: each function computes its plain function. -/
import Derived.Test.YtneghcpnehiffaaGreatDoorXWa
namespace Go.Proofs.YtneghcpnehiffaaGreatDoor
open Go.RowKit
set_option maxRecDepth 100000
set_option maxHeartbeats 1000000
theorem zBM (N : Nat) {w : Bs} (p0 : (List zK)) (zF : Option Addr) (zG : Nat) (zT : Sl w.R w.W zR zF zG p0) (r : (List zZ)) (H : Vi N p0 = some r) (hE : HF w w.W (LEn [emp])) : Calls Tryz.prog 23 [sL zF p0 zG].toArray w.W fun e W' => ∃ (w' : Bs) (u : (Option Addr × Nat)), w.Le w' ∧ e = .returned (sL u.1 r u.2) ∧ (SlF u.1 r.length u.2) ∧ HF w' W' (LEn [ow u.1 u.2 80 zS r]) := by
 unfold Vi at H
 have leB := Bs.Le.refl w
 refine Tr.enter (n := 83) Tryz.func23 rfl rfl rfl hE (Tr.sr (Tr.asg rfl rfl (Tr.JI 1 80 zS ?_)))
 show Tr _ _ (uf _ 2 (sL none (([] : List zZ)) 0)) _ _
 refine Tr.nil (Tr.zA (Tr.sr (Tr.mv rfl rfl ?_)))
 obtain ⟨QT, zBG, H⟩ := bnd H
 refine Tr.VB [2] [emp] (U := (Option Addr × Nat)) (fun u => (sL u.1 QT u.2)) (fun u => SlF u.1 QT.length u.2) (fun u => [ow u.1 u.2 40 zR QT]) rfl (zQ rfl za) (fun _ => rfl) (wn rfl) rfl Tryz.call46 (zH rfl zP) (fun W hW hp hE => zDk p0 zF zG (zT.ext (hW.JE hp)) QT zBG hE) ?_
 intro u hu
 obtain ⟨JO, JM⟩ := u
 have gy100_0 := hu
 have zCK : SlF JO QT.length JM := gy100_0 --@phi
 dsimp only
 refine Tr.asg rfl rfl (Tr.nil (Tr.zA (Tr.sr (Tr.mv rfl rfl ?_))))
 obtain ⟨y102, hy102, H⟩ := bnd H
 refine Tr.VB [2] [ow JO JM 40 zR QT] (U := Unit) (fun u => (.tuple #[])) (fun u => y102.length = QT.length) (fun u => [ow JO JM 40 zR y102]) rfl (zQ rfl za) (fun _ => rfl) (wn rfl) rfl Tryz.call49 (zH rfl (zH rfl zP)) (fun W hW hp hE => zAT QT JO JM (fun z0 z1 => zAm z0 z1) 50 [] Tryz.call50 (fun w' he z0 z1 y hy => zKX z0 z1 y hy (HF.start _)) y102 hy102 hE) ?_
 intro u hu
 have gky102_0 := hu
 have zJT : y102.length = QT.length := gky102_0 --@phi
 have zJW : SlF JO y102.length JM := by rw [zJT]; exact zCK
 show Tr _ _ (uf _ 13 (.tuple #[])) (up _ 2 (ow JO JM 40 zR y102)) _
 refine Tr.sel (lf := [(0, sL JO y102 JM), (2, sL none (([] : List zZ)) 0), (10, sL zF p0 zG), (11, sL JO y102 JM), (12, sL JO y102 JM), (13, (.tuple #[]))]) (le := [(1, ow none 0 80 zS ([] : List zZ)), (2, ow JO JM 40 zR y102)]) (.cons (Km rfl (by unfold sL; rw [zJT])) (.cons rfl (.cons rfl (.cons (Km rfl (by unfold sL; rw [zJT])) (.cons (Km rfl (by unfold sL; rw [zJT])) (.cons rfl .nil)))))) (.cons rfl (.cons rfl .nil)) (Tr.nil (Tr.zA (Tr.sr (Tr.alloc 3 (wn rfl) rfl zjE fun Vs => (Tr.nil (Tr.zA (Tr.seq (Tr.sr (Tr.mv rfl rfl (Tr.va rfl (fun _ _ a c => QF zA7 (a.ev rfl)) (Tr.mv rfl rfl (Tr.nil (Tr.zA (Tr.block (Tr.JI 12 3 QR (Tr.loop (σ := (List zK) × Nat × (List Int) × (Option Addr) × Nat) (fun m w s => m = s.1.length + 1 ∧ s.1 = List.drop s.2.1 y102 ∧ s.2.1 ≤ y102.length ∧ VH N y102 s.1 s.2.1 s.2.2.1 = some r ∧ SlF s.2.2.2.1 s.2.2.1.length s.2.2.2.2) (fun s => [(0, sL JO y102 JM), (3, pV Vs), (14, sL JO y102 JM), (15, iv (y102.length : Int)), (16, iv (s.2.1 : Int))]) (fun s => [(2, ow JO JM 40 zR y102), (3, bx Vs #[sL s.2.2.2.1 s.2.2.1 s.2.2.2.2] 78), (12, ow s.2.2.2.1 s.2.2.2.2 3 QR s.2.2.1)]) (y102.length + 1) (y102, 0, ([] : List Int), none, 0) ⟨rfl, rfl, Nat.zero_le _, H, Kj⟩ (.cons rfl (.cons rfl (.cons rfl (.cons rfl (.cons rfl .nil))))) (.cons rfl (.cons rfl (.cons rfl .nil))) (fun _ _ h => absurd h.1 (by simp)) ?_))))))))))))))))
 intro w Qc m s hs
 obtain ⟨zY, iL1, zME, zGX, zGN⟩ := s
 obtain ⟨Ki, QE, hiL1, H, zaH⟩ := hs
 replace QE : zY = List.drop iL1 y102 := QE
 replace H : VH N y102 zY iL1 zME = some r := H
 replace Ki : m + 1 = zY.length + 1 := Ki
 replace leB := leB.trans Qc
 replace zaH : SlF zGX zME.length zGN := zaH
 obtain rfl : m = zY.length := by omega
 clear Ki
 dsimp only
 cases zY with
 | nil =>
  rw [VH.eq_1] at H
  refine Tr.sr (Tr.va rfl (fun _ _ a c => QD (a.ev rfl) (a.ev rfl)) (Tr.nil (Tr.zA (Tr.seq (Tr.Vy rfl (JA QE) (Tr.exit (Tr.ze (Tr.ze (Tr.QK (Tr.zA (Tr.sr (Tr.va rfl (fun _ _ a c => zD zCt (a.ev rfl) (rdb c (vs := [sL zGX zME zGN]) (k := 3) rfl 0) rfl) ?_))))))))))))
  obtain ⟨zA8, zTX, H⟩ := bnd H
  refine Tr.VB [12] [ow zGX zGN 3 QR zME] (U := Unit) (fun u => (.tuple #[])) (fun u => zA8.length = zME.length) (fun u => [ow zGX zGN 3 QR zA8]) rfl (zQ rfl za) (fun _ => rfl) (wn rfl) rfl Tryz.call51 (zH rfl zP) (fun W hW hp hE => zEi zME zGX zGN zA8 zTX hE) ?_
  intro u hu
  have gky120_0 := hu
  have zMU : zA8.length = zME.length := gky120_0 --@phi
  have zjA : SlF zGX zA8.length zGN := by rw [zMU]; exact zaH
  show Tr _ _ (uf _ 29 (.tuple #[])) (up _ 12 (ow zGX zGN 3 QR zA8)) _
  refine Tr.sel (lf := [(0, sL JO y102 JM), (3, pV Vs), (14, sL JO y102 JM), (15, iv (y102.length : Int)), (16, iv (iL1 : Int)), (17, bV (decide ((iL1 : Int) < (y102.length : Int)))), (28, sL zGX zA8 zGN), (29, (.tuple #[]))]) (le := [(2, ow JO JM 40 zR y102), (3, bx Vs #[sL zGX zA8 zGN] 78), (12, ow zGX zGN 3 QR zA8)]) (.cons rfl (.cons rfl (.cons rfl (.cons rfl (.cons rfl (.cons rfl (.cons (Km rfl (by unfold sL; rw [zMU])) (.cons rfl .nil)))))))) (.cons rfl (.cons (ebx rfl (by unfold sL; rw [zMU])) (.cons rfl .nil))) (Tr.nil (Tr.zA (Tr.sr (Tr.va rfl (fun _ _ a c => zD zCt (a.ev rfl) (rdb c (vs := [sL zGX zA8 zGN]) (k := 3) rfl 0) rfl) ?_))))
  obtain ⟨Vj, zTW, H⟩ := bnd H
  refine Tr.VB [12] [ow zGX zGN 3 QR zA8] (U := (Option Addr × Nat)) (fun u => (sL u.1 Vj u.2)) (fun u => SlF u.1 Vj.length u.2) (fun u => [ow u.1 u.2 3 QR Vj]) rfl (zQ rfl za) (fun _ => rfl) (wn rfl) rfl Tryz.call52 (zH rfl zP) (fun W hW hp hE => zDM zA8 zGX zGN Vj zTW hE) ?_
  intro u hu
  obtain ⟨Kg, VM⟩ := u
  have gy122_0 := hu
  have zIo : SlF Kg Vj.length VM := gy122_0 --@phi
  dsimp only
  refine Tr.store 3 (cs := [sL Kg Vj VM]) [sL Kg Vj VM] (wn rfl) rfl rfl rfl rfl zdx rfl rfl rfl (Tr.nil (Tr.zA (Tr.sr (Tr.asg rfl rfl (Tr.JI 13 80 zS ?_)))))
  show Tr _ _ (uf _ 6 (sL none (([] : List zZ)) 0)) _ _
  refine Tr.nil (Tr.zA (Tr.sr (Tr.asg rfl rfl (Tr.JI 14 40 zR ?_))))
  show Tr _ _ (uf _ 7 (sL none (([] : List zK)) 0)) _ _
  refine Tr.nil (Tr.zA (Tr.sr (Tr.asg rfl rfl (Tr.nil (Tr.zA (Tr.seq (Tr.sr (Tr.alloc 15 (wn rfl) rfl zXa fun zdY => (Tr.store 15 (cs := [iv 0]) [iv 0] (wn rfl) rfl rfl rfl rfl zE8 rfl rfl rfl (Tr.nil (Tr.zA (Tr.block (Tr.ren 15 29 rfl rfl rfl (Tr.loop (σ := Int × (List zZ) × (List zK) × Int × Nat × (Option Addr) × Nat × (Option Addr) × Nat) (fun m w s => JK N y102 Vj m s.1 s.2.1 s.2.2.1 s.2.2.2.1 = some r ∧ SlF s.2.2.2.2.2.1 s.2.1.length s.2.2.2.2.2.2.1 ∧ SlF s.2.2.2.2.2.2.2.1 s.2.2.1.length s.2.2.2.2.2.2.2.2) (fun s => [(0, sL JO y102 JM), (3, pV Vs), (6, sL s.2.2.2.2.2.1 s.2.1 s.2.2.2.2.2.2.1), (7, sL s.2.2.2.2.2.2.2.1 s.2.2.1 s.2.2.2.2.2.2.2.2), (8, iv s.2.2.2.1), (9, .pointer (some ⟨s.2.2.2.2.1, 0, none⟩))]) (fun s => [(2, ow JO JM 40 zR y102), (3, bx Vs #[sL Kg Vj VM] 78), (12, ow Kg VM 3 QR Vj), (13, ow s.2.2.2.2.2.1 s.2.2.2.2.2.2.1 80 zS s.2.1), (14, ow s.2.2.2.2.2.2.2.1 s.2.2.2.2.2.2.2.2 40 zR s.2.2.1), (29, bx s.2.2.2.2.1 #[iv s.1] 3)]) N (0, ([] : List zZ), ([] : List zK), 0, zdY, none, 0, none, 0) ⟨H, Kj, Kj⟩ (.cons rfl (.cons rfl (.cons rfl (.cons rfl (.cons rfl (.cons rfl .nil)))))) (.cons rfl (.cons rfl (.cons rfl (.cons rfl (.cons rfl (.cons rfl .nil)))))) (fun _ _ h => zAg (h.1)) ?_))))))))))))))
  intro w zD5 mL4 s hs
  obtain ⟨zBc, Vh, zAo, zbv, bv227, zCV, zB7, zEq, zDx⟩ := s
  obtain ⟨H, zDK, zE2⟩ := hs
  replace H : JK N y102 Vj (mL4 + 1) zBc Vh zAo zbv = some r := H
  replace leB := leB.trans zD5
  replace zDK : SlF zCV Vh.length zB7 := zDK
  rw [JK.eq_2] at H
  dsimp only
  refine Tr.seq (Tr.sr (Tr.va rfl (fun _ _ a c => zD zm (a.ev rfl) (rdb c (vs := [iv zBc]) (k := 29) rfl 0) rfl) (Tr.va rfl (fun _ _ a c => zo (a.ev rfl) (a.ev rfl)) (Tr.va rfl (fun _ _ a c => zD zCt (a.ev rfl) (rdb c (vs := [sL Kg Vj VM]) (k := 3) rfl 0) rfl) (Tr.va rfl (fun _ _ a c => QF zCe (a.ev rfl)) (Tr.va rfl (fun _ _ a c => QD (a.ev rfl) (a.ev rfl)) (Tr.nil (Tr.zA (Tr.cond rfl H (fun H => ?_) (fun H => ?_))))))))))
  ·refine Tr.skip (Tr.zA (Tr.seq (Tr.block (Tr.sr (Tr.mv rfl rfl (Tr.zFi (vs := [pV Vs, pV bv227]) (wn rfl) rfl (zH rfl (zH rfl zP)) ?_))))))
   obtain ⟨zSS, zkW, H⟩ := bnd H
   refine Tr.VB [14] [ow zEq zDx 40 zR zAo] (U := (Option Addr × Nat)) (fun u => (sL u.1 zSS u.2)) (fun u => SlF u.1 zSS.length u.2) (fun u => [ow u.1 u.2 40 zR zSS]) rfl (zQ rfl za) (fun _ => rfl) (wn rfl) rfl Tryz.call53 (zH rfl (zH rfl zP)) (fun W hW hp hE => zFN N zAo zEq zDx (fun z0 => zAl z0 Vj zBc) 54 [pV Vs, pV bv227] Tryz.call54 (fun w' he z0 y hy => zKW z0 Vj Kg VM ((hW.slS (k := 12) rfl hp rfl).ext he) Vs (he.r _ (hW.zUD (k := 3) rfl hp rfl)) (he.cells (hW.zUD (k := 3) rfl hp rfl) (hW.zbL (k := 3) rfl)) zBc bv227 (he.r _ (hW.zUD (k := 29) rfl hp rfl)) (he.cells (hW.zUD (k := 29) rfl hp rfl) (hW.zbL (k := 29) rfl)) y hy (HF.start _)) zSS zkW hE) ?_
   intro u hu
   obtain ⟨zXN, zWo⟩ := u
   have gy233_0 := hu
   have zaQ : SlF zXN zSS.length zWo := gy233_0 --@phi
   dsimp only
   refine Tr.asg rfl rfl (Tr.nil (Tr.zA (Tr.seq (Tr.block (Tr.loop (σ := (List zK) × Int × (Option Addr) × Nat) (fun m w s => VG y102 Vj zBc Vh (JK N y102 Vj mL4) m s.1 s.2.1 = some r ∧ SlF s.2.2.1 s.1.length s.2.2.2) (fun s => [(0, sL JO y102 JM), (3, pV Vs), (6, sL zCV Vh zB7), (7, sL s.2.2.1 s.1 s.2.2.2), (8, iv s.2.1), (9, pV bv227)]) (fun s => [(2, ow JO JM 40 zR y102), (3, bx Vs #[sL Kg Vj VM] 78), (12, ow Kg VM 3 QR Vj), (13, ow zCV zB7 80 zS Vh), (14, ow s.2.2.1 s.2.2.2 40 zR s.1), (29, bx bv227 #[iv zBc] 3)]) N (zSS, zbv, zXN, zWo) ⟨H, zaQ⟩ (.cons rfl (.cons rfl (.cons rfl (.cons rfl (.cons rfl (.cons rfl .nil)))))) (.cons rfl (.cons rfl (.cons rfl (.cons rfl (.cons rfl (.cons rfl .nil)))))) (fun _ _ h => zAg (h.1)) ?_)))))
   intro w zRZ mL5 s hs
   obtain ⟨zHZ, zNH, zDz, zDw⟩ := s
   obtain ⟨H, zaD⟩ := hs
   replace H : VG y102 Vj zBc Vh (JK N y102 Vj mL4) (mL5 + 1) zHZ zNH = some r := H
   replace zD5 := zD5.trans zRZ
   replace zaD : SlF zDz zHZ.length zDw := zaD
   rw [VG.eq_2] at H
   dsimp only
   refine Tr.seq (Tr.seq (Tr.draw (by kernel_rfl) (by kernel_rfl) (Tq.mv rfl rfl (Tq.mv rfl rfl (Tq.va rfl (fun _ _ a c => QF zA7 (a.ev rfl)) (Tq.va rfl (fun _ _ a c => QD (a.ev rfl) (a.ev rfl)) (Tq.mv rfl rfl ?_)))))))
   obtain ⟨zc3, zQd, H⟩ := bnd H
   refine Tq.mid 11 [(0, sL JO y102 JM), (3, pV Vs), (6, sL zCV Vh zB7), (7, sL zDz zHZ zDw), (8, iv zNH), (9, pV bv227), (57, bV zc3)] ?_ ?_
   ·cases zLC : (decide (zNH < (y102.length : Int)))
    ·rw [zLC] at zQd
     rw [if_neg (by decide)] at zQd
     have H := zQd
     obtain rfl := oI H
     refine Tq.pass rfl rfl rfl rfl rfl (by decide) (Tq.pass rfl rfl rfl rfl rfl (by decide) (Tq.pass rfl rfl rfl rfl rfl (by decide) (Tq.pass rfl rfl rfl rfl rfl (by decide) (Tq.pass rfl rfl rfl rfl rfl (by decide) (Tq.pass rfl rfl rfl rfl rfl (by decide) (Tq.pass rfl rfl rfl rfl rfl (by decide) ?_))))))
     exact Tq.pass rfl rfl rfl rfl rfl (by decide) (Tq.pass rfl rfl rfl rfl rfl (by decide) (Tq.pass rfl rfl rfl rfl rfl (by decide) (Tq.va rfl (fun _ _ a c => zy (a.ev rfl) (a.ev rfl)) (Tq.fin (.cons rfl (.cons rfl (.cons rfl (.cons rfl (.cons rfl (.cons rfl (.cons rfl .nil)))))))))))
    ·rw [zLC] at zQd
     rw [if_pos rfl] at zQd
     have H := zQd
     refine Tq.val (wg rfl rfl rfl) rfl (fun _ _ a c => run_move (a.ev rfl)) (Tq.val (wg rfl rfl rfl) rfl (fun _ _ a c => run_move (a.ev rfl)) ?_)
     obtain ⟨zjN, zlO, H⟩ := bnd H
     obtain ⟨zgk, zgj, zgi⟩ := zq zlO
     refine Tq.val (wg rfl rfl rfl) rfl (fun _ _ a c => zL zB5 (a.ev rfl) zJW (a.ev rfl) zgk zgj) (Tq.val (wg rfl rfl rfl) rfl (fun _ _ a c => zB zAq (a.ev rfl)) (Tq.val (wg rfl rfl rfl) rfl (fun _ _ a c => zD zm (a.ev rfl) (zO.drop (rdo VP (k := 2) c rfl zgi) 1) rfl) (Tq.val (wg rfl rfl rfl) rfl (fun _ _ a c => zD zCt (a.ev rfl) (rdb c (vs := [sL Kg Vj VM]) (k := 3) rfl 0) rfl) (Tq.val (wg rfl rfl rfl) rfl (fun _ _ a c => zD zm (a.ev rfl) (rdb c (vs := [iv zBc]) (k := 29) rfl 0) rfl) ?_))))
     obtain ⟨zjM, zlN, H⟩ := bnd H
     obtain ⟨zgh, zgg, zgf⟩ := zq zlN
     refine Tq.val (wg rfl rfl rfl) rfl (fun _ _ a c => zL zAr (a.ev rfl) zIo (a.ev rfl) zgh zgg) (Tq.val (wg rfl rfl rfl) rfl (fun _ _ a c => zD zm (a.ev rfl) (rdo WF (k := 12) c rfl zgf) rfl) (Tq.val (wg rfl rfl rfl) rfl (fun _ _ a c => zAX (a.ev rfl) (a.ev rfl)) (Tq.va rfl (fun _ _ a c => zx (a.ev rfl) (a.ev rfl)) ?_)))
     obtain rfl := oI H
     exact Tq.fin (.cons rfl (.cons rfl (.cons rfl (.cons rfl (.cons rfl (.cons rfl (.cons rfl .nil)))))))
   ·refine Tq.nil (Tr.zA (Tr.cond rfl H (fun H => ?_) (fun H => ?_)))
    ·refine Tr.skip (Tr.zA (Tr.block (Tr.region (Tr.mv rfl rfl (Tr.mv rfl rfl (Tr.mv rfl rfl ?_))))))
     obtain ⟨zFb, zlM, H⟩ := bnd H
     obtain ⟨zge, zgd, zgc⟩ := zq zlM
     refine Tr.va rfl (fun _ _ a c => zL zB5 (a.ev rfl) zJW (a.ev rfl) zge zgd) (Tr.va rfl (fun _ _ a c => zX (cs := [iv zFb.X0, iv zFb.Y0, iv zFb.X1, iv zFb.Y1]) zAu KM (a.ev rfl) (zO.take (rdo VP (k := 2) c rfl zgc) 4) rfl) (Tr.buildSlice 32 (e := 40) (vs := [(0, .agg #[iv zFb.X0, iv zFb.Y0, iv zFb.X1, iv zFb.Y1])]) (cs := [iv zFb.X0, iv zFb.Y0, iv zFb.X1, iv zFb.Y1]) (wn rfl) rfl (zi rfl QW) (by kernel_rfl) fun zo7 => ?_))
     obtain ⟨zfZ, zmH, H⟩ := bnd H
     exact Tr.append 14 (t := zR) (l := zHZ) (l2 := [zFb]) (wn rfl) rfl rfl rfl rfl (fun W hW => ⟨[[iv zFb.X0, iv zFb.Y0, iv zFb.X1, iv zFb.Y1]], (.cons ⟨(), trivial, rfl⟩ .nil), rdb hW (vs := [iv zFb.X0, iv zFb.Y0, iv zFb.X1, iv zFb.Y1]) (k := 32) rfl 0⟩) zA7 KM zSO (by decide) zUC rfl zmH fun znR zm6 hAl266 => (Tr.mv rfl rfl (Tr.va rfl (fun _ _ a c => zo (a.ev rfl) (a.ev rfl)) (Tr.asg rfl rfl (Tr.asg rfl rfl (Tr.nil (Tr.zh (Tr.zf zRZ (zfZ, (w64 (zNH + 1)), znR, zm6) ⟨H, hAl266⟩ (.cons rfl (.cons rfl (.cons rfl (.cons rfl (.cons rfl (.cons rfl .nil)))))) (.cons rfl (.cons rfl (.cons rfl (.cons rfl (.cons rfl (.cons rfl .nil)))))))))))))
    ·refine Tr.exit (Tr.ze (Tr.ze (Tr.QK (Tr.zA (Tr.zJy 13 [(11, (ow zDz zDw 40 zR zHZ).S)] [] (by kernel_rfl) (by kernel_rfl) fun zP3 zl4 znX => (Dr.zA6 0 (by kernel_rfl) rfl (wn rfl) rfl (by kernel_rfl) (fun _ _ a => run_move (a.ev rfl)) rfl (Dr.zD3 1 [(68, sL Kg Vj VM)] [11] false (by kernel_rfl) rfl rfl (by kernel_rfl) (fun W W' c hsW hk => HF.zIC (le := [(3, bx Vs #[sL Kg Vj VM] 78)]) (ks := [(14, (ow zDz zDw 40 zR zHZ).S)]) (s0 := zP3) false c hk (fun h => absurd h (by decide)) (.cons rfl .nil) (fun b hb => hb.elim (fun ⟨p, hp, hf, hb⟩ => by simp only [List.mem_cons, List.not_mem_nil, or_false] at hp; rcases hp with rfl; exact .inl ⟨_, List.mem_cons_self, hb⟩) (fun hb => absurd hb.1 (by decide))) (List.forall_mem_cons.2 ⟨fun b hb => hb, (fun _ h => nomatch h)⟩) rfl) ?_ rfl rfl ?_)))))))
     ·exact Tq.va rfl (fun _ _ a c => zD zCt (a.ev rfl) (rdb c (vs := [sL Kg Vj VM]) (k := 3) rfl 0) rfl) (Tq.fin (.cons rfl .nil))
     refine Dr.zD3 2 [(69, iv zBc)] [11] false (by kernel_rfl) rfl rfl (by kernel_rfl) (fun W W' c hsW hk => HF.zIC (le := [(29, bx bv227 #[iv zBc] 3)]) (ks := [(14, (ow zDz zDw 40 zR zHZ).S)]) (s0 := zP3) false c hk (fun h => absurd h (by decide)) (.cons rfl .nil) (fun b hb => hb.elim (fun ⟨p, hp, hf, hb⟩ => by simp only [List.mem_cons, List.not_mem_nil, or_false] at hp; rcases hp with rfl; exact .inl ⟨_, List.mem_cons_self, hb⟩) (fun hb => absurd hb.1 (by decide))) (List.forall_mem_cons.2 ⟨fun b hb => hb, (fun _ h => nomatch h)⟩) rfl) ?_ rfl rfl ?_
     ·exact Tq.va rfl (fun _ _ a c => zD zm (a.ev rfl) (rdb c (vs := [iv zBc]) (k := 29) rfl 0) rfl) (Tq.fin (.cons rfl .nil))
     obtain ⟨zSW, zlL, H⟩ := bnd H
     obtain ⟨zgb, zga, zgZ⟩ := zq zlL
     refine Dr.zA6 3 (by kernel_rfl) rfl (wn rfl) rfl (by kernel_rfl) (fun _ _ a => zL zAr (a.ev rfl) zIo (a.ev rfl) zgb zga) rfl (Dr.zD3 4 [(71, iv zSW)] [11] false (by kernel_rfl) rfl rfl (by kernel_rfl) (fun W W' c hsW hk => HF.zIC (le := [(12, ow Kg VM 3 QR Vj)]) (ks := [(14, (ow zDz zDw 40 zR zHZ).S)]) (s0 := zP3) false c hk (fun h => absurd h (by decide)) (.cons rfl .nil) (fun b hb => hb.elim (fun ⟨p, hp, hf, hb⟩ => by simp only [List.mem_cons, List.not_mem_nil, or_false] at hp; rcases hp with rfl; exact .inl ⟨_, List.mem_cons_self, hb⟩) (fun hb => absurd hb.1 (by decide))) (List.forall_mem_cons.2 ⟨fun b hb => hb, (fun _ h => nomatch h)⟩) rfl) ?_ rfl rfl ?_)
     ·exact Tq.va rfl (fun _ _ a c => zD zm (a.ev rfl) (rdo WF (k := 12) c rfl zgZ) rfl) (Tq.fin (.cons rfl .nil))
     refine Dr.zD3 5 [(72, sL Kg Vj VM)] [11] false (by kernel_rfl) rfl rfl (by kernel_rfl) (fun W W' c hsW hk => HF.zIC (le := [(3, bx Vs #[sL Kg Vj VM] 78)]) (ks := [(14, (ow zDz zDw 40 zR zHZ).S)]) (s0 := zP3) false c hk (fun h => absurd h (by decide)) (.cons rfl .nil) (fun b hb => hb.elim (fun ⟨p, hp, hf, hb⟩ => by simp only [List.mem_cons, List.not_mem_nil, or_false] at hp; rcases hp with rfl; exact .inl ⟨_, List.mem_cons_self, hb⟩) (fun hb => absurd hb.1 (by decide))) (List.forall_mem_cons.2 ⟨fun b hb => hb, (fun _ h => nomatch h)⟩) rfl) ?_ rfl rfl ?_
     ·exact Tq.va rfl (fun _ _ a c => zD zCt (a.ev rfl) (rdb c (vs := [sL Kg Vj VM]) (k := 3) rfl 0) rfl) (Tq.fin (.cons rfl .nil))
     refine Dr.zD3 6 [(73, iv zBc)] [11] false (by kernel_rfl) rfl rfl (by kernel_rfl) (fun W W' c hsW hk => HF.zIC (le := [(29, bx bv227 #[iv zBc] 3)]) (ks := [(14, (ow zDz zDw 40 zR zHZ).S)]) (s0 := zP3) false c hk (fun h => absurd h (by decide)) (.cons rfl .nil) (fun b hb => hb.elim (fun ⟨p, hp, hf, hb⟩ => by simp only [List.mem_cons, List.not_mem_nil, or_false] at hp; rcases hp with rfl; exact .inl ⟨_, List.mem_cons_self, hb⟩) (fun hb => absurd hb.1 (by decide))) (List.forall_mem_cons.2 ⟨fun b hb => hb, (fun _ h => nomatch h)⟩) rfl) ?_ rfl rfl ?_
     ·exact Tq.va rfl (fun _ _ a c => zD zm (a.ev rfl) (rdb c (vs := [iv zBc]) (k := 29) rfl 0) rfl) (Tq.fin (.cons rfl .nil))
     refine Dr.zA6 7 (by kernel_rfl) rfl (wn rfl) rfl (by kernel_rfl) (fun _ _ a => zo (a.ev rfl) (a.ev rfl)) rfl ?_
     obtain ⟨zSV, zlK, H⟩ := bnd H
     obtain ⟨zgY, zgX, zgW⟩ := zq zlK
     refine Dr.zA6 8 (by kernel_rfl) rfl (wn rfl) rfl (by kernel_rfl) (fun _ _ a => zL zAr (a.ev rfl) zIo (a.ev rfl) zgY zgX) rfl (Dr.zD3 9 [(76, iv zSV)] [11] false (by kernel_rfl) rfl rfl (by kernel_rfl) (fun W W' c hsW hk => HF.zIC (le := [(12, ow Kg VM 3 QR Vj)]) (ks := [(14, (ow zDz zDw 40 zR zHZ).S)]) (s0 := zP3) false c hk (fun h => absurd h (by decide)) (.cons rfl .nil) (fun b hb => hb.elim (fun ⟨p, hp, hf, hb⟩ => by simp only [List.mem_cons, List.not_mem_nil, or_false] at hp; rcases hp with rfl; exact .inl ⟨_, List.mem_cons_self, hb⟩) (fun hb => absurd hb.1 (by decide))) (List.forall_mem_cons.2 ⟨fun b hb => hb, (fun _ h => nomatch h)⟩) rfl) ?_ rfl rfl ?_)
     ·exact Tq.va rfl (fun _ _ a c => zD zm (a.ev rfl) (rdo WF (k := 12) c rfl zgW) rfl) (Tq.fin (.cons rfl .nil))
     refine Dr.quiet 10 [(77, sL zDz zHZ zDw)] (by kernel_rfl) rfl rfl (by kernel_rfl) ?_ rfl rfl ?_
     ·exact Tq.mv rfl rfl (Tq.fin (.cons rfl .nil))
     obtain ⟨zFw, zkS, H⟩ := bnd H
     refine Dr.one 11 (by kernel_rfl) (St.VB 11 [14, 33] [ow zDz zDw 40 zR zHZ, emp] (U := (Option Addr × Nat)) (fun u => (sL u.1 zFw.1 u.2)) (fun u => SlF u.1 zFw.1.length u.2 ∧ zFw.2.length = zHZ.length) (fun u => [ow zDz zDw 40 zR zFw.2, ow u.1 u.2 3 QR zFw.1]) rfl (zQ rfl (zQ rfl za)) (fun _ => rfl) (fun b ⟨e, he, hS⟩ => by simp only [List.mem_cons, List.not_mem_nil, or_false] at he; rcases he with rfl | rfl; exact .inl ⟨_, List.mem_cons_self, rfl, hS⟩; exact hS.elim) rfl (wn rfl) rfl Tryz.call56 (zH rfl zP) (fun W hW hp hE => zI2 zHZ zDz zDw zFw zkS hE) ?_)
     intro u hu zoT
     obtain ⟨zH1, zHg⟩ := u
     obtain ⟨gy270_0, gky270_0⟩ := hu
     have zmO : SlF zH1 zFw.1.length zHg := gy270_0
     have zMQ : zFw.2.length = zHZ.length := gky270_0
     have zX9 : SlF zDz zFw.2.length zDw := by rw [zMQ]; exact zaD
     dsimp only
     refine Dr.use (lf := [(0, sL JO y102 JM), (3, pV Vs), (6, sL zCV Vh zB7), (7, sL zDz zFw.2 zDw), (8, iv zNH), (9, pV bv227), (57, bV zc3), (67, sL zCV Vh zB7), (68, sL Kg Vj VM), (69, iv zBc), (70, .pointer (some ⟨adB Kg, adO Kg + (zBc).toNat * 1, none⟩)), (71, iv zSW), (72, sL Kg Vj VM), (73, iv zBc), (74, iv (w64 (zBc + 1))), (75, .pointer (some ⟨adB Kg, adO Kg + ((w64 (zBc + 1))).toNat * 1, none⟩)), (76, iv zSV), (77, sL zDz zFw.2 zDw), (78, sL zH1 zFw.1 zHg)]) (le := [(2, ow JO JM 40 zR y102), (3, bx Vs #[sL Kg Vj VM] 78), (12, ow Kg VM 3 QR Vj), (13, ow zCV zB7 80 zS Vh), (14, ow zDz zDw 40 zR zFw.2), (29, bx bv227 #[iv zBc] 3), (33, ow zH1 zHg 3 QR zFw.1)]) ?_ rfl (.cons rfl (.cons rfl (.cons rfl (.cons (Km rfl (by unfold sL; rw [zMQ])) (.cons rfl (.cons rfl (.cons rfl (.cons rfl (.cons rfl (.cons rfl (.cons rfl (.cons rfl (.cons rfl (.cons rfl (.cons rfl (.cons rfl (.cons rfl (.cons (Km rfl (by unfold sL; rw [zMQ])) (.cons rfl .nil))))))))))))))))))) (.cons rfl (.cons rfl (.cons rfl (.cons rfl (.cons rfl (.cons rfl (.cons rfl .nil)))))))
     refine Dr.quiet 12 [(79, .agg #[iv zSW, iv zSV, sL zH1 zFw.1 zHg])] (by kernel_rfl) rfl rfl (by kernel_rfl) ?_ rfl rfl ?_
     ·exact Tq.build (vs := [(0, iv zSW), (1, iv zSV), (2, sL zH1 zFw.1 zHg)]) (cs := [iv zSW, iv zSV, sL zH1 zFw.1 zHg]) (wn rfl) rfl (zi rfl (zi rfl (zi rfl QW))) (by kernel_rfl) (Tq.fin (.cons rfl .nil))
     refine Dr.tail (by kernel_rfl) (Tr.freeze 33 rfl fun w zjx zZZ => ?_)
     replace zD5 := zD5.trans zjx
     obtain ⟨zSR, zkR, H⟩ := bnd H
     refine Tr.VC [13] [ow zCV zB7 80 zS Vh] (U := (Option Addr × Nat)) (fun u => (sL u.1 zSR u.2)) (fun O W u => SlF u.1 zSR.length u.2) (fun u => [ow u.1 u.2 80 zS zSR]) rfl (zQ rfl za) (fun _ => rfl) (wn rfl) rfl Tryz.call55 (zH rfl (zH rfl zP)) (fun W hW hp hE => zCP Vh zCV zB7 (zZ.mk zSW zSV zFw.1) zH1 zHg (zZZ.zAS (hW.JE hp)) zSR zkR hE) ?_
     intro w u zd6 hu
     obtain ⟨zXL, zWm⟩ := u
     have gy274_0 := hu
     replace zZZ := zZZ.le zd6
     replace zD5 := zD5.trans zd6
     have zaP : SlF zXL zSR.length zWm := gy274_0 --@phi
     dsimp only
     refine Tr.asg rfl rfl (Tr.nil (Tr.zh (Tr.zA (Tr.seq (Tr.sr (Tr.va rfl (fun _ _ a c => zD zm (a.ev rfl) (rdb c (vs := [iv zBc]) (k := 29) rfl 0) rfl) (Tr.nil (Tr.zA (Tr.region (Tr.alloc 34 (wn rfl) rfl zXa fun zoh => (Tr.store 34 (cs := [iv zBc]) [iv zBc] (wn rfl) rfl rfl rfl rfl zE8 rfl rfl rfl (Tr.nil (Tr.zA (Tr.region (Tr.va rfl (fun _ _ a c => zD zm (a.ev rfl) (rdb c (vs := [iv zBc]) (k := 34) rfl 0) rfl) (Tr.va rfl (fun _ _ a c => zo (a.ev rfl) (a.ev rfl)) (Tr.store 34 (cs := [iv (w64 (zBc + 1))]) [iv (w64 (zBc + 1))] (wn rfl) rfl rfl rfl rfl zE8 rfl rfl rfl (Tr.nil (Tr.zmv 29 ?_)))))))))))))))))))
     exact Tr.ren 34 29 rfl rfl rfl (Tr.zf zD5 ((w64 (zBc + 1)), zSR, zFw.2, zNH, zoh, zXL, zWm, zDz, zDw) ⟨H, zaP, zX9⟩ (.cons rfl (.cons rfl (.cons rfl (.cons rfl (.cons rfl (.cons rfl .nil)))))) (.cons rfl (.cons rfl (.cons rfl (.cons rfl (.cons rfl (.cons rfl .nil)))))))
  ·refine Tr.exit (Tr.ze (Tr.ze (Tr.QK (Tr.zA (Tr.sr (Tr.mv rfl rfl (Tr.asg rfl rfl (Tr.nil (Tr.zA (Tr.ret ?_))))))))))
   obtain rfl := oI H
   exact Tr.out (m := [sL zCV Vh zB7]) [] (zU rfl zV) (fun W hW => ⟨w, (zCV, zB7), leB, rfl, zDK, hW.pick (ks := [13]) (by decide) (zQ rfl za)⟩)
 | cons xL1 zY =>
  rw [VH.eq_2] at H
  refine Tr.sr (Tr.va rfl (fun _ _ a c => QD (a.ev rfl) (a.ev rfl)) (Tr.nil (Tr.zA (Tr.seq (Tr.Vx rfl (JU QE) (Tr.skip (Tr.zA (Tr.seq (Tr.block (Tr.sr (Tr.va rfl (fun _ _ a c => zL zB5 (a.ev rfl) zJW (a.ev rfl) (Int.natCast_nonneg _) (QC QE)) (Tr.va rfl (fun _ _ a c => zX (cs := [iv xL1.X0, iv xL1.Y0, iv xL1.X1, iv xL1.Y1]) zAu KM (a.ev rfl) (zO.take (rdo VP (k := 2) c rfl (KH QE)) 4) rfl) (Tr.alloc 35 (wn rfl) rfl zDE fun zo5 => (Tr.store 35 (cs := [iv xL1.X0, iv xL1.Y0, iv xL1.X1, iv xL1.Y1]) [iv xL1.X0, iv xL1.Y0, iv xL1.X1, iv xL1.Y1] (wn rfl) rfl rfl rfl rfl KM rfl rfl rfl (Tr.nil (Tr.zA (Tr.region (Tr.va rfl (fun _ _ a c => zD zCt (a.ev rfl) (rdb c (vs := [sL zGX zME zGN]) (k := 3) rfl 0) rfl) ?_))))))))))))))))))
  refine Tr.va rfl (fun _ _ a c => zB zAq (a.ev rfl)) (Tr.va rfl (fun _ _ a c => zD zm (a.ev rfl) (rdb c (vs := [iv xL1.X0, iv xL1.Y0, iv xL1.X1, iv xL1.Y1]) (k := 35) rfl 1) rfl) (Tr.va rfl (fun _ _ a c => zB zDe (a.ev rfl)) (Tr.va rfl (fun _ _ a c => zD zm (a.ev rfl) (rdb c (vs := [iv xL1.X0, iv xL1.Y0, iv xL1.X1, iv xL1.Y1]) (k := 35) rfl 3) rfl) (Tr.buildSlice 36 (e := 3) (vs := [(0, iv xL1.Y0), (1, iv xL1.Y1)]) (cs := [iv xL1.Y0, iv xL1.Y1]) (wn rfl) rfl (zi rfl (zi rfl QW)) (by kernel_rfl) fun zo4 => ?_))))
  obtain ⟨zZU, zmF, H⟩ := bnd H
  exact Tr.append 12 (t := QR) (l := zME) (l2 := [xL1.Y0, xL1.Y1]) (wn rfl) rfl rfl rfl rfl (fun W hW => ⟨[[iv xL1.Y0], [iv xL1.Y1]], (.cons ⟨(), trivial, rfl⟩ (.cons ⟨(), trivial, rfl⟩ .nil)), rdb hW (vs := [iv xL1.Y0, iv xL1.Y1]) (k := 36) rfl 0⟩) zCe zE8 zYK (by decide) zbI rfl zmF fun zbj zbC hAl279 => (Tr.store 3 (cs := [sL zbj zZU zbC]) [sL zbj zZU zbC] (wn rfl) rfl rfl rfl rfl zdx rfl rfl rfl (Tr.nil (Tr.zh (Tr.zA (Tr.region (Tr.va rfl (fun _ _ a c => zo (a.ev rfl) (a.ev rfl)) (Tr.mv rfl rfl (Tr.nil (Tr.zf Qc (zY, (iL1 + 1), zZU, zbj, zbC) ⟨rfl, Qe QE, QC QE, H, hAl279⟩ (.cons rfl (.cons rfl (.cons rfl (.cons rfl (.cons (congrArg (fun z => some (Value.int .i64 z)) (Qd QE zJW)) .nil))))) (.cons rfl (.cons rfl (.cons rfl .nil))))))))))))

theorem zI7 (N : Nat) {w : Bs} (p0 : zt) (zF : Option Addr) (zG : Nat) (zT : Sl w.O w.W zW zF zG p0.Tools) (zN : Option Addr) (zM : Nat) (QV : Sl w.O w.W zJ zN zM p0.Steps) (r : QM) (H : zAz N p0 = some r) (hE : HF w w.W (LEn [emp, emp, emp])) : Calls Tryz.prog 61 [.agg #[iv p0.Unit, sL zF p0.Tools zG, sL zN p0.Steps zM]].toArray w.W fun e W' => ∃ (w' : Bs) (u : (Option Addr × Nat) × (Option Addr × Nat) × (Option Addr × Nat) × (Option Addr × Nat) × (Option Addr × Nat)), w.Le w' ∧ e = .returned (.pointer (some ⟨u.2.2.2.2.2, 0, none⟩)) ∧ (Sl w'.O w'.W zW u.1.1 u.1.2 r.p.Tools ∧ Sl w'.O w'.W zJ u.2.1.1 u.2.1.2 r.p.Steps ∧ SlF u.2.2.1.1 r.tools.length u.2.2.1.2 ∧ SlF u.2.2.2.1.1 r.image.length u.2.2.2.1.2 ∧ True) ∧ HF w' W' (LEn [ow u.2.2.1.1 u.2.2.1.2 44 JJ r.tools, ow u.2.2.2.1.1 u.2.2.2.1.2 80 zS r.image, bx u.2.2.2.2.2 #[iv r.p.Unit, sL u.1.1 r.p.Tools u.1.2, sL u.2.1.1 r.p.Steps u.2.1.2, sL u.2.2.1.1 r.tools u.2.2.1.2, sL u.2.2.2.1.1 r.image u.2.2.2.1.2, bV r.clear, iv r.tool, iv r.place.X, iv r.place.Y, bV r.placed, iv r.off, iv r.on] 77]) := by
 unfold zAz at H
 have leB := Bs.Le.refl w
 refine Tr.enter (n := 64) Tryz.func61 rfl rfl rfl hE (Tr.sr (Tr.box 1 (cs := [iv p0.Unit, sL zF p0.Tools zG, sL zN p0.Steps zM]) (wn rfl) rfl rfl rfl fun zw => (Tr.asg rfl rfl (Tr.nil (Tr.zA (Tr.sr (Tr.va rfl (fun _ _ a c => zX (cs := [iv p0.Unit, sL zF p0.Tools zG, sL zN p0.Steps zM]) Wt Kn (a.ev rfl) (zO.take (rdb c (vs := [iv p0.Unit, sL zF p0.Tools zG, sL zN p0.Steps zM]) (k := 1) rfl 0) 3) rfl) (Tr.build (vs := [(0, .agg #[iv p0.Unit, sL zF p0.Tools zG, sL zN p0.Steps zM]), (4, iv (-1))]) (cs := [iv p0.Unit, sL zF p0.Tools zG, sL zN p0.Steps zM, .slice none 0 0, .slice none 0 0, bV false, iv (-1), iv 0, iv 0, bV false, iv 0, iv 0]) (wn rfl) rfl (zi rfl (zi rfl QW)) (by kernel_rfl) (Tr.box 2 (cs := [iv p0.Unit, sL zF p0.Tools zG, sL zN p0.Steps zM, .slice none 0 0, .slice none 0 0, bV false, iv (-1), iv 0, iv 0, bV false, iv 0, iv 0]) (wn rfl) rfl rfl rfl fun Qw => (Tr.asg rfl rfl (Tr.nil (Tr.zA (Tr.seq (Tr.sr (Tr.va rfl (fun _ _ a c => zB zEH (a.ev rfl)) (Tr.va rfl (fun _ _ a c => zD zLc (a.ev rfl) (rdb c (vs := [iv p0.Unit, sL zF p0.Tools zG, sL zN p0.Steps zM]) (k := 1) rfl 1) rfl) ?_))))))))))))))))
 refine Tr.va rfl (fun _ _ a c => QF zMi (a.ev rfl)) (Tr.mv rfl rfl (Tr.nil (Tr.zA (Tr.block (Tr.JI 27 44 JJ (Tr.loop (σ := (List zg) × Nat × (List (List zZ)) × (Option Addr) × Nat) (fun m w s => m = s.1.length + 1 ∧ s.1 = List.drop s.2.1 p0.Tools ∧ s.2.1 ≤ p0.Tools.length ∧ Qz N p0 s.1 s.2.1 s.2.2.1 = some r ∧ SlF s.2.2.2.1 s.2.2.1.length s.2.2.2.2) (fun s => [(1, pV zw), (3, pV Qw), (13, sL zF p0.Tools zG), (14, iv (p0.Tools.length : Int)), (15, iv (s.2.1 : Int))]) (fun s => [(1, bx zw #[iv p0.Unit, sL zF p0.Tools zG, sL zN p0.Steps zM] 25), (2, bx Qw #[iv p0.Unit, sL zF p0.Tools zG, sL zN p0.Steps zM, sL s.2.2.2.1 s.2.2.1 s.2.2.2.2, .slice none 0 0, bV false, iv (-1), iv 0, iv 0, bV false, iv 0, iv 0] 77), (27, ow s.2.2.2.1 s.2.2.2.2 44 JJ s.2.2.1)]) (p0.Tools.length + 1) (p0.Tools, 0, ([] : List (List zZ)), none, 0) ⟨rfl, rfl, Nat.zero_le _, H, Kj⟩ (.cons rfl (.cons rfl (.cons rfl (.cons rfl (.cons rfl .nil))))) (.cons rfl (.cons rfl (.cons rfl .nil))) (fun _ _ h => absurd h.1 (by simp)) ?_))))))
 intro w WU m s hs
 obtain ⟨Qu, iL3, zIi, zPW, zPJ⟩ := s
 obtain ⟨zHd, zAC, hiL3, H, zaF⟩ := hs
 replace zAC : Qu = List.drop iL3 p0.Tools := zAC
 replace H : Qz N p0 Qu iL3 zIi = some r := H
 replace zHd : m + 1 = Qu.length + 1 := zHd
 replace zT := zT.le WU
 replace QV := QV.le WU
 replace leB := leB.trans WU
 replace zaF : SlF zPW zIi.length zPJ := zaF
 obtain rfl : m = Qu.length := by omega
 clear zHd
 dsimp only
 cases Qu with
 | nil =>
  rw [Qz.eq_1] at H
  refine Tr.sr (Tr.va rfl (fun _ _ a c => QD (a.ev rfl) (a.ev rfl)) (Tr.nil (Tr.zA (Tr.seq (Tr.Vy rfl (JA zAC) (Tr.exit (Tr.ze (Tr.ze (Tr.QK (Tr.zA (Tr.sr (Tr.mv rfl rfl (Tr.asg rfl rfl (Tr.nil (Tr.zA (Tr.ret ?_))))))))))))))))
  obtain rfl := oI H
  exact Tr.JI 28 80 zS (Tr.out (m := [pV Qw]) [] (zU rfl zV) (fun W hW => ⟨w, ((zF, zG), (zN, zM), (zPW, zPJ), (none, 0), (none, Qw)), leB, rfl, ⟨zT, QV, zaF, Kj, trivial⟩, hW.pick (ks := [27, 28, 2]) (by decide) (zQ rfl (zQ rfl (zQ rfl za)))⟩))
 | cons xL3 Qu =>
  rw [Qz.eq_2] at H
  refine Tr.sr (Tr.va rfl (fun _ _ a c => QD (a.ev rfl) (a.ev rfl)) (Tr.nil (Tr.zA (Tr.seq (Tr.Vx rfl (JU zAC) (Tr.skip (Tr.zA (Tr.seq (Tr.block (Tr.sr ?_))))))))))
  obtain ⟨zez, hRu165, zRe, hcu165⟩ := (zT).el (KH zAC)
  obtain ⟨zH7, zHn⟩ := zez
  have zDI := zRe
  replace zDI : Sl w.O w.W zR zH7 zHn xL3.Rects := zDI
  replace hRu165 : w.R (adB zF) := Or.inl hRu165
  refine Tr.va rfl (fun _ _ a c => zL zLL (a.ev rfl) zT.form (a.ev rfl) (Int.natCast_nonneg _) (QC zAC)) (Tr.va rfl (fun _ _ a c => zX (cs := [sv xL3.Name, sL zH7 xL3.Rects zHn]) zUG zKi (a.ev rfl) (zO.take (rdR hRu165 hcu165 c) 2) rfl) (Tr.alloc 29 (wn rfl) rfl zYL fun zpD => (Tr.store 29 (cs := [sv xL3.Name, sL zH7 xL3.Rects zHn]) [sv xL3.Name, sL zH7 xL3.Rects zHn] (wn rfl) rfl rfl rfl rfl zKi rfl rfl rfl (Tr.nil (Tr.zA (Tr.sr (Tr.asg rfl rfl (Tr.JI 30 40 zR ?_))))))))
  show Tr _ _ (uf _ 6 (sL none (([] : List zK)) 0)) _ _
  refine Tr.nil (Tr.zA (Tr.seq (Tr.sr (Tr.va rfl (fun _ _ a c => zB zFE (a.ev rfl)) (Tr.va rfl (fun _ _ a c => zD zNC (a.ev rfl) (rdb c (vs := [sv xL3.Name, sL zH7 xL3.Rects zHn]) (k := 29) rfl 1) rfl) (Tr.va rfl (fun _ _ a c => QF zA7 (a.ev rfl)) (Tr.mv rfl rfl (Tr.nil (Tr.zA (Tr.block (Tr.loop (σ := (List zK) × Nat × (List zK) × (Option Addr) × Nat) (fun m w s => m = s.1.length + 1 ∧ s.1 = List.drop s.2.1 xL3.Rects ∧ s.2.1 ≤ xL3.Rects.length ∧ Jv N p0 zIi (Qz N p0 Qu (iL3 + 1)) s.1 s.2.1 s.2.2.1 = some r ∧ SlF s.2.2.2.1 s.2.2.1.length s.2.2.2.2) (fun s => [(1, pV zw), (3, pV Qw), (6, sL s.2.2.2.1 s.2.2.1 s.2.2.2.2), (13, sL zF p0.Tools zG), (14, iv (p0.Tools.length : Int)), (15, iv (iL3 : Int)), (20, sL zH7 xL3.Rects zHn), (21, iv (xL3.Rects.length : Int)), (22, iv (s.2.1 : Int))]) (fun s => [(1, bx zw #[iv p0.Unit, sL zF p0.Tools zG, sL zN p0.Steps zM] 25), (2, bx Qw #[iv p0.Unit, sL zF p0.Tools zG, sL zN p0.Steps zM, sL zPW zIi zPJ, .slice none 0 0, bV false, iv (-1), iv 0, iv 0, bV false, iv 0, iv 0] 77), (27, ow zPW zPJ 44 JJ zIi), (30, ow s.2.2.2.1 s.2.2.2.2 40 zR s.2.2.1)]) (xL3.Rects.length + 1) (xL3.Rects, 0, ([] : List zK), none, 0) ⟨rfl, rfl, Nat.zero_le _, H, Kj⟩ (.cons rfl (.cons rfl (.cons rfl (.cons rfl (.cons rfl (.cons rfl (.cons rfl (.cons rfl (.cons rfl .nil))))))))) (.cons rfl (.cons rfl (.cons rfl (.cons rfl .nil)))) (fun _ _ h => absurd h.1 (by simp)) ?_)))))))))))
  intro w zD5 m s hs
  obtain ⟨Vl, iL4, zU5, znT, zm8⟩ := s
  obtain ⟨zOx, zD9, hiL4, H, zos⟩ := hs
  replace zD9 : Vl = List.drop iL4 xL3.Rects := zD9
  replace H : Jv N p0 zIi (Qz N p0 Qu (iL3 + 1)) Vl iL4 zU5 = some r := H
  replace zOx : m + 1 = Vl.length + 1 := zOx
  replace zT := zT.le zD5
  replace zDI := zDI.le zD5
  replace WU := WU.trans zD5
  obtain rfl : m = Vl.length := by omega
  clear zOx
  dsimp only
  cases Vl with
  | nil =>
   rw [Jv.eq_1] at H
   refine Tr.sr (Tr.va rfl (fun _ _ a c => QD (a.ev rfl) (a.ev rfl)) (Tr.nil (Tr.zA (Tr.seq (Tr.Vy rfl (JA zD9) (Tr.exit (Tr.ze (Tr.ze (Tr.QK (Tr.zA (Tr.zJy 9 [(8, (ow zPW zPJ 44 JJ zIi).S)] [] (by kernel_rfl) (by kernel_rfl) fun zon zl5 znY => (Dr.zA6 0 (by kernel_rfl) rfl (wn rfl) rfl (by kernel_rfl) (fun _ _ a => run_move (a.ev rfl)) rfl (Dr.zA6 1 (by kernel_rfl) rfl (wn rfl) rfl (by kernel_rfl) (fun _ _ a => run_move (a.ev rfl)) rfl (Dr.zA6 2 (by kernel_rfl) rfl (wn rfl) rfl (by kernel_rfl) (fun _ _ a => zl (a.ev rfl)) rfl (Dr.zA6 3 (by kernel_rfl) rfl (wn rfl) rfl (by kernel_rfl) (fun _ _ a => zB zNY (a.ev rfl)) rfl ?_)))))))))))))))
   refine Dr.quiet 4 [(55, sL zPW zIi zPJ)] (by kernel_rfl) rfl rfl (by kernel_rfl) ?_ rfl rfl ?_
   ·exact Tq.va rfl (fun _ _ a c => zD zbX (a.ev rfl) (rdb c (vs := [iv p0.Unit, sL zF p0.Tools zG, sL zN p0.Steps zM, sL zPW zIi zPJ, .slice none 0 0, bV false, iv (-1), iv 0, iv 0, bV false, iv 0, iv 0]) (k := 2) rfl 3) rfl) (Tq.fin (.cons rfl .nil))
   refine Dr.zA6 5 (by kernel_rfl) rfl (wn rfl) rfl (by kernel_rfl) (fun _ _ a => run_move (a.ev rfl)) rfl ?_
   obtain ⟨zHH, zZm, H⟩ := bnd H
   refine Dr.one 6 (by kernel_rfl) (St.VC 6 [35] [emp] (U := (Option Addr × Nat)) (fun u => (sL u.1 zHH u.2)) (fun O W u => SlF u.1 zHH.length u.2) (fun u => [ow u.1 u.2 80 zS zHH]) rfl (zQ rfl za) (fun _ => rfl) (zGE rfl) rfl (wn rfl) rfl Tryz.call23 (zH rfl zP) (fun W hW hp hE => zBM N zU5 znT zm8 (hW.slS (k := 30) rfl hp rfl) zHH zZm hE) ?_)
   intro w u zeA hu zoU
   obtain ⟨zH3, zHi⟩ := u
   have gy183_0 := hu
   replace zT := zT.le zeA
   replace WU := WU.trans zeA
   have zaU : SlF zH3 zHH.length zHi := gy183_0
   dsimp only
   refine Dr.one 7 (by kernel_rfl) (St.freeze 35 rfl fun w zd9 zkA => ?_)
   replace zT := zT.le zd9
   replace WU := WU.trans zd9
   refine St.buildSlice 7 36 (e := 44) (vs := [(0, sL zH3 zHH zHi)]) (cs := [sL zH3 zHH zHi]) rfl (wn rfl) rfl (zi rfl QW) (by kernel_rfl) fun zpB zox => ?_
   obtain ⟨zHa, zQS, H⟩ := bnd H
   refine Dr.one 8 (by kernel_rfl) (St.append 8 27 (t' := JJ) (ll := zIi) (l2 := [zHH]) (fun b hb => .inl ⟨_, List.mem_cons_self, rfl, hb⟩) rfl (wn rfl) rfl rfl rfl rfl (fun W hW => ⟨[[sL zH3 zHH zHi]], (.cons ⟨(zH3, zHi), zkA, rfl⟩ .nil), rdb hW (vs := [sL zH3 zHH zHi]) (k := 36) rfl 0⟩) zdt zYq zjD (by decide) znE rfl zQS fun zBs zBr hAl188 => (Dr.tail (by kernel_rfl) (Tr.va rfl (fun _ _ a c => zl (a.ev rfl)) (Tr.va rfl (fun _ _ a c => zB zNY (a.ev rfl)) (Tr.store 2 (cs := [sL zBs zHa zBr]) [iv p0.Unit, sL zF p0.Tools zG, sL zN p0.Steps zM, sL zBs zHa zBr, .slice none 0 0, bV false, iv (-1), iv 0, iv 0, bV false, iv 0, iv 0] (wn rfl) rfl rfl rfl rfl zja rfl rfl rfl (Tr.nil (Tr.zh (Tr.zA (Tr.region (Tr.va rfl (fun _ _ a c => zo (a.ev rfl) (a.ev rfl)) ?_))))))))))
   exact Tr.mv rfl rfl (Tr.nil (Tr.zf WU (Qu, (iL3 + 1), zHa, zBs, zBr) ⟨rfl, Qe zAC, QC zAC, H, hAl188⟩ (.cons rfl (.cons rfl (.cons rfl (.cons rfl (.cons (congrArg (fun z => some (Value.int .i64 z)) (Qd zAC zT.form)) .nil))))) (.cons rfl (.cons rfl (.cons rfl .nil)))))
  | cons xL4 Vl =>
   rw [Jv.eq_2] at H
   refine Tr.sr (Tr.va rfl (fun _ _ a c => QD (a.ev rfl) (a.ev rfl)) (Tr.nil (Tr.zA (Tr.seq (Tr.Vx rfl (JU zD9) (Tr.skip (Tr.zA (Tr.seq (Tr.block (Tr.sr (Tr.va rfl (fun _ _ a c => zL zB5 (a.ev rfl) zDI.form (a.ev rfl) (Int.natCast_nonneg _) (QC zD9)) (Tr.va rfl (fun _ _ a c => zX (cs := [iv xL4.X0, iv xL4.Y0, iv xL4.X1, iv xL4.Y1]) zAu KM (a.ev rfl) (zO.take (rdF VP (zDI.rl) (KH zD9) c) 4) rfl) (Tr.alloc 37 (wn rfl) rfl zDE fun zpA => (Tr.store 37 (cs := [iv xL4.X0, iv xL4.Y0, iv xL4.X1, iv xL4.Y1]) [iv xL4.X0, iv xL4.Y0, iv xL4.X1, iv xL4.Y1] (wn rfl) rfl rfl rfl rfl KM rfl rfl rfl (Tr.nil (Tr.zA (Tr.region (Tr.mv rfl rfl (Tr.va rfl (fun _ _ a c => zB WX (a.ev rfl)) ?_)))))))))))))))))))
   refine Tr.va rfl (fun _ _ a c => zD zm (a.ev rfl) (rdb c (vs := [iv xL4.X0, iv xL4.Y0, iv xL4.X1, iv xL4.Y1]) (k := 37) rfl 0) rfl) (Tr.va rfl (fun _ _ a c => zB Vg (a.ev rfl)) (Tr.va rfl (fun _ _ a c => zD zm (a.ev rfl) (rdb c (vs := [iv p0.Unit, sL zF p0.Tools zG, sL zN p0.Steps zM]) (k := 1) rfl 0) rfl) (Tr.va rfl (fun _ _ a c => zB4 (a.ev rfl) (a.ev rfl)) (Tr.va rfl (fun _ _ a c => zB zAq (a.ev rfl)) (Tr.va rfl (fun _ _ a c => zD zm (a.ev rfl) (rdb c (vs := [iv xL4.X0, iv xL4.Y0, iv xL4.X1, iv xL4.Y1]) (k := 37) rfl 1) rfl) (Tr.va rfl (fun _ _ a c => zB Vg (a.ev rfl)) ?_))))))
   refine Tr.va rfl (fun _ _ a c => zD zm (a.ev rfl) (rdb c (vs := [iv p0.Unit, sL zF p0.Tools zG, sL zN p0.Steps zM]) (k := 1) rfl 0) rfl) (Tr.va rfl (fun _ _ a c => zB4 (a.ev rfl) (a.ev rfl)) (Tr.va rfl (fun _ _ a c => zB zC0 (a.ev rfl)) (Tr.va rfl (fun _ _ a c => zD zm (a.ev rfl) (rdb c (vs := [iv xL4.X0, iv xL4.Y0, iv xL4.X1, iv xL4.Y1]) (k := 37) rfl 2) rfl) (Tr.va rfl (fun _ _ a c => zB Vg (a.ev rfl)) (Tr.va rfl (fun _ _ a c => zD zm (a.ev rfl) (rdb c (vs := [iv p0.Unit, sL zF p0.Tools zG, sL zN p0.Steps zM]) (k := 1) rfl 0) rfl) (Tr.va rfl (fun _ _ a c => zB4 (a.ev rfl) (a.ev rfl)) ?_))))))
   refine Tr.va rfl (fun _ _ a c => zB zDe (a.ev rfl)) (Tr.va rfl (fun _ _ a c => zD zm (a.ev rfl) (rdb c (vs := [iv xL4.X0, iv xL4.Y0, iv xL4.X1, iv xL4.Y1]) (k := 37) rfl 3) rfl) (Tr.va rfl (fun _ _ a c => zB Vg (a.ev rfl)) (Tr.va rfl (fun _ _ a c => zD zm (a.ev rfl) (rdb c (vs := [iv p0.Unit, sL zF p0.Tools zG, sL zN p0.Steps zM]) (k := 1) rfl 0) rfl) (Tr.va rfl (fun _ _ a c => zB4 (a.ev rfl) (a.ev rfl)) (Tr.build (vs := [(0, iv (w64 (xL4.X0 * p0.Unit))), (1, iv (w64 (xL4.Y0 * p0.Unit))), (2, iv (w64 (xL4.X1 * p0.Unit))), (3, iv (w64 (xL4.Y1 * p0.Unit)))]) (cs := [iv (w64 (xL4.X0 * p0.Unit)), iv (w64 (xL4.Y0 * p0.Unit)), iv (w64 (xL4.X1 * p0.Unit)), iv (w64 (xL4.Y1 * p0.Unit))]) (wn rfl) rfl (zi rfl (zi rfl (zi rfl (zi rfl QW)))) (by kernel_rfl) (Tr.buildSlice 38 (e := 40) (vs := [(0, .agg #[iv (w64 (xL4.X0 * p0.Unit)), iv (w64 (xL4.Y0 * p0.Unit)), iv (w64 (xL4.X1 * p0.Unit)), iv (w64 (xL4.Y1 * p0.Unit))])]) (cs := [iv (w64 (xL4.X0 * p0.Unit)), iv (w64 (xL4.Y0 * p0.Unit)), iv (w64 (xL4.X1 * p0.Unit)), iv (w64 (xL4.Y1 * p0.Unit))]) (wn rfl) rfl (zi rfl QW) (by kernel_rfl) fun zo9 => ?_))))))
   obtain ⟨zfa, zmI, H⟩ := bnd H
   exact Tr.append 30 (t := zR) (l := zU5) (l2 := [(zK.mk (w64 (xL4.X0 * p0.Unit)) (w64 (xL4.Y0 * p0.Unit)) (w64 (xL4.X1 * p0.Unit)) (w64 (xL4.Y1 * p0.Unit)))]) (wn rfl) rfl rfl rfl rfl (fun W hW => ⟨[[iv (w64 (xL4.X0 * p0.Unit)), iv (w64 (xL4.Y0 * p0.Unit)), iv (w64 (xL4.X1 * p0.Unit)), iv (w64 (xL4.Y1 * p0.Unit))]], (.cons ⟨(), trivial, rfl⟩ .nil), rdb hW (vs := [iv (w64 (xL4.X0 * p0.Unit)), iv (w64 (xL4.Y0 * p0.Unit)), iv (w64 (xL4.X1 * p0.Unit)), iv (w64 (xL4.Y1 * p0.Unit))]) (k := 38) rfl 0⟩) zA7 KM zSO (by decide) zUC rfl zmI fun znS zm7 hAl191 => (Tr.asg rfl rfl (Tr.nil (Tr.zh (Tr.zA (Tr.region (Tr.va rfl (fun _ _ a c => zo (a.ev rfl) (a.ev rfl)) (Tr.mv rfl rfl (Tr.nil (Tr.zf zD5 (Vl, (iL4 + 1), zfa, znS, zm7) ⟨rfl, Qe zD9, QC zD9, H, hAl191⟩ (.cons rfl (.cons rfl (.cons rfl (.cons rfl (.cons rfl (.cons rfl (.cons rfl (.cons rfl (.cons (congrArg (fun z => some (Value.int .i64 z)) (Qd zD9 zDI.form)) .nil))))))))) (.cons rfl (.cons rfl (.cons rfl (.cons rfl .nil)))))))))))))

theorem zCw {w : Bs} (p0 : QM) (zF : Option Addr) (zG : Nat) (zT : Sl w.R w.W zW zF zG p0.p.Tools) (zN : Option Addr) (zM : Nat) (QV : Sl w.R w.W zJ zN zM p0.p.Steps) (QH : Option Addr) (QI : Nat) (Kb : Sl w.R w.W JJ QH QI p0.tools) (QN : Option Addr) (QL : Nat) (zeG : Sl w.R w.W zS QN QL p0.image) (bp0 : Nat) (hbp0 : w.R bp0) (hcp0 : zO w.W bp0 0 [iv p0.p.Unit, sL zF p0.p.Tools zG, sL zN p0.p.Steps zM, sL QH p0.tools QI, sL QN p0.image QL, bV p0.clear, iv p0.tool, iv p0.place.X, iv p0.place.Y, bV p0.placed, iv p0.off, iv p0.on]) (p1 : zI) (p2 : zI) (r : zI) (H : WB p0 p1 p2 = some r) (hE : HF w w.W E0) : Calls Tryz.prog 103 [pV bp0, .agg #[iv p1.X, iv p1.Y], .agg #[iv p2.X, iv p2.Y]].toArray w.W fun e W' => e = .returned (.agg #[iv r.X, iv r.Y]) ∧ HF w W' E0 := by
 unfold WB at H
 have leB := Bs.Le.refl w
 refine Tr.enter (n := 30) Tryz.func103 rfl rfl rfl hE (Tr.sr (Tr.box 1 (cs := [iv p1.X, iv p1.Y]) (wn rfl) rfl rfl rfl fun zw => (Tr.box 2 (cs := [iv p2.X, iv p2.Y]) (wn rfl) rfl rfl rfl fun Qw => (Tr.alloc 3 (wn rfl) rfl zF7 fun KP => (Tr.nil (Tr.zA (Tr.seq (Tr.Vm 22 (by kernel_rfl) (by kernel_rfl) (Tq.va rfl (fun _ _ a c => zB Qy (a.ev rfl)) (Tq.va rfl (fun _ _ a c => zD zm (a.ev rfl) (rdb c (vs := [iv p1.X, iv p1.Y]) (k := 1) rfl 0) rfl) ?_))))))))))
 refine Tq.mv rfl rfl (Tq.va rfl (fun _ _ a c => zl (a.ev rfl)) (Tq.va rfl (fun _ _ a c => zB zLH (a.ev rfl)) (Tq.va rfl (fun _ _ a c => zB Vg (a.ev rfl)) (Tq.va rfl (fun _ _ a c => zD zm (a.ev rfl) (zO.drop (zO.drop (rdR hbp0 hcp0 c) 0) 0) rfl) (Tq.va rfl (fun _ _ a c => zB4 (a.ev rfl) (a.ev rfl)) (Tq.va rfl (fun _ _ a c => zB Qy (a.ev rfl)) (Tq.va rfl (fun _ _ a c => zD zm (a.ev rfl) (rdb c (vs := [iv p2.X, iv p2.Y]) (k := 2) rfl 0) rfl) ?_)))))))
 refine Tq.va rfl (fun _ _ a c => zo (a.ev rfl) (a.ev rfl)) (Tq.va rfl (fun _ _ a c => zB Qx (a.ev rfl)) (Tq.va rfl (fun _ _ a c => zD zm (a.ev rfl) (rdb c (vs := [iv p1.X, iv p1.Y]) (k := 1) rfl 1) rfl) (Tq.mv rfl rfl (Tq.va rfl (fun _ _ a c => zl (a.ev rfl)) (Tq.va rfl (fun _ _ a c => zB zLH (a.ev rfl)) (Tq.va rfl (fun _ _ a c => zB Vg (a.ev rfl)) (Tq.va rfl (fun _ _ a c => zD zm (a.ev rfl) (zO.drop (zO.drop (rdR hbp0 hcp0 c) 0) 0) rfl) ?_)))))))
 refine Tq.va rfl (fun _ _ a c => zB4 (a.ev rfl) (a.ev rfl)) (Tq.va rfl (fun _ _ a c => zB Qx (a.ev rfl)) (Tq.va rfl (fun _ _ a c => zD zm (a.ev rfl) (rdb c (vs := [iv p2.X, iv p2.Y]) (k := 2) rfl 1) rfl) (Tq.va rfl (fun _ _ a c => zo (a.ev rfl) (a.ev rfl)) (Tq.nil (Tr.build (vs := [(0, iv (w64 ((w64 (p1.X * p0.p.Unit)) + p2.X))), (1, iv (w64 ((w64 (p1.Y * p0.p.Unit)) + p2.Y)))]) (cs := [iv (w64 ((w64 (p1.X * p0.p.Unit)) + p2.X)), iv (w64 ((w64 (p1.Y * p0.p.Unit)) + p2.Y))]) (wn rfl) rfl (zi rfl (zi rfl QW)) (by kernel_rfl) (Tr.store 3 (cs := [iv (w64 ((w64 (p1.X * p0.p.Unit)) + p2.X)), iv (w64 ((w64 (p1.Y * p0.p.Unit)) + p2.Y))]) [iv (w64 ((w64 (p1.X * p0.p.Unit)) + p2.X)), iv (w64 ((w64 (p1.Y * p0.p.Unit)) + p2.Y))] (wn rfl) rfl rfl rfl rfl JG rfl rfl rfl (Tr.nil (Tr.zA (Tr.ret ?_)))))))))
 obtain rfl := oI H
 exact Tr.out (m := [.agg #[iv (w64 ((w64 (p1.X * p0.p.Unit)) + p2.X)), iv (w64 ((w64 (p1.Y * p0.p.Unit)) + p2.Y))]]) [3] (VI rfl rfl Kk JG zV) (fun W hW => ⟨rfl, hW.low leB⟩)

theorem zGP {w : Bs} (p0 : Int) (p1 : Int) (p2 : Int) (r : Bool) (H : WO p0 p1 p2 = some r) (hE : HF w w.W E0) : Calls Tryz.prog 48 [iv p0, iv p1, iv p2].toArray w.W fun e W' => e = .returned (bV r) ∧ HF w W' E0 := by
 unfold WO at H
 have leB := Bs.Le.refl w
 refine Tr.enter (n := 15) Tryz.func48 rfl rfl rfl hE (Tr.sr (Tr.asg rfl rfl (Tr.nil (Tr.zA (Tr.sr (Tr.mv rfl rfl (Tr.mv rfl rfl (Tr.va rfl (fun _ _ a c => zFA (a.ev rfl) (a.ev rfl)) (Tr.mv rfl rfl (Tr.Vw 4 [(14, bV ((decide (p1 ≤ p0)) && (decide (p0 ≤ p2))))] [] ?_ ?_))))))))))
 ·cases ziS : (decide (p1 ≤ p0))
  ·exact Tr.pass rfl rfl rfl rfl rfl (by decide) (Tr.pass rfl rfl rfl rfl rfl (by decide) (Tr.pass rfl rfl rfl rfl rfl (by decide) (Tr.va rfl (fun _ _ a c => zy (a.ev rfl) (a.ev rfl)) (Tr.nil (Tr.JD (.cons rfl .nil) .nil)))))
  ·exact Tr.val (wg rfl rfl rfl) rfl (fun _ _ a c => run_move (a.ev rfl)) (Tr.val (wg rfl rfl rfl) rfl (fun _ _ a c => run_move (a.ev rfl)) (Tr.val (wg rfl rfl rfl) rfl (fun _ _ a c => zAX (a.ev rfl) (a.ev rfl)) (Tr.va rfl (fun _ _ a c => zx (a.ev rfl) (a.ev rfl)) (Tr.nil (Tr.JD (.cons rfl .nil) .nil)))))
 ·show Tr _ _ (LF [(14, bV ((decide (p1 ≤ p0)) && (decide (p0 ≤ p2))))]) (LE []) _
  refine Tr.asg rfl rfl (Tr.nil (Tr.zA (Tr.ret ?_)))
  obtain rfl := oI H
  exact Tr.out (m := [bV ((decide (p1 ≤ p0)) && (decide (p0 ≤ p2)))]) [] (zU rfl zV) (fun W hW => ⟨rfl, hW.low leB⟩)

theorem zAn {w : Bs} (p0 : Int) (r : Bool) (H : Vn p0 = some r) (hE : HF w w.W E0) : Calls Tryz.prog 42 [iv p0].toArray w.W fun e W' => e = .returned (bV r) ∧ HF w W' E0 := by
 unfold Vn at H
 have leB := Bs.Le.refl w
 refine Tr.enter (n := 5) Tryz.func42 rfl rfl rfl hE (Tr.sr (Tr.asg rfl rfl (Tr.nil (Tr.zA (Tr.sr (Tr.mv rfl rfl ?_))))))
 obtain ⟨QT, zBG, H⟩ := bnd H
 refine Tr.Qa (r := (bV QT)) (wn rfl) rfl Tryz.call48 (zH rfl (zH rfl (zH rfl zP))) (fun W hW => zGP p0 (-1000000) 1000000 QT zBG (HF.start _)) (Tr.asg rfl rfl (Tr.nil (Tr.zA (Tr.ret ?_))))
 obtain rfl := oI H
 exact Tr.out (m := [bV QT]) [] (zU rfl zV) (fun W hW => ⟨rfl, hW.low leB⟩)

theorem zAV {w : Bs} (p0 : zI) (r : Bool) (H : Kc p0 = some r) (hE : HF w w.W E0) : Calls Tryz.prog 14 [.agg #[iv p0.X, iv p0.Y]].toArray w.W fun e W' => e = .returned (bV r) ∧ HF w W' E0 := by
 unfold Kc at H
 have leB := Bs.Le.refl w
 refine Tr.enter (n := 11) Tryz.func14 rfl rfl rfl hE (Tr.sr (Tr.box 1 (cs := [iv p0.X, iv p0.Y]) (wn rfl) rfl rfl rfl fun zw => (Tr.asg rfl rfl (Tr.nil (Tr.zA (Tr.sr (Tr.va rfl (fun _ _ a c => zB Qy (a.ev rfl)) (Tr.va rfl (fun _ _ a c => zD zm (a.ev rfl) (rdb c (vs := [iv p0.X, iv p0.Y]) (k := 1) rfl 0) rfl) ?_))))))))
 obtain ⟨y101, hy101, H⟩ := bnd H
 refine Tr.Qa (r := (bV y101)) (wn rfl) rfl Tryz.call42 (zH rfl zP) (fun W hW => zAn p0.X y101 hy101 (HF.start _)) (Tr.mv rfl rfl ?_)
 obtain ⟨zF4, zBH, H⟩ := bnd H
 refine Tr.Vw 4 [(10, bV zF4)] [(1, bx zw #[iv p0.X, iv p0.Y] 27)] ?_ ?_
 ·cases zIp : y101
  ·rw [zIp] at zBH
   rw [if_neg (by decide)] at zBH
   have H := zBH
   obtain rfl := oI H
   exact Tr.pass rfl rfl rfl rfl rfl (by decide) (Tr.pass rfl rfl rfl rfl rfl (by decide) (Tr.pass rfl rfl rfl rfl rfl (by decide) (Tr.va rfl (fun _ _ a c => zy (a.ev rfl) (a.ev rfl)) (Tr.nil (Tr.JD (.cons rfl .nil) (.cons rfl .nil))))))
  ·rw [zIp] at zBH
   rw [if_pos rfl] at zBH
   have H := zBH
   refine Tr.val (wg rfl rfl rfl) rfl (fun _ _ a c => zB Qx (a.ev rfl)) (Tr.val (wg rfl rfl rfl) rfl (fun _ _ a c => zD zm (a.ev rfl) (rdb c (vs := [iv p0.X, iv p0.Y]) (k := 1) rfl 1) rfl) ?_)
   obtain ⟨y104, hy104, H⟩ := bnd H
   refine Tr.Qa (r := (bV y104)) (wg rfl rfl rfl) rfl Tryz.call42 (zH rfl zP) (fun W hW => zAn p0.Y y104 hy104 (HF.start _)) (Tr.va rfl (fun _ _ a c => zx (a.ev rfl) (a.ev rfl)) ?_)
   obtain rfl := oI H
   exact Tr.nil (Tr.JD (.cons rfl .nil) (.cons rfl .nil))
 ·show Tr _ _ (LF [(10, bV zF4)]) (LE [(1, bx zw #[iv p0.X, iv p0.Y] 27)]) _
  refine Tr.asg rfl rfl (Tr.nil (Tr.zA (Tr.ret ?_)))
  obtain rfl := oI H
  exact Tr.out (m := [bV zF4]) [] (zU rfl zV) (fun W hW => ⟨rfl, hW.low leB⟩)

theorem zJ3 {w : Bs} (p0 : zI) (p1 : zI) (r : Int) (H : zHy p0 p1 = some r) (hE : HF w w.W E0) : Calls Tryz.prog 124 [.agg #[iv p0.X, iv p0.Y], .agg #[iv p1.X, iv p1.Y]].toArray w.W fun e W' => e = .returned (iv r) ∧ HF w W' E0 := by
 unfold zHy at H
 have leB := Bs.Le.refl w
 refine Tr.enter (n := 28) Tryz.func124 rfl rfl rfl hE (Tr.sr (Tr.box 1 (cs := [iv p0.X, iv p0.Y]) (wn rfl) rfl rfl rfl fun zw => (Tr.box 2 (cs := [iv p1.X, iv p1.Y]) (wn rfl) rfl rfl rfl fun Qw => (Tr.asg rfl rfl (Tr.nil (Tr.zA (Tr.sr (Tr.va rfl (fun _ _ a c => zB Qy (a.ev rfl)) (Tr.va rfl (fun _ _ a c => zD zm (a.ev rfl) (rdb c (vs := [iv p0.X, iv p0.Y]) (k := 1) rfl 0) rfl) (Tr.va rfl (fun _ _ a c => zB Qy (a.ev rfl)) (Tr.va rfl (fun _ _ a c => zD zm (a.ev rfl) (rdb c (vs := [iv p1.X, iv p1.Y]) (k := 2) rfl 0) rfl) ?_)))))))))))
 refine Tr.va rfl (fun _ _ a c => zAA (a.ev rfl) (a.ev rfl)) (Tr.va rfl (fun _ _ a c => zB Qy (a.ev rfl)) (Tr.va rfl (fun _ _ a c => zD zm (a.ev rfl) (rdb c (vs := [iv p1.X, iv p1.Y]) (k := 2) rfl 0) rfl) (Tr.va rfl (fun _ _ a c => zB Qy (a.ev rfl)) (Tr.va rfl (fun _ _ a c => zD zm (a.ev rfl) (rdb c (vs := [iv p0.X, iv p0.Y]) (k := 1) rfl 0) rfl) (Tr.va rfl (fun _ _ a c => zAA (a.ev rfl) (a.ev rfl)) (Tr.va rfl (fun _ _ a c => zED (a.ev rfl) (a.ev rfl) _) ?_))))))
 refine Tr.va rfl (fun _ _ a c => zB Qx (a.ev rfl)) (Tr.va rfl (fun _ _ a c => zD zm (a.ev rfl) (rdb c (vs := [iv p0.X, iv p0.Y]) (k := 1) rfl 1) rfl) (Tr.va rfl (fun _ _ a c => zB Qx (a.ev rfl)) (Tr.va rfl (fun _ _ a c => zD zm (a.ev rfl) (rdb c (vs := [iv p1.X, iv p1.Y]) (k := 2) rfl 1) rfl) (Tr.va rfl (fun _ _ a c => zAA (a.ev rfl) (a.ev rfl)) (Tr.va rfl (fun _ _ a c => zB Qx (a.ev rfl)) (Tr.va rfl (fun _ _ a c => zD zm (a.ev rfl) (rdb c (vs := [iv p1.X, iv p1.Y]) (k := 2) rfl 1) rfl) ?_))))))
 refine Tr.va rfl (fun _ _ a c => zB Qx (a.ev rfl)) (Tr.va rfl (fun _ _ a c => zD zm (a.ev rfl) (rdb c (vs := [iv p0.X, iv p0.Y]) (k := 1) rfl 1) rfl) (Tr.va rfl (fun _ _ a c => zAA (a.ev rfl) (a.ev rfl)) (Tr.va rfl (fun _ _ a c => zED (a.ev rfl) (a.ev rfl) _) (Tr.va rfl (fun _ _ a c => zo (a.ev rfl) (a.ev rfl)) (Tr.asg rfl rfl (Tr.nil (Tr.zA (Tr.ret ?_))))))))
 obtain rfl := oI H
 exact Tr.out (m := [iv (w64 ((max (w64 (p0.X - p1.X)) (w64 (p1.X - p0.X))) + (max (w64 (p0.Y - p1.Y)) (w64 (p1.Y - p0.Y)))))]) [] (zU rfl zV) (fun W hW => ⟨rfl, hW.low leB⟩)

theorem Vz (N : Nat) {w : Bs} (p0 : (List zZ)) (zF : Option Addr) (zG : Nat) (zT : Sl w.R w.W zS zF zG p0) (r : (List zK)) (H : Jb N p0 = some r) (hE : HF w w.W (LEn [emp])) : Calls Tryz.prog 11 [sL zF p0 zG].toArray w.W fun e W' => ∃ u : (Option Addr × Nat), e = .returned (sL u.1 r u.2) ∧ (SlF u.1 r.length u.2) ∧ HF w W' (LEn [ow u.1 u.2 40 zR r]) := by
 unfold Jb at H
 have leB := Bs.Le.refl w
 refine Tr.enter (n := 41) Tryz.func11 rfl rfl rfl hE (Tr.sr (Tr.asg rfl rfl (Tr.JI 1 40 zR ?_)))
 show Tr _ _ (uf _ 2 (sL none (([] : List zK)) 0)) _ _
 refine Tr.nil (Tr.zA (Tr.sr (Tr.asg rfl rfl (Tr.JI 2 40 zR ?_))))
 show Tr _ _ (uf _ 3 (sL none (([] : List zK)) 0)) _ _
 refine Tr.nil (Tr.zA (Tr.seq (Tr.sr (Tr.mv rfl rfl (Tr.va rfl (fun _ _ a c => QF zEz (a.ev rfl)) (Tr.mv rfl rfl (Tr.nil (Tr.zA (Tr.block (Tr.loop (σ := (List zZ) × Nat × (List zK) × (Option Addr) × Nat) (fun m w s => m = s.1.length + 1 ∧ s.1 = List.drop s.2.1 p0 ∧ s.2.1 ≤ p0.length ∧ Qs N s.1 s.2.1 s.2.2.1 = some r ∧ SlF s.2.2.2.1 s.2.2.1.length s.2.2.2.2) (fun s => [(3, sL s.2.2.2.1 s.2.2.1 s.2.2.2.2), (7, sL zF p0 zG), (8, iv (p0.length : Int)), (9, iv (s.2.1 : Int))]) (fun s => [(2, ow s.2.2.2.1 s.2.2.2.2 40 zR s.2.2.1)]) (p0.length + 1) (p0, 0, ([] : List zK), none, 0) ⟨rfl, rfl, Nat.zero_le _, H, Kj⟩ (.cons rfl (.cons rfl (.cons rfl (.cons rfl .nil)))) (.cons rfl .nil) (fun _ _ h => absurd h.1 (by simp)) ?_))))))))))
 intro w WU m s hs
 obtain ⟨Qu, iL3, zDt, zGW, zGM⟩ := s
 obtain ⟨zHd, zAC, hiL3, H, zJw⟩ := hs
 replace zAC : Qu = List.drop iL3 p0 := zAC
 replace H : Qs N Qu iL3 zDt = some r := H
 replace zHd : m + 1 = Qu.length + 1 := zHd
 replace zT := zT.leR WU
 replace leB := leB.trans WU
 replace zJw : SlF zGW zDt.length zGM := zJw
 obtain rfl : m = Qu.length := by omega
 clear zHd
 dsimp only
 cases Qu with
 | nil =>
  rw [Qs.eq_1] at H
  refine Tr.sr (Tr.va rfl (fun _ _ a c => QD (a.ev rfl) (a.ev rfl)) (Tr.nil (Tr.zA (Tr.seq (Tr.Vy rfl (JA zAC) (Tr.exit (Tr.ze (Tr.ze (Tr.QK (Tr.zA (Tr.sr (Tr.mv rfl rfl (Tr.asg rfl rfl (Tr.nil (Tr.zA (Tr.ret ?_))))))))))))))))
  obtain rfl := oI H
  exact Tr.out (m := [sL zGW zDt zGM]) [] (zU rfl zV) (fun W hW => ⟨(zGW, zGM), rfl, zJw, HF.zGc leB (hW.pick (ks := [2]) (by decide) (zQ rfl za)) ⟨zCJ _ _ _ _ WN, trivial⟩⟩)
 | cons xL3 Qu =>
  rw [Qs.eq_2] at H
  refine Tr.sr (Tr.va rfl (fun _ _ a c => QD (a.ev rfl) (a.ev rfl)) (Tr.nil (Tr.zA (Tr.seq (Tr.Vx rfl (JU zAC) (Tr.skip (Tr.zA (Tr.seq (Tr.block (Tr.sr ?_))))))))))
  obtain ⟨zoG, hRu153, zcl, hcu153⟩ := (zT).el (KH zAC)
  obtain ⟨zAe, zB6⟩ := zoG
  have zDJ := zcl
  replace zDJ : Sl w.R w.W QR zAe zB6 xL3.Xs := zDJ
  refine Tr.va rfl (fun _ _ a c => zL zCh (a.ev rfl) zT.form (a.ev rfl) (Int.natCast_nonneg _) (QC zAC)) (Tr.va rfl (fun _ _ a c => zX (cs := [iv xL3.Y0, iv xL3.Y1, sL zAe xL3.Xs zB6]) zXA zMl (a.ev rfl) (zO.take (rdR hRu153 hcu153 c) 3) rfl) (Tr.alloc 11 (wn rfl) rfl zYM fun zPr => (Tr.store 11 (cs := [iv xL3.Y0, iv xL3.Y1, sL zAe xL3.Xs zB6]) [iv xL3.Y0, iv xL3.Y1, sL zAe xL3.Xs zB6] (wn rfl) rfl rfl rfl rfl zMl rfl rfl rfl (Tr.nil (Tr.zA (Tr.sr (Tr.asg rfl rfl (Tr.nil (Tr.zA (Tr.block (Tr.loop (σ := (List zK) × Int × (Option Addr) × Nat) (fun m w s => Je (Qs N Qu (iL3 + 1)) xL3 m s.1 s.2.1 = some r ∧ SlF s.2.2.1 s.1.length s.2.2.2) (fun s => [(3, sL s.2.2.1 s.1 s.2.2.2), (5, pV zPr), (6, iv s.2.1), (7, sL zF p0 zG), (8, iv (p0.length : Int)), (9, iv (iL3 : Int))]) (fun s => [(2, ow s.2.2.1 s.2.2.2 40 zR s.1), (11, bx zPr #[iv xL3.Y0, iv xL3.Y1, sL zAe xL3.Xs zB6] 80)]) N (zDt, 0, zGW, zGM) ⟨H, zJw⟩ (.cons rfl (.cons rfl (.cons rfl (.cons rfl (.cons rfl (.cons rfl .nil)))))) (.cons rfl (.cons rfl .nil)) (fun _ _ h => zAg (h.1)) ?_)))))))))))
  intro w zD5 mL4 s hs
  obtain ⟨zOc, zGl, zRE, zQ4⟩ := s
  obtain ⟨H, zaE⟩ := hs
  replace H : Je (Qs N Qu (iL3 + 1)) xL3 (mL4 + 1) zOc zGl = some r := H
  replace zDJ := zDJ.leR zD5
  replace zT := zT.leR zD5
  replace WU := WU.trans zD5
  replace zaE : SlF zRE zOc.length zQ4 := zaE
  rw [Je.eq_2] at H
  dsimp only
  refine Tr.seq (Tr.sr (Tr.mv rfl rfl (Tr.va rfl (fun _ _ a c => zB zCa (a.ev rfl)) (Tr.va rfl (fun _ _ a c => zD zCt (a.ev rfl) (rdb c (vs := [iv xL3.Y0, iv xL3.Y1, sL zAe xL3.Xs zB6]) (k := 11) rfl 2) rfl) (Tr.va rfl (fun _ _ a c => QF zCe (a.ev rfl)) (Tr.va rfl (fun _ _ a c => QD (a.ev rfl) (a.ev rfl)) (Tr.nil (Tr.zA (Tr.cond rfl H (fun H => ?_) (fun H => ?_))))))))))
  ·refine Tr.skip (Tr.zA (Tr.seq (Tr.block ?_)))
   obtain ⟨zJo, zlZ, H⟩ := bnd H
   obtain ⟨zhG, zhF, zhE⟩ := zq zlZ
   obtain ⟨zJn, zlY, H⟩ := bnd H
   obtain ⟨zhD, zhC, zhB⟩ := zq zlY
   refine Tr.zWe 18 [(17, .makeFunc (.func 0) #[] #[.tmp 36])] [(17, ⟨37, 14, .func (.func 0) #[] #[.agg #[iv zJo, iv xL3.Y0, iv zJn, iv xL3.Y1]], fun b => .slice (some ⟨b, 0, none⟩) 1 1, fun b => bx b #[iv zJo, iv xL3.Y0, iv zJn, iv xL3.Y1] 40⟩)] [(3, sL zRE zOc zQ4), (5, pV zPr), (6, iv zGl), (7, sL zF p0 zG), (8, iv (p0.length : Int)), (9, iv (iL3 : Int)), (13, iv zGl), (14, .pointer (some ⟨zPr, 2, none⟩)), (15, sL zAe xL3.Xs zB6), (16, iv (xL3.Xs.length : Int)), (17, bV (decide (zGl < (xL3.Xs.length : Int)))), (20, sL zRE zOc zQ4), (21, .pointer (some ⟨zPr, 2, none⟩)), (22, sL zAe xL3.Xs zB6), (23, iv zGl), (24, .pointer (some ⟨adB zAe, adO zAe + (zGl).toNat * 1, none⟩)), (25, iv zJo), (26, pV zPr), (27, iv xL3.Y0), (28, .pointer (some ⟨zPr, 2, none⟩)), (29, sL zAe xL3.Xs zB6), (30, iv zGl), (31, iv (w64 (zGl + 1))), (32, .pointer (some ⟨adB zAe, adO zAe + ((w64 (zGl + 1))).toNat * 1, none⟩)), (33, iv zJn), (34, .pointer (some ⟨zPr, 1, none⟩)), (35, iv xL3.Y1), (36, .agg #[iv zJo, iv xL3.Y0, iv zJn, iv xL3.Y1]), (37, .func (.func 0) #[] #[.agg #[iv zJo, iv xL3.Y0, iv zJn, iv xL3.Y1]])] (by kernel_rfl) (by kernel_rfl) (by kernel_rfl) (by kernel_rfl) (by kernel_rfl) (by kernel_rfl) (by kernel_rfl) (WE (zih (vs := [(0, .agg #[iv zJo, iv xL3.Y0, iv zJn, iv xL3.Y1])]) rfl rfl rfl (by kernel_rfl)) zBp) (WE rfl zBp) (WE rfl zBp) ?_ ?_
   ·refine Tq.mv rfl rfl (Tq.va rfl (fun _ _ a c => zB zCa (a.ev rfl)) (Tq.va rfl (fun _ _ a c => zD zCt (a.ev rfl) (rdb c (vs := [iv xL3.Y0, iv xL3.Y1, sL zAe xL3.Xs zB6]) (k := 11) rfl 2) rfl) (Tq.mv rfl rfl (Tq.va rfl (fun _ _ a c => zL zAr (a.ev rfl) zDJ.form (a.ev rfl) zhG zhF) (Tq.va rfl (fun _ _ a c => zD zm (a.ev rfl) (rdF WF zDJ zhE c) rfl) (Tq.va rfl (fun _ _ a c => zB zGF (a.ev rfl)) (Tq.va rfl (fun _ _ a c => zD zm (a.ev rfl) (rdb c (vs := [iv xL3.Y0, iv xL3.Y1, sL zAe xL3.Xs zB6]) (k := 11) rfl 0) rfl) (Tq.va rfl (fun _ _ a c => zB zCa (a.ev rfl)) ?_))))))))
    refine Tq.va rfl (fun _ _ a c => zD zCt (a.ev rfl) (rdb c (vs := [iv xL3.Y0, iv xL3.Y1, sL zAe xL3.Xs zB6]) (k := 11) rfl 2) rfl) (Tq.mv rfl rfl (Tq.va rfl (fun _ _ a c => zo (a.ev rfl) (a.ev rfl)) (Tq.va rfl (fun _ _ a c => zL zAr (a.ev rfl) zDJ.form (a.ev rfl) zhD zhC) (Tq.va rfl (fun _ _ a c => zD zm (a.ev rfl) (rdF WF zDJ zhB c) rfl) (Tq.va rfl (fun _ _ a c => zB zDd (a.ev rfl)) (Tq.va rfl (fun _ _ a c => zD zm (a.ev rfl) (rdb c (vs := [iv xL3.Y0, iv xL3.Y1, sL zAe xL3.Xs zB6]) (k := 11) rfl 1) rfl) (Tq.build (vs := [(0, iv zJo), (1, iv xL3.Y0), (2, iv zJn), (3, iv xL3.Y1)]) (cs := [iv zJo, iv xL3.Y0, iv zJn, iv xL3.Y1]) (wn rfl) rfl (zi rfl (zi rfl (zi rfl (zi rfl QW)))) (by kernel_rfl) ?_)))))))
    exact Tq.zFi (vs := [.agg #[iv zJo, iv xL3.Y0, iv zJn, iv xL3.Y1]]) (wn rfl) rfl (zH rfl zP) (Tq.fin (.cons rfl (.cons rfl (.cons rfl (.cons rfl (.cons rfl (.cons rfl (.cons rfl (.cons rfl (.cons rfl (.cons rfl (.cons rfl (.cons rfl (.cons rfl (.cons rfl (.cons rfl (.cons rfl (.cons rfl (.cons rfl (.cons rfl (.cons rfl (.cons rfl (.cons rfl (.cons rfl (.cons rfl (.cons rfl (.cons rfl (.cons rfl (.cons rfl (.cons rfl .nil))))))))))))))))))))))))))))))
   ·intro bs171
    refine Tr.sel (lf := [(5, pV zPr), (6, iv zGl), (7, sL zF p0 zG), (8, iv (p0.length : Int)), (9, iv (iL3 : Int)), (20, sL zRE zOc zQ4), (37, .slice (some ⟨(bs171 17), 0, none⟩) 1 1)]) (le := [(2, ow zRE zQ4 40 zR zOc), (11, bx zPr #[iv xL3.Y0, iv xL3.Y1, sL zAe xL3.Xs zB6] 80), (14, bx (bs171 17) #[iv zJo, iv xL3.Y0, iv zJn, iv xL3.Y1] 40)]) (.cons rfl (.cons rfl (.cons rfl (.cons rfl (.cons rfl (.cons rfl (.cons rfl .nil))))))) (.cons rfl (.cons rfl (.cons rfl .nil))) ?_
    obtain ⟨zfb, zmJ, H⟩ := bnd H
    exact Tr.append 2 (t := zR) (l := zOc) (l2 := [(zK.mk zJo xL3.Y0 zJn xL3.Y1)]) (wn rfl) rfl rfl rfl rfl (fun W hW => ⟨[[iv zJo, iv xL3.Y0, iv zJn, iv xL3.Y1]], (.cons ⟨(), trivial, rfl⟩ .nil), rdb hW (vs := [iv zJo, iv xL3.Y0, iv zJn, iv xL3.Y1]) (k := 14) rfl 0⟩) zA7 KM zSO (by decide) zUC rfl zmJ fun znU zm9 hAl174 => (Tr.asg rfl rfl (Tr.nil (Tr.zh (Tr.zA (Tr.region (Tr.mv rfl rfl (Tr.va rfl (fun _ _ a c => zo (a.ev rfl) (a.ev rfl)) (Tr.asg rfl rfl (Tr.nil (Tr.zf zD5 (zfb, (w64 (zGl + 2)), znU, zm9) ⟨H, hAl174⟩ (.cons rfl (.cons rfl (.cons rfl (.cons rfl (.cons rfl (.cons rfl .nil)))))) (.cons rfl (.cons rfl .nil))))))))))))
  ·exact Tr.exit (Tr.ze (Tr.ze (Tr.QK (Tr.zh (Tr.zA (Tr.region (Tr.va rfl (fun _ _ a c => zo (a.ev rfl) (a.ev rfl)) (Tr.mv rfl rfl (Tr.nil (Tr.zf WU (Qu, (iL3 + 1), zOc, zRE, zQ4) ⟨rfl, Qe zAC, QC zAC, H, zaE⟩ (.cons rfl (.cons rfl (.cons rfl (.cons (congrArg (fun z => some (Value.int .i64 z)) (Qd zAC zT.form)) .nil)))) (.cons rfl .nil)))))))))))

theorem zHt (N : Nat) {w : Bs} (p0 : (List zZ)) (zF : Option Addr) (zG : Nat) (zT : Sl w.R w.W zS zF zG p0) (p1 : Int) (p2 : Int) (p3 : Int) (p4 : Int) (r : (List zZ)) (H : Wu N p0 p1 p2 p3 p4 = some r) (hE : HF w w.W (LEn [emp])) : Calls Tryz.prog 137 [sL zF p0 zG, iv p1, iv p2, iv p3, iv p4].toArray w.W fun e W' => ∃ (w' : Bs) (u : (Option Addr × Nat)), w.Le w' ∧ e = .returned (sL u.1 r u.2) ∧ (SlF u.1 r.length u.2) ∧ HF w' W' (LEn [ow u.1 u.2 80 zS r]) := by
 unfold Wu at H
 have leB := Bs.Le.refl w
 refine Tr.enter (n := 46) Tryz.func137 rfl rfl rfl hE (Tr.sr (Tr.asg rfl rfl (Tr.JI 1 80 zS ?_)))
 show Tr _ _ (uf _ 10 (sL none (([] : List zZ)) 0)) _ _
 refine Tr.nil (Tr.zA (Tr.sr (Tr.mv rfl rfl ?_)))
 obtain ⟨QT, zBG, H⟩ := bnd H
 refine Tr.VB [2] [emp] (U := (Option Addr × Nat)) (fun u => (sL u.1 QT u.2)) (fun u => SlF u.1 QT.length u.2) (fun u => [ow u.1 u.2 40 zR QT]) rfl (zQ rfl za) (fun _ => rfl) (wn rfl) rfl Tryz.call11 (zH rfl zP) (fun W hW hp hE => Vz N p0 zF zG (zT.ext (hW.JE hp)) QT zBG hE) ?_
 intro u hu
 obtain ⟨JO, JM⟩ := u
 have gy100_0 := hu
 have zCK : SlF JO QT.length JM := gy100_0 --@phi
 dsimp only
 refine Tr.asg rfl rfl (Tr.nil (Tr.zA (Tr.seq (Tr.sr (Tr.mv rfl rfl (Tr.va rfl (fun _ _ a c => QF zA7 (a.ev rfl)) (Tr.mv rfl rfl (Tr.nil (Tr.zA (Tr.block (Tr.loop (σ := (List zK) × Int × (Option Addr) × Nat) (fun m w s => Jo N p1 p2 p3 p4 QT m s.1 s.2.1 = some r ∧ SlF s.2.2.1 s.1.length s.2.2.2) (fun s => [(1, iv p1), (2, iv p2), (3, iv p3), (4, iv p4), (11, sL s.2.2.1 s.1 s.2.2.2), (16, sL s.2.2.1 s.1 s.2.2.2), (17, iv (QT.length : Int)), (18, iv s.2.1)]) (fun s => [(2, ow s.2.2.1 s.2.2.2 40 zR s.1)]) N (QT, 0, JO, JM) ⟨H, zCK⟩ (.cons rfl (.cons rfl (.cons rfl (.cons rfl (.cons rfl (.cons rfl (.cons rfl (.cons rfl .nil)))))))) (.cons rfl .nil) (fun _ _ h => zAg (h.1)) ?_)))))))))))
 intro w Qc mL1 s hs
 obtain ⟨zRc, zGn, zNF, zNA⟩ := s
 obtain ⟨H, zTh⟩ := hs
 replace H : Jo N p1 p2 p3 p4 QT (mL1 + 1) zRc zGn = some r := H
 replace leB := leB.trans Qc
 replace zTh : SlF zNF zRc.length zNA := zTh
 rw [Jo.eq_2] at H
 dsimp only
 refine Tr.sr (Tr.va rfl (fun _ _ a c => QD (a.ev rfl) (a.ev rfl)) (Tr.nil (Tr.zA (Tr.seq (Tr.cond rfl H (fun H => ?_) (fun H => ?_))))))
 ·refine Tr.skip (Tr.zA (Tr.seq (Tr.block (Tr.sr (Tr.mv rfl rfl ?_)))))
  obtain ⟨QY, zZx, H⟩ := bnd H
  obtain ⟨zVG, zVF, hx1182⟩ := zq zZx
  refine Tr.va rfl (fun _ _ a c => zL zB5 (a.ev rfl) zTh (a.ev rfl) zVG zVF) (Tr.va rfl (fun _ _ a c => zX (cs := [iv QY.X0, iv QY.Y0, iv QY.X1, iv QY.Y1]) zAu KM (a.ev rfl) (zO.take (rdo VP (k := 2) c rfl hx1182) 4) rfl) (Tr.alloc 5 (wn rfl) rfl zDE fun zYD => (Tr.asg rfl rfl (Tr.store 5 (cs := [iv QY.X0, iv QY.Y0, iv QY.X1, iv QY.Y1]) [iv QY.X0, iv QY.Y0, iv QY.X1, iv QY.Y1] (wn rfl) rfl rfl rfl rfl KM rfl rfl rfl (Tr.nil (Tr.zA (Tr.region (Tr.mv rfl rfl (Tr.mv rfl rfl (Tr.va rfl (fun _ _ a c => zB WX (a.ev rfl)) (Tr.va rfl (fun _ _ a c => zD zm (a.ev rfl) (rdb c (vs := [iv QY.X0, iv QY.Y0, iv QY.X1, iv QY.Y1]) (k := 5) rfl 0) rfl) (Tr.mv rfl rfl (Tr.va rfl (fun _ _ a c => zAA (a.ev rfl) (a.ev rfl)) ?_)))))))))))))
  refine Tr.va rfl (fun _ _ a c => zB zAq (a.ev rfl)) (Tr.va rfl (fun _ _ a c => zD zm (a.ev rfl) (rdb c (vs := [iv QY.X0, iv QY.Y0, iv QY.X1, iv QY.Y1]) (k := 5) rfl 1) rfl) (Tr.mv rfl rfl (Tr.va rfl (fun _ _ a c => zAA (a.ev rfl) (a.ev rfl)) (Tr.va rfl (fun _ _ a c => zB zC0 (a.ev rfl)) (Tr.va rfl (fun _ _ a c => zD zm (a.ev rfl) (rdb c (vs := [iv QY.X0, iv QY.Y0, iv QY.X1, iv QY.Y1]) (k := 5) rfl 2) rfl) (Tr.mv rfl rfl (Tr.va rfl (fun _ _ a c => zo (a.ev rfl) (a.ev rfl)) (Tr.va rfl (fun _ _ a c => zB zDe (a.ev rfl)) ?_))))))))
  refine Tr.va rfl (fun _ _ a c => zD zm (a.ev rfl) (rdb c (vs := [iv QY.X0, iv QY.Y0, iv QY.X1, iv QY.Y1]) (k := 5) rfl 3) rfl) (Tr.mv rfl rfl (Tr.va rfl (fun _ _ a c => zo (a.ev rfl) (a.ev rfl)) (Tr.build (vs := [(0, iv (w64 (QY.X0 - p1))), (1, iv (w64 (QY.Y0 - p3))), (2, iv (w64 (QY.X1 + p2))), (3, iv (w64 (QY.Y1 + p4)))]) (cs := [iv (w64 (QY.X0 - p1)), iv (w64 (QY.Y0 - p3)), iv (w64 (QY.X1 + p2)), iv (w64 (QY.Y1 + p4))]) (wn rfl) rfl (zi rfl (zi rfl (zi rfl (zi rfl QW)))) (by kernel_rfl) ?_)))
  obtain ⟨zYc, zZv, H⟩ := bnd H
  obtain ⟨hx1200, hx1201, hx1202⟩ := zq zZv
  refine Tr.va rfl (fun _ _ a c => zL zB5 (a.ev rfl) zTh (a.ev rfl) hx1200 hx1201) ?_
  obtain ⟨zTM, zeS, H⟩ := bnd H
  have zRp := zCG zeS
  refine Tr.zCz 2 (t := zR) (l := zRc) (i := zGn) (fo := 0) (cs := [iv (w64 (QY.X0 - p1)), iv (w64 (QY.Y0 - p3)), iv (w64 (QY.X1 + p2)), iv (w64 (QY.Y1 + p4))]) (zK.mk (w64 (QY.X0 - p1)) (w64 (QY.Y0 - p3)) (w64 (QY.X1 + p2)) (w64 (QY.Y1 + p4))) (wn rfl) rfl rfl rfl rfl rfl hx1202 KM rfl (fun u _ => ⟨u, trivial, rfl⟩) rfl zeS ?_
  have ziZ : SlF zNF zTM.length zNA := by rw [zRp]; exact zTh
  exact Tr.sel (lf := [(1, iv p1), (2, iv p2), (3, iv p3), (4, iv p4), (11, sL zNF zTM zNA), (12, iv zGn), (13, pV zYD), (16, sL zNF zTM zNA), (17, iv (QT.length : Int)), (18, iv zGn), (19, bV (decide (zGn < (QT.length : Int)))), (20, iv zGn), (22, .agg #[iv QY.X0, iv QY.Y0, iv QY.X1, iv QY.Y1]), (23, sL zNF zTM zNA), (24, iv zGn), (25, pV zYD), (26, iv QY.X0), (27, iv p1), (28, iv (w64 (QY.X0 - p1))), (29, .pointer (some ⟨zYD, 1, none⟩)), (30, iv QY.Y0), (31, iv p3), (32, iv (w64 (QY.Y0 - p3))), (33, .pointer (some ⟨zYD, 2, none⟩)), (34, iv QY.X1), (35, iv p2), (36, iv (w64 (QY.X1 + p2))), (37, .pointer (some ⟨zYD, 3, none⟩)), (38, iv QY.Y1), (39, iv p4), (40, iv (w64 (QY.Y1 + p4))), (41, .agg #[iv (w64 (QY.X0 - p1)), iv (w64 (QY.Y0 - p3)), iv (w64 (QY.X1 + p2)), iv (w64 (QY.Y1 + p4))])]) (le := [(2, ow zNF zNA 40 zR zTM), (5, bx zYD #[iv QY.X0, iv QY.Y0, iv QY.X1, iv QY.Y1] 40)]) (.cons rfl (.cons rfl (.cons rfl (.cons rfl (.cons (Km rfl (by unfold sL; rw [zRp])) (.cons rfl (.cons rfl (.cons (Km rfl (by unfold sL; rw [zRp])) (.cons rfl (.cons rfl (.cons rfl (.cons rfl (.cons rfl (.cons (Km rfl (by unfold sL; rw [zRp])) (.cons rfl (.cons rfl (.cons rfl (.cons rfl (.cons rfl (.cons rfl (.cons rfl (.cons rfl (.cons rfl (.cons rfl (.cons rfl (.cons rfl (.cons rfl (.cons rfl (.cons rfl (.cons rfl (.cons rfl (.cons rfl .nil)))))))))))))))))))))))))))))))) (.cons rfl (.cons rfl .nil)) (Tr.nil (Tr.zh (Tr.zA (Tr.region (Tr.va rfl (fun _ _ a c => zo (a.ev rfl) (a.ev rfl)) (Tr.mv rfl rfl (Tr.nil (Tr.zf Qc (zTM, (w64 (zGn + 1)), zNF, zNA) ⟨H, ziZ⟩ (.cons rfl (.cons rfl (.cons rfl (.cons rfl (.cons rfl (.cons rfl (.cons rfl (.cons rfl .nil)))))))) (.cons rfl .nil)))))))))
 ·refine Tr.exit (Tr.ze (Tr.ze (Tr.QK (Tr.zA (Tr.sr (Tr.mv rfl rfl ?_))))))
  obtain ⟨Vj, zTW, H⟩ := bnd H
  refine Tr.VC [6] [emp] (U := (Option Addr × Nat)) (fun u => (sL u.1 Vj u.2)) (fun O W u => SlF u.1 Vj.length u.2) (fun u => [ow u.1 u.2 80 zS Vj]) rfl (zQ rfl za) (fun _ => rfl) (wn rfl) rfl Tryz.call23 (zH rfl zP) (fun W hW hp hE => zBM N zRc zNF zNA (hW.slS (k := 2) rfl hp rfl) Vj zTW hE) ?_
  intro w u zj2 hu
  obtain ⟨Kg, VM⟩ := u
  have gy122_0 := hu
  replace leB := leB.trans zj2
  have zIo : SlF Kg Vj.length VM := gy122_0 --@phi
  dsimp only
  refine Tr.asg rfl rfl (Tr.nil (Tr.zA (Tr.ret ?_)))
  obtain rfl := oI H
  exact Tr.out (m := [sL Kg Vj VM]) [] (zU rfl zV) (fun W hW => ⟨w, (Kg, VM), leB, rfl, zIo, hW.pick (ks := [6]) (by decide) (zQ rfl za)⟩)

theorem zIJ (N : Nat) {w : Bs} (p0 : (List zZ)) (zF : Option Addr) (zG : Nat) (zT : Sl w.R w.W zS zF zG p0) (p1 : zI) (p2 : zI) (r : (List zZ)) (H : zBj N p0 p1 p2 = some r) (hE : HF w w.W (LEn [emp])) : Calls Tryz.prog 126 [sL zF p0 zG, .agg #[iv p1.X, iv p1.Y], .agg #[iv p2.X, iv p2.Y]].toArray w.W fun e W' => ∃ (w' : Bs) (u : (Option Addr × Nat)), w.Le w' ∧ e = .returned (sL u.1 r u.2) ∧ (SlF u.1 r.length u.2) ∧ HF w' W' (LEn [ow u.1 u.2 80 zS r]) := by
 unfold zBj at H
 have leB := Bs.Le.refl w
 refine Tr.enter (n := 39) Tryz.func126 rfl rfl rfl hE (Tr.sr (Tr.box 1 (cs := [iv p1.X, iv p1.Y]) (wn rfl) rfl rfl rfl fun zw => (Tr.box 2 (cs := [iv p2.X, iv p2.Y]) (wn rfl) rfl rfl rfl fun Qw => (Tr.asg rfl rfl (Tr.JI 3 80 zS ?_)))))
 show Tr _ _ (uf _ 6 (sL none (([] : List zZ)) 0)) _ _
 refine Tr.nil (Tr.zA (Tr.seq (Tr.draw (by kernel_rfl) (by kernel_rfl) (Tq.va rfl (fun _ _ a c => zB Qy (a.ev rfl)) (Tq.va rfl (fun _ _ a c => zD zm (a.ev rfl) (rdb c (vs := [iv p1.X, iv p1.Y]) (k := 1) rfl 0) rfl) (Tq.va rfl (fun _ _ a c => zB Qy (a.ev rfl)) (Tq.va rfl (fun _ _ a c => zD zm (a.ev rfl) (rdb c (vs := [iv p2.X, iv p2.Y]) (k := 2) rfl 0) rfl) (Tq.va rfl (fun _ _ a c => zEC (a.ev rfl) (a.ev rfl) _) (Tq.va rfl (fun _ _ a c => zB Qx (a.ev rfl)) ?_)))))))))
 refine Tq.va rfl (fun _ _ a c => zD zm (a.ev rfl) (rdb c (vs := [iv p1.X, iv p1.Y]) (k := 1) rfl 1) rfl) (Tq.va rfl (fun _ _ a c => zB Qx (a.ev rfl)) (Tq.va rfl (fun _ _ a c => zD zm (a.ev rfl) (rdb c (vs := [iv p2.X, iv p2.Y]) (k := 2) rfl 1) rfl) (Tq.va rfl (fun _ _ a c => zEC (a.ev rfl) (a.ev rfl) _) (Tq.va rfl (fun _ _ a c => zB Qy (a.ev rfl)) (Tq.va rfl (fun _ _ a c => zD zm (a.ev rfl) (rdb c (vs := [iv p1.X, iv p1.Y]) (k := 1) rfl 0) rfl) (Tq.va rfl (fun _ _ a c => zB Qy (a.ev rfl)) ?_))))))
 refine Tq.va rfl (fun _ _ a c => zD zm (a.ev rfl) (rdb c (vs := [iv p2.X, iv p2.Y]) (k := 2) rfl 0) rfl) (Tq.va rfl (fun _ _ a c => zED (a.ev rfl) (a.ev rfl) _) (Tq.va rfl (fun _ _ a c => zB Qx (a.ev rfl)) (Tq.va rfl (fun _ _ a c => zD zm (a.ev rfl) (rdb c (vs := [iv p1.X, iv p1.Y]) (k := 1) rfl 1) rfl) (Tq.va rfl (fun _ _ a c => zB Qx (a.ev rfl)) (Tq.va rfl (fun _ _ a c => zD zm (a.ev rfl) (rdb c (vs := [iv p2.X, iv p2.Y]) (k := 2) rfl 1) rfl) (Tq.va rfl (fun _ _ a c => zED (a.ev rfl) (a.ev rfl) _) ?_))))))
 refine Tq.asg rfl rfl (Tq.asg rfl rfl (Tq.asg rfl rfl (Tq.asg rfl rfl (Tq.nil (Tr.zA (Tr.sr (Tr.mv rfl rfl (Tr.mv rfl rfl (Tr.va rfl (fun _ _ a c => zNS (a.ev rfl)) (Tr.mv rfl rfl (Tr.mv rfl rfl (Tr.va rfl (fun _ _ a c => zNS (a.ev rfl)) (Tr.mv rfl rfl ?_)))))))))))))
 obtain ⟨y102, hy102, H⟩ := bnd H
 refine Tr.VC [4] [emp] (U := (Option Addr × Nat)) (fun u => (sL u.1 y102 u.2)) (fun O W u => SlF u.1 y102.length u.2) (fun u => [ow u.1 u.2 80 zS y102]) rfl (zQ rfl za) (fun _ => rfl) (wn rfl) rfl Tryz.call137 (zH rfl (zH rfl (zH rfl (zH rfl (zH rfl zP))))) (fun W hW hp hE => zHt N p0 zF zG (zT.ext (hW.JE hp)) (w64 (0 - (min p1.X p2.X))) (max p1.X p2.X) (w64 (0 - (min p1.Y p2.Y))) (max p1.Y p2.Y) y102 hy102 hE) ?_
 intro w u zZR hu
 obtain ⟨zJi, zJd⟩ := u
 have gy102_0 := hu
 replace leB := leB.trans zZR
 have zTn : SlF zJi y102.length zJd := gy102_0 --@phi
 dsimp only
 refine Tr.asg rfl rfl (Tr.nil (Tr.zA (Tr.ret ?_)))
 obtain rfl := oI H
 exact Tr.out (m := [sL zJi y102 zJd]) [] (zU rfl zV) (fun W hW => ⟨w, (zJi, zJd), leB, rfl, zTn, hW.pick (ks := [4]) (by decide) (zQ rfl za)⟩)

theorem zHv {w : Bs} (p0 : (List zZ)) (zF : Option Addr) (zG : Nat) (zT : Sl w.R w.W zS zF zG p0) (r : zK) (H : Ww p0 = some r) (hE : HF w w.W E0) : Calls Tryz.prog 58 [sL zF p0 zG].toArray w.W fun e W' => e = .returned (.agg #[iv r.X0, iv r.Y0, iv r.X1, iv r.Y1]) ∧ HF w W' E0 := by
 unfold Ww at H
 have leB := Bs.Le.refl w
 refine Tr.enter (n := 58) Tryz.func58 rfl rfl rfl hE (Tr.sr (Tr.alloc 1 (wn rfl) rfl zDE fun zw => (Tr.nil (Tr.zA (Tr.seq ?_)))))
 obtain ⟨x102, hx102, H⟩ := bnd H
 obtain ⟨zVM, zVL, zVK⟩ := zq hx102
 obtain ⟨ze3, hRu103, zRj, hcu103⟩ := (zT).el zVK
 obtain ⟨zLt, zR7⟩ := ze3
 obtain ⟨x104, hx104, H⟩ := bnd H
 obtain ⟨zOq, zOp, zOo⟩ := zq hx104
 obtain ⟨x105, zZy, H⟩ := bnd H
 obtain ⟨zVJ, zVI, zVH⟩ := zq zZy
 obtain ⟨ze2, hRu106, zRh, hcu106⟩ := (zT).el zVH
 obtain ⟨zNx, zNl⟩ := ze2
 obtain ⟨x107, zlu, H⟩ := bnd H
 obtain ⟨ziH, ziG, ziF⟩ := zq zlu
 obtain ⟨zoN, hRu108, zct, hcu108⟩ := (zT).el ziF
 obtain ⟨zNw, zW1⟩ := zoN
 obtain ⟨zPh, zlt, H⟩ := bnd H
 obtain ⟨ziE, ziD, ziC⟩ := zq zlt
 obtain ⟨zE7, zls, H⟩ := bnd H
 obtain ⟨ziB, ziA, zh9⟩ := zq zls
 obtain ⟨zoM, hRu111, zcs, hcu111⟩ := (zT).el zh9
 obtain ⟨znw, znm⟩ := zoM
 refine Tr.zWe 25 [(24, .makeFunc (.func 0) #[] #[])] [(24, ⟨3, 2, .func (.func 0) #[] #[], fun b => pV b, fun b => bx b #[iv 0, iv 0, iv 0, iv 0] 40⟩)] [(0, sL zF p0 zG), (2, pV zw), (3, .func (.func 0) #[] #[]), (6, sL zF p0 zG), (7, .pointer (some ⟨adB zF, adO zF + ((0 : Int)).toNat * 3, none⟩)), (8, .pointer (some ⟨adB zF, adO zF + ((0 : Int)).toNat * 3 + 2, none⟩)), (9, sL zLt x102.Xs zR7), (10, .pointer (some ⟨adB zLt, adO zLt + ((0 : Int)).toNat * 1, none⟩)), (11, iv x104), (12, sL zF p0 zG), (13, .pointer (some ⟨adB zF, adO zF + ((0 : Int)).toNat * 3, none⟩)), (14, .pointer (some ⟨adB zF, adO zF + ((0 : Int)).toNat * 3 + 0, none⟩)), (15, iv x105.Y0), (16, sL zF p0 zG), (17, .pointer (some ⟨adB zF, adO zF + ((0 : Int)).toNat * 3, none⟩)), (18, .pointer (some ⟨adB zF, adO zF + ((0 : Int)).toNat * 3 + 2, none⟩)), (19, sL zNw x107.Xs zW1), (20, .pointer (some ⟨adB zNw, adO zNw + ((1 : Int)).toNat * 1, none⟩)), (21, iv zPh), (22, sL zF p0 zG), (23, sL zF p0 zG), (24, iv (p0.length : Int)), (25, iv (w64 ((p0.length : Int) - 1))), (26, .pointer (some ⟨adB zF, adO zF + ((w64 ((p0.length : Int) - 1))).toNat * 3, none⟩)), (27, .pointer (some ⟨adB zF, adO zF + ((w64 ((p0.length : Int) - 1))).toNat * 3 + 1, none⟩)), (28, iv zE7.Y1), (29, .agg #[iv x104, iv x105.Y0, iv zPh, iv zE7.Y1])] (by kernel_rfl) (by kernel_rfl) (by kernel_rfl) (by kernel_rfl) (by kernel_rfl) (by kernel_rfl) (by kernel_rfl) (WE (zLD rfl rfl zDE) zBp) (WE rfl zBp) (WE rfl zBp) ?_ ?_
 ·refine Tq.mv rfl rfl ?_
  have zGz := zRj
  replace zGz : Sl w.R w.W QR zLt zR7 x102.Xs := zGz
  refine Tq.va rfl (fun _ _ a c => zL zCh (a.ev rfl) zT.form (a.ev rfl) zVM zVL) (Tq.va rfl (fun _ _ a c => zB zCa (a.ev rfl)) (Tq.va rfl (fun _ _ a c => zD zCt (a.ev rfl) (zO.drop (rdR hRu103 hcu103 c) 2) rfl) (Tq.va rfl (fun _ _ a c => zL zAr (a.ev rfl) zGz.form (a.ev rfl) zOq zOp) (Tq.va rfl (fun _ _ a c => zD zm (a.ev rfl) (rdF WF zGz zOo c) rfl) (Tq.mv rfl rfl ?_)))))
  have zJR := zRh
  refine Tq.va rfl (fun _ _ a c => zL zCh (a.ev rfl) zT.form (a.ev rfl) zVJ zVI) (Tq.va rfl (fun _ _ a c => zB zGF (a.ev rfl)) (Tq.va rfl (fun _ _ a c => zD zm (a.ev rfl) (zO.drop (rdR hRu106 hcu106 c) 0) rfl) (Tq.mv rfl rfl ?_)))
  have zJP := zct
  replace zJP : Sl w.R w.W QR zNw zW1 x107.Xs := zJP
  refine Tq.va rfl (fun _ _ a c => zL zCh (a.ev rfl) zT.form (a.ev rfl) ziH ziG) (Tq.va rfl (fun _ _ a c => zB zCa (a.ev rfl)) (Tq.va rfl (fun _ _ a c => zD zCt (a.ev rfl) (zO.drop (rdR hRu108 hcu108 c) 2) rfl) (Tq.va rfl (fun _ _ a c => zL zAr (a.ev rfl) zJP.form (a.ev rfl) ziE ziD) (Tq.va rfl (fun _ _ a c => zD zm (a.ev rfl) (rdF WF zJP ziC c) rfl) (Tq.mv rfl rfl (Tq.mv rfl rfl (Tq.va rfl (fun _ _ a c => QF zEz (a.ev rfl)) (Tq.va rfl (fun _ _ a c => zAA (a.ev rfl) (a.ev rfl)) ?_))))))))
  have zi7 := zcs
  exact Tq.va rfl (fun _ _ a c => zL zCh (a.ev rfl) zT.form (a.ev rfl) ziB ziA) (Tq.va rfl (fun _ _ a c => zB zDd (a.ev rfl)) (Tq.va rfl (fun _ _ a c => zD zm (a.ev rfl) (zO.drop (rdR hRu111 hcu111 c) 1) rfl) (Tq.build (vs := [(0, iv x104), (1, iv x105.Y0), (2, iv zPh), (3, iv zE7.Y1)]) (cs := [iv x104, iv x105.Y0, iv zPh, iv zE7.Y1]) (wn rfl) rfl (zi rfl (zi rfl (zi rfl (zi rfl QW)))) (by kernel_rfl) (Tq.zFi (vs := []) (wn rfl) rfl zP (Tq.fin (.cons rfl (.cons rfl (.cons rfl (.cons rfl (.cons rfl (.cons rfl (.cons rfl (.cons rfl (.cons rfl (.cons rfl (.cons rfl (.cons rfl (.cons rfl (.cons rfl (.cons rfl (.cons rfl (.cons rfl (.cons rfl (.cons rfl (.cons rfl (.cons rfl (.cons rfl (.cons rfl (.cons rfl (.cons rfl (.cons rfl (.cons rfl .nil))))))))))))))))))))))))))))))))
 ·intro bs101
  refine Tr.sel (lf := [(0, sL zF p0 zG), (2, pV zw), (3, .pointer (some ⟨(bs101 24), 0, none⟩)), (29, .agg #[iv x104, iv x105.Y0, iv zPh, iv zE7.Y1])]) (le := [(1, bx zw #[iv 0, iv 0, iv 0, iv 0] 40), (2, bx (bs101 24) #[iv 0, iv 0, iv 0, iv 0] 40)]) (.cons rfl (.cons rfl (.cons rfl (.cons rfl .nil)))) (.cons rfl (.cons rfl .nil)) (Tr.store 2 (cs := [iv x104, iv x105.Y0, iv zPh, iv zE7.Y1]) [iv x104, iv x105.Y0, iv zPh, iv zE7.Y1] (wn rfl) rfl rfl rfl rfl KM rfl rfl rfl (Tr.nil (Tr.zA (Tr.seq (Tr.sr (Tr.mv rfl rfl (Tr.va rfl (fun _ _ a c => QF zEz (a.ev rfl)) (Tr.mv rfl rfl (Tr.nil (Tr.zA (Tr.block (Tr.loop (σ := (List zZ) × Nat × Int × Int) (fun m w s => m = s.1.length + 1 ∧ s.1 = List.drop s.2.1 p0 ∧ s.2.1 ≤ p0.length ∧ Jq x105 zE7 s.1 s.2.1 s.2.2.1 s.2.2.2 = some r) (fun s => [(2, pV zw), (3, .pointer (some ⟨(bs101 24), 0, none⟩)), (30, sL zF p0 zG), (31, iv (p0.length : Int)), (32, iv (s.2.1 : Int))]) (fun s => [(1, bx zw #[iv 0, iv 0, iv 0, iv 0] 40), (2, bx (bs101 24) #[iv s.2.2.1, iv x105.Y0, iv s.2.2.2, iv zE7.Y1] 40)]) (p0.length + 1) (p0, 0, x104, zPh) ⟨rfl, rfl, Nat.zero_le _, H⟩ (.cons rfl (.cons rfl (.cons rfl (.cons rfl (.cons rfl .nil))))) (.cons rfl (.cons rfl .nil)) (fun _ _ h => absurd h.1 (by simp)) ?_))))))))))))
  intro w Qc m s hs
  obtain ⟨zY, iL1, zEs, zHM⟩ := s
  obtain ⟨Ki, QE, hiL1, H⟩ := hs
  replace QE : zY = List.drop iL1 p0 := QE
  replace H : Jq x105 zE7 zY iL1 zEs zHM = some r := H
  replace Ki : m + 1 = zY.length + 1 := Ki
  replace zT := zT.leR Qc
  replace leB := leB.trans Qc
  obtain rfl : m = zY.length := by omega
  clear Ki
  dsimp only
  cases zY with
  | nil =>
   rw [Jq.eq_1] at H
   refine Tr.sr (Tr.va rfl (fun _ _ a c => QD (a.ev rfl) (a.ev rfl)) (Tr.nil (Tr.zA (Tr.seq (Tr.Vy rfl (JA QE) (Tr.exit (Tr.ze (Tr.ze (Tr.QK (Tr.zA (Tr.sr (Tr.va rfl (fun _ _ a c => zX (cs := [iv zEs, iv x105.Y0, iv zHM, iv zE7.Y1]) zAu KM (a.ev rfl) (zO.take (rdb c (vs := [iv zEs, iv x105.Y0, iv zHM, iv zE7.Y1]) (k := 2) rfl 0) 4) rfl) (Tr.store 1 (cs := [iv zEs, iv x105.Y0, iv zHM, iv zE7.Y1]) [iv zEs, iv x105.Y0, iv zHM, iv zE7.Y1] (wn rfl) rfl rfl rfl rfl KM rfl rfl rfl (Tr.nil (Tr.zA (Tr.ret ?_))))))))))))))))
   obtain rfl := oI H
   exact Tr.out (m := [.agg #[iv zEs, iv x105.Y0, iv zHM, iv zE7.Y1]]) [1] (VI rfl rfl zAu KM zV) (fun W hW => ⟨rfl, hW.low leB⟩)
  | cons xL1 zY =>
   rw [Jq.eq_2] at H
   refine Tr.sr (Tr.va rfl (fun _ _ a c => QD (a.ev rfl) (a.ev rfl)) (Tr.nil (Tr.zA (Tr.seq (Tr.Vx rfl (JU QE) (Tr.skip (Tr.zA (Tr.seq (Tr.block (Tr.sr ?_))))))))))
   obtain ⟨zoI, hRu135, zcn, hcu135⟩ := (zT).el (KH QE)
   obtain ⟨zCB, zC3⟩ := zoI
   have zFY := zcn
   replace zFY : Sl w.R w.W QR zCB zC3 xL1.Xs := zFY
   refine Tr.va rfl (fun _ _ a c => zL zCh (a.ev rfl) zT.form (a.ev rfl) (Int.natCast_nonneg _) (QC QE)) (Tr.va rfl (fun _ _ a c => zX (cs := [iv xL1.Y0, iv xL1.Y1, sL zCB xL1.Xs zC3]) zXA zMl (a.ev rfl) (zO.take (rdR hRu135 hcu135 c) 3) rfl) (Tr.alloc 5 (wn rfl) rfl zYM fun zdX => (Tr.store 5 (cs := [iv xL1.Y0, iv xL1.Y1, sL zCB xL1.Xs zC3]) [iv xL1.Y0, iv xL1.Y1, sL zCB xL1.Xs zC3] (wn rfl) rfl rfl rfl rfl zMl rfl rfl rfl (Tr.nil (Tr.zA (Tr.zJy 20 [(19, fun x => x = (bs101 24))] [] (by kernel_rfl) (by kernel_rfl) fun zYr zl6 znZ => (Dr.quiet 0 [(36, .pointer (some ⟨(bs101 24), 0, none⟩))] (by kernel_rfl) rfl rfl (by kernel_rfl) ?_ rfl rfl ?_)))))))
   ·exact Tq.va rfl (fun _ _ a c => zB WX (a.ev rfl)) (Tq.fin (.cons rfl .nil))
   refine Dr.quiet 1 [(37, iv zEs)] (by kernel_rfl) rfl rfl (by kernel_rfl) ?_ rfl rfl ?_
   ·exact Tq.va rfl (fun _ _ a c => zD zm (a.ev rfl) (rdb c (vs := [iv zEs, iv x105.Y0, iv zHM, iv zE7.Y1]) (k := 2) rfl 0) rfl) (Tq.fin (.cons rfl .nil))
   refine Dr.quiet 2 [(38, .pointer (some ⟨zdX, 2, none⟩))] (by kernel_rfl) rfl rfl (by kernel_rfl) ?_ rfl rfl ?_
   ·exact Tq.va rfl (fun _ _ a c => zB zCa (a.ev rfl)) (Tq.fin (.cons rfl .nil))
   refine Dr.quiet 3 [(39, sL zCB xL1.Xs zC3)] (by kernel_rfl) rfl rfl (by kernel_rfl) ?_ rfl rfl ?_
   ·exact Tq.va rfl (fun _ _ a c => zD zCt (a.ev rfl) (rdb c (vs := [iv xL1.Y0, iv xL1.Y1, sL zCB xL1.Xs zC3]) (k := 5) rfl 2) rfl) (Tq.fin (.cons rfl .nil))
   obtain ⟨zSY, zlh, H⟩ := bnd H
   obtain ⟨zhj, zhi, zhh⟩ := zq zlh
   refine Dr.quiet 4 [(40, .pointer (some ⟨adB zCB, adO zCB + ((0 : Int)).toNat * 1, none⟩))] (by kernel_rfl) rfl rfl (by kernel_rfl) ?_ rfl rfl ?_
   ·exact Tq.va rfl (fun _ _ a c => zL zAr (a.ev rfl) zFY.form (a.ev rfl) zhj zhi) (Tq.fin (.cons rfl .nil))
   refine Dr.quiet 5 [(41, iv zSY)] (by kernel_rfl) rfl rfl (by kernel_rfl) ?_ rfl rfl ?_
   ·exact Tq.va rfl (fun _ _ a c => zD zm (a.ev rfl) (rdF WF zFY zhh c) rfl) (Tq.fin (.cons rfl .nil))
   refine Dr.quiet 6 [(42, iv (min zEs zSY))] (by kernel_rfl) rfl rfl (by kernel_rfl) ?_ rfl rfl ?_
   ·exact Tq.va rfl (fun _ _ a c => zEC (a.ev rfl) (a.ev rfl) _) (Tq.fin (.cons rfl .nil))
   refine Dr.quiet 7 [(43, .pointer (some ⟨(bs101 24), 2, none⟩))] (by kernel_rfl) rfl rfl (by kernel_rfl) ?_ rfl rfl ?_
   ·exact Tq.va rfl (fun _ _ a c => zB zC0 (a.ev rfl)) (Tq.fin (.cons rfl .nil))
   refine Dr.quiet 8 [(44, iv zHM)] (by kernel_rfl) rfl rfl (by kernel_rfl) ?_ rfl rfl ?_
   ·exact Tq.va rfl (fun _ _ a c => zD zm (a.ev rfl) (rdb c (vs := [iv zEs, iv x105.Y0, iv zHM, iv zE7.Y1]) (k := 2) rfl 2) rfl) (Tq.fin (.cons rfl .nil))
   refine Dr.zA6 9 (by kernel_rfl) rfl (wn rfl) rfl (by kernel_rfl) (fun _ _ a => zB zCa (a.ev rfl)) rfl (Dr.zD3 10 [(46, sL zCB xL1.Xs zC3)] [19] false (by kernel_rfl) rfl rfl (by kernel_rfl) (fun W W' c hsW hk => HF.zIC (le := [(5, bx zdX #[iv xL1.Y0, iv xL1.Y1, sL zCB xL1.Xs zC3] 80)]) (ks := [(2, fun x => x = (bs101 24))]) (s0 := zYr) false c hk (fun h => absurd h (by decide)) (.cons rfl .nil) (fun b hb => hb.elim (fun ⟨p, hp, hf, hb⟩ => by simp only [List.mem_cons, List.not_mem_nil, or_false] at hp; rcases hp with rfl; exact .inl ⟨_, List.mem_cons_self, hb⟩) (fun hb => absurd hb.1 (by decide))) (List.forall_mem_cons.2 ⟨fun b hb => hb, (fun _ h => nomatch h)⟩) rfl) ?_ rfl rfl ?_)
   ·exact Tq.va rfl (fun _ _ a c => zD zCt (a.ev rfl) (rdb c (vs := [iv xL1.Y0, iv xL1.Y1, sL zCB xL1.Xs zC3]) (k := 5) rfl 2) rfl) (Tq.fin (.cons rfl .nil))
   refine Dr.zA6 11 (by kernel_rfl) rfl (wn rfl) rfl (by kernel_rfl) (fun _ _ a => zB zCa (a.ev rfl)) rfl (Dr.zD3 12 [(48, sL zCB xL1.Xs zC3)] [19] false (by kernel_rfl) rfl rfl (by kernel_rfl) (fun W W' c hsW hk => HF.zIC (le := [(5, bx zdX #[iv xL1.Y0, iv xL1.Y1, sL zCB xL1.Xs zC3] 80)]) (ks := [(2, fun x => x = (bs101 24))]) (s0 := zYr) false c hk (fun h => absurd h (by decide)) (.cons rfl .nil) (fun b hb => hb.elim (fun ⟨p, hp, hf, hb⟩ => by simp only [List.mem_cons, List.not_mem_nil, or_false] at hp; rcases hp with rfl; exact .inl ⟨_, List.mem_cons_self, hb⟩) (fun hb => absurd hb.1 (by decide))) (List.forall_mem_cons.2 ⟨fun b hb => hb, (fun _ h => nomatch h)⟩) rfl) ?_ rfl rfl ?_)
   ·exact Tq.va rfl (fun _ _ a c => zD zCt (a.ev rfl) (rdb c (vs := [iv xL1.Y0, iv xL1.Y1, sL zCB xL1.Xs zC3]) (k := 5) rfl 2) rfl) (Tq.fin (.cons rfl .nil))
   refine Dr.zA6 13 (by kernel_rfl) rfl (wn rfl) rfl (by kernel_rfl) (fun _ _ a => QF zCe (a.ev rfl)) rfl (Dr.zA6 14 (by kernel_rfl) rfl (wn rfl) rfl (by kernel_rfl) (fun _ _ a => zAA (a.ev rfl) (a.ev rfl)) rfl ?_)
   obtain ⟨zKf, zlg, H⟩ := bnd H
   obtain ⟨zhg, zhf, zhe⟩ := zq zlg
   refine Dr.zA6 15 (by kernel_rfl) rfl (wn rfl) rfl (by kernel_rfl) (fun _ _ a => zL zAr (a.ev rfl) zFY.form (a.ev rfl) zhg zhf) rfl (Dr.zD3 16 [(52, iv zKf)] [19] false (by kernel_rfl) rfl rfl (by kernel_rfl) (fun W W' c hsW hk => HF.zIC (le := []) (ks := [(2, fun x => x = (bs101 24))]) (s0 := zYr) false c hk (fun h => absurd h (by decide)) .nil (fun b hb => hb.elim (fun ⟨p, hp, hf, hb⟩ => by simp only [List.mem_cons, List.not_mem_nil, or_false] at hp; rcases hp with rfl; exact .inl ⟨_, List.mem_cons_self, hb⟩) (fun hb => absurd hb.1 (by decide))) (List.forall_mem_cons.2 ⟨fun b hb => hb, (fun _ h => nomatch h)⟩) rfl) ?_ rfl rfl ?_)
   ·exact Tq.va rfl (fun _ _ a c => zD zm (a.ev rfl) (rdF WF zFY zhe c) rfl) (Tq.fin (.cons rfl .nil))
   refine Dr.zA6 17 (by kernel_rfl) rfl (wn rfl) rfl (by kernel_rfl) (fun _ _ a => zED (a.ev rfl) (a.ev rfl) _) rfl (Dr.quiet 18 [(54, .pointer (some ⟨(bs101 24), 0, none⟩))] (by kernel_rfl) rfl rfl (by kernel_rfl) ?_ rfl rfl ?_)
   ·exact Tq.va rfl (fun _ _ a c => zB WX (a.ev rfl)) (Tq.fin (.cons rfl .nil))
   exact Dr.one 19 (by kernel_rfl) (St.store 19 2 (cs := [iv (min zEs zSY)]) [iv (min zEs zSY), iv x105.Y0, iv zHM, iv zE7.Y1] rfl (wn rfl) (.inl ⟨_, List.mem_cons_self, rfl, rfl⟩) rfl rfl rfl rfl zE8 rfl rfl rfl (Dr.tail (by kernel_rfl) (Tr.va rfl (fun _ _ a c => zB zC0 (a.ev rfl)) (Tr.store 2 (cs := [iv (max zHM zKf)]) [iv (min zEs zSY), iv x105.Y0, iv (max zHM zKf), iv zE7.Y1] (wn rfl) rfl rfl rfl rfl zE8 rfl rfl rfl (Tr.nil (Tr.zh (Tr.zA (Tr.region (Tr.va rfl (fun _ _ a c => zo (a.ev rfl) (a.ev rfl)) (Tr.mv rfl rfl (Tr.nil (Tr.zf Qc (zY, (iL1 + 1), (min zEs zSY), (max zHM zKf)) ⟨rfl, Qe QE, QC QE, H⟩ (.cons rfl (.cons rfl (.cons rfl (.cons rfl (.cons (congrArg (fun z => some (Value.int .i64 z)) (Qd QE zT.form)) .nil))))) (.cons rfl (.cons rfl .nil))))))))))))))

theorem zGQ {w : Bs} (p0 : zK) (r : Bool) (H : zBL p0 = some r) (hE : HF w w.W E0) : Calls Tryz.prog 57 [.agg #[iv p0.X0, iv p0.Y0, iv p0.X1, iv p0.Y1]].toArray w.W fun e W' => e = .returned (bV r) ∧ HF w W' E0 := by
 unfold zBL at H
 have leB := Bs.Le.refl w
 refine Tr.enter (n := 21) Tryz.func57 rfl rfl rfl hE (Tr.sr (Tr.box 1 (cs := [iv p0.X0, iv p0.Y0, iv p0.X1, iv p0.Y1]) (wn rfl) rfl rfl rfl fun zw => (Tr.asg rfl rfl (Tr.nil (Tr.zA (Tr.sr (Tr.va rfl (fun _ _ a c => zB WX (a.ev rfl)) (Tr.va rfl (fun _ _ a c => zD zm (a.ev rfl) (rdb c (vs := [iv p0.X0, iv p0.Y0, iv p0.X1, iv p0.Y1]) (k := 1) rfl 0) rfl) ?_))))))))
 obtain ⟨y101, hy101, H⟩ := bnd H
 refine Tr.Qa (r := (bV y101)) (wn rfl) rfl Tryz.call42 (zH rfl zP) (fun W hW => zAn p0.X0 y101 hy101 (HF.start _)) (Tr.mv rfl rfl ?_)
 obtain ⟨zF4, zBH, H⟩ := bnd H
 refine Tr.Vw 4 [(1, pV zw), (10, bV zF4)] [(1, bx zw #[iv p0.X0, iv p0.Y0, iv p0.X1, iv p0.Y1] 40)] ?_ ?_
 ·cases zM5 : y101
  ·rw [zM5] at zBH
   rw [if_neg (by decide)] at zBH
   have H := zBH
   obtain rfl := oI H
   exact Tr.pass rfl rfl rfl rfl rfl (by decide) (Tr.pass rfl rfl rfl rfl rfl (by decide) (Tr.pass rfl rfl rfl rfl rfl (by decide) (Tr.va rfl (fun _ _ a c => zy (a.ev rfl) (a.ev rfl)) (Tr.nil (Tr.JD (.cons rfl (.cons rfl .nil)) (.cons rfl .nil))))))
  ·rw [zM5] at zBH
   rw [if_pos rfl] at zBH
   have H := zBH
   refine Tr.val (wg rfl rfl rfl) rfl (fun _ _ a c => zB zAq (a.ev rfl)) (Tr.val (wg rfl rfl rfl) rfl (fun _ _ a c => zD zm (a.ev rfl) (rdb c (vs := [iv p0.X0, iv p0.Y0, iv p0.X1, iv p0.Y1]) (k := 1) rfl 1) rfl) ?_)
   obtain ⟨y104, hy104, H⟩ := bnd H
   refine Tr.Qa (r := (bV y104)) (wg rfl rfl rfl) rfl Tryz.call42 (zH rfl zP) (fun W hW => zAn p0.Y0 y104 hy104 (HF.start _)) (Tr.va rfl (fun _ _ a c => zx (a.ev rfl) (a.ev rfl)) ?_)
   obtain rfl := oI H
   exact Tr.nil (Tr.JD (.cons rfl (.cons rfl .nil)) (.cons rfl .nil))
 ·show Tr _ _ (LF [(1, pV zw), (10, bV zF4)]) (LE [(1, bx zw #[iv p0.X0, iv p0.Y0, iv p0.X1, iv p0.Y1] 40)]) _
  refine Tr.mv rfl rfl ?_
  obtain ⟨zO6, zCg, H⟩ := bnd H
  refine Tr.Vw 4 [(1, pV zw), (15, bV zO6)] [(1, bx zw #[iv p0.X0, iv p0.Y0, iv p0.X1, iv p0.Y1] 40)] ?_ ?_
  ·cases zM5 : zF4
   ·rw [zM5] at zCg
    rw [if_neg (by decide)] at zCg
    have H := zCg
    obtain rfl := oI H
    exact Tr.pass rfl rfl rfl rfl rfl (by decide) (Tr.pass rfl rfl rfl rfl rfl (by decide) (Tr.pass rfl rfl rfl rfl rfl (by decide) (Tr.va rfl (fun _ _ a c => zy (a.ev rfl) (a.ev rfl)) (Tr.nil (Tr.JD (.cons rfl (.cons rfl .nil)) (.cons rfl .nil))))))
   ·rw [zM5] at zCg
    rw [if_pos rfl] at zCg
    have H := zCg
    refine Tr.val (wg rfl rfl rfl) rfl (fun _ _ a c => zB zC0 (a.ev rfl)) (Tr.val (wg rfl rfl rfl) rfl (fun _ _ a c => zD zm (a.ev rfl) (rdb c (vs := [iv p0.X0, iv p0.Y0, iv p0.X1, iv p0.Y1]) (k := 1) rfl 2) rfl) ?_)
    obtain ⟨zIP, zTa, H⟩ := bnd H
    refine Tr.Qa (r := (bV zIP)) (wg rfl rfl rfl) rfl Tryz.call42 (zH rfl zP) (fun W hW => zAn p0.X1 zIP zTa (HF.start _)) (Tr.va rfl (fun _ _ a c => zx (a.ev rfl) (a.ev rfl)) ?_)
    obtain rfl := oI H
    exact Tr.nil (Tr.JD (.cons rfl (.cons rfl .nil)) (.cons rfl .nil))
  ·show Tr _ _ (LF [(1, pV zw), (15, bV zO6)]) (LE [(1, bx zw #[iv p0.X0, iv p0.Y0, iv p0.X1, iv p0.Y1] 40)]) _
   refine Tr.mv rfl rfl ?_
   obtain ⟨zPo, zG1, H⟩ := bnd H
   refine Tr.Vw 4 [(20, bV zPo)] [(1, bx zw #[iv p0.X0, iv p0.Y0, iv p0.X1, iv p0.Y1] 40)] ?_ ?_
   ·cases zM5 : zO6
    ·rw [zM5] at zG1
     rw [if_neg (by decide)] at zG1
     have H := zG1
     obtain rfl := oI H
     exact Tr.pass rfl rfl rfl rfl rfl (by decide) (Tr.pass rfl rfl rfl rfl rfl (by decide) (Tr.pass rfl rfl rfl rfl rfl (by decide) (Tr.va rfl (fun _ _ a c => zy (a.ev rfl) (a.ev rfl)) (Tr.nil (Tr.JD (.cons rfl .nil) (.cons rfl .nil))))))
    ·rw [zM5] at zG1
     rw [if_pos rfl] at zG1
     have H := zG1
     refine Tr.val (wg rfl rfl rfl) rfl (fun _ _ a c => zB zDe (a.ev rfl)) (Tr.val (wg rfl rfl rfl) rfl (fun _ _ a c => zD zm (a.ev rfl) (rdb c (vs := [iv p0.X0, iv p0.Y0, iv p0.X1, iv p0.Y1]) (k := 1) rfl 3) rfl) ?_)
     obtain ⟨zCn, zK6, H⟩ := bnd H
     refine Tr.Qa (r := (bV zCn)) (wg rfl rfl rfl) rfl Tryz.call42 (zH rfl zP) (fun W hW => zAn p0.Y1 zCn zK6 (HF.start _)) (Tr.va rfl (fun _ _ a c => zx (a.ev rfl) (a.ev rfl)) ?_)
     obtain rfl := oI H
     exact Tr.nil (Tr.JD (.cons rfl .nil) (.cons rfl .nil))
   ·show Tr _ _ (LF [(20, bV zPo)]) (LE [(1, bx zw #[iv p0.X0, iv p0.Y0, iv p0.X1, iv p0.Y1] 40)]) _
    refine Tr.asg rfl rfl (Tr.nil (Tr.zA (Tr.ret ?_)))
    obtain rfl := oI H
    exact Tr.out (m := [bV zPo]) [] (zU rfl zV) (fun W hW => ⟨rfl, hW.low leB⟩)

theorem zEj {w : Bs} (p0 : (List zZ)) (zF : Option Addr) (zG : Nat) (zT : Sl w.R w.W zS zF zG p0) (r : Bool) (H : Wh p0 = some r) (hE : HF w w.W E0) : Calls Tryz.prog 25 [sL zF p0 zG].toArray w.W fun e W' => e = .returned (bV r) ∧ HF w W' E0 := by
 unfold Wh at H
 have leB := Bs.Le.refl w
 refine Tr.enter (n := 11) Tryz.func25 rfl rfl rfl hE (Tr.sr (Tr.asg rfl rfl (Tr.nil (Tr.zA (Tr.sr (Tr.mv rfl rfl (Tr.va rfl (fun _ _ a c => QF zEz (a.ev rfl)) (Tr.va rfl (fun _ _ a c => Ql (a.ev rfl) (a.ev rfl)) (Tr.mv rfl rfl ?_)))))))))
 obtain ⟨zPp, zG2, H⟩ := bnd H
 refine Tr.Vw 4 [(10, bV zPp)] [] ?_ ?_
 ·cases zIp : ((p0.length : Int) == 0)
  ·rw [zIp] at zG2
   rw [if_neg (by decide)] at zG2
   have H := zG2
   refine Tr.val (wg rfl rfl rfl) rfl (fun _ _ a c => run_move (a.ev rfl)) ?_
   obtain ⟨zk, zCr, H⟩ := bnd H
   refine Tr.Qa (r := (.agg #[iv zk.X0, iv zk.Y0, iv zk.X1, iv zk.Y1])) (wg rfl rfl rfl) rfl Tryz.call58 (zH rfl zP) (fun W hW => zHv p0 zF zG (zT.ext hW.Qr) zk zCr (HF.start _)) ?_
   obtain ⟨y104, hy104, H⟩ := bnd H
   refine Tr.Qa (r := (bV y104)) (wg rfl rfl rfl) rfl Tryz.call57 (zH rfl zP) (fun W hW => zGQ zk y104 hy104 (HF.start _)) (Tr.va rfl (fun _ _ a c => zy (a.ev rfl) (a.ev rfl)) ?_)
   obtain rfl := oI H
   exact Tr.nil (Tr.JD (.cons rfl .nil) .nil)
  ·rw [zIp] at zG2
   rw [if_pos rfl] at zG2
   have H := zG2
   obtain rfl := oI H
   exact Tr.pass rfl rfl rfl rfl rfl (by decide) (Tr.pass rfl rfl rfl rfl rfl (by decide) (Tr.pass rfl rfl rfl rfl rfl (by decide) (Tr.va rfl (fun _ _ a c => zx (a.ev rfl) (a.ev rfl)) (Tr.nil (Tr.JD (.cons rfl .nil) .nil)))))
 ·show Tr _ _ (LF [(10, bV zPp)]) (LE []) _
  refine Tr.asg rfl rfl (Tr.nil (Tr.zA (Tr.ret ?_)))
  obtain rfl := oI H
  exact Tr.out (m := [bV zPp]) [] (zU rfl zV) (fun W hW => ⟨rfl, hW.low leB⟩)

theorem zFs {w : Bs} (p0 : (List zZ)) (zF : Option Addr) (zG : Nat) (zT : Sl w.O w.W zS zF zG p0) (p1 : Int) (p2 : Int) (r : ((List Int) × Int)) (H : zAj p0 p1 p2 = some r) (hE : HF w w.W (LEn [])) : Calls Tryz.prog 144 [sL zF p0 zG, iv p1, iv p2].toArray w.W fun e W' => ∃ (w' : Bs) (u : (Option Addr × Nat)), w.Le w' ∧ e = .returned (.tuple #[sL u.1 r.1 u.2, iv r.2]) ∧ (Sl w'.O w'.W QR u.1 u.2 r.1) ∧ HF w' W' (LEn []) := by
 unfold zAj at H
 have leB := Bs.Le.refl w
 refine Tr.enter (n := 36) Tryz.func144 rfl rfl rfl hE (Tr.sr (Tr.asg rfl rfl (Tr.JI 1 3 QR ?_)))
 show Tr _ _ (uf _ 6 (sL none (([] : List Int)) 0)) _ _
 refine Tr.asg rfl rfl (Tr.nil (Tr.zA (Tr.seq (Tr.block (Tr.sr (Tr.mv rfl rfl (Tr.va rfl (fun _ _ a c => QF zEz (a.ev rfl)) (Tr.va rfl (fun _ _ a c => Ql (a.ev rfl) (a.ev rfl)) (Tr.asg rfl rfl (Tr.nil (Tr.zA (Tr.cond rfl H (fun H => ?_) (fun H => ?_)))))))))))))
 ·refine Tr.sr (Tr.mv rfl rfl (Tr.asg rfl rfl (Tr.JI 2 3 QR ?_)))
  show Tr _ _ (uf _ 6 (sL none (([] : List Int)) 0)) _ _
  refine Tr.asg rfl rfl (Tr.nil (Tr.zA (Tr.ret (Tr.QP (Tr.zb ?_)))))
  obtain rfl := oI H
  refine Tr.freeze 2 rfl fun w zGD zkC => ?_
  replace leB := leB.trans zGD
  exact Tr.out (m := [sL none (([] : List Int)) 0, iv p2]) [] (zU rfl (zU rfl zV)) (fun W hW => ⟨w, (none, 0), leB, rfl, zkC, hW.pick (ks := []) (by decide) za⟩)
 ·refine Tr.sr (Tr.mv rfl rfl (Tr.mv rfl rfl ?_))
  obtain ⟨x102, hx102, H⟩ := bnd H
  obtain ⟨zVM, zVL, zVK⟩ := zq hx102
  obtain ⟨ze3, hRu103, zRj, hcu103⟩ := (zT).el zVK
  obtain ⟨zLt, zR7⟩ := ze3
  have zGz := zRj
  replace hRu103 : w.R (adB zF) := Or.inl hRu103
  refine Tr.va rfl (fun _ _ a c => zL zCh (a.ev rfl) zT.form (a.ev rfl) zVM zVL) (Tr.va rfl (fun _ _ a c => zB zGF (a.ev rfl)) (Tr.va rfl (fun _ _ a c => zD zm (a.ev rfl) (zO.drop (rdR hRu103 hcu103 c) 0) rfl) (Tr.va rfl (fun _ _ a c => QD (a.ev rfl) (a.ev rfl)) (Tr.asg rfl rfl (Tr.nil (Tr.zA (Tr.cond rfl H (fun H => ?_) (fun H => ?_))))))))
  ·refine Tr.seq (Tr.draw (by kernel_rfl) (by kernel_rfl) (Tq.mv rfl rfl (Tq.mv rfl rfl ?_)))
   obtain ⟨x104, hx104, H⟩ := bnd H
   obtain ⟨zOq, zOp, zOo⟩ := zq hx104
   obtain ⟨u105, hRu105, zRi, hcu105⟩ := (zT).el zOo
   obtain ⟨zNy, zNm⟩ := u105
   have zJS := zRi
   replace hRu105 : w.R (adB zF) := Or.inl hRu105
   refine Tq.va rfl (fun _ _ a c => zL zCh (a.ev rfl) zT.form (a.ev rfl) zOq zOp) (Tq.va rfl (fun _ _ a c => zB zGF (a.ev rfl)) (Tq.va rfl (fun _ _ a c => zD zm (a.ev rfl) (zO.drop (rdR hRu105 hcu105 c) 0) rfl) (Tq.va rfl (fun _ _ a c => zEC (a.ev rfl) (a.ev rfl) _) (Tq.asg rfl rfl (Tq.asg rfl rfl (Tq.nil (Tr.zA (Tr.ret (Tr.QP (Tr.zb ?_))))))))))
   obtain rfl := oI H
   exact Tr.out (m := [.slice none 0 0, iv (min p2 x104.Y0)]) [] (zU rfl (zU rfl zV)) (fun W hW => ⟨w, (none, 0), leB, rfl, (Sl.nil _ _ _), hW.pick (ks := []) (by decide) za⟩)
  ·refine Tr.skip (Tr.zh (Tr.zA (Tr.seq (Tr.draw (by kernel_rfl) (by kernel_rfl) (Tq.mv rfl rfl ?_)))))
   obtain ⟨zbx, zlv, H⟩ := bnd H
   obtain ⟨ziK, ziJ, ziI⟩ := zq zlv
   obtain ⟨ze1, hRu107, zRg, hcu107⟩ := (zT).el ziI
   obtain ⟨zC8, zC4⟩ := ze1
   have zD8 := zRg
   replace zD8 : Sl w.O w.W QR zC8 zC4 zbx.Xs := zD8
   replace hRu107 : w.R (adB zF) := Or.inl hRu107
   refine Tq.va rfl (fun _ _ a c => zL zCh (a.ev rfl) zT.form (a.ev rfl) ziK ziJ) (Tq.va rfl (fun _ _ a c => zB zCa (a.ev rfl)) (Tq.va rfl (fun _ _ a c => zD zCt (a.ev rfl) (zO.drop (rdR hRu107 hcu107 c) 2) rfl) (Tq.mv rfl rfl (Tq.mv rfl rfl ?_))))
   obtain ⟨zEt, zTb, H⟩ := bnd H
   obtain ⟨zOn, zOm, zOl⟩ := zq zTb
   obtain ⟨ze0, hRu109, zRf, hcu109⟩ := (zT).el zOl
   obtain ⟨zSM, zR5⟩ := ze0
   have zJO := zRf
   replace hRu109 : w.R (adB zF) := Or.inl hRu109
   refine Tq.va rfl (fun _ _ a c => zL zCh (a.ev rfl) zT.form (a.ev rfl) zOn zOm) (Tq.va rfl (fun _ _ a c => zB zDd (a.ev rfl)) (Tq.va rfl (fun _ _ a c => zD zm (a.ev rfl) (zO.drop (rdR hRu109 hcu109 c) 1) rfl) (Tq.va rfl (fun _ _ a c => zEC (a.ev rfl) (a.ev rfl) _) (Tq.asg rfl rfl (Tq.asg rfl rfl (Tq.nil (Tr.zA (Tr.ret ?_))))))))
   obtain rfl := oI H
   exact Tr.out (m := [sL zC8 zbx.Xs zC4, iv (min p2 zEt.Y1)]) [] (zU rfl (zU rfl zV)) (fun W hW => ⟨w, (zC8, zC4), leB, rfl, zD8, hW.pick (ks := []) (by decide) za⟩)

theorem zNO (N : Nat) {w : Bs} (p0 : (List Int)) (zF : Option Addr) (zG : Nat) (zT : Sl w.R w.W QR zF zG p0) (p1 : (List Int)) (QB : Option Addr) (QA : Nat) (Qt : Sl w.R w.W QR QB QA p1) (p2 : Bool → Bool → Option Bool) (fid2 : Nat) (cap2 : List Value) (hg2 : ∀ args W, (callFunc fid2 args).run Tryz.prog W = .ok (.enter fid2 args) W) (hf2 : ∀ (w' : Bs), w.Ext w' → ∀ (z0 : Bool) (z1 : Bool), ∀ y, p2 z0 z1 = some y → Calls Tryz.prog fid2 (([bV z0, bV z1] : List Value) ++ cap2).toArray w'.W fun e W'' => e = .returned (bV y) ∧ HF w' W'' E0) (r : (List Int)) (H : zDl N p0 p1 p2 = some r) (hE : HF w w.W (LEn [emp])) : Calls Tryz.prog 145 [sL zF p0 zG, sL QB p1 QA, .func (.func fid2) #[] cap2.toArray].toArray w.W fun e W' => ∃ u : (Option Addr × Nat), e = .returned (sL u.1 r u.2) ∧ (SlF u.1 r.length u.2) ∧ HF w W' (LEn [ow u.1 u.2 3 QR r]) := by
 unfold zDl at H
 have leB := Bs.Le.refl w
 refine Tr.enter (n := 85) Tryz.func145 rfl rfl rfl hE (Tr.sr (Tr.asg rfl rfl (Tr.JI 1 3 QR ?_)))
 show Tr _ _ (uf _ 6 (sL none (([] : List Int)) 0)) _ _
 refine Tr.nil (Tr.zA (Tr.sr (Tr.asg rfl rfl (Tr.JI 2 3 QR ?_))))
 show Tr _ _ (uf _ 7 (sL none (([] : List Int)) 0)) _ _
 refine Tr.nil (Tr.zA (Tr.sr (Tr.asg rfl rfl (Tr.asg rfl rfl (Tr.asg rfl rfl (Tr.nil (Tr.zA (Tr.seq (Tr.block (Tr.loop (σ := (List Int) × (List Int) × (List Int) × Bool × Bool × Bool × (Option Addr) × Nat × (Option Addr) × Nat × (Option Addr) × Nat) (fun m w s => Qm p2 m s.1 s.2.1 s.2.2.1 s.2.2.2.1 s.2.2.2.2.1 s.2.2.2.2.2.1 = some r ∧ Sl w.R w.W QR s.2.2.2.2.2.2.1 s.2.2.2.2.2.2.2.1 s.1 ∧ Sl w.R w.W QR s.2.2.2.2.2.2.2.2.1 s.2.2.2.2.2.2.2.2.2.1 s.2.1 ∧ SlF s.2.2.2.2.2.2.2.2.2.2.1 s.2.2.1.length s.2.2.2.2.2.2.2.2.2.2.2) (fun s => [(0, sL s.2.2.2.2.2.2.1 s.1 s.2.2.2.2.2.2.2.1), (1, sL s.2.2.2.2.2.2.2.2.1 s.2.1 s.2.2.2.2.2.2.2.2.2.1), (2, .func (.func fid2) #[] cap2.toArray), (7, sL s.2.2.2.2.2.2.2.2.2.2.1 s.2.2.1 s.2.2.2.2.2.2.2.2.2.2.2), (8, bV s.2.2.2.1), (9, bV s.2.2.2.2.1), (10, bV s.2.2.2.2.2.1)]) (fun s => [(2, ow s.2.2.2.2.2.2.2.2.2.2.1 s.2.2.2.2.2.2.2.2.2.2.2 3 QR s.2.2.1)]) N (p0, p1, ([] : List Int), false, false, false, zF, zG, QB, QA, none, 0) ⟨H, zT, Qt, Kj⟩ (.cons rfl (.cons rfl (.cons rfl (.cons rfl (.cons rfl (.cons rfl (.cons rfl .nil))))))) (.cons rfl .nil) (fun _ _ h => zAg (h.1)) ?_))))))))))
 intro w zKG mL7 s hs
 obtain ⟨Vh, zAo, zAf, zHK, zD1, zCo, zCV, zB7, zEq, zDx, zBa, zBY⟩ := s
 obtain ⟨H, zDK, zE2, zWJ⟩ := hs
 replace H : Qm p2 (mL7 + 1) Vh zAo zAf zHK zD1 zCo = some r := H
 replace hf2 := fun w' he => hf2 w' (zKG.ext.trans he)
 replace leB := leB.trans zKG
 replace zDK : Sl w.R w.W QR zCV zB7 Vh := zDK
 replace zE2 : Sl w.R w.W QR zEq zDx zAo := zE2
 replace zWJ : SlF zBa zAf.length zBY := zWJ
 rw [Qm.eq_2] at H
 dsimp only
 refine Tr.seq (Tr.sr (Tr.mv rfl rfl (Tr.va rfl (fun _ _ a c => QF zCe (a.ev rfl)) (Tr.va rfl (fun _ _ a c => VS (a.ev rfl) (a.ev rfl)) (Tr.mv rfl rfl (Tr.Vw 4 [(0, sL zCV Vh zB7), (1, sL zEq zAo zDx), (2, .func (.func fid2) #[] cap2.toArray), (7, sL zBa zAf zBY), (8, bV zHK), (9, bV zD1), (10, bV zCo), (20, bV ((decide (0 < (Vh.length : Int))) || (decide (0 < (zAo.length : Int)))))] [(2, ow zBa zBY 3 QR zAf)] ?_ ?_))))))
 ·cases zaj : (decide (0 < (Vh.length : Int)))
  ·exact Tr.val (wg rfl rfl rfl) rfl (fun _ _ a c => run_move (a.ev rfl)) (Tr.val (wg rfl rfl rfl) rfl (fun _ _ a c => QF zCe (a.ev rfl)) (Tr.val (wg rfl rfl rfl) rfl (fun _ _ a c => VS (a.ev rfl) (a.ev rfl)) (Tr.va rfl (fun _ _ a c => zy (a.ev rfl) (a.ev rfl)) (Tr.nil (Tr.JD (.cons rfl (.cons rfl (.cons rfl (.cons rfl (.cons rfl (.cons rfl (.cons rfl (.cons rfl .nil)))))))) (.cons rfl .nil))))))
  ·exact Tr.pass rfl rfl rfl rfl rfl (by decide) (Tr.pass rfl rfl rfl rfl rfl (by decide) (Tr.pass rfl rfl rfl rfl rfl (by decide) (Tr.va rfl (fun _ _ a c => zx (a.ev rfl) (a.ev rfl)) (Tr.nil (Tr.JD (.cons rfl (.cons rfl (.cons rfl (.cons rfl (.cons rfl (.cons rfl (.cons rfl (.cons rfl .nil)))))))) (.cons rfl .nil))))))
 ·show Tr _ _ (LF [(0, sL zCV Vh zB7), (1, sL zEq zAo zDx), (2, .func (.func fid2) #[] cap2.toArray), (7, sL zBa zAf zBY), (8, bV zHK), (9, bV zD1), (10, bV zCo), (20, bV ((decide (0 < (Vh.length : Int))) || (decide (0 < (zAo.length : Int)))))]) (LE [(2, ow zBa zBY 3 QR zAf)]) _
  refine Tr.nil (Tr.zA (Tr.cond rfl H (fun H => ?_) (fun H => ?_)))
  ·refine Tr.skip (Tr.zA (Tr.block (Tr.sr (Tr.asg rfl rfl (Tr.nil (Tr.zA ?_))))))
   have leJ250 := Bs.Le.refl w
   refine Tr.zIu (σ := Int) (fun w s => VF p2 Vh zAo zAf zHK zD1 zCo (Qm p2 mL7) s = some r) (fun s => [(0, sL zCV Vh zB7), (1, sL zEq zAo zDx), (2, .func (.func fid2) #[] cap2.toArray), (7, sL zBa zAf zBY), (8, bV zHK), (9, bV zD1), (10, bV zCo), (11, iv s)]) (fun s => [(2, ow zBa zBY 3 QR zAf)]) ?_ ?_
   ·refine Tr.seq (Tr.draw (by kernel_rfl) (by kernel_rfl) (Tq.mv rfl rfl (Tq.va rfl (fun _ _ a c => QF zCe (a.ev rfl)) (Tq.va rfl (fun _ _ a c => Ql (a.ev rfl) (a.ev rfl)) (Tq.mv rfl rfl ?_)))))
    obtain ⟨zie, zQb, H⟩ := bnd H
    refine Tq.mid 13 [(0, sL zCV Vh zB7), (1, sL zEq zAo zDx), (2, .func (.func fid2) #[] cap2.toArray), (7, sL zBa zAf zBY), (8, bV zHK), (9, bV zD1), (10, bV zCo), (37, bV zie)] ?_ ?_
    ·cases zaj : ((zAo.length : Int) == 0)
     ·rw [zaj] at zQb
      rw [if_neg (by decide)] at zQb
      have H := zQb
      refine Tq.val (wg rfl rfl rfl) rfl (fun _ _ a c => run_move (a.ev rfl)) (Tq.val (wg rfl rfl rfl) rfl (fun _ _ a c => QF zCe (a.ev rfl)) (Tq.val (wg rfl rfl rfl) rfl (fun _ _ a c => VS (a.ev rfl) (a.ev rfl)) (Tq.val (wg rfl rfl rfl) rfl (fun _ _ a c => run_move (a.ev rfl)) ?_)))
      obtain ⟨zid, zQa, H⟩ := bnd H
      refine Tq.mid 8 [(0, sL zCV Vh zB7), (1, sL zEq zAo zDx), (2, .func (.func fid2) #[] cap2.toArray), (7, sL zBa zAf zBY), (8, bV zHK), (9, bV zD1), (10, bV zCo), (24, bV false), (36, bV zid)] ?_ ?_
      ·cases zeU : (decide (0 < (Vh.length : Int)))
       ·rw [zeU] at zQa
        rw [if_neg (by decide)] at zQa
        have H := zQa
        obtain rfl := oI H
        refine Tq.pass rfl rfl rfl rfl rfl (by decide) (Tq.pass rfl rfl rfl rfl rfl (by decide) (Tq.pass rfl rfl rfl rfl rfl (by decide) (Tq.pass rfl rfl rfl rfl rfl (by decide) (Tq.pass rfl rfl rfl rfl rfl (by decide) (Tq.pass rfl rfl rfl rfl rfl (by decide) (Tq.pass rfl rfl rfl rfl rfl (by decide) ?_))))))
        exact Tq.val (wg rfl rfl rfl) rfl (fun _ _ a c => zy (a.ev rfl) (a.ev rfl)) (Tq.fin (.cons rfl (.cons rfl (.cons rfl (.cons rfl (.cons rfl (.cons rfl (.cons rfl (.cons rfl (.cons rfl .nil))))))))))
       ·rw [zeU] at zQa
        rw [if_pos rfl] at zQa
        have H := zQa
        refine Tq.val (wg rfl rfl rfl) rfl (fun _ _ a c => run_move (a.ev rfl)) ?_
        obtain ⟨zXo, zlH, H⟩ := bnd H
        obtain ⟨zgP, zgO, zgN⟩ := zq zlH
        refine Tq.val (wg rfl rfl rfl) rfl (fun _ _ a c => zL zAr (a.ev rfl) zDK.form (a.ev rfl) zgP zgO) (Tq.val (wg rfl rfl rfl) rfl (fun _ _ a c => zD zm (a.ev rfl) (rdF WF zDK zgN c) rfl) (Tq.val (wg rfl rfl rfl) rfl (fun _ _ a c => run_move (a.ev rfl)) ?_))
        obtain ⟨zXn, zlG, H⟩ := bnd H
        obtain ⟨zgM, zgL, zgK⟩ := zq zlG
        refine Tq.val (wg rfl rfl rfl) rfl (fun _ _ a c => zL zAr (a.ev rfl) zE2.form (a.ev rfl) zgM zgL) (Tq.val (wg rfl rfl rfl) rfl (fun _ _ a c => zD zm (a.ev rfl) (rdF WF zE2 zgK c) rfl) (Tq.val (wg rfl rfl rfl) rfl (fun _ _ a c => zAX (a.ev rfl) (a.ev rfl)) (Tq.val (wg rfl rfl rfl) rfl (fun _ _ a c => zx (a.ev rfl) (a.ev rfl)) ?_)))
        obtain rfl := oI H
        exact Tq.fin (.cons rfl (.cons rfl (.cons rfl (.cons rfl (.cons rfl (.cons rfl (.cons rfl (.cons rfl (.cons rfl .nil)))))))))
      ·refine Tq.va rfl (fun _ _ a c => zy (a.ev rfl) (a.ev rfl)) ?_
       obtain rfl := oI H
       exact Tq.fin (.cons rfl (.cons rfl (.cons rfl (.cons rfl (.cons rfl (.cons rfl (.cons rfl (.cons rfl .nil))))))))
     ·rw [zaj] at zQb
      rw [if_pos rfl] at zQb
      have H := zQb
      obtain rfl := oI H
      refine Tq.pass rfl rfl rfl rfl rfl (by decide) (Tq.pass rfl rfl rfl rfl rfl (by decide) (Tq.pass rfl rfl rfl rfl rfl (by decide) (Tq.pass rfl rfl rfl rfl rfl (by decide) (Tq.VA rfl rfl rfl rfl (by decide) (Tq.VA rfl rfl rfl rfl (by decide) (Tq.VA rfl rfl rfl rfl (by decide) ?_))))))
      exact Tq.VA rfl rfl rfl rfl (by decide) (Tq.VA rfl rfl rfl rfl (by decide) (Tq.VA rfl rfl rfl rfl (by decide) (Tq.VA rfl rfl rfl rfl (by decide) (Tq.pass rfl rfl rfl rfl rfl (by decide) (Tq.va rfl (fun _ _ a c => zx (a.ev rfl) (a.ev rfl)) (Tq.fin (.cons rfl (.cons rfl (.cons rfl (.cons rfl (.cons rfl (.cons rfl (.cons rfl (.cons rfl .nil))))))))))))))
    ·refine Tq.nil (Tr.zA (Tr.cond rfl H (fun H => ?_) (fun H => ?_)))
     ·refine Tr.region (Tr.mv rfl rfl ?_)
      obtain ⟨zUa, zlF, H⟩ := bnd H
      obtain ⟨zgJ, zgI, zgH⟩ := zq zlF
      exact Tr.va rfl (fun _ _ a c => zL zAr (a.ev rfl) zDK.form (a.ev rfl) zgJ zgI) (Tr.va rfl (fun _ _ a c => zD zm (a.ev rfl) (rdF WF zDK zgH c) rfl) (Tr.asg rfl rfl (Tr.nil (Tr.zf leJ250 zUa H (.cons rfl (.cons rfl (.cons rfl (.cons rfl (.cons rfl (.cons rfl (.cons rfl (.cons rfl .nil)))))))) (.cons rfl .nil)))))
     ·refine Tr.region (Tr.mv rfl rfl ?_)
      obtain ⟨zUZ, zlE, H⟩ := bnd H
      obtain ⟨zgG, zgF, zgE⟩ := zq zlE
      exact Tr.va rfl (fun _ _ a c => zL zAr (a.ev rfl) zE2.form (a.ev rfl) zgG zgF) (Tr.va rfl (fun _ _ a c => zD zm (a.ev rfl) (rdF WF zE2 zgE c) rfl) (Tr.asg rfl rfl (Tr.nil (Tr.zf leJ250 zUZ H (.cons rfl (.cons rfl (.cons rfl (.cons rfl (.cons rfl (.cons rfl (.cons rfl (.cons rfl .nil)))))))) (.cons rfl .nil)))))
   ·intro w zD0 hlJ251 hs
    have H := hs
    replace H : VF p2 Vh zAo zAf zHK zD1 zCo (Qm p2 mL7) zD0 = some r := H
    replace zDK := zDK.leR hlJ251
    replace zE2 := zE2.leR hlJ251
    replace hf2 := fun w' he => hf2 w' (hlJ251.ext.trans he)
    replace zKG := zKG.trans hlJ251
    unfold VF at H
    show Tr _ _ (LF [(0, sL zCV Vh zB7), (1, sL zEq zAo zDx), (2, .func (.func fid2) #[] cap2.toArray), (7, sL zBa zAf zBY), (8, bV zHK), (9, bV zD1), (10, bV zCo), (11, iv zD0)]) (LE [(2, ow zBa zBY 3 QR zAf)]) _
    have leJ258 := Bs.Le.refl w
    refine Tr.zIu (σ := (List Int) × Bool × (Option Addr) × Nat) (fun w s => VV p2 zAo zAf zD1 zCo (Qm p2 mL7) zD0 s.1 s.2.1 = some r ∧ Sl w.R w.W QR s.2.2.1 s.2.2.2 s.1) (fun s => [(0, sL s.2.2.1 s.1 s.2.2.2), (1, sL zEq zAo zDx), (2, .func (.func fid2) #[] cap2.toArray), (7, sL zBa zAf zBY), (8, bV s.2.1), (9, bV zD1), (10, bV zCo), (11, iv zD0)]) (fun s => [(2, ow zBa zBY 3 QR zAf)]) ?_ ?_
    ·refine Tr.sr (Tr.mv rfl rfl (Tr.va rfl (fun _ _ a c => QF zCe (a.ev rfl)) (Tr.va rfl (fun _ _ a c => VS (a.ev rfl) (a.ev rfl)) (Tr.mv rfl rfl ?_))))
     obtain ⟨zc1, zLC, H⟩ := bnd H
     refine Tr.Vw 6 [(0, sL zCV Vh zB7), (1, sL zEq zAo zDx), (2, .func (.func fid2) #[] cap2.toArray), (7, sL zBa zAf zBY), (8, bV zHK), (9, bV zD1), (10, bV zCo), (11, iv zD0), (53, bV zc1)] [(2, ow zBa zBY 3 QR zAf)] ?_ ?_
     ·cases zeV : (decide (0 < (Vh.length : Int)))
      ·rw [zeV] at zLC
       rw [if_neg (by decide)] at zLC
       have H := zLC
       obtain rfl := oI H
       exact Tr.pass rfl rfl rfl rfl rfl (by decide) (Tr.pass rfl rfl rfl rfl rfl (by decide) (Tr.pass rfl rfl rfl rfl rfl (by decide) (Tr.pass rfl rfl rfl rfl rfl (by decide) (Tr.pass rfl rfl rfl rfl rfl (by decide) (Tr.va rfl (fun _ _ a c => zy (a.ev rfl) (a.ev rfl)) (Tr.nil (Tr.JD (.cons rfl (.cons rfl (.cons rfl (.cons rfl (.cons rfl (.cons rfl (.cons rfl (.cons rfl (.cons rfl .nil))))))))) (.cons rfl .nil))))))))
      ·rw [zeV] at zLC
       rw [if_pos rfl] at zLC
       have H := zLC
       refine Tr.val (wg rfl rfl rfl) rfl (fun _ _ a c => run_move (a.ev rfl)) ?_
       obtain ⟨zjK, zlI, H⟩ := bnd H
       obtain ⟨zgS, zgR, zgQ⟩ := zq zlI
       refine Tr.val (wg rfl rfl rfl) rfl (fun _ _ a c => zL zAr (a.ev rfl) zDK.form (a.ev rfl) zgS zgR) (Tr.val (wg rfl rfl rfl) rfl (fun _ _ a c => zD zm (a.ev rfl) (rdF WF zDK zgQ c) rfl) (Tr.val (wg rfl rfl rfl) rfl (fun _ _ a c => run_move (a.ev rfl)) (Tr.val (wg rfl rfl rfl) rfl (fun _ _ a c => Ql (a.ev rfl) (a.ev rfl)) (Tr.va rfl (fun _ _ a c => zx (a.ev rfl) (a.ev rfl)) ?_))))
       obtain rfl := oI H
       exact Tr.nil (Tr.JD (.cons rfl (.cons rfl (.cons rfl (.cons rfl (.cons rfl (.cons rfl (.cons rfl (.cons rfl (.cons rfl .nil))))))))) (.cons rfl .nil))
     ·show Tr _ _ (LF [(0, sL zCV Vh zB7), (1, sL zEq zAo zDx), (2, .func (.func fid2) #[] cap2.toArray), (7, sL zBa zAf zBY), (8, bV zHK), (9, bV zD1), (10, bV zCo), (11, iv zD0), (53, bV zc1)]) (LE [(2, ow zBa zBY 3 QR zAf)]) _
      refine Tr.nil (Tr.zA (Tr.cond rfl H (fun H => ?_) (fun H => ?_)))
      ·refine Tr.region (Tr.mv rfl rfl ?_)
       obtain ⟨zfW, zeL, H⟩ := bnd H
       exact Tr.va rfl (fun _ _ a c => zIc zAr (a.ev rfl) zDK.form (a.ev rfl) zeL) (Tr.mv rfl rfl (Tr.va rfl (fun _ _ a c => KD (a.ev rfl)) (Tr.asg rfl rfl (Tr.asg rfl rfl (Tr.nil (Tr.zf leJ258 (zfW, (!zHK), (zHl zCV (1 : Int).toNat 1 zB7), (zB7 - (1 : Int).toNat)) ⟨H, (Sl.cut zDK zeL)⟩ (.cons rfl (.cons rfl (.cons rfl (.cons rfl (.cons rfl (.cons rfl (.cons rfl (.cons rfl .nil)))))))) (.cons rfl .nil)))))))
      ·exact Tr.skip (Tr.zf leJ258 (Vh, zHK, zCV, zB7) ⟨H, zDK⟩ (.cons rfl (.cons rfl (.cons rfl (.cons rfl (.cons rfl (.cons rfl (.cons rfl (.cons rfl .nil)))))))) (.cons rfl .nil))
    ·intro w s hlJ259 hs
     obtain ⟨zKI, zJm, zRD, zQ3⟩ := s
     obtain ⟨H, zQR⟩ := hs
     replace H : VV p2 zAo zAf zD1 zCo (Qm p2 mL7) zD0 zKI zJm = some r := H
     replace zE2 := zE2.leR hlJ259
     replace hf2 := fun w' he => hf2 w' (hlJ259.ext.trans he)
     replace zKG := zKG.trans hlJ259
     replace zQR : Sl w.R w.W QR zRD zQ3 zKI := zQR
     unfold VV at H
     dsimp only
     have leJ266 := Bs.Le.refl w
     refine Tr.zIu (σ := (List Int) × Bool × (Option Addr) × Nat) (fun w s => Wo p2 zAf zCo (Qm p2 mL7) zD0 zKI zJm s.1 s.2.1 = some r ∧ Sl w.R w.W QR s.2.2.1 s.2.2.2 s.1) (fun s => [(0, sL zRD zKI zQ3), (1, sL s.2.2.1 s.1 s.2.2.2), (2, .func (.func fid2) #[] cap2.toArray), (7, sL zBa zAf zBY), (8, bV zJm), (9, bV s.2.1), (10, bV zCo), (11, iv zD0)]) (fun s => [(2, ow zBa zBY 3 QR zAf)]) ?_ ?_
     ·refine Tr.sr (Tr.mv rfl rfl (Tr.va rfl (fun _ _ a c => QF zCe (a.ev rfl)) (Tr.va rfl (fun _ _ a c => VS (a.ev rfl) (a.ev rfl)) (Tr.mv rfl rfl ?_))))
      obtain ⟨zc2, zQc, H⟩ := bnd H
      refine Tr.Vw 6 [(0, sL zRD zKI zQ3), (1, sL zEq zAo zDx), (2, .func (.func fid2) #[] cap2.toArray), (7, sL zBa zAf zBY), (8, bV zJm), (9, bV zD1), (10, bV zCo), (11, iv zD0), (67, bV zc2)] [(2, ow zBa zBY 3 QR zAf)] ?_ ?_
      ·cases zeW : (decide (0 < (zAo.length : Int)))
       ·rw [zeW] at zQc
        rw [if_neg (by decide)] at zQc
        have H := zQc
        obtain rfl := oI H
        exact Tr.pass rfl rfl rfl rfl rfl (by decide) (Tr.pass rfl rfl rfl rfl rfl (by decide) (Tr.pass rfl rfl rfl rfl rfl (by decide) (Tr.pass rfl rfl rfl rfl rfl (by decide) (Tr.pass rfl rfl rfl rfl rfl (by decide) (Tr.va rfl (fun _ _ a c => zy (a.ev rfl) (a.ev rfl)) (Tr.nil (Tr.JD (.cons rfl (.cons rfl (.cons rfl (.cons rfl (.cons rfl (.cons rfl (.cons rfl (.cons rfl (.cons rfl .nil))))))))) (.cons rfl .nil))))))))
       ·rw [zeW] at zQc
        rw [if_pos rfl] at zQc
        have H := zQc
        refine Tr.val (wg rfl rfl rfl) rfl (fun _ _ a c => run_move (a.ev rfl)) ?_
        obtain ⟨zjL, zlJ, H⟩ := bnd H
        obtain ⟨zgV, zgU, zgT⟩ := zq zlJ
        refine Tr.val (wg rfl rfl rfl) rfl (fun _ _ a c => zL zAr (a.ev rfl) zE2.form (a.ev rfl) zgV zgU) (Tr.val (wg rfl rfl rfl) rfl (fun _ _ a c => zD zm (a.ev rfl) (rdF WF zE2 zgT c) rfl) (Tr.val (wg rfl rfl rfl) rfl (fun _ _ a c => run_move (a.ev rfl)) (Tr.val (wg rfl rfl rfl) rfl (fun _ _ a c => Ql (a.ev rfl) (a.ev rfl)) (Tr.va rfl (fun _ _ a c => zx (a.ev rfl) (a.ev rfl)) ?_))))
        obtain rfl := oI H
        exact Tr.nil (Tr.JD (.cons rfl (.cons rfl (.cons rfl (.cons rfl (.cons rfl (.cons rfl (.cons rfl (.cons rfl (.cons rfl .nil))))))))) (.cons rfl .nil))
      ·show Tr _ _ (LF [(0, sL zRD zKI zQ3), (1, sL zEq zAo zDx), (2, .func (.func fid2) #[] cap2.toArray), (7, sL zBa zAf zBY), (8, bV zJm), (9, bV zD1), (10, bV zCo), (11, iv zD0), (67, bV zc2)]) (LE [(2, ow zBa zBY 3 QR zAf)]) _
       refine Tr.nil (Tr.zA (Tr.cond rfl H (fun H => ?_) (fun H => ?_)))
       ·refine Tr.region (Tr.mv rfl rfl ?_)
        obtain ⟨zfX, zeM, H⟩ := bnd H
        exact Tr.va rfl (fun _ _ a c => zIc zAr (a.ev rfl) zE2.form (a.ev rfl) zeM) (Tr.mv rfl rfl (Tr.va rfl (fun _ _ a c => KD (a.ev rfl)) (Tr.asg rfl rfl (Tr.asg rfl rfl (Tr.nil (Tr.zf leJ266 (zfX, (!zD1), (zHl zEq (1 : Int).toNat 1 zDx), (zDx - (1 : Int).toNat)) ⟨H, (Sl.cut zE2 zeM)⟩ (.cons rfl (.cons rfl (.cons rfl (.cons rfl (.cons rfl (.cons rfl (.cons rfl (.cons rfl .nil)))))))) (.cons rfl .nil)))))))
       ·exact Tr.skip (Tr.zf leJ266 (zAo, zD1, zEq, zDx) ⟨H, zE2⟩ (.cons rfl (.cons rfl (.cons rfl (.cons rfl (.cons rfl (.cons rfl (.cons rfl (.cons rfl .nil)))))))) (.cons rfl .nil))
     ·intro w s hlJ267 hs
      obtain ⟨zU4, zSX, zbk, zbD⟩ := s
      obtain ⟨H, zWI⟩ := hs
      replace H : Wo p2 zAf zCo (Qm p2 mL7) zD0 zKI zJm zU4 zSX = some r := H
      replace zQR := zQR.leR hlJ267
      replace hf2 := fun w' he => hf2 w' (hlJ267.ext.trans he)
      replace zKG := zKG.trans hlJ267
      replace zWI : Sl w.R w.W QR zbk zbD zU4 := zWI
      unfold Wo at H
      dsimp only
      refine Tr.sr (Tr.mv rfl rfl (Tr.mv rfl rfl (Tr.mv rfl rfl ?_)))
      obtain ⟨zYN, zkT, H⟩ := bnd H
      refine Tr.zLY (r := (bV zYN)) (wn rfl) rfl rfl hg2 (zH rfl (zH rfl zP)) (fun W hW => hf2 hW.all hW.Qr zJm zSX _ zkT) (Tr.asg rfl rfl (Tr.nil (Tr.zA (Tr.sr (Tr.mv rfl rfl (Tr.mv rfl rfl (Tr.va rfl (fun _ _ a c => zY6 zjP (a.ev rfl) (a.ev rfl)) (Tr.nil (Tr.zA (Tr.cond rfl H (fun H => ?_) (fun H => ?_)))))))))))
      ·refine Tr.region (Tr.mv rfl rfl (Tr.mv rfl rfl (Tr.buildSlice 5 (e := 3) (vs := [(0, iv zD0)]) (cs := [iv zD0]) (wn rfl) rfl (zi rfl QW) (by kernel_rfl) fun zo6 => ?_)))
       obtain ⟨zfY, zmG, H⟩ := bnd H
       exact Tr.append 2 (t := QR) (l := zAf) (l2 := [zD0]) (wn rfl) rfl rfl rfl rfl (fun W hW => ⟨[[iv zD0]], (.cons ⟨(), trivial, rfl⟩ .nil), rdb hW (vs := [iv zD0]) (k := 5) rfl 0⟩) zCe zE8 zYK (by decide) zbI rfl zmG fun znQ zm5 hAl270 => (Tr.mv rfl rfl (Tr.asg rfl rfl (Tr.asg rfl rfl (Tr.nil (Tr.zh (Tr.zf zKG (zKI, zU4, zfY, zJm, zSX, zYN, zRD, zQ3, zbk, zbD, znQ, zm5) ⟨H, zQR, zWI, hAl270⟩ (.cons rfl (.cons rfl (.cons rfl (.cons rfl (.cons rfl (.cons rfl (.cons rfl .nil))))))) (.cons rfl .nil)))))))
      ·exact Tr.skip (Tr.zh (Tr.zf zKG (zKI, zU4, zAf, zJm, zSX, zCo, zRD, zQ3, zbk, zbD, zBa, zBY) ⟨H, zQR, zWI, zWJ⟩ (.cons rfl (.cons rfl (.cons rfl (.cons rfl (.cons rfl (.cons rfl (.cons rfl .nil))))))) (.cons rfl .nil)))
  ·refine Tr.exit (Tr.ze (Tr.ze (Tr.QK (Tr.zA (Tr.sr (Tr.mv rfl rfl (Tr.asg rfl rfl (Tr.nil (Tr.zA (Tr.ret ?_))))))))))
   obtain rfl := oI H
   exact Tr.out (m := [sL zBa zAf zBY]) [] (zU rfl zV) (fun W hW => ⟨(zBa, zBY), rfl, zWJ, HF.zGc leB (hW.pick (ks := [2]) (by decide) (zQ rfl za)) ⟨zCJ _ _ _ _ zRM, trivial⟩⟩)

theorem zHA (N : Nat) {w : Bs} (p0 : (List zZ)) (zF : Option Addr) (zG : Nat) (zT : Sl w.O w.W zS zF zG p0) (p1 : (List zZ)) (QB : Option Addr) (QA : Nat) (Qt : Sl w.O w.W zS QB QA p1) (p2 : Bool → Bool → Option Bool) (fid2 : Nat) (cap2 : List Value) (hg2 : ∀ args W, (callFunc fid2 args).run Tryz.prog W = .ok (.enter fid2 args) W) (hf2 : ∀ (w' : Bs), w.Ext w' → ∀ (z0 : Bool) (z1 : Bool), ∀ y, p2 z0 z1 = some y → Calls Tryz.prog fid2 (([bV z0, bV z1] : List Value) ++ cap2).toArray w'.W fun e W'' => e = .returned (bV y) ∧ HF w' W'' E0) (r : (List zZ)) (H : zBx N p0 p1 p2 = some r) (hE : HF w w.W (LEn [emp])) : Calls Tryz.prog 141 [sL zF p0 zG, sL QB p1 QA, .func (.func fid2) #[] cap2.toArray].toArray w.W fun e W' => ∃ (w' : Bs) (u : (Option Addr × Nat)), w.Le w' ∧ e = .returned (sL u.1 r u.2) ∧ (SlF u.1 r.length u.2) ∧ HF w' W' (LEn [ow u.1 u.2 80 zS r]) := by
 unfold zBx at H
 have leB := Bs.Le.refl w
 refine Tr.enter (n := 126) Tryz.func141 rfl rfl rfl hE (Tr.sr (Tr.asg rfl rfl (Tr.JI 1 80 zS ?_)))
 show Tr _ _ (uf _ 6 (sL none (([] : List zZ)) 0)) _ _
 refine Tr.nil (Tr.zA (Tr.sr (Tr.asg rfl rfl (Tr.JI 2 80 zS ?_))))
 show Tr _ _ (uf _ 7 (sL none (([] : List zZ)) 0)) _ _
 refine Tr.nil (Tr.zA (Tr.seq (Tr.sr (Tr.mv rfl rfl (Tr.va rfl (fun _ _ a c => QF zEz (a.ev rfl)) (Tr.mv rfl rfl (Tr.va rfl (fun _ _ a c => QF zEz (a.ev rfl)) (Tr.va rfl (fun _ _ a c => zo (a.ev rfl) (a.ev rfl)) (Tr.va rfl (fun _ _ a c => Ql (a.ev rfl) (a.ev rfl)) (Tr.nil (Tr.zA (Tr.cond rfl H (fun H => ?_) (fun H => ?_)))))))))))))
 ·refine Tr.sr (Tr.asg rfl rfl (Tr.JI 3 80 zS ?_))
  show Tr _ _ (uf _ 6 (sL none (([] : List zZ)) 0)) _ _
  refine Tr.nil (Tr.zA (Tr.ret (Tr.zb ?_)))
  obtain rfl := oI H
  exact Tr.out (m := [sL none (([] : List zZ)) 0]) [] (zU rfl zV) (fun W hW => ⟨w, (none, 0), leB, rfl, Kj, hW.pick (ks := [3]) (by decide) (zQ rfl za)⟩)
 ·refine Tr.skip (Tr.zA (Tr.sr (Tr.asg rfl rfl (Tr.asg rfl rfl (Tr.nil (Tr.zA (Tr.seq (Tr.sr (Tr.mv rfl rfl (Tr.mv rfl rfl (Tr.buildSlice 4 (e := 44) (vs := [(0, sL zF p0 zG), (1, sL QB p1 QA)]) (cs := [sL zF p0 zG, sL QB p1 QA]) (wn rfl) rfl (zi rfl (zi rfl QW)) (by kernel_rfl) fun zw => (Tr.va rfl (fun _ _ a c => QF zdt (a.ev rfl)) (Tr.mv rfl rfl (Tr.nil (Tr.zA (Tr.block (Tr.own 4 JJ [p0, p1] (css := [[sL zF p0 zG], [sL QB p1 QA]]) rfl (.cons ⟨(zF, zG), zT, rfl⟩ (.cons ⟨(QB, QA), Qt, rfl⟩ .nil)) rfl (by decide) (zDb rfl) (Tr.ren 4 9 rfl rfl rfl (Tr.loop (σ := Int × Int × (List (List zZ)) × Int × (Option Addr) × Nat) (fun m w s => Qi N p0 p1 p2 m s.1 s.2.1 s.2.2.1 s.2.2.2.1 = some r ∧ SlF s.2.2.2.2.1 s.2.2.1.length s.2.2.2.2.2) (fun s => [(0, sL zF p0 zG), (1, sL QB p1 QA), (2, .func (.func fid2) #[] cap2.toArray), (7, sL none (([] : List zZ)) 0), (8, iv s.1), (9, iv s.2.1), (25, sL s.2.2.2.2.1 s.2.2.1 s.2.2.2.2.2), (26, iv 2), (27, iv s.2.2.2.1)]) (fun s => [(2, ow none 0 80 zS ([] : List zZ)), (9, ow s.2.2.2.2.1 s.2.2.2.2.2 44 JJ s.2.2.1)]) N (0, 0, [p0, p1], 0, (some ⟨zw, 0, none⟩), 2) ⟨H, (zZI zw rfl)⟩ (.cons rfl (.cons rfl (.cons rfl (.cons rfl (.cons rfl (.cons rfl (.cons rfl (.cons rfl (.cons rfl .nil))))))))) (.cons rfl (.cons rfl .nil)) (fun _ _ h => zAg (h.1)) ?_)))))))))))))))))))
  intro w WU mL3 s hs
  obtain ⟨x150, x151, zDt, x153, zGW, zGM⟩ := s
  obtain ⟨H, zJw⟩ := hs
  replace H : Qi N p0 p1 p2 (mL3 + 1) x150 x151 zDt x153 = some r := H
  replace zT := zT.le WU
  replace Qt := Qt.le WU
  replace hf2 := fun w' he => hf2 w' (WU.ext.trans he)
  replace leB := leB.trans WU
  replace zJw : SlF zGW zDt.length zGM := zJw
  rw [Qi.eq_2] at H
  dsimp only
  refine Tr.sr (Tr.va rfl (fun _ _ a c => QD (a.ev rfl) (a.ev rfl)) (Tr.nil (Tr.zA (Tr.seq (Tr.cond rfl H (fun H => ?_) (fun H => ?_))))))
  ·refine Tr.skip (Tr.zA (Tr.seq (Tr.block (Tr.sr (Tr.mv rfl rfl ?_)))))
   obtain ⟨zGm, zlf, H⟩ := bnd H
   obtain ⟨zhd, zhc, zhb⟩ := zq zlf
   refine Tr.va rfl (fun _ _ a c => zL za2 (a.ev rfl) zJw (a.ev rfl) zhd zhc) (Tr.zYg (U := (JJ).Ad) (fun u => (JJ).ok w.O w.W u zGm) (fun u => (sL u.1 zGm u.2)) (wn rfl) rfl (ldN (κ := 9) (t := JJ) (V := fun u => (sL u.1 zGm u.2)) rfl zhb (fun _ _ u a hc => zD zPO (a.ev rfl) hc rfl)) ?_)
   intro zoF zck
   obtain ⟨zGU, zNj⟩ := zoF
   have zAi := zck
   replace zAi : Sl w.O w.W zS zGU zNj zGm := zAi
   dsimp only
   refine Tr.asg rfl rfl (Tr.asg rfl rfl (Tr.nil (Tr.zA (Tr.sr (Tr.mv rfl rfl (Tr.va rfl (fun _ _ a c => QF zEz (a.ev rfl)) (Tr.va rfl (fun _ _ a c => VS (a.ev rfl) (a.ev rfl)) (Tr.nil (Tr.zA (Tr.cond rfl H (fun H => ?_) (fun H => ?_)))))))))))
   ·have leJ162 := Bs.Le.refl w
    refine Tr.zIu (σ := Int × Int) (fun w s => Ve zDt x153 (Qi N p0 p1 p2 mL3) zGm s.1 s.2 = some r) (fun s => [(0, sL zF p0 zG), (1, sL QB p1 QA), (2, .func (.func fid2) #[] cap2.toArray), (7, sL none (([] : List zZ)) 0), (8, iv s.1), (9, iv s.2), (11, sL zGU zGm zNj), (25, sL zGW zDt zGM), (26, iv 2), (27, iv x153)]) (fun s => [(2, ow none 0 80 zS ([] : List zZ)), (9, ow zGW zGM 44 JJ zDt)]) ?_ ?_
    ·refine Tr.sr (Tr.mv rfl rfl (Tr.va rfl (fun _ _ a c => Ql (a.ev rfl) (a.ev rfl)) (Tr.mv rfl rfl (Tr.Vw 4 [(0, sL zF p0 zG), (1, sL QB p1 QA), (2, .func (.func fid2) #[] cap2.toArray), (7, sL none (([] : List zZ)) 0), (8, iv x150), (9, iv x151), (11, sL zGU zGm zNj), (25, sL zGW zDt zGM), (26, iv 2), (27, iv x153), (41, bV ((x153 == 0) || ((p0.length : Int) == 0)))] [(2, ow none 0 80 zS ([] : List zZ)), (9, ow zGW zGM 44 JJ zDt)] ?_ ?_))))
     ·cases zot : (x153 == 0)
      ·exact Tr.val (wg rfl rfl rfl) rfl (fun _ _ a c => run_move (a.ev rfl)) (Tr.val (wg rfl rfl rfl) rfl (fun _ _ a c => QF zEz (a.ev rfl)) (Tr.val (wg rfl rfl rfl) rfl (fun _ _ a c => Ql (a.ev rfl) (a.ev rfl)) (Tr.va rfl (fun _ _ a c => zy (a.ev rfl) (a.ev rfl)) (Tr.nil (Tr.JD (.cons rfl (.cons rfl (.cons rfl (.cons rfl (.cons rfl (.cons rfl (.cons rfl (.cons rfl (.cons rfl (.cons rfl (.cons rfl .nil))))))))))) (.cons rfl (.cons rfl .nil)))))))
      ·exact Tr.pass rfl rfl rfl rfl rfl (by decide) (Tr.pass rfl rfl rfl rfl rfl (by decide) (Tr.pass rfl rfl rfl rfl rfl (by decide) (Tr.va rfl (fun _ _ a c => zx (a.ev rfl) (a.ev rfl)) (Tr.nil (Tr.JD (.cons rfl (.cons rfl (.cons rfl (.cons rfl (.cons rfl (.cons rfl (.cons rfl (.cons rfl (.cons rfl (.cons rfl (.cons rfl .nil))))))))))) (.cons rfl (.cons rfl .nil)))))))
     ·show Tr _ _ (LF [(0, sL zF p0 zG), (1, sL QB p1 QA), (2, .func (.func fid2) #[] cap2.toArray), (7, sL none (([] : List zZ)) 0), (8, iv x150), (9, iv x151), (11, sL zGU zGm zNj), (25, sL zGW zDt zGM), (26, iv 2), (27, iv x153), (41, bV ((x153 == 0) || ((p0.length : Int) == 0)))]) (LE [(2, ow none 0 80 zS ([] : List zZ)), (9, ow zGW zGM 44 JJ zDt)]) _
      refine Tr.nil (Tr.zA (Tr.cond rfl H (fun H => ?_) (fun H => ?_)))
      ·refine Tr.draw (by kernel_rfl) (by kernel_rfl) (Tq.mv rfl rfl ?_)
       obtain ⟨x168, hx168, H⟩ := bnd H
       obtain ⟨zhM, zhL, zhK⟩ := zq hx168
       obtain ⟨zoB, hRu169, zcg, hcu169⟩ := (zAi).el zhK
       obtain ⟨zns, zni⟩ := zoB
       have zi1 := zcg
       replace hRu169 : w.R (adB zGU) := Or.inl hRu169
       refine Tq.va rfl (fun _ _ a c => zL zCh (a.ev rfl) zAi.form (a.ev rfl) zhM zhL) (Tq.va rfl (fun _ _ a c => zB zGF (a.ev rfl)) (Tq.va rfl (fun _ _ a c => zD zm (a.ev rfl) (zO.drop (rdR hRu169 hcu169 c) 0) rfl) (Tq.mv rfl rfl (Tq.mv rfl rfl (Tq.va rfl (fun _ _ a c => QF zEz (a.ev rfl)) (Tq.va rfl (fun _ _ a c => zAA (a.ev rfl) (a.ev rfl)) ?_))))))
       obtain ⟨zGl, zla, H⟩ := bnd H
       obtain ⟨zhJ, zhI, zhH⟩ := zq zla
       obtain ⟨zoA, hRu171, zcf, hcu171⟩ := (zAi).el zhH
       obtain ⟨znr, znh⟩ := zoA
       have zi0 := zcf
       replace hRu171 : w.R (adB zGU) := Or.inl hRu171
       exact Tq.va rfl (fun _ _ a c => zL zCh (a.ev rfl) zAi.form (a.ev rfl) zhJ zhI) (Tq.va rfl (fun _ _ a c => zB zDd (a.ev rfl)) (Tq.va rfl (fun _ _ a c => zD zm (a.ev rfl) (zO.drop (rdR hRu171 hcu171 c) 1) rfl) (Tq.asg rfl rfl (Tq.asg rfl rfl (Tq.nil (Tr.zf leJ162 (x168.Y0, zGl.Y1) H (.cons rfl (.cons rfl (.cons rfl (.cons rfl (.cons rfl (.cons rfl (.cons rfl (.cons rfl (.cons rfl (.cons rfl .nil)))))))))) (.cons rfl (.cons rfl .nil))))))))
      ·exact Tr.skip (Tr.zf leJ162 (x150, x151) H (.cons rfl (.cons rfl (.cons rfl (.cons rfl (.cons rfl (.cons rfl (.cons rfl (.cons rfl (.cons rfl (.cons rfl .nil)))))))))) (.cons rfl (.cons rfl .nil)))
    ·intro w s hlJ163 hs
     obtain ⟨x160, zbw⟩ := s
     have H := hs
     replace H : Ve zDt x153 (Qi N p0 p1 p2 mL3) zGm x160 zbw = some r := H
     replace hf2 := fun w' he => hf2 w' (hlJ163.ext.trans he)
     replace zAi := zAi.le hlJ163
     replace WU := WU.trans hlJ163
     unfold Ve at H
     dsimp only
     refine Tr.draw (by kernel_rfl) (by kernel_rfl) (Tq.mv rfl rfl (Tq.mv rfl rfl ?_))
     obtain ⟨zev, zlc, H⟩ := bnd H
     obtain ⟨zhS, zhR, zhQ⟩ := zq zlc
     obtain ⟨zez, hRu165, zRe, hcu165⟩ := (zAi).el zhQ
     obtain ⟨zH7, zHn⟩ := zez
     have zDI := zRe
     replace hRu165 : w.R (adB zGU) := Or.inl hRu165
     refine Tq.va rfl (fun _ _ a c => zL zCh (a.ev rfl) zAi.form (a.ev rfl) zhS zhR) (Tq.va rfl (fun _ _ a c => zB zGF (a.ev rfl)) (Tq.va rfl (fun _ _ a c => zD zm (a.ev rfl) (zO.drop (rdR hRu165 hcu165 c) 0) rfl) (Tq.va rfl (fun _ _ a c => zEC (a.ev rfl) (a.ev rfl) _) (Tq.mv rfl rfl (Tq.mv rfl rfl (Tq.mv rfl rfl (Tq.va rfl (fun _ _ a c => QF zEz (a.ev rfl)) (Tq.va rfl (fun _ _ a c => zAA (a.ev rfl) (a.ev rfl)) ?_))))))))
     obtain ⟨zYb, zZt, H⟩ := bnd H
     obtain ⟨zVE, zVD, zVC⟩ := zq zZt
     obtain ⟨zoC, hRu167, zch, hcu167⟩ := (zAi).el zVC
     obtain ⟨znt, znj⟩ := zoC
     have zi2 := zch
     replace hRu167 : w.R (adB zGU) := Or.inl hRu167
     exact Tq.va rfl (fun _ _ a c => zL zCh (a.ev rfl) zAi.form (a.ev rfl) zVE zVD) (Tq.va rfl (fun _ _ a c => zB zDd (a.ev rfl)) (Tq.va rfl (fun _ _ a c => zD zm (a.ev rfl) (zO.drop (rdR hRu167 hcu167 c) 1) rfl) (Tq.va rfl (fun _ _ a c => zED (a.ev rfl) (a.ev rfl) _) (Tq.asg rfl rfl (Tq.asg rfl rfl (Tq.nil (Tr.zh (Tr.zA (Tr.region (Tr.va rfl (fun _ _ a c => zo (a.ev rfl) (a.ev rfl)) (Tr.mv rfl rfl (Tr.nil (Tr.zf WU ((min x160 zev.Y0), (max zbw zYb.Y1), zDt, (w64 (x153 + 1)), zGW, zGM) ⟨H, zJw⟩ (.cons rfl (.cons rfl (.cons rfl (.cons rfl (.cons rfl (.cons rfl (.cons rfl (.cons rfl (.cons rfl .nil))))))))) (.cons rfl (.cons rfl .nil)))))))))))))))
   ·exact Tr.skip (Tr.zh (Tr.zA (Tr.region (Tr.va rfl (fun _ _ a c => zo (a.ev rfl) (a.ev rfl)) (Tr.mv rfl rfl (Tr.nil (Tr.zf WU (x150, x151, zDt, (w64 (x153 + 1)), zGW, zGM) ⟨H, zJw⟩ (.cons rfl (.cons rfl (.cons rfl (.cons rfl (.cons rfl (.cons rfl (.cons rfl (.cons rfl (.cons rfl .nil))))))))) (.cons rfl (.cons rfl .nil)))))))))
  ·refine Tr.exit (Tr.ze (Tr.ze (Tr.QK (Tr.zA (Tr.seq (Tr.block (Tr.loop (σ := (List zZ) × (List zZ) × (List zZ) × Int × (Option Addr) × Nat × (Option Addr) × Nat × (Option Addr) × Nat) (fun m w s => JY N p2 x151 m s.1 s.2.1 s.2.2.1 s.2.2.2.1 = some r ∧ Sl w.O w.W zS s.2.2.2.2.1 s.2.2.2.2.2.1 s.1 ∧ Sl w.O w.W zS s.2.2.2.2.2.2.1 s.2.2.2.2.2.2.2.1 s.2.1 ∧ SlF s.2.2.2.2.2.2.2.2.1 s.2.2.1.length s.2.2.2.2.2.2.2.2.2) (fun s => [(0, sL s.2.2.2.2.1 s.1 s.2.2.2.2.2.1), (1, sL s.2.2.2.2.2.2.1 s.2.1 s.2.2.2.2.2.2.2.1), (2, .func (.func fid2) #[] cap2.toArray), (7, sL s.2.2.2.2.2.2.2.2.1 s.2.2.1 s.2.2.2.2.2.2.2.2.2), (8, iv s.2.2.2.1), (9, iv x151)]) (fun s => [(2, ow s.2.2.2.2.2.2.2.2.1 s.2.2.2.2.2.2.2.2.2 80 zS s.2.2.1)]) N (p0, p1, ([] : List zZ), x150, zF, zG, QB, QA, none, 0) ⟨H, zT, Qt, Kj⟩ (.cons rfl (.cons rfl (.cons rfl (.cons rfl (.cons rfl (.cons rfl .nil)))))) (.cons rfl .nil) (fun _ _ h => zAg (h.1)) ?_)))))))
   intro w zEv mL9 s hs
   obtain ⟨zZT, zMD, zDS, zDV, zen, zee, zUR, zT8, zEp, zEe⟩ := s
   obtain ⟨H, zaB, zTe, zaA⟩ := hs
   replace H : JY N p2 x151 (mL9 + 1) zZT zMD zDS zDV = some r := H
   replace hf2 := fun w' he => hf2 w' (zEv.ext.trans he)
   replace leB := leB.trans zEv
   replace zaB : Sl w.O w.W zS zen zee zZT := zaB
   replace zTe : Sl w.O w.W zS zUR zT8 zMD := zTe
   replace zaA : SlF zEp zDS.length zEe := zaA
   rw [JY.eq_2] at H
   dsimp only
   refine Tr.seq (Tr.sr (Tr.mv rfl rfl (Tr.mv rfl rfl (Tr.va rfl (fun _ _ a c => QD (a.ev rfl) (a.ev rfl)) (Tr.nil (Tr.zA (Tr.cond rfl H (fun H => ?_) (fun H => ?_))))))))
   ·refine Tr.skip (Tr.zA (Tr.block (Tr.seq (Tr.block (Tr.loop (σ := (List zZ) × (Option Addr) × Nat) (fun m w s => VO N p2 x151 zMD zDS zDV (JY N p2 x151 mL9) m s.1 = some r ∧ Sl w.O w.W zS s.2.1 s.2.2 s.1) (fun s => [(0, sL s.2.1 s.1 s.2.2), (1, sL zUR zMD zT8), (2, .func (.func fid2) #[] cap2.toArray), (7, sL zEp zDS zEe), (8, iv zDV), (9, iv x151)]) (fun s => [(2, ow zEp zEe 80 zS zDS)]) N (zZT, zen, zee) ⟨H, zaB⟩ (.cons rfl (.cons rfl (.cons rfl (.cons rfl (.cons rfl (.cons rfl .nil)))))) (.cons rfl .nil) (fun _ _ h => zAg (h.1)) ?_)))))
    intro w zGC zU0 s hs
    obtain ⟨zF3, zJ4, zJz⟩ := s
    obtain ⟨H, zDv⟩ := hs
    replace H : VO N p2 x151 zMD zDS zDV (JY N p2 x151 mL9) (zU0 + 1) zF3 = some r := H
    replace zTe := zTe.le zGC
    replace hf2 := fun w' he => hf2 w' (zGC.ext.trans he)
    replace zEv := zEv.trans zGC
    replace zDv : Sl w.O w.W zS zJ4 zJz zF3 := zDv
    rw [VO.eq_2] at H
    dsimp only
    refine Tr.seq (Tr.sr (Tr.mv rfl rfl (Tr.va rfl (fun _ _ a c => QF zEz (a.ev rfl)) (Tr.va rfl (fun _ _ a c => VS (a.ev rfl) (a.ev rfl)) (Tr.mv rfl rfl ?_)))))
    obtain ⟨zc0, zQZ, H⟩ := bnd H
    refine Tr.Vw 7 [(0, sL zJ4 zF3 zJz), (1, sL zUR zMD zT8), (2, .func (.func fid2) #[] cap2.toArray), (7, sL zEp zDS zEe), (8, iv zDV), (9, iv x151), (82, bV zc0)] [(2, ow zEp zEe 80 zS zDS)] ?_ ?_
    ·cases zTo : (decide (0 < (zF3.length : Int)))
     ·rw [zTo] at zQZ
      rw [if_neg (by decide)] at zQZ
      have H := zQZ
      obtain rfl := oI H
      refine Tr.pass rfl rfl rfl rfl rfl (by decide) (Tr.pass rfl rfl rfl rfl rfl (by decide) (Tr.pass rfl rfl rfl rfl rfl (by decide) (Tr.pass rfl rfl rfl rfl rfl (by decide) (Tr.pass rfl rfl rfl rfl rfl (by decide) (Tr.pass rfl rfl rfl rfl rfl (by decide) (Tr.va rfl (fun _ _ a c => zy (a.ev rfl) (a.ev rfl)) ?_))))))
      exact Tr.nil (Tr.JD (.cons rfl (.cons rfl (.cons rfl (.cons rfl (.cons rfl (.cons rfl (.cons rfl .nil))))))) (.cons rfl .nil))
     ·rw [zTo] at zQZ
      rw [if_pos rfl] at zQZ
      have H := zQZ
      refine Tr.val (wg rfl rfl rfl) rfl (fun _ _ a c => run_move (a.ev rfl)) ?_
      obtain ⟨zjJ, zlD, H⟩ := bnd H
      obtain ⟨zgD, zgC, zgB⟩ := zq zlD
      obtain ⟨zn5, hRu316, zcZ, hcu316⟩ := (zDv).el zgB
      obtain ⟨znq, zng⟩ := zn5
      have ziy := zcZ
      replace hRu316 : w.R (adB zJ4) := Or.inl hRu316
      refine Tr.val (wg rfl rfl rfl) rfl (fun _ _ a c => zL zCh (a.ev rfl) zDv.form (a.ev rfl) zgD zgC) (Tr.val (wg rfl rfl rfl) rfl (fun _ _ a c => zB zDd (a.ev rfl)) (Tr.val (wg rfl rfl rfl) rfl (fun _ _ a c => zD zm (a.ev rfl) (zO.drop (rdR hRu316 hcu316 c) 1) rfl) (Tr.val (wg rfl rfl rfl) rfl (fun _ _ a c => run_move (a.ev rfl)) (Tr.val (wg rfl rfl rfl) rfl (fun _ _ a c => zAX (a.ev rfl) (a.ev rfl)) (Tr.va rfl (fun _ _ a c => zx (a.ev rfl) (a.ev rfl)) ?_)))))
      obtain rfl := oI H
      exact Tr.nil (Tr.JD (.cons rfl (.cons rfl (.cons rfl (.cons rfl (.cons rfl (.cons rfl (.cons rfl .nil))))))) (.cons rfl .nil))
    ·show Tr _ _ (LF [(0, sL zJ4 zF3 zJz), (1, sL zUR zMD zT8), (2, .func (.func fid2) #[] cap2.toArray), (7, sL zEp zDS zEe), (8, iv zDV), (9, iv x151), (82, bV zc0)]) (LE [(2, ow zEp zEe 80 zS zDS)]) _
     refine Tr.nil (Tr.zA (Tr.cond rfl H (fun H => ?_) (fun H => ?_)))
     ·refine Tr.skip (Tr.zA (Tr.block (Tr.region (Tr.mv rfl rfl ?_))))
      obtain ⟨zfV, zeK, H⟩ := bnd H
      exact Tr.va rfl (fun _ _ a c => zIc zCh (a.ev rfl) zDv.form (a.ev rfl) zeK) (Tr.asg rfl rfl (Tr.nil (Tr.zh (Tr.zf zGC (zfV, (zHl zJ4 (1 : Int).toNat 3 zJz), (zJz - (1 : Int).toNat)) ⟨H, (Sl.cut zDv zeK)⟩ (.cons rfl (.cons rfl (.cons rfl (.cons rfl (.cons rfl (.cons rfl .nil)))))) (.cons rfl .nil)))))
     ·refine Tr.exit (Tr.ze (Tr.ze (Tr.QK (Tr.zA (Tr.seq (Tr.block (Tr.loop (σ := (List zZ) × (Option Addr) × Nat) (fun m w s => VN N p2 x151 zDS zDV (JY N p2 x151 mL9) zF3 m s.1 = some r ∧ Sl w.O w.W zS s.2.1 s.2.2 s.1) (fun s => [(0, sL zJ4 zF3 zJz), (1, sL s.2.1 s.1 s.2.2), (2, .func (.func fid2) #[] cap2.toArray), (7, sL zEp zDS zEe), (8, iv zDV), (9, iv x151)]) (fun s => [(2, ow zEp zEe 80 zS zDS)]) N (zMD, zUR, zT8) ⟨H, zTe⟩ (.cons rfl (.cons rfl (.cons rfl (.cons rfl (.cons rfl (.cons rfl .nil)))))) (.cons rfl .nil) (fun _ _ h => zAg (h.1)) ?_)))))))
      intro w zWA zfO s hs
      obtain ⟨zK3, zPV, zPI⟩ := s
      obtain ⟨H, zE1⟩ := hs
      replace H : VN N p2 x151 zDS zDV (JY N p2 x151 mL9) zF3 (zfO + 1) zK3 = some r := H
      replace zDv := zDv.le zWA
      replace hf2 := fun w' he => hf2 w' (zWA.ext.trans he)
      replace zEv := zEv.trans zWA
      replace zE1 : Sl w.O w.W zS zPV zPI zK3 := zE1
      rw [VN.eq_2] at H
      dsimp only
      refine Tr.seq (Tr.sr (Tr.mv rfl rfl (Tr.va rfl (fun _ _ a c => QF zEz (a.ev rfl)) (Tr.va rfl (fun _ _ a c => VS (a.ev rfl) (a.ev rfl)) (Tr.mv rfl rfl ?_)))))
      obtain ⟨zcz, zQY, H⟩ := bnd H
      refine Tr.Vw 7 [(0, sL zJ4 zF3 zJz), (1, sL zPV zK3 zPI), (2, .func (.func fid2) #[] cap2.toArray), (7, sL zEp zDS zEe), (8, iv zDV), (9, iv x151), (95, bV zcz)] [(2, ow zEp zEe 80 zS zDS)] ?_ ?_
      ·cases zTo : (decide (0 < (zK3.length : Int)))
       ·rw [zTo] at zQY
        rw [if_neg (by decide)] at zQY
        have H := zQY
        obtain rfl := oI H
        refine Tr.pass rfl rfl rfl rfl rfl (by decide) (Tr.pass rfl rfl rfl rfl rfl (by decide) (Tr.pass rfl rfl rfl rfl rfl (by decide) (Tr.pass rfl rfl rfl rfl rfl (by decide) (Tr.pass rfl rfl rfl rfl rfl (by decide) (Tr.pass rfl rfl rfl rfl rfl (by decide) (Tr.va rfl (fun _ _ a c => zy (a.ev rfl) (a.ev rfl)) ?_))))))
        exact Tr.nil (Tr.JD (.cons rfl (.cons rfl (.cons rfl (.cons rfl (.cons rfl (.cons rfl (.cons rfl .nil))))))) (.cons rfl .nil))
       ·rw [zTo] at zQY
        rw [if_pos rfl] at zQY
        have H := zQY
        refine Tr.val (wg rfl rfl rfl) rfl (fun _ _ a c => run_move (a.ev rfl)) ?_
        obtain ⟨zXm, zZr, H⟩ := bnd H
        obtain ⟨zVB, zVA, zU9⟩ := zq zZr
        obtain ⟨zn4, hRu338, zcY, hcu338⟩ := (zE1).el zU9
        obtain ⟨znp, znf⟩ := zn4
        have zix := zcY
        replace hRu338 : w.R (adB zPV) := Or.inl hRu338
        refine Tr.val (wg rfl rfl rfl) rfl (fun _ _ a c => zL zCh (a.ev rfl) zE1.form (a.ev rfl) zVB zVA) (Tr.val (wg rfl rfl rfl) rfl (fun _ _ a c => zB zDd (a.ev rfl)) (Tr.val (wg rfl rfl rfl) rfl (fun _ _ a c => zD zm (a.ev rfl) (zO.drop (rdR hRu338 hcu338 c) 1) rfl) (Tr.val (wg rfl rfl rfl) rfl (fun _ _ a c => run_move (a.ev rfl)) (Tr.val (wg rfl rfl rfl) rfl (fun _ _ a c => zAX (a.ev rfl) (a.ev rfl)) (Tr.va rfl (fun _ _ a c => zx (a.ev rfl) (a.ev rfl)) ?_)))))
        obtain rfl := oI H
        exact Tr.nil (Tr.JD (.cons rfl (.cons rfl (.cons rfl (.cons rfl (.cons rfl (.cons rfl (.cons rfl .nil))))))) (.cons rfl .nil))
      ·show Tr _ _ (LF [(0, sL zJ4 zF3 zJz), (1, sL zPV zK3 zPI), (2, .func (.func fid2) #[] cap2.toArray), (7, sL zEp zDS zEe), (8, iv zDV), (9, iv x151), (95, bV zcz)]) (LE [(2, ow zEp zEe 80 zS zDS)]) _
       refine Tr.nil (Tr.zA (Tr.cond rfl H (fun H => ?_) (fun H => ?_)))
       ·refine Tr.skip (Tr.zA (Tr.block (Tr.region (Tr.mv rfl rfl ?_))))
        obtain ⟨zfU, zeJ, H⟩ := bnd H
        exact Tr.va rfl (fun _ _ a c => zIc zCh (a.ev rfl) zE1.form (a.ev rfl) zeJ) (Tr.asg rfl rfl (Tr.nil (Tr.zh (Tr.zf zWA (zfU, (zHl zPV (1 : Int).toNat 3 zPI), (zPI - (1 : Int).toNat)) ⟨H, (Sl.cut zE1 zeJ)⟩ (.cons rfl (.cons rfl (.cons rfl (.cons rfl (.cons rfl (.cons rfl .nil)))))) (.cons rfl .nil)))))
       ·refine Tr.exit (Tr.ze (Tr.ze (Tr.QK (Tr.zA (Tr.sr (Tr.mv rfl rfl (Tr.mv rfl rfl (Tr.mv rfl rfl ?_))))))))
        obtain ⟨zKc, zkK, H⟩ := bnd H
        refine Tr.VC [] [] (U := (Option Addr × Nat)) (fun u => (.tuple #[sL u.1 zKc.1 u.2, iv zKc.2])) (fun O W u => Sl O W QR u.1 u.2 zKc.1) (fun u => []) rfl za (fun _ => rfl) (wn rfl) rfl Tryz.call144 (zH rfl (zH rfl (zH rfl zP))) (fun W hW hp hE => zFs zF3 zJ4 zJz (zDv.zAS (hW.JE hp)) zDV x151 zKc zkK hE) ?_
        intro w u zWB hu
        obtain ⟨zXG, zWh⟩ := u
        have gy340_0 := hu
        replace zDv := zDv.le zWB
        replace zE1 := zE1.le zWB
        replace hf2 := fun w' he => hf2 w' (zWB.ext.trans he)
        replace zEv := zEv.trans zWB
        have zFl : Sl w.O w.W QR zXG zWh zKc.1 := gy340_0 --@phi
        dsimp only
        refine Tr.mv rfl rfl (Tr.va rfl (fun _ _ a c => Qb (a.ev rfl) rfl) (Tr.va rfl (fun _ _ a c => Qb (a.ev rfl) rfl) (Tr.asg rfl rfl (Tr.asg rfl rfl (Tr.nil (Tr.zA (Tr.sr (Tr.mv rfl rfl (Tr.mv rfl rfl (Tr.mv rfl rfl ?_))))))))))
        obtain ⟨zKb, zkJ, H⟩ := bnd H
        refine Tr.VC [] [] (U := (Option Addr × Nat)) (fun u => (.tuple #[sL u.1 zKb.1 u.2, iv zKb.2])) (fun O W u => Sl O W QR u.1 u.2 zKb.1) (fun u => []) rfl za (fun _ => rfl) (wn rfl) rfl Tryz.call144 (zH rfl (zH rfl (zH rfl zP))) (fun W hW hp hE => zFs zK3 zPV zPI (zE1.zAS (hW.JE hp)) zDV x151 zKb zkJ hE) ?_
        intro w u zTC hu
        obtain ⟨zXF, zWg⟩ := u
        have gy342_0 := hu
        replace zDv := zDv.le zTC
        replace zE1 := zE1.le zTC
        replace hf2 := fun w' he => hf2 w' (zTC.ext.trans he)
        replace zFl := zFl.le zTC
        replace zEv := zEv.trans zTC
        have zIn : Sl w.O w.W QR zXF zWg zKb.1 := gy342_0 --@phi
        dsimp only
        refine Tr.mv rfl rfl (Tr.va rfl (fun _ _ a c => Qb (a.ev rfl) rfl) (Tr.va rfl (fun _ _ a c => Qb (a.ev rfl) rfl) (Tr.asg rfl rfl (Tr.asg rfl rfl (Tr.nil (Tr.zA (Tr.sr (Tr.mv rfl rfl (Tr.mv rfl rfl (Tr.va rfl (fun _ _ a c => zEC (a.ev rfl) (a.ev rfl) _) (Tr.asg rfl rfl (Tr.nil (Tr.zA (Tr.sr (Tr.mv rfl rfl (Tr.mv rfl rfl (Tr.mv rfl rfl (Tr.mv rfl rfl (Tr.mv rfl rfl (Tr.mv rfl rfl ?_))))))))))))))))))))
        obtain ⟨zNG, zkI, H⟩ := bnd H
        refine Tr.VB [12] [emp] (U := (Option Addr × Nat)) (fun u => (sL u.1 zNG u.2)) (fun u => SlF u.1 zNG.length u.2) (fun u => [ow u.1 u.2 3 QR zNG]) rfl (zQ rfl za) (fun _ => rfl) (wn rfl) rfl Tryz.call145 (zH rfl (zH rfl (zH rfl zP))) (fun W hW hp hE => zNO N zKc.1 zXG zWh (zFl.rl.ext (hW.JE hp)) zKb.1 zXF zWg (zIn.rl.ext (hW.JE hp)) p2 fid2 cap2 hg2 (fun w' he => hf2 w' ((hW.JE hp).trans he)) zNG zkI hE) ?_
        intro u hu
        obtain ⟨zNp, zNd⟩ := u
        have gy344_0 := hu
        have zmN : SlF zNp zNG.length zNd := gy344_0 --@phi
        dsimp only
        refine Tr.build (vs := [(0, iv zDV), (1, iv (min zKc.2 zKb.2)), (2, sL zNp zNG zNd)]) (cs := [iv zDV, iv (min zKc.2 zKb.2), sL zNp zNG zNd]) (wn rfl) rfl (zi rfl (zi rfl (zi rfl QW))) (by kernel_rfl) (Tr.freeze 12 rfl fun w zQJ zZX => ?_)
        replace zDv := zDv.le zQJ
        replace zE1 := zE1.le zQJ
        replace hf2 := fun w' he => hf2 w' (zQJ.ext.trans he)
        replace zFl := zFl.le zQJ
        replace zIn := zIn.le zQJ
        replace zEv := zEv.trans zQJ
        obtain ⟨zPX, zkH, H⟩ := bnd H
        refine Tr.VC [2] [ow zEp zEe 80 zS zDS] (U := (Option Addr × Nat)) (fun u => (sL u.1 zPX u.2)) (fun O W u => SlF u.1 zPX.length u.2) (fun u => [ow u.1 u.2 80 zS zPX]) rfl (zQ rfl za) (fun _ => rfl) (wn rfl) rfl Tryz.call55 (zH rfl (zH rfl zP)) (fun W hW hp hE => zCP zDS zEp zEe (zZ.mk zDV (min zKc.2 zKb.2) zNG) zNp zNd (zZX.zAS (hW.JE hp)) zPX zkH hE) ?_
        intro w u zOW hu
        obtain ⟨zXE, zWf⟩ := u
        have gy348_0 := hu
        replace zDv := zDv.le zOW
        replace zE1 := zE1.le zOW
        replace hf2 := fun w' he => hf2 w' (zOW.ext.trans he)
        replace zFl := zFl.le zOW
        replace zIn := zIn.le zOW
        replace zZX := zZX.le zOW
        replace zEv := zEv.trans zOW
        have zaK : SlF zXE zPX.length zWf := gy348_0 --@phi
        dsimp only
        exact Tr.asg rfl rfl (Tr.nil (Tr.zA (Tr.region (Tr.mv rfl rfl (Tr.asg rfl rfl (Tr.nil (Tr.zh (Tr.zf zEv (zF3, zK3, zPX, (min zKc.2 zKb.2), zJ4, zJz, zPV, zPI, zXE, zWf) ⟨H, zDv, zE1, zaK⟩ (.cons rfl (.cons rfl (.cons rfl (.cons rfl (.cons rfl (.cons rfl .nil)))))) (.cons rfl .nil)))))))))
   ·refine Tr.exit (Tr.ze (Tr.ze (Tr.QK (Tr.zA (Tr.sr (Tr.mv rfl rfl (Tr.asg rfl rfl (Tr.nil (Tr.zA (Tr.ret ?_))))))))))
    obtain rfl := oI H
    exact Tr.out (m := [sL zEp zDS zEe]) [] (zU rfl zV) (fun W hW => ⟨w, (zEp, zEe), leB, rfl, zaA, hW.pick (ks := [2]) (by decide) (zQ rfl za)⟩)

theorem zHu {w : Bs} (p0 : Bool) (p1 : Bool) (r : Bool) (H : Wv p0 p1 = some r) (hE : HF w w.W E0) : Calls Tryz.prog 142 [bV p0, bV p1].toArray w.W fun e W' => e = .returned (bV r) ∧ HF w W' E0 := by
 unfold Wv at H
 have leB := Bs.Le.refl w
 refine Tr.enter (n := 10) Tryz.func142 rfl rfl rfl hE (Tr.sr (Tr.asg rfl rfl (Tr.nil (Tr.zA (Tr.sr (Tr.mv rfl rfl (Tr.mv rfl rfl (Tr.Vw 3 [(9, bV (p0 && (!p1)))] [] ?_ ?_))))))))
 ·cases ziS : p0
  ·exact Tr.pass rfl rfl rfl rfl rfl (by decide) (Tr.pass rfl rfl rfl rfl rfl (by decide) (Tr.va rfl (fun _ _ a c => zy (a.ev rfl) (a.ev rfl)) (Tr.nil (Tr.JD (.cons rfl .nil) .nil))))
  ·exact Tr.val (wg rfl rfl rfl) rfl (fun _ _ a c => run_move (a.ev rfl)) (Tr.val (wg rfl rfl rfl) rfl (fun _ _ a c => KD (a.ev rfl)) (Tr.va rfl (fun _ _ a c => zx (a.ev rfl) (a.ev rfl)) (Tr.nil (Tr.JD (.cons rfl .nil) .nil))))
 ·show Tr _ _ (LF [(9, bV (p0 && (!p1)))]) (LE []) _
  refine Tr.asg rfl rfl (Tr.nil (Tr.zA (Tr.ret ?_)))
  obtain rfl := oI H
  exact Tr.out (m := [bV (p0 && (!p1))]) [] (zU rfl zV) (fun W hW => ⟨rfl, hW.low leB⟩)

theorem zI5 (N : Nat) {w : Bs} (p0 : (List zZ)) (zF : Option Addr) (zG : Nat) (zT : Sl w.O w.W zS zF zG p0) (p1 : (List zZ)) (QB : Option Addr) (QA : Nat) (Qt : Sl w.O w.W zS QB QA p1) (r : (List zZ)) (H : We N p0 p1 = some r) (hE : HF w w.W (LEn [emp])) : Calls Tryz.prog 135 [sL zF p0 zG, sL QB p1 QA].toArray w.W fun e W' => ∃ (w' : Bs) (u : (Option Addr × Nat)), w.Le w' ∧ e = .returned (sL u.1 r u.2) ∧ (SlF u.1 r.length u.2) ∧ HF w' W' (LEn [ow u.1 u.2 80 zS r]) := by
 unfold We at H
 have leB := Bs.Le.refl w
 refine Tr.enter (n := 8) Tryz.func135 rfl rfl rfl hE (Tr.sr (Tr.asg rfl rfl (Tr.JI 1 80 zS ?_)))
 show Tr _ _ (uf _ 4 (sL none (([] : List zZ)) 0)) _ _
 refine Tr.nil (Tr.zA (Tr.sr (Tr.mv rfl rfl (Tr.mv rfl rfl ?_))))
 obtain ⟨QT, zBG, H⟩ := bnd H
 refine Tr.VC [2] [emp] (U := (Option Addr × Nat)) (fun u => (sL u.1 QT u.2)) (fun O W u => SlF u.1 QT.length u.2) (fun u => [ow u.1 u.2 80 zS QT]) rfl (zQ rfl za) (fun _ => rfl) (wn rfl) rfl Tryz.call141 (zH rfl (zH rfl (zH rfl zP))) (fun W hW hp hE => zHA N p0 zF zG (zT.zAS (hW.JE hp)) p1 QB QA (Qt.zAS (hW.JE hp)) (fun z0 z1 => Wv z0 z1) 142 [] Tryz.call142 (fun w' he z0 z1 y hy => zHu z0 z1 y hy (HF.start _)) QT zBG hE) ?_
 intro w u zGD hu
 obtain ⟨JO, JM⟩ := u
 have gy100_0 := hu
 replace leB := leB.trans zGD
 have zCK : SlF JO QT.length JM := gy100_0 --@phi
 dsimp only
 refine Tr.asg rfl rfl (Tr.nil (Tr.zA (Tr.ret ?_)))
 obtain rfl := oI H
 exact Tr.out (m := [sL JO QT JM]) [] (zU rfl zV) (fun W hW => ⟨w, (JO, JM), leB, rfl, zCK, hW.pick (ks := [2]) (by decide) (zQ rfl za)⟩)

theorem zI4 {w : Bs} (p0 : Bool) (p1 : Bool) (r : Bool) (H : zAy p0 p1 = some r) (hE : HF w w.W E0) : Calls Tryz.prog 143 [bV p0, bV p1].toArray w.W fun e W' => e = .returned (bV r) ∧ HF w W' E0 := by
 unfold zAy at H
 have leB := Bs.Le.refl w
 refine Tr.enter (n := 9) Tryz.func143 rfl rfl rfl hE (Tr.sr (Tr.asg rfl rfl (Tr.nil (Tr.zA (Tr.sr (Tr.mv rfl rfl (Tr.mv rfl rfl (Tr.Vw 2 [(8, bV (p0 || p1))] [] ?_ ?_))))))))
 ·cases ziS : p0
  ·exact Tr.val (wg rfl rfl rfl) rfl (fun _ _ a c => run_move (a.ev rfl)) (Tr.va rfl (fun _ _ a c => zy (a.ev rfl) (a.ev rfl)) (Tr.nil (Tr.JD (.cons rfl .nil) .nil)))
  ·exact Tr.pass rfl rfl rfl rfl rfl (by decide) (Tr.va rfl (fun _ _ a c => zx (a.ev rfl) (a.ev rfl)) (Tr.nil (Tr.JD (.cons rfl .nil) .nil)))
 ·show Tr _ _ (LF [(8, bV (p0 || p1))]) (LE []) _
  refine Tr.asg rfl rfl (Tr.nil (Tr.zA (Tr.ret ?_)))
  obtain rfl := oI H
  exact Tr.out (m := [bV (p0 || p1)]) [] (zU rfl zV) (fun W hW => ⟨rfl, hW.low leB⟩)

theorem zKV (N : Nat) {w : Bs} (p0 : (List zZ)) (zF : Option Addr) (zG : Nat) (zT : Sl w.O w.W zS zF zG p0) (p1 : (List zZ)) (QB : Option Addr) (QA : Nat) (Qt : Sl w.O w.W zS QB QA p1) (r : (List zZ)) (H : zAk N p0 p1 = some r) (hE : HF w w.W (LEn [emp])) : Calls Tryz.prog 136 [sL zF p0 zG, sL QB p1 QA].toArray w.W fun e W' => ∃ (w' : Bs) (u : (Option Addr × Nat)), w.Le w' ∧ e = .returned (sL u.1 r u.2) ∧ (SlF u.1 r.length u.2) ∧ HF w' W' (LEn [ow u.1 u.2 80 zS r]) := by
 unfold zAk at H
 have leB := Bs.Le.refl w
 refine Tr.enter (n := 8) Tryz.func136 rfl rfl rfl hE (Tr.sr (Tr.asg rfl rfl (Tr.JI 1 80 zS ?_)))
 show Tr _ _ (uf _ 4 (sL none (([] : List zZ)) 0)) _ _
 refine Tr.nil (Tr.zA (Tr.sr (Tr.mv rfl rfl (Tr.mv rfl rfl ?_))))
 obtain ⟨QT, zBG, H⟩ := bnd H
 refine Tr.VC [2] [emp] (U := (Option Addr × Nat)) (fun u => (sL u.1 QT u.2)) (fun O W u => SlF u.1 QT.length u.2) (fun u => [ow u.1 u.2 80 zS QT]) rfl (zQ rfl za) (fun _ => rfl) (wn rfl) rfl Tryz.call141 (zH rfl (zH rfl (zH rfl zP))) (fun W hW hp hE => zHA N p0 zF zG (zT.zAS (hW.JE hp)) p1 QB QA (Qt.zAS (hW.JE hp)) (fun z0 z1 => zAy z0 z1) 143 [] Tryz.call143 (fun w' he z0 z1 y hy => zI4 z0 z1 y hy (HF.start _)) QT zBG hE) ?_
 intro w u zGD hu
 obtain ⟨JO, JM⟩ := u
 have gy100_0 := hu
 replace leB := leB.trans zGD
 have zCK : SlF JO QT.length JM := gy100_0 --@phi
 dsimp only
 refine Tr.asg rfl rfl (Tr.nil (Tr.zA (Tr.ret ?_)))
 obtain rfl := oI H
 exact Tr.out (m := [sL JO QT JM]) [] (zU rfl zV) (fun W hW => ⟨w, (JO, JM), leB, rfl, zCK, hW.pick (ks := [2]) (by decide) (zQ rfl za)⟩)

theorem zCQ {w : Bs} (p0 : (List zZ)) (zF : Option Addr) (zG : Nat) (zT : Sl w.R w.W zS zF zG p0) (r : Int) (H : Wd p0 = some r) (hE : HF w w.W E0) : Calls Tryz.prog 59 [sL zF p0 zG].toArray w.W fun e W' => e = .returned (iv r) ∧ HF w W' E0 := by
 unfold Wd at H
 have leB := Bs.Le.refl w
 refine Tr.enter (n := 20) Tryz.func59 rfl rfl rfl hE (Tr.sr (Tr.asg rfl rfl (Tr.nil (Tr.zA (Tr.sr (Tr.asg rfl rfl (Tr.nil (Tr.zA (Tr.seq (Tr.sr (Tr.mv rfl rfl (Tr.va rfl (fun _ _ a c => QF zEz (a.ev rfl)) (Tr.mv rfl rfl (Tr.nil (Tr.zA (Tr.block (Tr.loop (σ := (List zZ) × Nat × Int) (fun m w s => m = s.1.length + 1 ∧ s.1 = List.drop s.2.1 p0 ∧ s.2.1 ≤ p0.length ∧ Jp s.1 s.2.1 s.2.2 = some r) (fun s => [(3, iv s.2.2), (6, sL zF p0 zG), (7, iv (p0.length : Int)), (8, iv (s.2.1 : Int))]) (fun s => []) (p0.length + 1) (p0, 0, 0) ⟨rfl, rfl, Nat.zero_le _, H⟩ (.cons rfl (.cons rfl (.cons rfl (.cons rfl .nil)))) .nil (fun _ _ h => absurd h.1 (by simp)) ?_)))))))))))))))))
 intro w Qc m s hs
 obtain ⟨zY, iL1, x112⟩ := s
 obtain ⟨Ki, QE, hiL1, H⟩ := hs
 replace QE : zY = List.drop iL1 p0 := QE
 replace H : Jp zY iL1 x112 = some r := H
 replace Ki : m + 1 = zY.length + 1 := Ki
 replace zT := zT.leR Qc
 replace leB := leB.trans Qc
 obtain rfl : m = zY.length := by omega
 clear Ki
 dsimp only
 cases zY with
 | nil =>
  rw [Jp.eq_1] at H
  refine Tr.sr (Tr.va rfl (fun _ _ a c => QD (a.ev rfl) (a.ev rfl)) (Tr.nil (Tr.zA (Tr.seq (Tr.Vy rfl (JA QE) (Tr.exit (Tr.ze (Tr.ze (Tr.QK (Tr.zA (Tr.sr (Tr.mv rfl rfl (Tr.asg rfl rfl (Tr.nil (Tr.zA (Tr.ret ?_))))))))))))))))
  obtain rfl := oI H
  exact Tr.out (m := [iv x112]) [] (zU rfl zV) (fun W hW => ⟨rfl, hW.low leB⟩)
 | cons xL1 zY =>
  rw [Jp.eq_2] at H
  refine Tr.sr (Tr.va rfl (fun _ _ a c => QD (a.ev rfl) (a.ev rfl)) (Tr.nil (Tr.zA (Tr.seq (Tr.Vx rfl (JU QE) (Tr.skip (Tr.zA (Tr.seq (Tr.block (Tr.sr ?_))))))))))
  obtain ⟨zoL, hRu113, zcr, hcu113⟩ := (zT).el (KH QE)
  obtain ⟨zNv, zNk⟩ := zoL
  have zi6 := zcr
  refine Tr.va rfl (fun _ _ a c => zL zCh (a.ev rfl) zT.form (a.ev rfl) (Int.natCast_nonneg _) (QC QE)) (Tr.va rfl (fun _ _ a c => zX (cs := [iv xL1.Y0, iv xL1.Y1, sL zNv xL1.Xs zNk]) zXA zMl (a.ev rfl) (zO.take (rdR hRu113 hcu113 c) 3) rfl) (Tr.alloc 3 (wn rfl) rfl zYM fun zpI => (Tr.store 3 (cs := [iv xL1.Y0, iv xL1.Y1, sL zNv xL1.Xs zNk]) [iv xL1.Y0, iv xL1.Y1, sL zNv xL1.Xs zNk] (wn rfl) rfl rfl rfl rfl zMl rfl rfl rfl (Tr.nil (Tr.zA (Tr.region (Tr.mv rfl rfl (Tr.va rfl (fun _ _ a c => zB zCa (a.ev rfl)) (Tr.va rfl (fun _ _ a c => zD zCt (a.ev rfl) (rdb c (vs := [iv xL1.Y0, iv xL1.Y1, sL zNv xL1.Xs zNk]) (k := 3) rfl 2) rfl) (Tr.va rfl (fun _ _ a c => QF zCe (a.ev rfl)) ?_))))))))))
  exact Tr.va rfl (fun _ _ a c => zVt (a.ev rfl) (a.ev rfl) (by decide)) (Tr.va rfl (fun _ _ a c => zo (a.ev rfl) (a.ev rfl)) (Tr.asg rfl rfl (Tr.nil (Tr.zh (Tr.zA (Tr.region (Tr.va rfl (fun _ _ a c => zo (a.ev rfl) (a.ev rfl)) (Tr.mv rfl rfl (Tr.nil (Tr.zf Qc (zY, (iL1 + 1), (w64 (x112 + (w64 (Int.tdiv (xL1.Xs.length : Int) 2))))) ⟨rfl, Qe QE, QC QE, H⟩ (.cons rfl (.cons rfl (.cons rfl (.cons (congrArg (fun z => some (Value.int .i64 z)) (Qd QE zT.form)) .nil)))) .nil))))))))))

theorem zBO (N : Nat) {w : Bs} (p0 : QM) (zF : Option Addr) (zG : Nat) (zT : Sl w.R w.W zW zF zG p0.p.Tools) (zN : Option Addr) (zM : Nat) (QV : Sl w.R w.W zJ zN zM p0.p.Steps) (QH : Option Addr) (QI : Nat) (Kb : Sl w.R w.W JJ QH QI p0.tools) (QN : Option Addr) (QL : Nat) (bp0 : Nat) (p1 : (List zZ)) (QB : Option Addr) (QA : Nat) (Qt : Sl w.O w.W zS QB QA p1) (r : (Int × (List zZ))) (H : Kt N p0 p1 = some r) (hE : HF w w.W (LEn [bx bp0 #[iv p0.p.Unit, sL zF p0.p.Tools zG, sL zN p0.p.Steps zM, sL QH p0.tools QI, sL QN p0.image QL, bV p0.clear, iv p0.tool, iv p0.place.X, iv p0.place.Y, bV p0.placed, iv p0.off, iv p0.on] 77, ow QN QL 80 zS p0.image])) : Calls Tryz.prog 125 [pV bp0, sL QB p1 QA].toArray w.W fun e W' => ∃ (w' : Bs) (u : (Option Addr × Nat)), w.Le w' ∧ e = .returned (iv r.1) ∧ (SlF u.1 r.2.length u.2) ∧ HF w' W' (LEn [bx bp0 #[iv p0.p.Unit, sL zF p0.p.Tools zG, sL zN p0.p.Steps zM, sL QH p0.tools QI, sL u.1 r.2 u.2, bV p0.clear, iv p0.tool, iv p0.place.X, iv p0.place.Y, bV p0.placed, iv p0.off, iv p0.on] 77, ow u.1 u.2 80 zS r.2]) := by
 unfold Kt at H
 have zAB := (hE.sl (k := 1) rfl).form
 have leB := Bs.Le.refl w
 refine Tr.enter (n := 38) Tryz.func125 rfl rfl rfl hE (Tr.sr (Tr.asg rfl rfl (Tr.nil (Tr.zA ?_))))
 have leJ110 := Bs.Le.refl w
 refine Tr.zIu (σ := (List zZ) × (Option Addr) × Nat) (fun w s => KO s.1 = some r ∧ SlF s.2.1 s.1.length s.2.2) (fun s => [(0, pV bp0)]) (fun s => [(0, bx bp0 #[iv p0.p.Unit, sL zF p0.p.Tools zG, sL zN p0.p.Steps zM, sL QH p0.tools QI, sL s.2.1 s.1 s.2.2, bV p0.clear, iv p0.tool, iv p0.place.X, iv p0.place.Y, bV p0.placed, iv p0.off, iv p0.on] 77), (4, ow s.2.1 s.2.2 80 zS s.1)]) ?_ ?_
 ·refine Tr.block (Tr.sr (Tr.mv rfl rfl ?_))
  obtain ⟨y113, hy113, H⟩ := bnd H
  refine Tr.Qa (r := (bV y113)) (wn rfl) rfl Tryz.call25 (zH rfl zP) (fun W hW => zEj p1 QB QA (Qt.rl.ext hW.Qr) y113 hy113 (HF.start _)) (Tr.va rfl (fun _ _ a c => KD (a.ev rfl)) (Tr.asg rfl rfl (Tr.nil (Tr.zA (Tr.cond rfl H (fun H => ?_) (fun H => ?_))))))
  ·refine Tr.sr (Tr.asg rfl rfl (Tr.nil (Tr.zA (Tr.ret (Tr.QP (Tr.zb ?_))))))
   obtain rfl := oI H
   exact Tr.out (m := [iv 1]) [] (zU rfl zV) (fun W hW => ⟨w, (QN, QL), leB, rfl, zAB, hW.pick (ks := [0, 1]) (by decide) (zQ rfl (zQ rfl za))⟩)
  ·refine Tr.sr (Tr.mv rfl rfl (Tr.va rfl (fun _ _ a c => zl (a.ev rfl)) (Tr.va rfl (fun _ _ a c => zB zWS (a.ev rfl)) (Tr.va rfl (fun _ _ a c => zD zJr (a.ev rfl) (rdb c (vs := [iv p0.p.Unit, sL zF p0.p.Tools zG, sL zN p0.p.Steps zM, sL QH p0.tools QI, sL QN p0.image QL, bV p0.clear, iv p0.tool, iv p0.place.X, iv p0.place.Y, bV p0.placed, iv p0.off, iv p0.on]) (k := 0) rfl 5) rfl) (Tr.asg rfl rfl (Tr.nil (Tr.zA (Tr.cond rfl H (fun H => ?_) (fun H => ?_)))))))))
   ·refine Tr.region (Tr.mv rfl rfl (Tr.mv rfl rfl (Tr.va rfl (fun _ _ a c => zl (a.ev rfl)) (Tr.va rfl (fun _ _ a c => zB zJX (a.ev rfl)) (Tr.va rfl (fun _ _ a c => zD zPO (a.ev rfl) (rdb c (vs := [iv p0.p.Unit, sL zF p0.p.Tools zG, sL zN p0.p.Steps zM, sL QH p0.tools QI, sL QN p0.image QL, bV p0.clear, iv p0.tool, iv p0.place.X, iv p0.place.Y, bV p0.placed, iv p0.off, iv p0.on]) (k := 0) rfl 4) rfl) (Tr.mv rfl rfl (Tr.freeze 1 rfl fun w zTF zZe => ?_)))))))
    replace Qt := Qt.le zTF
    replace leJ110 := leJ110.trans zTF
    obtain ⟨zFa, zTY, H⟩ := bnd H
    refine Tr.VC [5] [emp] (U := (Option Addr × Nat)) (fun u => (sL u.1 zFa u.2)) (fun O W u => SlF u.1 zFa.length u.2) (fun u => [ow u.1 u.2 80 zS zFa]) rfl (zQ rfl za) (fun _ => rfl) (wn rfl) rfl Tryz.call135 (zH rfl (zH rfl zP)) (fun W hW hp hE => zI5 N p0.image QN QL (zZe.zAS (hW.JE hp)) p1 QB QA (Qt.zAS (hW.JE hp)) zFa zTY hE) ?_
    intro w u zeD hu
    obtain ⟨zNr, zNf⟩ := u
    have gy116_0 := hu
    replace zZe := zZe.le zeD
    replace leJ110 := leJ110.trans zeD
    have zab : SlF zNr zFa.length zNf := gy116_0 --@phi
    dsimp only
    exact Tr.va rfl (fun _ _ a c => zl (a.ev rfl)) (Tr.va rfl (fun _ _ a c => zB zJX (a.ev rfl)) (Tr.store 0 (cs := [sL zNr zFa zNf]) [iv p0.p.Unit, sL zF p0.p.Tools zG, sL zN p0.p.Steps zM, sL QH p0.tools QI, sL zNr zFa zNf, bV p0.clear, iv p0.tool, iv p0.place.X, iv p0.place.Y, bV p0.placed, iv p0.off, iv p0.on] (wn rfl) rfl rfl rfl rfl zYq rfl rfl rfl (Tr.nil (Tr.zh (Tr.ren 5 4 rfl rfl rfl (Tr.zf leJ110 (zFa, zNr, zNf) ⟨H, zab⟩ (.cons rfl .nil) (.cons rfl (.cons rfl .nil))))))))
   ·refine Tr.region (Tr.mv rfl rfl (Tr.mv rfl rfl (Tr.va rfl (fun _ _ a c => zl (a.ev rfl)) (Tr.va rfl (fun _ _ a c => zB zJX (a.ev rfl)) (Tr.va rfl (fun _ _ a c => zD zPO (a.ev rfl) (rdb c (vs := [iv p0.p.Unit, sL zF p0.p.Tools zG, sL zN p0.p.Steps zM, sL QH p0.tools QI, sL QN p0.image QL, bV p0.clear, iv p0.tool, iv p0.place.X, iv p0.place.Y, bV p0.placed, iv p0.off, iv p0.on]) (k := 0) rfl 4) rfl) (Tr.mv rfl rfl (Tr.freeze 1 rfl fun w zOX zID => ?_)))))))
    replace Qt := Qt.le zOX
    replace leJ110 := leJ110.trans zOX
    obtain ⟨zA8, zTX, H⟩ := bnd H
    refine Tr.VC [6] [emp] (U := (Option Addr × Nat)) (fun u => (sL u.1 zA8 u.2)) (fun O W u => SlF u.1 zA8.length u.2) (fun u => [ow u.1 u.2 80 zS zA8]) rfl (zQ rfl za) (fun _ => rfl) (wn rfl) rfl Tryz.call136 (zH rfl (zH rfl zP)) (fun W hW hp hE => zKV N p0.image QN QL (zID.zAS (hW.JE hp)) p1 QB QA (Qt.zAS (hW.JE hp)) zA8 zTX hE) ?_
    intro w u zeC hu
    obtain ⟨zNq, zNe⟩ := u
    have gy120_0 := hu
    replace zID := zID.le zeC
    replace leJ110 := leJ110.trans zeC
    have zaa : SlF zNq zA8.length zNe := gy120_0 --@phi
    dsimp only
    exact Tr.va rfl (fun _ _ a c => zl (a.ev rfl)) (Tr.va rfl (fun _ _ a c => zB zJX (a.ev rfl)) (Tr.store 0 (cs := [sL zNq zA8 zNe]) [iv p0.p.Unit, sL zF p0.p.Tools zG, sL zN p0.p.Steps zM, sL QH p0.tools QI, sL zNq zA8 zNe, bV p0.clear, iv p0.tool, iv p0.place.X, iv p0.place.Y, bV p0.placed, iv p0.off, iv p0.on] (wn rfl) rfl rfl rfl rfl zYq rfl rfl rfl (Tr.nil (Tr.zh (Tr.ren 6 4 rfl rfl rfl (Tr.zf leJ110 (zA8, zNq, zNe) ⟨H, zaa⟩ (.cons rfl .nil) (.cons rfl (.cons rfl .nil))))))))
 ·intro w s hlJ111 hs
  obtain ⟨zTN, zUT, zUA⟩ := s
  obtain ⟨H, zWM⟩ := hs
  replace H : KO zTN = some r := H
  replace leB := leB.trans hlJ111
  replace zWM : SlF zUT zTN.length zUA := zWM
  unfold KO at H
  dsimp only
  refine Tr.seq (Tr.sr (Tr.mv rfl rfl (Tr.va rfl (fun _ _ a c => zl (a.ev rfl)) (Tr.va rfl (fun _ _ a c => zB zJX (a.ev rfl)) (Tr.va rfl (fun _ _ a c => zD zPO (a.ev rfl) (rdb c (vs := [iv p0.p.Unit, sL zF p0.p.Tools zG, sL zN p0.p.Steps zM, sL QH p0.tools QI, sL zUT zTN zUA, bV p0.clear, iv p0.tool, iv p0.place.X, iv p0.place.Y, bV p0.placed, iv p0.off, iv p0.on]) (k := 0) rfl 4) rfl) ?_)))))
  obtain ⟨y112, hy112, H⟩ := bnd H
  refine Tr.Qa (r := (iv y112)) (wn rfl) rfl Tryz.call59 (zH rfl zP) (fun W hW => zCQ zTN zUT zUA (hW.zCj (k := 4) rfl) y112 hy112 (HF.start _)) (Tr.va rfl (fun _ _ a c => VS (a.ev rfl) (a.ev rfl)) (Tr.nil (Tr.zA (Tr.cond rfl H (fun H => ?_) (fun H => ?_)))))
  ·refine Tr.sr (Tr.asg rfl rfl (Tr.nil (Tr.zA (Tr.ret (Tr.zb ?_)))))
   obtain rfl := oI H
   exact Tr.out (m := [iv 2]) [] (zU rfl zV) (fun W hW => ⟨w, (zUT, zUA), leB, rfl, zWM, hW.pick (ks := [0, 4]) (by decide) (zQ rfl (zQ rfl za))⟩)
  ·refine Tr.skip (Tr.zA (Tr.sr (Tr.asg rfl rfl (Tr.nil (Tr.zA (Tr.ret ?_))))))
   obtain rfl := oI H
   exact Tr.out (m := [iv 0]) [] (zU rfl zV) (fun W hW => ⟨w, (zUT, zUA), leB, rfl, zWM, hW.pick (ks := [0, 4]) (by decide) (zQ rfl (zQ rfl za))⟩)

end Go.Proofs.YtneghcpnehiffaaGreatDoor
