/- The walks: each function computes its plain function. -/
import Derived.Test.YtoageaoknnnfbaaGreatDoorXWa
namespace Go.Proofs.YtoageaoknnnfbaaGreatDoor
open Go.RowKit
set_option maxRecDepth 100000
set_option maxHeartbeats 1000000
theorem zHk (N : Nat) {w : Bs} (p0 : (List zQ)) (zF : Option Addr) (zG : Nat) (zP : Sl w.R w.W zY zF zG p0) (r : (List ze)) (H : zCK N p0 = some r) (hE : HF w w.W (LEn [emp])) : Calls Tryz.prog 59 [sL zF p0 zG].toArray w.W fun e W' => ∃ (w' : Bs) (u : (Option Addr × Nat)), w.Le w' ∧ e = .returned (sL u.1 r u.2) ∧ (SlF u.1 r.length u.2) ∧ HF w' W' (LEn [ow u.1 u.2 107 zW r]) := by
 unfold zCK at H
 have leB := Bs.Le.refl w
 refine Tr.enter (n := 83) Tryz.func59 rfl rfl rfl hE (Tr.sr (Tr.asg rfl rfl (Tr.JY 1 107 zW ?_)))
 show Tr _ _ (uf _ 2 (sL none (([] : List ze)) 0)) _ _
 refine Tr.nil (Tr.zA (Tr.sr (Tr.mv rfl rfl ?_)))
 obtain ⟨QK, zBE, H⟩ := bnd H
 refine Tr.WB [2] [emp] (U := (Option Addr × Nat)) (fun u => (sL u.1 QK u.2)) (fun u => SlF u.1 QK.length u.2) (fun u => [ow u.1 u.2 36 zY QK]) rfl (zR rfl zk) (fun _ => rfl) (wn rfl) rfl Tryz.call80 (zI rfl zS) (fun W hW hp hE => zB4 p0 zF zG (zP.ext (hW.JH hp)) QK zBE hE) ?_
 intro u hu
 obtain ⟨JQ, JP⟩ := u
 have gy100_0 := hu
 have zBY : SlF JQ QK.length JP := gy100_0 --@phi
 dsimp only
 refine Tr.asg rfl rfl (Tr.nil (Tr.zA (Tr.sr (Tr.mv rfl rfl ?_))))
 obtain ⟨y102, hy102, H⟩ := bnd H
 refine Tr.WB [2] [ow JQ JP 36 zY QK] (U := Unit) (fun u => (.tuple #[])) (fun u => y102.length = QK.length) (fun u => [ow JQ JP 36 zY y102]) rfl (zR rfl zk) (fun _ => rfl) (wn rfl) rfl Tryz.call81 (zI rfl (zI rfl zS)) (fun W hW hp hE => zAq QK JQ JP (fun z0 z1 => zA9 z0 z1) 82 [] Tryz.call82 (fun w' he z0 z1 y hy => zLE z0 z1 y hy (HF.start _)) y102 hy102 hE) ?_
 intro u hu
 have gky102_0 := hu
 have zKM : y102.length = QK.length := gky102_0 --@phi
 have zKP : SlF JQ y102.length JP := by rw [zKM]; exact zBY
 show Tr _ _ (uf _ 13 (.tuple #[])) (up _ 2 (ow JQ JP 36 zY y102)) _
 refine Tr.sel (lf := [(0, sL JQ y102 JP), (2, sL none (([] : List ze)) 0), (10, sL zF p0 zG), (11, sL JQ y102 JP), (12, sL JQ y102 JP), (13, (.tuple #[]))]) (le := [(1, ow none 0 107 zW ([] : List ze)), (2, ow JQ JP 36 zY y102)]) (.cons (KM rfl (by unfold sL; rw [zKM])) (.cons rfl (.cons rfl (.cons (KM rfl (by unfold sL; rw [zKM])) (.cons (KM rfl (by unfold sL; rw [zKM])) (.cons rfl .nil)))))) (.cons rfl (.cons rfl .nil)) (Tr.nil (Tr.zA (Tr.sr (Tr.alloc 3 (wn rfl) rfl zjX fun Ws => (Tr.nil (Tr.zA (Tr.seq (Tr.sr (Tr.mv rfl rfl (Tr.va rfl (fun _ _ a c => zy zBQ (a.ev rfl)) (Tr.mv rfl rfl (Tr.nil (Tr.zA (Tr.block (Tr.JY 12 3 QO (Tr.loop (σ := (List zQ) × Nat × (List Int) × (Option Addr) × Nat) (fun m w s => m = s.1.length + 1 ∧ s.1 = List.drop s.2.1 y102 ∧ s.2.1 ≤ y102.length ∧ VV N y102 s.1 s.2.1 s.2.2.1 = some r ∧ SlF s.2.2.2.1 s.2.2.1.length s.2.2.2.2) (fun s => [(0, sL JQ y102 JP), (3, pV Ws), (14, sL JQ y102 JP), (15, iv (y102.length : Int)), (16, iv (s.2.1 : Int))]) (fun s => [(2, ow JQ JP 36 zY y102), (3, bx Ws #[sL s.2.2.2.1 s.2.2.1 s.2.2.2.2] 38), (12, ow s.2.2.2.1 s.2.2.2.2 3 QO s.2.2.1)]) (y102.length + 1) (y102, 0, ([] : List Int), none, 0) ⟨rfl, rfl, Nat.zero_le _, H, VR⟩ (.cons rfl (.cons rfl (.cons rfl (.cons rfl (.cons rfl .nil))))) (.cons rfl (.cons rfl (.cons rfl .nil))) (fun _ _ h => absurd h.1 (by simp)) ?_))))))))))))))))
 intro w Qe m s hs
 obtain ⟨zV, iL1, zGh, zHB, zG2⟩ := s
 obtain ⟨KS, QG, hiL1, H, zQy⟩ := hs
 replace QG : zV = List.drop iL1 y102 := QG
 replace H : VV N y102 zV iL1 zGh = some r := H
 replace KS : m + 1 = zV.length + 1 := KS
 replace leB := leB.trans Qe
 replace zQy : SlF zHB zGh.length zG2 := zQy
 obtain rfl : m = zV.length := by omega
 clear KS
 dsimp only
 cases zV with
 | nil =>
  rw [VV.eq_1] at H
  refine Tr.sr (Tr.va rfl (fun _ _ a c => QE (a.ev rfl) (a.ev rfl)) (Tr.nil (Tr.zA (Tr.seq (Tr.WY rfl (JB QG) (Tr.exit (Tr.zi (Tr.zi (Tr.QL (Tr.zA (Tr.sr (Tr.va rfl (fun _ _ a c => zD zDP (a.ev rfl) (rdb c (vs := [sL zHB zGh zG2]) (k := 3) rfl 0) rfl) ?_))))))))))))
  obtain ⟨zFT, zau, H⟩ := bnd H
  refine Tr.WB [12] [ow zHB zG2 3 QO zGh] (U := Unit) (fun u => (.tuple #[])) (fun u => zFT.length = zGh.length) (fun u => [ow zHB zG2 3 QO zFT]) rfl (zR rfl zk) (fun _ => rfl) (wn rfl) rfl Tryz.call83 (zI rfl zS) (fun W hW hp hE => zFJ zGh zHB zG2 zFT zau hE) ?_
  intro u hu
  have gky120_0 := hu
  have zNF : zFT.length = zGh.length := gky120_0 --@phi
  have zjU : SlF zHB zFT.length zG2 := by rw [zNF]; exact zQy
  show Tr _ _ (uf _ 29 (.tuple #[])) (up _ 12 (ow zHB zG2 3 QO zFT)) _
  refine Tr.sel (lf := [(0, sL JQ y102 JP), (3, pV Ws), (14, sL JQ y102 JP), (15, iv (y102.length : Int)), (16, iv (iL1 : Int)), (17, bV (decide ((iL1 : Int) < (y102.length : Int)))), (28, sL zHB zFT zG2), (29, (.tuple #[]))]) (le := [(2, ow JQ JP 36 zY y102), (3, bx Ws #[sL zHB zFT zG2] 38), (12, ow zHB zG2 3 QO zFT)]) (.cons rfl (.cons rfl (.cons rfl (.cons rfl (.cons rfl (.cons rfl (.cons (KM rfl (by unfold sL; rw [zNF])) (.cons rfl .nil)))))))) (.cons rfl (.cons (ebx rfl (by unfold sL; rw [zNF])) (.cons rfl .nil))) (Tr.nil (Tr.zA (Tr.sr (Tr.va rfl (fun _ _ a c => zD zDP (a.ev rfl) (rdb c (vs := [sL zHB zFT zG2]) (k := 3) rfl 0) rfl) ?_))))
  obtain ⟨WN, zTs, H⟩ := bnd H
  refine Tr.WB [12] [ow zHB zG2 3 QO zFT] (U := (Option Addr × Nat)) (fun u => (sL u.1 WN u.2)) (fun u => SlF u.1 WN.length u.2) (fun u => [ow u.1 u.2 3 QO WN]) rfl (zR rfl zk) (fun _ => rfl) (wn rfl) rfl Tryz.call84 (zI rfl zS) (fun W hW hp hE => zDq zFT zHB zG2 WN zTs hE) ?_
  intro u hu
  obtain ⟨Ky, Vd⟩ := u
  have gy122_0 := hu
  have zJg : SlF Ky WN.length Vd := gy122_0 --@phi
  dsimp only
  refine Tr.store 3 (cs := [sL Ky WN Vd]) [sL Ky WN Vd] (wn rfl) rfl rfl rfl rfl zeo rfl rfl rfl (Tr.nil (Tr.zA (Tr.sr (Tr.asg rfl rfl (Tr.JY 13 107 zW ?_)))))
  show Tr _ _ (uf _ 6 (sL none (([] : List ze)) 0)) _ _
  refine Tr.nil (Tr.zA (Tr.sr (Tr.asg rfl rfl (Tr.JY 14 36 zY ?_))))
  show Tr _ _ (uf _ 7 (sL none (([] : List zQ)) 0)) _ _
  refine Tr.nil (Tr.zA (Tr.sr (Tr.asg rfl rfl (Tr.nil (Tr.zA (Tr.seq (Tr.sr (Tr.alloc 15 (wn rfl) rfl zjY fun zeT => (Tr.store 15 (cs := [iv 0]) [iv 0] (wn rfl) rfl rfl rfl rfl zJB rfl rfl rfl (Tr.nil (Tr.zA (Tr.block (Tr.ren 15 29 rfl rfl rfl (Tr.loop (σ := Int × (List ze) × (List zQ) × Int × Nat × (Option Addr) × Nat × (Option Addr) × Nat) (fun m w s => JW N y102 WN m s.1 s.2.1 s.2.2.1 s.2.2.2.1 = some r ∧ SlF s.2.2.2.2.2.1 s.2.1.length s.2.2.2.2.2.2.1 ∧ SlF s.2.2.2.2.2.2.2.1 s.2.2.1.length s.2.2.2.2.2.2.2.2) (fun s => [(0, sL JQ y102 JP), (3, pV Ws), (6, sL s.2.2.2.2.2.1 s.2.1 s.2.2.2.2.2.2.1), (7, sL s.2.2.2.2.2.2.2.1 s.2.2.1 s.2.2.2.2.2.2.2.2), (8, iv s.2.2.2.1), (9, .pointer (some ⟨s.2.2.2.2.1, 0, none⟩))]) (fun s => [(2, ow JQ JP 36 zY y102), (3, bx Ws #[sL Ky WN Vd] 38), (12, ow Ky Vd 3 QO WN), (13, ow s.2.2.2.2.2.1 s.2.2.2.2.2.2.1 107 zW s.2.1), (14, ow s.2.2.2.2.2.2.2.1 s.2.2.2.2.2.2.2.2 36 zY s.2.2.1), (29, bx s.2.2.2.2.1 #[iv s.1] 3)]) N (0, ([] : List ze), ([] : List zQ), 0, zeT, none, 0, none, 0) ⟨H, VR, VR⟩ (.cons rfl (.cons rfl (.cons rfl (.cons rfl (.cons rfl (.cons rfl .nil)))))) (.cons rfl (.cons rfl (.cons rfl (.cons rfl (.cons rfl (.cons rfl .nil)))))) (fun _ _ h => zAQ (h.1)) ?_))))))))))))))
  intro w zDM mL4 s hs
  obtain ⟨zCO, zAR, zBD, zcv, bv227, zCv, zCW, zFS, zEU⟩ := s
  obtain ⟨H, zFB, zFe⟩ := hs
  replace H : JW N y102 WN (mL4 + 1) zCO zAR zBD zcv = some r := H
  replace leB := leB.trans zDM
  replace zFB : SlF zCv zAR.length zCW := zFB
  rw [JW.eq_2] at H
  dsimp only
  refine Tr.seq (Tr.sr (Tr.va rfl (fun _ _ a c => zD QH (a.ev rfl) (rdb c (vs := [iv zCO]) (k := 29) rfl 0) rfl) (Tr.va rfl (fun _ _ a c => QA (a.ev rfl) (a.ev rfl)) (Tr.va rfl (fun _ _ a c => zD zDP (a.ev rfl) (rdb c (vs := [sL Ky WN Vd]) (k := 3) rfl 0) rfl) (Tr.va rfl (fun _ _ a c => zy zCc (a.ev rfl)) (Tr.va rfl (fun _ _ a c => QE (a.ev rfl) (a.ev rfl)) (Tr.nil (Tr.zA (Tr.cond rfl H (fun H => ?_) (fun H => ?_))))))))))
  ·refine Tr.skip (Tr.zA (Tr.seq (Tr.block (Tr.sr (Tr.mv rfl rfl (Tr.zHD (vs := [pV Ws, pV bv227]) (wn rfl) rfl (zI rfl (zI rfl zS)) ?_))))))
   obtain ⟨zSy, zkk, H⟩ := bnd H
   refine Tr.WB [14] [ow zFS zEU 36 zY zBD] (U := (Option Addr × Nat)) (fun u => (sL u.1 zSy u.2)) (fun u => SlF u.1 zSy.length u.2) (fun u => [ow u.1 u.2 36 zY zSy]) rfl (zR rfl zk) (fun _ => rfl) (wn rfl) rfl Tryz.call85 (zI rfl (zI rfl zS)) (fun W hW hp hE => zFv N zBD zFS zEU (fun z0 => zA8 z0 WN zCO) 86 [pV Ws, pV bv227] Tryz.call86 (fun w' he z0 y hy => zLD z0 WN Ky Vd ((hW.slS (k := 12) rfl hp rfl).ext he) Ws (he.r _ (hW.zWV (k := 3) rfl hp rfl)) (he.cells (hW.zWV (k := 3) rfl hp rfl) (hW.zcO (k := 3) rfl)) zCO bv227 (he.r _ (hW.zWV (k := 29) rfl hp rfl)) (he.cells (hW.zWV (k := 29) rfl hp rfl) (hW.zcO (k := 29) rfl)) y hy (HF.start _)) zSy zkk hE) ?_
   intro u hu
   obtain ⟨zYD, zXh⟩ := u
   have gy233_0 := hu
   have zbW : SlF zYD zSy.length zXh := gy233_0 --@phi
   dsimp only
   refine Tr.asg rfl rfl (Tr.nil (Tr.zA (Tr.seq (Tr.block (Tr.loop (σ := (List zQ) × Int × (Option Addr) × Nat) (fun m w s => VU y102 WN zCO zAR (JW N y102 WN mL4) m s.1 s.2.1 = some r ∧ SlF s.2.2.1 s.1.length s.2.2.2) (fun s => [(0, sL JQ y102 JP), (3, pV Ws), (6, sL zCv zAR zCW), (7, sL s.2.2.1 s.1 s.2.2.2), (8, iv s.2.1), (9, pV bv227)]) (fun s => [(2, ow JQ JP 36 zY y102), (3, bx Ws #[sL Ky WN Vd] 38), (12, ow Ky Vd 3 QO WN), (13, ow zCv zCW 107 zW zAR), (14, ow s.2.2.1 s.2.2.2 36 zY s.1), (29, bx bv227 #[iv zCO] 3)]) N (zSy, zcv, zYD, zXh) ⟨H, zbW⟩ (.cons rfl (.cons rfl (.cons rfl (.cons rfl (.cons rfl (.cons rfl .nil)))))) (.cons rfl (.cons rfl (.cons rfl (.cons rfl (.cons rfl (.cons rfl .nil)))))) (fun _ _ h => zAQ (h.1)) ?_)))))
   intro w zj7 mL5 s hs
   obtain ⟨zH7, zNy, zEY, zET⟩ := s
   obtain ⟨H, zbK⟩ := hs
   replace H : VU y102 WN zCO zAR (JW N y102 WN mL4) (mL5 + 1) zH7 zNy = some r := H
   replace zDM := zDM.trans zj7
   replace zbK : SlF zEY zH7.length zET := zbK
   rw [VU.eq_2] at H
   dsimp only
   refine Tr.seq (Tr.seq (Tr.draw (by kernel_rfl) (by kernel_rfl) (Tq.mv rfl rfl (Tq.mv rfl rfl (Tq.va rfl (fun _ _ a c => zy zBQ (a.ev rfl)) (Tq.va rfl (fun _ _ a c => QE (a.ev rfl) (a.ev rfl)) (Tq.mv rfl rfl ?_)))))))
   obtain ⟨zd2, zQ6, H⟩ := bnd H
   refine Tq.mid 11 [(0, sL JQ y102 JP), (3, pV Ws), (6, sL zCv zAR zCW), (7, sL zEY zH7 zET), (8, iv zNy), (9, pV bv227), (57, bV zd2)] ?_ ?_
   ·cases zLv : (decide (zNy < (y102.length : Int)))
    ·rw [zLv] at zQ6
     rw [if_neg (by decide)] at zQ6
     have H := zQ6
     obtain rfl := oI H
     exact Tq.pass rfl rfl rfl rfl rfl (by decide) (Tq.pass rfl rfl rfl rfl rfl (by decide) (Tq.pass rfl rfl rfl rfl rfl (by decide) (Tq.pass rfl rfl rfl rfl rfl (by decide) (Tq.pass rfl rfl rfl rfl rfl (by decide) (Tq.pass rfl rfl rfl rfl rfl (by decide) (Tq.pass rfl rfl rfl rfl rfl (by decide) (Tq.pass rfl rfl rfl rfl rfl (by decide) (Tq.pass rfl rfl rfl rfl rfl (by decide) (Tq.pass rfl rfl rfl rfl rfl (by decide) (Tq.va rfl (fun _ _ a c => zo (a.ev rfl) (a.ev rfl)) (Tq.fin (.cons rfl (.cons rfl (.cons rfl (.cons rfl (.cons rfl (.cons rfl (.cons rfl .nil))))))))))))))))))
    ·rw [zLv] at zQ6
     rw [if_pos rfl] at zQ6
     have H := zQ6
     refine Tq.val (wg rfl rfl rfl) rfl (fun _ _ a c => run_move (a.ev rfl)) (Tq.val (wg rfl rfl rfl) rfl (fun _ _ a c => run_move (a.ev rfl)) ?_)
     obtain ⟨zjg, zlZ, H⟩ := bnd H
     obtain ⟨zhb, zha, zhZ⟩ := zx zlZ
     refine Tq.val (wg rfl rfl rfl) rfl (fun _ _ a c => zK zCl (a.ev rfl) zKP (a.ev rfl) zhb zha) (Tq.val (wg rfl rfl rfl) rfl (fun _ _ a c => zB zDX (a.ev rfl)) (Tq.val (wg rfl rfl rfl) rfl (fun _ _ a c => zD QH (a.ev rfl) (zO.drop (rdo WA (k := 2) c rfl zhZ) 1) rfl) (Tq.val (wg rfl rfl rfl) rfl (fun _ _ a c => zD zDP (a.ev rfl) (rdb c (vs := [sL Ky WN Vd]) (k := 3) rfl 0) rfl) (Tq.val (wg rfl rfl rfl) rfl (fun _ _ a c => zD QH (a.ev rfl) (rdb c (vs := [iv zCO]) (k := 29) rfl 0) rfl) ?_))))
     obtain ⟨zjf, zlY, H⟩ := bnd H
     obtain ⟨zhY, zhX, zhW⟩ := zx zlY
     refine Tq.val (wg rfl rfl rfl) rfl (fun _ _ a c => zK zA3 (a.ev rfl) zJg (a.ev rfl) zhY zhX) (Tq.val (wg rfl rfl rfl) rfl (fun _ _ a c => zD QH (a.ev rfl) (rdo We (k := 12) c rfl zhW) rfl) (Tq.val (wg rfl rfl rfl) rfl (fun _ _ a c => zBR (a.ev rfl) (a.ev rfl)) (Tq.va rfl (fun _ _ a c => zn (a.ev rfl) (a.ev rfl)) ?_)))
     obtain rfl := oI H
     exact Tq.fin (.cons rfl (.cons rfl (.cons rfl (.cons rfl (.cons rfl (.cons rfl (.cons rfl .nil)))))))
   ·refine Tq.nil (Tr.zA (Tr.cond rfl H (fun H => ?_) (fun H => ?_)))
    ·refine Tr.skip (Tr.zA (Tr.block (Tr.region (Tr.mv rfl rfl (Tr.mv rfl rfl (Tr.mv rfl rfl ?_))))))
     obtain ⟨zF8, zlX, H⟩ := bnd H
     obtain ⟨zhV, zhU, zhT⟩ := zx zlX
     refine Tr.va rfl (fun _ _ a c => zK zCl (a.ev rfl) zKP (a.ev rfl) zhV zhU) (Tr.va rfl (fun _ _ a c => zX (cs := [iv zF8.X0, iv zF8.Y0, iv zF8.X1, iv zF8.Y1]) zBr VE (a.ev rfl) (zO.take (rdo WA (k := 2) c rfl zhT) 4) rfl) (Tr.buildSlice 32 (e := 36) (vs := [(0, .agg #[iv zF8.X0, iv zF8.Y0, iv zF8.X1, iv zF8.Y1])]) (cs := [iv zF8.X0, iv zF8.Y0, iv zF8.X1, iv zF8.Y1]) (wn rfl) rfl (zl rfl Qf) (by kernel_rfl) fun zox => ?_))
     obtain ⟨zgO, zmC, H⟩ := bnd H
     exact Tr.append 14 (t := zY) (l := zH7) (l2 := [zF8]) (wn rfl) rfl rfl rfl rfl (fun W hW => ⟨[[iv zF8.X0, iv zF8.Y0, iv zF8.X1, iv zF8.Y1]], (.cons ⟨(), trivial, rfl⟩ .nil), rdb hW (vs := [iv zF8.X0, iv zF8.Y0, iv zF8.X1, iv zF8.Y1]) (k := 32) rfl 0⟩) zBQ VE zSu (by decide) zUf rfl zmC fun znG zmw hAl266 => (Tr.mv rfl rfl (Tr.va rfl (fun _ _ a c => QA (a.ev rfl) (a.ev rfl)) (Tr.asg rfl rfl (Tr.asg rfl rfl (Tr.nil (Tr.zh (Tr.zf zj7 (zgO, (w64 (zNy + 1)), znG, zmw) ⟨H, hAl266⟩ (.cons rfl (.cons rfl (.cons rfl (.cons rfl (.cons rfl (.cons rfl .nil)))))) (.cons rfl (.cons rfl (.cons rfl (.cons rfl (.cons rfl (.cons rfl .nil)))))))))))))
    ·refine Tr.exit (Tr.zi (Tr.zi (Tr.QL (Tr.zA (Tr.zPp 13 [(11, (ow zEY zET 36 zY zH7).S)] [] (by kernel_rfl) (by kernel_rfl) fun zQd zlz znM => (Dr.zCg 0 (by kernel_rfl) rfl (wn rfl) rfl (by kernel_rfl) (fun _ _ a => run_move (a.ev rfl)) rfl (Dr.zFU 1 [(68, sL Ky WN Vd)] [11] false (by kernel_rfl) rfl rfl (by kernel_rfl) (fun W W' c hsW hk => HF.zJa (le := [(3, bx Ws #[sL Ky WN Vd] 38)]) (ks := [(14, (ow zEY zET 36 zY zH7).S)]) (s0 := zQd) false c hk (fun h => absurd h (by decide)) (.cons rfl .nil) (fun b hb => hb.elim (fun ⟨p, hp, hf, hb⟩ => by simp only [List.mem_cons, List.not_mem_nil, or_false] at hp; rcases hp with rfl; exact .inl ⟨_, List.mem_cons_self, hb⟩) (fun hb => absurd hb.1 (by decide))) (List.forall_mem_cons.2 ⟨fun b hb => hb, (fun _ h => nomatch h)⟩) rfl) ?_ rfl rfl ?_)))))))
     ·exact Tq.va rfl (fun _ _ a c => zD zDP (a.ev rfl) (rdb c (vs := [sL Ky WN Vd]) (k := 3) rfl 0) rfl) (Tq.fin (.cons rfl .nil))
     refine Dr.zFU 2 [(69, iv zCO)] [11] false (by kernel_rfl) rfl rfl (by kernel_rfl) (fun W W' c hsW hk => HF.zJa (le := [(29, bx bv227 #[iv zCO] 3)]) (ks := [(14, (ow zEY zET 36 zY zH7).S)]) (s0 := zQd) false c hk (fun h => absurd h (by decide)) (.cons rfl .nil) (fun b hb => hb.elim (fun ⟨p, hp, hf, hb⟩ => by simp only [List.mem_cons, List.not_mem_nil, or_false] at hp; rcases hp with rfl; exact .inl ⟨_, List.mem_cons_self, hb⟩) (fun hb => absurd hb.1 (by decide))) (List.forall_mem_cons.2 ⟨fun b hb => hb, (fun _ h => nomatch h)⟩) rfl) ?_ rfl rfl ?_
     ·exact Tq.va rfl (fun _ _ a c => zD QH (a.ev rfl) (rdb c (vs := [iv zCO]) (k := 29) rfl 0) rfl) (Tq.fin (.cons rfl .nil))
     obtain ⟨zS2, zlW, H⟩ := bnd H
     obtain ⟨zhS, zhR, zhQ⟩ := zx zlW
     refine Dr.zCg 3 (by kernel_rfl) rfl (wn rfl) rfl (by kernel_rfl) (fun _ _ a => zK zA3 (a.ev rfl) zJg (a.ev rfl) zhS zhR) rfl (Dr.zFU 4 [(71, iv zS2)] [11] false (by kernel_rfl) rfl rfl (by kernel_rfl) (fun W W' c hsW hk => HF.zJa (le := [(12, ow Ky Vd 3 QO WN)]) (ks := [(14, (ow zEY zET 36 zY zH7).S)]) (s0 := zQd) false c hk (fun h => absurd h (by decide)) (.cons rfl .nil) (fun b hb => hb.elim (fun ⟨p, hp, hf, hb⟩ => by simp only [List.mem_cons, List.not_mem_nil, or_false] at hp; rcases hp with rfl; exact .inl ⟨_, List.mem_cons_self, hb⟩) (fun hb => absurd hb.1 (by decide))) (List.forall_mem_cons.2 ⟨fun b hb => hb, (fun _ h => nomatch h)⟩) rfl) ?_ rfl rfl ?_)
     ·exact Tq.va rfl (fun _ _ a c => zD QH (a.ev rfl) (rdo We (k := 12) c rfl zhQ) rfl) (Tq.fin (.cons rfl .nil))
     refine Dr.zFU 5 [(72, sL Ky WN Vd)] [11] false (by kernel_rfl) rfl rfl (by kernel_rfl) (fun W W' c hsW hk => HF.zJa (le := [(3, bx Ws #[sL Ky WN Vd] 38)]) (ks := [(14, (ow zEY zET 36 zY zH7).S)]) (s0 := zQd) false c hk (fun h => absurd h (by decide)) (.cons rfl .nil) (fun b hb => hb.elim (fun ⟨p, hp, hf, hb⟩ => by simp only [List.mem_cons, List.not_mem_nil, or_false] at hp; rcases hp with rfl; exact .inl ⟨_, List.mem_cons_self, hb⟩) (fun hb => absurd hb.1 (by decide))) (List.forall_mem_cons.2 ⟨fun b hb => hb, (fun _ h => nomatch h)⟩) rfl) ?_ rfl rfl ?_
     ·exact Tq.va rfl (fun _ _ a c => zD zDP (a.ev rfl) (rdb c (vs := [sL Ky WN Vd]) (k := 3) rfl 0) rfl) (Tq.fin (.cons rfl .nil))
     refine Dr.zFU 6 [(73, iv zCO)] [11] false (by kernel_rfl) rfl rfl (by kernel_rfl) (fun W W' c hsW hk => HF.zJa (le := [(29, bx bv227 #[iv zCO] 3)]) (ks := [(14, (ow zEY zET 36 zY zH7).S)]) (s0 := zQd) false c hk (fun h => absurd h (by decide)) (.cons rfl .nil) (fun b hb => hb.elim (fun ⟨p, hp, hf, hb⟩ => by simp only [List.mem_cons, List.not_mem_nil, or_false] at hp; rcases hp with rfl; exact .inl ⟨_, List.mem_cons_self, hb⟩) (fun hb => absurd hb.1 (by decide))) (List.forall_mem_cons.2 ⟨fun b hb => hb, (fun _ h => nomatch h)⟩) rfl) ?_ rfl rfl ?_
     ·exact Tq.va rfl (fun _ _ a c => zD QH (a.ev rfl) (rdb c (vs := [iv zCO]) (k := 29) rfl 0) rfl) (Tq.fin (.cons rfl .nil))
     refine Dr.zCg 7 (by kernel_rfl) rfl (wn rfl) rfl (by kernel_rfl) (fun _ _ a => QA (a.ev rfl) (a.ev rfl)) rfl ?_
     obtain ⟨zS1, zlV, H⟩ := bnd H
     obtain ⟨zhP, zhO, zhN⟩ := zx zlV
     refine Dr.zCg 8 (by kernel_rfl) rfl (wn rfl) rfl (by kernel_rfl) (fun _ _ a => zK zA3 (a.ev rfl) zJg (a.ev rfl) zhP zhO) rfl (Dr.zFU 9 [(76, iv zS1)] [11] false (by kernel_rfl) rfl rfl (by kernel_rfl) (fun W W' c hsW hk => HF.zJa (le := [(12, ow Ky Vd 3 QO WN)]) (ks := [(14, (ow zEY zET 36 zY zH7).S)]) (s0 := zQd) false c hk (fun h => absurd h (by decide)) (.cons rfl .nil) (fun b hb => hb.elim (fun ⟨p, hp, hf, hb⟩ => by simp only [List.mem_cons, List.not_mem_nil, or_false] at hp; rcases hp with rfl; exact .inl ⟨_, List.mem_cons_self, hb⟩) (fun hb => absurd hb.1 (by decide))) (List.forall_mem_cons.2 ⟨fun b hb => hb, (fun _ h => nomatch h)⟩) rfl) ?_ rfl rfl ?_)
     ·exact Tq.va rfl (fun _ _ a c => zD QH (a.ev rfl) (rdo We (k := 12) c rfl zhN) rfl) (Tq.fin (.cons rfl .nil))
     refine Dr.quiet 10 [(77, sL zEY zH7 zET)] (by kernel_rfl) rfl rfl (by kernel_rfl) ?_ rfl rfl ?_
     ·exact Tq.mv rfl rfl (Tq.fin (.cons rfl .nil))
     obtain ⟨zGb, zkg, H⟩ := bnd H
     refine Dr.one 11 (by kernel_rfl) (St.WB 11 [14, 33] [ow zEY zET 36 zY zH7, emp] (U := (Option Addr × Nat)) (fun u => (sL u.1 zGb.1 u.2)) (fun u => SlF u.1 zGb.1.length u.2 ∧ zGb.2.length = zH7.length) (fun u => [ow zEY zET 36 zY zGb.2, ow u.1 u.2 3 QO zGb.1]) rfl (zR rfl (zR rfl zk)) (fun _ => rfl) (fun b ⟨e, he, hS⟩ => by simp only [List.mem_cons, List.not_mem_nil, or_false] at he; rcases he with rfl | rfl; exact .inl ⟨_, List.mem_cons_self, rfl, hS⟩; exact hS.elim) rfl (wn rfl) rfl Tryz.call88 (zI rfl zS) (fun W hW hp hE => zJv zH7 zEY zET zGb zkg hE) ?_)
     intro u hu zoL
     obtain ⟨zId, zIH⟩ := u
     obtain ⟨gy270_0, gky270_0⟩ := hu
     have zmL : SlF zId zGb.1.length zIH := gy270_0
     have zNB : zGb.2.length = zH7.length := gky270_0
     have zY2 : SlF zEY zGb.2.length zET := by rw [zNB]; exact zbK
     dsimp only
     refine Dr.use (lf := [(0, sL JQ y102 JP), (3, pV Ws), (6, sL zCv zAR zCW), (7, sL zEY zGb.2 zET), (8, iv zNy), (9, pV bv227), (57, bV zd2), (67, sL zCv zAR zCW), (68, sL Ky WN Vd), (69, iv zCO), (70, .pointer (some ⟨adB Ky, adO Ky + (zCO).toNat * 1, none⟩)), (71, iv zS2), (72, sL Ky WN Vd), (73, iv zCO), (74, iv (w64 (zCO + 1))), (75, .pointer (some ⟨adB Ky, adO Ky + ((w64 (zCO + 1))).toNat * 1, none⟩)), (76, iv zS1), (77, sL zEY zGb.2 zET), (78, sL zId zGb.1 zIH)]) (le := [(2, ow JQ JP 36 zY y102), (3, bx Ws #[sL Ky WN Vd] 38), (12, ow Ky Vd 3 QO WN), (13, ow zCv zCW 107 zW zAR), (14, ow zEY zET 36 zY zGb.2), (29, bx bv227 #[iv zCO] 3), (33, ow zId zIH 3 QO zGb.1)]) ?_ rfl (.cons rfl (.cons rfl (.cons rfl (.cons (KM rfl (by unfold sL; rw [zNB])) (.cons rfl (.cons rfl (.cons rfl (.cons rfl (.cons rfl (.cons rfl (.cons rfl (.cons rfl (.cons rfl (.cons rfl (.cons rfl (.cons rfl (.cons rfl (.cons (KM rfl (by unfold sL; rw [zNB])) (.cons rfl .nil))))))))))))))))))) (.cons rfl (.cons rfl (.cons rfl (.cons rfl (.cons rfl (.cons rfl (.cons rfl .nil)))))))
     refine Dr.quiet 12 [(79, .agg #[iv zS2, iv zS1, sL zId zGb.1 zIH])] (by kernel_rfl) rfl rfl (by kernel_rfl) ?_ rfl rfl ?_
     ·exact Tq.build (vs := [(0, iv zS2), (1, iv zS1), (2, sL zId zGb.1 zIH)]) (cs := [iv zS2, iv zS1, sL zId zGb.1 zIH]) (wn rfl) rfl (zl rfl (zl rfl (zl rfl Qf))) (by kernel_rfl) (Tq.fin (.cons rfl .nil))
     refine Dr.tail (by kernel_rfl) (Tr.freeze 33 rfl fun w zkE zac => ?_)
     replace zDM := zDM.trans zkE
     obtain ⟨zSx, zkf, H⟩ := bnd H
     refine Tr.VW [13] [ow zCv zCW 107 zW zAR] (U := (Option Addr × Nat)) (fun u => (sL u.1 zSx u.2)) (fun O W u => SlF u.1 zSx.length u.2) (fun u => [ow u.1 u.2 107 zW zSx]) rfl (zR rfl zk) (fun _ => rfl) (wn rfl) rfl Tryz.call87 (zI rfl (zI rfl zS)) (fun W hW hp hE => zCr zAR zCv zCW (ze.mk zS2 zS1 zGb.1) zId zIH (zac.zAS (hW.JH hp)) zSx zkf hE) ?_
     intro w u ze0 hu
     obtain ⟨zYB, zXf⟩ := u
     have gy274_0 := hu
     replace zac := zac.le ze0
     replace zDM := zDM.trans ze0
     have zbV : SlF zYB zSx.length zXf := gy274_0 --@phi
     dsimp only
     exact Tr.asg rfl rfl (Tr.nil (Tr.zh (Tr.zA (Tr.seq (Tr.sr (Tr.va rfl (fun _ _ a c => zD QH (a.ev rfl) (rdb c (vs := [iv zCO]) (k := 29) rfl 0) rfl) (Tr.nil (Tr.zA (Tr.region (Tr.alloc 34 (wn rfl) rfl zjY fun zoW => (Tr.store 34 (cs := [iv zCO]) [iv zCO] (wn rfl) rfl rfl rfl rfl zJB rfl rfl rfl (Tr.nil (Tr.zA (Tr.region (Tr.va rfl (fun _ _ a c => zD QH (a.ev rfl) (rdb c (vs := [iv zCO]) (k := 34) rfl 0) rfl) (Tr.va rfl (fun _ _ a c => QA (a.ev rfl) (a.ev rfl)) (Tr.store 34 (cs := [iv (w64 (zCO + 1))]) [iv (w64 (zCO + 1))] (wn rfl) rfl rfl rfl rfl zJB rfl rfl rfl (Tr.nil (Tr.zmo 29 (Tr.ren 34 29 rfl rfl rfl (Tr.zf zDM ((w64 (zCO + 1)), zSx, zGb.2, zNy, zoW, zYB, zXf, zEY, zET) ⟨H, zbV, zY2⟩ (.cons rfl (.cons rfl (.cons rfl (.cons rfl (.cons rfl (.cons rfl .nil)))))) (.cons rfl (.cons rfl (.cons rfl (.cons rfl (.cons rfl (.cons rfl .nil)))))))))))))))))))))))))))
  ·refine Tr.exit (Tr.zi (Tr.zi (Tr.QL (Tr.zA (Tr.sr (Tr.mv rfl rfl (Tr.asg rfl rfl (Tr.nil (Tr.zA (Tr.ret ?_))))))))))
   obtain rfl := oI H
   exact Tr.out (m := [sL zCv zAR zCW]) [] (zU rfl zT) (fun W hW => ⟨w, (zCv, zCW), leB, rfl, zFB, hW.pick (ks := [13]) (by decide) (zR rfl zk)⟩)
 | cons xL1 zV =>
  rw [VV.eq_2] at H
  refine Tr.sr (Tr.va rfl (fun _ _ a c => QE (a.ev rfl) (a.ev rfl)) (Tr.nil (Tr.zA (Tr.seq (Tr.WX rfl (JX QG) (Tr.skip (Tr.zA (Tr.seq (Tr.block (Tr.sr (Tr.va rfl (fun _ _ a c => zK zCl (a.ev rfl) zKP (a.ev rfl) (Int.natCast_nonneg _) (QC QG)) (Tr.va rfl (fun _ _ a c => zX (cs := [iv xL1.X0, iv xL1.Y0, iv xL1.X1, iv xL1.Y1]) zBr VE (a.ev rfl) (zO.take (rdo WA (k := 2) c rfl (Js QG)) 4) rfl) (Tr.alloc 35 (wn rfl) rfl zF5 fun zov => (Tr.store 35 (cs := [iv xL1.X0, iv xL1.Y0, iv xL1.X1, iv xL1.Y1]) [iv xL1.X0, iv xL1.Y0, iv xL1.X1, iv xL1.Y1] (wn rfl) rfl rfl rfl rfl VE rfl rfl rfl (Tr.nil (Tr.zA (Tr.region (Tr.va rfl (fun _ _ a c => zD zDP (a.ev rfl) (rdb c (vs := [sL zHB zGh zG2]) (k := 3) rfl 0) rfl) (Tr.va rfl (fun _ _ a c => zB zDX (a.ev rfl)) (Tr.va rfl (fun _ _ a c => zD QH (a.ev rfl) (rdb c (vs := [iv xL1.X0, iv xL1.Y0, iv xL1.X1, iv xL1.Y1]) (k := 35) rfl 1) rfl) (Tr.va rfl (fun _ _ a c => zB zEp (a.ev rfl)) (Tr.va rfl (fun _ _ a c => zD QH (a.ev rfl) (rdb c (vs := [iv xL1.X0, iv xL1.Y0, iv xL1.X1, iv xL1.Y1]) (k := 35) rfl 3) rfl) (Tr.buildSlice 36 (e := 3) (vs := [(0, iv xL1.Y0), (1, iv xL1.Y1)]) (cs := [iv xL1.Y0, iv xL1.Y1]) (wn rfl) rfl (zl rfl (zl rfl Qf)) (by kernel_rfl) fun zou => ?_)))))))))))))))))))))))
  obtain ⟨zaW, zmA, H⟩ := bnd H
  exact Tr.append 12 (t := QO) (l := zGh) (l2 := [xL1.Y0, xL1.Y1]) (wn rfl) rfl rfl rfl rfl (fun W hW => ⟨[[iv xL1.Y0], [iv xL1.Y1]], (.cons ⟨(), trivial, rfl⟩ (.cons ⟨(), trivial, rfl⟩ .nil)), rdb hW (vs := [iv xL1.Y0, iv xL1.Y1]) (k := 36) rfl 0⟩) zCc zJB zZK (by decide) zcL rfl zmA fun zcj zcF hAl279 => (Tr.store 3 (cs := [sL zcj zaW zcF]) [sL zcj zaW zcF] (wn rfl) rfl rfl rfl rfl zeo rfl rfl rfl (Tr.nil (Tr.zh (Tr.zA (Tr.region (Tr.va rfl (fun _ _ a c => QA (a.ev rfl) (a.ev rfl)) (Tr.mv rfl rfl (Tr.nil (Tr.zf Qe (zV, (iL1 + 1), zaW, zcj, zcF) ⟨rfl, Ql QG, QC QG, H, hAl279⟩ (.cons rfl (.cons rfl (.cons rfl (.cons rfl (.cons (congrArg (fun z => some (Value.int .i64 z)) (Qk QG zKP)) .nil))))) (.cons rfl (.cons rfl (.cons rfl .nil))))))))))))

theorem zJz (N : Nat) {w : Bs} (p0 : QB) (zF : Option Addr) (zG : Nat) (zP : Sl w.O w.W zN zF zG p0.Tools) (zM : Option Addr) (zL : Nat) (QW : Sl w.O w.W zH zM zL p0.Steps) (r : QU) (H : zBN N p0 = some r) (hE : HF w w.W (LEn [emp, emp, emp])) : Calls Tryz.prog 55 [.agg #[iv p0.Unit, sL zF p0.Tools zG, sL zM p0.Steps zL]].toArray w.W fun e W' => ∃ (w' : Bs) (u : (Option Addr × Nat) × (Option Addr × Nat) × (Option Addr × Nat) × (Option Addr × Nat) × (Option Addr × Nat)), w.Le w' ∧ e = .returned (.pointer (some ⟨u.2.2.2.2.2, 0, none⟩)) ∧ (Sl w'.O w'.W zN u.1.1 u.1.2 r.p.Tools ∧ Sl w'.O w'.W zH u.2.1.1 u.2.1.2 r.p.Steps ∧ SlF u.2.2.1.1 r.tools.length u.2.2.1.2 ∧ SlF u.2.2.2.1.1 r.image.length u.2.2.2.1.2 ∧ True) ∧ HF w' W' (LEn [ow u.2.2.1.1 u.2.2.1.2 66 JU r.tools, ow u.2.2.2.1.1 u.2.2.2.1.2 107 zW r.image, bx u.2.2.2.2.2 #[iv r.p.Unit, sL u.1.1 r.p.Tools u.1.2, sL u.2.1.1 r.p.Steps u.2.1.2, sL u.2.2.1.1 r.tools u.2.2.1.2, sL u.2.2.2.1.1 r.image u.2.2.2.1.2, bV r.clear, iv r.tool, iv r.place.X, iv r.place.Y, bV r.placed, iv r.off, iv r.on] 77]) := by
 unfold zBN at H
 have leB := Bs.Le.refl w
 refine Tr.enter (n := 64) Tryz.func55 rfl rfl rfl hE (Tr.sr (Tr.box 1 (cs := [iv p0.Unit, sL zF p0.Tools zG, sL zM p0.Steps zL]) (wn rfl) rfl rfl rfl fun zt => (Tr.asg rfl rfl (Tr.nil (Tr.zA (Tr.sr (Tr.va rfl (fun _ _ a c => zX (cs := [iv p0.Unit, sL zF p0.Tools zG, sL zM p0.Steps zL]) zAJ VQ (a.ev rfl) (zO.take (rdb c (vs := [iv p0.Unit, sL zF p0.Tools zG, sL zM p0.Steps zL]) (k := 1) rfl 0) 3) rfl) (Tr.build (vs := [(0, .agg #[iv p0.Unit, sL zF p0.Tools zG, sL zM p0.Steps zL]), (4, iv (-1))]) (cs := [iv p0.Unit, sL zF p0.Tools zG, sL zM p0.Steps zL, .slice none 0 0, .slice none 0 0, bV false, iv (-1), iv 0, iv 0, bV false, iv 0, iv 0]) (wn rfl) rfl (zl rfl (zl rfl Qf)) (by kernel_rfl) (Tr.box 2 (cs := [iv p0.Unit, sL zF p0.Tools zG, sL zM p0.Steps zL, .slice none 0 0, .slice none 0 0, bV false, iv (-1), iv 0, iv 0, bV false, iv 0, iv 0]) (wn rfl) rfl rfl rfl fun Qg => (Tr.asg rfl rfl (Tr.nil (Tr.zA (Tr.seq (Tr.sr (Tr.va rfl (fun _ _ a c => zB zBy (a.ev rfl)) (Tr.va rfl (fun _ _ a c => zD zGQ (a.ev rfl) (rdb c (vs := [iv p0.Unit, sL zF p0.Tools zG, sL zM p0.Steps zL]) (k := 1) rfl 1) rfl) (Tr.va rfl (fun _ _ a c => zy zIo (a.ev rfl)) (Tr.mv rfl rfl (Tr.nil (Tr.zA (Tr.block (Tr.JY 27 66 JU (Tr.loop (σ := (List zZ) × Nat × (List (List ze)) × (Option Addr) × Nat) (fun m w s => m = s.1.length + 1 ∧ s.1 = List.drop s.2.1 p0.Tools ∧ s.2.1 ≤ p0.Tools.length ∧ JE N p0 s.1 s.2.1 s.2.2.1 = some r ∧ SlF s.2.2.2.1 s.2.2.1.length s.2.2.2.2) (fun s => [(1, pV zt), (3, pV Qg), (13, sL zF p0.Tools zG), (14, iv (p0.Tools.length : Int)), (15, iv (s.2.1 : Int))]) (fun s => [(1, bx zt #[iv p0.Unit, sL zF p0.Tools zG, sL zM p0.Steps zL] 25), (2, bx Qg #[iv p0.Unit, sL zF p0.Tools zG, sL zM p0.Steps zL, sL s.2.2.2.1 s.2.2.1 s.2.2.2.2, .slice none 0 0, bV false, iv (-1), iv 0, iv 0, bV false, iv 0, iv 0] 77), (27, ow s.2.2.2.1 s.2.2.2.2 66 JU s.2.2.1)]) (p0.Tools.length + 1) (p0.Tools, 0, ([] : List (List ze)), none, 0) ⟨rfl, rfl, Nat.zero_le _, H, VR⟩ (.cons rfl (.cons rfl (.cons rfl (.cons rfl (.cons rfl .nil))))) (.cons rfl (.cons rfl (.cons rfl .nil))) (fun _ _ h => absurd h.1 (by simp)) ?_)))))))))))))))))))))))
 intro w WL m s hs
 obtain ⟨Qz, iL3, zJZ, zQB, zPv⟩ := s
 obtain ⟨zIE, zAd, hiL3, H, zbL⟩ := hs
 replace zAd : Qz = List.drop iL3 p0.Tools := zAd
 replace H : JE N p0 Qz iL3 zJZ = some r := H
 replace zIE : m + 1 = Qz.length + 1 := zIE
 replace zP := zP.le WL
 replace QW := QW.le WL
 replace leB := leB.trans WL
 replace zbL : SlF zQB zJZ.length zPv := zbL
 obtain rfl : m = Qz.length := by omega
 clear zIE
 dsimp only
 cases Qz with
 | nil =>
  rw [JE.eq_1] at H
  refine Tr.sr (Tr.va rfl (fun _ _ a c => QE (a.ev rfl) (a.ev rfl)) (Tr.nil (Tr.zA (Tr.seq (Tr.WY rfl (JB zAd) (Tr.exit (Tr.zi (Tr.zi (Tr.QL (Tr.zA (Tr.sr (Tr.mv rfl rfl (Tr.asg rfl rfl (Tr.nil (Tr.zA (Tr.ret ?_))))))))))))))))
  obtain rfl := oI H
  exact Tr.JY 28 107 zW (Tr.out (m := [pV Qg]) [] (zU rfl zT) (fun W hW => ⟨w, ((zF, zG), (zM, zL), (zQB, zPv), (none, 0), (none, Qg)), leB, rfl, ⟨zP, QW, zbL, VR, trivial⟩, hW.pick (ks := [27, 28, 2]) (by decide) (zR rfl (zR rfl (zR rfl zk)))⟩))
 | cons xL3 Qz =>
  rw [JE.eq_2] at H
  refine Tr.sr (Tr.va rfl (fun _ _ a c => QE (a.ev rfl) (a.ev rfl)) (Tr.nil (Tr.zA (Tr.seq (Tr.WX rfl (JX zAd) (Tr.skip (Tr.zA (Tr.seq (Tr.block (Tr.sr ?_))))))))))
  obtain ⟨zft, hRu165, zSC, hcu165⟩ := (zP).el (Js zAd)
  obtain ⟨zIj, zIN⟩ := zft
  have zDn := zSC
  replace zDn : Sl w.O w.W zY zIj zIN xL3.Rects := zDn
  replace hRu165 : w.R (adB zF) := Or.inl hRu165
  refine Tr.va rfl (fun _ _ a c => zK zFF (a.ev rfl) zP.form (a.ev rfl) (Int.natCast_nonneg _) (QC zAd)) (Tr.va rfl (fun _ _ a c => zX (cs := [sv xL3.Name, sL zIj xL3.Rects zIN]) zUj zLQ (a.ev rfl) (zO.take (rdR hRu165 hcu165 c) 2) rfl) (Tr.alloc 29 (wn rfl) rfl zZL fun zo4 => (Tr.store 29 (cs := [sv xL3.Name, sL zIj xL3.Rects zIN]) [sv xL3.Name, sL zIj xL3.Rects zIN] (wn rfl) rfl rfl rfl rfl zLQ rfl rfl rfl (Tr.nil (Tr.zA (Tr.sr (Tr.asg rfl rfl (Tr.JY 30 36 zY ?_))))))))
  show Tr _ _ (uf _ 6 (sL none (([] : List zQ)) 0)) _ _
  refine Tr.nil (Tr.zA (Tr.seq (Tr.sr (Tr.va rfl (fun _ _ a c => zB zBx (a.ev rfl)) (Tr.va rfl (fun _ _ a c => zD zHh (a.ev rfl) (rdb c (vs := [sv xL3.Name, sL zIj xL3.Rects zIN]) (k := 29) rfl 1) rfl) (Tr.va rfl (fun _ _ a c => zy zBQ (a.ev rfl)) (Tr.mv rfl rfl (Tr.nil (Tr.zA (Tr.block (Tr.loop (σ := (List zQ) × Nat × (List zQ) × (Option Addr) × Nat) (fun m w s => m = s.1.length + 1 ∧ s.1 = List.drop s.2.1 xL3.Rects ∧ s.2.1 ≤ xL3.Rects.length ∧ KF N p0 zJZ (JE N p0 Qz (iL3 + 1)) s.1 s.2.1 s.2.2.1 = some r ∧ SlF s.2.2.2.1 s.2.2.1.length s.2.2.2.2) (fun s => [(1, pV zt), (3, pV Qg), (6, sL s.2.2.2.1 s.2.2.1 s.2.2.2.2), (13, sL zF p0.Tools zG), (14, iv (p0.Tools.length : Int)), (15, iv (iL3 : Int)), (20, sL zIj xL3.Rects zIN), (21, iv (xL3.Rects.length : Int)), (22, iv (s.2.1 : Int))]) (fun s => [(1, bx zt #[iv p0.Unit, sL zF p0.Tools zG, sL zM p0.Steps zL] 25), (2, bx Qg #[iv p0.Unit, sL zF p0.Tools zG, sL zM p0.Steps zL, sL zQB zJZ zPv, .slice none 0 0, bV false, iv (-1), iv 0, iv 0, bV false, iv 0, iv 0] 77), (27, ow zQB zPv 66 JU zJZ), (30, ow s.2.2.2.1 s.2.2.2.2 36 zY s.2.2.1)]) (xL3.Rects.length + 1) (xL3.Rects, 0, ([] : List zQ), none, 0) ⟨rfl, rfl, Nat.zero_le _, H, VR⟩ (.cons rfl (.cons rfl (.cons rfl (.cons rfl (.cons rfl (.cons rfl (.cons rfl (.cons rfl (.cons rfl .nil))))))))) (.cons rfl (.cons rfl (.cons rfl (.cons rfl .nil)))) (fun _ _ h => absurd h.1 (by simp)) ?_)))))))))))
  intro w zDM m s hs
  obtain ⟨Ki, iL4, zVa, znI, zmy⟩ := s
  obtain ⟨zK5, zCj, hiL4, H, zoj⟩ := hs
  replace zCj : Ki = List.drop iL4 xL3.Rects := zCj
  replace H : KF N p0 zJZ (JE N p0 Qz (iL3 + 1)) Ki iL4 zVa = some r := H
  replace zK5 : m + 1 = Ki.length + 1 := zK5
  replace zP := zP.le zDM
  replace zDn := zDn.le zDM
  replace WL := WL.trans zDM
  obtain rfl : m = Ki.length := by omega
  clear zK5
  dsimp only
  cases Ki with
  | nil =>
   rw [KF.eq_1] at H
   refine Tr.sr (Tr.va rfl (fun _ _ a c => QE (a.ev rfl) (a.ev rfl)) (Tr.nil (Tr.zA (Tr.seq (Tr.WY rfl (JB zCj) (Tr.exit (Tr.zi (Tr.zi (Tr.QL (Tr.zA (Tr.zPp 9 [(8, (ow zQB zPv 66 JU zJZ).S)] [] (by kernel_rfl) (by kernel_rfl) fun zoe zl0 znN => (Dr.zCg 0 (by kernel_rfl) rfl (wn rfl) rfl (by kernel_rfl) (fun _ _ a => run_move (a.ev rfl)) rfl (Dr.zCg 1 (by kernel_rfl) rfl (wn rfl) rfl (by kernel_rfl) (fun _ _ a => run_move (a.ev rfl)) rfl (Dr.zCg 2 (by kernel_rfl) rfl (wn rfl) rfl (by kernel_rfl) (fun _ _ a => QF (a.ev rfl)) rfl (Dr.zCg 3 (by kernel_rfl) rfl (wn rfl) rfl (by kernel_rfl) (fun _ _ a => zB zOE (a.ev rfl)) rfl (Dr.quiet 4 [(55, sL zQB zJZ zPv)] (by kernel_rfl) rfl rfl (by kernel_rfl) ?_ rfl rfl ?_))))))))))))))))
   ·exact Tq.va rfl (fun _ _ a c => zD zcX (a.ev rfl) (rdb c (vs := [iv p0.Unit, sL zF p0.Tools zG, sL zM p0.Steps zL, sL zQB zJZ zPv, .slice none 0 0, bV false, iv (-1), iv 0, iv 0, bV false, iv 0, iv 0]) (k := 2) rfl 3) rfl) (Tq.fin (.cons rfl .nil))
   refine Dr.zCg 5 (by kernel_rfl) rfl (wn rfl) rfl (by kernel_rfl) (fun _ _ a => run_move (a.ev rfl)) rfl ?_
   obtain ⟨zHr, zam, H⟩ := bnd H
   refine Dr.one 6 (by kernel_rfl) (St.VW 6 [35] [emp] (U := (Option Addr × Nat)) (fun u => (sL u.1 zHr u.2)) (fun O W u => SlF u.1 zHr.length u.2) (fun u => [ow u.1 u.2 107 zW zHr]) rfl (zR rfl zk) (fun _ => rfl) (zLn rfl) rfl (wn rfl) rfl Tryz.call59 (zI rfl zS) (fun W hW hp hE => zHk N zVa znI zmy (hW.slS (k := 30) rfl hp rfl) zHr zam hE) ?_)
   intro w u ze2 hu zoM
   obtain ⟨zIe, zII⟩ := u
   have gy183_0 := hu
   replace zP := zP.le ze2
   replace WL := WL.trans ze2
   have zbY : SlF zIe zHr.length zII := gy183_0
   dsimp only
   refine Dr.one 7 (by kernel_rfl) (St.freeze 35 rfl fun w ze1 zkN => ?_)
   replace zP := zP.le ze1
   replace WL := WL.trans ze1
   refine St.buildSlice 7 36 (e := 66) (vs := [(0, sL zIe zHr zII)]) (cs := [sL zIe zHr zII]) rfl (wn rfl) rfl (zl rfl Qf) (by kernel_rfl) fun zo1 zon => ?_
   obtain ⟨zH8, zQv, H⟩ := bnd H
   exact Dr.one 8 (by kernel_rfl) (St.append 8 27 (t' := JU) (ll := zJZ) (l2 := [zHr]) (fun b hb => .inl ⟨_, List.mem_cons_self, rfl, hb⟩) rfl (wn rfl) rfl rfl rfl rfl (fun W hW => ⟨[[sL zIe zHr zII]], (.cons ⟨(zIe, zII), zkN, rfl⟩ .nil), rdb hW (vs := [sL zIe zHr zII]) (k := 36) rfl 0⟩) zel zZh zjV (by decide) zm3 rfl zQv fun zCI zCD hAl188 => (Dr.tail (by kernel_rfl) (Tr.va rfl (fun _ _ a c => QF (a.ev rfl)) (Tr.va rfl (fun _ _ a c => zB zOE (a.ev rfl)) (Tr.store 2 (cs := [sL zCI zH8 zCD]) [iv p0.Unit, sL zF p0.Tools zG, sL zM p0.Steps zL, sL zCI zH8 zCD, .slice none 0 0, bV false, iv (-1), iv 0, iv 0, bV false, iv 0, iv 0] (wn rfl) rfl rfl rfl rfl zjt rfl rfl rfl (Tr.nil (Tr.zh (Tr.zA (Tr.region (Tr.va rfl (fun _ _ a c => QA (a.ev rfl) (a.ev rfl)) (Tr.mv rfl rfl (Tr.nil (Tr.zf WL (Qz, (iL3 + 1), zH8, zCI, zCD) ⟨rfl, Ql zAd, QC zAd, H, hAl188⟩ (.cons rfl (.cons rfl (.cons rfl (.cons rfl (.cons (congrArg (fun z => some (Value.int .i64 z)) (Qk zAd zP.form)) .nil))))) (.cons rfl (.cons rfl (.cons rfl .nil))))))))))))))))
  | cons xL4 Ki =>
   rw [KF.eq_2] at H
   refine Tr.sr (Tr.va rfl (fun _ _ a c => QE (a.ev rfl) (a.ev rfl)) (Tr.nil (Tr.zA (Tr.seq (Tr.WX rfl (JX zCj) (Tr.skip (Tr.zA (Tr.seq (Tr.block (Tr.sr (Tr.va rfl (fun _ _ a c => zK zCl (a.ev rfl) zDn.form (a.ev rfl) (Int.natCast_nonneg _) (QC zCj)) (Tr.va rfl (fun _ _ a c => zX (cs := [iv xL4.X0, iv xL4.Y0, iv xL4.X1, iv xL4.Y1]) zBr VE (a.ev rfl) (zO.take (rdF WA (zDn.rl) (Js zCj) c) 4) rfl) (Tr.alloc 37 (wn rfl) rfl zF5 fun zo0 => (Tr.store 37 (cs := [iv xL4.X0, iv xL4.Y0, iv xL4.X1, iv xL4.Y1]) [iv xL4.X0, iv xL4.Y0, iv xL4.X1, iv xL4.Y1] (wn rfl) rfl rfl rfl rfl VE rfl rfl rfl (Tr.nil (Tr.zA (Tr.region (Tr.mv rfl rfl (Tr.va rfl (fun _ _ a c => zB zBG (a.ev rfl)) (Tr.va rfl (fun _ _ a c => zD QH (a.ev rfl) (rdb c (vs := [iv xL4.X0, iv xL4.Y0, iv xL4.X1, iv xL4.Y1]) (k := 37) rfl 0) rfl) (Tr.va rfl (fun _ _ a c => zB zBH (a.ev rfl)) (Tr.va rfl (fun _ _ a c => zD QH (a.ev rfl) (rdb c (vs := [iv p0.Unit, sL zF p0.Tools zG, sL zM p0.Steps zL]) (k := 1) rfl 0) rfl) (Tr.va rfl (fun _ _ a c => zCT (a.ev rfl) (a.ev rfl)) (Tr.va rfl (fun _ _ a c => zB zDX (a.ev rfl)) (Tr.va rfl (fun _ _ a c => zD QH (a.ev rfl) (rdb c (vs := [iv xL4.X0, iv xL4.Y0, iv xL4.X1, iv xL4.Y1]) (k := 37) rfl 1) rfl) (Tr.va rfl (fun _ _ a c => zB zBH (a.ev rfl)) (Tr.va rfl (fun _ _ a c => zD QH (a.ev rfl) (rdb c (vs := [iv p0.Unit, sL zF p0.Tools zG, sL zM p0.Steps zL]) (k := 1) rfl 0) rfl) (Tr.va rfl (fun _ _ a c => zCT (a.ev rfl) (a.ev rfl)) (Tr.va rfl (fun _ _ a c => zB zD9 (a.ev rfl)) (Tr.va rfl (fun _ _ a c => zD QH (a.ev rfl) (rdb c (vs := [iv xL4.X0, iv xL4.Y0, iv xL4.X1, iv xL4.Y1]) (k := 37) rfl 2) rfl) (Tr.va rfl (fun _ _ a c => zB zBH (a.ev rfl)) (Tr.va rfl (fun _ _ a c => zD QH (a.ev rfl) (rdb c (vs := [iv p0.Unit, sL zF p0.Tools zG, sL zM p0.Steps zL]) (k := 1) rfl 0) rfl) (Tr.va rfl (fun _ _ a c => zCT (a.ev rfl) (a.ev rfl)) (Tr.va rfl (fun _ _ a c => zB zEp (a.ev rfl)) (Tr.va rfl (fun _ _ a c => zD QH (a.ev rfl) (rdb c (vs := [iv xL4.X0, iv xL4.Y0, iv xL4.X1, iv xL4.Y1]) (k := 37) rfl 3) rfl) (Tr.va rfl (fun _ _ a c => zB zBH (a.ev rfl)) (Tr.va rfl (fun _ _ a c => zD QH (a.ev rfl) (rdb c (vs := [iv p0.Unit, sL zF p0.Tools zG, sL zM p0.Steps zL]) (k := 1) rfl 0) rfl) (Tr.va rfl (fun _ _ a c => zCT (a.ev rfl) (a.ev rfl)) (Tr.build (vs := [(0, iv (w64 (xL4.X0 * p0.Unit))), (1, iv (w64 (xL4.Y0 * p0.Unit))), (2, iv (w64 (xL4.X1 * p0.Unit))), (3, iv (w64 (xL4.Y1 * p0.Unit)))]) (cs := [iv (w64 (xL4.X0 * p0.Unit)), iv (w64 (xL4.Y0 * p0.Unit)), iv (w64 (xL4.X1 * p0.Unit)), iv (w64 (xL4.Y1 * p0.Unit))]) (wn rfl) rfl (zl rfl (zl rfl (zl rfl (zl rfl Qf)))) (by kernel_rfl) (Tr.buildSlice 38 (e := 36) (vs := [(0, .agg #[iv (w64 (xL4.X0 * p0.Unit)), iv (w64 (xL4.Y0 * p0.Unit)), iv (w64 (xL4.X1 * p0.Unit)), iv (w64 (xL4.Y1 * p0.Unit))])]) (cs := [iv (w64 (xL4.X0 * p0.Unit)), iv (w64 (xL4.Y0 * p0.Unit)), iv (w64 (xL4.X1 * p0.Unit)), iv (w64 (xL4.Y1 * p0.Unit))]) (wn rfl) rfl (zl rfl Qf) (by kernel_rfl) fun zoz => ?_))))))))))))))))))))))))))))))))))))))))
   obtain ⟨zgP, zmD, H⟩ := bnd H
   exact Tr.append 30 (t := zY) (l := zVa) (l2 := [(zQ.mk (w64 (xL4.X0 * p0.Unit)) (w64 (xL4.Y0 * p0.Unit)) (w64 (xL4.X1 * p0.Unit)) (w64 (xL4.Y1 * p0.Unit)))]) (wn rfl) rfl rfl rfl rfl (fun W hW => ⟨[[iv (w64 (xL4.X0 * p0.Unit)), iv (w64 (xL4.Y0 * p0.Unit)), iv (w64 (xL4.X1 * p0.Unit)), iv (w64 (xL4.Y1 * p0.Unit))]], (.cons ⟨(), trivial, rfl⟩ .nil), rdb hW (vs := [iv (w64 (xL4.X0 * p0.Unit)), iv (w64 (xL4.Y0 * p0.Unit)), iv (w64 (xL4.X1 * p0.Unit)), iv (w64 (xL4.Y1 * p0.Unit))]) (k := 38) rfl 0⟩) zBQ VE zSu (by decide) zUf rfl zmD fun znH zmx hAl191 => (Tr.asg rfl rfl (Tr.nil (Tr.zh (Tr.zA (Tr.region (Tr.va rfl (fun _ _ a c => QA (a.ev rfl) (a.ev rfl)) (Tr.mv rfl rfl (Tr.nil (Tr.zf zDM (Ki, (iL4 + 1), zgP, znH, zmx) ⟨rfl, Ql zCj, QC zCj, H, hAl191⟩ (.cons rfl (.cons rfl (.cons rfl (.cons rfl (.cons rfl (.cons rfl (.cons rfl (.cons rfl (.cons (congrArg (fun z => some (Value.int .i64 z)) (Qk zCj zDn.form)) .nil))))))))) (.cons rfl (.cons rfl (.cons rfl (.cons rfl .nil)))))))))))))

theorem zDR {w : Bs} (p0 : QU) (zF : Option Addr) (zG : Nat) (zP : Sl w.R w.W zN zF zG p0.p.Tools) (zM : Option Addr) (zL : Nat) (QW : Sl w.R w.W zH zM zL p0.p.Steps) (QN : Option Addr) (QP : Nat) (Kn : Sl w.R w.W JU QN QP p0.tools) (QV : Option Addr) (QT : Nat) (ze7 : Sl w.R w.W zW QV QT p0.image) (bp0 : Nat) (hbp0 : w.R bp0) (hcp0 : zO w.W bp0 0 [iv p0.p.Unit, sL zF p0.p.Tools zG, sL zM p0.p.Steps zL, sL QN p0.tools QP, sL QV p0.image QT, bV p0.clear, iv p0.tool, iv p0.place.X, iv p0.place.Y, bV p0.placed, iv p0.off, iv p0.on]) (p1 : zJ) (p2 : zJ) (r : zJ) (H : Wm p0 p1 p2 = some r) (hE : HF w w.W E0) : Calls Tryz.prog 103 [pV bp0, .agg #[iv p1.X, iv p1.Y], .agg #[iv p2.X, iv p2.Y]].toArray w.W fun e W' => e = .returned (.agg #[iv r.X, iv r.Y]) ∧ HF w W' E0 := by
 unfold Wm at H
 have leB := Bs.Le.refl w
 refine Tr.enter (n := 30) Tryz.func103 rfl rfl rfl hE (Tr.sr (Tr.box 1 (cs := [iv p1.X, iv p1.Y]) (wn rfl) rfl rfl rfl fun zt => (Tr.box 2 (cs := [iv p2.X, iv p2.Y]) (wn rfl) rfl rfl rfl fun Qg => (Tr.alloc 3 (wn rfl) rfl zJJ fun zCE => (Tr.nil (Tr.zA (Tr.seq (Tr.Wj 22 (by kernel_rfl) (by kernel_rfl) (Tq.va rfl (fun _ _ a c => zB Kq (a.ev rfl)) (Tq.va rfl (fun _ _ a c => zD QH (a.ev rfl) (rdb c (vs := [iv p1.X, iv p1.Y]) (k := 1) rfl 0) rfl) (Tq.mv rfl rfl (Tq.va rfl (fun _ _ a c => QF (a.ev rfl)) (Tq.va rfl (fun _ _ a c => zB zL1 (a.ev rfl)) (Tq.va rfl (fun _ _ a c => zB zBH (a.ev rfl)) (Tq.va rfl (fun _ _ a c => zD QH (a.ev rfl) (zO.drop (zO.drop (rdR hbp0 hcp0 c) 0) 0) rfl) (Tq.va rfl (fun _ _ a c => zCT (a.ev rfl) (a.ev rfl)) (Tq.va rfl (fun _ _ a c => zB Kq (a.ev rfl)) (Tq.va rfl (fun _ _ a c => zD QH (a.ev rfl) (rdb c (vs := [iv p2.X, iv p2.Y]) (k := 2) rfl 0) rfl) (Tq.va rfl (fun _ _ a c => QA (a.ev rfl) (a.ev rfl)) (Tq.va rfl (fun _ _ a c => zB KY (a.ev rfl)) (Tq.va rfl (fun _ _ a c => zD QH (a.ev rfl) (rdb c (vs := [iv p1.X, iv p1.Y]) (k := 1) rfl 1) rfl) (Tq.mv rfl rfl (Tq.va rfl (fun _ _ a c => QF (a.ev rfl)) (Tq.va rfl (fun _ _ a c => zB zL1 (a.ev rfl)) (Tq.va rfl (fun _ _ a c => zB zBH (a.ev rfl)) (Tq.va rfl (fun _ _ a c => zD QH (a.ev rfl) (zO.drop (zO.drop (rdR hbp0 hcp0 c) 0) 0) rfl) (Tq.va rfl (fun _ _ a c => zCT (a.ev rfl) (a.ev rfl)) (Tq.va rfl (fun _ _ a c => zB KY (a.ev rfl)) (Tq.va rfl (fun _ _ a c => zD QH (a.ev rfl) (rdb c (vs := [iv p2.X, iv p2.Y]) (k := 2) rfl 1) rfl) (Tq.va rfl (fun _ _ a c => QA (a.ev rfl) (a.ev rfl)) (Tq.nil (Tr.build (vs := [(0, iv (w64 ((w64 (p1.X * p0.p.Unit)) + p2.X))), (1, iv (w64 ((w64 (p1.Y * p0.p.Unit)) + p2.Y)))]) (cs := [iv (w64 ((w64 (p1.X * p0.p.Unit)) + p2.X)), iv (w64 ((w64 (p1.Y * p0.p.Unit)) + p2.Y))]) (wn rfl) rfl (zl rfl (zl rfl Qf)) (by kernel_rfl) (Tr.store 3 (cs := [iv (w64 ((w64 (p1.X * p0.p.Unit)) + p2.X)), iv (w64 ((w64 (p1.Y * p0.p.Unit)) + p2.Y))]) [iv (w64 ((w64 (p1.X * p0.p.Unit)) + p2.X)), iv (w64 ((w64 (p1.Y * p0.p.Unit)) + p2.Y))] (wn rfl) rfl rfl rfl rfl JL rfl rfl rfl (Tr.nil (Tr.zA (Tr.ret ?_))))))))))))))))))))))))))))))))))))
 obtain rfl := oI H
 exact Tr.out (m := [.agg #[iv (w64 ((w64 (p1.X * p0.p.Unit)) + p2.X)), iv (w64 ((w64 (p1.Y * p0.p.Unit)) + p2.Y))]]) [3] (WR rfl rfl KT JL zT) (fun W hW => ⟨rfl, hW.low leB⟩)

theorem zML {w : Bs} (p0 : Int) (p1 : Int) (p2 : Int) (r : Bool) (H : zCp p0 p1 p2 = some r) (hE : HF w w.W E0) : Calls Tryz.prog 158 [iv p0, iv p1, iv p2].toArray w.W fun e W' => e = .returned (bV r) ∧ HF w W' E0 := by
 unfold zCp at H
 have leB := Bs.Le.refl w
 refine Tr.enter (n := 15) Tryz.func158 rfl rfl rfl hE (Tr.sr (Tr.asg rfl rfl (Tr.nil (Tr.zA (Tr.sr (Tr.mv rfl rfl (Tr.mv rfl rfl (Tr.va rfl (fun _ _ a c => zEo (a.ev rfl) (a.ev rfl)) (Tr.mv rfl rfl (Tr.VJ 4 [(14, bV ((decide (p1 ≤ p0)) && (decide (p0 ≤ p2))))] [] ?_ ?_))))))))))
 ·cases zY1 : (decide (p1 ≤ p0))
  ·exact Tr.pass rfl rfl rfl rfl rfl (by decide) (Tr.pass rfl rfl rfl rfl rfl (by decide) (Tr.pass rfl rfl rfl rfl rfl (by decide) (Tr.va rfl (fun _ _ a c => zo (a.ev rfl) (a.ev rfl)) (Tr.nil (Tr.Qi (.cons rfl .nil) .nil)))))
  ·exact Tr.val (wg rfl rfl rfl) rfl (fun _ _ a c => run_move (a.ev rfl)) (Tr.val (wg rfl rfl rfl) rfl (fun _ _ a c => run_move (a.ev rfl)) (Tr.val (wg rfl rfl rfl) rfl (fun _ _ a c => zBR (a.ev rfl) (a.ev rfl)) (Tr.va rfl (fun _ _ a c => zn (a.ev rfl) (a.ev rfl)) (Tr.nil (Tr.Qi (.cons rfl .nil) .nil)))))
 ·show Tr _ _ (LF [(14, bV ((decide (p1 ≤ p0)) && (decide (p0 ≤ p2))))]) (LE []) _
  refine Tr.asg rfl rfl (Tr.nil (Tr.zA (Tr.ret ?_)))
  obtain rfl := oI H
  exact Tr.out (m := [bV ((decide (p1 ≤ p0)) && (decide (p0 ≤ p2)))]) [] (zU rfl zT) (fun W hW => ⟨rfl, hW.low leB⟩)

theorem zBA {w : Bs} (p0 : Int) (r : Bool) (H : Wv p0 = some r) (hE : HF w w.W E0) : Calls Tryz.prog 129 [iv p0].toArray w.W fun e W' => e = .returned (bV r) ∧ HF w W' E0 := by
 unfold Wv at H
 have leB := Bs.Le.refl w
 refine Tr.enter (n := 5) Tryz.func129 rfl rfl rfl hE (Tr.sr (Tr.asg rfl rfl (Tr.nil (Tr.zA (Tr.sr (Tr.mv rfl rfl ?_))))))
 obtain ⟨QK, zBE, H⟩ := bnd H
 refine Tr.Qs (r := (bV QK)) (wn rfl) rfl Tryz.call158 (zI rfl (zI rfl (zI rfl zS))) (fun W hW => zML p0 (-1000000) 1000000 QK zBE (HF.start _)) (Tr.asg rfl rfl (Tr.nil (Tr.zA (Tr.ret ?_))))
 obtain rfl := oI H
 exact Tr.out (m := [bV QK]) [] (zU rfl zT) (fun W hW => ⟨rfl, hW.low leB⟩)

theorem zDi {w : Bs} (p0 : zJ) (r : Bool) (H : zAU p0 = some r) (hE : HF w w.W E0) : Calls Tryz.prog 123 [.agg #[iv p0.X, iv p0.Y]].toArray w.W fun e W' => e = .returned (bV r) ∧ HF w W' E0 := by
 unfold zAU at H
 have leB := Bs.Le.refl w
 refine Tr.enter (n := 11) Tryz.func123 rfl rfl rfl hE (Tr.sr (Tr.box 1 (cs := [iv p0.X, iv p0.Y]) (wn rfl) rfl rfl rfl fun zt => (Tr.asg rfl rfl (Tr.nil (Tr.zA (Tr.sr (Tr.va rfl (fun _ _ a c => zB Kq (a.ev rfl)) (Tr.va rfl (fun _ _ a c => zD QH (a.ev rfl) (rdb c (vs := [iv p0.X, iv p0.Y]) (k := 1) rfl 0) rfl) ?_))))))))
 obtain ⟨y101, hy101, H⟩ := bnd H
 refine Tr.Qs (r := (bV y101)) (wn rfl) rfl Tryz.call129 (zI rfl zS) (fun W hW => zBA p0.X y101 hy101 (HF.start _)) (Tr.mv rfl rfl ?_)
 obtain ⟨zGi, zBa, H⟩ := bnd H
 refine Tr.VJ 4 [(10, bV zGi)] [(1, bx zt #[iv p0.X, iv p0.Y] 43)] ?_ ?_
 ·cases zGM : y101
  ·rw [zGM] at zBa
   rw [if_neg (by decide)] at zBa
   have H := zBa
   obtain rfl := oI H
   exact Tr.pass rfl rfl rfl rfl rfl (by decide) (Tr.pass rfl rfl rfl rfl rfl (by decide) (Tr.pass rfl rfl rfl rfl rfl (by decide) (Tr.va rfl (fun _ _ a c => zo (a.ev rfl) (a.ev rfl)) (Tr.nil (Tr.Qi (.cons rfl .nil) (.cons rfl .nil))))))
  ·rw [zGM] at zBa
   rw [if_pos rfl] at zBa
   have H := zBa
   refine Tr.val (wg rfl rfl rfl) rfl (fun _ _ a c => zB KY (a.ev rfl)) (Tr.val (wg rfl rfl rfl) rfl (fun _ _ a c => zD QH (a.ev rfl) (rdb c (vs := [iv p0.X, iv p0.Y]) (k := 1) rfl 1) rfl) ?_)
   obtain ⟨y104, hy104, H⟩ := bnd H
   refine Tr.Qs (r := (bV y104)) (wg rfl rfl rfl) rfl Tryz.call129 (zI rfl zS) (fun W hW => zBA p0.Y y104 hy104 (HF.start _)) (Tr.va rfl (fun _ _ a c => zn (a.ev rfl) (a.ev rfl)) ?_)
   obtain rfl := oI H
   exact Tr.nil (Tr.Qi (.cons rfl .nil) (.cons rfl .nil))
 ·show Tr _ _ (LF [(10, bV zGi)]) (LE [(1, bx zt #[iv p0.X, iv p0.Y] 43)]) _
  refine Tr.asg rfl rfl (Tr.nil (Tr.zA (Tr.ret ?_)))
  obtain rfl := oI H
  exact Tr.out (m := [bV zGi]) [] (zU rfl zT) (fun W hW => ⟨rfl, hW.low leB⟩)

theorem zKn {w : Bs} (p0 : zJ) (p1 : zJ) (r : Int) (H : zIb p0 p1 = some r) (hE : HF w w.W E0) : Calls Tryz.prog 124 [.agg #[iv p0.X, iv p0.Y], .agg #[iv p1.X, iv p1.Y]].toArray w.W fun e W' => e = .returned (iv r) ∧ HF w W' E0 := by
 unfold zIb at H
 have leB := Bs.Le.refl w
 refine Tr.enter (n := 28) Tryz.func124 rfl rfl rfl hE (Tr.sr (Tr.box 1 (cs := [iv p0.X, iv p0.Y]) (wn rfl) rfl rfl rfl fun zt => (Tr.box 2 (cs := [iv p1.X, iv p1.Y]) (wn rfl) rfl rfl rfl fun Qg => (Tr.asg rfl rfl (Tr.nil (Tr.zA (Tr.sr (Tr.va rfl (fun _ _ a c => zB Kq (a.ev rfl)) (Tr.va rfl (fun _ _ a c => zD QH (a.ev rfl) (rdb c (vs := [iv p0.X, iv p0.Y]) (k := 1) rfl 0) rfl) (Tr.va rfl (fun _ _ a c => zB Kq (a.ev rfl)) (Tr.va rfl (fun _ _ a c => zD QH (a.ev rfl) (rdb c (vs := [iv p1.X, iv p1.Y]) (k := 2) rfl 0) rfl) (Tr.va rfl (fun _ _ a c => zAt (a.ev rfl) (a.ev rfl)) (Tr.va rfl (fun _ _ a c => zB Kq (a.ev rfl)) (Tr.va rfl (fun _ _ a c => zD QH (a.ev rfl) (rdb c (vs := [iv p1.X, iv p1.Y]) (k := 2) rfl 0) rfl) (Tr.va rfl (fun _ _ a c => zB Kq (a.ev rfl)) (Tr.va rfl (fun _ _ a c => zD QH (a.ev rfl) (rdb c (vs := [iv p0.X, iv p0.Y]) (k := 1) rfl 0) rfl) (Tr.va rfl (fun _ _ a c => zAt (a.ev rfl) (a.ev rfl)) (Tr.va rfl (fun _ _ a c => zGn (a.ev rfl) (a.ev rfl) _) (Tr.va rfl (fun _ _ a c => zB KY (a.ev rfl)) (Tr.va rfl (fun _ _ a c => zD QH (a.ev rfl) (rdb c (vs := [iv p0.X, iv p0.Y]) (k := 1) rfl 1) rfl) (Tr.va rfl (fun _ _ a c => zB KY (a.ev rfl)) (Tr.va rfl (fun _ _ a c => zD QH (a.ev rfl) (rdb c (vs := [iv p1.X, iv p1.Y]) (k := 2) rfl 1) rfl) (Tr.va rfl (fun _ _ a c => zAt (a.ev rfl) (a.ev rfl)) (Tr.va rfl (fun _ _ a c => zB KY (a.ev rfl)) (Tr.va rfl (fun _ _ a c => zD QH (a.ev rfl) (rdb c (vs := [iv p1.X, iv p1.Y]) (k := 2) rfl 1) rfl) (Tr.va rfl (fun _ _ a c => zB KY (a.ev rfl)) (Tr.va rfl (fun _ _ a c => zD QH (a.ev rfl) (rdb c (vs := [iv p0.X, iv p0.Y]) (k := 1) rfl 1) rfl) (Tr.va rfl (fun _ _ a c => zAt (a.ev rfl) (a.ev rfl)) (Tr.va rfl (fun _ _ a c => zGn (a.ev rfl) (a.ev rfl) _) (Tr.va rfl (fun _ _ a c => QA (a.ev rfl) (a.ev rfl)) (Tr.asg rfl rfl (Tr.nil (Tr.zA (Tr.ret ?_))))))))))))))))))))))))))))))))))
 obtain rfl := oI H
 exact Tr.out (m := [iv (w64 ((max (w64 (p0.X - p1.X)) (w64 (p1.X - p0.X))) + (max (w64 (p0.Y - p1.Y)) (w64 (p1.Y - p0.Y)))))]) [] (zU rfl zT) (fun W hW => ⟨rfl, hW.low leB⟩)

theorem zEX (N : Nat) {w : Bs} (p0 : (List ze)) (zF : Option Addr) (zG : Nat) (zP : Sl w.R w.W zW zF zG p0) (r : (List zQ)) (H : Vw N p0 = some r) (hE : HF w w.W (LEn [emp])) : Calls Tryz.prog 29 [sL zF p0 zG].toArray w.W fun e W' => ∃ u : (Option Addr × Nat), e = .returned (sL u.1 r u.2) ∧ (SlF u.1 r.length u.2) ∧ HF w W' (LEn [ow u.1 u.2 36 zY r]) := by
 unfold Vw at H
 have leB := Bs.Le.refl w
 refine Tr.enter (n := 41) Tryz.func29 rfl rfl rfl hE (Tr.sr (Tr.asg rfl rfl (Tr.JY 1 36 zY ?_)))
 show Tr _ _ (uf _ 2 (sL none (([] : List zQ)) 0)) _ _
 refine Tr.nil (Tr.zA (Tr.sr (Tr.asg rfl rfl (Tr.JY 2 36 zY ?_))))
 show Tr _ _ (uf _ 3 (sL none (([] : List zQ)) 0)) _ _
 refine Tr.nil (Tr.zA (Tr.seq (Tr.sr (Tr.mv rfl rfl (Tr.va rfl (fun _ _ a c => zy zFa (a.ev rfl)) (Tr.mv rfl rfl (Tr.nil (Tr.zA (Tr.block (Tr.loop (σ := (List ze) × Nat × (List zQ) × (Option Addr) × Nat) (fun m w s => m = s.1.length + 1 ∧ s.1 = List.drop s.2.1 p0 ∧ s.2.1 ≤ p0.length ∧ Qx N s.1 s.2.1 s.2.2.1 = some r ∧ SlF s.2.2.2.1 s.2.2.1.length s.2.2.2.2) (fun s => [(3, sL s.2.2.2.1 s.2.2.1 s.2.2.2.2), (7, sL zF p0 zG), (8, iv (p0.length : Int)), (9, iv (s.2.1 : Int))]) (fun s => [(2, ow s.2.2.2.1 s.2.2.2.2 36 zY s.2.2.1)]) (p0.length + 1) (p0, 0, ([] : List zQ), none, 0) ⟨rfl, rfl, Nat.zero_le _, H, VR⟩ (.cons rfl (.cons rfl (.cons rfl (.cons rfl .nil)))) (.cons rfl .nil) (fun _ _ h => absurd h.1 (by simp)) ?_))))))))))
 intro w WL m s hs
 obtain ⟨Qz, iL3, zEO, zHA, zG1⟩ := s
 obtain ⟨zIE, zAd, hiL3, H, zKg⟩ := hs
 replace zAd : Qz = List.drop iL3 p0 := zAd
 replace H : Qx N Qz iL3 zEO = some r := H
 replace zIE : m + 1 = Qz.length + 1 := zIE
 replace zP := zP.leR WL
 replace leB := leB.trans WL
 replace zKg : SlF zHA zEO.length zG1 := zKg
 obtain rfl : m = Qz.length := by omega
 clear zIE
 dsimp only
 cases Qz with
 | nil =>
  rw [Qx.eq_1] at H
  refine Tr.sr (Tr.va rfl (fun _ _ a c => QE (a.ev rfl) (a.ev rfl)) (Tr.nil (Tr.zA (Tr.seq (Tr.WY rfl (JB zAd) (Tr.exit (Tr.zi (Tr.zi (Tr.QL (Tr.zA (Tr.sr (Tr.mv rfl rfl (Tr.asg rfl rfl (Tr.nil (Tr.zA (Tr.ret ?_))))))))))))))))
  obtain rfl := oI H
  exact Tr.out (m := [sL zHA zEO zG1]) [] (zU rfl zT) (fun W hW => ⟨(zHA, zG1), rfl, zKg, HF.zK1 leB (hW.pick (ks := [2]) (by decide) (zR rfl zk)) ⟨zGI _ _ _ _ zCd, trivial⟩⟩)
 | cons xL3 Qz =>
  rw [Qx.eq_2] at H
  refine Tr.sr (Tr.va rfl (fun _ _ a c => QE (a.ev rfl) (a.ev rfl)) (Tr.nil (Tr.zA (Tr.seq (Tr.WX rfl (JX zAd) (Tr.skip (Tr.zA (Tr.seq (Tr.block (Tr.sr ?_))))))))))
  obtain ⟨zn3, hRu153, zdh, hcu153⟩ := (zP).el (Js zAd)
  obtain ⟨zAz, zCV⟩ := zn3
  have zDo := zdh
  replace zDo : Sl w.R w.W QO zAz zCV xL3.Xs := zDo
  refine Tr.va rfl (fun _ _ a c => zK zDB (a.ev rfl) zP.form (a.ev rfl) (Int.natCast_nonneg _) (QC zAd)) (Tr.va rfl (fun _ _ a c => zX (cs := [iv xL3.Y0, iv xL3.Y1, sL zAz xL3.Xs zCV]) zSi zJN (a.ev rfl) (zO.take (rdR hRu153 hcu153 c) 3) rfl) (Tr.alloc 11 (wn rfl) rfl zUw fun zQZ => (Tr.store 11 (cs := [iv xL3.Y0, iv xL3.Y1, sL zAz xL3.Xs zCV]) [iv xL3.Y0, iv xL3.Y1, sL zAz xL3.Xs zCV] (wn rfl) rfl rfl rfl rfl zJN rfl rfl rfl (Tr.nil (Tr.zA (Tr.sr (Tr.asg rfl rfl (Tr.nil (Tr.zA (Tr.block (Tr.loop (σ := (List zQ) × Int × (Option Addr) × Nat) (fun m w s => Jn (Qx N Qz (iL3 + 1)) xL3 m s.1 s.2.1 = some r ∧ SlF s.2.2.1 s.1.length s.2.2.2) (fun s => [(3, sL s.2.2.1 s.1 s.2.2.2), (5, pV zQZ), (6, iv s.2.1), (7, sL zF p0 zG), (8, iv (p0.length : Int)), (9, iv (iL3 : Int))]) (fun s => [(2, ow s.2.2.1 s.2.2.2 36 zY s.1), (11, bx zQZ #[iv xL3.Y0, iv xL3.Y1, sL zAz xL3.Xs zCV] 107)]) N (zEO, 0, zHA, zG1) ⟨H, zKg⟩ (.cons rfl (.cons rfl (.cons rfl (.cons rfl (.cons rfl (.cons rfl .nil)))))) (.cons rfl (.cons rfl .nil)) (fun _ _ h => zAQ (h.1)) ?_)))))))))))
  intro w zDM mL4 s hs
  obtain ⟨zFk, zHL, zG9, zG0⟩ := s
  obtain ⟨H, zNj⟩ := hs
  replace H : Jn (Qx N Qz (iL3 + 1)) xL3 (mL4 + 1) zFk zHL = some r := H
  replace zDo := zDo.leR zDM
  replace zP := zP.leR zDM
  replace WL := WL.trans zDM
  replace zNj : SlF zG9 zFk.length zG0 := zNj
  rw [Jn.eq_2] at H
  dsimp only
  refine Tr.seq (Tr.sr (Tr.mv rfl rfl (Tr.va rfl (fun _ _ a c => zB zBb (a.ev rfl)) (Tr.va rfl (fun _ _ a c => zD zDP (a.ev rfl) (rdb c (vs := [iv xL3.Y0, iv xL3.Y1, sL zAz xL3.Xs zCV]) (k := 11) rfl 2) rfl) (Tr.va rfl (fun _ _ a c => zy zCc (a.ev rfl)) (Tr.va rfl (fun _ _ a c => QE (a.ev rfl) (a.ev rfl)) (Tr.nil (Tr.zA (Tr.cond rfl H (fun H => ?_) (fun H => ?_))))))))))
  ·refine Tr.skip (Tr.zA (Tr.seq (Tr.block ?_)))
   obtain ⟨zKX, zlb, H⟩ := bnd H
   obtain ⟨zhh, zhg, zhf⟩ := zx zlb
   obtain ⟨zKW, zla, H⟩ := bnd H
   obtain ⟨zhe, zhd, zhc⟩ := zx zla
   refine Tr.zb9 18 [(17, .makeFunc (.func 0) #[] #[.tmp 36])] [(17, ⟨37, 14, .func (.func 0) #[] #[.agg #[iv zKX, iv xL3.Y0, iv zKW, iv xL3.Y1]], fun b => .slice (some ⟨b, 0, none⟩) 1 1, fun b => bx b #[iv zKX, iv xL3.Y0, iv zKW, iv xL3.Y1] 36⟩)] [(3, sL zG9 zFk zG0), (5, pV zQZ), (6, iv zHL), (7, sL zF p0 zG), (8, iv (p0.length : Int)), (9, iv (iL3 : Int)), (13, iv zHL), (14, .pointer (some ⟨zQZ, 2, none⟩)), (15, sL zAz xL3.Xs zCV), (16, iv (xL3.Xs.length : Int)), (17, bV (decide (zHL < (xL3.Xs.length : Int)))), (20, sL zG9 zFk zG0), (21, .pointer (some ⟨zQZ, 2, none⟩)), (22, sL zAz xL3.Xs zCV), (23, iv zHL), (24, .pointer (some ⟨adB zAz, adO zAz + (zHL).toNat * 1, none⟩)), (25, iv zKX), (26, pV zQZ), (27, iv xL3.Y0), (28, .pointer (some ⟨zQZ, 2, none⟩)), (29, sL zAz xL3.Xs zCV), (30, iv zHL), (31, iv (w64 (zHL + 1))), (32, .pointer (some ⟨adB zAz, adO zAz + ((w64 (zHL + 1))).toNat * 1, none⟩)), (33, iv zKW), (34, .pointer (some ⟨zQZ, 1, none⟩)), (35, iv xL3.Y1), (36, .agg #[iv zKX, iv xL3.Y0, iv zKW, iv xL3.Y1]), (37, .func (.func 0) #[] #[.agg #[iv zKX, iv xL3.Y0, iv zKW, iv xL3.Y1]])] (by kernel_rfl) (by kernel_rfl) (by kernel_rfl) (by kernel_rfl) (by kernel_rfl) (by kernel_rfl) (by kernel_rfl) (zC4 (ziz (vs := [(0, .agg #[iv zKX, iv xL3.Y0, iv zKW, iv xL3.Y1])]) rfl rfl rfl (by kernel_rfl)) zEB) (zC4 rfl zEB) (zC4 rfl zEB) ?_ ?_
   ·exact Tq.mv rfl rfl (Tq.va rfl (fun _ _ a c => zB zBb (a.ev rfl)) (Tq.va rfl (fun _ _ a c => zD zDP (a.ev rfl) (rdb c (vs := [iv xL3.Y0, iv xL3.Y1, sL zAz xL3.Xs zCV]) (k := 11) rfl 2) rfl) (Tq.mv rfl rfl (Tq.va rfl (fun _ _ a c => zK zA3 (a.ev rfl) zDo.form (a.ev rfl) zhh zhg) (Tq.va rfl (fun _ _ a c => zD QH (a.ev rfl) (rdF We zDo zhf c) rfl) (Tq.va rfl (fun _ _ a c => zB zFE (a.ev rfl)) (Tq.va rfl (fun _ _ a c => zD QH (a.ev rfl) (rdb c (vs := [iv xL3.Y0, iv xL3.Y1, sL zAz xL3.Xs zCV]) (k := 11) rfl 0) rfl) (Tq.va rfl (fun _ _ a c => zB zBb (a.ev rfl)) (Tq.va rfl (fun _ _ a c => zD zDP (a.ev rfl) (rdb c (vs := [iv xL3.Y0, iv xL3.Y1, sL zAz xL3.Xs zCV]) (k := 11) rfl 2) rfl) (Tq.mv rfl rfl (Tq.va rfl (fun _ _ a c => QA (a.ev rfl) (a.ev rfl)) (Tq.va rfl (fun _ _ a c => zK zA3 (a.ev rfl) zDo.form (a.ev rfl) zhe zhd) (Tq.va rfl (fun _ _ a c => zD QH (a.ev rfl) (rdF We zDo zhc c) rfl) (Tq.va rfl (fun _ _ a c => zB zCk (a.ev rfl)) (Tq.va rfl (fun _ _ a c => zD QH (a.ev rfl) (rdb c (vs := [iv xL3.Y0, iv xL3.Y1, sL zAz xL3.Xs zCV]) (k := 11) rfl 1) rfl) (Tq.build (vs := [(0, iv zKX), (1, iv xL3.Y0), (2, iv zKW), (3, iv xL3.Y1)]) (cs := [iv zKX, iv xL3.Y0, iv zKW, iv xL3.Y1]) (wn rfl) rfl (zl rfl (zl rfl (zl rfl (zl rfl Qf)))) (by kernel_rfl) (Tq.zHD (vs := [.agg #[iv zKX, iv xL3.Y0, iv zKW, iv xL3.Y1]]) (wn rfl) rfl (zI rfl zS) (Tq.fin (.cons rfl (.cons rfl (.cons rfl (.cons rfl (.cons rfl (.cons rfl (.cons rfl (.cons rfl (.cons rfl (.cons rfl (.cons rfl (.cons rfl (.cons rfl (.cons rfl (.cons rfl (.cons rfl (.cons rfl (.cons rfl (.cons rfl (.cons rfl (.cons rfl (.cons rfl (.cons rfl (.cons rfl (.cons rfl (.cons rfl (.cons rfl (.cons rfl (.cons rfl .nil)))))))))))))))))))))))))))))))))))))))))))))))
   ·intro bs171
    refine Tr.sel (lf := [(5, pV zQZ), (6, iv zHL), (7, sL zF p0 zG), (8, iv (p0.length : Int)), (9, iv (iL3 : Int)), (20, sL zG9 zFk zG0), (37, .slice (some ⟨(bs171 17), 0, none⟩) 1 1)]) (le := [(2, ow zG9 zG0 36 zY zFk), (11, bx zQZ #[iv xL3.Y0, iv xL3.Y1, sL zAz xL3.Xs zCV] 107), (14, bx (bs171 17) #[iv zKX, iv xL3.Y0, iv zKW, iv xL3.Y1] 36)]) (.cons rfl (.cons rfl (.cons rfl (.cons rfl (.cons rfl (.cons rfl (.cons rfl .nil))))))) (.cons rfl (.cons rfl (.cons rfl .nil))) ?_
    obtain ⟨zgQ, zmE, H⟩ := bnd H
    exact Tr.append 2 (t := zY) (l := zFk) (l2 := [(zQ.mk zKX xL3.Y0 zKW xL3.Y1)]) (wn rfl) rfl rfl rfl rfl (fun W hW => ⟨[[iv zKX, iv xL3.Y0, iv zKW, iv xL3.Y1]], (.cons ⟨(), trivial, rfl⟩ .nil), rdb hW (vs := [iv zKX, iv xL3.Y0, iv zKW, iv xL3.Y1]) (k := 14) rfl 0⟩) zBQ VE zSu (by decide) zUf rfl zmE fun znJ zmz hAl174 => (Tr.asg rfl rfl (Tr.nil (Tr.zh (Tr.zA (Tr.region (Tr.mv rfl rfl (Tr.va rfl (fun _ _ a c => QA (a.ev rfl) (a.ev rfl)) (Tr.asg rfl rfl (Tr.nil (Tr.zf zDM (zgQ, (w64 (zHL + 2)), znJ, zmz) ⟨H, hAl174⟩ (.cons rfl (.cons rfl (.cons rfl (.cons rfl (.cons rfl (.cons rfl .nil)))))) (.cons rfl (.cons rfl .nil))))))))))))
  ·exact Tr.exit (Tr.zi (Tr.zi (Tr.QL (Tr.zh (Tr.zA (Tr.region (Tr.va rfl (fun _ _ a c => QA (a.ev rfl) (a.ev rfl)) (Tr.mv rfl rfl (Tr.nil (Tr.zf WL (Qz, (iL3 + 1), zFk, zG9, zG0) ⟨rfl, Ql zAd, QC zAd, H, zNj⟩ (.cons rfl (.cons rfl (.cons rfl (.cons (congrArg (fun z => some (Value.int .i64 z)) (Qk zAd zP.form)) .nil)))) (.cons rfl .nil)))))))))))

theorem zIX (N : Nat) {w : Bs} (p0 : (List ze)) (zF : Option Addr) (zG : Nat) (zP : Sl w.R w.W zW zF zG p0) (p1 : Int) (p2 : Int) (p3 : Int) (p4 : Int) (r : (List ze)) (H : zAX N p0 p1 p2 p3 p4 = some r) (hE : HF w w.W (LEn [emp])) : Calls Tryz.prog 156 [sL zF p0 zG, iv p1, iv p2, iv p3, iv p4].toArray w.W fun e W' => ∃ (w' : Bs) (u : (Option Addr × Nat)), w.Le w' ∧ e = .returned (sL u.1 r u.2) ∧ (SlF u.1 r.length u.2) ∧ HF w' W' (LEn [ow u.1 u.2 107 zW r]) := by
 unfold zAX at H
 have leB := Bs.Le.refl w
 refine Tr.enter (n := 46) Tryz.func156 rfl rfl rfl hE (Tr.sr (Tr.asg rfl rfl (Tr.JY 1 107 zW ?_)))
 show Tr _ _ (uf _ 10 (sL none (([] : List ze)) 0)) _ _
 refine Tr.nil (Tr.zA (Tr.sr (Tr.mv rfl rfl ?_)))
 obtain ⟨QK, zBE, H⟩ := bnd H
 refine Tr.WB [2] [emp] (U := (Option Addr × Nat)) (fun u => (sL u.1 QK u.2)) (fun u => SlF u.1 QK.length u.2) (fun u => [ow u.1 u.2 36 zY QK]) rfl (zR rfl zk) (fun _ => rfl) (wn rfl) rfl Tryz.call29 (zI rfl zS) (fun W hW hp hE => zEX N p0 zF zG (zP.ext (hW.JH hp)) QK zBE hE) ?_
 intro u hu
 obtain ⟨JQ, JP⟩ := u
 have gy100_0 := hu
 have zBY : SlF JQ QK.length JP := gy100_0 --@phi
 dsimp only
 refine Tr.asg rfl rfl (Tr.nil (Tr.zA (Tr.seq (Tr.sr (Tr.mv rfl rfl (Tr.va rfl (fun _ _ a c => zy zBQ (a.ev rfl)) (Tr.mv rfl rfl (Tr.nil (Tr.zA (Tr.block (Tr.loop (σ := (List zQ) × Int × (Option Addr) × Nat) (fun m w s => Jy N p1 p2 p3 p4 QK m s.1 s.2.1 = some r ∧ SlF s.2.2.1 s.1.length s.2.2.2) (fun s => [(1, iv p1), (2, iv p2), (3, iv p3), (4, iv p4), (11, sL s.2.2.1 s.1 s.2.2.2), (16, sL s.2.2.1 s.1 s.2.2.2), (17, iv (QK.length : Int)), (18, iv s.2.1)]) (fun s => [(2, ow s.2.2.1 s.2.2.2 36 zY s.1)]) N (QK, 0, JQ, JP) ⟨H, zBY⟩ (.cons rfl (.cons rfl (.cons rfl (.cons rfl (.cons rfl (.cons rfl (.cons rfl (.cons rfl .nil)))))))) (.cons rfl .nil) (fun _ _ h => zAQ (h.1)) ?_)))))))))))
 intro w Qe mL1 s hs
 obtain ⟨zR7, zF9, zNw, zNr⟩ := s
 obtain ⟨H, zT5⟩ := hs
 replace H : Jy N p1 p2 p3 p4 QK (mL1 + 1) zR7 zF9 = some r := H
 replace leB := leB.trans Qe
 replace zT5 : SlF zNw zR7.length zNr := zT5
 rw [Jy.eq_2] at H
 dsimp only
 refine Tr.sr (Tr.va rfl (fun _ _ a c => QE (a.ev rfl) (a.ev rfl)) (Tr.nil (Tr.zA (Tr.seq (Tr.cond rfl H (fun H => ?_) (fun H => ?_))))))
 ·refine Tr.skip (Tr.zA (Tr.seq (Tr.block (Tr.sr (Tr.mv rfl rfl ?_)))))
  obtain ⟨VI, za7, H⟩ := bnd H
  obtain ⟨zV9, zV8, hx1182⟩ := zx za7
  refine Tr.va rfl (fun _ _ a c => zK zCl (a.ev rfl) zT5 (a.ev rfl) zV9 zV8) (Tr.va rfl (fun _ _ a c => zX (cs := [iv VI.X0, iv VI.Y0, iv VI.X1, iv VI.Y1]) zBr VE (a.ev rfl) (zO.take (rdo WA (k := 2) c rfl hx1182) 4) rfl) (Tr.alloc 5 (wn rfl) rfl zF5 fun zY9 => (Tr.asg rfl rfl (Tr.store 5 (cs := [iv VI.X0, iv VI.Y0, iv VI.X1, iv VI.Y1]) [iv VI.X0, iv VI.Y0, iv VI.X1, iv VI.Y1] (wn rfl) rfl rfl rfl rfl VE rfl rfl rfl (Tr.nil (Tr.zA (Tr.region (Tr.mv rfl rfl (Tr.mv rfl rfl (Tr.va rfl (fun _ _ a c => zB zBG (a.ev rfl)) (Tr.va rfl (fun _ _ a c => zD QH (a.ev rfl) (rdb c (vs := [iv VI.X0, iv VI.Y0, iv VI.X1, iv VI.Y1]) (k := 5) rfl 0) rfl) (Tr.mv rfl rfl (Tr.va rfl (fun _ _ a c => zAt (a.ev rfl) (a.ev rfl)) (Tr.va rfl (fun _ _ a c => zB zDX (a.ev rfl)) (Tr.va rfl (fun _ _ a c => zD QH (a.ev rfl) (rdb c (vs := [iv VI.X0, iv VI.Y0, iv VI.X1, iv VI.Y1]) (k := 5) rfl 1) rfl) (Tr.mv rfl rfl (Tr.va rfl (fun _ _ a c => zAt (a.ev rfl) (a.ev rfl)) (Tr.va rfl (fun _ _ a c => zB zD9 (a.ev rfl)) (Tr.va rfl (fun _ _ a c => zD QH (a.ev rfl) (rdb c (vs := [iv VI.X0, iv VI.Y0, iv VI.X1, iv VI.Y1]) (k := 5) rfl 2) rfl) (Tr.mv rfl rfl (Tr.va rfl (fun _ _ a c => QA (a.ev rfl) (a.ev rfl)) (Tr.va rfl (fun _ _ a c => zB zEp (a.ev rfl)) (Tr.va rfl (fun _ _ a c => zD QH (a.ev rfl) (rdb c (vs := [iv VI.X0, iv VI.Y0, iv VI.X1, iv VI.Y1]) (k := 5) rfl 3) rfl) (Tr.mv rfl rfl (Tr.va rfl (fun _ _ a c => QA (a.ev rfl) (a.ev rfl)) (Tr.build (vs := [(0, iv (w64 (VI.X0 - p1))), (1, iv (w64 (VI.Y0 - p3))), (2, iv (w64 (VI.X1 + p2))), (3, iv (w64 (VI.Y1 + p4)))]) (cs := [iv (w64 (VI.X0 - p1)), iv (w64 (VI.Y0 - p3)), iv (w64 (VI.X1 + p2)), iv (w64 (VI.Y1 + p4))]) (wn rfl) rfl (zl rfl (zl rfl (zl rfl (zl rfl Qf)))) (by kernel_rfl) ?_))))))))))))))))))))))))))
  obtain ⟨zLN, za6, H⟩ := bnd H
  obtain ⟨hx1200, hx1201, hx1202⟩ := zx za6
  refine Tr.va rfl (fun _ _ a c => zK zCl (a.ev rfl) zT5 (a.ev rfl) hx1200 hx1201) ?_
  obtain ⟨zJC, zQw, H⟩ := bnd H
  have zSJ := zD5 zQw
  refine Tr.zEm 2 (t := zY) (l := zR7) (i := zF9) (fo := 0) (cs := [iv (w64 (VI.X0 - p1)), iv (w64 (VI.Y0 - p3)), iv (w64 (VI.X1 + p2)), iv (w64 (VI.Y1 + p4))]) (zQ.mk (w64 (VI.X0 - p1)) (w64 (VI.Y0 - p3)) (w64 (VI.X1 + p2)) (w64 (VI.Y1 + p4))) (wn rfl) rfl rfl rfl rfl rfl hx1202 VE rfl (fun u _ => ⟨u, trivial, rfl⟩) rfl zQw ?_
  have zir : SlF zNw zJC.length zNr := by rw [zSJ]; exact zT5
  exact Tr.sel (lf := [(1, iv p1), (2, iv p2), (3, iv p3), (4, iv p4), (11, sL zNw zJC zNr), (12, iv zF9), (13, pV zY9), (16, sL zNw zJC zNr), (17, iv (QK.length : Int)), (18, iv zF9), (19, bV (decide (zF9 < (QK.length : Int)))), (20, iv zF9), (22, .agg #[iv VI.X0, iv VI.Y0, iv VI.X1, iv VI.Y1]), (23, sL zNw zJC zNr), (24, iv zF9), (25, pV zY9), (26, iv VI.X0), (27, iv p1), (28, iv (w64 (VI.X0 - p1))), (29, .pointer (some ⟨zY9, 1, none⟩)), (30, iv VI.Y0), (31, iv p3), (32, iv (w64 (VI.Y0 - p3))), (33, .pointer (some ⟨zY9, 2, none⟩)), (34, iv VI.X1), (35, iv p2), (36, iv (w64 (VI.X1 + p2))), (37, .pointer (some ⟨zY9, 3, none⟩)), (38, iv VI.Y1), (39, iv p4), (40, iv (w64 (VI.Y1 + p4))), (41, .agg #[iv (w64 (VI.X0 - p1)), iv (w64 (VI.Y0 - p3)), iv (w64 (VI.X1 + p2)), iv (w64 (VI.Y1 + p4))])]) (le := [(2, ow zNw zNr 36 zY zJC), (5, bx zY9 #[iv VI.X0, iv VI.Y0, iv VI.X1, iv VI.Y1] 36)]) (.cons rfl (.cons rfl (.cons rfl (.cons rfl (.cons (KM rfl (by unfold sL; rw [zSJ])) (.cons rfl (.cons rfl (.cons (KM rfl (by unfold sL; rw [zSJ])) (.cons rfl (.cons rfl (.cons rfl (.cons rfl (.cons rfl (.cons (KM rfl (by unfold sL; rw [zSJ])) (.cons rfl (.cons rfl (.cons rfl (.cons rfl (.cons rfl (.cons rfl (.cons rfl (.cons rfl (.cons rfl (.cons rfl (.cons rfl (.cons rfl (.cons rfl (.cons rfl (.cons rfl (.cons rfl (.cons rfl (.cons rfl .nil)))))))))))))))))))))))))))))))) (.cons rfl (.cons rfl .nil)) (Tr.nil (Tr.zh (Tr.zA (Tr.region (Tr.va rfl (fun _ _ a c => QA (a.ev rfl) (a.ev rfl)) (Tr.mv rfl rfl (Tr.nil (Tr.zf Qe (zJC, (w64 (zF9 + 1)), zNw, zNr) ⟨H, zir⟩ (.cons rfl (.cons rfl (.cons rfl (.cons rfl (.cons rfl (.cons rfl (.cons rfl (.cons rfl .nil)))))))) (.cons rfl .nil)))))))))
 ·refine Tr.exit (Tr.zi (Tr.zi (Tr.QL (Tr.zA (Tr.sr (Tr.mv rfl rfl ?_))))))
  obtain ⟨WN, zTs, H⟩ := bnd H
  refine Tr.VW [6] [emp] (U := (Option Addr × Nat)) (fun u => (sL u.1 WN u.2)) (fun O W u => SlF u.1 WN.length u.2) (fun u => [ow u.1 u.2 107 zW WN]) rfl (zR rfl zk) (fun _ => rfl) (wn rfl) rfl Tryz.call59 (zI rfl zS) (fun W hW hp hE => zHk N zR7 zNw zNr (hW.slS (k := 2) rfl hp rfl) WN zTs hE) ?_
  intro w u zkH hu
  obtain ⟨Ky, Vd⟩ := u
  have gy122_0 := hu
  replace leB := leB.trans zkH
  have zJg : SlF Ky WN.length Vd := gy122_0 --@phi
  dsimp only
  refine Tr.asg rfl rfl (Tr.nil (Tr.zA (Tr.ret ?_)))
  obtain rfl := oI H
  exact Tr.out (m := [sL Ky WN Vd]) [] (zU rfl zT) (fun W hW => ⟨w, (Ky, Vd), leB, rfl, zJg, hW.pick (ks := [6]) (by decide) (zR rfl zk)⟩)

theorem zIz (N : Nat) {w : Bs} (p0 : (List ze)) (zF : Option Addr) (zG : Nat) (zP : Sl w.R w.W zW zF zG p0) (p1 : zJ) (p2 : zJ) (r : (List ze)) (H : zB5 N p0 p1 p2 = some r) (hE : HF w w.W (LEn [emp])) : Calls Tryz.prog 126 [sL zF p0 zG, .agg #[iv p1.X, iv p1.Y], .agg #[iv p2.X, iv p2.Y]].toArray w.W fun e W' => ∃ (w' : Bs) (u : (Option Addr × Nat)), w.Le w' ∧ e = .returned (sL u.1 r u.2) ∧ (SlF u.1 r.length u.2) ∧ HF w' W' (LEn [ow u.1 u.2 107 zW r]) := by
 unfold zB5 at H
 have leB := Bs.Le.refl w
 refine Tr.enter (n := 39) Tryz.func126 rfl rfl rfl hE (Tr.sr (Tr.box 1 (cs := [iv p1.X, iv p1.Y]) (wn rfl) rfl rfl rfl fun zt => (Tr.box 2 (cs := [iv p2.X, iv p2.Y]) (wn rfl) rfl rfl rfl fun Qg => (Tr.asg rfl rfl (Tr.JY 3 107 zW ?_)))))
 show Tr _ _ (uf _ 6 (sL none (([] : List ze)) 0)) _ _
 refine Tr.nil (Tr.zA (Tr.seq (Tr.draw (by kernel_rfl) (by kernel_rfl) (Tq.va rfl (fun _ _ a c => zB Kq (a.ev rfl)) (Tq.va rfl (fun _ _ a c => zD QH (a.ev rfl) (rdb c (vs := [iv p1.X, iv p1.Y]) (k := 1) rfl 0) rfl) (Tq.va rfl (fun _ _ a c => zB Kq (a.ev rfl)) (Tq.va rfl (fun _ _ a c => zD QH (a.ev rfl) (rdb c (vs := [iv p2.X, iv p2.Y]) (k := 2) rfl 0) rfl) (Tq.va rfl (fun _ _ a c => zGm (a.ev rfl) (a.ev rfl) _) (Tq.va rfl (fun _ _ a c => zB KY (a.ev rfl)) (Tq.va rfl (fun _ _ a c => zD QH (a.ev rfl) (rdb c (vs := [iv p1.X, iv p1.Y]) (k := 1) rfl 1) rfl) (Tq.va rfl (fun _ _ a c => zB KY (a.ev rfl)) (Tq.va rfl (fun _ _ a c => zD QH (a.ev rfl) (rdb c (vs := [iv p2.X, iv p2.Y]) (k := 2) rfl 1) rfl) (Tq.va rfl (fun _ _ a c => zGm (a.ev rfl) (a.ev rfl) _) (Tq.va rfl (fun _ _ a c => zB Kq (a.ev rfl)) (Tq.va rfl (fun _ _ a c => zD QH (a.ev rfl) (rdb c (vs := [iv p1.X, iv p1.Y]) (k := 1) rfl 0) rfl) (Tq.va rfl (fun _ _ a c => zB Kq (a.ev rfl)) (Tq.va rfl (fun _ _ a c => zD QH (a.ev rfl) (rdb c (vs := [iv p2.X, iv p2.Y]) (k := 2) rfl 0) rfl) (Tq.va rfl (fun _ _ a c => zGn (a.ev rfl) (a.ev rfl) _) (Tq.va rfl (fun _ _ a c => zB KY (a.ev rfl)) (Tq.va rfl (fun _ _ a c => zD QH (a.ev rfl) (rdb c (vs := [iv p1.X, iv p1.Y]) (k := 1) rfl 1) rfl) (Tq.va rfl (fun _ _ a c => zB KY (a.ev rfl)) (Tq.va rfl (fun _ _ a c => zD QH (a.ev rfl) (rdb c (vs := [iv p2.X, iv p2.Y]) (k := 2) rfl 1) rfl) (Tq.va rfl (fun _ _ a c => zGn (a.ev rfl) (a.ev rfl) _) (Tq.asg rfl rfl (Tq.asg rfl rfl (Tq.asg rfl rfl (Tq.asg rfl rfl (Tq.nil (Tr.zA (Tr.sr (Tr.mv rfl rfl (Tr.mv rfl rfl (Tr.va rfl (fun _ _ a c => zWl (a.ev rfl)) (Tr.mv rfl rfl (Tr.mv rfl rfl (Tr.va rfl (fun _ _ a c => zWl (a.ev rfl)) (Tr.mv rfl rfl ?_)))))))))))))))))))))))))))))))))))))
 obtain ⟨y102, hy102, H⟩ := bnd H
 refine Tr.VW [4] [emp] (U := (Option Addr × Nat)) (fun u => (sL u.1 y102 u.2)) (fun O W u => SlF u.1 y102.length u.2) (fun u => [ow u.1 u.2 107 zW y102]) rfl (zR rfl zk) (fun _ => rfl) (wn rfl) rfl Tryz.call156 (zI rfl (zI rfl (zI rfl (zI rfl (zI rfl zS))))) (fun W hW hp hE => zIX N p0 zF zG (zP.ext (hW.JH hp)) (w64 (0 - (min p1.X p2.X))) (max p1.X p2.X) (w64 (0 - (min p1.Y p2.Y))) (max p1.Y p2.Y) y102 hy102 hE) ?_
 intro w u zaS hu
 obtain ⟨zKT, zKR⟩ := u
 have gy102_0 := hu
 replace leB := leB.trans zaS
 have zUA : SlF zKT y102.length zKR := gy102_0 --@phi
 dsimp only
 refine Tr.asg rfl rfl (Tr.nil (Tr.zA (Tr.ret ?_)))
 obtain rfl := oI H
 exact Tr.out (m := [sL zKT y102 zKR]) [] (zU rfl zT) (fun W hW => ⟨w, (zKT, zKR), leB, rfl, zUA, hW.pick (ks := [4]) (by decide) (zR rfl zk)⟩)

theorem zIZ {w : Bs} (p0 : (List ze)) (zF : Option Addr) (zG : Nat) (zP : Sl w.R w.W zW zF zG p0) (r : zQ) (H : zAZ p0 = some r) (hE : HF w w.W E0) : Calls Tryz.prog 170 [sL zF p0 zG].toArray w.W fun e W' => e = .returned (.agg #[iv r.X0, iv r.Y0, iv r.X1, iv r.Y1]) ∧ HF w W' E0 := by
 unfold zAZ at H
 have leB := Bs.Le.refl w
 refine Tr.enter (n := 58) Tryz.func170 rfl rfl rfl hE (Tr.sr (Tr.alloc 1 (wn rfl) rfl zF5 fun zt => (Tr.nil (Tr.zA (Tr.seq ?_)))))
 obtain ⟨x102, hx102, H⟩ := bnd H
 obtain ⟨zWF, zWE, zWD⟩ := zx hx102
 obtain ⟨zfx, hRu103, zSG, hcu103⟩ := (zP).el zWD
 obtain ⟨zMZ, zSY⟩ := zfx
 obtain ⟨x104, hx104, H⟩ := bnd H
 obtain ⟨zPX, zPW, zPV⟩ := zx hx104
 obtain ⟨x105, za8, H⟩ := bnd H
 obtain ⟨zWC, zWB, zWA⟩ := zx za8
 obtain ⟨zfw, hRu106, zSF, hcu106⟩ := (zP).el zWA
 obtain ⟨zOe, zOQ⟩ := zfw
 obtain ⟨x107, zlt, H⟩ := bnd H
 obtain ⟨zie, zid, zic⟩ := zx zlt
 obtain ⟨zoF, hRu108, zdv, hcu108⟩ := (zP).el zic
 obtain ⟨zOd, zXt⟩ := zoF
 obtain ⟨zDD, zTx, H⟩ := bnd H
 obtain ⟨zPU, zPT, zPS⟩ := zx zTx
 obtain ⟨zDC, zls, H⟩ := bnd H
 obtain ⟨zib, zia, ziZ⟩ := zx zls
 obtain ⟨zoE, hRu111, zdu, hcu111⟩ := (zP).el ziZ
 obtain ⟨znp, znd⟩ := zoE
 refine Tr.zb9 25 [(24, .makeFunc (.func 0) #[] #[])] [(24, ⟨3, 2, .func (.func 0) #[] #[], fun b => pV b, fun b => bx b #[iv 0, iv 0, iv 0, iv 0] 36⟩)] [(0, sL zF p0 zG), (2, pV zt), (3, .func (.func 0) #[] #[]), (6, sL zF p0 zG), (7, .pointer (some ⟨adB zF, adO zF + ((0 : Int)).toNat * 3, none⟩)), (8, .pointer (some ⟨adB zF, adO zF + ((0 : Int)).toNat * 3 + 2, none⟩)), (9, sL zMZ x102.Xs zSY), (10, .pointer (some ⟨adB zMZ, adO zMZ + ((0 : Int)).toNat * 1, none⟩)), (11, iv x104), (12, sL zF p0 zG), (13, .pointer (some ⟨adB zF, adO zF + ((0 : Int)).toNat * 3, none⟩)), (14, .pointer (some ⟨adB zF, adO zF + ((0 : Int)).toNat * 3 + 0, none⟩)), (15, iv x105.Y0), (16, sL zF p0 zG), (17, .pointer (some ⟨adB zF, adO zF + ((0 : Int)).toNat * 3, none⟩)), (18, .pointer (some ⟨adB zF, adO zF + ((0 : Int)).toNat * 3 + 2, none⟩)), (19, sL zOd x107.Xs zXt), (20, .pointer (some ⟨adB zOd, adO zOd + ((1 : Int)).toNat * 1, none⟩)), (21, iv zDD), (22, sL zF p0 zG), (23, sL zF p0 zG), (24, iv (p0.length : Int)), (25, iv (w64 ((p0.length : Int) - 1))), (26, .pointer (some ⟨adB zF, adO zF + ((w64 ((p0.length : Int) - 1))).toNat * 3, none⟩)), (27, .pointer (some ⟨adB zF, adO zF + ((w64 ((p0.length : Int) - 1))).toNat * 3 + 1, none⟩)), (28, iv zDC.Y1), (29, .agg #[iv x104, iv x105.Y0, iv zDD, iv zDC.Y1])] (by kernel_rfl) (by kernel_rfl) (by kernel_rfl) (by kernel_rfl) (by kernel_rfl) (by kernel_rfl) (by kernel_rfl) (zC4 (zUI rfl rfl zF5) zEB) (zC4 rfl zEB) (zC4 rfl zEB) ?_ ?_
 ·refine Tq.mv rfl rfl ?_
  have zHW := zSG
  replace zHW : Sl w.R w.W QO zMZ zSY x102.Xs := zHW
  refine Tq.va rfl (fun _ _ a c => zK zDB (a.ev rfl) zP.form (a.ev rfl) zWF zWE) (Tq.va rfl (fun _ _ a c => zB zBb (a.ev rfl)) (Tq.va rfl (fun _ _ a c => zD zDP (a.ev rfl) (zO.drop (rdR hRu103 hcu103 c) 2) rfl) (Tq.va rfl (fun _ _ a c => zK zA3 (a.ev rfl) zHW.form (a.ev rfl) zPX zPW) (Tq.va rfl (fun _ _ a c => zD QH (a.ev rfl) (rdF We zHW zPV c) rfl) (Tq.mv rfl rfl ?_)))))
  have zKL := zSF
  refine Tq.va rfl (fun _ _ a c => zK zDB (a.ev rfl) zP.form (a.ev rfl) zWC zWB) (Tq.va rfl (fun _ _ a c => zB zFE (a.ev rfl)) (Tq.va rfl (fun _ _ a c => zD QH (a.ev rfl) (zO.drop (rdR hRu106 hcu106 c) 0) rfl) (Tq.mv rfl rfl ?_)))
  have zKJ := zdv
  replace zKJ : Sl w.R w.W QO zOd zXt x107.Xs := zKJ
  refine Tq.va rfl (fun _ _ a c => zK zDB (a.ev rfl) zP.form (a.ev rfl) zie zid) (Tq.va rfl (fun _ _ a c => zB zBb (a.ev rfl)) (Tq.va rfl (fun _ _ a c => zD zDP (a.ev rfl) (zO.drop (rdR hRu108 hcu108 c) 2) rfl) (Tq.va rfl (fun _ _ a c => zK zA3 (a.ev rfl) zKJ.form (a.ev rfl) zPU zPT) (Tq.va rfl (fun _ _ a c => zD QH (a.ev rfl) (rdF We zKJ zPS c) rfl) (Tq.mv rfl rfl (Tq.mv rfl rfl (Tq.va rfl (fun _ _ a c => zy zFa (a.ev rfl)) (Tq.va rfl (fun _ _ a c => zAt (a.ev rfl) (a.ev rfl)) ?_))))))))
  have zjQ := zdu
  exact Tq.va rfl (fun _ _ a c => zK zDB (a.ev rfl) zP.form (a.ev rfl) zib zia) (Tq.va rfl (fun _ _ a c => zB zCk (a.ev rfl)) (Tq.va rfl (fun _ _ a c => zD QH (a.ev rfl) (zO.drop (rdR hRu111 hcu111 c) 1) rfl) (Tq.build (vs := [(0, iv x104), (1, iv x105.Y0), (2, iv zDD), (3, iv zDC.Y1)]) (cs := [iv x104, iv x105.Y0, iv zDD, iv zDC.Y1]) (wn rfl) rfl (zl rfl (zl rfl (zl rfl (zl rfl Qf)))) (by kernel_rfl) (Tq.zHD (vs := []) (wn rfl) rfl zS (Tq.fin (.cons rfl (.cons rfl (.cons rfl (.cons rfl (.cons rfl (.cons rfl (.cons rfl (.cons rfl (.cons rfl (.cons rfl (.cons rfl (.cons rfl (.cons rfl (.cons rfl (.cons rfl (.cons rfl (.cons rfl (.cons rfl (.cons rfl (.cons rfl (.cons rfl (.cons rfl (.cons rfl (.cons rfl (.cons rfl (.cons rfl (.cons rfl .nil))))))))))))))))))))))))))))))))
 ·intro bs101
  refine Tr.sel (lf := [(0, sL zF p0 zG), (2, pV zt), (3, .pointer (some ⟨(bs101 24), 0, none⟩)), (29, .agg #[iv x104, iv x105.Y0, iv zDD, iv zDC.Y1])]) (le := [(1, bx zt #[iv 0, iv 0, iv 0, iv 0] 36), (2, bx (bs101 24) #[iv 0, iv 0, iv 0, iv 0] 36)]) (.cons rfl (.cons rfl (.cons rfl (.cons rfl .nil)))) (.cons rfl (.cons rfl .nil)) (Tr.store 2 (cs := [iv x104, iv x105.Y0, iv zDD, iv zDC.Y1]) [iv x104, iv x105.Y0, iv zDD, iv zDC.Y1] (wn rfl) rfl rfl rfl rfl VE rfl rfl rfl (Tr.nil (Tr.zA (Tr.seq (Tr.sr (Tr.mv rfl rfl (Tr.va rfl (fun _ _ a c => zy zFa (a.ev rfl)) (Tr.mv rfl rfl (Tr.nil (Tr.zA (Tr.block (Tr.loop (σ := (List ze) × Nat × Int × Int) (fun m w s => m = s.1.length + 1 ∧ s.1 = List.drop s.2.1 p0 ∧ s.2.1 ≤ p0.length ∧ KA x105 zDC s.1 s.2.1 s.2.2.1 s.2.2.2 = some r) (fun s => [(2, pV zt), (3, .pointer (some ⟨(bs101 24), 0, none⟩)), (30, sL zF p0 zG), (31, iv (p0.length : Int)), (32, iv (s.2.1 : Int))]) (fun s => [(1, bx zt #[iv 0, iv 0, iv 0, iv 0] 36), (2, bx (bs101 24) #[iv s.2.2.1, iv x105.Y0, iv s.2.2.2, iv zDC.Y1] 36)]) (p0.length + 1) (p0, 0, x104, zDD) ⟨rfl, rfl, Nat.zero_le _, H⟩ (.cons rfl (.cons rfl (.cons rfl (.cons rfl (.cons rfl .nil))))) (.cons rfl (.cons rfl .nil)) (fun _ _ h => absurd h.1 (by simp)) ?_))))))))))))
  intro w Qe m s hs
  obtain ⟨zV, iL1, zq, zHv⟩ := s
  obtain ⟨KS, QG, hiL1, H⟩ := hs
  replace QG : zV = List.drop iL1 p0 := QG
  replace H : KA x105 zDC zV iL1 zq zHv = some r := H
  replace KS : m + 1 = zV.length + 1 := KS
  replace zP := zP.leR Qe
  replace leB := leB.trans Qe
  obtain rfl : m = zV.length := by omega
  clear KS
  dsimp only
  cases zV with
  | nil =>
   rw [KA.eq_1] at H
   refine Tr.sr (Tr.va rfl (fun _ _ a c => QE (a.ev rfl) (a.ev rfl)) (Tr.nil (Tr.zA (Tr.seq (Tr.WY rfl (JB QG) (Tr.exit (Tr.zi (Tr.zi (Tr.QL (Tr.zA (Tr.sr (Tr.va rfl (fun _ _ a c => zX (cs := [iv zq, iv x105.Y0, iv zHv, iv zDC.Y1]) zBr VE (a.ev rfl) (zO.take (rdb c (vs := [iv zq, iv x105.Y0, iv zHv, iv zDC.Y1]) (k := 2) rfl 0) 4) rfl) (Tr.store 1 (cs := [iv zq, iv x105.Y0, iv zHv, iv zDC.Y1]) [iv zq, iv x105.Y0, iv zHv, iv zDC.Y1] (wn rfl) rfl rfl rfl rfl VE rfl rfl rfl (Tr.nil (Tr.zA (Tr.ret ?_))))))))))))))))
   obtain rfl := oI H
   exact Tr.out (m := [.agg #[iv zq, iv x105.Y0, iv zHv, iv zDC.Y1]]) [1] (WR rfl rfl zBr VE zT) (fun W hW => ⟨rfl, hW.low leB⟩)
  | cons xL1 zV =>
   rw [KA.eq_2] at H
   refine Tr.sr (Tr.va rfl (fun _ _ a c => QE (a.ev rfl) (a.ev rfl)) (Tr.nil (Tr.zA (Tr.seq (Tr.WX rfl (JX QG) (Tr.skip (Tr.zA (Tr.seq (Tr.block (Tr.sr ?_))))))))))
   obtain ⟨zn9, hRu135, zdo, hcu135⟩ := (zP).el (Js QG)
   obtain ⟨zCZ, zDZ⟩ := zn9
   have zF2 := zdo
   replace zF2 : Sl w.R w.W QO zCZ zDZ xL1.Xs := zF2
   refine Tr.va rfl (fun _ _ a c => zK zDB (a.ev rfl) zP.form (a.ev rfl) (Int.natCast_nonneg _) (QC QG)) (Tr.va rfl (fun _ _ a c => zX (cs := [iv xL1.Y0, iv xL1.Y1, sL zCZ xL1.Xs zDZ]) zSi zJN (a.ev rfl) (zO.take (rdR hRu135 hcu135 c) 3) rfl) (Tr.alloc 5 (wn rfl) rfl zUw fun zeS => (Tr.store 5 (cs := [iv xL1.Y0, iv xL1.Y1, sL zCZ xL1.Xs zDZ]) [iv xL1.Y0, iv xL1.Y1, sL zCZ xL1.Xs zDZ] (wn rfl) rfl rfl rfl rfl zJN rfl rfl rfl (Tr.nil (Tr.zA (Tr.zPp 20 [(19, fun x => x = (bs101 24))] [] (by kernel_rfl) (by kernel_rfl) fun zZj zl1 znO => (Dr.quiet 0 [(36, .pointer (some ⟨(bs101 24), 0, none⟩))] (by kernel_rfl) rfl rfl (by kernel_rfl) ?_ rfl rfl ?_)))))))
   ·exact Tq.va rfl (fun _ _ a c => zB zBG (a.ev rfl)) (Tq.fin (.cons rfl .nil))
   refine Dr.quiet 1 [(37, iv zq)] (by kernel_rfl) rfl rfl (by kernel_rfl) ?_ rfl rfl ?_
   ·exact Tq.va rfl (fun _ _ a c => zD QH (a.ev rfl) (rdb c (vs := [iv zq, iv x105.Y0, iv zHv, iv zDC.Y1]) (k := 2) rfl 0) rfl) (Tq.fin (.cons rfl .nil))
   refine Dr.quiet 2 [(38, .pointer (some ⟨zeS, 2, none⟩))] (by kernel_rfl) rfl rfl (by kernel_rfl) ?_ rfl rfl ?_
   ·exact Tq.va rfl (fun _ _ a c => zB zBb (a.ev rfl)) (Tq.fin (.cons rfl .nil))
   refine Dr.quiet 3 [(39, sL zCZ xL1.Xs zDZ)] (by kernel_rfl) rfl rfl (by kernel_rfl) ?_ rfl rfl ?_
   ·exact Tq.va rfl (fun _ _ a c => zD zDP (a.ev rfl) (rdb c (vs := [iv xL1.Y0, iv xL1.Y1, sL zCZ xL1.Xs zDZ]) (k := 5) rfl 2) rfl) (Tq.fin (.cons rfl .nil))
   obtain ⟨zHN, zlk, H⟩ := bnd H
   obtain ⟨ziG, ziF, ziE⟩ := zx zlk
   refine Dr.quiet 4 [(40, .pointer (some ⟨adB zCZ, adO zCZ + ((0 : Int)).toNat * 1, none⟩))] (by kernel_rfl) rfl rfl (by kernel_rfl) ?_ rfl rfl ?_
   ·exact Tq.va rfl (fun _ _ a c => zK zA3 (a.ev rfl) zF2.form (a.ev rfl) ziG ziF) (Tq.fin (.cons rfl .nil))
   refine Dr.quiet 5 [(41, iv zHN)] (by kernel_rfl) rfl rfl (by kernel_rfl) ?_ rfl rfl ?_
   ·exact Tq.va rfl (fun _ _ a c => zD QH (a.ev rfl) (rdF We zF2 ziE c) rfl) (Tq.fin (.cons rfl .nil))
   refine Dr.quiet 6 [(42, iv (min zq zHN))] (by kernel_rfl) rfl rfl (by kernel_rfl) ?_ rfl rfl ?_
   ·exact Tq.va rfl (fun _ _ a c => zGm (a.ev rfl) (a.ev rfl) _) (Tq.fin (.cons rfl .nil))
   refine Dr.quiet 7 [(43, .pointer (some ⟨(bs101 24), 2, none⟩))] (by kernel_rfl) rfl rfl (by kernel_rfl) ?_ rfl rfl ?_
   ·exact Tq.va rfl (fun _ _ a c => zB zD9 (a.ev rfl)) (Tq.fin (.cons rfl .nil))
   refine Dr.quiet 8 [(44, iv zHv)] (by kernel_rfl) rfl rfl (by kernel_rfl) ?_ rfl rfl ?_
   ·exact Tq.va rfl (fun _ _ a c => zD QH (a.ev rfl) (rdb c (vs := [iv zq, iv x105.Y0, iv zHv, iv zDC.Y1]) (k := 2) rfl 2) rfl) (Tq.fin (.cons rfl .nil))
   refine Dr.zCg 9 (by kernel_rfl) rfl (wn rfl) rfl (by kernel_rfl) (fun _ _ a => zB zBb (a.ev rfl)) rfl (Dr.zFU 10 [(46, sL zCZ xL1.Xs zDZ)] [19] false (by kernel_rfl) rfl rfl (by kernel_rfl) (fun W W' c hsW hk => HF.zJa (le := [(5, bx zeS #[iv xL1.Y0, iv xL1.Y1, sL zCZ xL1.Xs zDZ] 107)]) (ks := [(2, fun x => x = (bs101 24))]) (s0 := zZj) false c hk (fun h => absurd h (by decide)) (.cons rfl .nil) (fun b hb => hb.elim (fun ⟨p, hp, hf, hb⟩ => by simp only [List.mem_cons, List.not_mem_nil, or_false] at hp; rcases hp with rfl; exact .inl ⟨_, List.mem_cons_self, hb⟩) (fun hb => absurd hb.1 (by decide))) (List.forall_mem_cons.2 ⟨fun b hb => hb, (fun _ h => nomatch h)⟩) rfl) ?_ rfl rfl ?_)
   ·exact Tq.va rfl (fun _ _ a c => zD zDP (a.ev rfl) (rdb c (vs := [iv xL1.Y0, iv xL1.Y1, sL zCZ xL1.Xs zDZ]) (k := 5) rfl 2) rfl) (Tq.fin (.cons rfl .nil))
   refine Dr.zCg 11 (by kernel_rfl) rfl (wn rfl) rfl (by kernel_rfl) (fun _ _ a => zB zBb (a.ev rfl)) rfl (Dr.zFU 12 [(48, sL zCZ xL1.Xs zDZ)] [19] false (by kernel_rfl) rfl rfl (by kernel_rfl) (fun W W' c hsW hk => HF.zJa (le := [(5, bx zeS #[iv xL1.Y0, iv xL1.Y1, sL zCZ xL1.Xs zDZ] 107)]) (ks := [(2, fun x => x = (bs101 24))]) (s0 := zZj) false c hk (fun h => absurd h (by decide)) (.cons rfl .nil) (fun b hb => hb.elim (fun ⟨p, hp, hf, hb⟩ => by simp only [List.mem_cons, List.not_mem_nil, or_false] at hp; rcases hp with rfl; exact .inl ⟨_, List.mem_cons_self, hb⟩) (fun hb => absurd hb.1 (by decide))) (List.forall_mem_cons.2 ⟨fun b hb => hb, (fun _ h => nomatch h)⟩) rfl) ?_ rfl rfl ?_)
   ·exact Tq.va rfl (fun _ _ a c => zD zDP (a.ev rfl) (rdb c (vs := [iv xL1.Y0, iv xL1.Y1, sL zCZ xL1.Xs zDZ]) (k := 5) rfl 2) rfl) (Tq.fin (.cons rfl .nil))
   refine Dr.zCg 13 (by kernel_rfl) rfl (wn rfl) rfl (by kernel_rfl) (fun _ _ a => zy zCc (a.ev rfl)) rfl (Dr.zCg 14 (by kernel_rfl) rfl (wn rfl) rfl (by kernel_rfl) (fun _ _ a => zAt (a.ev rfl) (a.ev rfl)) rfl ?_)
   obtain ⟨zJA, za4, H⟩ := bnd H
   obtain ⟨zV4, zV3, zV2⟩ := zx za4
   refine Dr.zCg 15 (by kernel_rfl) rfl (wn rfl) rfl (by kernel_rfl) (fun _ _ a => zK zA3 (a.ev rfl) zF2.form (a.ev rfl) zV4 zV3) rfl (Dr.zFU 16 [(52, iv zJA)] [19] false (by kernel_rfl) rfl rfl (by kernel_rfl) (fun W W' c hsW hk => HF.zJa (le := []) (ks := [(2, fun x => x = (bs101 24))]) (s0 := zZj) false c hk (fun h => absurd h (by decide)) .nil (fun b hb => hb.elim (fun ⟨p, hp, hf, hb⟩ => by simp only [List.mem_cons, List.not_mem_nil, or_false] at hp; rcases hp with rfl; exact .inl ⟨_, List.mem_cons_self, hb⟩) (fun hb => absurd hb.1 (by decide))) (List.forall_mem_cons.2 ⟨fun b hb => hb, (fun _ h => nomatch h)⟩) rfl) ?_ rfl rfl ?_)
   ·exact Tq.va rfl (fun _ _ a c => zD QH (a.ev rfl) (rdF We zF2 zV2 c) rfl) (Tq.fin (.cons rfl .nil))
   refine Dr.zCg 17 (by kernel_rfl) rfl (wn rfl) rfl (by kernel_rfl) (fun _ _ a => zGn (a.ev rfl) (a.ev rfl) _) rfl (Dr.quiet 18 [(54, .pointer (some ⟨(bs101 24), 0, none⟩))] (by kernel_rfl) rfl rfl (by kernel_rfl) ?_ rfl rfl ?_)
   ·exact Tq.va rfl (fun _ _ a c => zB zBG (a.ev rfl)) (Tq.fin (.cons rfl .nil))
   exact Dr.one 19 (by kernel_rfl) (St.store 19 2 (cs := [iv (min zq zHN)]) [iv (min zq zHN), iv x105.Y0, iv zHv, iv zDC.Y1] rfl (wn rfl) (.inl ⟨_, List.mem_cons_self, rfl, rfl⟩) rfl rfl rfl rfl zJB rfl rfl rfl (Dr.tail (by kernel_rfl) (Tr.va rfl (fun _ _ a c => zB zD9 (a.ev rfl)) (Tr.store 2 (cs := [iv (max zHv zJA)]) [iv (min zq zHN), iv x105.Y0, iv (max zHv zJA), iv zDC.Y1] (wn rfl) rfl rfl rfl rfl zJB rfl rfl rfl (Tr.nil (Tr.zh (Tr.zA (Tr.region (Tr.va rfl (fun _ _ a c => QA (a.ev rfl) (a.ev rfl)) (Tr.mv rfl rfl (Tr.nil (Tr.zf Qe (zV, (iL1 + 1), (min zq zHN), (max zHv zJA)) ⟨rfl, Ql QG, QC QG, H⟩ (.cons rfl (.cons rfl (.cons rfl (.cons rfl (.cons (congrArg (fun z => some (Value.int .i64 z)) (Qk QG zP.form)) .nil))))) (.cons rfl (.cons rfl .nil))))))))))))))

theorem zMM {w : Bs} (p0 : zQ) (r : Bool) (H : zCq p0 = some r) (hE : HF w w.W E0) : Calls Tryz.prog 108 [.agg #[iv p0.X0, iv p0.Y0, iv p0.X1, iv p0.Y1]].toArray w.W fun e W' => e = .returned (bV r) ∧ HF w W' E0 := by
 unfold zCq at H
 have leB := Bs.Le.refl w
 refine Tr.enter (n := 21) Tryz.func108 rfl rfl rfl hE (Tr.sr (Tr.box 1 (cs := [iv p0.X0, iv p0.Y0, iv p0.X1, iv p0.Y1]) (wn rfl) rfl rfl rfl fun zt => (Tr.asg rfl rfl (Tr.nil (Tr.zA (Tr.sr (Tr.va rfl (fun _ _ a c => zB zBG (a.ev rfl)) (Tr.va rfl (fun _ _ a c => zD QH (a.ev rfl) (rdb c (vs := [iv p0.X0, iv p0.Y0, iv p0.X1, iv p0.Y1]) (k := 1) rfl 0) rfl) ?_))))))))
 obtain ⟨y101, hy101, H⟩ := bnd H
 refine Tr.Qs (r := (bV y101)) (wn rfl) rfl Tryz.call129 (zI rfl zS) (fun W hW => zBA p0.X0 y101 hy101 (HF.start _)) (Tr.mv rfl rfl ?_)
 obtain ⟨zGi, zBa, H⟩ := bnd H
 refine Tr.VJ 4 [(1, pV zt), (10, bV zGi)] [(1, bx zt #[iv p0.X0, iv p0.Y0, iv p0.X1, iv p0.Y1] 36)] ?_ ?_
 ·cases zNk : y101
  ·rw [zNk] at zBa
   rw [if_neg (by decide)] at zBa
   have H := zBa
   obtain rfl := oI H
   exact Tr.pass rfl rfl rfl rfl rfl (by decide) (Tr.pass rfl rfl rfl rfl rfl (by decide) (Tr.pass rfl rfl rfl rfl rfl (by decide) (Tr.va rfl (fun _ _ a c => zo (a.ev rfl) (a.ev rfl)) (Tr.nil (Tr.Qi (.cons rfl (.cons rfl .nil)) (.cons rfl .nil))))))
  ·rw [zNk] at zBa
   rw [if_pos rfl] at zBa
   have H := zBa
   refine Tr.val (wg rfl rfl rfl) rfl (fun _ _ a c => zB zDX (a.ev rfl)) (Tr.val (wg rfl rfl rfl) rfl (fun _ _ a c => zD QH (a.ev rfl) (rdb c (vs := [iv p0.X0, iv p0.Y0, iv p0.X1, iv p0.Y1]) (k := 1) rfl 1) rfl) ?_)
   obtain ⟨y104, hy104, H⟩ := bnd H
   refine Tr.Qs (r := (bV y104)) (wg rfl rfl rfl) rfl Tryz.call129 (zI rfl zS) (fun W hW => zBA p0.Y0 y104 hy104 (HF.start _)) (Tr.va rfl (fun _ _ a c => zn (a.ev rfl) (a.ev rfl)) ?_)
   obtain rfl := oI H
   exact Tr.nil (Tr.Qi (.cons rfl (.cons rfl .nil)) (.cons rfl .nil))
 ·show Tr _ _ (LF [(1, pV zt), (10, bV zGi)]) (LE [(1, bx zt #[iv p0.X0, iv p0.Y0, iv p0.X1, iv p0.Y1] 36)]) _
  refine Tr.mv rfl rfl ?_
  obtain ⟨zbx, zGL, H⟩ := bnd H
  refine Tr.VJ 4 [(1, pV zt), (15, bV zbx)] [(1, bx zt #[iv p0.X0, iv p0.Y0, iv p0.X1, iv p0.Y1] 36)] ?_ ?_
  ·cases zNk : zGi
   ·rw [zNk] at zGL
    rw [if_neg (by decide)] at zGL
    have H := zGL
    obtain rfl := oI H
    exact Tr.pass rfl rfl rfl rfl rfl (by decide) (Tr.pass rfl rfl rfl rfl rfl (by decide) (Tr.pass rfl rfl rfl rfl rfl (by decide) (Tr.va rfl (fun _ _ a c => zo (a.ev rfl) (a.ev rfl)) (Tr.nil (Tr.Qi (.cons rfl (.cons rfl .nil)) (.cons rfl .nil))))))
   ·rw [zNk] at zGL
    rw [if_pos rfl] at zGL
    have H := zGL
    refine Tr.val (wg rfl rfl rfl) rfl (fun _ _ a c => zB zD9 (a.ev rfl)) (Tr.val (wg rfl rfl rfl) rfl (fun _ _ a c => zD QH (a.ev rfl) (rdb c (vs := [iv p0.X0, iv p0.Y0, iv p0.X1, iv p0.Y1]) (k := 1) rfl 2) rfl) ?_)
    obtain ⟨zI9, zTw, H⟩ := bnd H
    refine Tr.Qs (r := (bV zI9)) (wg rfl rfl rfl) rfl Tryz.call129 (zI rfl zS) (fun W hW => zBA p0.X1 zI9 zTw (HF.start _)) (Tr.va rfl (fun _ _ a c => zn (a.ev rfl) (a.ev rfl)) ?_)
    obtain rfl := oI H
    exact Tr.nil (Tr.Qi (.cons rfl (.cons rfl .nil)) (.cons rfl .nil))
  ·show Tr _ _ (LF [(1, pV zt), (15, bV zbx)]) (LE [(1, bx zt #[iv p0.X0, iv p0.Y0, iv p0.X1, iv p0.Y1] 36)]) _
   refine Tr.mv rfl rfl ?_
   obtain ⟨zQW, zFf, H⟩ := bnd H
   refine Tr.VJ 4 [(20, bV zQW)] [(1, bx zt #[iv p0.X0, iv p0.Y0, iv p0.X1, iv p0.Y1] 36)] ?_ ?_
   ·cases zNk : zbx
    ·rw [zNk] at zFf
     rw [if_neg (by decide)] at zFf
     have H := zFf
     obtain rfl := oI H
     exact Tr.pass rfl rfl rfl rfl rfl (by decide) (Tr.pass rfl rfl rfl rfl rfl (by decide) (Tr.pass rfl rfl rfl rfl rfl (by decide) (Tr.va rfl (fun _ _ a c => zo (a.ev rfl) (a.ev rfl)) (Tr.nil (Tr.Qi (.cons rfl .nil) (.cons rfl .nil))))))
    ·rw [zNk] at zFf
     rw [if_pos rfl] at zFf
     have H := zFf
     refine Tr.val (wg rfl rfl rfl) rfl (fun _ _ a c => zB zEp (a.ev rfl)) (Tr.val (wg rfl rfl rfl) rfl (fun _ _ a c => zD QH (a.ev rfl) (rdb c (vs := [iv p0.X0, iv p0.Y0, iv p0.X1, iv p0.Y1]) (k := 1) rfl 3) rfl) ?_)
     obtain ⟨zDI, zLo, H⟩ := bnd H
     refine Tr.Qs (r := (bV zDI)) (wg rfl rfl rfl) rfl Tryz.call129 (zI rfl zS) (fun W hW => zBA p0.Y1 zDI zLo (HF.start _)) (Tr.va rfl (fun _ _ a c => zn (a.ev rfl) (a.ev rfl)) ?_)
     obtain rfl := oI H
     exact Tr.nil (Tr.Qi (.cons rfl .nil) (.cons rfl .nil))
   ·show Tr _ _ (LF [(20, bV zQW)]) (LE [(1, bx zt #[iv p0.X0, iv p0.Y0, iv p0.X1, iv p0.Y1] 36)]) _
    refine Tr.asg rfl rfl (Tr.nil (Tr.zA (Tr.ret ?_)))
    obtain rfl := oI H
    exact Tr.out (m := [bV zQW]) [] (zU rfl zT) (fun W hW => ⟨rfl, hW.low leB⟩)

theorem zJy {w : Bs} (p0 : (List ze)) (zF : Option Addr) (zG : Nat) (zP : Sl w.R w.W zW zF zG p0) (r : Bool) (H : zBM p0 = some r) (hE : HF w w.W E0) : Calls Tryz.prog 154 [sL zF p0 zG].toArray w.W fun e W' => e = .returned (bV r) ∧ HF w W' E0 := by
 unfold zBM at H
 have leB := Bs.Le.refl w
 refine Tr.enter (n := 11) Tryz.func154 rfl rfl rfl hE (Tr.sr (Tr.asg rfl rfl (Tr.nil (Tr.zA (Tr.sr (Tr.mv rfl rfl (Tr.va rfl (fun _ _ a c => zy zFa (a.ev rfl)) (Tr.va rfl (fun _ _ a c => Qa (a.ev rfl) (a.ev rfl)) (Tr.mv rfl rfl ?_)))))))))
 obtain ⟨zQX, zHb, H⟩ := bnd H
 refine Tr.VJ 4 [(10, bV zQX)] [] ?_ ?_
 ·cases zGM : ((p0.length : Int) == 0)
  ·rw [zGM] at zHb
   rw [if_neg (by decide)] at zHb
   have H := zHb
   refine Tr.val (wg rfl rfl rfl) rfl (fun _ _ a c => run_move (a.ev rfl)) ?_
   obtain ⟨zm, zCi, H⟩ := bnd H
   refine Tr.Qs (r := (.agg #[iv zm.X0, iv zm.Y0, iv zm.X1, iv zm.Y1])) (wg rfl rfl rfl) rfl Tryz.call170 (zI rfl zS) (fun W hW => zIZ p0 zF zG (zP.ext hW.Qd) zm zCi (HF.start _)) ?_
   obtain ⟨y104, hy104, H⟩ := bnd H
   refine Tr.Qs (r := (bV y104)) (wg rfl rfl rfl) rfl Tryz.call108 (zI rfl zS) (fun W hW => zMM zm y104 hy104 (HF.start _)) (Tr.va rfl (fun _ _ a c => zo (a.ev rfl) (a.ev rfl)) ?_)
   obtain rfl := oI H
   exact Tr.nil (Tr.Qi (.cons rfl .nil) .nil)
  ·rw [zGM] at zHb
   rw [if_pos rfl] at zHb
   have H := zHb
   obtain rfl := oI H
   exact Tr.pass rfl rfl rfl rfl rfl (by decide) (Tr.pass rfl rfl rfl rfl rfl (by decide) (Tr.pass rfl rfl rfl rfl rfl (by decide) (Tr.va rfl (fun _ _ a c => zn (a.ev rfl) (a.ev rfl)) (Tr.nil (Tr.Qi (.cons rfl .nil) .nil)))))
 ·show Tr _ _ (LF [(10, bV zQX)]) (LE []) _
  refine Tr.asg rfl rfl (Tr.nil (Tr.zA (Tr.ret ?_)))
  obtain rfl := oI H
  exact Tr.out (m := [bV zQX]) [] (zU rfl zT) (fun W hW => ⟨rfl, hW.low leB⟩)

theorem zGV {w : Bs} (p0 : (List ze)) (zF : Option Addr) (zG : Nat) (zP : Sl w.O w.W zW zF zG p0) (p1 : Int) (p2 : Int) (r : ((List Int) × Int)) (H : zA6 p0 p1 p2 = some r) (hE : HF w w.W (LEn [])) : Calls Tryz.prog 90 [sL zF p0 zG, iv p1, iv p2].toArray w.W fun e W' => ∃ (w' : Bs) (u : (Option Addr × Nat)), w.Le w' ∧ e = .returned (.tuple #[sL u.1 r.1 u.2, iv r.2]) ∧ (Sl w'.O w'.W QO u.1 u.2 r.1) ∧ HF w' W' (LEn []) := by
 unfold zA6 at H
 have leB := Bs.Le.refl w
 refine Tr.enter (n := 36) Tryz.func90 rfl rfl rfl hE (Tr.sr (Tr.asg rfl rfl (Tr.JY 1 3 QO ?_)))
 show Tr _ _ (uf _ 6 (sL none (([] : List Int)) 0)) _ _
 refine Tr.asg rfl rfl (Tr.nil (Tr.zA (Tr.seq (Tr.block (Tr.sr (Tr.mv rfl rfl (Tr.va rfl (fun _ _ a c => zy zFa (a.ev rfl)) (Tr.va rfl (fun _ _ a c => Qa (a.ev rfl) (a.ev rfl)) (Tr.asg rfl rfl (Tr.nil (Tr.zA (Tr.cond rfl H (fun H => ?_) (fun H => ?_)))))))))))))
 ·refine Tr.sr (Tr.mv rfl rfl (Tr.asg rfl rfl (Tr.JY 2 3 QO ?_)))
  show Tr _ _ (uf _ 6 (sL none (([] : List Int)) 0)) _ _
  refine Tr.asg rfl rfl (Tr.nil (Tr.zA (Tr.ret (Tr.QI (Tr.zg ?_)))))
  obtain rfl := oI H
  refine Tr.freeze 2 rfl fun w zER zkQ => ?_
  replace leB := leB.trans zER
  exact Tr.out (m := [sL none (([] : List Int)) 0, iv p2]) [] (zU rfl (zU rfl zT)) (fun W hW => ⟨w, (none, 0), leB, rfl, zkQ, hW.pick (ks := []) (by decide) zk⟩)
 ·refine Tr.sr (Tr.mv rfl rfl (Tr.mv rfl rfl ?_))
  obtain ⟨x102, hx102, H⟩ := bnd H
  obtain ⟨zWF, zWE, zWD⟩ := zx hx102
  obtain ⟨zfx, hRu103, zSG, hcu103⟩ := (zP).el zWD
  obtain ⟨zMZ, zSY⟩ := zfx
  have zHW := zSG
  replace hRu103 : w.R (adB zF) := Or.inl hRu103
  refine Tr.va rfl (fun _ _ a c => zK zDB (a.ev rfl) zP.form (a.ev rfl) zWF zWE) (Tr.va rfl (fun _ _ a c => zB zFE (a.ev rfl)) (Tr.va rfl (fun _ _ a c => zD QH (a.ev rfl) (zO.drop (rdR hRu103 hcu103 c) 0) rfl) (Tr.va rfl (fun _ _ a c => QE (a.ev rfl) (a.ev rfl)) (Tr.asg rfl rfl (Tr.nil (Tr.zA (Tr.cond rfl H (fun H => ?_) (fun H => ?_))))))))
  ·refine Tr.seq (Tr.draw (by kernel_rfl) (by kernel_rfl) (Tq.mv rfl rfl (Tq.mv rfl rfl ?_)))
   obtain ⟨x104, hx104, H⟩ := bnd H
   obtain ⟨zPX, zPW, zPV⟩ := zx hx104
   obtain ⟨u105, hRu105, zLq, hcu105⟩ := (zP).el zPV
   obtain ⟨zE4, zEw⟩ := u105
   have zHV := zLq
   replace hRu105 : w.R (adB zF) := Or.inl hRu105
   refine Tq.va rfl (fun _ _ a c => zK zDB (a.ev rfl) zP.form (a.ev rfl) zPX zPW) (Tq.va rfl (fun _ _ a c => zB zFE (a.ev rfl)) (Tq.va rfl (fun _ _ a c => zD QH (a.ev rfl) (zO.drop (rdR hRu105 hcu105 c) 0) rfl) (Tq.va rfl (fun _ _ a c => zGm (a.ev rfl) (a.ev rfl) _) (Tq.asg rfl rfl (Tq.asg rfl rfl (Tq.nil (Tr.zA (Tr.ret (Tr.QI (Tr.zg ?_))))))))))
   obtain rfl := oI H
   exact Tr.out (m := [.slice none 0 0, iv (min p2 x104.Y0)]) [] (zU rfl (zU rfl zT)) (fun W hW => ⟨w, (none, 0), leB, rfl, (Sl.nil _ _ _), hW.pick (ks := []) (by decide) zk⟩)
  ·refine Tr.skip (Tr.zh (Tr.zA (Tr.seq (Tr.draw (by kernel_rfl) (by kernel_rfl) (Tq.mv rfl rfl ?_)))))
   obtain ⟨zcz, zlu, H⟩ := bnd H
   obtain ⟨zii, zih, zif⟩ := zx zlu
   obtain ⟨zfv, hRu107, zSE, hcu107⟩ := (zP).el zif
   obtain ⟨zDe, zDa⟩ := zfv
   have zEg := zSE
   replace zEg : Sl w.O w.W QO zDe zDa zcz.Xs := zEg
   replace hRu107 : w.R (adB zF) := Or.inl hRu107
   refine Tq.va rfl (fun _ _ a c => zK zDB (a.ev rfl) zP.form (a.ev rfl) zii zih) (Tq.va rfl (fun _ _ a c => zB zBb (a.ev rfl)) (Tq.va rfl (fun _ _ a c => zD zDP (a.ev rfl) (zO.drop (rdR hRu107 hcu107 c) 2) rfl) (Tq.mv rfl rfl (Tq.mv rfl rfl ?_))))
   obtain ⟨zBu, zLp, H⟩ := bnd H
   obtain ⟨zIC, zIB, zIA⟩ := zx zLp
   obtain ⟨zfu, hRu109, zSD, hcu109⟩ := (zP).el zIA
   obtain ⟨zSs, zSW⟩ := zfu
   have zKI := zSD
   replace hRu109 : w.R (adB zF) := Or.inl hRu109
   refine Tq.va rfl (fun _ _ a c => zK zDB (a.ev rfl) zP.form (a.ev rfl) zIC zIB) (Tq.va rfl (fun _ _ a c => zB zCk (a.ev rfl)) (Tq.va rfl (fun _ _ a c => zD QH (a.ev rfl) (zO.drop (rdR hRu109 hcu109 c) 1) rfl) (Tq.va rfl (fun _ _ a c => zGm (a.ev rfl) (a.ev rfl) _) (Tq.asg rfl rfl (Tq.asg rfl rfl (Tq.nil (Tr.zA (Tr.ret ?_))))))))
   obtain rfl := oI H
   exact Tr.out (m := [sL zDe zcz.Xs zDa, iv (min p2 zBu.Y1)]) [] (zU rfl (zU rfl zT)) (fun W hW => ⟨w, (zDe, zDa), leB, rfl, zEg, hW.pick (ks := []) (by decide) zk⟩)

theorem zN4 (N : Nat) {w : Bs} (p0 : (List Int)) (zF : Option Addr) (zG : Nat) (zP : Sl w.R w.W QO zF zG p0) (p1 : (List Int)) (za : Option Addr) (zb : Nat) (Qc : Sl w.R w.W QO za zb p1) (p2 : Bool → Bool → Option Bool) (fid2 : Nat) (cap2 : List Value) (hg2 : ∀ args W, (callFunc fid2 args).run Tryz.prog W = .ok (.enter fid2 args) W) (hf2 : ∀ (w' : Bs), w.Ext w' → ∀ (z0 : Bool) (z1 : Bool), ∀ y, p2 z0 z1 = some y → Calls Tryz.prog fid2 (([bV z0, bV z1] : List Value) ++ cap2).toArray w'.W fun e W'' => e = .returned (bV y) ∧ HF w' W'' E0) (r : (List Int)) (H : zEH N p0 p1 p2 = some r) (hE : HF w w.W (LEn [emp])) : Calls Tryz.prog 91 [sL zF p0 zG, sL za p1 zb, .func (.func fid2) #[] cap2.toArray].toArray w.W fun e W' => ∃ u : (Option Addr × Nat), e = .returned (sL u.1 r u.2) ∧ (SlF u.1 r.length u.2) ∧ HF w W' (LEn [ow u.1 u.2 3 QO r]) := by
 unfold zEH at H
 have leB := Bs.Le.refl w
 refine Tr.enter (n := 85) Tryz.func91 rfl rfl rfl hE (Tr.sr (Tr.asg rfl rfl (Tr.JY 1 3 QO ?_)))
 show Tr _ _ (uf _ 6 (sL none (([] : List Int)) 0)) _ _
 refine Tr.nil (Tr.zA (Tr.sr (Tr.asg rfl rfl (Tr.JY 2 3 QO ?_))))
 show Tr _ _ (uf _ 7 (sL none (([] : List Int)) 0)) _ _
 refine Tr.nil (Tr.zA (Tr.sr (Tr.asg rfl rfl (Tr.asg rfl rfl (Tr.asg rfl rfl (Tr.nil (Tr.zA (Tr.seq (Tr.block (Tr.loop (σ := (List Int) × (List Int) × (List Int) × Bool × Bool × Bool × (Option Addr) × Nat × (Option Addr) × Nat × (Option Addr) × Nat) (fun m w s => Qt p2 m s.1 s.2.1 s.2.2.1 s.2.2.2.1 s.2.2.2.2.1 s.2.2.2.2.2.1 = some r ∧ Sl w.R w.W QO s.2.2.2.2.2.2.1 s.2.2.2.2.2.2.2.1 s.1 ∧ Sl w.R w.W QO s.2.2.2.2.2.2.2.2.1 s.2.2.2.2.2.2.2.2.2.1 s.2.1 ∧ SlF s.2.2.2.2.2.2.2.2.2.2.1 s.2.2.1.length s.2.2.2.2.2.2.2.2.2.2.2) (fun s => [(0, sL s.2.2.2.2.2.2.1 s.1 s.2.2.2.2.2.2.2.1), (1, sL s.2.2.2.2.2.2.2.2.1 s.2.1 s.2.2.2.2.2.2.2.2.2.1), (2, .func (.func fid2) #[] cap2.toArray), (7, sL s.2.2.2.2.2.2.2.2.2.2.1 s.2.2.1 s.2.2.2.2.2.2.2.2.2.2.2), (8, bV s.2.2.2.1), (9, bV s.2.2.2.2.1), (10, bV s.2.2.2.2.2.1)]) (fun s => [(2, ow s.2.2.2.2.2.2.2.2.2.2.1 s.2.2.2.2.2.2.2.2.2.2.2 3 QO s.2.2.1)]) N (p0, p1, ([] : List Int), false, false, false, zF, zG, za, zb, none, 0) ⟨H, zP, Qc, VR⟩ (.cons rfl (.cons rfl (.cons rfl (.cons rfl (.cons rfl (.cons rfl (.cons rfl .nil))))))) (.cons rfl .nil) (fun _ _ h => zAQ (h.1)) ?_))))))))))
 intro w zK3 mL7 s hs
 obtain ⟨zAR, zBD, zA1, zHu, zEa, zDJ, zCv, zCW, zFS, zEU, zBt, zBq⟩ := s
 obtain ⟨H, zFB, zFe, zXH⟩ := hs
 replace H : Qt p2 (mL7 + 1) zAR zBD zA1 zHu zEa zDJ = some r := H
 replace hf2 := fun w' he => hf2 w' (zK3.ext.trans he)
 replace leB := leB.trans zK3
 replace zFB : Sl w.R w.W QO zCv zCW zAR := zFB
 replace zFe : Sl w.R w.W QO zFS zEU zBD := zFe
 replace zXH : SlF zBt zA1.length zBq := zXH
 rw [Qt.eq_2] at H
 dsimp only
 refine Tr.seq (Tr.sr (Tr.mv rfl rfl (Tr.va rfl (fun _ _ a c => zy zCc (a.ev rfl)) (Tr.va rfl (fun _ _ a c => WO (a.ev rfl) (a.ev rfl)) (Tr.mv rfl rfl (Tr.VJ 4 [(0, sL zCv zAR zCW), (1, sL zFS zBD zEU), (2, .func (.func fid2) #[] cap2.toArray), (7, sL zBt zA1 zBq), (8, bV zHu), (9, bV zEa), (10, bV zDJ), (20, bV ((decide (0 < (zAR.length : Int))) || (decide (0 < (zBD.length : Int)))))] [(2, ow zBt zBq 3 QO zA1)] ?_ ?_))))))
 ·cases zbo : (decide (0 < (zAR.length : Int)))
  ·exact Tr.val (wg rfl rfl rfl) rfl (fun _ _ a c => run_move (a.ev rfl)) (Tr.val (wg rfl rfl rfl) rfl (fun _ _ a c => zy zCc (a.ev rfl)) (Tr.val (wg rfl rfl rfl) rfl (fun _ _ a c => WO (a.ev rfl) (a.ev rfl)) (Tr.va rfl (fun _ _ a c => zo (a.ev rfl) (a.ev rfl)) (Tr.nil (Tr.Qi (.cons rfl (.cons rfl (.cons rfl (.cons rfl (.cons rfl (.cons rfl (.cons rfl (.cons rfl .nil)))))))) (.cons rfl .nil))))))
  ·exact Tr.pass rfl rfl rfl rfl rfl (by decide) (Tr.pass rfl rfl rfl rfl rfl (by decide) (Tr.pass rfl rfl rfl rfl rfl (by decide) (Tr.va rfl (fun _ _ a c => zn (a.ev rfl) (a.ev rfl)) (Tr.nil (Tr.Qi (.cons rfl (.cons rfl (.cons rfl (.cons rfl (.cons rfl (.cons rfl (.cons rfl (.cons rfl .nil)))))))) (.cons rfl .nil))))))
 ·show Tr _ _ (LF [(0, sL zCv zAR zCW), (1, sL zFS zBD zEU), (2, .func (.func fid2) #[] cap2.toArray), (7, sL zBt zA1 zBq), (8, bV zHu), (9, bV zEa), (10, bV zDJ), (20, bV ((decide (0 < (zAR.length : Int))) || (decide (0 < (zBD.length : Int)))))]) (LE [(2, ow zBt zBq 3 QO zA1)]) _
  refine Tr.nil (Tr.zA (Tr.cond rfl H (fun H => ?_) (fun H => ?_)))
  ·refine Tr.skip (Tr.zA (Tr.block (Tr.sr (Tr.asg rfl rfl (Tr.nil (Tr.zA ?_))))))
   have leJ250 := Bs.Le.refl w
   refine Tr.zJD (σ := Int) (fun w s => VT p2 zAR zBD zA1 zHu zEa zDJ (Qt p2 mL7) s = some r) (fun s => [(0, sL zCv zAR zCW), (1, sL zFS zBD zEU), (2, .func (.func fid2) #[] cap2.toArray), (7, sL zBt zA1 zBq), (8, bV zHu), (9, bV zEa), (10, bV zDJ), (11, iv s)]) (fun s => [(2, ow zBt zBq 3 QO zA1)]) ?_ ?_
   ·refine Tr.seq (Tr.draw (by kernel_rfl) (by kernel_rfl) (Tq.mv rfl rfl (Tq.va rfl (fun _ _ a c => zy zCc (a.ev rfl)) (Tq.va rfl (fun _ _ a c => Qa (a.ev rfl) (a.ev rfl)) (Tq.mv rfl rfl ?_)))))
    obtain ⟨ziw, zQ4, H⟩ := bnd H
    refine Tq.mid 13 [(0, sL zCv zAR zCW), (1, sL zFS zBD zEU), (2, .func (.func fid2) #[] cap2.toArray), (7, sL zBt zA1 zBq), (8, bV zHu), (9, bV zEa), (10, bV zDJ), (37, bV ziw)] ?_ ?_
    ·cases zbo : ((zBD.length : Int) == 0)
     ·rw [zbo] at zQ4
      rw [if_neg (by decide)] at zQ4
      have H := zQ4
      refine Tq.val (wg rfl rfl rfl) rfl (fun _ _ a c => run_move (a.ev rfl)) (Tq.val (wg rfl rfl rfl) rfl (fun _ _ a c => zy zCc (a.ev rfl)) (Tq.val (wg rfl rfl rfl) rfl (fun _ _ a c => WO (a.ev rfl) (a.ev rfl)) (Tq.val (wg rfl rfl rfl) rfl (fun _ _ a c => run_move (a.ev rfl)) ?_)))
      obtain ⟨ziv, zQ3, H⟩ := bnd H
      refine Tq.mid 8 [(0, sL zCv zAR zCW), (1, sL zFS zBD zEU), (2, .func (.func fid2) #[] cap2.toArray), (7, sL zBt zA1 zBq), (8, bV zHu), (9, bV zEa), (10, bV zDJ), (24, bV false), (36, bV ziv)] ?_ ?_
      ·cases zfJ : (decide (0 < (zAR.length : Int)))
       ·rw [zfJ] at zQ3
        rw [if_neg (by decide)] at zQ3
        have H := zQ3
        obtain rfl := oI H
        exact Tq.pass rfl rfl rfl rfl rfl (by decide) (Tq.pass rfl rfl rfl rfl rfl (by decide) (Tq.pass rfl rfl rfl rfl rfl (by decide) (Tq.pass rfl rfl rfl rfl rfl (by decide) (Tq.pass rfl rfl rfl rfl rfl (by decide) (Tq.pass rfl rfl rfl rfl rfl (by decide) (Tq.pass rfl rfl rfl rfl rfl (by decide) (Tq.val (wg rfl rfl rfl) rfl (fun _ _ a c => zo (a.ev rfl) (a.ev rfl)) (Tq.fin (.cons rfl (.cons rfl (.cons rfl (.cons rfl (.cons rfl (.cons rfl (.cons rfl (.cons rfl (.cons rfl .nil)))))))))))))))))
       ·rw [zfJ] at zQ3
        rw [if_pos rfl] at zQ3
        have H := zQ3
        refine Tq.val (wg rfl rfl rfl) rfl (fun _ _ a c => run_move (a.ev rfl)) ?_
        obtain ⟨zYd, zlS, H⟩ := bnd H
        obtain ⟨zhG, zhF, zhE⟩ := zx zlS
        refine Tq.val (wg rfl rfl rfl) rfl (fun _ _ a c => zK zA3 (a.ev rfl) zFB.form (a.ev rfl) zhG zhF) (Tq.val (wg rfl rfl rfl) rfl (fun _ _ a c => zD QH (a.ev rfl) (rdF We zFB zhE c) rfl) (Tq.val (wg rfl rfl rfl) rfl (fun _ _ a c => run_move (a.ev rfl)) ?_))
        obtain ⟨zYc, zlR, H⟩ := bnd H
        obtain ⟨zhD, zhC, zhB⟩ := zx zlR
        refine Tq.val (wg rfl rfl rfl) rfl (fun _ _ a c => zK zA3 (a.ev rfl) zFe.form (a.ev rfl) zhD zhC) (Tq.val (wg rfl rfl rfl) rfl (fun _ _ a c => zD QH (a.ev rfl) (rdF We zFe zhB c) rfl) (Tq.val (wg rfl rfl rfl) rfl (fun _ _ a c => zBR (a.ev rfl) (a.ev rfl)) (Tq.val (wg rfl rfl rfl) rfl (fun _ _ a c => zn (a.ev rfl) (a.ev rfl)) ?_)))
        obtain rfl := oI H
        exact Tq.fin (.cons rfl (.cons rfl (.cons rfl (.cons rfl (.cons rfl (.cons rfl (.cons rfl (.cons rfl (.cons rfl .nil)))))))))
      ·refine Tq.va rfl (fun _ _ a c => zo (a.ev rfl) (a.ev rfl)) ?_
       obtain rfl := oI H
       exact Tq.fin (.cons rfl (.cons rfl (.cons rfl (.cons rfl (.cons rfl (.cons rfl (.cons rfl (.cons rfl .nil))))))))
     ·rw [zbo] at zQ4
      rw [if_pos rfl] at zQ4
      have H := zQ4
      obtain rfl := oI H
      exact Tq.pass rfl rfl rfl rfl rfl (by decide) (Tq.pass rfl rfl rfl rfl rfl (by decide) (Tq.pass rfl rfl rfl rfl rfl (by decide) (Tq.pass rfl rfl rfl rfl rfl (by decide) (Tq.Wi rfl rfl rfl rfl (by decide) (Tq.Wi rfl rfl rfl rfl (by decide) (Tq.Wi rfl rfl rfl rfl (by decide) (Tq.Wi rfl rfl rfl rfl (by decide) (Tq.Wi rfl rfl rfl rfl (by decide) (Tq.Wi rfl rfl rfl rfl (by decide) (Tq.Wi rfl rfl rfl rfl (by decide) (Tq.pass rfl rfl rfl rfl rfl (by decide) (Tq.va rfl (fun _ _ a c => zn (a.ev rfl) (a.ev rfl)) (Tq.fin (.cons rfl (.cons rfl (.cons rfl (.cons rfl (.cons rfl (.cons rfl (.cons rfl (.cons rfl .nil)))))))))))))))))))))
    ·refine Tq.nil (Tr.zA (Tr.cond rfl H (fun H => ?_) (fun H => ?_)))
     ·refine Tr.region (Tr.mv rfl rfl ?_)
      obtain ⟨zU2, zlQ, H⟩ := bnd H
      obtain ⟨zhA, zg9, zg8⟩ := zx zlQ
      exact Tr.va rfl (fun _ _ a c => zK zA3 (a.ev rfl) zFB.form (a.ev rfl) zhA zg9) (Tr.va rfl (fun _ _ a c => zD QH (a.ev rfl) (rdF We zFB zg8 c) rfl) (Tr.asg rfl rfl (Tr.nil (Tr.zf leJ250 zU2 H (.cons rfl (.cons rfl (.cons rfl (.cons rfl (.cons rfl (.cons rfl (.cons rfl (.cons rfl .nil)))))))) (.cons rfl .nil)))))
     ·refine Tr.region (Tr.mv rfl rfl ?_)
      obtain ⟨zU1, zlP, H⟩ := bnd H
      obtain ⟨zg7, zg6, zg5⟩ := zx zlP
      exact Tr.va rfl (fun _ _ a c => zK zA3 (a.ev rfl) zFe.form (a.ev rfl) zg7 zg6) (Tr.va rfl (fun _ _ a c => zD QH (a.ev rfl) (rdF We zFe zg5 c) rfl) (Tr.asg rfl rfl (Tr.nil (Tr.zf leJ250 zU1 H (.cons rfl (.cons rfl (.cons rfl (.cons rfl (.cons rfl (.cons rfl (.cons rfl (.cons rfl .nil)))))))) (.cons rfl .nil)))))
   ·intro w zEZ hlJ251 hs
    have H := hs
    replace H : VT p2 zAR zBD zA1 zHu zEa zDJ (Qt p2 mL7) zEZ = some r := H
    replace zFB := zFB.leR hlJ251
    replace zFe := zFe.leR hlJ251
    replace hf2 := fun w' he => hf2 w' (hlJ251.ext.trans he)
    replace zK3 := zK3.trans hlJ251
    unfold VT at H
    show Tr _ _ (LF [(0, sL zCv zAR zCW), (1, sL zFS zBD zEU), (2, .func (.func fid2) #[] cap2.toArray), (7, sL zBt zA1 zBq), (8, bV zHu), (9, bV zEa), (10, bV zDJ), (11, iv zEZ)]) (LE [(2, ow zBt zBq 3 QO zA1)]) _
    have leJ258 := Bs.Le.refl w
    refine Tr.zJD (σ := (List Int) × Bool × (Option Addr) × Nat) (fun w s => Vr p2 zBD zA1 zEa zDJ (Qt p2 mL7) zEZ s.1 s.2.1 = some r ∧ Sl w.R w.W QO s.2.2.1 s.2.2.2 s.1) (fun s => [(0, sL s.2.2.1 s.1 s.2.2.2), (1, sL zFS zBD zEU), (2, .func (.func fid2) #[] cap2.toArray), (7, sL zBt zA1 zBq), (8, bV s.2.1), (9, bV zEa), (10, bV zDJ), (11, iv zEZ)]) (fun s => [(2, ow zBt zBq 3 QO zA1)]) ?_ ?_
    ·refine Tr.sr (Tr.mv rfl rfl (Tr.va rfl (fun _ _ a c => zy zCc (a.ev rfl)) (Tr.va rfl (fun _ _ a c => WO (a.ev rfl) (a.ev rfl)) (Tr.mv rfl rfl ?_))))
     obtain ⟨zd0, zLv, H⟩ := bnd H
     refine Tr.VJ 6 [(0, sL zCv zAR zCW), (1, sL zFS zBD zEU), (2, .func (.func fid2) #[] cap2.toArray), (7, sL zBt zA1 zBq), (8, bV zHu), (9, bV zEa), (10, bV zDJ), (11, iv zEZ), (53, bV zd0)] [(2, ow zBt zBq 3 QO zA1)] ?_ ?_
     ·cases zfK : (decide (0 < (zAR.length : Int)))
      ·rw [zfK] at zLv
       rw [if_neg (by decide)] at zLv
       have H := zLv
       obtain rfl := oI H
       exact Tr.pass rfl rfl rfl rfl rfl (by decide) (Tr.pass rfl rfl rfl rfl rfl (by decide) (Tr.pass rfl rfl rfl rfl rfl (by decide) (Tr.pass rfl rfl rfl rfl rfl (by decide) (Tr.pass rfl rfl rfl rfl rfl (by decide) (Tr.va rfl (fun _ _ a c => zo (a.ev rfl) (a.ev rfl)) (Tr.nil (Tr.Qi (.cons rfl (.cons rfl (.cons rfl (.cons rfl (.cons rfl (.cons rfl (.cons rfl (.cons rfl (.cons rfl .nil))))))))) (.cons rfl .nil))))))))
      ·rw [zfK] at zLv
       rw [if_pos rfl] at zLv
       have H := zLv
       refine Tr.val (wg rfl rfl rfl) rfl (fun _ _ a c => run_move (a.ev rfl)) ?_
       obtain ⟨zjd, zlT, H⟩ := bnd H
       obtain ⟨zhJ, zhI, zhH⟩ := zx zlT
       refine Tr.val (wg rfl rfl rfl) rfl (fun _ _ a c => zK zA3 (a.ev rfl) zFB.form (a.ev rfl) zhJ zhI) (Tr.val (wg rfl rfl rfl) rfl (fun _ _ a c => zD QH (a.ev rfl) (rdF We zFB zhH c) rfl) (Tr.val (wg rfl rfl rfl) rfl (fun _ _ a c => run_move (a.ev rfl)) (Tr.val (wg rfl rfl rfl) rfl (fun _ _ a c => Qa (a.ev rfl) (a.ev rfl)) (Tr.va rfl (fun _ _ a c => zn (a.ev rfl) (a.ev rfl)) ?_))))
       obtain rfl := oI H
       exact Tr.nil (Tr.Qi (.cons rfl (.cons rfl (.cons rfl (.cons rfl (.cons rfl (.cons rfl (.cons rfl (.cons rfl (.cons rfl .nil))))))))) (.cons rfl .nil))
     ·show Tr _ _ (LF [(0, sL zCv zAR zCW), (1, sL zFS zBD zEU), (2, .func (.func fid2) #[] cap2.toArray), (7, sL zBt zA1 zBq), (8, bV zHu), (9, bV zEa), (10, bV zDJ), (11, iv zEZ), (53, bV zd0)]) (LE [(2, ow zBt zBq 3 QO zA1)]) _
      refine Tr.nil (Tr.zA (Tr.cond rfl H (fun H => ?_) (fun H => ?_)))
      ·refine Tr.region (Tr.mv rfl rfl ?_)
       obtain ⟨zgL, zfC, H⟩ := bnd H
       exact Tr.va rfl (fun _ _ a c => zGD zA3 (a.ev rfl) zFB.form (a.ev rfl) zfC) (Tr.mv rfl rfl (Tr.va rfl (fun _ _ a c => KI (a.ev rfl)) (Tr.asg rfl rfl (Tr.asg rfl rfl (Tr.nil (Tr.zf leJ258 (zgL, (!zHu), (zDh zCv (1 : Int).toNat 1 zCW), (zCW - (1 : Int).toNat)) ⟨H, (Sl.cut zFB zfC)⟩ (.cons rfl (.cons rfl (.cons rfl (.cons rfl (.cons rfl (.cons rfl (.cons rfl (.cons rfl .nil)))))))) (.cons rfl .nil)))))))
      ·exact Tr.skip (Tr.zf leJ258 (zAR, zHu, zCv, zCW) ⟨H, zFB⟩ (.cons rfl (.cons rfl (.cons rfl (.cons rfl (.cons rfl (.cons rfl (.cons rfl (.cons rfl .nil)))))))) (.cons rfl .nil))
    ·intro w s hlJ259 hs
     obtain ⟨zK4, zKV, zRh, zRW⟩ := s
     obtain ⟨H, zQu⟩ := hs
     replace H : Vr p2 zBD zA1 zEa zDJ (Qt p2 mL7) zEZ zK4 zKV = some r := H
     replace zFe := zFe.leR hlJ259
     replace hf2 := fun w' he => hf2 w' (hlJ259.ext.trans he)
     replace zK3 := zK3.trans hlJ259
     replace zQu : Sl w.R w.W QO zRh zRW zK4 := zQu
     unfold Vr at H
     dsimp only
     have leJ266 := Bs.Le.refl w
     refine Tr.zJD (σ := (List Int) × Bool × (Option Addr) × Nat) (fun w s => zAT p2 zA1 zDJ (Qt p2 mL7) zEZ zK4 zKV s.1 s.2.1 = some r ∧ Sl w.R w.W QO s.2.2.1 s.2.2.2 s.1) (fun s => [(0, sL zRh zK4 zRW), (1, sL s.2.2.1 s.1 s.2.2.2), (2, .func (.func fid2) #[] cap2.toArray), (7, sL zBt zA1 zBq), (8, bV zKV), (9, bV s.2.1), (10, bV zDJ), (11, iv zEZ)]) (fun s => [(2, ow zBt zBq 3 QO zA1)]) ?_ ?_
     ·refine Tr.sr (Tr.mv rfl rfl (Tr.va rfl (fun _ _ a c => zy zCc (a.ev rfl)) (Tr.va rfl (fun _ _ a c => WO (a.ev rfl) (a.ev rfl)) (Tr.mv rfl rfl ?_))))
      obtain ⟨zd1, zQ5, H⟩ := bnd H
      refine Tr.VJ 6 [(0, sL zRh zK4 zRW), (1, sL zFS zBD zEU), (2, .func (.func fid2) #[] cap2.toArray), (7, sL zBt zA1 zBq), (8, bV zKV), (9, bV zEa), (10, bV zDJ), (11, iv zEZ), (67, bV zd1)] [(2, ow zBt zBq 3 QO zA1)] ?_ ?_
      ·cases zfL : (decide (0 < (zBD.length : Int)))
       ·rw [zfL] at zQ5
        rw [if_neg (by decide)] at zQ5
        have H := zQ5
        obtain rfl := oI H
        exact Tr.pass rfl rfl rfl rfl rfl (by decide) (Tr.pass rfl rfl rfl rfl rfl (by decide) (Tr.pass rfl rfl rfl rfl rfl (by decide) (Tr.pass rfl rfl rfl rfl rfl (by decide) (Tr.pass rfl rfl rfl rfl rfl (by decide) (Tr.va rfl (fun _ _ a c => zo (a.ev rfl) (a.ev rfl)) (Tr.nil (Tr.Qi (.cons rfl (.cons rfl (.cons rfl (.cons rfl (.cons rfl (.cons rfl (.cons rfl (.cons rfl (.cons rfl .nil))))))))) (.cons rfl .nil))))))))
       ·rw [zfL] at zQ5
        rw [if_pos rfl] at zQ5
        have H := zQ5
        refine Tr.val (wg rfl rfl rfl) rfl (fun _ _ a c => run_move (a.ev rfl)) ?_
        obtain ⟨zje, zlU, H⟩ := bnd H
        obtain ⟨zhM, zhL, zhK⟩ := zx zlU
        refine Tr.val (wg rfl rfl rfl) rfl (fun _ _ a c => zK zA3 (a.ev rfl) zFe.form (a.ev rfl) zhM zhL) (Tr.val (wg rfl rfl rfl) rfl (fun _ _ a c => zD QH (a.ev rfl) (rdF We zFe zhK c) rfl) (Tr.val (wg rfl rfl rfl) rfl (fun _ _ a c => run_move (a.ev rfl)) (Tr.val (wg rfl rfl rfl) rfl (fun _ _ a c => Qa (a.ev rfl) (a.ev rfl)) (Tr.va rfl (fun _ _ a c => zn (a.ev rfl) (a.ev rfl)) ?_))))
        obtain rfl := oI H
        exact Tr.nil (Tr.Qi (.cons rfl (.cons rfl (.cons rfl (.cons rfl (.cons rfl (.cons rfl (.cons rfl (.cons rfl (.cons rfl .nil))))))))) (.cons rfl .nil))
      ·show Tr _ _ (LF [(0, sL zRh zK4 zRW), (1, sL zFS zBD zEU), (2, .func (.func fid2) #[] cap2.toArray), (7, sL zBt zA1 zBq), (8, bV zKV), (9, bV zEa), (10, bV zDJ), (11, iv zEZ), (67, bV zd1)]) (LE [(2, ow zBt zBq 3 QO zA1)]) _
       refine Tr.nil (Tr.zA (Tr.cond rfl H (fun H => ?_) (fun H => ?_)))
       ·refine Tr.region (Tr.mv rfl rfl ?_)
        obtain ⟨zgM, zfD, H⟩ := bnd H
        exact Tr.va rfl (fun _ _ a c => zGD zA3 (a.ev rfl) zFe.form (a.ev rfl) zfD) (Tr.mv rfl rfl (Tr.va rfl (fun _ _ a c => KI (a.ev rfl)) (Tr.asg rfl rfl (Tr.asg rfl rfl (Tr.nil (Tr.zf leJ266 (zgM, (!zEa), (zDh zFS (1 : Int).toNat 1 zEU), (zEU - (1 : Int).toNat)) ⟨H, (Sl.cut zFe zfD)⟩ (.cons rfl (.cons rfl (.cons rfl (.cons rfl (.cons rfl (.cons rfl (.cons rfl (.cons rfl .nil)))))))) (.cons rfl .nil)))))))
       ·exact Tr.skip (Tr.zf leJ266 (zBD, zEa, zFS, zEU) ⟨H, zFe⟩ (.cons rfl (.cons rfl (.cons rfl (.cons rfl (.cons rfl (.cons rfl (.cons rfl (.cons rfl .nil)))))))) (.cons rfl .nil))
     ·intro w s hlJ267 hs
      obtain ⟨zVZ, zS3, zck, zcG⟩ := s
      obtain ⟨H, zXG⟩ := hs
      replace H : zAT p2 zA1 zDJ (Qt p2 mL7) zEZ zK4 zKV zVZ zS3 = some r := H
      replace zQu := zQu.leR hlJ267
      replace hf2 := fun w' he => hf2 w' (hlJ267.ext.trans he)
      replace zK3 := zK3.trans hlJ267
      replace zXG : Sl w.R w.W QO zck zcG zVZ := zXG
      unfold zAT at H
      dsimp only
      refine Tr.sr (Tr.mv rfl rfl (Tr.mv rfl rfl (Tr.mv rfl rfl ?_)))
      obtain ⟨zZO, zkh, H⟩ := bnd H
      refine Tr.zEV (r := (bV zZO)) (wn rfl) rfl rfl hg2 (zI rfl (zI rfl zS)) (fun W hW => hf2 hW.all hW.Qd zKV zS3 _ zkh) (Tr.asg rfl rfl (Tr.nil (Tr.zA (Tr.sr (Tr.mv rfl rfl (Tr.mv rfl rfl (Tr.va rfl (fun _ _ a c => zZs zji (a.ev rfl) (a.ev rfl)) (Tr.nil (Tr.zA (Tr.cond rfl H (fun H => ?_) (fun H => ?_)))))))))))
      ·refine Tr.region (Tr.mv rfl rfl (Tr.mv rfl rfl (Tr.buildSlice 5 (e := 3) (vs := [(0, iv zEZ)]) (cs := [iv zEZ]) (wn rfl) rfl (zl rfl Qf) (by kernel_rfl) fun zow => ?_)))
       obtain ⟨zgN, zmB, H⟩ := bnd H
       exact Tr.append 2 (t := QO) (l := zA1) (l2 := [zEZ]) (wn rfl) rfl rfl rfl rfl (fun W hW => ⟨[[iv zEZ]], (.cons ⟨(), trivial, rfl⟩ .nil), rdb hW (vs := [iv zEZ]) (k := 5) rfl 0⟩) zCc zJB zZK (by decide) zcL rfl zmB fun znF zmv hAl270 => (Tr.mv rfl rfl (Tr.asg rfl rfl (Tr.asg rfl rfl (Tr.nil (Tr.zh (Tr.zf zK3 (zK4, zVZ, zgN, zKV, zS3, zZO, zRh, zRW, zck, zcG, znF, zmv) ⟨H, zQu, zXG, hAl270⟩ (.cons rfl (.cons rfl (.cons rfl (.cons rfl (.cons rfl (.cons rfl (.cons rfl .nil))))))) (.cons rfl .nil)))))))
      ·exact Tr.skip (Tr.zh (Tr.zf zK3 (zK4, zVZ, zA1, zKV, zS3, zDJ, zRh, zRW, zck, zcG, zBt, zBq) ⟨H, zQu, zXG, zXH⟩ (.cons rfl (.cons rfl (.cons rfl (.cons rfl (.cons rfl (.cons rfl (.cons rfl .nil))))))) (.cons rfl .nil)))
  ·refine Tr.exit (Tr.zi (Tr.zi (Tr.QL (Tr.zA (Tr.sr (Tr.mv rfl rfl (Tr.asg rfl rfl (Tr.nil (Tr.zA (Tr.ret ?_))))))))))
   obtain rfl := oI H
   exact Tr.out (m := [sL zBt zA1 zBq]) [] (zU rfl zT) (fun W hW => ⟨(zBt, zBq), rfl, zXH, HF.zK1 leB (hW.pick (ks := [2]) (by decide) (zR rfl zk)) ⟨zGI _ _ _ _ zRq, trivial⟩⟩)

theorem zHl (N : Nat) {w : Bs} (p0 : (List ze)) (zF : Option Addr) (zG : Nat) (zP : Sl w.O w.W zW zF zG p0) (p1 : (List ze)) (za : Option Addr) (zb : Nat) (Qc : Sl w.O w.W zW za zb p1) (p2 : Bool → Bool → Option Bool) (fid2 : Nat) (cap2 : List Value) (hg2 : ∀ args W, (callFunc fid2 args).run Tryz.prog W = .ok (.enter fid2 args) W) (hf2 : ∀ (w' : Bs), w.Ext w' → ∀ (z0 : Bool) (z1 : Bool), ∀ y, p2 z0 z1 = some y → Calls Tryz.prog fid2 (([bV z0, bV z1] : List Value) ++ cap2).toArray w'.W fun e W'' => e = .returned (bV y) ∧ HF w' W'' E0) (r : (List ze)) (H : zCL N p0 p1 p2 = some r) (hE : HF w w.W (LEn [emp])) : Calls Tryz.prog 61 [sL zF p0 zG, sL za p1 zb, .func (.func fid2) #[] cap2.toArray].toArray w.W fun e W' => ∃ (w' : Bs) (u : (Option Addr × Nat)), w.Le w' ∧ e = .returned (sL u.1 r u.2) ∧ (SlF u.1 r.length u.2) ∧ HF w' W' (LEn [ow u.1 u.2 107 zW r]) := by
 unfold zCL at H
 have leB := Bs.Le.refl w
 refine Tr.enter (n := 126) Tryz.func61 rfl rfl rfl hE (Tr.sr (Tr.asg rfl rfl (Tr.JY 1 107 zW ?_)))
 show Tr _ _ (uf _ 6 (sL none (([] : List ze)) 0)) _ _
 refine Tr.nil (Tr.zA (Tr.sr (Tr.asg rfl rfl (Tr.JY 2 107 zW ?_))))
 show Tr _ _ (uf _ 7 (sL none (([] : List ze)) 0)) _ _
 refine Tr.nil (Tr.zA (Tr.seq (Tr.sr (Tr.mv rfl rfl (Tr.va rfl (fun _ _ a c => zy zFa (a.ev rfl)) (Tr.mv rfl rfl (Tr.va rfl (fun _ _ a c => zy zFa (a.ev rfl)) (Tr.va rfl (fun _ _ a c => QA (a.ev rfl) (a.ev rfl)) (Tr.va rfl (fun _ _ a c => Qa (a.ev rfl) (a.ev rfl)) (Tr.nil (Tr.zA (Tr.cond rfl H (fun H => ?_) (fun H => ?_)))))))))))))
 ·refine Tr.sr (Tr.asg rfl rfl (Tr.JY 3 107 zW ?_))
  show Tr _ _ (uf _ 6 (sL none (([] : List ze)) 0)) _ _
  refine Tr.nil (Tr.zA (Tr.ret (Tr.zg ?_)))
  obtain rfl := oI H
  exact Tr.out (m := [sL none (([] : List ze)) 0]) [] (zU rfl zT) (fun W hW => ⟨w, (none, 0), leB, rfl, VR, hW.pick (ks := [3]) (by decide) (zR rfl zk)⟩)
 ·refine Tr.skip (Tr.zA (Tr.sr (Tr.asg rfl rfl (Tr.asg rfl rfl (Tr.nil (Tr.zA (Tr.seq (Tr.sr (Tr.mv rfl rfl (Tr.mv rfl rfl (Tr.buildSlice 4 (e := 66) (vs := [(0, sL zF p0 zG), (1, sL za p1 zb)]) (cs := [sL zF p0 zG, sL za p1 zb]) (wn rfl) rfl (zl rfl (zl rfl Qf)) (by kernel_rfl) fun zt => (Tr.va rfl (fun _ _ a c => zy zel (a.ev rfl)) (Tr.mv rfl rfl (Tr.nil (Tr.zA (Tr.block (Tr.own 4 JU [p0, p1] (css := [[sL zF p0 zG], [sL za p1 zb]]) rfl (.cons ⟨(zF, zG), zP, rfl⟩ (.cons ⟨(za, zb), Qc, rfl⟩ .nil)) rfl (by decide) (zCU rfl) (Tr.ren 4 9 rfl rfl rfl (Tr.loop (σ := Int × Int × (List (List ze)) × Int × (Option Addr) × Nat) (fun m w s => Qr N p0 p1 p2 m s.1 s.2.1 s.2.2.1 s.2.2.2.1 = some r ∧ SlF s.2.2.2.2.1 s.2.2.1.length s.2.2.2.2.2) (fun s => [(0, sL zF p0 zG), (1, sL za p1 zb), (2, .func (.func fid2) #[] cap2.toArray), (7, sL none (([] : List ze)) 0), (8, iv s.1), (9, iv s.2.1), (25, sL s.2.2.2.2.1 s.2.2.1 s.2.2.2.2.2), (26, iv 2), (27, iv s.2.2.2.1)]) (fun s => [(2, ow none 0 107 zW ([] : List ze)), (9, ow s.2.2.2.2.1 s.2.2.2.2.2 66 JU s.2.2.1)]) N (0, 0, [p0, p1], 0, (some ⟨zt, 0, none⟩), 2) ⟨H, (zaB zt rfl)⟩ (.cons rfl (.cons rfl (.cons rfl (.cons rfl (.cons rfl (.cons rfl (.cons rfl (.cons rfl (.cons rfl .nil))))))))) (.cons rfl (.cons rfl .nil)) (fun _ _ h => zAQ (h.1)) ?_)))))))))))))))))))
  intro w WL mL3 s hs
  obtain ⟨x150, x151, zEO, x153, zHA, zG1⟩ := s
  obtain ⟨H, zKg⟩ := hs
  replace H : Qr N p0 p1 p2 (mL3 + 1) x150 x151 zEO x153 = some r := H
  replace zP := zP.le WL
  replace Qc := Qc.le WL
  replace hf2 := fun w' he => hf2 w' (WL.ext.trans he)
  replace leB := leB.trans WL
  replace zKg : SlF zHA zEO.length zG1 := zKg
  rw [Qr.eq_2] at H
  dsimp only
  refine Tr.sr (Tr.va rfl (fun _ _ a c => QE (a.ev rfl) (a.ev rfl)) (Tr.nil (Tr.zA (Tr.seq (Tr.cond rfl H (fun H => ?_) (fun H => ?_))))))
  ·refine Tr.skip (Tr.zA (Tr.seq (Tr.block (Tr.sr (Tr.mv rfl rfl ?_)))))
   obtain ⟨zHM, zlh, H⟩ := bnd H
   obtain ⟨zh4, zh3, zh2⟩ := zx zlh
   refine Tr.va rfl (fun _ _ a c => zK zb7 (a.ev rfl) zKg (a.ev rfl) zh4 zh3) (Tr.zYf (U := (JU).Ad) (fun u => (JU).ok w.O w.W u zHM) (fun u => (sL u.1 zHM u.2)) (wn rfl) rfl (ldN (κ := 9) (t := JU) (V := fun u => (sL u.1 zHM u.2)) rfl zh2 (fun _ _ u a hc => zD zP2 (a.ev rfl) hc rfl)) ?_)
   intro zn2 zdg
   obtain ⟨zG7, zOO⟩ := zn2
   have zA5 := zdg
   replace zA5 : Sl w.O w.W zW zG7 zOO zHM := zA5
   dsimp only
   refine Tr.asg rfl rfl (Tr.asg rfl rfl (Tr.nil (Tr.zA (Tr.sr (Tr.mv rfl rfl (Tr.va rfl (fun _ _ a c => zy zFa (a.ev rfl)) (Tr.va rfl (fun _ _ a c => WO (a.ev rfl) (a.ev rfl)) (Tr.nil (Tr.zA (Tr.cond rfl H (fun H => ?_) (fun H => ?_)))))))))))
   ·have leJ162 := Bs.Le.refl w
    refine Tr.zJD (σ := Int × Int) (fun w s => WF zEO x153 (Qr N p0 p1 p2 mL3) zHM s.1 s.2 = some r) (fun s => [(0, sL zF p0 zG), (1, sL za p1 zb), (2, .func (.func fid2) #[] cap2.toArray), (7, sL none (([] : List ze)) 0), (8, iv s.1), (9, iv s.2), (11, sL zG7 zHM zOO), (25, sL zHA zEO zG1), (26, iv 2), (27, iv x153)]) (fun s => [(2, ow none 0 107 zW ([] : List ze)), (9, ow zHA zG1 66 JU zEO)]) ?_ ?_
    ·refine Tr.sr (Tr.mv rfl rfl (Tr.va rfl (fun _ _ a c => Qa (a.ev rfl) (a.ev rfl)) (Tr.mv rfl rfl (Tr.VJ 4 [(0, sL zF p0 zG), (1, sL za p1 zb), (2, .func (.func fid2) #[] cap2.toArray), (7, sL none (([] : List ze)) 0), (8, iv x150), (9, iv x151), (11, sL zG7 zHM zOO), (25, sL zHA zEO zG1), (26, iv 2), (27, iv x153), (41, bV ((x153 == 0) || ((p0.length : Int) == 0)))] [(2, ow none 0 107 zW ([] : List ze)), (9, ow zHA zG1 66 JU zEO)] ?_ ?_))))
     ·cases zol : (x153 == 0)
      ·exact Tr.val (wg rfl rfl rfl) rfl (fun _ _ a c => run_move (a.ev rfl)) (Tr.val (wg rfl rfl rfl) rfl (fun _ _ a c => zy zFa (a.ev rfl)) (Tr.val (wg rfl rfl rfl) rfl (fun _ _ a c => Qa (a.ev rfl) (a.ev rfl)) (Tr.va rfl (fun _ _ a c => zo (a.ev rfl) (a.ev rfl)) (Tr.nil (Tr.Qi (.cons rfl (.cons rfl (.cons rfl (.cons rfl (.cons rfl (.cons rfl (.cons rfl (.cons rfl (.cons rfl (.cons rfl (.cons rfl .nil))))))))))) (.cons rfl (.cons rfl .nil)))))))
      ·exact Tr.pass rfl rfl rfl rfl rfl (by decide) (Tr.pass rfl rfl rfl rfl rfl (by decide) (Tr.pass rfl rfl rfl rfl rfl (by decide) (Tr.va rfl (fun _ _ a c => zn (a.ev rfl) (a.ev rfl)) (Tr.nil (Tr.Qi (.cons rfl (.cons rfl (.cons rfl (.cons rfl (.cons rfl (.cons rfl (.cons rfl (.cons rfl (.cons rfl (.cons rfl (.cons rfl .nil))))))))))) (.cons rfl (.cons rfl .nil)))))))
     ·show Tr _ _ (LF [(0, sL zF p0 zG), (1, sL za p1 zb), (2, .func (.func fid2) #[] cap2.toArray), (7, sL none (([] : List ze)) 0), (8, iv x150), (9, iv x151), (11, sL zG7 zHM zOO), (25, sL zHA zEO zG1), (26, iv 2), (27, iv x153), (41, bV ((x153 == 0) || ((p0.length : Int) == 0)))]) (LE [(2, ow none 0 107 zW ([] : List ze)), (9, ow zHA zG1 66 JU zEO)]) _
      refine Tr.nil (Tr.zA (Tr.cond rfl H (fun H => ?_) (fun H => ?_)))
      ·refine Tr.draw (by kernel_rfl) (by kernel_rfl) (Tq.mv rfl rfl ?_)
       obtain ⟨x168, hx168, H⟩ := bnd H
       obtain ⟨zhn, zhm, zhl⟩ := zx hx168
       obtain ⟨zny, hRu169, zdc, hcu169⟩ := (zA5).el zhl
       obtain ⟨znj, znX⟩ := zny
       have zjI := zdc
       replace hRu169 : w.R (adB zG7) := Or.inl hRu169
       refine Tq.va rfl (fun _ _ a c => zK zDB (a.ev rfl) zA5.form (a.ev rfl) zhn zhm) (Tq.va rfl (fun _ _ a c => zB zFE (a.ev rfl)) (Tq.va rfl (fun _ _ a c => zD QH (a.ev rfl) (zO.drop (rdR hRu169 hcu169 c) 0) rfl) (Tq.mv rfl rfl (Tq.mv rfl rfl (Tq.va rfl (fun _ _ a c => zy zFa (a.ev rfl)) (Tq.va rfl (fun _ _ a c => zAt (a.ev rfl) (a.ev rfl)) ?_))))))
       obtain ⟨zHL, zlc, H⟩ := bnd H
       obtain ⟨zhk, zhj, zhi⟩ := zx zlc
       obtain ⟨znw, hRu171, zda, hcu171⟩ := (zA5).el zhi
       obtain ⟨zni, znW⟩ := znw
       have zjH := zda
       replace hRu171 : w.R (adB zG7) := Or.inl hRu171
       exact Tq.va rfl (fun _ _ a c => zK zDB (a.ev rfl) zA5.form (a.ev rfl) zhk zhj) (Tq.va rfl (fun _ _ a c => zB zCk (a.ev rfl)) (Tq.va rfl (fun _ _ a c => zD QH (a.ev rfl) (zO.drop (rdR hRu171 hcu171 c) 1) rfl) (Tq.asg rfl rfl (Tq.asg rfl rfl (Tq.nil (Tr.zf leJ162 (x168.Y0, zHL.Y1) H (.cons rfl (.cons rfl (.cons rfl (.cons rfl (.cons rfl (.cons rfl (.cons rfl (.cons rfl (.cons rfl (.cons rfl .nil)))))))))) (.cons rfl (.cons rfl .nil))))))))
      ·exact Tr.skip (Tr.zf leJ162 (x150, x151) H (.cons rfl (.cons rfl (.cons rfl (.cons rfl (.cons rfl (.cons rfl (.cons rfl (.cons rfl (.cons rfl (.cons rfl .nil)))))))))) (.cons rfl (.cons rfl .nil)))
    ·intro w s hlJ163 hs
     obtain ⟨x160, zKY⟩ := s
     have H := hs
     replace H : WF zEO x153 (Qr N p0 p1 p2 mL3) zHM x160 zKY = some r := H
     replace hf2 := fun w' he => hf2 w' (hlJ163.ext.trans he)
     replace zA5 := zA5.le hlJ163
     replace WL := WL.trans hlJ163
     unfold WF at H
     dsimp only
     refine Tr.draw (by kernel_rfl) (by kernel_rfl) (Tq.mv rfl rfl (Tq.mv rfl rfl ?_))
     obtain ⟨zKt, zle, H⟩ := bnd H
     obtain ⟨zht, zhs, zhr⟩ := zx zle
     obtain ⟨zft, hRu165, zSC, hcu165⟩ := (zA5).el zhr
     obtain ⟨zIj, zIN⟩ := zft
     have zDn := zSC
     replace hRu165 : w.R (adB zG7) := Or.inl hRu165
     refine Tq.va rfl (fun _ _ a c => zK zDB (a.ev rfl) zA5.form (a.ev rfl) zht zhs) (Tq.va rfl (fun _ _ a c => zB zFE (a.ev rfl)) (Tq.va rfl (fun _ _ a c => zD QH (a.ev rfl) (zO.drop (rdR hRu165 hcu165 c) 0) rfl) (Tq.va rfl (fun _ _ a c => zGm (a.ev rfl) (a.ev rfl) _) (Tq.mv rfl rfl (Tq.mv rfl rfl (Tq.mv rfl rfl (Tq.va rfl (fun _ _ a c => zy zFa (a.ev rfl)) (Tq.va rfl (fun _ _ a c => zAt (a.ev rfl) (a.ev rfl)) ?_))))))))
     obtain ⟨zZc, za2, H⟩ := bnd H
     obtain ⟨zV1, zV0, zVz⟩ := zx za2
     obtain ⟨znz, hRu167, zdd, hcu167⟩ := (zA5).el zVz
     obtain ⟨znk, znY⟩ := znz
     have zjJ := zdd
     replace hRu167 : w.R (adB zG7) := Or.inl hRu167
     exact Tq.va rfl (fun _ _ a c => zK zDB (a.ev rfl) zA5.form (a.ev rfl) zV1 zV0) (Tq.va rfl (fun _ _ a c => zB zCk (a.ev rfl)) (Tq.va rfl (fun _ _ a c => zD QH (a.ev rfl) (zO.drop (rdR hRu167 hcu167 c) 1) rfl) (Tq.va rfl (fun _ _ a c => zGn (a.ev rfl) (a.ev rfl) _) (Tq.asg rfl rfl (Tq.asg rfl rfl (Tq.nil (Tr.zh (Tr.zA (Tr.region (Tr.va rfl (fun _ _ a c => QA (a.ev rfl) (a.ev rfl)) (Tr.mv rfl rfl (Tr.nil (Tr.zf WL ((min x160 zKt.Y0), (max zKY zZc.Y1), zEO, (w64 (x153 + 1)), zHA, zG1) ⟨H, zKg⟩ (.cons rfl (.cons rfl (.cons rfl (.cons rfl (.cons rfl (.cons rfl (.cons rfl (.cons rfl (.cons rfl .nil))))))))) (.cons rfl (.cons rfl .nil)))))))))))))))
   ·exact Tr.skip (Tr.zh (Tr.zA (Tr.region (Tr.va rfl (fun _ _ a c => QA (a.ev rfl) (a.ev rfl)) (Tr.mv rfl rfl (Tr.nil (Tr.zf WL (x150, x151, zEO, (w64 (x153 + 1)), zHA, zG1) ⟨H, zKg⟩ (.cons rfl (.cons rfl (.cons rfl (.cons rfl (.cons rfl (.cons rfl (.cons rfl (.cons rfl (.cons rfl .nil))))))))) (.cons rfl (.cons rfl .nil)))))))))
  ·refine Tr.exit (Tr.zi (Tr.zi (Tr.QL (Tr.zA (Tr.seq (Tr.block (Tr.loop (σ := (List ze) × (List ze) × (List ze) × Int × (Option Addr) × Nat × (Option Addr) × Nat × (Option Addr) × Nat) (fun m w s => Jh N p2 x151 m s.1 s.2.1 s.2.2.1 s.2.2.2.1 = some r ∧ Sl w.O w.W zW s.2.2.2.2.1 s.2.2.2.2.2.1 s.1 ∧ Sl w.O w.W zW s.2.2.2.2.2.2.1 s.2.2.2.2.2.2.2.1 s.2.1 ∧ SlF s.2.2.2.2.2.2.2.2.1 s.2.2.1.length s.2.2.2.2.2.2.2.2.2) (fun s => [(0, sL s.2.2.2.2.1 s.1 s.2.2.2.2.2.1), (1, sL s.2.2.2.2.2.2.1 s.2.1 s.2.2.2.2.2.2.2.1), (2, .func (.func fid2) #[] cap2.toArray), (7, sL s.2.2.2.2.2.2.2.2.1 s.2.2.1 s.2.2.2.2.2.2.2.2.2), (8, iv s.2.2.2.1), (9, iv x151)]) (fun s => [(2, ow s.2.2.2.2.2.2.2.2.1 s.2.2.2.2.2.2.2.2.2 107 zW s.2.2.1)]) N (p0, p1, ([] : List ze), x150, zF, zG, za, zb, none, 0) ⟨H, zP, Qc, VR⟩ (.cons rfl (.cons rfl (.cons rfl (.cons rfl (.cons rfl (.cons rfl .nil)))))) (.cons rfl .nil) (fun _ _ h => zAQ (h.1)) ?_)))))))
   intro w zFW mL9 s hs
   obtain ⟨zaV, zMu, zDx, zD1, zfd, zfT, zUs, zUa, zFR, zFG⟩ := s
   obtain ⟨H, zbI, zT3, zbH⟩ := hs
   replace H : Jh N p2 x151 (mL9 + 1) zaV zMu zDx zD1 = some r := H
   replace hf2 := fun w' he => hf2 w' (zFW.ext.trans he)
   replace leB := leB.trans zFW
   replace zbI : Sl w.O w.W zW zfd zfT zaV := zbI
   replace zT3 : Sl w.O w.W zW zUs zUa zMu := zT3
   replace zbH : SlF zFR zDx.length zFG := zbH
   rw [Jh.eq_2] at H
   dsimp only
   refine Tr.seq (Tr.sr (Tr.mv rfl rfl (Tr.mv rfl rfl (Tr.va rfl (fun _ _ a c => QE (a.ev rfl) (a.ev rfl)) (Tr.nil (Tr.zA (Tr.cond rfl H (fun H => ?_) (fun H => ?_))))))))
   ·refine Tr.skip (Tr.zA (Tr.block (Tr.seq (Tr.block (Tr.loop (σ := (List ze) × (Option Addr) × Nat) (fun m w s => Vh N p2 x151 zMu zDx zD1 (Jh N p2 x151 mL9) m s.1 = some r ∧ Sl w.O w.W zW s.2.1 s.2.2 s.1) (fun s => [(0, sL s.2.1 s.1 s.2.2), (1, sL zUs zMu zUa), (2, .func (.func fid2) #[] cap2.toArray), (7, sL zFR zDx zFG), (8, iv zD1), (9, iv x151)]) (fun s => [(2, ow zFR zFG 107 zW zDx)]) N (zaV, zfd, zfT) ⟨H, zbI⟩ (.cons rfl (.cons rfl (.cons rfl (.cons rfl (.cons rfl (.cons rfl .nil)))))) (.cons rfl .nil) (fun _ _ h => zAQ (h.1)) ?_)))))
    intro w zGs zVU s hs
    obtain ⟨zGg, zKo, zKk⟩ := s
    obtain ⟨H, zES⟩ := hs
    replace H : Vh N p2 x151 zMu zDx zD1 (Jh N p2 x151 mL9) (zVU + 1) zGg = some r := H
    replace zT3 := zT3.le zGs
    replace hf2 := fun w' he => hf2 w' (zGs.ext.trans he)
    replace zFW := zFW.trans zGs
    replace zES : Sl w.O w.W zW zKo zKk zGg := zES
    rw [Vh.eq_2] at H
    dsimp only
    refine Tr.seq (Tr.sr (Tr.mv rfl rfl (Tr.va rfl (fun _ _ a c => zy zFa (a.ev rfl)) (Tr.va rfl (fun _ _ a c => WO (a.ev rfl) (a.ev rfl)) (Tr.mv rfl rfl ?_)))))
    obtain ⟨zdz, zQ2, H⟩ := bnd H
    refine Tr.VJ 7 [(0, sL zKo zGg zKk), (1, sL zUs zMu zUa), (2, .func (.func fid2) #[] cap2.toArray), (7, sL zFR zDx zFG), (8, iv zD1), (9, iv x151), (82, bV zdz)] [(2, ow zFR zFG 107 zW zDx)] ?_ ?_
    ·cases zUB : (decide (0 < (zGg.length : Int)))
     ·rw [zUB] at zQ2
      rw [if_neg (by decide)] at zQ2
      have H := zQ2
      obtain rfl := oI H
      exact Tr.pass rfl rfl rfl rfl rfl (by decide) (Tr.pass rfl rfl rfl rfl rfl (by decide) (Tr.pass rfl rfl rfl rfl rfl (by decide) (Tr.pass rfl rfl rfl rfl rfl (by decide) (Tr.pass rfl rfl rfl rfl rfl (by decide) (Tr.pass rfl rfl rfl rfl rfl (by decide) (Tr.va rfl (fun _ _ a c => zo (a.ev rfl) (a.ev rfl)) (Tr.nil (Tr.Qi (.cons rfl (.cons rfl (.cons rfl (.cons rfl (.cons rfl (.cons rfl (.cons rfl .nil))))))) (.cons rfl .nil)))))))))
     ·rw [zUB] at zQ2
      rw [if_pos rfl] at zQ2
      have H := zQ2
      refine Tr.val (wg rfl rfl rfl) rfl (fun _ _ a c => run_move (a.ev rfl)) ?_
      obtain ⟨zjc, zlO, H⟩ := bnd H
      obtain ⟨zg4, zg3, zg2⟩ := zx zlO
      obtain ⟨znt, hRu316, zdX, hcu316⟩ := (zES).el zg2
      obtain ⟨znh, znV⟩ := znt
      have zjG := zdX
      replace hRu316 : w.R (adB zKo) := Or.inl hRu316
      refine Tr.val (wg rfl rfl rfl) rfl (fun _ _ a c => zK zDB (a.ev rfl) zES.form (a.ev rfl) zg4 zg3) (Tr.val (wg rfl rfl rfl) rfl (fun _ _ a c => zB zCk (a.ev rfl)) (Tr.val (wg rfl rfl rfl) rfl (fun _ _ a c => zD QH (a.ev rfl) (zO.drop (rdR hRu316 hcu316 c) 1) rfl) (Tr.val (wg rfl rfl rfl) rfl (fun _ _ a c => run_move (a.ev rfl)) (Tr.val (wg rfl rfl rfl) rfl (fun _ _ a c => zBR (a.ev rfl) (a.ev rfl)) (Tr.va rfl (fun _ _ a c => zn (a.ev rfl) (a.ev rfl)) ?_)))))
      obtain rfl := oI H
      exact Tr.nil (Tr.Qi (.cons rfl (.cons rfl (.cons rfl (.cons rfl (.cons rfl (.cons rfl (.cons rfl .nil))))))) (.cons rfl .nil))
    ·show Tr _ _ (LF [(0, sL zKo zGg zKk), (1, sL zUs zMu zUa), (2, .func (.func fid2) #[] cap2.toArray), (7, sL zFR zDx zFG), (8, iv zD1), (9, iv x151), (82, bV zdz)]) (LE [(2, ow zFR zFG 107 zW zDx)]) _
     refine Tr.nil (Tr.zA (Tr.cond rfl H (fun H => ?_) (fun H => ?_)))
     ·refine Tr.skip (Tr.zA (Tr.block (Tr.region (Tr.mv rfl rfl ?_))))
      obtain ⟨zgK, zfB, H⟩ := bnd H
      exact Tr.va rfl (fun _ _ a c => zGD zDB (a.ev rfl) zES.form (a.ev rfl) zfB) (Tr.asg rfl rfl (Tr.nil (Tr.zh (Tr.zf zGs (zgK, (zDh zKo (1 : Int).toNat 3 zKk), (zKk - (1 : Int).toNat)) ⟨H, (Sl.cut zES zfB)⟩ (.cons rfl (.cons rfl (.cons rfl (.cons rfl (.cons rfl (.cons rfl .nil)))))) (.cons rfl .nil)))))
     ·refine Tr.exit (Tr.zi (Tr.zi (Tr.QL (Tr.zA (Tr.seq (Tr.block (Tr.loop (σ := (List ze) × (Option Addr) × Nat) (fun m w s => Vg N p2 x151 zDx zD1 (Jh N p2 x151 mL9) zGg m s.1 = some r ∧ Sl w.O w.W zW s.2.1 s.2.2 s.1) (fun s => [(0, sL zKo zGg zKk), (1, sL s.2.1 s.1 s.2.2), (2, .func (.func fid2) #[] cap2.toArray), (7, sL zFR zDx zFG), (8, iv zD1), (9, iv x151)]) (fun s => [(2, ow zFR zFG 107 zW zDx)]) N (zMu, zUs, zUa) ⟨H, zT3⟩ (.cons rfl (.cons rfl (.cons rfl (.cons rfl (.cons rfl (.cons rfl .nil)))))) (.cons rfl .nil) (fun _ _ h => zAQ (h.1)) ?_)))))))
      intro w zW3 zgD s hs
      obtain ⟨zLk, zP9, zPt⟩ := s
      obtain ⟨H, zFd⟩ := hs
      replace H : Vg N p2 x151 zDx zD1 (Jh N p2 x151 mL9) zGg (zgD + 1) zLk = some r := H
      replace zES := zES.le zW3
      replace hf2 := fun w' he => hf2 w' (zW3.ext.trans he)
      replace zFW := zFW.trans zW3
      replace zFd : Sl w.O w.W zW zP9 zPt zLk := zFd
      rw [Vg.eq_2] at H
      dsimp only
      refine Tr.seq (Tr.sr (Tr.mv rfl rfl (Tr.va rfl (fun _ _ a c => zy zFa (a.ev rfl)) (Tr.va rfl (fun _ _ a c => WO (a.ev rfl) (a.ev rfl)) (Tr.mv rfl rfl ?_)))))
      obtain ⟨zdy, zQ1, H⟩ := bnd H
      refine Tr.VJ 7 [(0, sL zKo zGg zKk), (1, sL zP9 zLk zPt), (2, .func (.func fid2) #[] cap2.toArray), (7, sL zFR zDx zFG), (8, iv zD1), (9, iv x151), (95, bV zdy)] [(2, ow zFR zFG 107 zW zDx)] ?_ ?_
      ·cases zUB : (decide (0 < (zLk.length : Int)))
       ·rw [zUB] at zQ1
        rw [if_neg (by decide)] at zQ1
        have H := zQ1
        obtain rfl := oI H
        exact Tr.pass rfl rfl rfl rfl rfl (by decide) (Tr.pass rfl rfl rfl rfl rfl (by decide) (Tr.pass rfl rfl rfl rfl rfl (by decide) (Tr.pass rfl rfl rfl rfl rfl (by decide) (Tr.pass rfl rfl rfl rfl rfl (by decide) (Tr.pass rfl rfl rfl rfl rfl (by decide) (Tr.va rfl (fun _ _ a c => zo (a.ev rfl) (a.ev rfl)) (Tr.nil (Tr.Qi (.cons rfl (.cons rfl (.cons rfl (.cons rfl (.cons rfl (.cons rfl (.cons rfl .nil))))))) (.cons rfl .nil)))))))))
       ·rw [zUB] at zQ1
        rw [if_pos rfl] at zQ1
        have H := zQ1
        refine Tr.val (wg rfl rfl rfl) rfl (fun _ _ a c => run_move (a.ev rfl)) ?_
        obtain ⟨zYb, zav, H⟩ := bnd H
        obtain ⟨zVh, zVg, zVf⟩ := zx zav
        obtain ⟨zns, hRu338, zdW, hcu338⟩ := (zFd).el zVf
        obtain ⟨zng, znU⟩ := zns
        have zjF := zdW
        replace hRu338 : w.R (adB zP9) := Or.inl hRu338
        refine Tr.val (wg rfl rfl rfl) rfl (fun _ _ a c => zK zDB (a.ev rfl) zFd.form (a.ev rfl) zVh zVg) (Tr.val (wg rfl rfl rfl) rfl (fun _ _ a c => zB zCk (a.ev rfl)) (Tr.val (wg rfl rfl rfl) rfl (fun _ _ a c => zD QH (a.ev rfl) (zO.drop (rdR hRu338 hcu338 c) 1) rfl) (Tr.val (wg rfl rfl rfl) rfl (fun _ _ a c => run_move (a.ev rfl)) (Tr.val (wg rfl rfl rfl) rfl (fun _ _ a c => zBR (a.ev rfl) (a.ev rfl)) (Tr.va rfl (fun _ _ a c => zn (a.ev rfl) (a.ev rfl)) ?_)))))
        obtain rfl := oI H
        exact Tr.nil (Tr.Qi (.cons rfl (.cons rfl (.cons rfl (.cons rfl (.cons rfl (.cons rfl (.cons rfl .nil))))))) (.cons rfl .nil))
      ·show Tr _ _ (LF [(0, sL zKo zGg zKk), (1, sL zP9 zLk zPt), (2, .func (.func fid2) #[] cap2.toArray), (7, sL zFR zDx zFG), (8, iv zD1), (9, iv x151), (95, bV zdy)]) (LE [(2, ow zFR zFG 107 zW zDx)]) _
       refine Tr.nil (Tr.zA (Tr.cond rfl H (fun H => ?_) (fun H => ?_)))
       ·refine Tr.skip (Tr.zA (Tr.block (Tr.region (Tr.mv rfl rfl ?_))))
        obtain ⟨zgJ, zfA, H⟩ := bnd H
        exact Tr.va rfl (fun _ _ a c => zGD zDB (a.ev rfl) zFd.form (a.ev rfl) zfA) (Tr.asg rfl rfl (Tr.nil (Tr.zh (Tr.zf zW3 (zgJ, (zDh zP9 (1 : Int).toNat 3 zPt), (zPt - (1 : Int).toNat)) ⟨H, (Sl.cut zFd zfA)⟩ (.cons rfl (.cons rfl (.cons rfl (.cons rfl (.cons rfl (.cons rfl .nil)))))) (.cons rfl .nil)))))
       ·refine Tr.exit (Tr.zi (Tr.zi (Tr.QL (Tr.zA (Tr.sr (Tr.mv rfl rfl (Tr.mv rfl rfl (Tr.mv rfl rfl ?_))))))))
        obtain ⟨zLM, zkY, H⟩ := bnd H
        refine Tr.VW [] [] (U := (Option Addr × Nat)) (fun u => (.tuple #[sL u.1 zLM.1 u.2, iv zLM.2])) (fun O W u => Sl O W QO u.1 u.2 zLM.1) (fun u => []) rfl zk (fun _ => rfl) (wn rfl) rfl Tryz.call90 (zI rfl (zI rfl (zI rfl zS))) (fun W hW hp hE => zGV zGg zKo zKk (zES.zAS (hW.JH hp)) zD1 x151 zLM zkY hE) ?_
        intro w u zW4 hu
        obtain ⟨zX6, zXa⟩ := u
        have gy340_0 := hu
        replace zES := zES.le zW4
        replace zFd := zFd.le zW4
        replace hf2 := fun w' he => hf2 w' (zW4.ext.trans he)
        replace zFW := zFW.trans zW4
        have zGK : Sl w.O w.W QO zX6 zXa zLM.1 := gy340_0 --@phi
        dsimp only
        refine Tr.mv rfl rfl (Tr.va rfl (fun _ _ a c => JM (a.ev rfl) rfl) (Tr.va rfl (fun _ _ a c => JM (a.ev rfl) rfl) (Tr.asg rfl rfl (Tr.asg rfl rfl (Tr.nil (Tr.zA (Tr.sr (Tr.mv rfl rfl (Tr.mv rfl rfl (Tr.mv rfl rfl ?_))))))))))
        obtain ⟨zLL, zkX, H⟩ := bnd H
        refine Tr.VW [] [] (U := (Option Addr × Nat)) (fun u => (.tuple #[sL u.1 zLL.1 u.2, iv zLL.2])) (fun O W u => Sl O W QO u.1 u.2 zLL.1) (fun u => []) rfl zk (fun _ => rfl) (wn rfl) rfl Tryz.call90 (zI rfl (zI rfl (zI rfl zS))) (fun W hW hp hE => zGV zLk zP9 zPt (zFd.zAS (hW.JH hp)) zD1 x151 zLL zkX hE) ?_
        intro w u zTc hu
        obtain ⟨zX5, zXZ⟩ := u
        have gy342_0 := hu
        replace zES := zES.le zTc
        replace zFd := zFd.le zTc
        replace hf2 := fun w' he => hf2 w' (zTc.ext.trans he)
        replace zGK := zGK.le zTc
        replace zFW := zFW.trans zTc
        have zJf : Sl w.O w.W QO zX5 zXZ zLL.1 := gy342_0 --@phi
        dsimp only
        refine Tr.mv rfl rfl (Tr.va rfl (fun _ _ a c => JM (a.ev rfl) rfl) (Tr.va rfl (fun _ _ a c => JM (a.ev rfl) rfl) (Tr.asg rfl rfl (Tr.asg rfl rfl (Tr.nil (Tr.zA (Tr.sr (Tr.mv rfl rfl (Tr.mv rfl rfl (Tr.va rfl (fun _ _ a c => zGm (a.ev rfl) (a.ev rfl) _) (Tr.asg rfl rfl (Tr.nil (Tr.zA (Tr.sr (Tr.mv rfl rfl (Tr.mv rfl rfl (Tr.mv rfl rfl (Tr.mv rfl rfl (Tr.mv rfl rfl (Tr.mv rfl rfl ?_))))))))))))))))))))
        obtain ⟨zNx, zkW, H⟩ := bnd H
        refine Tr.WB [12] [emp] (U := (Option Addr × Nat)) (fun u => (sL u.1 zNx u.2)) (fun u => SlF u.1 zNx.length u.2) (fun u => [ow u.1 u.2 3 QO zNx]) rfl (zR rfl zk) (fun _ => rfl) (wn rfl) rfl Tryz.call91 (zI rfl (zI rfl (zI rfl zS))) (fun W hW hp hE => zN4 N zLM.1 zX6 zXa (zGK.rl.ext (hW.JH hp)) zLL.1 zX5 zXZ (zJf.rl.ext (hW.JH hp)) p2 fid2 cap2 hg2 (fun w' he => hf2 w' ((hW.JH hp).trans he)) zNx zkW hE) ?_
        intro u hu
        obtain ⟨zOT, zOF⟩ := u
        have gy344_0 := hu
        have zmK : SlF zOT zNx.length zOF := gy344_0 --@phi
        dsimp only
        refine Tr.build (vs := [(0, iv zD1), (1, iv (min zLM.2 zLL.2)), (2, sL zOT zNx zOF)]) (cs := [iv zD1, iv (min zLM.2 zLL.2), sL zOT zNx zOF]) (wn rfl) rfl (zl rfl (zl rfl (zl rfl Qf))) (by kernel_rfl) (Tr.freeze 12 rfl fun w zQp zaa => ?_)
        replace zES := zES.le zQp
        replace zFd := zFd.le zQp
        replace hf2 := fun w' he => hf2 w' (zQp.ext.trans he)
        replace zGK := zGK.le zQp
        replace zJf := zJf.le zQp
        replace zFW := zFW.trans zQp
        obtain ⟨zQE, zkV, H⟩ := bnd H
        refine Tr.VW [2] [ow zFR zFG 107 zW zDx] (U := (Option Addr × Nat)) (fun u => (sL u.1 zQE u.2)) (fun O W u => SlF u.1 zQE.length u.2) (fun u => [ow u.1 u.2 107 zW zQE]) rfl (zR rfl zk) (fun _ => rfl) (wn rfl) rfl Tryz.call87 (zI rfl (zI rfl zS)) (fun W hW hp hE => zCr zDx zFR zFG (ze.mk zD1 (min zLM.2 zLL.2) zNx) zOT zOF (zaa.zAS (hW.JH hp)) zQE zkV hE) ?_
        intro w u zPH hu
        obtain ⟨zX4, zXY⟩ := u
        have gy348_0 := hu
        replace zES := zES.le zPH
        replace zFd := zFd.le zPH
        replace hf2 := fun w' he => hf2 w' (zPH.ext.trans he)
        replace zGK := zGK.le zPH
        replace zJf := zJf.le zPH
        replace zaa := zaa.le zPH
        replace zFW := zFW.trans zPH
        have zbQ : SlF zX4 zQE.length zXY := gy348_0 --@phi
        dsimp only
        exact Tr.asg rfl rfl (Tr.nil (Tr.zA (Tr.region (Tr.mv rfl rfl (Tr.asg rfl rfl (Tr.nil (Tr.zh (Tr.zf zFW (zGg, zLk, zQE, (min zLM.2 zLL.2), zKo, zKk, zP9, zPt, zX4, zXY) ⟨H, zES, zFd, zbQ⟩ (.cons rfl (.cons rfl (.cons rfl (.cons rfl (.cons rfl (.cons rfl .nil)))))) (.cons rfl .nil)))))))))
   ·refine Tr.exit (Tr.zi (Tr.zi (Tr.QL (Tr.zA (Tr.sr (Tr.mv rfl rfl (Tr.asg rfl rfl (Tr.nil (Tr.zA (Tr.ret ?_))))))))))
    obtain rfl := oI H
    exact Tr.out (m := [sL zFR zDx zFG]) [] (zU rfl zT) (fun W hW => ⟨w, (zFR, zFG), leB, rfl, zbH, hW.pick (ks := [2]) (by decide) (zR rfl zk)⟩)

theorem zIY {w : Bs} (p0 : Bool) (p1 : Bool) (r : Bool) (H : zAY p0 p1 = some r) (hE : HF w w.W E0) : Calls Tryz.prog 171 [bV p0, bV p1].toArray w.W fun e W' => e = .returned (bV r) ∧ HF w W' E0 := by
 unfold zAY at H
 have leB := Bs.Le.refl w
 refine Tr.enter (n := 10) Tryz.func171 rfl rfl rfl hE (Tr.sr (Tr.asg rfl rfl (Tr.nil (Tr.zA (Tr.sr (Tr.mv rfl rfl (Tr.mv rfl rfl (Tr.VJ 3 [(9, bV (p0 && (!p1)))] [] ?_ ?_))))))))
 ·cases zY1 : p0
  ·exact Tr.pass rfl rfl rfl rfl rfl (by decide) (Tr.pass rfl rfl rfl rfl rfl (by decide) (Tr.va rfl (fun _ _ a c => zo (a.ev rfl) (a.ev rfl)) (Tr.nil (Tr.Qi (.cons rfl .nil) .nil))))
  ·exact Tr.val (wg rfl rfl rfl) rfl (fun _ _ a c => run_move (a.ev rfl)) (Tr.val (wg rfl rfl rfl) rfl (fun _ _ a c => KI (a.ev rfl)) (Tr.va rfl (fun _ _ a c => zn (a.ev rfl) (a.ev rfl)) (Tr.nil (Tr.Qi (.cons rfl .nil) .nil))))
 ·show Tr _ _ (LF [(9, bV (p0 && (!p1)))]) (LE []) _
  refine Tr.asg rfl rfl (Tr.nil (Tr.zA (Tr.ret ?_)))
  obtain rfl := oI H
  exact Tr.out (m := [bV (p0 && (!p1))]) [] (zU rfl zT) (fun W hW => ⟨rfl, hW.low leB⟩)

theorem zJx (N : Nat) {w : Bs} (p0 : (List ze)) (zF : Option Addr) (zG : Nat) (zP : Sl w.O w.W zW zF zG p0) (p1 : (List ze)) (za : Option Addr) (zb : Nat) (Qc : Sl w.O w.W zW za zb p1) (r : (List ze)) (H : zAL N p0 p1 = some r) (hE : HF w w.W (LEn [emp])) : Calls Tryz.prog 155 [sL zF p0 zG, sL za p1 zb].toArray w.W fun e W' => ∃ (w' : Bs) (u : (Option Addr × Nat)), w.Le w' ∧ e = .returned (sL u.1 r u.2) ∧ (SlF u.1 r.length u.2) ∧ HF w' W' (LEn [ow u.1 u.2 107 zW r]) := by
 unfold zAL at H
 have leB := Bs.Le.refl w
 refine Tr.enter (n := 8) Tryz.func155 rfl rfl rfl hE (Tr.sr (Tr.asg rfl rfl (Tr.JY 1 107 zW ?_)))
 show Tr _ _ (uf _ 4 (sL none (([] : List ze)) 0)) _ _
 refine Tr.nil (Tr.zA (Tr.sr (Tr.mv rfl rfl (Tr.mv rfl rfl ?_))))
 obtain ⟨QK, zBE, H⟩ := bnd H
 refine Tr.VW [2] [emp] (U := (Option Addr × Nat)) (fun u => (sL u.1 QK u.2)) (fun O W u => SlF u.1 QK.length u.2) (fun u => [ow u.1 u.2 107 zW QK]) rfl (zR rfl zk) (fun _ => rfl) (wn rfl) rfl Tryz.call61 (zI rfl (zI rfl (zI rfl zS))) (fun W hW hp hE => zHl N p0 zF zG (zP.zAS (hW.JH hp)) p1 za zb (Qc.zAS (hW.JH hp)) (fun z0 z1 => zAY z0 z1) 171 [] Tryz.call171 (fun w' he z0 z1 y hy => zIY z0 z1 y hy (HF.start _)) QK zBE hE) ?_
 intro w u zER hu
 obtain ⟨JQ, JP⟩ := u
 have gy100_0 := hu
 replace leB := leB.trans zER
 have zBY : SlF JQ QK.length JP := gy100_0 --@phi
 dsimp only
 refine Tr.asg rfl rfl (Tr.nil (Tr.zA (Tr.ret ?_)))
 obtain rfl := oI H
 exact Tr.out (m := [sL JQ QK JP]) [] (zU rfl zT) (fun W hW => ⟨w, (JQ, JP), leB, rfl, zBY, hW.pick (ks := [2]) (by decide) (zR rfl zk)⟩)

theorem zJw {w : Bs} (p0 : Bool) (p1 : Bool) (r : Bool) (H : zBK p0 p1 = some r) (hE : HF w w.W E0) : Calls Tryz.prog 62 [bV p0, bV p1].toArray w.W fun e W' => e = .returned (bV r) ∧ HF w W' E0 := by
 unfold zBK at H
 have leB := Bs.Le.refl w
 refine Tr.enter (n := 9) Tryz.func62 rfl rfl rfl hE (Tr.sr (Tr.asg rfl rfl (Tr.nil (Tr.zA (Tr.sr (Tr.mv rfl rfl (Tr.mv rfl rfl (Tr.VJ 2 [(8, bV (p0 || p1))] [] ?_ ?_))))))))
 ·cases zY1 : p0
  ·exact Tr.val (wg rfl rfl rfl) rfl (fun _ _ a c => run_move (a.ev rfl)) (Tr.va rfl (fun _ _ a c => zo (a.ev rfl) (a.ev rfl)) (Tr.nil (Tr.Qi (.cons rfl .nil) .nil)))
  ·exact Tr.pass rfl rfl rfl rfl rfl (by decide) (Tr.va rfl (fun _ _ a c => zn (a.ev rfl) (a.ev rfl)) (Tr.nil (Tr.Qi (.cons rfl .nil) .nil)))
 ·show Tr _ _ (LF [(8, bV (p0 || p1))]) (LE []) _
  refine Tr.asg rfl rfl (Tr.nil (Tr.zA (Tr.ret ?_)))
  obtain rfl := oI H
  exact Tr.out (m := [bV (p0 || p1)]) [] (zU rfl zT) (fun W hW => ⟨rfl, hW.low leB⟩)

theorem zLC (N : Nat) {w : Bs} (p0 : (List ze)) (zF : Option Addr) (zG : Nat) (zP : Sl w.O w.W zW zF zG p0) (p1 : (List ze)) (za : Option Addr) (zb : Nat) (Qc : Sl w.O w.W zW za zb p1) (r : (List ze)) (H : zA7 N p0 p1 = some r) (hE : HF w w.W (LEn [emp])) : Calls Tryz.prog 36 [sL zF p0 zG, sL za p1 zb].toArray w.W fun e W' => ∃ (w' : Bs) (u : (Option Addr × Nat)), w.Le w' ∧ e = .returned (sL u.1 r u.2) ∧ (SlF u.1 r.length u.2) ∧ HF w' W' (LEn [ow u.1 u.2 107 zW r]) := by
 unfold zA7 at H
 have leB := Bs.Le.refl w
 refine Tr.enter (n := 8) Tryz.func36 rfl rfl rfl hE (Tr.sr (Tr.asg rfl rfl (Tr.JY 1 107 zW ?_)))
 show Tr _ _ (uf _ 4 (sL none (([] : List ze)) 0)) _ _
 refine Tr.nil (Tr.zA (Tr.sr (Tr.mv rfl rfl (Tr.mv rfl rfl ?_))))
 obtain ⟨QK, zBE, H⟩ := bnd H
 refine Tr.VW [2] [emp] (U := (Option Addr × Nat)) (fun u => (sL u.1 QK u.2)) (fun O W u => SlF u.1 QK.length u.2) (fun u => [ow u.1 u.2 107 zW QK]) rfl (zR rfl zk) (fun _ => rfl) (wn rfl) rfl Tryz.call61 (zI rfl (zI rfl (zI rfl zS))) (fun W hW hp hE => zHl N p0 zF zG (zP.zAS (hW.JH hp)) p1 za zb (Qc.zAS (hW.JH hp)) (fun z0 z1 => zBK z0 z1) 62 [] Tryz.call62 (fun w' he z0 z1 y hy => zJw z0 z1 y hy (HF.start _)) QK zBE hE) ?_
 intro w u zER hu
 obtain ⟨JQ, JP⟩ := u
 have gy100_0 := hu
 replace leB := leB.trans zER
 have zBY : SlF JQ QK.length JP := gy100_0 --@phi
 dsimp only
 refine Tr.asg rfl rfl (Tr.nil (Tr.zA (Tr.ret ?_)))
 obtain rfl := oI H
 exact Tr.out (m := [sL JQ QK JP]) [] (zU rfl zT) (fun W hW => ⟨w, (JQ, JP), leB, rfl, zBY, hW.pick (ks := [2]) (by decide) (zR rfl zk)⟩)

theorem zFK {w : Bs} (p0 : (List ze)) (zF : Option Addr) (zG : Nat) (zP : Sl w.R w.W zW zF zG p0) (r : Int) (H : zBL p0 = some r) (hE : HF w w.W E0) : Calls Tryz.prog 89 [sL zF p0 zG].toArray w.W fun e W' => e = .returned (iv r) ∧ HF w W' E0 := by
 unfold zBL at H
 have leB := Bs.Le.refl w
 refine Tr.enter (n := 20) Tryz.func89 rfl rfl rfl hE (Tr.sr (Tr.asg rfl rfl (Tr.nil (Tr.zA (Tr.sr (Tr.asg rfl rfl (Tr.nil (Tr.zA (Tr.seq (Tr.sr (Tr.mv rfl rfl (Tr.va rfl (fun _ _ a c => zy zFa (a.ev rfl)) (Tr.mv rfl rfl (Tr.nil (Tr.zA (Tr.block (Tr.loop (σ := (List ze) × Nat × Int) (fun m w s => m = s.1.length + 1 ∧ s.1 = List.drop s.2.1 p0 ∧ s.2.1 ≤ p0.length ∧ Jz s.1 s.2.1 s.2.2 = some r) (fun s => [(3, iv s.2.2), (6, sL zF p0 zG), (7, iv (p0.length : Int)), (8, iv (s.2.1 : Int))]) (fun s => []) (p0.length + 1) (p0, 0, 0) ⟨rfl, rfl, Nat.zero_le _, H⟩ (.cons rfl (.cons rfl (.cons rfl (.cons rfl .nil)))) .nil (fun _ _ h => absurd h.1 (by simp)) ?_)))))))))))))))))
 intro w Qe m s hs
 obtain ⟨zV, iL1, x112⟩ := s
 obtain ⟨KS, QG, hiL1, H⟩ := hs
 replace QG : zV = List.drop iL1 p0 := QG
 replace H : Jz zV iL1 x112 = some r := H
 replace KS : m + 1 = zV.length + 1 := KS
 replace zP := zP.leR Qe
 replace leB := leB.trans Qe
 obtain rfl : m = zV.length := by omega
 clear KS
 dsimp only
 cases zV with
 | nil =>
  rw [Jz.eq_1] at H
  refine Tr.sr (Tr.va rfl (fun _ _ a c => QE (a.ev rfl) (a.ev rfl)) (Tr.nil (Tr.zA (Tr.seq (Tr.WY rfl (JB QG) (Tr.exit (Tr.zi (Tr.zi (Tr.QL (Tr.zA (Tr.sr (Tr.mv rfl rfl (Tr.asg rfl rfl (Tr.nil (Tr.zA (Tr.ret ?_))))))))))))))))
  obtain rfl := oI H
  exact Tr.out (m := [iv x112]) [] (zU rfl zT) (fun W hW => ⟨rfl, hW.low leB⟩)
 | cons xL1 zV =>
  rw [Jz.eq_2] at H
  refine Tr.sr (Tr.va rfl (fun _ _ a c => QE (a.ev rfl) (a.ev rfl)) (Tr.nil (Tr.zA (Tr.seq (Tr.WX rfl (JX QG) (Tr.skip (Tr.zA (Tr.seq (Tr.block (Tr.sr ?_))))))))))
  obtain ⟨zoD, hRu113, zdt, hcu113⟩ := (zP).el (Js QG)
  obtain ⟨zOc, zOP⟩ := zoD
  have zjP := zdt
  exact Tr.va rfl (fun _ _ a c => zK zDB (a.ev rfl) zP.form (a.ev rfl) (Int.natCast_nonneg _) (QC QG)) (Tr.va rfl (fun _ _ a c => zX (cs := [iv xL1.Y0, iv xL1.Y1, sL zOc xL1.Xs zOP]) zSi zJN (a.ev rfl) (zO.take (rdR hRu113 hcu113 c) 3) rfl) (Tr.alloc 3 (wn rfl) rfl zUw fun zo9 => (Tr.store 3 (cs := [iv xL1.Y0, iv xL1.Y1, sL zOc xL1.Xs zOP]) [iv xL1.Y0, iv xL1.Y1, sL zOc xL1.Xs zOP] (wn rfl) rfl rfl rfl rfl zJN rfl rfl rfl (Tr.nil (Tr.zA (Tr.region (Tr.mv rfl rfl (Tr.va rfl (fun _ _ a c => zB zBb (a.ev rfl)) (Tr.va rfl (fun _ _ a c => zD zDP (a.ev rfl) (rdb c (vs := [iv xL1.Y0, iv xL1.Y1, sL zOc xL1.Xs zOP]) (k := 3) rfl 2) rfl) (Tr.va rfl (fun _ _ a c => zy zCc (a.ev rfl)) (Tr.va rfl (fun _ _ a c => zWk (a.ev rfl) (a.ev rfl) (by decide)) (Tr.va rfl (fun _ _ a c => QA (a.ev rfl) (a.ev rfl)) (Tr.asg rfl rfl (Tr.nil (Tr.zh (Tr.zA (Tr.region (Tr.va rfl (fun _ _ a c => QA (a.ev rfl) (a.ev rfl)) (Tr.mv rfl rfl (Tr.nil (Tr.zf Qe (zV, (iL1 + 1), (w64 (x112 + (w64 (Int.tdiv (xL1.Xs.length : Int) 2))))) ⟨rfl, Ql QG, QC QG, H⟩ (.cons rfl (.cons rfl (.cons rfl (.cons (congrArg (fun z => some (Value.int .i64 z)) (Qk QG zP.form)) .nil)))) .nil)))))))))))))))))))))

theorem zBh (N : Nat) {w : Bs} (p0 : QU) (zF : Option Addr) (zG : Nat) (zP : Sl w.R w.W zN zF zG p0.p.Tools) (zM : Option Addr) (zL : Nat) (QW : Sl w.R w.W zH zM zL p0.p.Steps) (QN : Option Addr) (QP : Nat) (Kn : Sl w.R w.W JU QN QP p0.tools) (QV : Option Addr) (QT : Nat) (bp0 : Nat) (p1 : (List ze)) (za : Option Addr) (zb : Nat) (Qc : Sl w.O w.W zW za zb p1) (r : (Int × (List ze))) (H : VM N p0 p1 = some r) (hE : HF w w.W (LEn [bx bp0 #[iv p0.p.Unit, sL zF p0.p.Tools zG, sL zM p0.p.Steps zL, sL QN p0.tools QP, sL QV p0.image QT, bV p0.clear, iv p0.tool, iv p0.place.X, iv p0.place.Y, bV p0.placed, iv p0.off, iv p0.on] 77, ow QV QT 107 zW p0.image])) : Calls Tryz.prog 125 [pV bp0, sL za p1 zb].toArray w.W fun e W' => ∃ (w' : Bs) (u : (Option Addr × Nat)), w.Le w' ∧ e = .returned (iv r.1) ∧ (SlF u.1 r.2.length u.2) ∧ HF w' W' (LEn [bx bp0 #[iv p0.p.Unit, sL zF p0.p.Tools zG, sL zM p0.p.Steps zL, sL QN p0.tools QP, sL u.1 r.2 u.2, bV p0.clear, iv p0.tool, iv p0.place.X, iv p0.place.Y, bV p0.placed, iv p0.off, iv p0.on] 77, ow u.1 u.2 107 zW r.2]) := by
 unfold VM at H
 have zAb := (hE.sl (k := 1) rfl).form
 have leB := Bs.Le.refl w
 refine Tr.enter (n := 38) Tryz.func125 rfl rfl rfl hE (Tr.sr (Tr.asg rfl rfl (Tr.nil (Tr.zA ?_))))
 have leJ110 := Bs.Le.refl w
 refine Tr.zJD (σ := (List ze) × (Option Addr) × Nat) (fun w s => KV s.1 = some r ∧ SlF s.2.1 s.1.length s.2.2) (fun s => [(0, pV bp0)]) (fun s => [(0, bx bp0 #[iv p0.p.Unit, sL zF p0.p.Tools zG, sL zM p0.p.Steps zL, sL QN p0.tools QP, sL s.2.1 s.1 s.2.2, bV p0.clear, iv p0.tool, iv p0.place.X, iv p0.place.Y, bV p0.placed, iv p0.off, iv p0.on] 77), (4, ow s.2.1 s.2.2 107 zW s.1)]) ?_ ?_
 ·refine Tr.block (Tr.sr (Tr.mv rfl rfl ?_))
  obtain ⟨y113, hy113, H⟩ := bnd H
  refine Tr.Qs (r := (bV y113)) (wn rfl) rfl Tryz.call154 (zI rfl zS) (fun W hW => zJy p1 za zb (Qc.rl.ext hW.Qd) y113 hy113 (HF.start _)) (Tr.va rfl (fun _ _ a c => KI (a.ev rfl)) (Tr.asg rfl rfl (Tr.nil (Tr.zA (Tr.cond rfl H (fun H => ?_) (fun H => ?_))))))
  ·refine Tr.sr (Tr.asg rfl rfl (Tr.nil (Tr.zA (Tr.ret (Tr.QI (Tr.zg ?_))))))
   obtain rfl := oI H
   exact Tr.out (m := [iv 1]) [] (zU rfl zT) (fun W hW => ⟨w, (QV, QT), leB, rfl, zAb, hW.pick (ks := [0, 1]) (by decide) (zR rfl (zR rfl zk))⟩)
  ·refine Tr.sr (Tr.mv rfl rfl (Tr.va rfl (fun _ _ a c => QF (a.ev rfl)) (Tr.va rfl (fun _ _ a c => zB zXQ (a.ev rfl)) (Tr.va rfl (fun _ _ a c => zD zNR (a.ev rfl) (rdb c (vs := [iv p0.p.Unit, sL zF p0.p.Tools zG, sL zM p0.p.Steps zL, sL QN p0.tools QP, sL QV p0.image QT, bV p0.clear, iv p0.tool, iv p0.place.X, iv p0.place.Y, bV p0.placed, iv p0.off, iv p0.on]) (k := 0) rfl 5) rfl) (Tr.asg rfl rfl (Tr.nil (Tr.zA (Tr.cond rfl H (fun H => ?_) (fun H => ?_)))))))))
   ·refine Tr.region (Tr.mv rfl rfl (Tr.mv rfl rfl (Tr.va rfl (fun _ _ a c => QF (a.ev rfl)) (Tr.va rfl (fun _ _ a c => zB zKQ (a.ev rfl)) (Tr.va rfl (fun _ _ a c => zD zP2 (a.ev rfl) (rdb c (vs := [iv p0.p.Unit, sL zF p0.p.Tools zG, sL zM p0.p.Steps zL, sL QN p0.tools QP, sL QV p0.image QT, bV p0.clear, iv p0.tool, iv p0.place.X, iv p0.place.Y, bV p0.placed, iv p0.off, iv p0.on]) (k := 0) rfl 4) rfl) (Tr.mv rfl rfl (Tr.freeze 1 rfl fun w ze5 zah => ?_)))))))
    replace Qc := Qc.le ze5
    replace leJ110 := leJ110.trans ze5
    obtain ⟨Qp, zJc, H⟩ := bnd H
    refine Tr.VW [5] [emp] (U := (Option Addr × Nat)) (fun u => (sL u.1 Qp u.2)) (fun O W u => SlF u.1 Qp.length u.2) (fun u => [ow u.1 u.2 107 zW Qp]) rfl (zR rfl zk) (fun _ => rfl) (wn rfl) rfl Tryz.call155 (zI rfl (zI rfl zS)) (fun W hW hp hE => zJx N p0.image QV QT (zah.zAS (hW.JH hp)) p1 za zb (Qc.zAS (hW.JH hp)) Qp zJc hE) ?_
    intro w u zW7 hu
    obtain ⟨Kz, Ku⟩ := u
    have gy116_0 := hu
    replace zah := zah.le zW7
    replace leJ110 := leJ110.trans zW7
    have zT8 : SlF Kz Qp.length Ku := gy116_0 --@phi
    dsimp only
    exact Tr.va rfl (fun _ _ a c => QF (a.ev rfl)) (Tr.va rfl (fun _ _ a c => zB zKQ (a.ev rfl)) (Tr.store 0 (cs := [sL Kz Qp Ku]) [iv p0.p.Unit, sL zF p0.p.Tools zG, sL zM p0.p.Steps zL, sL QN p0.tools QP, sL Kz Qp Ku, bV p0.clear, iv p0.tool, iv p0.place.X, iv p0.place.Y, bV p0.placed, iv p0.off, iv p0.on] (wn rfl) rfl rfl rfl rfl zZh rfl rfl rfl (Tr.nil (Tr.zh (Tr.ren 5 4 rfl rfl rfl (Tr.zf leJ110 (Qp, Kz, Ku) ⟨H, zT8⟩ (.cons rfl .nil) (.cons rfl (.cons rfl .nil))))))))
   ·refine Tr.region (Tr.mv rfl rfl (Tr.mv rfl rfl (Tr.va rfl (fun _ _ a c => QF (a.ev rfl)) (Tr.va rfl (fun _ _ a c => zB zKQ (a.ev rfl)) (Tr.va rfl (fun _ _ a c => zD zP2 (a.ev rfl) (rdb c (vs := [iv p0.p.Unit, sL zF p0.p.Tools zG, sL zM p0.p.Steps zL, sL QN p0.tools QP, sL QV p0.image QT, bV p0.clear, iv p0.tool, iv p0.place.X, iv p0.place.Y, bV p0.placed, iv p0.off, iv p0.on]) (k := 0) rfl 4) rfl) (Tr.mv rfl rfl (Tr.freeze 1 rfl fun w zPI zIr => ?_)))))))
    replace Qc := Qc.le zPI
    replace leJ110 := leJ110.trans zPI
    obtain ⟨zFT, zau, H⟩ := bnd H
    refine Tr.VW [6] [emp] (U := (Option Addr × Nat)) (fun u => (sL u.1 zFT u.2)) (fun O W u => SlF u.1 zFT.length u.2) (fun u => [ow u.1 u.2 107 zW zFT]) rfl (zR rfl zk) (fun _ => rfl) (wn rfl) rfl Tryz.call36 (zI rfl (zI rfl zS)) (fun W hW hp hE => zLC N p0.image QV QT (zIr.zAS (hW.JH hp)) p1 za zb (Qc.zAS (hW.JH hp)) zFT zau hE) ?_
    intro w u ze4 hu
    obtain ⟨zOX, zOJ⟩ := u
    have gy120_0 := hu
    replace zIr := zIr.le ze4
    replace leJ110 := leJ110.trans ze4
    have zbd : SlF zOX zFT.length zOJ := gy120_0 --@phi
    dsimp only
    exact Tr.va rfl (fun _ _ a c => QF (a.ev rfl)) (Tr.va rfl (fun _ _ a c => zB zKQ (a.ev rfl)) (Tr.store 0 (cs := [sL zOX zFT zOJ]) [iv p0.p.Unit, sL zF p0.p.Tools zG, sL zM p0.p.Steps zL, sL QN p0.tools QP, sL zOX zFT zOJ, bV p0.clear, iv p0.tool, iv p0.place.X, iv p0.place.Y, bV p0.placed, iv p0.off, iv p0.on] (wn rfl) rfl rfl rfl rfl zZh rfl rfl rfl (Tr.nil (Tr.zh (Tr.ren 6 4 rfl rfl rfl (Tr.zf leJ110 (zFT, zOX, zOJ) ⟨H, zbd⟩ (.cons rfl .nil) (.cons rfl (.cons rfl .nil))))))))
 ·intro w s hlJ111 hs
  obtain ⟨zTi, zUv, zUd⟩ := s
  obtain ⟨H, zXK⟩ := hs
  replace H : KV zTi = some r := H
  replace leB := leB.trans hlJ111
  replace zXK : SlF zUv zTi.length zUd := zXK
  unfold KV at H
  dsimp only
  refine Tr.seq (Tr.sr (Tr.mv rfl rfl (Tr.va rfl (fun _ _ a c => QF (a.ev rfl)) (Tr.va rfl (fun _ _ a c => zB zKQ (a.ev rfl)) (Tr.va rfl (fun _ _ a c => zD zP2 (a.ev rfl) (rdb c (vs := [iv p0.p.Unit, sL zF p0.p.Tools zG, sL zM p0.p.Steps zL, sL QN p0.tools QP, sL zUv zTi zUd, bV p0.clear, iv p0.tool, iv p0.place.X, iv p0.place.Y, bV p0.placed, iv p0.off, iv p0.on]) (k := 0) rfl 4) rfl) ?_)))))
  obtain ⟨y112, hy112, H⟩ := bnd H
  refine Tr.Qs (r := (iv y112)) (wn rfl) rfl Tryz.call89 (zI rfl zS) (fun W hW => zFK zTi zUv zUd (hW.zBX (k := 4) rfl) y112 hy112 (HF.start _)) (Tr.va rfl (fun _ _ a c => WO (a.ev rfl) (a.ev rfl)) (Tr.nil (Tr.zA (Tr.cond rfl H (fun H => ?_) (fun H => ?_)))))
  ·refine Tr.sr (Tr.asg rfl rfl (Tr.nil (Tr.zA (Tr.ret (Tr.zg ?_)))))
   obtain rfl := oI H
   exact Tr.out (m := [iv 2]) [] (zU rfl zT) (fun W hW => ⟨w, (zUv, zUd), leB, rfl, zXK, hW.pick (ks := [0, 4]) (by decide) (zR rfl (zR rfl zk))⟩)
  ·refine Tr.skip (Tr.zA (Tr.sr (Tr.asg rfl rfl (Tr.nil (Tr.zA (Tr.ret ?_))))))
   obtain rfl := oI H
   exact Tr.out (m := [iv 0]) [] (zU rfl zT) (fun W hW => ⟨w, (zUv, zUd), leB, rfl, zXK, hW.pick (ks := [0, 4]) (by decide) (zR rfl (zR rfl zk))⟩)

end Go.Proofs.YtoageaoknnnfbaaGreatDoor
