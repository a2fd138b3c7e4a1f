/- The walks: each function computes its plain function. -/
import Derived.Test.YtoageaoknnnfbaaGreatDoorXWd
namespace Go.Proofs.YtoageaoknnnfbaaGreatDoor
open Go.RowKit
set_option maxRecDepth 100000
set_option maxHeartbeats 1000000
theorem zQA (N : Nat) {w : Bs} (p0 : zm) (zC : Option Addr) (zD : Nat) (zU : Sl w.R w.W zP zC zD p0.Tools) (zO : Option Addr) (zN : Nat) (Qe : Sl w.R w.W zH zO zN p0.Steps) (r : (ByteArray × Int)) (H : zEv N p0 = some r) (hE : HF w w.W E0) : Calls Tryz.prog 25 [.agg #[iv p0.Unit, sL zC p0.Tools zD, sL zO p0.Steps zN]].toArray w.W fun e W' => e = .returned (.tuple #[sv r.1, iv r.2]) ∧ HF w W' E0 := by
 unfold zEv at H
 have leB := Bs.Le.refl w
 refine Tr.enter (n := 61) Tryz.func25 rfl rfl rfl hE ?_
 refine Tr.sr (Tr.box 1 (cs := [iv p0.Unit, sL zC p0.Tools zD, sL zO p0.Steps zN]) (wn rfl) rfl rfl rfl fun QE => ?_)
 refine Tr.asg rfl rfl (Tr.asg rfl rfl (Tr.nil (Tr.zA (Tr.seq (Tr.sr (Tr.va rfl (fun _ _ a c => zZ (cs := [iv p0.Unit, sL zC p0.Tools zD, sL zO p0.Steps zN]) WU VD (a.ev rfl) (zR.take (rdb c (vs := [iv p0.Unit, sL zC p0.Tools zD, sL zO p0.Steps zN]) (k := 1) rfl 0) 3) rfl) ?_))))))
 obtain ⟨y101, hy101, H⟩ := bnd H
 refine Tr.JI (r := (iv y101)) (wn rfl) rfl Tryz.call21 (zI rfl zT) (fun W hW => Wx N p0 zC zD (zU.ext hW.Qx) zO zN (Qe.ext hW.Qx) y101 hy101 (HF.start _)) ?_
 refine Tr.asg rfl rfl (Tr.nil (Tr.zA (Tr.sr (Tr.mv rfl rfl (Tr.va rfl (fun _ _ a c => KY (a.ev rfl) (a.ev rfl)) ?_)))))
 refine Tr.nil (Tr.zA (Tr.cond rfl H (fun H => ?_) (fun H => ?_)))
 ·refine Tr.sr (Tr.mv rfl rfl (Tr.asg rfl rfl (Tr.asg rfl rfl (Tr.nil (Tr.zA (Tr.ret (Tr.zi ?_)))))))
  obtain rfl := oI H
  exact Tr.out (m := [sv ByteArray.empty, iv y101]) [] (zW rfl (zW rfl zX)) (fun W hW => ⟨rfl, hW.low leB⟩)
 ·refine Tr.skip (Tr.zA (Tr.sr (Tr.zhx (e := 5) 2 (wn rfl) rfl zhW fun Vs => ?_)))
  refine Tr.nil (Tr.zA (Tr.sr (Tr.va rfl (fun _ _ a c => zB WS (a.ev rfl)) ?_)))
  refine Tr.va rfl (fun _ _ a c => zF QH (a.ev rfl) (rdb c (vs := [iv p0.Unit, sL zC p0.Tools zD, sL zO p0.Steps zN]) (k := 1) rfl 0) rfl) ?_
  obtain ⟨zo, zDf, H⟩ := bnd H
  refine Tr.JI (r := (sv zo)) (wn rfl) rfl Tryz.call46 (zI rfl zT) (fun W hW => zDq p0.Unit zo zDf (HF.start _)) ?_
  obtain ⟨zhp, ht104, H⟩ := bnd H
  refine Tr.va rfl (fun _ _ a c => VS (a.ev rfl) (a.ev rfl) ht104) ?_
  obtain ⟨t105, ht105, H⟩ := bnd H
  refine Tr.va rfl (fun _ _ a c => VS (a.ev rfl) (a.ev rfl) ht105) ?_
  obtain ⟨QZ, zI8, H⟩ := bnd H
  refine Tr.VM [2] [sb 95 5 Vs none 0 ByteArray.empty] (U := (Option Addr × Nat)) (fun u => (.tuple #[iv ((t105 : ByteArray).size : Int), .nilIface])) (fun u => True) (fun u => [sb 95 5 Vs u.1 u.2 QZ]) rfl (zQ rfl zf) (fun _ => rfl) (wn rfl) rfl Tryz.call45 (zI rfl (zI rfl zT)) (fun W hW hp hE => QL ByteArray.empty none 0 Vs t105 QZ zI8 hE) ?_
  intro u hu
  obtain ⟨JE, JD⟩ := u
  have gy106_0 := hu
  have zJC : True := gy106_0 --@phi
  show Tr _ _ (uf _ 20 (.tuple #[iv ((t105 : ByteArray).size : Int), .nilIface])) (up _ 2 (sb 95 5 Vs JE JD QZ)) _
  refine Tr.nil (Tr.zA (Tr.seq (Tr.sr (Tr.va rfl (fun _ _ a c => zB zEO (a.ev rfl)) ?_))))
  refine Tr.va rfl (fun _ _ a c => zF zLu (a.ev rfl) (rdb c (vs := [iv p0.Unit, sL zC p0.Tools zD, sL zO p0.Steps zN]) (k := 1) rfl 1) rfl) ?_
  refine Tr.va rfl (fun _ _ a c => QJ zKW (a.ev rfl)) ?_
  refine Tr.mv rfl rfl (Tr.nil (Tr.zA (Tr.block (Tr.loop (σ := (List zV) × Nat × ByteArray × (Option Addr) × Nat) (fun m w s => m = s.1.length + 1 ∧ s.1 = List.drop s.2.1 p0.Tools ∧ s.2.1 ≤ p0.Tools.length ∧ WP N p0 s.1 s.2.1 s.2.2.1 = some r) (fun s => [(1, pV QE), (5, pV Vs), (22, sL zC p0.Tools zD), (23, iv (p0.Tools.length : Int)), (24, iv (s.2.1 : Int))]) (fun s => [(1, bx QE #[iv p0.Unit, sL zC p0.Tools zD, sL zO p0.Steps zN] 25), (2, sb 95 5 Vs s.2.2.2.1 s.2.2.2.2 s.2.2.1)]) (p0.Tools.length + 1) (p0.Tools, 0, QZ, JE, JD) ⟨rfl, rfl, Nat.zero_le _, H⟩ (.cons rfl (.cons rfl (.cons rfl (.cons rfl (.cons rfl .nil))))) (.cons rfl (.cons rfl .nil)) (fun _ _ h => absurd h.1 (by simp)) ?_))))
  intro w Vl m s hs
  obtain ⟨JF, iL3, m178, Am178, cm178⟩ := s
  obtain ⟨zHs, zAA, hiL3, H⟩ := hs
  replace zAA : JF = List.drop iL3 p0.Tools := zAA
  replace H : WP N p0 JF iL3 m178 = some r := H
  replace zHs : m + 1 = JF.length + 1 := zHs
  replace zU := zU.leR Vl
  replace Qe := Qe.leR Vl
  replace leB := leB.trans Vl
  obtain rfl : m = JF.length := by omega
  clear zHs
  show Tr _ _ (LF [(1, pV QE), (5, pV Vs), (22, sL zC p0.Tools zD), (23, iv (p0.Tools.length : Int)), (24, iv (iL3 : Int))]) (LE [(1, bx QE #[iv p0.Unit, sL zC p0.Tools zD, sL zO p0.Steps zN] 25), (2, sb 95 5 Vs Am178 cm178 m178)]) _
  cases JF with
  | nil =>
   rw [WP.eq_1] at H
   refine Tr.sr (Tr.va rfl (fun _ _ a c => QI (a.ev rfl) (a.ev rfl)) ?_)
   refine Tr.nil (Tr.zA (Tr.seq (Tr.WL rfl (JS zAA) ?_)))
   refine Tr.exit (Tr.zk (Tr.zk (Tr.QV (Tr.zA (Tr.sr (Tr.va rfl (fun _ _ a c => zB zDj (a.ev rfl)) ?_))))))
   refine Tr.va rfl (fun _ _ a c => zF zDp (a.ev rfl) (rdb c (vs := [iv p0.Unit, sL zC p0.Tools zD, sL zO p0.Steps zN]) (k := 1) rfl 2) rfl) ?_
   obtain ⟨zUw, zi5, H⟩ := bnd H
   refine Tr.VM [2] [sb 95 5 Vs Am178 cm178 m178] (U := (Option Addr × Nat)) (fun u => (.tuple #[])) (fun u => True) (fun u => [sb 95 5 Vs u.1 u.2 zUw]) rfl (zQ rfl zf) (fun _ => rfl) (wn rfl) rfl Tryz.call48 (zI rfl (zI rfl zT)) (fun W hW hp hE => zEr N m178 Am178 cm178 Vs p0.Steps zO zN (Qe.ext (hW.QM hp)) zUw zi5 hE) ?_
   intro u hu
   obtain ⟨zSk, zSP⟩ := u
   have gy179_0 := hu
   have zkk : True := gy179_0 --@phi
   show Tr _ _ (uf _ 57 (.tuple #[])) (up _ 2 (sb 95 5 Vs zSk zSP zUw)) _
   refine Tr.nil (Tr.zA (Tr.seq (Tr.sr ?_)))
   obtain ⟨zQL, zi4, H⟩ := bnd H
   refine Tr.VM [2] [sb 95 5 Vs zSk zSP zUw] (U := (Option Addr × Nat)) (fun u => (iv zQL.1)) (fun u => True) (fun u => [sb 95 5 Vs u.1 u.2 zQL.2]) rfl (zQ rfl zf) (fun _ => rfl) (wn rfl) rfl Tryz.call49 (zI rfl zT) (fun W hW hp hE => zG3 zUw zSk zSP Vs zQL zi4 hE) ?_
   intro u hu
   obtain ⟨zSj, zSO⟩ := u
   have gy181_0 := hu
   have zkj : True := gy181_0 --@phi
   show Tr _ _ (uf _ 58 (iv zQL.1)) (up _ 2 (sb 95 5 Vs zSj zSO zQL.2)) _
   refine Tr.va rfl (fun _ _ a c => VY (a.ev rfl) (a.ev rfl)) ?_
   refine Tr.nil (Tr.zA (Tr.cond rfl H (fun H => ?_) (fun H => ?_)))
   ·refine Tr.sr (Tr.asg rfl rfl (Tr.asg rfl rfl (Tr.nil (Tr.zA (Tr.ret (Tr.zi ?_))))))
    obtain rfl := oI H
    exact Tr.out (m := [sv ByteArray.empty, iv 2]) [] (zW rfl (zW rfl zX)) (fun W hW => ⟨rfl, hW.low leB⟩)
   ·refine Tr.skip (Tr.zA (Tr.sr ?_))
    obtain ⟨zFn, zZf, H⟩ := bnd H
    refine Tr.VM [2] [sb 95 5 Vs zSj zSO zQL.2] (U := (Option Addr × Nat)) (fun u => (sv zFn.1)) (fun u => True) (fun u => [sb 95 5 Vs u.1 u.2 zFn.2]) rfl (zQ rfl zf) (fun _ => rfl) (wn rfl) rfl Tryz.call50 (zI rfl zT) (fun W hW hp hE => zFY zQL.2 zSj zSO Vs zFn zZf hE) ?_
    intro u hu
    obtain ⟨zEV, zEP⟩ := u
    have gy183_0 := hu
    have zaO : True := gy183_0 --@phi
    show Tr _ _ (uf _ 60 (sv zFn.1)) (up _ 2 (sb 95 5 Vs zEV zEP zFn.2)) _
    refine Tr.asg rfl rfl (Tr.asg rfl rfl (Tr.nil (Tr.zA (Tr.ret ?_))))
    obtain rfl := oI H
    exact Tr.out (m := [sv zFn.1, iv 0]) [] (zW rfl (zW rfl zX)) (fun W hW => ⟨rfl, hW.low leB⟩)
  | cons xL3 JF =>
   rw [WP.eq_2] at H
   refine Tr.sr (Tr.va rfl (fun _ _ a c => QI (a.ev rfl) (a.ev rfl)) ?_)
   refine Tr.nil (Tr.zA (Tr.seq (Tr.WK rfl (Jt zAA) ?_)))
   refine Tr.skip (Tr.zA (Tr.seq (Tr.block (Tr.sr ?_))))
   obtain ⟨zmN, hRu185, zcA, hcu185⟩ := (zU).el (KL zAA)
   obtain ⟨zGs, zGi⟩ := zmN
   have zEH := zcA
   replace zEH : Sl w.R w.W zK zGs zGi xL3.Rects := zEH
   refine Tr.va rfl (fun _ _ a c => zM zKa (a.ev rfl) zU.form (a.ev rfl) (Int.natCast_nonneg _) (QB zAA)) ?_
   refine Tr.va rfl (fun _ _ a c => zZ (cs := [sv xL3.Name, sL zGs xL3.Rects zGi]) zP5 zG8 (a.ev rfl) (zR.take (rdR hRu185 hcu185 c) 2) rfl) ?_
   refine Tr.alloc 17 (wn rfl) rfl zV3 fun znY => ?_
   refine Tr.store 17 (cs := [sv xL3.Name, sL zGs xL3.Rects zGi]) [sv xL3.Name, sL zGs xL3.Rects zGi] (wn rfl) rfl rfl rfl rfl zG8 rfl rfl rfl ?_
   refine Tr.nil (Tr.zA (Tr.sr (Tr.va rfl (fun _ _ a c => zB zHu (a.ev rfl)) ?_)))
   refine Tr.va rfl (fun _ _ a c => zF zKy (a.ev rfl) (rdb c (vs := [sv xL3.Name, sL zGs xL3.Rects zGi]) (k := 17) rfl 0) rfl) ?_
   obtain ⟨zYj, ht187, H⟩ := bnd H
   refine Tr.va rfl (fun _ _ a c => VS (a.ev rfl) (a.ev rfl) ht187) ?_
   obtain ⟨zRW, zi3, H⟩ := bnd H
   refine Tr.VM [2] [sb 95 5 Vs Am178 cm178 m178] (U := (Option Addr × Nat)) (fun u => (.tuple #[iv ((zYj : ByteArray).size : Int), .nilIface])) (fun u => True) (fun u => [sb 95 5 Vs u.1 u.2 zRW]) rfl (zQ rfl zf) (fun _ => rfl) (wn rfl) rfl Tryz.call45 (zI rfl (zI rfl zT)) (fun W hW hp hE => QL m178 Am178 cm178 Vs zYj zRW zi3 hE) ?_
   intro u hu
   obtain ⟨zXS, zW0⟩ := u
   have gy188_0 := hu
   have zki : True := gy188_0 --@phi
   show Tr _ _ (uf _ 31 (.tuple #[iv ((zYj : ByteArray).size : Int), .nilIface])) (up _ 2 (sb 95 5 Vs zXS zW0 zRW)) _
   refine Tr.nil (Tr.zA (Tr.seq (Tr.sr (Tr.va rfl (fun _ _ a c => zB zFS (a.ev rfl)) ?_))))
   refine Tr.va rfl (fun _ _ a c => zF zNX (a.ev rfl) (rdb c (vs := [sv xL3.Name, sL zGs xL3.Rects zGi]) (k := 17) rfl 1) rfl) ?_
   refine Tr.va rfl (fun _ _ a c => QJ zA8 (a.ev rfl)) ?_
   refine Tr.mv rfl rfl (Tr.nil (Tr.zA (Tr.block (Tr.loop (σ := (List zS) × Nat × ByteArray × (Option Addr) × Nat) (fun m w s => m = s.1.length + 1 ∧ s.1 = List.drop s.2.1 xL3.Rects ∧ s.2.1 ≤ xL3.Rects.length ∧ zBP (WP N p0 JF (iL3 + 1)) s.1 s.2.1 s.2.2.1 = some r) (fun s => [(1, pV QE), (5, pV Vs), (22, sL zC p0.Tools zD), (23, iv (p0.Tools.length : Int)), (24, iv (iL3 : Int)), (33, sL zGs xL3.Rects zGi), (34, iv (xL3.Rects.length : Int)), (35, iv (s.2.1 : Int))]) (fun s => [(1, bx QE #[iv p0.Unit, sL zC p0.Tools zD, sL zO p0.Steps zN] 25), (2, sb 95 5 Vs s.2.2.2.1 s.2.2.2.2 s.2.2.1)]) (xL3.Rects.length + 1) (xL3.Rects, 0, zRW, zXS, zW0) ⟨rfl, rfl, Nat.zero_le _, H⟩ (.cons rfl (.cons rfl (.cons rfl (.cons rfl (.cons rfl (.cons rfl (.cons rfl (.cons rfl .nil)))))))) (.cons rfl (.cons rfl .nil)) (fun _ _ h => absurd h.1 (by simp)) ?_))))
   intro w zCS m s hs
   obtain ⟨Ve, iL4, m208, Am208, cm208⟩ := s
   obtain ⟨zPh, zEJ, hiL4, H⟩ := hs
   replace zEJ : Ve = List.drop iL4 xL3.Rects := zEJ
   replace H : zBP (WP N p0 JF (iL3 + 1)) Ve iL4 m208 = some r := H
   replace zPh : m + 1 = Ve.length + 1 := zPh
   replace zU := zU.leR zCS
   replace zEH := zEH.leR zCS
   replace Vl := Vl.trans zCS
   obtain rfl : m = Ve.length := by omega
   clear zPh
   show Tr _ _ (LF [(1, pV QE), (5, pV Vs), (22, sL zC p0.Tools zD), (23, iv (p0.Tools.length : Int)), (24, iv (iL3 : Int)), (33, sL zGs xL3.Rects zGi), (34, iv (xL3.Rects.length : Int)), (35, iv (iL4 : Int))]) (LE [(1, bx QE #[iv p0.Unit, sL zC p0.Tools zD, sL zO p0.Steps zN] 25), (2, sb 95 5 Vs Am208 cm208 m208)]) _
   cases Ve with
   | nil =>
    rw [zBP.eq_1] at H
    refine Tr.sr (Tr.va rfl (fun _ _ a c => QI (a.ev rfl) (a.ev rfl)) ?_)
    refine Tr.nil (Tr.zA (Tr.seq (Tr.WL rfl (JS zEJ) ?_)))
    refine Tr.exit (Tr.zk (Tr.zk (Tr.QV (Tr.zA (Tr.region ?_)))))
    obtain ⟨zMF, zZe, H⟩ := bnd H
    refine Tr.VM [2] [sb 95 5 Vs Am208 cm208 m208] (U := (Option Addr × Nat)) (fun u => (.tuple #[iv (((⟨#[10]⟩) : ByteArray).size : Int), .nilIface])) (fun u => True) (fun u => [sb 95 5 Vs u.1 u.2 zMF]) rfl (zQ rfl zf) (fun _ => rfl) (wn rfl) rfl Tryz.call45 (zI rfl (zI rfl zT)) (fun W hW hp hE => QL m208 Am208 cm208 Vs (⟨#[10]⟩) zMF zZe hE) ?_
    intro u hu
    obtain ⟨zL7, zLk⟩ := u
    have gy209_0 := hu
    have zaN : True := gy209_0 --@phi
    show Tr _ _ (uf _ 53 (.tuple #[iv (((⟨#[10]⟩) : ByteArray).size : Int), .nilIface])) (up _ 2 (sb 95 5 Vs zL7 zLk zMF)) _
    refine Tr.nil (Tr.zl (Tr.zA (Tr.region (Tr.va rfl (fun _ _ a c => QK (a.ev rfl) (a.ev rfl)) ?_))))
    exact Tr.mv rfl rfl (Tr.nil (Tr.zn Vl (JF, (iL3 + 1), zMF, zL7, zLk) ⟨rfl, Qu zAA, QB zAA, H⟩ (.cons rfl (.cons rfl (.cons rfl (.cons rfl (.cons (congrArg (fun z => some (Value.int .i64 z)) (Qt zAA zU.form)) .nil))))) (.cons rfl (.cons rfl .nil))))
   | cons xL4 Ve =>
    rw [zBP.eq_2] at H
    refine Tr.sr (Tr.va rfl (fun _ _ a c => QI (a.ev rfl) (a.ev rfl)) ?_)
    refine Tr.nil (Tr.zA (Tr.seq (Tr.WK rfl (Jt zEJ) ?_)))
    refine Tr.skip (Tr.zA (Tr.seq (Tr.block (Tr.sr (Tr.va rfl (fun _ _ a c => zM zCj (a.ev rfl) zEH.form (a.ev rfl) (Int.natCast_nonneg _) (QB zEJ)) ?_)))))
    refine Tr.va rfl (fun _ _ a c => zZ (cs := [iv xL4.X0, iv xL4.Y0, iv xL4.X1, iv xL4.Y1]) zBz Ku (a.ev rfl) (zR.take (rdF Vg zEH (KL zEJ) c) 4) rfl) ?_
    refine Tr.alloc 22 (wn rfl) rfl zD3 fun zlL => ?_
    refine Tr.store 22 (cs := [iv xL4.X0, iv xL4.Y0, iv xL4.X1, iv xL4.Y1]) [iv xL4.X0, iv xL4.Y0, iv xL4.X1, iv xL4.Y1] (wn rfl) rfl rfl rfl rfl Ku rfl rfl rfl ?_
    refine Tr.nil (Tr.zA (Tr.region (Tr.va rfl (fun _ _ a c => zB WR (a.ev rfl)) ?_)))
    refine Tr.va rfl (fun _ _ a c => zF QH (a.ev rfl) (rdb c (vs := [iv xL4.X0, iv xL4.Y0, iv xL4.X1, iv xL4.Y1]) (k := 22) rfl 0) rfl) ?_
    refine Tr.va rfl (fun _ _ a c => zB zAk (a.ev rfl)) ?_
    refine Tr.va rfl (fun _ _ a c => zF QH (a.ev rfl) (rdb c (vs := [iv xL4.X0, iv xL4.Y0, iv xL4.X1, iv xL4.Y1]) (k := 22) rfl 1) rfl) ?_
    refine Tr.build (vs := [(0, iv xL4.X0), (1, iv xL4.Y0)]) (cs := [iv xL4.X0, iv xL4.Y0]) (wn rfl) rfl (zq rfl (zq rfl Qi)) (by kernel_rfl) ?_
    refine Tr.va rfl (fun _ _ a c => zB zC5 (a.ev rfl)) ?_
    refine Tr.va rfl (fun _ _ a c => zF QH (a.ev rfl) (rdb c (vs := [iv xL4.X0, iv xL4.Y0, iv xL4.X1, iv xL4.Y1]) (k := 22) rfl 2) rfl) ?_
    refine Tr.va rfl (fun _ _ a c => zB zDi (a.ev rfl)) ?_
    refine Tr.va rfl (fun _ _ a c => zF QH (a.ev rfl) (rdb c (vs := [iv xL4.X0, iv xL4.Y0, iv xL4.X1, iv xL4.Y1]) (k := 22) rfl 3) rfl) ?_
    refine Tr.build (vs := [(0, iv xL4.X1), (1, iv xL4.Y1)]) (cs := [iv xL4.X1, iv xL4.Y1]) (wn rfl) rfl (zq rfl (zq rfl Qi)) (by kernel_rfl) ?_
    refine Tr.buildSlice 23 (e := 43) (vs := [(0, .agg #[iv xL4.X0, iv xL4.Y0]), (1, .agg #[iv xL4.X1, iv xL4.Y1])]) (cs := [iv xL4.X0, iv xL4.Y0, iv xL4.X1, iv xL4.Y1]) (wn rfl) rfl (zq rfl (zq rfl Qi)) (by kernel_rfl) fun zm0 => ?_
    refine Tr.own 23 QU [(zJ.mk xL4.X0 xL4.Y0), (zJ.mk xL4.X1 xL4.Y1)] (css := [[iv xL4.X0, iv xL4.Y0], [iv xL4.X1, iv xL4.Y1]]) rfl (.cons ⟨(), trivial, rfl⟩ (.cons ⟨(), trivial, rfl⟩ .nil)) rfl (by decide) (zCR rfl) ?_
    obtain ⟨zUv, ziv, H⟩ := bnd H
    refine Tr.JI (r := (sv zUv)) (wn rfl) rfl Tryz.call47 (zI rfl zT) (fun W hW => zAN [(zJ.mk xL4.X0 xL4.Y0), (zJ.mk xL4.X1 xL4.Y1)] (some ⟨zm0, 0, none⟩) 2 (hW.zEA (k := 23) rfl) zUv ziv (HF.start _)) ?_
    obtain ⟨zXd, ziu, H⟩ := bnd H
    refine Tr.VM [2] [sb 95 5 Vs Am208 cm208 m208] (U := (Option Addr × Nat)) (fun u => (.tuple #[iv ((zUv : ByteArray).size : Int), .nilIface])) (fun u => True) (fun u => [sb 95 5 Vs u.1 u.2 zXd]) rfl (zQ rfl zf) (fun _ => rfl) (wn rfl) rfl Tryz.call45 (zI rfl (zI rfl zT)) (fun W hW hp hE => QL m208 Am208 cm208 Vs zUv zXd ziu hE) ?_
    intro u hu
    obtain ⟨zXO, zWw⟩ := u
    have gy214_0 := hu
    have zke : True := gy214_0 --@phi
    show Tr _ _ (uf _ 51 (.tuple #[iv ((zUv : ByteArray).size : Int), .nilIface])) (up _ 2 (sb 95 5 Vs zXO zWw zXd)) _
    refine Tr.nil (Tr.zl (Tr.zA (Tr.region (Tr.va rfl (fun _ _ a c => QK (a.ev rfl) (a.ev rfl)) ?_))))
    exact Tr.mv rfl rfl (Tr.nil (Tr.zn zCS (Ve, (iL4 + 1), zXd, zXO, zWw) ⟨rfl, Qu zEJ, QB zEJ, H⟩ (.cons rfl (.cons rfl (.cons rfl (.cons rfl (.cons rfl (.cons rfl (.cons rfl (.cons (congrArg (fun z => some (Value.int .i64 z)) (Qt zEJ zEH.form)) .nil)))))))) (.cons rfl (.cons rfl .nil))))

theorem zA1 (N : Nat) {w : Bs}  (r : Bool) (H : KN N = some r) (hE : HF w w.W E0) : Calls Tryz.prog 8 [].toArray w.W fun e W' => e = .returned (bV r) ∧ HF w W' E0 := by
 unfold KN at H
 have leB := Bs.Le.refl w
 refine Tr.enter (n := 14) Tryz.func8 rfl rfl rfl hE ?_
 refine Tr.sr (Tr.asg rfl rfl (Tr.nil (Tr.zA (Tr.sr (Tr.build (vs := [(0, iv 7)]) (cs := [iv 7, .slice none 0 0, .slice none 0 0]) (wn rfl) rfl (zq rfl Qi) (by kernel_rfl) ?_)))))
 obtain ⟨zy, Ws, H⟩ := bnd H
 refine Tr.JI (r := (.tuple #[sv zy.1, iv zy.2])) (wn rfl) rfl Tryz.call25 (zI rfl zT) (fun W hW => zQA N (zm.mk 7 [] []) none 0 (Sl.nil _ _ _) none 0 (Sl.nil _ _ _) zy Ws (HF.start _)) ?_
 refine Tr.mv rfl rfl (Tr.va rfl (fun _ _ a c => Qq (a.ev rfl) rfl) ?_)
 refine Tr.va rfl (fun _ _ a c => Qq (a.ev rfl) rfl) ?_
 refine Tr.asg rfl rfl (Tr.asg rfl rfl (Tr.nil (Tr.zA (Tr.sr (Tr.mv rfl rfl (Tr.va rfl (fun _ _ a c => Qn (a.ev rfl) (a.ev rfl)) ?_))))))
 refine Tr.mv rfl rfl (Tr.Vr 3 [(13, bV ((zy.2 == 0) && (sEq zy.1 (⟨#[117, 110, 105, 116, 32, 55, 10]⟩))))] [] ?_ ?_)
 ·cases znF : (zy.2 == 0)
  ·refine Tr.pass rfl rfl rfl rfl rfl (by decide) ?_
   refine Tr.pass rfl rfl rfl rfl rfl (by decide) ?_
   refine Tr.va rfl (fun _ _ a c => zx (a.ev rfl) (a.ev rfl)) ?_
   exact Tr.nil (Tr.JM (.cons rfl .nil) .nil)
  ·refine Tr.val (wg rfl rfl rfl) rfl (fun _ _ a c => run_move (a.ev rfl)) ?_
   refine Tr.val (wg rfl rfl rfl) rfl (fun _ _ a c => zTH (a.ev rfl) (a.ev rfl)) ?_
   refine Tr.va rfl (fun _ _ a c => zw (a.ev rfl) (a.ev rfl)) ?_
   exact Tr.nil (Tr.JM (.cons rfl .nil) .nil)
 ·show Tr _ _ (LF [(13, bV ((zy.2 == 0) && (sEq zy.1 (⟨#[117, 110, 105, 116, 32, 55, 10]⟩))))]) (LE []) _
  refine Tr.asg rfl rfl (Tr.nil (Tr.zA (Tr.ret ?_)))
  obtain rfl := oI H
  exact Tr.out (m := [bV ((zy.2 == 0) && (sEq zy.1 (⟨#[117, 110, 105, 116, 32, 55, 10]⟩)))]) [] (zW rfl zX) (fun W hW => ⟨rfl, hW.low leB⟩)

theorem zIl {w : Bs} (p0 : (List zS)) (zC : Option Addr) (zD : Nat) (zU : Sl w.R w.W zK zC zD p0) (r : Int) (H : zAU p0 = some r) (hE : HF w w.W E0) : Calls Tryz.prog 79 [sL zC p0 zD].toArray w.W fun e W' => e = .returned (iv r) ∧ HF w W' E0 := by
 unfold zAU at H
 have leB := Bs.Le.refl w
 refine Tr.enter (n := 30) Tryz.func79 rfl rfl rfl hE ?_
 refine Tr.sr (Tr.asg rfl rfl (Tr.nil (Tr.zA (Tr.seq (Tr.sr (Tr.mv rfl rfl (Tr.va rfl (fun _ _ a c => QJ zA8 (a.ev rfl)) ?_)))))))
 refine Tr.va rfl (fun _ _ a c => VY (a.ev rfl) (a.ev rfl)) ?_
 refine Tr.nil (Tr.zA (Tr.cond rfl H (fun H => ?_) (fun H => ?_)))
 ·refine Tr.sr (Tr.asg rfl rfl (Tr.nil (Tr.zA (Tr.ret (Tr.zi ?_)))))
  obtain rfl := oI H
  exact Tr.out (m := [iv 2]) [] (zW rfl zX) (fun W hW => ⟨rfl, hW.low leB⟩)
 ·refine Tr.skip (Tr.zA (Tr.seq (Tr.sr (Tr.mv rfl rfl (Tr.va rfl (fun _ _ a c => QJ zA8 (a.ev rfl)) ?_)))))
  refine Tr.mv rfl rfl (Tr.nil (Tr.zA (Tr.block (Tr.loop (σ := (List zS) × Nat) (fun m w s => m = s.1.length + 1 ∧ s.1 = List.drop s.2 p0 ∧ s.2 ≤ p0.length ∧ Jn s.1 s.2 = some r) (fun s => [(8, sL zC p0 zD), (9, iv (p0.length : Int)), (10, iv (s.2 : Int))]) (fun s => []) (p0.length + 1) (p0, 0) ⟨rfl, rfl, Nat.zero_le _, H⟩ (.cons rfl (.cons rfl (.cons rfl .nil))) .nil (fun _ _ h => absurd h.1 (by simp)) ?_))))
  intro w Qd m s hs
  obtain ⟨zY, iL1⟩ := s
  obtain ⟨Kj, QF, hiL1, H⟩ := hs
  replace QF : zY = List.drop iL1 p0 := QF
  replace H : Jn zY iL1 = some r := H
  replace Kj : m + 1 = zY.length + 1 := Kj
  replace zU := zU.leR Qd
  replace leB := leB.trans Qd
  obtain rfl : m = zY.length := by omega
  clear Kj
  show Tr _ _ (LF [(8, sL zC p0 zD), (9, iv (p0.length : Int)), (10, iv (iL1 : Int))]) (LE []) _
  cases zY with
  | nil =>
   rw [Jn.eq_1] at H
   refine Tr.sr (Tr.va rfl (fun _ _ a c => QI (a.ev rfl) (a.ev rfl)) ?_)
   refine Tr.nil (Tr.zA (Tr.seq (Tr.WL rfl (JS QF) ?_)))
   refine Tr.exit (Tr.zk (Tr.zk (Tr.QV (Tr.zA (Tr.sr (Tr.asg rfl rfl (Tr.nil (Tr.zA (Tr.ret ?_)))))))))
   obtain rfl := oI H
   exact Tr.out (m := [iv 0]) [] (zW rfl zX) (fun W hW => ⟨rfl, hW.low leB⟩)
  | cons xL1 zY =>
   rw [Jn.eq_2] at H
   refine Tr.sr (Tr.va rfl (fun _ _ a c => QI (a.ev rfl) (a.ev rfl)) ?_)
   refine Tr.nil (Tr.zA (Tr.seq (Tr.WK rfl (Jt QF) ?_)))
   refine Tr.skip (Tr.zA (Tr.seq (Tr.block (Tr.sr (Tr.va rfl (fun _ _ a c => zM zCj (a.ev rfl) zU.form (a.ev rfl) (Int.natCast_nonneg _) (QB QF)) ?_)))))
   refine Tr.va rfl (fun _ _ a c => zZ (cs := [iv xL1.X0, iv xL1.Y0, iv xL1.X1, iv xL1.Y1]) zBz Ku (a.ev rfl) (zR.take (rdF Vg zU (KL QF) c) 4) rfl) ?_
   refine Tr.alloc 2 (wn rfl) rfl zD3 fun VN => ?_
   refine Tr.store 2 (cs := [iv xL1.X0, iv xL1.Y0, iv xL1.X1, iv xL1.Y1]) [iv xL1.X0, iv xL1.Y0, iv xL1.X1, iv xL1.Y1] (wn rfl) rfl rfl rfl rfl Ku rfl rfl rfl ?_
   refine Tr.nil (Tr.zA (Tr.seq (Tr.sr (Tr.va rfl (fun _ _ a c => zZ (cs := [iv xL1.X0, iv xL1.Y0, iv xL1.X1, iv xL1.Y1]) zBz Ku (a.ev rfl) (zR.take (rdb c (vs := [iv xL1.X0, iv xL1.Y0, iv xL1.X1, iv xL1.Y1]) (k := 2) rfl 0) 4) rfl) ?_))))
   obtain ⟨zA7, zPR, H⟩ := bnd H
   refine Tr.JI (r := (bV zA7)) (wn rfl) rfl Tryz.call108 (zI rfl zT) (fun W hW => zGn xL1 zA7 zPR (HF.start _)) ?_
   refine Tr.va rfl (fun _ _ a c => Km (a.ev rfl)) ?_
   refine Tr.nil (Tr.zA (Tr.cond rfl H (fun H => ?_) (fun H => ?_)))
   ·refine Tr.sr (Tr.asg rfl rfl (Tr.nil (Tr.zA (Tr.ret (Tr.zi (Tr.QT (Tr.zi (Tr.zi (Tr.QT (Tr.zi ?_))))))))))
    obtain rfl := oI H
    exact Tr.out (m := [iv 1]) [] (zW rfl zX) (fun W hW => ⟨rfl, hW.low leB⟩)
   ·refine Tr.skip (Tr.zA (Tr.sr (Tr.va rfl (fun _ _ a c => zB zC5 (a.ev rfl)) ?_)))
    refine Tr.va rfl (fun _ _ a c => zF QH (a.ev rfl) (rdb c (vs := [iv xL1.X0, iv xL1.Y0, iv xL1.X1, iv xL1.Y1]) (k := 2) rfl 2) rfl) ?_
    refine Tr.va rfl (fun _ _ a c => zB WR (a.ev rfl)) ?_
    refine Tr.va rfl (fun _ _ a c => zF QH (a.ev rfl) (rdb c (vs := [iv xL1.X0, iv xL1.Y0, iv xL1.X1, iv xL1.Y1]) (k := 2) rfl 0) rfl) ?_
    refine Tr.va rfl (fun _ _ a c => zAW (a.ev rfl) (a.ev rfl)) ?_
    refine Tr.mv rfl rfl (Tr.Vr 6 [(8, sL zC p0 zD), (9, iv (p0.length : Int)), (10, iv (iL1 : Int)), (28, bV ((decide (xL1.X1 ≤ xL1.X0)) || (decide (xL1.Y1 ≤ xL1.Y0))))] [(2, bx VN #[iv xL1.X0, iv xL1.Y0, iv xL1.X1, iv xL1.Y1] 36)] ?_ ?_)
    ·cases znE : (decide (xL1.X1 ≤ xL1.X0))
     ·refine Tr.val (wg rfl rfl rfl) rfl (fun _ _ a c => zB zDi (a.ev rfl)) ?_
      refine Tr.val (wg rfl rfl rfl) rfl (fun _ _ a c => zF QH (a.ev rfl) (rdb c (vs := [iv xL1.X0, iv xL1.Y0, iv xL1.X1, iv xL1.Y1]) (k := 2) rfl 3) rfl) ?_
      refine Tr.val (wg rfl rfl rfl) rfl (fun _ _ a c => zB zAk (a.ev rfl)) ?_
      refine Tr.val (wg rfl rfl rfl) rfl (fun _ _ a c => zF QH (a.ev rfl) (rdb c (vs := [iv xL1.X0, iv xL1.Y0, iv xL1.X1, iv xL1.Y1]) (k := 2) rfl 1) rfl) ?_
      refine Tr.val (wg rfl rfl rfl) rfl (fun _ _ a c => zAW (a.ev rfl) (a.ev rfl)) ?_
      refine Tr.va rfl (fun _ _ a c => zx (a.ev rfl) (a.ev rfl)) ?_
      exact Tr.nil (Tr.JM (.cons rfl (.cons rfl (.cons rfl (.cons rfl .nil)))) (.cons rfl .nil))
     ·refine Tr.pass rfl rfl rfl rfl rfl (by decide) ?_
      refine Tr.pass rfl rfl rfl rfl rfl (by decide) ?_
      refine Tr.pass rfl rfl rfl rfl rfl (by decide) ?_
      refine Tr.pass rfl rfl rfl rfl rfl (by decide) ?_
      refine Tr.pass rfl rfl rfl rfl rfl (by decide) ?_
      refine Tr.va rfl (fun _ _ a c => zw (a.ev rfl) (a.ev rfl)) ?_
      exact Tr.nil (Tr.JM (.cons rfl (.cons rfl (.cons rfl (.cons rfl .nil)))) (.cons rfl .nil))
    ·show Tr _ _ (LF [(8, sL zC p0 zD), (9, iv (p0.length : Int)), (10, iv (iL1 : Int)), (28, bV ((decide (xL1.X1 ≤ xL1.X0)) || (decide (xL1.Y1 ≤ xL1.Y0))))]) (LE [(2, bx VN #[iv xL1.X0, iv xL1.Y0, iv xL1.X1, iv xL1.Y1] 36)]) _
     refine Tr.nil (Tr.zA (Tr.cond rfl H (fun H => ?_) (fun H => ?_)))
     ·refine Tr.sr (Tr.asg rfl rfl (Tr.nil (Tr.zA (Tr.ret (Tr.QT (Tr.zi (Tr.zi (Tr.QT (Tr.zi ?_)))))))))
      obtain rfl := oI H
      exact Tr.out (m := [iv 13]) [] (zW rfl zX) (fun W hW => ⟨rfl, hW.low leB⟩)
     ·refine Tr.skip (Tr.zl (Tr.zA (Tr.region (Tr.va rfl (fun _ _ a c => QK (a.ev rfl) (a.ev rfl)) ?_))))
      exact Tr.mv rfl rfl (Tr.nil (Tr.zn Qd (zY, (iL1 + 1)) ⟨rfl, Qu QF, QB QF, H⟩ (.cons rfl (.cons rfl (.cons (congrArg (fun z => some (Value.int .i64 z)) (Qt QF zU.form)) .nil))) .nil))

theorem zDr {w : Bs} (p0 : (List zS)) (zC : Option Addr) (zD : Nat) (zU : Sl w.R w.W zK zC zD p0) (p1 : (List zS)) (zh : Option Addr) (zg : Nat) (Qh : Sl w.R w.W zK zh zg p1) (r : Bool) (H : Ke p0 p1 = some r) (hE : HF w w.W E0) : Calls Tryz.prog 11 [sL zC p0 zD, sL zh p1 zg].toArray w.W fun e W' => e = .returned (bV r) ∧ HF w W' E0 := by
 unfold Ke at H
 have leB := Bs.Le.refl w
 refine Tr.enter (n := 26) Tryz.func11 rfl rfl rfl hE ?_
 refine Tr.sr (Tr.asg rfl rfl (Tr.nil (Tr.zA (Tr.seq (Tr.sr (Tr.mv rfl rfl (Tr.va rfl (fun _ _ a c => QJ zA8 (a.ev rfl)) ?_)))))))
 refine Tr.mv rfl rfl (Tr.va rfl (fun _ _ a c => QJ zA8 (a.ev rfl)) ?_)
 refine Tr.va rfl (fun _ _ a c => KY (a.ev rfl) (a.ev rfl)) ?_
 refine Tr.nil (Tr.zA (Tr.cond rfl H (fun H => ?_) (fun H => ?_)))
 ·refine Tr.sr (Tr.asg rfl rfl (Tr.nil (Tr.zA (Tr.ret (Tr.zi ?_)))))
  obtain rfl := oI H
  exact Tr.out (m := [bV false]) [] (zW rfl zX) (fun W hW => ⟨rfl, hW.low leB⟩)
 ·refine Tr.skip (Tr.zA (Tr.seq (Tr.sr (Tr.mv rfl rfl (Tr.va rfl (fun _ _ a c => QJ zA8 (a.ev rfl)) ?_)))))
  refine Tr.mv rfl rfl (Tr.nil (Tr.zA (Tr.block (Tr.loop (σ := (List zS) × Nat) (fun m w s => m = s.1.length + 1 ∧ s.1 = List.drop s.2 p0 ∧ s.2 ≤ p0.length ∧ Jb p1 s.1 s.2 = some r) (fun s => [(0, sL zC p0 zD), (1, sL zh p1 zg), (12, iv (p0.length : Int)), (13, iv (s.2 : Int))]) (fun s => []) (p0.length + 1) (p0, 0) ⟨rfl, rfl, Nat.zero_le _, H⟩ (.cons rfl (.cons rfl (.cons rfl (.cons rfl .nil)))) .nil (fun _ _ h => absurd h.1 (by simp)) ?_))))
  intro w Qd m s hs
  obtain ⟨zY, iL1⟩ := s
  obtain ⟨Kj, QF, hiL1, H⟩ := hs
  replace QF : zY = List.drop iL1 p0 := QF
  replace H : Jb p1 zY iL1 = some r := H
  replace Kj : m + 1 = zY.length + 1 := Kj
  replace zU := zU.leR Qd
  replace Qh := Qh.leR Qd
  replace leB := leB.trans Qd
  obtain rfl : m = zY.length := by omega
  clear Kj
  show Tr _ _ (LF [(0, sL zC p0 zD), (1, sL zh p1 zg), (12, iv (p0.length : Int)), (13, iv (iL1 : Int))]) (LE []) _
  cases zY with
  | nil =>
   rw [Jb.eq_1] at H
   refine Tr.sr (Tr.va rfl (fun _ _ a c => QI (a.ev rfl) (a.ev rfl)) ?_)
   refine Tr.nil (Tr.zA (Tr.seq (Tr.WL rfl (JS QF) ?_)))
   refine Tr.exit (Tr.zk (Tr.zk (Tr.QV (Tr.zA (Tr.sr (Tr.asg rfl rfl (Tr.nil (Tr.zA (Tr.ret ?_)))))))))
   obtain rfl := oI H
   exact Tr.out (m := [bV true]) [] (zW rfl zX) (fun W hW => ⟨rfl, hW.low leB⟩)
  | cons xL1 zY =>
   rw [Jb.eq_2] at H
   refine Tr.sr (Tr.va rfl (fun _ _ a c => QI (a.ev rfl) (a.ev rfl)) ?_)
   refine Tr.nil (Tr.zA (Tr.seq (Tr.WK rfl (Jt QF) ?_)))
   refine Tr.skip (Tr.zA (Tr.seq (Tr.block (Tr.sr (Tr.mv rfl rfl (Tr.asg rfl rfl (Tr.nil (Tr.zA (Tr.seq (Tr.draw (by kernel_rfl) (by kernel_rfl) ?_))))))))))
   refine Tq.mv rfl rfl (Tq.mv rfl rfl (Tq.va rfl (fun _ _ a c => zM zCj (a.ev rfl) zU.form (a.ev rfl) (Int.natCast_nonneg _) (QB QF)) ?_))
   refine Tq.va rfl (fun _ _ a c => zZ (cs := [iv xL1.X0, iv xL1.Y0, iv xL1.X1, iv xL1.Y1]) zBz Ku (a.ev rfl) (zR.take (rdF Vg zU (KL QF) c) 4) rfl) ?_
   refine Tq.mv rfl rfl (Tq.mv rfl rfl ?_)
   obtain ⟨x103, zT2, H⟩ := bnd H
   obtain ⟨zPd, zPc, zPb⟩ := zz zT2
   refine Tq.va rfl (fun _ _ a c => zM zCj (a.ev rfl) Qh.form (a.ev rfl) zPd zPc) ?_
   refine Tq.va rfl (fun _ _ a c => zZ (cs := [iv x103.X0, iv x103.Y0, iv x103.X1, iv x103.Y1]) zBz Ku (a.ev rfl) (zR.take (rdF Vg Qh zPb c) 4) rfl) ?_
   refine Tq.va rfl (fun _ _ a c => zVJ xL1 x103 (a.ev rfl) (a.ev rfl)) ?_
   refine Tq.nil (Tr.zA (Tr.cond rfl H (fun H => ?_) (fun H => ?_)))
   ·refine Tr.sr (Tr.asg rfl rfl (Tr.nil (Tr.zA (Tr.ret (Tr.QT (Tr.zi (Tr.zi (Tr.QT (Tr.zi ?_)))))))))
    obtain rfl := oI H
    exact Tr.out (m := [bV false]) [] (zW rfl zX) (fun W hW => ⟨rfl, hW.low leB⟩)
   ·refine Tr.skip (Tr.zl (Tr.zA (Tr.region (Tr.va rfl (fun _ _ a c => QK (a.ev rfl) (a.ev rfl)) ?_))))
    exact Tr.mv rfl rfl (Tr.nil (Tr.zn Qd (zY, (iL1 + 1)) ⟨rfl, Qu QF, QB QF, H⟩ (.cons rfl (.cons rfl (.cons rfl (.cons (congrArg (fun z => some (Value.int .i64 z)) (Qt QF zU.form)) .nil)))) .nil))

theorem zDu (N : Nat) {w : Bs} (p0 : (List zS)) (zC : Option Addr) (zD : Nat) (zU : Sl w.R w.W zK zC zD p0) (r : Int) (H : Vp N p0 = some r) (hE : HF w w.W E0) : Calls Tryz.prog 58 [sL zC p0 zD].toArray w.W fun e W' => e = .returned (iv r) ∧ HF w W' E0 := by
 unfold Vp at H
 have leB := Bs.Le.refl w
 refine Tr.enter (n := 52) Tryz.func58 rfl rfl rfl hE ?_
 refine Tr.sr (Tr.asg rfl rfl (Tr.nil (Tr.zA (Tr.seq (Tr.sr (Tr.mv rfl rfl ?_))))))
 obtain ⟨zy, Ws, H⟩ := bnd H
 refine Tr.JI (r := (iv zy)) (wn rfl) rfl Tryz.call79 (zI rfl zT) (fun W hW => zIl p0 zC zD (zU.ext hW.Qx) zy Ws (HF.start _)) ?_
 refine Tr.asg rfl rfl (Tr.nil (Tr.zA (Tr.sr (Tr.mv rfl rfl (Tr.va rfl (fun _ _ a c => KY (a.ev rfl) (a.ev rfl)) ?_)))))
 refine Tr.nil (Tr.zA (Tr.cond rfl H (fun H => ?_) (fun H => ?_)))
 ·refine Tr.sr (Tr.mv rfl rfl (Tr.asg rfl rfl (Tr.nil (Tr.zA (Tr.ret (Tr.zi ?_))))))
  obtain rfl := oI H
  exact Tr.out (m := [iv zy]) [] (zW rfl zX) (fun W hW => ⟨rfl, hW.low leB⟩)
 ·refine Tr.skip (Tr.zA (Tr.seq (Tr.sr (Tr.asg rfl rfl (Tr.nil (Tr.zA (Tr.block (Tr.loop (σ := Int) (fun m w s => Qs N p0 m s = some r) (fun s => [(0, sL zC p0 zD), (4, iv s)]) (fun s => []) N 1 H (.cons rfl (.cons rfl .nil)) .nil (fun _ _ h => zA0 (h)) ?_))))))))
  intro w Qd mL1 zDD hs
  have H := hs
  replace H : Qs N p0 (mL1 + 1) zDD = some r := H
  replace zU := zU.leR Qd
  replace leB := leB.trans Qd
  rw [Qs.eq_2] at H
  show Tr _ _ (LF [(0, sL zC p0 zD), (4, iv zDD)]) (LE []) _
  refine Tr.seq (Tr.sr (Tr.mv rfl rfl (Tr.mv rfl rfl (Tr.va rfl (fun _ _ a c => QJ zA8 (a.ev rfl)) ?_))))
  refine Tr.va rfl (fun _ _ a c => QI (a.ev rfl) (a.ev rfl)) ?_
  refine Tr.nil (Tr.zA (Tr.cond rfl H (fun H => ?_) (fun H => ?_)))
  ·refine Tr.skip (Tr.zA (Tr.seq (Tr.block (Tr.seq (Tr.zHS 12 [] [11] (by kernel_rfl) (by kernel_rfl) fun zV7 zZv zlb => ?_)))))
   refine Dr.quiet 0 [(18, sL zC p0 zD)] (by kernel_rfl) rfl rfl (by kernel_rfl) ?_ rfl rfl ?_
   ·exact Tq.mv rfl rfl (Tq.fin (.cons rfl .nil))
   refine Dr.quiet 1 [(19, iv zDD)] (by kernel_rfl) rfl rfl (by kernel_rfl) ?_ rfl rfl ?_
   ·exact Tq.mv rfl rfl (Tq.fin (.cons rfl .nil))
   refine Dr.quiet 2 [(20, iv (w64 (zDD - 1)))] (by kernel_rfl) rfl rfl (by kernel_rfl) ?_ rfl rfl ?_
   ·refine Tq.va rfl (fun _ _ a c => Wy (a.ev rfl) (a.ev rfl)) ?_
    exact Tq.fin (.cons rfl .nil)
   obtain ⟨Qk, zZr, H⟩ := bnd H
   obtain ⟨zVh, zVg, hx1182⟩ := zz zZr
   refine Dr.quiet 3 [(21, .pointer (some ⟨adB zC, adO zC + ((w64 (zDD - 1))).toNat * 4, none⟩))] (by kernel_rfl) rfl rfl (by kernel_rfl) ?_ rfl rfl ?_
   ·refine Tq.va rfl (fun _ _ a c => zM zCj (a.ev rfl) zU.form (a.ev rfl) zVh zVg) ?_
    exact Tq.fin (.cons rfl .nil)
   refine Dr.quiet 4 [(22, .agg #[iv Qk.X0, iv Qk.Y0, iv Qk.X1, iv Qk.Y1])] (by kernel_rfl) rfl rfl (by kernel_rfl) ?_ rfl rfl ?_
   ·refine Tq.va rfl (fun _ _ a c => zZ (cs := [iv Qk.X0, iv Qk.Y0, iv Qk.X1, iv Qk.Y1]) zBz Ku (a.ev rfl) (zR.take (rdF Vg zU hx1182 c) 4) rfl) ?_
    exact Tq.fin (.cons rfl .nil)
   refine Dr.KM 5 (by kernel_rfl) rfl (wn rfl) rfl (by kernel_rfl) (fun _ _ a => run_move (a.ev rfl)) rfl ?_
   refine Dr.KM 6 (by kernel_rfl) rfl (wn rfl) rfl (by kernel_rfl) (fun _ _ a => run_move (a.ev rfl)) rfl ?_
   obtain ⟨VJ, zjv, H⟩ := bnd H
   obtain ⟨hx1190, hx1191, hx1192⟩ := zz zjv
   refine Dr.KM 7 (by kernel_rfl) rfl (wn rfl) rfl (by kernel_rfl) (fun _ _ a => zM zCj (a.ev rfl) zU.form (a.ev rfl) hx1190 hx1191) rfl ?_
   refine Dr.We 8 [(26, .agg #[iv VJ.X0, iv VJ.Y0, iv VJ.X1, iv VJ.Y1])] [] true (by kernel_rfl) rfl rfl (by kernel_rfl) (fun W W' c hsW hk => HF.zBv (le := []) (ks := []) (s0 := zV7) true c hk (fun _ => zZv) .nil (fun b hb => hb.elim (fun ⟨_, hp, _⟩ => nomatch hp) (fun hb => .inr ⟨rfl, hb.2, (fun _ h => nomatch h)⟩)) (fun _ h => nomatch h) rfl) ?_ rfl rfl ?_
   ·refine Tq.va rfl (fun _ _ a c => zZ (cs := [iv VJ.X0, iv VJ.Y0, iv VJ.X1, iv VJ.Y1]) zBz Ku (a.ev rfl) (zR.take (rdF Vg zU hx1192 c) 4) rfl) ?_
    exact Tq.fin (.cons rfl .nil)
   refine Dr.cut (U := Nat × Nat) [9, 10] 1 (fun u => zV7 ≤ u.1 ∧ zV7 ≤ u.2) (fun u => [(0, sL zC p0 zD), (4, iv zDD), (5, .pointer (some ⟨u.1, 0, none⟩)), (6, .pointer (some ⟨u.2, 0, none⟩)), (12, iv zDD), (13, sL zC p0 zD), (14, iv (p0.length : Int)), (15, bV (decide (zDD < (p0.length : Int)))), (18, sL zC p0 zD), (19, iv zDD), (20, iv (w64 (zDD - 1))), (21, .pointer (some ⟨adB zC, adO zC + ((w64 (zDD - 1))).toNat * 4, none⟩)), (22, .agg #[iv Qk.X0, iv Qk.Y0, iv Qk.X1, iv Qk.Y1]), (23, sL zC p0 zD), (24, iv zDD), (25, .pointer (some ⟨adB zC, adO zC + (zDD).toNat * 4, none⟩)), (26, .agg #[iv VJ.X0, iv VJ.Y0, iv VJ.X1, iv VJ.Y1])]) (fun u => [(5, bx u.1 #[iv 0, iv 0, iv 0, iv 0] 36), (6, bx u.2 #[iv 0, iv 0, iv 0, iv 0] 36)]) ?_ ?_
   ·intro hC
    refine Dr.pair 9 10 (by kernel_rfl) ?_ ?_
    ·refine St.alloc 9 5 rfl (wn rfl) rfl zD3 fun zM0 zPl => ?_
     refine Dr.one 10 (by kernel_rfl) ?_
     refine St.alloc 10 6 rfl (wn rfl) rfl zD3 fun zQb zWj => ?_
     exact (hC ⟨zM0, zQb⟩ ⟨zPl, zWj⟩).use (by kernel_rfl) (.cons rfl (.cons rfl (.cons rfl (.cons rfl (.cons rfl (.cons rfl (.cons rfl (.cons rfl (.cons rfl (.cons rfl (.cons rfl (.cons rfl (.cons rfl (.cons rfl (.cons rfl (.cons rfl (.cons rfl .nil))))))))))))))))) (.cons rfl (.cons rfl .nil))
    ·refine St.alloc 10 6 rfl (wn rfl) rfl zD3 fun zQb zWj => ?_
     refine Dr.one 9 (by kernel_rfl) ?_
     refine St.alloc 9 5 rfl (wn rfl) rfl zD3 fun zM0 zPl => ?_
     exact (hC ⟨zM0, zQb⟩ ⟨zPl, zWj⟩).use (by kernel_rfl) (.cons rfl (.cons rfl (.cons rfl (.cons rfl (.cons rfl (.cons rfl (.cons rfl (.cons rfl (.cons rfl (.cons rfl (.cons rfl (.cons rfl (.cons rfl (.cons rfl (.cons rfl (.cons rfl (.cons rfl .nil))))))))))))))))) (.cons rfl (.cons rfl .nil))
   intro u hu
   obtain ⟨zM0, zQb⟩ := u
   obtain ⟨zPl, zWj⟩ := hu
   replace zPl : zV7 ≤ zM0 := zPl
   show Dr _ _ _ _ _ _ _ _ _ (LF [(0, sL zC p0 zD), (4, iv zDD), (5, pV zM0), (6, pV zQb), (12, iv zDD), (13, sL zC p0 zD), (14, iv (p0.length : Int)), (15, bV (decide (zDD < (p0.length : Int)))), (18, sL zC p0 zD), (19, iv zDD), (20, iv (w64 (zDD - 1))), (21, .pointer (some ⟨adB zC, adO zC + ((w64 (zDD - 1))).toNat * 4, none⟩)), (22, .agg #[iv Qk.X0, iv Qk.Y0, iv Qk.X1, iv Qk.Y1]), (23, sL zC p0 zD), (24, iv zDD), (25, .pointer (some ⟨adB zC, adO zC + (zDD).toNat * 4, none⟩)), (26, .agg #[iv VJ.X0, iv VJ.Y0, iv VJ.X1, iv VJ.Y1])]) (LE [(5, bx zM0 #[iv 0, iv 0, iv 0, iv 0] 36), (6, bx zQb #[iv 0, iv 0, iv 0, iv 0] 36)])
   refine Dr.one 11 (by kernel_rfl) ?_
   refine St.store 11 5 (cs := [iv Qk.X0, iv Qk.Y0, iv Qk.X1, iv Qk.Y1]) [iv Qk.X0, iv Qk.Y0, iv Qk.X1, iv Qk.Y1] rfl (wn rfl) (.inr ⟨by simp, zPl⟩) rfl rfl rfl rfl Ku rfl rfl rfl ?_
   refine Dr.tail (by kernel_rfl) ?_
   refine Tr.store 6 (cs := [iv VJ.X0, iv VJ.Y0, iv VJ.X1, iv VJ.Y1]) [iv VJ.X0, iv VJ.Y0, iv VJ.X1, iv VJ.Y1] (wn rfl) rfl rfl rfl rfl Ku rfl rfl rfl ?_
   refine Tr.nil (Tr.zA (Tr.sr (Tr.va rfl (fun _ _ a c => zB zAk (a.ev rfl)) ?_)))
   refine Tr.va rfl (fun _ _ a c => zF QH (a.ev rfl) (rdb c (vs := [iv VJ.X0, iv VJ.Y0, iv VJ.X1, iv VJ.Y1]) (k := 6) rfl 1) rfl) ?_
   refine Tr.va rfl (fun _ _ a c => zB zAk (a.ev rfl)) ?_
   refine Tr.va rfl (fun _ _ a c => zF QH (a.ev rfl) (rdb c (vs := [iv Qk.X0, iv Qk.Y0, iv Qk.X1, iv Qk.Y1]) (k := 5) rfl 1) rfl) ?_
   refine Tr.va rfl (fun _ _ a c => QI (a.ev rfl) (a.ev rfl)) ?_
   refine Tr.mv rfl rfl (Tr.Vr 13 [(0, sL zC p0 zD), (4, iv zDD), (45, bV ((decide (VJ.Y0 < Qk.Y0)) || ((VJ.Y0 == Qk.Y0) && (decide (VJ.X0 ≤ Qk.X0)))))] [(5, bx zM0 #[iv Qk.X0, iv Qk.Y0, iv Qk.X1, iv Qk.Y1] 36), (6, bx zQb #[iv VJ.X0, iv VJ.Y0, iv VJ.X1, iv VJ.Y1] 36)] ?_ ?_)
   ·cases Wt : (decide (VJ.Y0 < Qk.Y0))
    ·refine Tr.val (wg rfl rfl rfl) rfl (fun _ _ a c => zB zAk (a.ev rfl)) ?_
     refine Tr.val (wg rfl rfl rfl) rfl (fun _ _ a c => zF QH (a.ev rfl) (rdb c (vs := [iv VJ.X0, iv VJ.Y0, iv VJ.X1, iv VJ.Y1]) (k := 6) rfl 1) rfl) ?_
     refine Tr.val (wg rfl rfl rfl) rfl (fun _ _ a c => zB zAk (a.ev rfl)) ?_
     refine Tr.val (wg rfl rfl rfl) rfl (fun _ _ a c => zF QH (a.ev rfl) (rdb c (vs := [iv Qk.X0, iv Qk.Y0, iv Qk.X1, iv Qk.Y1]) (k := 5) rfl 1) rfl) ?_
     refine Tr.val (wg rfl rfl rfl) rfl (fun _ _ a c => Qn (a.ev rfl) (a.ev rfl)) ?_
     refine Tr.val (wg rfl rfl rfl) rfl (fun _ _ a c => run_move (a.ev rfl)) ?_
     refine Tr.Vr 6 [(0, sL zC p0 zD), (4, iv zDD), (32, bV false), (44, bV ((VJ.Y0 == Qk.Y0) && (decide (VJ.X0 ≤ Qk.X0))))] [(5, bx zM0 #[iv Qk.X0, iv Qk.Y0, iv Qk.X1, iv Qk.Y1] 36), (6, bx zQb #[iv VJ.X0, iv VJ.Y0, iv VJ.X1, iv VJ.Y1] 36)] ?_ ?_
     ·cases Wt : (VJ.Y0 == Qk.Y0)
      ·refine Tr.pass rfl rfl rfl rfl rfl (by decide) ?_
       refine Tr.pass rfl rfl rfl rfl rfl (by decide) ?_
       refine Tr.pass rfl rfl rfl rfl rfl (by decide) ?_
       refine Tr.pass rfl rfl rfl rfl rfl (by decide) ?_
       refine Tr.pass rfl rfl rfl rfl rfl (by decide) ?_
       refine Tr.val (wg rfl rfl rfl) rfl (fun _ _ a c => zx (a.ev rfl) (a.ev rfl)) ?_
       exact Tr.nil (Tr.JM (.cons rfl (.cons rfl (.cons rfl (.cons rfl .nil)))) (.cons rfl (.cons rfl .nil)))
      ·refine Tr.val (wg rfl rfl rfl) rfl (fun _ _ a c => zB WR (a.ev rfl)) ?_
       refine Tr.val (wg rfl rfl rfl) rfl (fun _ _ a c => zF QH (a.ev rfl) (rdb c (vs := [iv VJ.X0, iv VJ.Y0, iv VJ.X1, iv VJ.Y1]) (k := 6) rfl 0) rfl) ?_
       refine Tr.val (wg rfl rfl rfl) rfl (fun _ _ a c => zB WR (a.ev rfl)) ?_
       refine Tr.val (wg rfl rfl rfl) rfl (fun _ _ a c => zF QH (a.ev rfl) (rdb c (vs := [iv Qk.X0, iv Qk.Y0, iv Qk.X1, iv Qk.Y1]) (k := 5) rfl 0) rfl) ?_
       refine Tr.val (wg rfl rfl rfl) rfl (fun _ _ a c => zAW (a.ev rfl) (a.ev rfl)) ?_
       refine Tr.val (wg rfl rfl rfl) rfl (fun _ _ a c => zw (a.ev rfl) (a.ev rfl)) ?_
       exact Tr.nil (Tr.JM (.cons rfl (.cons rfl (.cons rfl (.cons rfl .nil)))) (.cons rfl (.cons rfl .nil)))
     ·show Tr _ _ (LF [(0, sL zC p0 zD), (4, iv zDD), (32, bV false), (44, bV ((VJ.Y0 == Qk.Y0) && (decide (VJ.X0 ≤ Qk.X0))))]) (LE [(5, bx zM0 #[iv Qk.X0, iv Qk.Y0, iv Qk.X1, iv Qk.Y1] 36), (6, bx zQb #[iv VJ.X0, iv VJ.Y0, iv VJ.X1, iv VJ.Y1] 36)]) _
      refine Tr.va rfl (fun _ _ a c => zx (a.ev rfl) (a.ev rfl)) ?_
      exact Tr.nil (Tr.JM (.cons rfl (.cons rfl (.cons rfl .nil))) (.cons rfl (.cons rfl .nil)))
    ·refine Tr.pass rfl rfl rfl rfl rfl (by decide) ?_
     refine Tr.pass rfl rfl rfl rfl rfl (by decide) ?_
     refine Tr.pass rfl rfl rfl rfl rfl (by decide) ?_
     refine Tr.pass rfl rfl rfl rfl rfl (by decide) ?_
     refine Tr.pass rfl rfl rfl rfl rfl (by decide) ?_
     refine Tr.pass rfl rfl rfl rfl rfl (by decide) ?_
     refine Tr.VL rfl rfl rfl rfl (by decide) ?_
     refine Tr.VL rfl rfl rfl rfl (by decide) ?_
     refine Tr.VL rfl rfl rfl rfl (by decide) ?_
     refine Tr.VL rfl rfl rfl rfl (by decide) ?_
     refine Tr.VL rfl rfl rfl rfl (by decide) ?_
     refine Tr.pass rfl rfl rfl rfl rfl (by decide) ?_
     refine Tr.va rfl (fun _ _ a c => zw (a.ev rfl) (a.ev rfl)) ?_
     exact Tr.nil (Tr.JM (.cons rfl (.cons rfl (.cons rfl .nil))) (.cons rfl (.cons rfl .nil)))
   ·show Tr _ _ (LF [(0, sL zC p0 zD), (4, iv zDD), (45, bV ((decide (VJ.Y0 < Qk.Y0)) || ((VJ.Y0 == Qk.Y0) && (decide (VJ.X0 ≤ Qk.X0)))))]) (LE [(5, bx zM0 #[iv Qk.X0, iv Qk.Y0, iv Qk.X1, iv Qk.Y1] 36), (6, bx zQb #[iv VJ.X0, iv VJ.Y0, iv VJ.X1, iv VJ.Y1] 36)]) _
    refine Tr.nil (Tr.zA (Tr.cond rfl H (fun H => ?_) (fun H => ?_)))
    ·refine Tr.sr (Tr.asg rfl rfl (Tr.nil (Tr.zA (Tr.ret (Tr.QT (Tr.zi (Tr.zi (Tr.QT (Tr.zi ?_)))))))))
     obtain rfl := oI H
     exact Tr.out (m := [iv 8]) [] (zW rfl zX) (fun W hW => ⟨rfl, hW.low leB⟩)
    ·refine Tr.skip (Tr.zl (Tr.zA (Tr.region (Tr.mv rfl rfl (Tr.va rfl (fun _ _ a c => QK (a.ev rfl) (a.ev rfl)) ?_)))))
     exact Tr.asg rfl rfl (Tr.nil (Tr.zn Qd (w64 (zDD + 1)) H (.cons rfl (.cons rfl .nil)) .nil))
  ·refine Tr.exit (Tr.zk (Tr.zk (Tr.QV (Tr.zA (Tr.seq (Tr.sr (Tr.mv rfl rfl ?_)))))))
   obtain ⟨zIq, zZi, H⟩ := bnd H
   refine Tr.VT [7] [emp] (U := (Option Addr × Nat)) (fun u => (sL u.1 zIq u.2)) (fun O W u => SlF u.1 zIq.length u.2) (fun u => [ow u.1 u.2 107 zL zIq]) rfl (zQ rfl zf) (fun _ => rfl) (wn rfl) rfl Tryz.call59 (zI rfl zT) (fun W hW hp hE => zBJ N p0 zC zD (zU.ext (hW.QM hp)) zIq zZi hE) ?_
   intro w u zdK hu
   obtain ⟨zON, zN3⟩ := u
   have gy123_0 := hu
   replace zU := zU.leR zdK
   replace leB := leB.trans zdK
   have zkp : SlF zON zIq.length zN3 := gy123_0 --@phi
   show Tr _ _ (uf _ 47 (sL zON zIq zN3)) (up _ 7 (ow zON zN3 107 zL zIq)) _
   obtain ⟨zD1, zPP, H⟩ := bnd H
   refine Tr.VM [8] [emp] (U := (Option Addr × Nat)) (fun u => (sL u.1 zD1 u.2)) (fun u => SlF u.1 zD1.length u.2) (fun u => [ow u.1 u.2 36 zK zD1]) rfl (zQ rfl zf) (fun _ => rfl) (wn rfl) rfl Tryz.call29 (zI rfl zT) (fun W hW hp hE => zAa N zIq zON zN3 (hW.slS (k := 7) rfl hp rfl) zD1 zPP hE) ?_
   intro u hu
   obtain ⟨zOM, zN2⟩ := u
   have gy125_0 := hu
   have zko : SlF zOM zD1.length zN2 := gy125_0 --@phi
   show Tr _ _ (uf _ 48 (sL zOM zD1 zN2)) (up _ 8 (ow zOM zN2 36 zK zD1)) _
   refine Tr.mv rfl rfl ?_
   obtain ⟨zE0, zTv, H⟩ := bnd H
   refine Tr.JI (r := (bV zE0)) (wn rfl) rfl Tryz.call11 (zI rfl (zI rfl zT)) (fun W hW => zDr zD1 zOM zN2 (hW.zEA (k := 8) rfl) p0 zC zD (zU.ext hW.Qx) zE0 zTv (HF.start _)) ?_
   refine Tr.va rfl (fun _ _ a c => Km (a.ev rfl)) ?_
   refine Tr.nil (Tr.zA (Tr.cond rfl H (fun H => ?_) (fun H => ?_)))
   ·refine Tr.sr (Tr.asg rfl rfl (Tr.nil (Tr.zA (Tr.ret (Tr.zi ?_)))))
    obtain rfl := oI H
    exact Tr.out (m := [iv 3]) [] (zW rfl zX) (fun W hW => ⟨rfl, hW.low leB⟩)
   ·refine Tr.skip (Tr.zA (Tr.sr (Tr.asg rfl rfl (Tr.nil (Tr.zA (Tr.ret ?_))))))
    obtain rfl := oI H
    exact Tr.out (m := [iv 0]) [] (zW rfl zX) (fun W hW => ⟨rfl, hW.low leB⟩)

theorem zJS (N : Nat) {w : Bs} (p0 : (List ze)) (zC : Option Addr) (zD : Nat) (zU : Sl w.R w.W zL zC zD p0) (r : ((List zS) × Int)) (H : zAq N p0 = some r) (hE : HF w w.W (LEn [emp])) : Calls Tryz.prog 60 [sL zC p0 zD].toArray w.W fun e W' => ∃ u : (Option Addr × Nat), e = .returned (.tuple #[sL u.1 r.1 u.2, iv r.2]) ∧ (SlF u.1 r.1.length u.2) ∧ HF w W' (LEn [ow u.1 u.2 36 zK r.1]) := by
 unfold zAq at H
 have leB := Bs.Le.refl w
 refine Tr.enter (n := 9) Tryz.func60 rfl rfl rfl hE ?_
 refine Tr.sr (Tr.asg rfl rfl (Tr.JU 1 36 zK ?_))
 show Tr _ _ (uf _ 2 (sL none (([] : List zS)) 0)) _ _
 refine Tr.asg rfl rfl (Tr.nil (Tr.zA (Tr.seq (Tr.sr (Tr.mv rfl rfl ?_)))))
 obtain ⟨zy, Ws, H⟩ := bnd H
 refine Tr.JI (r := (iv zy)) (wn rfl) rfl Tryz.call89 (zI rfl zT) (fun W hW => zCJ p0 zC zD (zU.ext hW.Qx) zy Ws (HF.start _)) ?_
 refine Tr.va rfl (fun _ _ a c => VY (a.ev rfl) (a.ev rfl)) ?_
 refine Tr.nil (Tr.zA (Tr.cond rfl H (fun H => ?_) (fun H => ?_)))
 ·refine Tr.sr (Tr.asg rfl rfl (Tr.JU 2 36 zK ?_))
  show Tr _ _ (uf _ 2 (sL none (([] : List zS)) 0)) _ _
  refine Tr.asg rfl rfl (Tr.nil (Tr.zA (Tr.ret (Tr.zi ?_))))
  obtain rfl := oI H
  exact Tr.out (m := [sL none (([] : List zS)) 0, iv 2]) [] (zW rfl (zW rfl zX)) (fun W hW => ⟨(none, 0), rfl, Kk, HF.zFO leB (hW.pick (ks := [2]) (by decide) (zQ rfl zf)) ⟨zCA _ _ _ _ WI, trivial⟩⟩)
 ·refine Tr.skip (Tr.zA (Tr.sr (Tr.mv rfl rfl ?_)))
  obtain ⟨y101, hy101, H⟩ := bnd H
  refine Tr.VM [3] [emp] (U := (Option Addr × Nat)) (fun u => (sL u.1 y101 u.2)) (fun u => SlF u.1 y101.length u.2) (fun u => [ow u.1 u.2 36 zK y101]) rfl (zQ rfl zf) (fun _ => rfl) (wn rfl) rfl Tryz.call29 (zI rfl zT) (fun W hW hp hE => zAa N p0 zC zD (zU.ext (hW.QM hp)) y101 hy101 hE) ?_
  intro u hu
  obtain ⟨zAb, zAY⟩ := u
  have gy101_0 := hu
  have zF7 : SlF zAb y101.length zAY := gy101_0 --@phi
  show Tr _ _ (uf _ 8 (sL zAb y101 zAY)) (up _ 3 (ow zAb zAY 36 zK y101)) _
  refine Tr.asg rfl rfl (Tr.asg rfl rfl (Tr.nil (Tr.zA (Tr.ret ?_))))
  obtain rfl := oI H
  exact Tr.out (m := [sL zAb y101 zAY, iv 0]) [] (zW rfl (zW rfl zX)) (fun W hW => ⟨(zAb, zAY), rfl, zF7, HF.zFO leB (hW.pick (ks := [3]) (by decide) (zQ rfl zf)) ⟨zCA _ _ _ _ WI, trivial⟩⟩)

theorem zK2 (N : Nat) {w : Bs} (p0 : (List zS)) (zC : Option Addr) (zD : Nat) (zU : Sl w.R w.W zK zC zD p0) (p1 : (List zS)) (zh : Option Addr) (zg : Nat) (Qh : Sl w.R w.W zK zh zg p1) (r : ((List zS) × Int)) (H : zC8 N p0 p1 = some r) (hE : HF w w.W (LEn [emp])) : Calls Tryz.prog 35 [sL zC p0 zD, sL zh p1 zg, .func (.func 36) #[] #[]].toArray w.W fun e W' => ∃ u : (Option Addr × Nat), e = .returned (.tuple #[sL u.1 r.1 u.2, iv r.2]) ∧ (SlF u.1 r.1.length u.2) ∧ HF w W' (LEn [ow u.1 u.2 36 zK r.1]) := by
 unfold zC8 at H
 have leB := Bs.Le.refl w
 refine Tr.enter (n := 29) Tryz.func35 rfl rfl rfl hE ?_
 refine Tr.sr (Tr.asg rfl rfl (Tr.JU 1 36 zK ?_))
 show Tr _ _ (uf _ 6 (sL none (([] : List zS)) 0)) _ _
 refine Tr.asg rfl rfl (Tr.nil (Tr.zA (Tr.seq (Tr.sr (Tr.mv rfl rfl ?_)))))
 obtain ⟨zy, Ws, H⟩ := bnd H
 refine Tr.JI (r := (iv zy)) (wn rfl) rfl Tryz.call58 (zI rfl zT) (fun W hW => zDu N p0 zC zD (zU.ext hW.Qx) zy Ws (HF.start _)) ?_
 refine Tr.asg rfl rfl (Tr.nil (Tr.zA (Tr.sr (Tr.mv rfl rfl (Tr.va rfl (fun _ _ a c => KY (a.ev rfl) (a.ev rfl)) ?_)))))
 refine Tr.nil (Tr.zA (Tr.cond rfl H (fun H => ?_) (fun H => ?_)))
 ·refine Tr.sr (Tr.mv rfl rfl (Tr.asg rfl rfl (Tr.JU 2 36 zK ?_)))
  show Tr _ _ (uf _ 6 (sL none (([] : List zS)) 0)) _ _
  refine Tr.asg rfl rfl (Tr.nil (Tr.zA (Tr.ret (Tr.zi ?_))))
  obtain rfl := oI H
  exact Tr.out (m := [sL none (([] : List zS)) 0, iv zy]) [] (zW rfl (zW rfl zX)) (fun W hW => ⟨(none, 0), rfl, Kk, HF.zFO leB (hW.pick (ks := [2]) (by decide) (zQ rfl zf)) ⟨zCA _ _ _ _ WI, trivial⟩⟩)
 ·refine Tr.skip (Tr.zA (Tr.seq (Tr.sr (Tr.mv rfl rfl ?_))))
  obtain ⟨y101, hy101, H⟩ := bnd H
  refine Tr.JI (r := (iv y101)) (wn rfl) rfl Tryz.call58 (zI rfl zT) (fun W hW => zDu N p1 zh zg (Qh.ext hW.Qx) y101 hy101 (HF.start _)) ?_
  refine Tr.asg rfl rfl (Tr.nil (Tr.zA (Tr.sr (Tr.mv rfl rfl (Tr.va rfl (fun _ _ a c => KY (a.ev rfl) (a.ev rfl)) ?_)))))
  refine Tr.nil (Tr.zA (Tr.cond rfl H (fun H => ?_) (fun H => ?_)))
  ·refine Tr.sr (Tr.mv rfl rfl (Tr.asg rfl rfl (Tr.JU 3 36 zK ?_)))
   show Tr _ _ (uf _ 6 (sL none (([] : List zS)) 0)) _ _
   refine Tr.asg rfl rfl (Tr.nil (Tr.zA (Tr.ret (Tr.zi ?_))))
   obtain rfl := oI H
   exact Tr.out (m := [sL none (([] : List zS)) 0, iv y101]) [] (zW rfl (zW rfl zX)) (fun W hW => ⟨(none, 0), rfl, Kk, HF.zFO leB (hW.pick (ks := [3]) (by decide) (zQ rfl zf)) ⟨zCA _ _ _ _ WI, trivial⟩⟩)
  ·refine Tr.skip (Tr.zA (Tr.sr (Tr.mv rfl rfl (Tr.mv rfl rfl ?_))))
   obtain ⟨y102, hy102, H⟩ := bnd H
   refine Tr.VT [4] [emp] (U := (Option Addr × Nat)) (fun u => (sL u.1 y102 u.2)) (fun O W u => SlF u.1 y102.length u.2) (fun u => [ow u.1 u.2 107 zL y102]) rfl (zQ rfl zf) (fun _ => rfl) (wn rfl) rfl Tryz.call59 (zI rfl zT) (fun W hW hp hE => zBJ N p0 zC zD (zU.ext (hW.QM hp)) y102 hy102 hE) ?_
   intro w u zQt hu
   obtain ⟨JK, JH⟩ := u
   have gy102_0 := hu
   replace Qh := Qh.leR zQt
   replace leB := leB.trans zQt
   have zLZ : SlF JK y102.length JH := gy102_0 --@phi
   show Tr _ _ (uf _ 22 (sL JK y102 JH)) (up _ 4 (ow JK JH 107 zL y102)) _
   refine Tr.mv rfl rfl ?_
   obtain ⟨y104, hy104, H⟩ := bnd H
   refine Tr.VT [5] [emp] (U := (Option Addr × Nat)) (fun u => (sL u.1 y104 u.2)) (fun O W u => SlF u.1 y104.length u.2) (fun u => [ow u.1 u.2 107 zL y104]) rfl (zQ rfl zf) (fun _ => rfl) (wn rfl) rfl Tryz.call59 (zI rfl zT) (fun W hW hp hE => zBJ N p1 zh zg (Qh.ext (hW.QM hp)) y104 hy104 hE) ?_
   intro w u zIR hu
   obtain ⟨Qg, Qf⟩ := u
   have gy104_0 := hu
   replace leB := leB.trans zIR
   have zJD : SlF Qg y104.length Qf := gy104_0 --@phi
   show Tr _ _ (uf _ 24 (sL Qg y104 Qf)) (up _ 5 (ow Qg Qf 107 zL y104)) _
   refine Tr.freeze 4 rfl fun w zIQ zTu => ?_
   replace leB := leB.trans zIQ
   refine Tr.freeze 5 rfl fun w zNL zPO => ?_
   replace zTu := zTu.le zNL
   replace leB := leB.trans zNL
   obtain ⟨zAc, zI7, H⟩ := bnd H
   refine Tr.zg8 [6] [emp] (U := (Option Addr × Nat)) (fun u => (sL u.1 zAc u.2)) (fun O W u => SlF u.1 zAc.length u.2) (fun u => [ow u.1 u.2 107 zL zAc]) rfl (zQ rfl zf) (fun _ => rfl) (wn rfl) rfl rfl Tryz.call36 (zI rfl (zI rfl zT)) (fun W hW hp hE => zGI N y102 JK JH (zTu.zAK (hW.QM hp)) y104 Qg Qf (zPO.zAK (hW.QM hp)) zAc zI7 hE) ?_
   intro w u zPD hu
   obtain ⟨zFe, zFU⟩ := u
   have gy110_0 := hu
   replace zTu := zTu.le zPD
   replace zPO := zPO.le zPD
   replace leB := leB.trans zPD
   have zUD : SlF zFe zAc.length zFU := gy110_0 --@phi
   show Tr _ _ (uf _ 25 (sL zFe zAc zFU)) (up _ 6 (ow zFe zFU 107 zL zAc)) _
   obtain ⟨y112, hy112, H⟩ := bnd H
   refine Tr.VM [7] [emp] (U := (Option Addr × Nat)) (fun u => (.tuple #[sL u.1 y112.1 u.2, iv y112.2])) (fun u => SlF u.1 y112.1.length u.2) (fun u => [ow u.1 u.2 36 zK y112.1]) rfl (zQ rfl zf) (fun _ => rfl) (wn rfl) rfl Tryz.call60 (zI rfl zT) (fun W hW hp hE => zJS N zAc zFe zFU (hW.slS (k := 6) rfl hp rfl) y112 hy112 hE) ?_
   intro u hu
   obtain ⟨zMA, zLn⟩ := u
   have gy112_0 := hu
   have zaT : SlF zMA y112.1.length zLn := gy112_0 --@phi
   show Tr _ _ (uf _ 26 (.tuple #[sL zMA y112.1 zLn, iv y112.2])) (up _ 7 (ow zMA zLn 36 zK y112.1)) _
   refine Tr.va rfl (fun _ _ a c => Qq (a.ev rfl) rfl) ?_
   refine Tr.va rfl (fun _ _ a c => Qq (a.ev rfl) rfl) ?_
   refine Tr.asg rfl rfl (Tr.asg rfl rfl (Tr.nil (Tr.zA (Tr.ret ?_))))
   obtain rfl := oI H
   exact Tr.out (m := [sL zMA y112.1 zLn, iv y112.2]) [] (zW rfl (zW rfl zX)) (fun W hW => ⟨(zMA, zLn), rfl, zaT, HF.zFO leB (hW.pick (ks := [7]) (by decide) (zQ rfl zf)) ⟨zCA _ _ _ _ WI, trivial⟩⟩)

theorem zM6 (N : Nat) {w : Bs} (p0 : (List zS)) (zC : Option Addr) (zD : Nat) (zU : Sl w.R w.W zK zC zD p0) (p1 : (List zS)) (zh : Option Addr) (zg : Nat) (Qh : Sl w.R w.W zK zh zg p1) (r : ((List zS) × Int)) (H : zBl N p0 p1 = some r) (hE : HF w w.W (LEn [emp])) : Calls Tryz.prog 18 [sL zC p0 zD, sL zh p1 zg].toArray w.W fun e W' => ∃ u : (Option Addr × Nat), e = .returned (.tuple #[sL u.1 r.1 u.2, iv r.2]) ∧ (SlF u.1 r.1.length u.2) ∧ HF w W' (LEn [ow u.1 u.2 36 zK r.1]) := by
 unfold zBl at H
 have leB := Bs.Le.refl w
 refine Tr.enter (n := 11) Tryz.func18 rfl rfl rfl hE ?_
 refine Tr.sr (Tr.asg rfl rfl (Tr.JU 1 36 zK ?_))
 show Tr _ _ (uf _ 4 (sL none (([] : List zS)) 0)) _ _
 refine Tr.asg rfl rfl (Tr.nil (Tr.zA (Tr.sr (Tr.mv rfl rfl (Tr.mv rfl rfl ?_)))))
 obtain ⟨zy, Ws, H⟩ := bnd H
 refine Tr.VM [2] [emp] (U := (Option Addr × Nat)) (fun u => (.tuple #[sL u.1 zy.1 u.2, iv zy.2])) (fun u => SlF u.1 zy.1.length u.2) (fun u => [ow u.1 u.2 36 zK zy.1]) rfl (zQ rfl zf) (fun _ => rfl) (wn rfl) rfl Tryz.call35 (zI rfl (zI rfl (zI rfl zT))) (fun W hW hp hE => zK2 N p0 zC zD (zU.ext (hW.QM hp)) p1 zh zg (Qh.ext (hW.QM hp)) zy Ws hE) ?_
 intro u hu
 obtain ⟨QY, QX⟩ := u
 have gy100_0 := hu
 have zAR : SlF QY zy.1.length QX := gy100_0 --@phi
 show Tr _ _ (uf _ 8 (.tuple #[sL QY zy.1 QX, iv zy.2])) (up _ 2 (ow QY QX 36 zK zy.1)) _
 refine Tr.va rfl (fun _ _ a c => Qq (a.ev rfl) rfl) ?_
 refine Tr.va rfl (fun _ _ a c => Qq (a.ev rfl) rfl) ?_
 refine Tr.asg rfl rfl (Tr.asg rfl rfl (Tr.nil (Tr.zA (Tr.ret ?_))))
 obtain rfl := oI H
 exact Tr.out (m := [sL QY zy.1 QX, iv zy.2]) [] (zW rfl (zW rfl zX)) (fun W hW => ⟨(QY, QX), rfl, zAR, HF.zFO leB (hW.pick (ks := [2]) (by decide) (zQ rfl zf)) ⟨zCA _ _ _ _ WI, trivial⟩⟩)

theorem zCM (N : Nat) {w : Bs} (p0 : zm) (zC : Option Addr) (zD : Nat) (zU : Sl w.O w.W zP zC zD p0.Tools) (zO : Option Addr) (zN : Nat) (Qe : Sl w.O w.W zH zO zN p0.Steps) (p1 : zm) (zh : Option Addr) (zg : Nat) (Qh : Sl w.O w.W zP zh zg p1.Tools) (Qc : Option Addr) (Qa : Nat) (zDg : Sl w.O w.W zH Qc Qa p1.Steps) (r : Bool) (H : KU N p0 p1 = some r) (hE : HF w w.W E0) : Calls Tryz.prog 5 [.agg #[iv p0.Unit, sL zC p0.Tools zD, sL zO p0.Steps zN], .agg #[iv p1.Unit, sL zh p1.Tools zg, sL Qc p1.Steps Qa]].toArray w.W fun e W' => e = .returned (bV r) ∧ HF w W' E0 := by
 unfold KU at H
 have leB := Bs.Le.refl w
 refine Tr.enter (n := 95) Tryz.func5 rfl rfl rfl hE ?_
 refine Tr.sr (Tr.box 1 (cs := [iv p0.Unit, sL zC p0.Tools zD, sL zO p0.Steps zN]) (wn rfl) rfl rfl rfl fun QE => ?_)
 refine Tr.box 2 (cs := [iv p1.Unit, sL zh p1.Tools zg, sL Qc p1.Steps Qa]) (wn rfl) rfl rfl rfl fun Qw => ?_
 refine Tr.asg rfl rfl (Tr.nil (Tr.zA (Tr.sr (Tr.va rfl (fun _ _ a c => zZ (cs := [iv p0.Unit, sL zC p0.Tools zD, sL zO p0.Steps zN]) WU VD (a.ev rfl) (zR.take (rdb c (vs := [iv p0.Unit, sL zC p0.Tools zD, sL zO p0.Steps zN]) (k := 1) rfl 0) 3) rfl) ?_))))
 obtain ⟨y102, hy102, H⟩ := bnd H
 refine Tr.VM [3] [emp] (U := (Option Addr × Nat)) (fun u => (.tuple #[sL u.1 y102.1 u.2, iv y102.2])) (fun u => SlF u.1 y102.1.length u.2) (fun u => [ow u.1 u.2 36 zK y102.1]) rfl (zQ rfl zf) (fun _ => rfl) (wn rfl) rfl Tryz.call10 (zI rfl zT) (fun W hW hp hE => zFC N p0 zC zD (zU.zAK (hW.QM hp)) zO zN (Qe.zAK (hW.QM hp)) y102 hy102 hE) ?_
 intro u hu
 obtain ⟨JK, JH⟩ := u
 have gy102_0 := hu
 have zLZ : SlF JK y102.1.length JH := gy102_0 --@phi
 show Tr _ _ (uf _ 15 (.tuple #[sL JK y102.1 JH, iv y102.2])) (up _ 3 (ow JK JH 36 zK y102.1)) _
 refine Tr.mv rfl rfl (Tr.va rfl (fun _ _ a c => Qq (a.ev rfl) rfl) ?_)
 refine Tr.va rfl (fun _ _ a c => Qq (a.ev rfl) rfl) ?_
 refine Tr.asg rfl rfl (Tr.asg rfl rfl (Tr.nil (Tr.zA (Tr.sr (Tr.va rfl (fun _ _ a c => zZ (cs := [iv p1.Unit, sL zh p1.Tools zg, sL Qc p1.Steps Qa]) WU VD (a.ev rfl) (zR.take (rdb c (vs := [iv p1.Unit, sL zh p1.Tools zg, sL Qc p1.Steps Qa]) (k := 2) rfl 0) 3) rfl) ?_)))))
 obtain ⟨y104, hy104, H⟩ := bnd H
 refine Tr.VM [4] [emp] (U := (Option Addr × Nat)) (fun u => (.tuple #[sL u.1 y104.1 u.2, iv y104.2])) (fun u => SlF u.1 y104.1.length u.2) (fun u => [ow u.1 u.2 36 zK y104.1]) rfl (zQ rfl zf) (fun _ => rfl) (wn rfl) rfl Tryz.call10 (zI rfl zT) (fun W hW hp hE => zFC N p1 zh zg (Qh.zAK (hW.QM hp)) Qc Qa (zDg.zAK (hW.QM hp)) y104 hy104 hE) ?_
 intro u hu
 obtain ⟨Qg, Qf⟩ := u
 have gy104_0 := hu
 have zJD : SlF Qg y104.1.length Qf := gy104_0 --@phi
 show Tr _ _ (uf _ 20 (.tuple #[sL Qg y104.1 Qf, iv y104.2])) (up _ 4 (ow Qg Qf 36 zK y104.1)) _
 refine Tr.mv rfl rfl (Tr.va rfl (fun _ _ a c => Qq (a.ev rfl) rfl) ?_)
 refine Tr.va rfl (fun _ _ a c => Qq (a.ev rfl) rfl) ?_
 refine Tr.asg rfl rfl (Tr.asg rfl rfl (Tr.nil (Tr.zA (Tr.sr (Tr.va rfl (fun _ _ a c => zZ (cs := [iv p0.Unit, sL zC p0.Tools zD, sL zO p0.Steps zN]) WU VD (a.ev rfl) (zR.take (rdb c (vs := [iv p0.Unit, sL zC p0.Tools zD, sL zO p0.Steps zN]) (k := 1) rfl 0) 3) rfl) ?_)))))
 refine Tr.va rfl (fun _ _ a c => zZ (cs := [iv p1.Unit, sL zh p1.Tools zg, sL Qc p1.Steps Qa]) WU VD (a.ev rfl) (zR.take (rdb c (vs := [iv p1.Unit, sL zh p1.Tools zg, sL Qc p1.Steps Qa]) (k := 2) rfl 0) 3) rfl) ?_
 obtain ⟨QZ, zI8, H⟩ := bnd H
 refine Tr.VT [] [] (U := (Option Addr × Nat) × (Option Addr × Nat)) (fun u => (.tuple #[.agg #[iv QZ.1.Unit, sL u.1.1 QZ.1.Tools u.1.2, sL u.2.1 QZ.1.Steps u.2.2], iv QZ.2])) (fun O W u => Sl O W zP u.1.1 u.1.2 QZ.1.Tools ∧ Sl O W zH u.2.1 u.2.2 QZ.1.Steps) (fun u => []) rfl zf (fun _ => rfl) (wn rfl) rfl Tryz.call16 (zI rfl (zI rfl zT)) (fun W hW hp hE => zM9 N p0 zC zD (zU.zAK (hW.QM hp)) zO zN (Qe.zAK (hW.QM hp)) p1 zh zg (Qh.zAK (hW.QM hp)) Qc Qa (zDg.zAK (hW.QM hp)) QZ zI8 hE) ?_
 intro w u zIQ hu
 obtain ⟨⟨JE, JD⟩, ⟨Kc, Kb⟩⟩ := u
 obtain ⟨gy106_0, gy106_1⟩ := hu
 replace zDg := zDg.le zIQ
 replace leB := leB.trans zIQ
 have zJC : Sl w.O w.W zP JE JD QZ.1.Tools := gy106_0 --@phi
 have zaV : Sl w.O w.W zH Kc Kb QZ.1.Steps := gy106_1 --@phi
 show Tr _ _ (uf _ 26 (.tuple #[.agg #[iv QZ.1.Unit, sL JE QZ.1.Tools JD, sL Kc QZ.1.Steps Kb], iv QZ.2])) (_) _
 refine Tr.mv rfl rfl (Tr.va rfl (fun _ _ a c => Qq (a.ev rfl) rfl) ?_)
 refine Tr.va rfl (fun _ _ a c => Qq (a.ev rfl) rfl) ?_
 refine Tr.alloc 5 (wn rfl) rfl zNB fun zDH => ?_
 refine Tr.store 5 (cs := [iv QZ.1.Unit, sL JE QZ.1.Tools JD, sL Kc QZ.1.Steps Kb]) [iv QZ.1.Unit, sL JE QZ.1.Tools JD, sL Kc QZ.1.Steps Kb] (wn rfl) rfl rfl rfl rfl VD rfl rfl rfl ?_
 refine Tr.asg rfl rfl (Tr.nil (Tr.zA (Tr.seq (Tr.sr (Tr.mv rfl rfl (Tr.va rfl (fun _ _ a c => KY (a.ev rfl) (a.ev rfl)) ?_))))))
 refine Tr.mv rfl rfl (Tr.Vr 3 [(3, pV Qw), (5, sL JK y102.1 JH), (6, iv y102.2), (7, sL Qg y104.1 Qf), (9, pV zDH), (10, iv QZ.2), (34, bV ((y102.2 != 0) || (y104.2 != 0)))] [(1, bx QE #[iv p0.Unit, sL zC p0.Tools zD, sL zO p0.Steps zN] 25), (2, bx Qw #[iv p1.Unit, sL zh p1.Tools zg, sL Qc p1.Steps Qa] 25), (3, ow JK JH 36 zK y102.1), (4, ow Qg Qf 36 zK y104.1), (5, bx zDH #[iv QZ.1.Unit, sL JE QZ.1.Tools JD, sL Kc QZ.1.Steps Kb] 25)] ?_ ?_)
 ·cases zD6 : (y102.2 != 0)
  ·refine Tr.val (wg rfl rfl rfl) rfl (fun _ _ a c => run_move (a.ev rfl)) ?_
   refine Tr.val (wg rfl rfl rfl) rfl (fun _ _ a c => KY (a.ev rfl) (a.ev rfl)) ?_
   refine Tr.va rfl (fun _ _ a c => zx (a.ev rfl) (a.ev rfl)) ?_
   exact Tr.nil (Tr.JM (.cons rfl (.cons rfl (.cons rfl (.cons rfl (.cons rfl (.cons rfl (.cons rfl .nil))))))) (.cons rfl (.cons rfl (.cons rfl (.cons rfl (.cons rfl .nil))))))
  ·refine Tr.pass rfl rfl rfl rfl rfl (by decide) ?_
   refine Tr.pass rfl rfl rfl rfl rfl (by decide) ?_
   refine Tr.va rfl (fun _ _ a c => zw (a.ev rfl) (a.ev rfl)) ?_
   exact Tr.nil (Tr.JM (.cons rfl (.cons rfl (.cons rfl (.cons rfl (.cons rfl (.cons rfl (.cons rfl .nil))))))) (.cons rfl (.cons rfl (.cons rfl (.cons rfl (.cons rfl .nil))))))
 ·show Tr _ _ (LF [(3, pV Qw), (5, sL JK y102.1 JH), (6, iv y102.2), (7, sL Qg y104.1 Qf), (9, pV zDH), (10, iv QZ.2), (34, bV ((y102.2 != 0) || (y104.2 != 0)))]) (LE [(1, bx QE #[iv p0.Unit, sL zC p0.Tools zD, sL zO p0.Steps zN] 25), (2, bx Qw #[iv p1.Unit, sL zh p1.Tools zg, sL Qc p1.Steps Qa] 25), (3, ow JK JH 36 zK y102.1), (4, ow Qg Qf 36 zK y104.1), (5, bx zDH #[iv QZ.1.Unit, sL JE QZ.1.Tools JD, sL Kc QZ.1.Steps Kb] 25)]) _
  refine Tr.mv rfl rfl (Tr.Vr 3 [(3, pV Qw), (5, sL JK y102.1 JH), (6, iv y102.2), (7, sL Qg y104.1 Qf), (9, pV zDH), (10, iv QZ.2), (38, bV (((y102.2 != 0) || (y104.2 != 0)) || (QZ.2 != 0)))] [(1, bx QE #[iv p0.Unit, sL zC p0.Tools zD, sL zO p0.Steps zN] 25), (2, bx Qw #[iv p1.Unit, sL zh p1.Tools zg, sL Qc p1.Steps Qa] 25), (3, ow JK JH 36 zK y102.1), (4, ow Qg Qf 36 zK y104.1), (5, bx zDH #[iv QZ.1.Unit, sL JE QZ.1.Tools JD, sL Kc QZ.1.Steps Kb] 25)] ?_ ?_)
  ·cases zD6 : ((y102.2 != 0) || (y104.2 != 0))
   ·refine Tr.val (wg rfl rfl rfl) rfl (fun _ _ a c => run_move (a.ev rfl)) ?_
    refine Tr.val (wg rfl rfl rfl) rfl (fun _ _ a c => KY (a.ev rfl) (a.ev rfl)) ?_
    refine Tr.va rfl (fun _ _ a c => zx (a.ev rfl) (a.ev rfl)) ?_
    exact Tr.nil (Tr.JM (.cons rfl (.cons rfl (.cons rfl (.cons rfl (.cons rfl (.cons rfl (.cons rfl .nil))))))) (.cons rfl (.cons rfl (.cons rfl (.cons rfl (.cons rfl .nil))))))
   ·refine Tr.pass rfl rfl rfl rfl rfl (by decide) ?_
    refine Tr.pass rfl rfl rfl rfl rfl (by decide) ?_
    refine Tr.va rfl (fun _ _ a c => zw (a.ev rfl) (a.ev rfl)) ?_
    exact Tr.nil (Tr.JM (.cons rfl (.cons rfl (.cons rfl (.cons rfl (.cons rfl (.cons rfl (.cons rfl .nil))))))) (.cons rfl (.cons rfl (.cons rfl (.cons rfl (.cons rfl .nil))))))
  ·show Tr _ _ (LF [(3, pV Qw), (5, sL JK y102.1 JH), (6, iv y102.2), (7, sL Qg y104.1 Qf), (9, pV zDH), (10, iv QZ.2), (38, bV (((y102.2 != 0) || (y104.2 != 0)) || (QZ.2 != 0)))]) (LE [(1, bx QE #[iv p0.Unit, sL zC p0.Tools zD, sL zO p0.Steps zN] 25), (2, bx Qw #[iv p1.Unit, sL zh p1.Tools zg, sL Qc p1.Steps Qa] 25), (3, ow JK JH 36 zK y102.1), (4, ow Qg Qf 36 zK y104.1), (5, bx zDH #[iv QZ.1.Unit, sL JE QZ.1.Tools JD, sL Kc QZ.1.Steps Kb] 25)]) _
   refine Tr.mv rfl rfl ?_
   obtain ⟨zce, zF8, H⟩ := bnd H
   refine Tr.Vr 4 [(5, sL JK y102.1 JH), (6, iv y102.2), (7, sL Qg y104.1 Qf), (9, pV zDH), (10, iv QZ.2), (43, bV zce)] [(1, bx QE #[iv p0.Unit, sL zC p0.Tools zD, sL zO p0.Steps zN] 25), (2, bx Qw #[iv p1.Unit, sL zh p1.Tools zg, sL Qc p1.Steps Qa] 25), (3, ow JK JH 36 zK y102.1), (4, ow Qg Qf 36 zK y104.1), (5, bx zDH #[iv QZ.1.Unit, sL JE QZ.1.Tools JD, sL Kc QZ.1.Steps Kb] 25)] ?_ ?_
   ·cases zD6 : (((y102.2 != 0) || (y104.2 != 0)) || (QZ.2 != 0))
    ·rw [zD6] at zF8
     rw [if_neg (by decide)] at zF8
     have H := zF8
     refine Tr.val (wg rfl rfl rfl) rfl (fun _ _ a c => zB zDj (a.ev rfl)) ?_
     refine Tr.val (wg rfl rfl rfl) rfl (fun _ _ a c => zF zDp (a.ev rfl) (rdb c (vs := [iv p1.Unit, sL zh p1.Tools zg, sL Qc p1.Steps Qa]) (k := 2) rfl 2) rfl) ?_
     obtain ⟨zFK, zTy, H⟩ := bnd H
     refine Tr.JI (r := (bV zFK)) (wg rfl rfl rfl) rfl Tryz.call17 (zI rfl zT) (fun W hW => zCl N p1.Steps Qc Qa (zDg.rl.ext hW.Qx) zFK zTy (HF.start _)) ?_
     refine Tr.va rfl (fun _ _ a c => zx (a.ev rfl) (a.ev rfl)) ?_
     obtain rfl := oI H
     exact Tr.nil (Tr.JM (.cons rfl (.cons rfl (.cons rfl (.cons rfl (.cons rfl (.cons rfl .nil)))))) (.cons rfl (.cons rfl (.cons rfl (.cons rfl (.cons rfl .nil))))))
    ·rw [zD6] at zF8
     rw [if_pos rfl] at zF8
     have H := zF8
     obtain rfl := oI H
     refine Tr.pass rfl rfl rfl rfl rfl (by decide) ?_
     refine Tr.pass rfl rfl rfl rfl rfl (by decide) ?_
     refine Tr.pass rfl rfl rfl rfl rfl (by decide) ?_
     refine Tr.va rfl (fun _ _ a c => zw (a.ev rfl) (a.ev rfl)) ?_
     exact Tr.nil (Tr.JM (.cons rfl (.cons rfl (.cons rfl (.cons rfl (.cons rfl (.cons rfl .nil)))))) (.cons rfl (.cons rfl (.cons rfl (.cons rfl (.cons rfl .nil))))))
   ·show Tr _ _ (LF [(5, sL JK y102.1 JH), (6, iv y102.2), (7, sL Qg y104.1 Qf), (9, pV zDH), (10, iv QZ.2), (43, bV zce)]) (LE [(1, bx QE #[iv p0.Unit, sL zC p0.Tools zD, sL zO p0.Steps zN] 25), (2, bx Qw #[iv p1.Unit, sL zh p1.Tools zg, sL Qc p1.Steps Qa] 25), (3, ow JK JH 36 zK y102.1), (4, ow Qg Qf 36 zK y104.1), (5, bx zDH #[iv QZ.1.Unit, sL JE QZ.1.Tools JD, sL Kc QZ.1.Steps Kb] 25)]) _
    refine Tr.nil (Tr.zA (Tr.cond rfl H (fun H => ?_) (fun H => ?_)))
    ·refine Tr.sr (Tr.mv rfl rfl (Tr.va rfl (fun _ _ a c => Qn (a.ev rfl) (a.ev rfl)) ?_))
     refine Tr.mv rfl rfl (Tr.Vr 4 [(9, pV zDH), (10, iv QZ.2), (50, bV ((y102.2 == 0) || ((y102.1.length : Int) == 0)))] [(1, bx QE #[iv p0.Unit, sL zC p0.Tools zD, sL zO p0.Steps zN] 25), (2, bx Qw #[iv p1.Unit, sL zh p1.Tools zg, sL Qc p1.Steps Qa] 25), (3, ow JK JH 36 zK y102.1), (4, ow Qg Qf 36 zK y104.1), (5, bx zDH #[iv QZ.1.Unit, sL JE QZ.1.Tools JD, sL Kc QZ.1.Steps Kb] 25)] ?_ ?_)
     ·cases zJE : (y102.2 == 0)
      ·refine Tr.val (wg rfl rfl rfl) rfl (fun _ _ a c => run_move (a.ev rfl)) ?_
       refine Tr.val (wg rfl rfl rfl) rfl (fun _ _ a c => QJ zA8 (a.ev rfl)) ?_
       refine Tr.val (wg rfl rfl rfl) rfl (fun _ _ a c => Qn (a.ev rfl) (a.ev rfl)) ?_
       refine Tr.va rfl (fun _ _ a c => zx (a.ev rfl) (a.ev rfl)) ?_
       exact Tr.nil (Tr.JM (.cons rfl (.cons rfl (.cons rfl .nil))) (.cons rfl (.cons rfl (.cons rfl (.cons rfl (.cons rfl .nil))))))
      ·refine Tr.pass rfl rfl rfl rfl rfl (by decide) ?_
       refine Tr.pass rfl rfl rfl rfl rfl (by decide) ?_
       refine Tr.pass rfl rfl rfl rfl rfl (by decide) ?_
       refine Tr.va rfl (fun _ _ a c => zw (a.ev rfl) (a.ev rfl)) ?_
       exact Tr.nil (Tr.JM (.cons rfl (.cons rfl (.cons rfl .nil))) (.cons rfl (.cons rfl (.cons rfl (.cons rfl (.cons rfl .nil))))))
     ·show Tr _ _ (LF [(9, pV zDH), (10, iv QZ.2), (50, bV ((y102.2 == 0) || ((y102.1.length : Int) == 0)))]) (LE [(1, bx QE #[iv p0.Unit, sL zC p0.Tools zD, sL zO p0.Steps zN] 25), (2, bx Qw #[iv p1.Unit, sL zh p1.Tools zg, sL Qc p1.Steps Qa] 25), (3, ow JK JH 36 zK y102.1), (4, ow Qg Qf 36 zK y104.1), (5, bx zDH #[iv QZ.1.Unit, sL JE QZ.1.Tools JD, sL Kc QZ.1.Steps Kb] 25)]) _
      refine Tr.mv rfl rfl (Tr.Vr 8 [(59, bV (((y102.2 == 0) || ((y102.1.length : Int) == 0)) && ((QZ.2 == 0) || (QZ.1.Unit == 0))))] [(1, bx QE #[iv p0.Unit, sL zC p0.Tools zD, sL zO p0.Steps zN] 25), (2, bx Qw #[iv p1.Unit, sL zh p1.Tools zg, sL Qc p1.Steps Qa] 25), (3, ow JK JH 36 zK y102.1), (4, ow Qg Qf 36 zK y104.1), (5, bx zDH #[iv QZ.1.Unit, sL JE QZ.1.Tools JD, sL Kc QZ.1.Steps Kb] 25)] ?_ ?_)
      ·cases zJE : ((y102.2 == 0) || ((y102.1.length : Int) == 0))
       ·refine Tr.pass rfl rfl rfl rfl rfl (by decide) ?_
        refine Tr.pass rfl rfl rfl rfl rfl (by decide) ?_
        refine Tr.pass rfl rfl rfl rfl rfl (by decide) ?_
        refine Tr.VL rfl rfl rfl rfl (by decide) ?_
        refine Tr.VL rfl rfl rfl rfl (by decide) ?_
        refine Tr.VL rfl rfl rfl rfl (by decide) ?_
        refine Tr.pass rfl rfl rfl rfl rfl (by decide) ?_
        refine Tr.va rfl (fun _ _ a c => zx (a.ev rfl) (a.ev rfl)) ?_
        exact Tr.nil (Tr.JM (.cons rfl .nil) (.cons rfl (.cons rfl (.cons rfl (.cons rfl (.cons rfl .nil))))))
       ·refine Tr.val (wg rfl rfl rfl) rfl (fun _ _ a c => run_move (a.ev rfl)) ?_
        refine Tr.val (wg rfl rfl rfl) rfl (fun _ _ a c => Qn (a.ev rfl) (a.ev rfl)) ?_
        refine Tr.val (wg rfl rfl rfl) rfl (fun _ _ a c => run_move (a.ev rfl)) ?_
        refine Tr.Vr 4 [(51, bV true), (58, bV ((QZ.2 == 0) || (QZ.1.Unit == 0)))] [(1, bx QE #[iv p0.Unit, sL zC p0.Tools zD, sL zO p0.Steps zN] 25), (2, bx Qw #[iv p1.Unit, sL zh p1.Tools zg, sL Qc p1.Steps Qa] 25), (3, ow JK JH 36 zK y102.1), (4, ow Qg Qf 36 zK y104.1), (5, bx zDH #[iv QZ.1.Unit, sL JE QZ.1.Tools JD, sL Kc QZ.1.Steps Kb] 25)] ?_ ?_
        ·cases znD : (QZ.2 == 0)
         ·refine Tr.val (wg rfl rfl rfl) rfl (fun _ _ a c => zB WS (a.ev rfl)) ?_
          refine Tr.val (wg rfl rfl rfl) rfl (fun _ _ a c => zF QH (a.ev rfl) (rdb c (vs := [iv QZ.1.Unit, sL JE QZ.1.Tools JD, sL Kc QZ.1.Steps Kb]) (k := 5) rfl 0) rfl) ?_
          refine Tr.val (wg rfl rfl rfl) rfl (fun _ _ a c => Qn (a.ev rfl) (a.ev rfl)) ?_
          refine Tr.val (wg rfl rfl rfl) rfl (fun _ _ a c => zx (a.ev rfl) (a.ev rfl)) ?_
          exact Tr.nil (Tr.JM (.cons rfl (.cons rfl .nil)) (.cons rfl (.cons rfl (.cons rfl (.cons rfl (.cons rfl .nil))))))
         ·refine Tr.pass rfl rfl rfl rfl rfl (by decide) ?_
          refine Tr.pass rfl rfl rfl rfl rfl (by decide) ?_
          refine Tr.pass rfl rfl rfl rfl rfl (by decide) ?_
          refine Tr.val (wg rfl rfl rfl) rfl (fun _ _ a c => zw (a.ev rfl) (a.ev rfl)) ?_
          exact Tr.nil (Tr.JM (.cons rfl (.cons rfl .nil)) (.cons rfl (.cons rfl (.cons rfl (.cons rfl (.cons rfl .nil))))))
        ·show Tr _ _ (LF [(51, bV true), (58, bV ((QZ.2 == 0) || (QZ.1.Unit == 0)))]) (LE [(1, bx QE #[iv p0.Unit, sL zC p0.Tools zD, sL zO p0.Steps zN] 25), (2, bx Qw #[iv p1.Unit, sL zh p1.Tools zg, sL Qc p1.Steps Qa] 25), (3, ow JK JH 36 zK y102.1), (4, ow Qg Qf 36 zK y104.1), (5, bx zDH #[iv QZ.1.Unit, sL JE QZ.1.Tools JD, sL Kc QZ.1.Steps Kb] 25)]) _
         refine Tr.va rfl (fun _ _ a c => zw (a.ev rfl) (a.ev rfl)) ?_
         exact Tr.nil (Tr.JM (.cons rfl .nil) (.cons rfl (.cons rfl (.cons rfl (.cons rfl (.cons rfl .nil))))))
      ·show Tr _ _ (LF [(59, bV (((y102.2 == 0) || ((y102.1.length : Int) == 0)) && ((QZ.2 == 0) || (QZ.1.Unit == 0))))]) (LE [(1, bx QE #[iv p0.Unit, sL zC p0.Tools zD, sL zO p0.Steps zN] 25), (2, bx Qw #[iv p1.Unit, sL zh p1.Tools zg, sL Qc p1.Steps Qa] 25), (3, ow JK JH 36 zK y102.1), (4, ow Qg Qf 36 zK y104.1), (5, bx zDH #[iv QZ.1.Unit, sL JE QZ.1.Tools JD, sL Kc QZ.1.Steps Kb] 25)]) _
       refine Tr.mv rfl rfl ?_
       obtain ⟨zNi, zHN, H⟩ := bnd H
       refine Tr.Vr 2 [(62, bV zNi)] [(1, bx QE #[iv p0.Unit, sL zC p0.Tools zD, sL zO p0.Steps zN] 25), (2, bx Qw #[iv p1.Unit, sL zh p1.Tools zg, sL Qc p1.Steps Qa] 25), (3, ow JK JH 36 zK y102.1), (4, ow Qg Qf 36 zK y104.1), (5, bx zDH #[iv QZ.1.Unit, sL JE QZ.1.Tools JD, sL Kc QZ.1.Steps Kb] 25)] ?_ ?_
       ·cases zJE : (((y102.2 == 0) || ((y102.1.length : Int) == 0)) && ((QZ.2 == 0) || (QZ.1.Unit == 0)))
        ·rw [zJE] at zHN
         rw [if_neg (by decide)] at zHN
         have H := zHN
         obtain rfl := oI H
         refine Tr.pass rfl rfl rfl rfl rfl (by decide) ?_
         refine Tr.va rfl (fun _ _ a c => zx (a.ev rfl) (a.ev rfl)) ?_
         exact Tr.nil (Tr.JM (.cons rfl .nil) (.cons rfl (.cons rfl (.cons rfl (.cons rfl (.cons rfl .nil))))))
        ·rw [zJE] at zHN
         rw [if_pos rfl] at zHN
         have H := zHN
         obtain ⟨y114, hy114, H⟩ := bnd H
         refine Tr.JI (r := (bV y114)) (wg rfl rfl rfl) rfl Tryz.call8 zT (fun W hW => zA1 N y114 hy114 (HF.start _)) ?_
         refine Tr.va rfl (fun _ _ a c => zw (a.ev rfl) (a.ev rfl)) ?_
         obtain rfl := oI H
         exact Tr.nil (Tr.JM (.cons rfl .nil) (.cons rfl (.cons rfl (.cons rfl (.cons rfl (.cons rfl .nil))))))
       ·show Tr _ _ (LF [(62, bV zNi)]) (LE [(1, bx QE #[iv p0.Unit, sL zC p0.Tools zD, sL zO p0.Steps zN] 25), (2, bx Qw #[iv p1.Unit, sL zh p1.Tools zg, sL Qc p1.Steps Qa] 25), (3, ow JK JH 36 zK y102.1), (4, ow Qg Qf 36 zK y104.1), (5, bx zDH #[iv QZ.1.Unit, sL JE QZ.1.Tools JD, sL Kc QZ.1.Steps Kb] 25)]) _
        refine Tr.asg rfl rfl (Tr.nil (Tr.zA (Tr.ret (Tr.zi ?_))))
        obtain rfl := oI H
        exact Tr.out (m := [bV zNi]) [] (zW rfl zX) (fun W hW => ⟨rfl, hW.low leB⟩)
    ·refine Tr.skip (Tr.zA (Tr.sr (Tr.va rfl (fun _ _ a c => zZ (cs := [iv QZ.1.Unit, sL JE QZ.1.Tools JD, sL Kc QZ.1.Steps Kb]) WU VD (a.ev rfl) (zR.take (rdb c (vs := [iv QZ.1.Unit, sL JE QZ.1.Tools JD, sL Kc QZ.1.Steps Kb]) (k := 5) rfl 0) 3) rfl) ?_)))
     obtain ⟨y115, hy115, H⟩ := bnd H
     refine Tr.VM [6] [emp] (U := (Option Addr × Nat)) (fun u => (.tuple #[sL u.1 y115.1 u.2, iv y115.2])) (fun u => SlF u.1 y115.1.length u.2) (fun u => [ow u.1 u.2 36 zK y115.1]) rfl (zQ rfl zf) (fun _ => rfl) (wn rfl) rfl Tryz.call10 (zI rfl zT) (fun W hW hp hE => zFC N QZ.1 JE JD (zJC.zAK (hW.QM hp)) Kc Kb (zaV.zAK (hW.QM hp)) y115 hy115 hE) ?_
     intro u hu
     obtain ⟨zB3, zBy⟩ := u
     have gy115_0 := hu
     have zks : SlF zB3 y115.1.length zBy := gy115_0 --@phi
     show Tr _ _ (uf _ 65 (.tuple #[sL zB3 y115.1 zBy, iv y115.2])) (up _ 6 (ow zB3 zBy 36 zK y115.1)) _
     refine Tr.mv rfl rfl (Tr.va rfl (fun _ _ a c => Qq (a.ev rfl) rfl) ?_)
     refine Tr.va rfl (fun _ _ a c => Qq (a.ev rfl) rfl) ?_
     refine Tr.asg rfl rfl (Tr.asg rfl rfl (Tr.nil (Tr.zA (Tr.sr (Tr.mv rfl rfl (Tr.mv rfl rfl ?_))))))
     obtain ⟨zB5, zZk, H⟩ := bnd H
     refine Tr.VM [7] [emp] (U := (Option Addr × Nat)) (fun u => (.tuple #[sL u.1 zB5.1 u.2, iv zB5.2])) (fun u => SlF u.1 zB5.1.length u.2) (fun u => [ow u.1 u.2 36 zK zB5.1]) rfl (zQ rfl zf) (fun _ => rfl) (wn rfl) rfl Tryz.call18 (zI rfl (zI rfl zT)) (fun W hW hp hE => zM6 N y102.1 JK JH (hW.slS (k := 3) rfl hp rfl) y104.1 Qg Qf (hW.slS (k := 4) rfl hp rfl) zB5 zZk hE) ?_
     intro u hu
     obtain ⟨zB2, zBx⟩ := u
     have gy117_0 := hu
     have zkr : SlF zB2 zB5.1.length zBx := gy117_0 --@phi
     show Tr _ _ (uf _ 71 (.tuple #[sL zB2 zB5.1 zBx, iv zB5.2])) (up _ 7 (ow zB2 zBx 36 zK zB5.1)) _
     refine Tr.mv rfl rfl (Tr.va rfl (fun _ _ a c => Qq (a.ev rfl) rfl) ?_)
     refine Tr.va rfl (fun _ _ a c => Qq (a.ev rfl) rfl) ?_
     refine Tr.asg rfl rfl (Tr.asg rfl rfl (Tr.nil (Tr.zA (Tr.seq (Tr.sr (Tr.mv rfl rfl (Tr.va rfl (fun _ _ a c => KY (a.ev rfl) (a.ev rfl)) ?_)))))))
     refine Tr.mv rfl rfl (Tr.Vr 3 [(6, iv y115.2), (8, iv zB5.2), (11, sL zB3 y115.1 zBy), (12, sL zB2 zB5.1 zBx), (79, bV ((y115.2 != 0) || (zB5.2 != 0)))] [(1, bx QE #[iv p0.Unit, sL zC p0.Tools zD, sL zO p0.Steps zN] 25), (2, bx Qw #[iv p1.Unit, sL zh p1.Tools zg, sL Qc p1.Steps Qa] 25), (3, ow JK JH 36 zK y102.1), (4, ow Qg Qf 36 zK y104.1), (5, bx zDH #[iv QZ.1.Unit, sL JE QZ.1.Tools JD, sL Kc QZ.1.Steps Kb] 25), (6, ow zB3 zBy 36 zK y115.1), (7, ow zB2 zBx 36 zK zB5.1)] ?_ ?_)
     ·cases zD6 : (y115.2 != 0)
      ·refine Tr.val (wg rfl rfl rfl) rfl (fun _ _ a c => run_move (a.ev rfl)) ?_
       refine Tr.val (wg rfl rfl rfl) rfl (fun _ _ a c => KY (a.ev rfl) (a.ev rfl)) ?_
       refine Tr.va rfl (fun _ _ a c => zx (a.ev rfl) (a.ev rfl)) ?_
       exact Tr.nil (Tr.JM (.cons rfl (.cons rfl (.cons rfl (.cons rfl (.cons rfl .nil))))) (.cons rfl (.cons rfl (.cons rfl (.cons rfl (.cons rfl (.cons rfl (.cons rfl .nil))))))))
      ·refine Tr.pass rfl rfl rfl rfl rfl (by decide) ?_
       refine Tr.pass rfl rfl rfl rfl rfl (by decide) ?_
       refine Tr.va rfl (fun _ _ a c => zw (a.ev rfl) (a.ev rfl)) ?_
       exact Tr.nil (Tr.JM (.cons rfl (.cons rfl (.cons rfl (.cons rfl (.cons rfl .nil))))) (.cons rfl (.cons rfl (.cons rfl (.cons rfl (.cons rfl (.cons rfl (.cons rfl .nil))))))))
     ·show Tr _ _ (LF [(6, iv y115.2), (8, iv zB5.2), (11, sL zB3 y115.1 zBy), (12, sL zB2 zB5.1 zBx), (79, bV ((y115.2 != 0) || (zB5.2 != 0)))]) (LE [(1, bx QE #[iv p0.Unit, sL zC p0.Tools zD, sL zO p0.Steps zN] 25), (2, bx Qw #[iv p1.Unit, sL zh p1.Tools zg, sL Qc p1.Steps Qa] 25), (3, ow JK JH 36 zK y102.1), (4, ow Qg Qf 36 zK y104.1), (5, bx zDH #[iv QZ.1.Unit, sL JE QZ.1.Tools JD, sL Kc QZ.1.Steps Kb] 25), (6, ow zB3 zBy 36 zK y115.1), (7, ow zB2 zBx 36 zK zB5.1)]) _
      refine Tr.nil (Tr.zA (Tr.cond rfl H (fun H => ?_) (fun H => ?_)))
      ·refine Tr.sr (Tr.mv rfl rfl (Tr.va rfl (fun _ _ a c => Qn (a.ev rfl) (a.ev rfl)) ?_))
       refine Tr.mv rfl rfl (Tr.Vr 3 [(85, bV ((y115.2 == 2) || (zB5.2 == 2)))] [(1, bx QE #[iv p0.Unit, sL zC p0.Tools zD, sL zO p0.Steps zN] 25), (2, bx Qw #[iv p1.Unit, sL zh p1.Tools zg, sL Qc p1.Steps Qa] 25), (3, ow JK JH 36 zK y102.1), (4, ow Qg Qf 36 zK y104.1), (5, bx zDH #[iv QZ.1.Unit, sL JE QZ.1.Tools JD, sL Kc QZ.1.Steps Kb] 25), (6, ow zB3 zBy 36 zK y115.1), (7, ow zB2 zBx 36 zK zB5.1)] ?_ ?_)
       ·cases Wt : (y115.2 == 2)
        ·refine Tr.val (wg rfl rfl rfl) rfl (fun _ _ a c => run_move (a.ev rfl)) ?_
         refine Tr.val (wg rfl rfl rfl) rfl (fun _ _ a c => Qn (a.ev rfl) (a.ev rfl)) ?_
         refine Tr.va rfl (fun _ _ a c => zx (a.ev rfl) (a.ev rfl)) ?_
         exact Tr.nil (Tr.JM (.cons rfl .nil) (.cons rfl (.cons rfl (.cons rfl (.cons rfl (.cons rfl (.cons rfl (.cons rfl .nil))))))))
        ·refine Tr.pass rfl rfl rfl rfl rfl (by decide) ?_
         refine Tr.pass rfl rfl rfl rfl rfl (by decide) ?_
         refine Tr.va rfl (fun _ _ a c => zw (a.ev rfl) (a.ev rfl)) ?_
         exact Tr.nil (Tr.JM (.cons rfl .nil) (.cons rfl (.cons rfl (.cons rfl (.cons rfl (.cons rfl (.cons rfl (.cons rfl .nil))))))))
       ·show Tr _ _ (LF [(85, bV ((y115.2 == 2) || (zB5.2 == 2)))]) (LE [(1, bx QE #[iv p0.Unit, sL zC p0.Tools zD, sL zO p0.Steps zN] 25), (2, bx Qw #[iv p1.Unit, sL zh p1.Tools zg, sL Qc p1.Steps Qa] 25), (3, ow JK JH 36 zK y102.1), (4, ow Qg Qf 36 zK y104.1), (5, bx zDH #[iv QZ.1.Unit, sL JE QZ.1.Tools JD, sL Kc QZ.1.Steps Kb] 25), (6, ow zB3 zBy 36 zK y115.1), (7, ow zB2 zBx 36 zK zB5.1)]) _
        refine Tr.mv rfl rfl ?_
        obtain ⟨zQW, zHM, H⟩ := bnd H
        refine Tr.Vr 2 [(88, bV zQW)] [(1, bx QE #[iv p0.Unit, sL zC p0.Tools zD, sL zO p0.Steps zN] 25), (2, bx Qw #[iv p1.Unit, sL zh p1.Tools zg, sL Qc p1.Steps Qa] 25), (3, ow JK JH 36 zK y102.1), (4, ow Qg Qf 36 zK y104.1), (5, bx zDH #[iv QZ.1.Unit, sL JE QZ.1.Tools JD, sL Kc QZ.1.Steps Kb] 25), (6, ow zB3 zBy 36 zK y115.1), (7, ow zB2 zBx 36 zK zB5.1)] ?_ ?_
        ·cases Wt : ((y115.2 == 2) || (zB5.2 == 2))
         ·rw [Wt] at zHM
          rw [if_neg (by decide)] at zHM
          have H := zHM
          obtain rfl := oI H
          refine Tr.pass rfl rfl rfl rfl rfl (by decide) ?_
          refine Tr.va rfl (fun _ _ a c => zx (a.ev rfl) (a.ev rfl)) ?_
          exact Tr.nil (Tr.JM (.cons rfl .nil) (.cons rfl (.cons rfl (.cons rfl (.cons rfl (.cons rfl (.cons rfl (.cons rfl .nil))))))))
         ·rw [Wt] at zHM
          rw [if_pos rfl] at zHM
          have H := zHM
          obtain ⟨zGN, zTw, H⟩ := bnd H
          refine Tr.JI (r := (bV zGN)) (wg rfl rfl rfl) rfl Tryz.call8 zT (fun W hW => zA1 N zGN zTw (HF.start _)) ?_
          refine Tr.va rfl (fun _ _ a c => zw (a.ev rfl) (a.ev rfl)) ?_
          obtain rfl := oI H
          exact Tr.nil (Tr.JM (.cons rfl .nil) (.cons rfl (.cons rfl (.cons rfl (.cons rfl (.cons rfl (.cons rfl (.cons rfl .nil))))))))
        ·show Tr _ _ (LF [(88, bV zQW)]) (LE [(1, bx QE #[iv p0.Unit, sL zC p0.Tools zD, sL zO p0.Steps zN] 25), (2, bx Qw #[iv p1.Unit, sL zh p1.Tools zg, sL Qc p1.Steps Qa] 25), (3, ow JK JH 36 zK y102.1), (4, ow Qg Qf 36 zK y104.1), (5, bx zDH #[iv QZ.1.Unit, sL JE QZ.1.Tools JD, sL Kc QZ.1.Steps Kb] 25), (6, ow zB3 zBy 36 zK y115.1), (7, ow zB2 zBx 36 zK zB5.1)]) _
         refine Tr.asg rfl rfl (Tr.nil (Tr.zA (Tr.ret (Tr.zi ?_))))
         obtain rfl := oI H
         exact Tr.out (m := [bV zQW]) [] (zW rfl zX) (fun W hW => ⟨rfl, hW.low leB⟩)
      ·refine Tr.skip (Tr.zA (Tr.sr (Tr.mv rfl rfl (Tr.mv rfl rfl ?_))))
       obtain ⟨Kq, zPQ, H⟩ := bnd H
       refine Tr.JI (r := (bV Kq)) (wn rfl) rfl Tryz.call11 (zI rfl (zI rfl zT)) (fun W hW => zDr y115.1 zB3 zBy (hW.zEA (k := 6) rfl) zB5.1 zB2 zBx (hW.zEA (k := 7) rfl) Kq zPQ (HF.start _)) ?_
       refine Tr.mv rfl rfl ?_
       obtain ⟨zQV, zHL, H⟩ := bnd H
       refine Tr.Vr 2 [(94, bV zQV)] [(1, bx QE #[iv p0.Unit, sL zC p0.Tools zD, sL zO p0.Steps zN] 25), (2, bx Qw #[iv p1.Unit, sL zh p1.Tools zg, sL Qc p1.Steps Qa] 25), (3, ow JK JH 36 zK y102.1), (4, ow Qg Qf 36 zK y104.1), (5, bx zDH #[iv QZ.1.Unit, sL JE QZ.1.Tools JD, sL Kc QZ.1.Steps Kb] 25), (6, ow zB3 zBy 36 zK y115.1), (7, ow zB2 zBx 36 zK zB5.1)] ?_ ?_
       ·cases zD6 : Kq
        ·rw [zD6] at zHL
         rw [if_neg (by decide)] at zHL
         have H := zHL
         obtain rfl := oI H
         refine Tr.pass rfl rfl rfl rfl rfl (by decide) ?_
         refine Tr.va rfl (fun _ _ a c => zx (a.ev rfl) (a.ev rfl)) ?_
         exact Tr.nil (Tr.JM (.cons rfl .nil) (.cons rfl (.cons rfl (.cons rfl (.cons rfl (.cons rfl (.cons rfl (.cons rfl .nil))))))))
        ·rw [zD6] at zHL
         rw [if_pos rfl] at zHL
         have H := zHL
         obtain ⟨zD1, zPP, H⟩ := bnd H
         refine Tr.JI (r := (bV zD1)) (wg rfl rfl rfl) rfl Tryz.call8 zT (fun W hW => zA1 N zD1 zPP (HF.start _)) ?_
         refine Tr.va rfl (fun _ _ a c => zw (a.ev rfl) (a.ev rfl)) ?_
         obtain rfl := oI H
         exact Tr.nil (Tr.JM (.cons rfl .nil) (.cons rfl (.cons rfl (.cons rfl (.cons rfl (.cons rfl (.cons rfl (.cons rfl .nil))))))))
       ·show Tr _ _ (LF [(94, bV zQV)]) (LE [(1, bx QE #[iv p0.Unit, sL zC p0.Tools zD, sL zO p0.Steps zN] 25), (2, bx Qw #[iv p1.Unit, sL zh p1.Tools zg, sL Qc p1.Steps Qa] 25), (3, ow JK JH 36 zK y102.1), (4, ow Qg Qf 36 zK y104.1), (5, bx zDH #[iv QZ.1.Unit, sL JE QZ.1.Tools JD, sL Kc QZ.1.Steps Kb] 25), (6, ow zB3 zBy 36 zK y115.1), (7, ow zB2 zBx 36 zK zB5.1)]) _
        refine Tr.asg rfl rfl (Tr.nil (Tr.zA (Tr.ret ?_)))
        obtain rfl := oI H
        exact Tr.out (m := [bV zQV]) [] (zW rfl zX) (fun W hW => ⟨rfl, hW.low leB⟩)

end Go.Proofs.YtoageaoknnnfbaaGreatDoor
