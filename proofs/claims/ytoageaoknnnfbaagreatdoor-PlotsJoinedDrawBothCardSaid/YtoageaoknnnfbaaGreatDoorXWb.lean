/- The walks: each function computes its plain function. -/
import Derived.Test.YtoageaoknnnfbaaGreatDoorXWa
namespace Go.Proofs.YtoageaoknnnfbaaGreatDoor
open Go.RowKit
set_option maxRecDepth 100000
set_option maxHeartbeats 1000000
theorem zBJ (N : Nat) {w : Bs} (p0 : (List zS)) (zC : Option Addr) (zD : Nat) (zU : Sl w.R w.W zK zC zD p0) (r : (List ze)) (H : VW N p0 = some r) (hE : HF w w.W (LEn [emp])) : Calls Tryz.prog 59 [sL zC p0 zD].toArray w.W fun e W' => ∃ (w' : Bs) (u : (Option Addr × Nat)), w.Le w' ∧ e = .returned (sL u.1 r u.2) ∧ (SlF u.1 r.length u.2) ∧ HF w' W' (LEn [ow u.1 u.2 107 zL r]) := by
 unfold VW at H
 have leB := Bs.Le.refl w
 refine Tr.enter (n := 83) Tryz.func59 rfl rfl rfl hE ?_
 refine Tr.sr (Tr.asg rfl rfl (Tr.JU 1 107 zL ?_))
 show Tr _ _ (uf _ 2 (sL none (([] : List ze)) 0)) _ _
 refine Tr.nil (Tr.zA (Tr.sr (Tr.mv rfl rfl ?_)))
 obtain ⟨zy, Ws, H⟩ := bnd H
 refine Tr.VM [2] [emp] (U := (Option Addr × Nat)) (fun u => (sL u.1 zy u.2)) (fun u => SlF u.1 zy.length u.2) (fun u => [ow u.1 u.2 36 zK zy]) rfl (zQ rfl zf) (fun _ => rfl) (wn rfl) rfl Tryz.call80 (zI rfl zT) (fun W hW hp hE => zDs p0 zC zD (zU.ext (hW.QM hp)) zy Ws hE) ?_
 intro u hu
 obtain ⟨QY, QX⟩ := u
 have gy100_0 := hu
 have zAR : SlF QY zy.length QX := gy100_0 --@phi
 show Tr _ _ (uf _ 11 (sL QY zy QX)) (up _ 2 (ow QY QX 36 zK zy)) _
 refine Tr.asg rfl rfl (Tr.nil (Tr.zA (Tr.sr (Tr.mv rfl rfl ?_))))
 obtain ⟨y102, hy102, H⟩ := bnd H
 refine Tr.VM [2] [ow QY QX 36 zK zy] (U := Unit) (fun u => (.tuple #[])) (fun u => y102.length = zy.length) (fun u => [ow QY QX 36 zK y102]) rfl (zQ rfl zf) (fun _ => rfl) (wn rfl) rfl Tryz.call81 (zI rfl (zI rfl zT)) (fun W hW hp hE => zAS zy QY QX (fun z0 z1 => zAh z0 z1) 82 [] Tryz.call82 (fun w' he z0 z1 y hy => zK4 z0 z1 y hy (HF.start _)) y102 hy102 hE) ?_
 intro u hu
 have gky102_0 := hu
 have zJz : y102.length = zy.length := gky102_0 --@phi
 have zJ2 : SlF QY y102.length QX := by rw [zJz]; exact zAR
 show Tr _ _ (uf _ 13 (.tuple #[])) (up _ 2 (ow QY QX 36 zK y102)) _
 refine Tr.sel (lf := [(0, sL QY y102 QX), (2, sL none (([] : List ze)) 0), (10, sL zC p0 zD), (11, sL QY y102 QX), (12, sL QY y102 QX), (13, (.tuple #[]))]) (le := [(1, ow none 0 107 zL ([] : List ze)), (2, ow QY QX 36 zK y102)]) (.cons (VK rfl (by unfold sL; rw [zJz])) (.cons rfl (.cons rfl (.cons (VK rfl (by unfold sL; rw [zJz])) (.cons (VK rfl (by unfold sL; rw [zJz])) (.cons rfl .nil)))))) (.cons rfl (.cons rfl .nil)) ?_
 refine Tr.nil (Tr.zA (Tr.sr (Tr.alloc 3 (wn rfl) rfl zhU fun VN => ?_)))
 refine Tr.nil (Tr.zA (Tr.seq (Tr.sr (Tr.mv rfl rfl (Tr.va rfl (fun _ _ a c => QJ zA8 (a.ev rfl)) ?_)))))
 refine Tr.mv rfl rfl (Tr.nil (Tr.zA (Tr.block (Tr.JU 12 3 QG ?_))))
 refine Tr.loop (σ := (List zS) × Nat × (List Int) × (Option Addr) × Nat) (fun m w s => m = s.1.length + 1 ∧ s.1 = List.drop s.2.1 y102 ∧ s.2.1 ≤ y102.length ∧ VI N y102 s.1 s.2.1 s.2.2.1 = some r ∧ SlF s.2.2.2.1 s.2.2.1.length s.2.2.2.2) (fun s => [(0, sL QY y102 QX), (3, pV VN), (14, sL QY y102 QX), (15, iv (y102.length : Int)), (16, iv (s.2.1 : Int))]) (fun s => [(2, ow QY QX 36 zK y102), (3, bx VN #[sL s.2.2.2.1 s.2.2.1 s.2.2.2.2] 38), (12, ow s.2.2.2.1 s.2.2.2.2 3 QG s.2.2.1)]) (y102.length + 1) (y102, 0, ([] : List Int), none, 0) ⟨rfl, rfl, Nat.zero_le _, H, Kk⟩ (.cons rfl (.cons rfl (.cons rfl (.cons rfl (.cons rfl .nil))))) (.cons rfl (.cons rfl (.cons rfl .nil))) (fun _ _ h => absurd h.1 (by simp)) ?_
 intro w Qd m s hs
 obtain ⟨zY, iL1, zKs, zFJ, zFI⟩ := s
 obtain ⟨Kj, QF, hiL1, H, zaD⟩ := hs
 replace QF : zY = List.drop iL1 y102 := QF
 replace H : VI N y102 zY iL1 zKs = some r := H
 replace Kj : m + 1 = zY.length + 1 := Kj
 replace leB := leB.trans Qd
 replace zaD : SlF zFJ zKs.length zFI := zaD
 obtain rfl : m = zY.length := by omega
 clear Kj
 show Tr _ _ (LF [(0, sL QY y102 QX), (3, pV VN), (14, sL QY y102 QX), (15, iv (y102.length : Int)), (16, iv (iL1 : Int))]) (LE [(2, ow QY QX 36 zK y102), (3, bx VN #[sL zFJ zKs zFI] 38), (12, ow zFJ zFI 3 QG zKs)]) _
 cases zY with
 | nil =>
  rw [VI.eq_1] at H
  refine Tr.sr (Tr.va rfl (fun _ _ a c => QI (a.ev rfl) (a.ev rfl)) ?_)
  refine Tr.nil (Tr.zA (Tr.seq (Tr.WL rfl (JS QF) ?_)))
  refine Tr.exit (Tr.zk (Tr.zk (Tr.QV (Tr.zA (Tr.sr (Tr.va rfl (fun _ _ a c => zF zCx (a.ev rfl) (rdb c (vs := [sL zFJ zKs zFI]) (k := 3) rfl 0) rfl) ?_))))))
  obtain ⟨zD9, zZj, H⟩ := bnd H
  refine Tr.VM [12] [ow zFJ zFI 3 QG zKs] (U := Unit) (fun u => (.tuple #[])) (fun u => zD9.length = zKs.length) (fun u => [ow zFJ zFI 3 QG zD9]) rfl (zQ rfl zf) (fun _ => rfl) (wn rfl) rfl Tryz.call83 (zI rfl zT) (fun W hW hp hE => zEq zKs zFJ zFI zD9 zZj hE) ?_
  intro u hu
  have gky120_0 := hu
  have zMp : zD9.length = zKs.length := gky120_0 --@phi
  have zhS : SlF zFJ zD9.length zFI := by rw [zMp]; exact zaD
  show Tr _ _ (uf _ 29 (.tuple #[])) (up _ 12 (ow zFJ zFI 3 QG zD9)) _
  refine Tr.sel (lf := [(0, sL QY y102 QX), (3, pV VN), (14, sL QY y102 QX), (15, iv (y102.length : Int)), (16, iv (iL1 : Int)), (17, bV (decide ((iL1 : Int) < (y102.length : Int)))), (28, sL zFJ zD9 zFI), (29, (.tuple #[]))]) (le := [(2, ow QY QX 36 zK y102), (3, bx VN #[sL zFJ zD9 zFI] 38), (12, ow zFJ zFI 3 QG zD9)]) (.cons rfl (.cons rfl (.cons rfl (.cons rfl (.cons rfl (.cons rfl (.cons (VK rfl (by unfold sL; rw [zMp])) (.cons rfl .nil)))))))) (.cons rfl (.cons (ebx rfl (by unfold sL; rw [zMp])) (.cons rfl .nil))) ?_
  refine Tr.nil (Tr.zA (Tr.sr (Tr.va rfl (fun _ _ a c => zF zCx (a.ev rfl) (rdb c (vs := [sL zFJ zD9 zFI]) (k := 3) rfl 0) rfl) ?_)))
  obtain ⟨Kq, zPQ, H⟩ := bnd H
  refine Tr.VM [12] [ow zFJ zFI 3 QG zD9] (U := (Option Addr × Nat)) (fun u => (sL u.1 Kq u.2)) (fun u => SlF u.1 Kq.length u.2) (fun u => [ow u.1 u.2 3 QG Kq]) rfl (zQ rfl zf) (fun _ => rfl) (wn rfl) rfl Tryz.call84 (zI rfl zT) (fun W hW hp hE => zDQ zD9 zFJ zFI Kq zPQ hE) ?_
  intro u hu
  obtain ⟨Jk, KI⟩ := u
  have gy122_0 := hu
  have zJB : SlF Jk Kq.length KI := gy122_0 --@phi
  show Tr _ _ (uf _ 31 (sL Jk Kq KI)) (up _ 12 (ow Jk KI 3 QG Kq)) _
  refine Tr.store 3 (cs := [sL Jk Kq KI]) [sL Jk Kq KI] (wn rfl) rfl rfl rfl rfl zc5 rfl rfl rfl ?_
  refine Tr.nil (Tr.zA (Tr.sr (Tr.asg rfl rfl (Tr.JU 13 107 zL ?_))))
  show Tr _ _ (uf _ 6 (sL none (([] : List ze)) 0)) _ _
  refine Tr.nil (Tr.zA (Tr.sr (Tr.asg rfl rfl (Tr.JU 14 36 zK ?_))))
  show Tr _ _ (uf _ 7 (sL none (([] : List zS)) 0)) _ _
  refine Tr.nil (Tr.zA (Tr.sr (Tr.asg rfl rfl (Tr.nil (Tr.zA (Tr.seq (Tr.sr (Tr.alloc 15 (wn rfl) rfl zhV fun zcr => ?_))))))))
  refine Tr.store 15 (cs := [iv 0]) [iv 0] (wn rfl) rfl rfl rfl rfl zKQ rfl rfl rfl ?_
  refine Tr.nil (Tr.zA (Tr.block (Tr.ren 15 29 rfl rfl rfl ?_)))
  refine Tr.loop (σ := Int × (List ze) × (List zS) × Int × Nat × (Option Addr) × Nat × (Option Addr) × Nat) (fun m w s => JW N y102 Kq m s.1 s.2.1 s.2.2.1 s.2.2.2.1 = some r ∧ SlF s.2.2.2.2.2.1 s.2.1.length s.2.2.2.2.2.2.1 ∧ SlF s.2.2.2.2.2.2.2.1 s.2.2.1.length s.2.2.2.2.2.2.2.2) (fun s => [(0, sL QY y102 QX), (3, pV VN), (6, sL s.2.2.2.2.2.1 s.2.1 s.2.2.2.2.2.2.1), (7, sL s.2.2.2.2.2.2.2.1 s.2.2.1 s.2.2.2.2.2.2.2.2), (8, iv s.2.2.2.1), (9, .pointer (some ⟨s.2.2.2.2.1, 0, none⟩))]) (fun s => [(2, ow QY QX 36 zK y102), (3, bx VN #[sL Jk Kq KI] 38), (12, ow Jk KI 3 QG Kq), (13, ow s.2.2.2.2.2.1 s.2.2.2.2.2.2.1 107 zL s.2.1), (14, ow s.2.2.2.2.2.2.2.1 s.2.2.2.2.2.2.2.2 36 zK s.2.2.1), (29, bx s.2.2.2.2.1 #[iv s.1] 3)]) N (0, ([] : List ze), ([] : List zS), 0, zcr, none, 0, none, 0) ⟨H, Kk, Kk⟩ (.cons rfl (.cons rfl (.cons rfl (.cons rfl (.cons rfl (.cons rfl .nil)))))) (.cons rfl (.cons rfl (.cons rfl (.cons rfl (.cons rfl (.cons rfl .nil)))))) (fun _ _ h => zA0 (h.1)) ?_
  intro w zCS mL4 s hs
  obtain ⟨VC, Vu, zAJ, zYV, bv227, zA2, zAo, zC3, zCk⟩ := s
  obtain ⟨H, zEk, zFG⟩ := hs
  replace H : JW N y102 Kq (mL4 + 1) VC Vu zAJ zYV = some r := H
  replace leB := leB.trans zCS
  replace zEk : SlF zA2 Vu.length zAo := zEk
  rw [JW.eq_2] at H
  show Tr _ _ (LF [(0, sL QY y102 QX), (3, pV VN), (6, sL zA2 Vu zAo), (7, sL zC3 zAJ zCk), (8, iv zYV), (9, pV bv227)]) (LE [(2, ow QY QX 36 zK y102), (3, bx VN #[sL Jk Kq KI] 38), (12, ow Jk KI 3 QG Kq), (13, ow zA2 zAo 107 zL Vu), (14, ow zC3 zCk 36 zK zAJ), (29, bx bv227 #[iv VC] 3)]) _
  refine Tr.seq (Tr.sr (Tr.va rfl (fun _ _ a c => zF QH (a.ev rfl) (rdb c (vs := [iv VC]) (k := 29) rfl 0) rfl) ?_))
  refine Tr.va rfl (fun _ _ a c => QK (a.ev rfl) (a.ev rfl)) ?_
  refine Tr.va rfl (fun _ _ a c => zF zCx (a.ev rfl) (rdb c (vs := [sL Jk Kq KI]) (k := 3) rfl 0) rfl) ?_
  refine Tr.va rfl (fun _ _ a c => QJ zCg (a.ev rfl)) ?_
  refine Tr.va rfl (fun _ _ a c => QI (a.ev rfl) (a.ev rfl)) ?_
  refine Tr.nil (Tr.zA (Tr.cond rfl H (fun H => ?_) (fun H => ?_)))
  ·refine Tr.skip (Tr.zA (Tr.seq (Tr.block (Tr.sr (Tr.mv rfl rfl (Tr.zE5 (vs := [pV VN, pV bv227]) (wn rfl) rfl (zI rfl (zI rfl zT)) ?_))))))
   obtain ⟨zQK, zil, H⟩ := bnd H
   refine Tr.VM [14] [ow zC3 zCk 36 zK zAJ] (U := (Option Addr × Nat)) (fun u => (sL u.1 zQK u.2)) (fun u => SlF u.1 zQK.length u.2) (fun u => [ow u.1 u.2 36 zK zQK]) rfl (zQ rfl zf) (fun _ => rfl) (wn rfl) rfl Tryz.call85 (zI rfl (zI rfl zT)) (fun W hW hp hE => zFa N zAJ zC3 zCk (fun z0 => zAg z0 Kq VC) 86 [pV VN, pV bv227] Tryz.call86 (fun w' he z0 y hy => zK3 z0 Kq Jk KI ((hW.slS (k := 12) rfl hp rfl).ext he) VN (he.r _ (hW.zQa (k := 3) rfl hp rfl)) (he.cells (hW.zQa (k := 3) rfl hp rfl) (hW.zUd (k := 3) rfl)) VC bv227 (he.r _ (hW.zQa (k := 29) rfl hp rfl)) (he.cells (hW.zQa (k := 29) rfl hp rfl) (hW.zUd (k := 29) rfl)) y hy (HF.start _)) zQK zil hE) ?_
   intro u hu
   obtain ⟨zOK, zN0⟩ := u
   have gy233_0 := hu
   have zaM : SlF zOK zQK.length zN0 := gy233_0 --@phi
   show Tr _ _ (uf _ 41 (sL zOK zQK zN0)) (up _ 14 (ow zOK zN0 36 zK zQK)) _
   refine Tr.asg rfl rfl (Tr.nil (Tr.zA (Tr.seq (Tr.block (Tr.loop (σ := (List zS) × Int × (Option Addr) × Nat) (fun m w s => VH y102 Kq VC Vu (JW N y102 Kq mL4) m s.1 s.2.1 = some r ∧ SlF s.2.2.1 s.1.length s.2.2.2) (fun s => [(0, sL QY y102 QX), (3, pV VN), (6, sL zA2 Vu zAo), (7, sL s.2.2.1 s.1 s.2.2.2), (8, iv s.2.1), (9, pV bv227)]) (fun s => [(2, ow QY QX 36 zK y102), (3, bx VN #[sL Jk Kq KI] 38), (12, ow Jk KI 3 QG Kq), (13, ow zA2 zAo 107 zL Vu), (14, ow s.2.2.1 s.2.2.2 36 zK s.1), (29, bx bv227 #[iv VC] 3)]) N (zQK, zYV, zOK, zN0) ⟨H, zaM⟩ (.cons rfl (.cons rfl (.cons rfl (.cons rfl (.cons rfl (.cons rfl .nil)))))) (.cons rfl (.cons rfl (.cons rfl (.cons rfl (.cons rfl (.cons rfl .nil)))))) (fun _ _ h => zA0 (h.1)) ?_)))))
   intro w zh7 mL5 s hs
   obtain ⟨zGz, zMH, zC2, zCw⟩ := s
   obtain ⟨H, zZ5⟩ := hs
   replace H : VH y102 Kq VC Vu (JW N y102 Kq mL4) (mL5 + 1) zGz zMH = some r := H
   replace zCS := zCS.trans zh7
   replace zZ5 : SlF zC2 zGz.length zCw := zZ5
   rw [VH.eq_2] at H
   show Tr _ _ (LF [(0, sL QY y102 QX), (3, pV VN), (6, sL zA2 Vu zAo), (7, sL zC2 zGz zCw), (8, iv zMH), (9, pV bv227)]) (LE [(2, ow QY QX 36 zK y102), (3, bx VN #[sL Jk Kq KI] 38), (12, ow Jk KI 3 QG Kq), (13, ow zA2 zAo 107 zL Vu), (14, ow zC2 zCw 36 zK zGz), (29, bx bv227 #[iv VC] 3)]) _
   refine Tr.seq (Tr.seq (Tr.draw (by kernel_rfl) (by kernel_rfl) ?_))
   refine Tq.mv rfl rfl (Tq.mv rfl rfl (Tq.va rfl (fun _ _ a c => QJ zA8 (a.ev rfl)) ?_))
   refine Tq.va rfl (fun _ _ a c => QI (a.ev rfl) (a.ev rfl)) ?_
   refine Tq.mv rfl rfl ?_
   obtain ⟨zca, zQ9, H⟩ := bnd H
   refine Tq.mid 11 [(0, sL QY y102 QX), (3, pV VN), (6, sL zA2 Vu zAo), (7, sL zC2 zGz zCw), (8, iv zMH), (9, pV bv227), (57, bV zca)] ?_ ?_
   ·cases zLb : (decide (zMH < (y102.length : Int)))
    ·rw [zLb] at zQ9
     rw [if_neg (by decide)] at zQ9
     have H := zQ9
     obtain rfl := oI H
     refine Tq.pass rfl rfl rfl rfl rfl (by decide) ?_
     refine Tq.pass rfl rfl rfl rfl rfl (by decide) ?_
     refine Tq.pass rfl rfl rfl rfl rfl (by decide) ?_
     refine Tq.pass rfl rfl rfl rfl rfl (by decide) ?_
     refine Tq.pass rfl rfl rfl rfl rfl (by decide) ?_
     refine Tq.pass rfl rfl rfl rfl rfl (by decide) ?_
     refine Tq.pass rfl rfl rfl rfl rfl (by decide) ?_
     refine Tq.pass rfl rfl rfl rfl rfl (by decide) ?_
     refine Tq.pass rfl rfl rfl rfl rfl (by decide) ?_
     refine Tq.pass rfl rfl rfl rfl rfl (by decide) ?_
     refine Tq.va rfl (fun _ _ a c => zx (a.ev rfl) (a.ev rfl)) ?_
     exact Tq.fin (.cons rfl (.cons rfl (.cons rfl (.cons rfl (.cons rfl (.cons rfl (.cons rfl .nil)))))))
    ·rw [zLb] at zQ9
     rw [if_pos rfl] at zQ9
     have H := zQ9
     refine Tq.val (wg rfl rfl rfl) rfl (fun _ _ a c => run_move (a.ev rfl)) ?_
     refine Tq.val (wg rfl rfl rfl) rfl (fun _ _ a c => run_move (a.ev rfl)) ?_
     obtain ⟨zhd, zjU, H⟩ := bnd H
     obtain ⟨zfF, zfE, zfD⟩ := zz zjU
     refine Tq.val (wg rfl rfl rfl) rfl (fun _ _ a c => zM zCj (a.ev rfl) zJ2 (a.ev rfl) zfF zfE) ?_
     refine Tq.val (wg rfl rfl rfl) rfl (fun _ _ a c => zB zAk (a.ev rfl)) ?_
     refine Tq.val (wg rfl rfl rfl) rfl (fun _ _ a c => zF QH (a.ev rfl) (zR.drop (rdo Vg (k := 2) c rfl zfD) 1) rfl) ?_
     refine Tq.val (wg rfl rfl rfl) rfl (fun _ _ a c => zF zCx (a.ev rfl) (rdb c (vs := [sL Jk Kq KI]) (k := 3) rfl 0) rfl) ?_
     refine Tq.val (wg rfl rfl rfl) rfl (fun _ _ a c => zF QH (a.ev rfl) (rdb c (vs := [iv VC]) (k := 29) rfl 0) rfl) ?_
     obtain ⟨zhc, zjT, H⟩ := bnd H
     obtain ⟨zfC, zfB, zfA⟩ := zz zjT
     refine Tq.val (wg rfl rfl rfl) rfl (fun _ _ a c => zM zAl (a.ev rfl) zJB (a.ev rfl) zfC zfB) ?_
     refine Tq.val (wg rfl rfl rfl) rfl (fun _ _ a c => zF QH (a.ev rfl) (rdo Vx (k := 12) c rfl zfA) rfl) ?_
     refine Tq.val (wg rfl rfl rfl) rfl (fun _ _ a c => zAW (a.ev rfl) (a.ev rfl)) ?_
     refine Tq.va rfl (fun _ _ a c => zw (a.ev rfl) (a.ev rfl)) ?_
     obtain rfl := oI H
     exact Tq.fin (.cons rfl (.cons rfl (.cons rfl (.cons rfl (.cons rfl (.cons rfl (.cons rfl .nil)))))))
   ·refine Tq.nil (Tr.zA (Tr.cond rfl H (fun H => ?_) (fun H => ?_)))
    ·refine Tr.skip (Tr.zA (Tr.block (Tr.region (Tr.mv rfl rfl (Tr.mv rfl rfl (Tr.mv rfl rfl ?_))))))
     obtain ⟨zFo, zjS, H⟩ := bnd H
     obtain ⟨ze9, ze8, ze7⟩ := zz zjS
     refine Tr.va rfl (fun _ _ a c => zM zCj (a.ev rfl) zJ2 (a.ev rfl) ze9 ze8) ?_
     refine Tr.va rfl (fun _ _ a c => zZ (cs := [iv zFo.X0, iv zFo.Y0, iv zFo.X1, iv zFo.Y1]) zBz Ku (a.ev rfl) (zR.take (rdo Vg (k := 2) c rfl ze7) 4) rfl) ?_
     refine Tr.buildSlice 32 (e := 36) (vs := [(0, .agg #[iv zFo.X0, iv zFo.Y0, iv zFo.X1, iv zFo.Y1])]) (cs := [iv zFo.X0, iv zFo.Y0, iv zFo.X1, iv zFo.Y1]) (wn rfl) rfl (zq rfl Qi) (by kernel_rfl) fun znT => ?_
     obtain ⟨zeH, zkO, H⟩ := bnd H
     refine Tr.append 14 (t := zK) (l := zGz) (l2 := [zFo]) (wn rfl) rfl rfl rfl rfl (fun W hW => ⟨[[iv zFo.X0, iv zFo.Y0, iv zFo.X1, iv zFo.Y1]], (.cons ⟨(), trivial, rfl⟩ .nil), rdb hW (vs := [iv zFo.X0, iv zFo.Y0, iv zFo.X1, iv zFo.Y1]) (k := 32) rfl 0⟩) zA8 Ku zSo (by decide) zUc rfl zkO fun zlQ zk9 hAl266 => ?_
     refine Tr.mv rfl rfl (Tr.va rfl (fun _ _ a c => QK (a.ev rfl) (a.ev rfl)) ?_)
     exact Tr.asg rfl rfl (Tr.asg rfl rfl (Tr.nil (Tr.zl (Tr.zn zh7 (zeH, (w64 (zMH + 1)), zlQ, zk9) ⟨H, hAl266⟩ (.cons rfl (.cons rfl (.cons rfl (.cons rfl (.cons rfl (.cons rfl .nil)))))) (.cons rfl (.cons rfl (.cons rfl (.cons rfl (.cons rfl (.cons rfl .nil))))))))))
    ·refine Tr.exit (Tr.zk (Tr.zk (Tr.QV (Tr.zA (Tr.zHS 13 [(11, (ow zC2 zCw 36 zK zGz).S)] [] (by kernel_rfl) (by kernel_rfl) fun zQg zj8 zlV => ?_)))))
     refine Dr.KM 0 (by kernel_rfl) rfl (wn rfl) rfl (by kernel_rfl) (fun _ _ a => run_move (a.ev rfl)) rfl ?_
     refine Dr.We 1 [(68, sL Jk Kq KI)] [11] false (by kernel_rfl) rfl rfl (by kernel_rfl) (fun W W' c hsW hk => HF.zBv (le := [(3, bx VN #[sL Jk Kq KI] 38)]) (ks := [(14, (ow zC2 zCw 36 zK zGz).S)]) (s0 := zQg) false c hk (fun h => absurd h (by decide)) (.cons rfl .nil) (fun b hb => hb.elim (fun ⟨p, hp, hf, hb⟩ => by simp only [List.mem_cons, List.not_mem_nil, or_false] at hp; rcases hp with rfl; exact .inl ⟨_, List.mem_cons_self, hb⟩) (fun hb => absurd hb.1 (by decide))) (List.forall_mem_cons.2 ⟨fun b hb => hb, (fun _ h => nomatch h)⟩) rfl) ?_ rfl rfl ?_
     ·refine Tq.va rfl (fun _ _ a c => zF zCx (a.ev rfl) (rdb c (vs := [sL Jk Kq KI]) (k := 3) rfl 0) rfl) ?_
      exact Tq.fin (.cons rfl .nil)
     refine Dr.We 2 [(69, iv VC)] [11] false (by kernel_rfl) rfl rfl (by kernel_rfl) (fun W W' c hsW hk => HF.zBv (le := [(29, bx bv227 #[iv VC] 3)]) (ks := [(14, (ow zC2 zCw 36 zK zGz).S)]) (s0 := zQg) false c hk (fun h => absurd h (by decide)) (.cons rfl .nil) (fun b hb => hb.elim (fun ⟨p, hp, hf, hb⟩ => by simp only [List.mem_cons, List.not_mem_nil, or_false] at hp; rcases hp with rfl; exact .inl ⟨_, List.mem_cons_self, hb⟩) (fun hb => absurd hb.1 (by decide))) (List.forall_mem_cons.2 ⟨fun b hb => hb, (fun _ h => nomatch h)⟩) rfl) ?_ rfl rfl ?_
     ·refine Tq.va rfl (fun _ _ a c => zF QH (a.ev rfl) (rdb c (vs := [iv VC]) (k := 29) rfl 0) rfl) ?_
      exact Tq.fin (.cons rfl .nil)
     obtain ⟨zSs, zjR, H⟩ := bnd H
     obtain ⟨ze6, ze5, ze4⟩ := zz zjR
     refine Dr.KM 3 (by kernel_rfl) rfl (wn rfl) rfl (by kernel_rfl) (fun _ _ a => zM zAl (a.ev rfl) zJB (a.ev rfl) ze6 ze5) rfl ?_
     refine Dr.We 4 [(71, iv zSs)] [11] false (by kernel_rfl) rfl rfl (by kernel_rfl) (fun W W' c hsW hk => HF.zBv (le := [(12, ow Jk KI 3 QG Kq)]) (ks := [(14, (ow zC2 zCw 36 zK zGz).S)]) (s0 := zQg) false c hk (fun h => absurd h (by decide)) (.cons rfl .nil) (fun b hb => hb.elim (fun ⟨p, hp, hf, hb⟩ => by simp only [List.mem_cons, List.not_mem_nil, or_false] at hp; rcases hp with rfl; exact .inl ⟨_, List.mem_cons_self, hb⟩) (fun hb => absurd hb.1 (by decide))) (List.forall_mem_cons.2 ⟨fun b hb => hb, (fun _ h => nomatch h)⟩) rfl) ?_ rfl rfl ?_
     ·refine Tq.va rfl (fun _ _ a c => zF QH (a.ev rfl) (rdo Vx (k := 12) c rfl ze4) rfl) ?_
      exact Tq.fin (.cons rfl .nil)
     refine Dr.We 5 [(72, sL Jk Kq KI)] [11] false (by kernel_rfl) rfl rfl (by kernel_rfl) (fun W W' c hsW hk => HF.zBv (le := [(3, bx VN #[sL Jk Kq KI] 38)]) (ks := [(14, (ow zC2 zCw 36 zK zGz).S)]) (s0 := zQg) false c hk (fun h => absurd h (by decide)) (.cons rfl .nil) (fun b hb => hb.elim (fun ⟨p, hp, hf, hb⟩ => by simp only [List.mem_cons, List.not_mem_nil, or_false] at hp; rcases hp with rfl; exact .inl ⟨_, List.mem_cons_self, hb⟩) (fun hb => absurd hb.1 (by decide))) (List.forall_mem_cons.2 ⟨fun b hb => hb, (fun _ h => nomatch h)⟩) rfl) ?_ rfl rfl ?_
     ·refine Tq.va rfl (fun _ _ a c => zF zCx (a.ev rfl) (rdb c (vs := [sL Jk Kq KI]) (k := 3) rfl 0) rfl) ?_
      exact Tq.fin (.cons rfl .nil)
     refine Dr.We 6 [(73, iv VC)] [11] false (by kernel_rfl) rfl rfl (by kernel_rfl) (fun W W' c hsW hk => HF.zBv (le := [(29, bx bv227 #[iv VC] 3)]) (ks := [(14, (ow zC2 zCw 36 zK zGz).S)]) (s0 := zQg) false c hk (fun h => absurd h (by decide)) (.cons rfl .nil) (fun b hb => hb.elim (fun ⟨p, hp, hf, hb⟩ => by simp only [List.mem_cons, List.not_mem_nil, or_false] at hp; rcases hp with rfl; exact .inl ⟨_, List.mem_cons_self, hb⟩) (fun hb => absurd hb.1 (by decide))) (List.forall_mem_cons.2 ⟨fun b hb => hb, (fun _ h => nomatch h)⟩) rfl) ?_ rfl rfl ?_
     ·refine Tq.va rfl (fun _ _ a c => zF QH (a.ev rfl) (rdb c (vs := [iv VC]) (k := 29) rfl 0) rfl) ?_
      exact Tq.fin (.cons rfl .nil)
     refine Dr.KM 7 (by kernel_rfl) rfl (wn rfl) rfl (by kernel_rfl) (fun _ _ a => QK (a.ev rfl) (a.ev rfl)) rfl ?_
     obtain ⟨zSr, zjQ, H⟩ := bnd H
     obtain ⟨ze3, ze2, ze1⟩ := zz zjQ
     refine Dr.KM 8 (by kernel_rfl) rfl (wn rfl) rfl (by kernel_rfl) (fun _ _ a => zM zAl (a.ev rfl) zJB (a.ev rfl) ze3 ze2) rfl ?_
     refine Dr.We 9 [(76, iv zSr)] [11] false (by kernel_rfl) rfl rfl (by kernel_rfl) (fun W W' c hsW hk => HF.zBv (le := [(12, ow Jk KI 3 QG Kq)]) (ks := [(14, (ow zC2 zCw 36 zK zGz).S)]) (s0 := zQg) false c hk (fun h => absurd h (by decide)) (.cons rfl .nil) (fun b hb => hb.elim (fun ⟨p, hp, hf, hb⟩ => by simp only [List.mem_cons, List.not_mem_nil, or_false] at hp; rcases hp with rfl; exact .inl ⟨_, List.mem_cons_self, hb⟩) (fun hb => absurd hb.1 (by decide))) (List.forall_mem_cons.2 ⟨fun b hb => hb, (fun _ h => nomatch h)⟩) rfl) ?_ rfl rfl ?_
     ·refine Tq.va rfl (fun _ _ a c => zF QH (a.ev rfl) (rdo Vx (k := 12) c rfl ze1) rfl) ?_
      exact Tq.fin (.cons rfl .nil)
     refine Dr.quiet 10 [(77, sL zC2 zGz zCw)] (by kernel_rfl) rfl rfl (by kernel_rfl) ?_ rfl rfl ?_
     ·exact Tq.mv rfl rfl (Tq.fin (.cons rfl .nil))
     obtain ⟨zEy, zid, H⟩ := bnd H
     refine Dr.one 11 (by kernel_rfl) ?_
     refine St.VM 11 [14, 33] [ow zC2 zCw 36 zK zGz, emp] (U := (Option Addr × Nat)) (fun u => (sL u.1 zEy.1 u.2)) (fun u => SlF u.1 zEy.1.length u.2 ∧ zEy.2.length = zGz.length) (fun u => [ow zC2 zCw 36 zK zEy.2, ow u.1 u.2 3 QG zEy.1]) rfl (zQ rfl (zQ rfl zf)) (fun _ => rfl) (fun b ⟨e, he, hS⟩ => by simp only [List.mem_cons, List.not_mem_nil, or_false] at he; rcases he with rfl | rfl; exact .inl ⟨_, List.mem_cons_self, rfl, hS⟩; exact hS.elim) rfl (wn rfl) rfl Tryz.call88 (zI rfl zT) (fun W hW hp hE => zJR zGz zC2 zCw zEy zid hE) ?_
     intro u hu zmj
     obtain ⟨zFd, zFT⟩ := u
     obtain ⟨gy270_0, gky270_0⟩ := hu
     have zkV : SlF zFd zEy.1.length zFT := gy270_0
     have zMl : zEy.2.length = zGz.length := gky270_0
     have zX3 : SlF zC2 zEy.2.length zCw := by rw [zMl]; exact zZ5
     show Dr _ _ _ _ _ _ _ _ _ (uf _ 78 (sL zFd zEy.1 zFT)) (up (up _ 33 (ow zFd zFT 3 QG zEy.1)) 14 (ow zC2 zCw 36 zK zEy.2))
     refine Dr.use (lf := [(0, sL QY y102 QX), (3, pV VN), (6, sL zA2 Vu zAo), (7, sL zC2 zEy.2 zCw), (8, iv zMH), (9, pV bv227), (57, bV zca), (67, sL zA2 Vu zAo), (68, sL Jk Kq KI), (69, iv VC), (70, .pointer (some ⟨adB Jk, adO Jk + (VC).toNat * 1, none⟩)), (71, iv zSs), (72, sL Jk Kq KI), (73, iv VC), (74, iv (w64 (VC + 1))), (75, .pointer (some ⟨adB Jk, adO Jk + ((w64 (VC + 1))).toNat * 1, none⟩)), (76, iv zSr), (77, sL zC2 zEy.2 zCw), (78, sL zFd zEy.1 zFT)]) (le := [(2, ow QY QX 36 zK y102), (3, bx VN #[sL Jk Kq KI] 38), (12, ow Jk KI 3 QG Kq), (13, ow zA2 zAo 107 zL Vu), (14, ow zC2 zCw 36 zK zEy.2), (29, bx bv227 #[iv VC] 3), (33, ow zFd zFT 3 QG zEy.1)]) ?_ rfl (.cons rfl (.cons rfl (.cons rfl (.cons (VK rfl (by unfold sL; rw [zMl])) (.cons rfl (.cons rfl (.cons rfl (.cons rfl (.cons rfl (.cons rfl (.cons rfl (.cons rfl (.cons rfl (.cons rfl (.cons rfl (.cons rfl (.cons rfl (.cons (VK rfl (by unfold sL; rw [zMl])) (.cons rfl .nil))))))))))))))))))) (.cons rfl (.cons rfl (.cons rfl (.cons rfl (.cons rfl (.cons rfl (.cons rfl .nil)))))))
     refine Dr.quiet 12 [(79, .agg #[iv zSs, iv zSr, sL zFd zEy.1 zFT])] (by kernel_rfl) rfl rfl (by kernel_rfl) ?_ rfl rfl ?_
     ·refine Tq.build (vs := [(0, iv zSs), (1, iv zSr), (2, sL zFd zEy.1 zFT)]) (cs := [iv zSs, iv zSr, sL zFd zEy.1 zFT]) (wn rfl) rfl (zq rfl (zq rfl (zq rfl Qi))) (by kernel_rfl) ?_
      exact Tq.fin (.cons rfl .nil)
     refine Dr.tail (by kernel_rfl) ?_
     refine Tr.freeze 33 rfl fun w ziD zZX => ?_
     replace zCS := zCS.trans ziD
     obtain ⟨zQI, zic, H⟩ := bnd H
     refine Tr.VT [13] [ow zA2 zAo 107 zL Vu] (U := (Option Addr × Nat)) (fun u => (sL u.1 zQI u.2)) (fun O W u => SlF u.1 zQI.length u.2) (fun u => [ow u.1 u.2 107 zL zQI]) rfl (zQ rfl zf) (fun _ => rfl) (wn rfl) rfl Tryz.call87 (zI rfl (zI rfl zT)) (fun W hW hp hE => zCI Vu zA2 zAo (ze.mk zSs zSr zEy.1) zFd zFT (zZX.zAK (hW.QM hp)) zQI zic hE) ?_
     intro w u zdE hu
     obtain ⟨zOJ, zNz⟩ := u
     have gy274_0 := hu
     replace zZX := zZX.le zdE
     replace zCS := zCS.trans zdE
     have zaL : SlF zOJ zQI.length zNz := gy274_0 --@phi
     show Tr _ _ (uf _ 80 (sL zOJ zQI zNz)) (up _ 13 (ow zOJ zNz 107 zL zQI)) _
     refine Tr.asg rfl rfl (Tr.nil (Tr.zl (Tr.zA (Tr.seq (Tr.sr (Tr.va rfl (fun _ _ a c => zF QH (a.ev rfl) (rdb c (vs := [iv VC]) (k := 29) rfl 0) rfl) ?_))))))
     refine Tr.nil (Tr.zA (Tr.region (Tr.alloc 34 (wn rfl) rfl zhV fun zmv => ?_)))
     refine Tr.store 34 (cs := [iv VC]) [iv VC] (wn rfl) rfl rfl rfl rfl zKQ rfl rfl rfl ?_
     refine Tr.nil (Tr.zA (Tr.region (Tr.va rfl (fun _ _ a c => zF QH (a.ev rfl) (rdb c (vs := [iv VC]) (k := 34) rfl 0) rfl) ?_)))
     refine Tr.va rfl (fun _ _ a c => QK (a.ev rfl) (a.ev rfl)) ?_
     refine Tr.store 34 (cs := [iv (w64 (VC + 1))]) [iv (w64 (VC + 1))] (wn rfl) rfl rfl rfl rfl zKQ rfl rfl rfl ?_
     refine Tr.nil (Tr.zk4 29 ?_)
     refine Tr.ren 34 29 rfl rfl rfl ?_
     exact Tr.zn zCS ((w64 (VC + 1)), zQI, zEy.2, zMH, zmv, zOJ, zNz, zC2, zCw) ⟨H, zaL, zX3⟩ (.cons rfl (.cons rfl (.cons rfl (.cons rfl (.cons rfl (.cons rfl .nil)))))) (.cons rfl (.cons rfl (.cons rfl (.cons rfl (.cons rfl (.cons rfl .nil))))))
  ·refine Tr.exit (Tr.zk (Tr.zk (Tr.QV (Tr.zA (Tr.sr (Tr.mv rfl rfl (Tr.asg rfl rfl (Tr.nil (Tr.zA (Tr.ret ?_))))))))))
   obtain rfl := oI H
   exact Tr.out (m := [sL zA2 Vu zAo]) [] (zW rfl zX) (fun W hW => ⟨w, (zA2, zAo), leB, rfl, zEk, hW.pick (ks := [13]) (by decide) (zQ rfl zf)⟩)
 | cons xL1 zY =>
  rw [VI.eq_2] at H
  refine Tr.sr (Tr.va rfl (fun _ _ a c => QI (a.ev rfl) (a.ev rfl)) ?_)
  refine Tr.nil (Tr.zA (Tr.seq (Tr.WK rfl (Jt QF) ?_)))
  refine Tr.skip (Tr.zA (Tr.seq (Tr.block (Tr.sr (Tr.va rfl (fun _ _ a c => zM zCj (a.ev rfl) zJ2 (a.ev rfl) (Int.natCast_nonneg _) (QB QF)) ?_)))))
  refine Tr.va rfl (fun _ _ a c => zZ (cs := [iv xL1.X0, iv xL1.Y0, iv xL1.X1, iv xL1.Y1]) zBz Ku (a.ev rfl) (zR.take (rdo Vg (k := 2) c rfl (KL QF)) 4) rfl) ?_
  refine Tr.alloc 35 (wn rfl) rfl zD3 fun znQ => ?_
  refine Tr.store 35 (cs := [iv xL1.X0, iv xL1.Y0, iv xL1.X1, iv xL1.Y1]) [iv xL1.X0, iv xL1.Y0, iv xL1.X1, iv xL1.Y1] (wn rfl) rfl rfl rfl rfl Ku rfl rfl rfl ?_
  refine Tr.nil (Tr.zA (Tr.region (Tr.va rfl (fun _ _ a c => zF zCx (a.ev rfl) (rdb c (vs := [sL zFJ zKs zFI]) (k := 3) rfl 0) rfl) ?_)))
  refine Tr.va rfl (fun _ _ a c => zB zAk (a.ev rfl)) ?_
  refine Tr.va rfl (fun _ _ a c => zF QH (a.ev rfl) (rdb c (vs := [iv xL1.X0, iv xL1.Y0, iv xL1.X1, iv xL1.Y1]) (k := 35) rfl 1) rfl) ?_
  refine Tr.va rfl (fun _ _ a c => zB zDi (a.ev rfl)) ?_
  refine Tr.va rfl (fun _ _ a c => zF QH (a.ev rfl) (rdb c (vs := [iv xL1.X0, iv xL1.Y0, iv xL1.X1, iv xL1.Y1]) (k := 35) rfl 3) rfl) ?_
  refine Tr.buildSlice 36 (e := 3) (vs := [(0, iv xL1.Y0), (1, iv xL1.Y1)]) (cs := [iv xL1.Y0, iv xL1.Y1]) (wn rfl) rfl (zq rfl (zq rfl Qi)) (by kernel_rfl) fun znP => ?_
  obtain ⟨zZN, zkL, H⟩ := bnd H
  refine Tr.append 12 (t := QG) (l := zKs) (l2 := [xL1.Y0, xL1.Y1]) (wn rfl) rfl rfl rfl rfl (fun W hW => ⟨[[iv xL1.Y0], [iv xL1.Y1]], (.cons ⟨(), trivial, rfl⟩ (.cons ⟨(), trivial, rfl⟩ .nil)), rdb hW (vs := [iv xL1.Y0, iv xL1.Y1]) (k := 36) rfl 0⟩) zCg zKQ zYN (by decide) za5 rfl zkL fun zbN zaw hAl279 => ?_
  refine Tr.store 3 (cs := [sL zbN zZN zaw]) [sL zbN zZN zaw] (wn rfl) rfl rfl rfl rfl zc5 rfl rfl rfl ?_
  refine Tr.nil (Tr.zl (Tr.zA (Tr.region (Tr.va rfl (fun _ _ a c => QK (a.ev rfl) (a.ev rfl)) ?_))))
  exact Tr.mv rfl rfl (Tr.nil (Tr.zn Qd (zY, (iL1 + 1), zZN, zbN, zaw) ⟨rfl, Qu QF, QB QF, H, hAl279⟩ (.cons rfl (.cons rfl (.cons rfl (.cons rfl (.cons (congrArg (fun z => some (Value.int .i64 z)) (Qt QF zJ2)) .nil))))) (.cons rfl (.cons rfl (.cons rfl .nil)))))

theorem zJW (N : Nat) {w : Bs} (p0 : zm) (zC : Option Addr) (zD : Nat) (zU : Sl w.O w.W zP zC zD p0.Tools) (zO : Option Addr) (zN : Nat) (Qe : Sl w.O w.W zH zO zN p0.Steps) (r : QQ) (H : zAu N p0 = some r) (hE : HF w w.W (LEn [emp, emp, emp])) : Calls Tryz.prog 55 [.agg #[iv p0.Unit, sL zC p0.Tools zD, sL zO p0.Steps zN]].toArray w.W fun e W' => ∃ (w' : Bs) (u : (Option Addr × Nat) × (Option Addr × Nat) × (Option Addr × Nat) × (Option Addr × Nat) × (Option Addr × Nat)), w.Le w' ∧ e = .returned (.pointer (some ⟨u.2.2.2.2.2, 0, none⟩)) ∧ (Sl w'.O w'.W zP u.1.1 u.1.2 r.p.Tools ∧ Sl w'.O w'.W zH u.2.1.1 u.2.1.2 r.p.Steps ∧ SlF u.2.2.1.1 r.tools.length u.2.2.1.2 ∧ SlF u.2.2.2.1.1 r.image.length u.2.2.2.1.2 ∧ True) ∧ HF w' W' (LEn [ow u.2.2.1.1 u.2.2.1.2 66 Qy r.tools, ow u.2.2.2.1.1 u.2.2.2.1.2 107 zL r.image, bx u.2.2.2.2.2 #[iv r.p.Unit, sL u.1.1 r.p.Tools u.1.2, sL u.2.1.1 r.p.Steps u.2.1.2, sL u.2.2.1.1 r.tools u.2.2.1.2, sL u.2.2.2.1.1 r.image u.2.2.2.1.2, bV r.clear, iv r.tool, iv r.place.X, iv r.place.Y, bV r.placed, iv r.off, iv r.on] 77]) := by
 unfold zAu at H
 have leB := Bs.Le.refl w
 refine Tr.enter (n := 64) Tryz.func55 rfl rfl rfl hE ?_
 refine Tr.sr (Tr.box 1 (cs := [iv p0.Unit, sL zC p0.Tools zD, sL zO p0.Steps zN]) (wn rfl) rfl rfl rfl fun QE => ?_)
 refine Tr.asg rfl rfl (Tr.nil (Tr.zA (Tr.sr (Tr.va rfl (fun _ _ a c => zZ (cs := [iv p0.Unit, sL zC p0.Tools zD, sL zO p0.Steps zN]) WU VD (a.ev rfl) (zR.take (rdb c (vs := [iv p0.Unit, sL zC p0.Tools zD, sL zO p0.Steps zN]) (k := 1) rfl 0) 3) rfl) ?_))))
 refine Tr.build (vs := [(0, .agg #[iv p0.Unit, sL zC p0.Tools zD, sL zO p0.Steps zN]), (4, iv (-1))]) (cs := [iv p0.Unit, sL zC p0.Tools zD, sL zO p0.Steps zN, .slice none 0 0, .slice none 0 0, bV false, iv (-1), iv 0, iv 0, bV false, iv 0, iv 0]) (wn rfl) rfl (zq rfl (zq rfl Qi)) (by kernel_rfl) ?_
 refine Tr.box 2 (cs := [iv p0.Unit, sL zC p0.Tools zD, sL zO p0.Steps zN, .slice none 0 0, .slice none 0 0, bV false, iv (-1), iv 0, iv 0, bV false, iv 0, iv 0]) (wn rfl) rfl rfl rfl fun Qw => ?_
 refine Tr.asg rfl rfl (Tr.nil (Tr.zA (Tr.seq (Tr.sr (Tr.va rfl (fun _ _ a c => zB zEO (a.ev rfl)) ?_)))))
 refine Tr.va rfl (fun _ _ a c => zF zLu (a.ev rfl) (rdb c (vs := [iv p0.Unit, sL zC p0.Tools zD, sL zO p0.Steps zN]) (k := 1) rfl 1) rfl) ?_
 refine Tr.va rfl (fun _ _ a c => QJ zKW (a.ev rfl)) ?_
 refine Tr.mv rfl rfl (Tr.nil (Tr.zA (Tr.block (Tr.JU 27 66 Qy ?_))))
 refine Tr.loop (σ := (List zV) × Nat × (List (List ze)) × (Option Addr) × Nat) (fun m w s => m = s.1.length + 1 ∧ s.1 = List.drop s.2.1 p0.Tools ∧ s.2.1 ≤ p0.Tools.length ∧ JN N p0 s.1 s.2.1 s.2.2.1 = some r ∧ SlF s.2.2.2.1 s.2.2.1.length s.2.2.2.2) (fun s => [(1, pV QE), (3, pV Qw), (13, sL zC p0.Tools zD), (14, iv (p0.Tools.length : Int)), (15, iv (s.2.1 : Int))]) (fun s => [(1, bx QE #[iv p0.Unit, sL zC p0.Tools zD, sL zO p0.Steps zN] 25), (2, bx Qw #[iv p0.Unit, sL zC p0.Tools zD, sL zO p0.Steps zN, sL s.2.2.2.1 s.2.2.1 s.2.2.2.2, .slice none 0 0, bV false, iv (-1), iv 0, iv 0, bV false, iv 0, iv 0] 77), (27, ow s.2.2.2.1 s.2.2.2.2 66 Qy s.2.2.1)]) (p0.Tools.length + 1) (p0.Tools, 0, ([] : List (List ze)), none, 0) ⟨rfl, rfl, Nat.zero_le _, H, Kk⟩ (.cons rfl (.cons rfl (.cons rfl (.cons rfl (.cons rfl .nil))))) (.cons rfl (.cons rfl (.cons rfl .nil))) (fun _ _ h => absurd h.1 (by simp)) ?_
 intro w Vl m s hs
 obtain ⟨JF, iL3, zG1, zJa, zJM⟩ := s
 obtain ⟨zHs, zAA, hiL3, H, zaA⟩ := hs
 replace zAA : JF = List.drop iL3 p0.Tools := zAA
 replace H : JN N p0 JF iL3 zG1 = some r := H
 replace zHs : m + 1 = JF.length + 1 := zHs
 replace zU := zU.le Vl
 replace Qe := Qe.le Vl
 replace leB := leB.trans Vl
 replace zaA : SlF zJa zG1.length zJM := zaA
 obtain rfl : m = JF.length := by omega
 clear zHs
 show Tr _ _ (LF [(1, pV QE), (3, pV Qw), (13, sL zC p0.Tools zD), (14, iv (p0.Tools.length : Int)), (15, iv (iL3 : Int))]) (LE [(1, bx QE #[iv p0.Unit, sL zC p0.Tools zD, sL zO p0.Steps zN] 25), (2, bx Qw #[iv p0.Unit, sL zC p0.Tools zD, sL zO p0.Steps zN, sL zJa zG1 zJM, .slice none 0 0, bV false, iv (-1), iv 0, iv 0, bV false, iv 0, iv 0] 77), (27, ow zJa zJM 66 Qy zG1)]) _
 cases JF with
 | nil =>
  rw [JN.eq_1] at H
  refine Tr.sr (Tr.va rfl (fun _ _ a c => QI (a.ev rfl) (a.ev rfl)) ?_)
  refine Tr.nil (Tr.zA (Tr.seq (Tr.WL rfl (JS zAA) ?_)))
  refine Tr.exit (Tr.zk (Tr.zk (Tr.QV (Tr.zA (Tr.sr (Tr.mv rfl rfl (Tr.asg rfl rfl (Tr.nil (Tr.zA (Tr.ret ?_))))))))))
  obtain rfl := oI H
  refine Tr.JU 28 107 zL ?_
  exact Tr.out (m := [pV Qw]) [] (zW rfl zX) (fun W hW => ⟨w, ((zC, zD), (zO, zN), (zJa, zJM), (none, 0), (none, Qw)), leB, rfl, ⟨zU, Qe, zaA, Kk, trivial⟩, hW.pick (ks := [27, 28, 2]) (by decide) (zQ rfl (zQ rfl (zQ rfl zf)))⟩)
 | cons xL3 JF =>
  rw [JN.eq_2] at H
  refine Tr.sr (Tr.va rfl (fun _ _ a c => QI (a.ev rfl) (a.ev rfl)) ?_)
  refine Tr.nil (Tr.zA (Tr.seq (Tr.WK rfl (Jt zAA) ?_)))
  refine Tr.skip (Tr.zA (Tr.seq (Tr.block (Tr.sr ?_))))
  obtain ⟨zYb, hRu165, zLV, hcu165⟩ := (zU).el (KL zAA)
  obtain ⟨zEX, zER⟩ := zYb
  have zCU := zLV
  replace zCU : Sl w.O w.W zK zEX zER xL3.Rects := zCU
  replace hRu165 : w.R (adB zC) := Or.inl hRu165
  refine Tr.va rfl (fun _ _ a c => zM zKa (a.ev rfl) zU.form (a.ev rfl) (Int.natCast_nonneg _) (QB zAA)) ?_
  refine Tr.va rfl (fun _ _ a c => zZ (cs := [sv xL3.Name, sL zEX xL3.Rects zER]) zP5 zG8 (a.ev rfl) (zR.take (rdR hRu165 hcu165 c) 2) rfl) ?_
  refine Tr.alloc 29 (wn rfl) rfl zV3 fun znZ => ?_
  refine Tr.store 29 (cs := [sv xL3.Name, sL zEX xL3.Rects zER]) [sv xL3.Name, sL zEX xL3.Rects zER] (wn rfl) rfl rfl rfl rfl zG8 rfl rfl rfl ?_
  refine Tr.nil (Tr.zA (Tr.sr (Tr.asg rfl rfl (Tr.JU 30 36 zK ?_))))
  show Tr _ _ (uf _ 6 (sL none (([] : List zS)) 0)) _ _
  refine Tr.nil (Tr.zA (Tr.seq (Tr.sr (Tr.va rfl (fun _ _ a c => zB zFS (a.ev rfl)) ?_))))
  refine Tr.va rfl (fun _ _ a c => zF zNX (a.ev rfl) (rdb c (vs := [sv xL3.Name, sL zEX xL3.Rects zER]) (k := 29) rfl 1) rfl) ?_
  refine Tr.va rfl (fun _ _ a c => QJ zA8 (a.ev rfl)) ?_
  refine Tr.mv rfl rfl (Tr.nil (Tr.zA (Tr.block (Tr.loop (σ := (List zS) × Nat × (List zS) × (Option Addr) × Nat) (fun m w s => m = s.1.length + 1 ∧ s.1 = List.drop s.2.1 xL3.Rects ∧ s.2.1 ≤ xL3.Rects.length ∧ KE N p0 zG1 (JN N p0 JF (iL3 + 1)) s.1 s.2.1 s.2.2.1 = some r ∧ SlF s.2.2.2.1 s.2.2.1.length s.2.2.2.2) (fun s => [(1, pV QE), (3, pV Qw), (6, sL s.2.2.2.1 s.2.2.1 s.2.2.2.2), (13, sL zC p0.Tools zD), (14, iv (p0.Tools.length : Int)), (15, iv (iL3 : Int)), (20, sL zEX xL3.Rects zER), (21, iv (xL3.Rects.length : Int)), (22, iv (s.2.1 : Int))]) (fun s => [(1, bx QE #[iv p0.Unit, sL zC p0.Tools zD, sL zO p0.Steps zN] 25), (2, bx Qw #[iv p0.Unit, sL zC p0.Tools zD, sL zO p0.Steps zN, sL zJa zG1 zJM, .slice none 0 0, bV false, iv (-1), iv 0, iv 0, bV false, iv 0, iv 0] 77), (27, ow zJa zJM 66 Qy zG1), (30, ow s.2.2.2.1 s.2.2.2.2 36 zK s.2.2.1)]) (xL3.Rects.length + 1) (xL3.Rects, 0, ([] : List zS), none, 0) ⟨rfl, rfl, Nat.zero_le _, H, Kk⟩ (.cons rfl (.cons rfl (.cons rfl (.cons rfl (.cons rfl (.cons rfl (.cons rfl (.cons rfl (.cons rfl .nil))))))))) (.cons rfl (.cons rfl (.cons rfl (.cons rfl .nil)))) (fun _ _ h => absurd h.1 (by simp)) ?_))))
  intro w zCS m s hs
  obtain ⟨Ve, iL4, zR0, zbQ, zaz⟩ := s
  obtain ⟨zPh, zEJ, hiL4, H, znA⟩ := hs
  replace zEJ : Ve = List.drop iL4 xL3.Rects := zEJ
  replace H : KE N p0 zG1 (JN N p0 JF (iL3 + 1)) Ve iL4 zR0 = some r := H
  replace zPh : m + 1 = Ve.length + 1 := zPh
  replace zU := zU.le zCS
  replace zCU := zCU.le zCS
  replace Vl := Vl.trans zCS
  obtain rfl : m = Ve.length := by omega
  clear zPh
  show Tr _ _ (LF [(1, pV QE), (3, pV Qw), (6, sL zbQ zR0 zaz), (13, sL zC p0.Tools zD), (14, iv (p0.Tools.length : Int)), (15, iv (iL3 : Int)), (20, sL zEX xL3.Rects zER), (21, iv (xL3.Rects.length : Int)), (22, iv (iL4 : Int))]) (LE [(1, bx QE #[iv p0.Unit, sL zC p0.Tools zD, sL zO p0.Steps zN] 25), (2, bx Qw #[iv p0.Unit, sL zC p0.Tools zD, sL zO p0.Steps zN, sL zJa zG1 zJM, .slice none 0 0, bV false, iv (-1), iv 0, iv 0, bV false, iv 0, iv 0] 77), (27, ow zJa zJM 66 Qy zG1), (30, ow zbQ zaz 36 zK zR0)]) _
  cases Ve with
  | nil =>
   rw [KE.eq_1] at H
   refine Tr.sr (Tr.va rfl (fun _ _ a c => QI (a.ev rfl) (a.ev rfl)) ?_)
   refine Tr.nil (Tr.zA (Tr.seq (Tr.WL rfl (JS zEJ) ?_)))
   refine Tr.exit (Tr.zk (Tr.zk (Tr.QV (Tr.zA (Tr.zHS 9 [(8, (ow zJa zJM 66 Qy zG1).S)] [] (by kernel_rfl) (by kernel_rfl) fun zm4 zkB zlY => ?_)))))
   refine Dr.KM 0 (by kernel_rfl) rfl (wn rfl) rfl (by kernel_rfl) (fun _ _ a => run_move (a.ev rfl)) rfl ?_
   refine Dr.KM 1 (by kernel_rfl) rfl (wn rfl) rfl (by kernel_rfl) (fun _ _ a => run_move (a.ev rfl)) rfl ?_
   refine Dr.KM 2 (by kernel_rfl) rfl (wn rfl) rfl (by kernel_rfl) (fun _ _ a => zt (a.ev rfl)) rfl ?_
   refine Dr.KM 3 (by kernel_rfl) rfl (wn rfl) rfl (by kernel_rfl) (fun _ _ a => zB zNt (a.ev rfl)) rfl ?_
   refine Dr.quiet 4 [(55, sL zJa zG1 zJM)] (by kernel_rfl) rfl rfl (by kernel_rfl) ?_ rfl rfl ?_
   ·refine Tq.va rfl (fun _ _ a c => zF zbD (a.ev rfl) (rdb c (vs := [iv p0.Unit, sL zC p0.Tools zD, sL zO p0.Steps zN, sL zJa zG1 zJM, .slice none 0 0, bV false, iv (-1), iv 0, iv 0, bV false, iv 0, iv 0]) (k := 2) rfl 3) rfl) ?_
    exact Tq.fin (.cons rfl .nil)
   refine Dr.KM 5 (by kernel_rfl) rfl (wn rfl) rfl (by kernel_rfl) (fun _ _ a => run_move (a.ev rfl)) rfl ?_
   obtain ⟨zFn, zZf, H⟩ := bnd H
   refine Dr.one 6 (by kernel_rfl) ?_
   refine St.VT 6 [35] [emp] (U := (Option Addr × Nat)) (fun u => (sL u.1 zFn u.2)) (fun O W u => SlF u.1 zFn.length u.2) (fun u => [ow u.1 u.2 107 zL zFn]) rfl (zQ rfl zf) (fun _ => rfl) (zNr rfl) rfl (wn rfl) rfl Tryz.call59 (zI rfl zT) (fun W hW hp hE => zBJ N zR0 zbQ zaz (hW.slS (k := 30) rfl hp rfl) zFn zZf hE) ?_
   intro w u zdI hu zmm
   obtain ⟨zEV, zEP⟩ := u
   have gy183_0 := hu
   replace zU := zU.le zdI
   replace Vl := Vl.trans zdI
   have zaO : SlF zEV zFn.length zEP := gy183_0
   show Dr _ _ _ _ _ _ _ _ _ (uf _ 57 (sL zEV zFn zEP)) (up _ 35 (ow zEV zEP 107 zL zFn))
   refine Dr.one 7 (by kernel_rfl) ?_
   refine St.freeze 35 rfl fun w zdH ziM => ?_
   replace zU := zU.le zdH
   replace Vl := Vl.trans zdH
   refine St.buildSlice 7 36 (e := 66) (vs := [(0, sL zEV zFn zEP)]) (cs := [sL zEV zFn zEP]) rfl (wn rfl) rfl (zq rfl Qi) (by kernel_rfl) fun znX znG => ?_
   obtain ⟨zG0, zQ0, H⟩ := bnd H
   refine Dr.one 8 (by kernel_rfl) ?_
   refine St.append 8 27 (t' := Qy) (ll := zG1) (l2 := [zFn]) (fun b hb => .inl ⟨_, List.mem_cons_self, rfl, hb⟩) rfl (wn rfl) rfl rfl rfl rfl (fun W hW => ⟨[[sL zEV zFn zEP]], (.cons ⟨(zEV, zEP), ziM, rfl⟩ .nil), rdb hW (vs := [sL zEV zFn zEP]) (k := 36) rfl 0⟩) zc2 zYl zhT (by decide) zlE rfl zQ0 fun zAI zAE hAl188 => ?_
   refine Dr.tail (by kernel_rfl) ?_
   refine Tr.va rfl (fun _ _ a c => zt (a.ev rfl)) ?_
   refine Tr.va rfl (fun _ _ a c => zB zNt (a.ev rfl)) ?_
   refine Tr.store 2 (cs := [sL zAI zG0 zAE]) [iv p0.Unit, sL zC p0.Tools zD, sL zO p0.Steps zN, sL zAI zG0 zAE, .slice none 0 0, bV false, iv (-1), iv 0, iv 0, bV false, iv 0, iv 0] (wn rfl) rfl rfl rfl rfl zhq rfl rfl rfl ?_
   refine Tr.nil (Tr.zl (Tr.zA (Tr.region (Tr.va rfl (fun _ _ a c => QK (a.ev rfl) (a.ev rfl)) ?_))))
   exact Tr.mv rfl rfl (Tr.nil (Tr.zn Vl (JF, (iL3 + 1), zG0, zAI, zAE) ⟨rfl, Qu zAA, QB zAA, H, hAl188⟩ (.cons rfl (.cons rfl (.cons rfl (.cons rfl (.cons (congrArg (fun z => some (Value.int .i64 z)) (Qt zAA zU.form)) .nil))))) (.cons rfl (.cons rfl (.cons rfl .nil)))))
  | cons xL4 Ve =>
   rw [KE.eq_2] at H
   refine Tr.sr (Tr.va rfl (fun _ _ a c => QI (a.ev rfl) (a.ev rfl)) ?_)
   refine Tr.nil (Tr.zA (Tr.seq (Tr.WK rfl (Jt zEJ) ?_)))
   refine Tr.skip (Tr.zA (Tr.seq (Tr.block (Tr.sr (Tr.va rfl (fun _ _ a c => zM zCj (a.ev rfl) zCU.form (a.ev rfl) (Int.natCast_nonneg _) (QB zEJ)) ?_)))))
   refine Tr.va rfl (fun _ _ a c => zZ (cs := [iv xL4.X0, iv xL4.Y0, iv xL4.X1, iv xL4.Y1]) zBz Ku (a.ev rfl) (zR.take (rdF Vg (zCU.rl) (KL zEJ) c) 4) rfl) ?_
   refine Tr.alloc 37 (wn rfl) rfl zD3 fun znW => ?_
   refine Tr.store 37 (cs := [iv xL4.X0, iv xL4.Y0, iv xL4.X1, iv xL4.Y1]) [iv xL4.X0, iv xL4.Y0, iv xL4.X1, iv xL4.Y1] (wn rfl) rfl rfl rfl rfl Ku rfl rfl rfl ?_
   refine Tr.nil (Tr.zA (Tr.region (Tr.mv rfl rfl (Tr.va rfl (fun _ _ a c => zB WR (a.ev rfl)) ?_))))
   refine Tr.va rfl (fun _ _ a c => zF QH (a.ev rfl) (rdb c (vs := [iv xL4.X0, iv xL4.Y0, iv xL4.X1, iv xL4.Y1]) (k := 37) rfl 0) rfl) ?_
   refine Tr.va rfl (fun _ _ a c => zB WS (a.ev rfl)) ?_
   refine Tr.va rfl (fun _ _ a c => zF QH (a.ev rfl) (rdb c (vs := [iv p0.Unit, sL zC p0.Tools zD, sL zO p0.Steps zN]) (k := 1) rfl 0) rfl) ?_
   refine Tr.va rfl (fun _ _ a c => zBu (a.ev rfl) (a.ev rfl)) ?_
   refine Tr.va rfl (fun _ _ a c => zB zAk (a.ev rfl)) ?_
   refine Tr.va rfl (fun _ _ a c => zF QH (a.ev rfl) (rdb c (vs := [iv xL4.X0, iv xL4.Y0, iv xL4.X1, iv xL4.Y1]) (k := 37) rfl 1) rfl) ?_
   refine Tr.va rfl (fun _ _ a c => zB WS (a.ev rfl)) ?_
   refine Tr.va rfl (fun _ _ a c => zF QH (a.ev rfl) (rdb c (vs := [iv p0.Unit, sL zC p0.Tools zD, sL zO p0.Steps zN]) (k := 1) rfl 0) rfl) ?_
   refine Tr.va rfl (fun _ _ a c => zBu (a.ev rfl) (a.ev rfl)) ?_
   refine Tr.va rfl (fun _ _ a c => zB zC5 (a.ev rfl)) ?_
   refine Tr.va rfl (fun _ _ a c => zF QH (a.ev rfl) (rdb c (vs := [iv xL4.X0, iv xL4.Y0, iv xL4.X1, iv xL4.Y1]) (k := 37) rfl 2) rfl) ?_
   refine Tr.va rfl (fun _ _ a c => zB WS (a.ev rfl)) ?_
   refine Tr.va rfl (fun _ _ a c => zF QH (a.ev rfl) (rdb c (vs := [iv p0.Unit, sL zC p0.Tools zD, sL zO p0.Steps zN]) (k := 1) rfl 0) rfl) ?_
   refine Tr.va rfl (fun _ _ a c => zBu (a.ev rfl) (a.ev rfl)) ?_
   refine Tr.va rfl (fun _ _ a c => zB zDi (a.ev rfl)) ?_
   refine Tr.va rfl (fun _ _ a c => zF QH (a.ev rfl) (rdb c (vs := [iv xL4.X0, iv xL4.Y0, iv xL4.X1, iv xL4.Y1]) (k := 37) rfl 3) rfl) ?_
   refine Tr.va rfl (fun _ _ a c => zB WS (a.ev rfl)) ?_
   refine Tr.va rfl (fun _ _ a c => zF QH (a.ev rfl) (rdb c (vs := [iv p0.Unit, sL zC p0.Tools zD, sL zO p0.Steps zN]) (k := 1) rfl 0) rfl) ?_
   refine Tr.va rfl (fun _ _ a c => zBu (a.ev rfl) (a.ev rfl)) ?_
   refine Tr.build (vs := [(0, iv (w64 (xL4.X0 * p0.Unit))), (1, iv (w64 (xL4.Y0 * p0.Unit))), (2, iv (w64 (xL4.X1 * p0.Unit))), (3, iv (w64 (xL4.Y1 * p0.Unit)))]) (cs := [iv (w64 (xL4.X0 * p0.Unit)), iv (w64 (xL4.Y0 * p0.Unit)), iv (w64 (xL4.X1 * p0.Unit)), iv (w64 (xL4.Y1 * p0.Unit))]) (wn rfl) rfl (zq rfl (zq rfl (zq rfl (zq rfl Qi)))) (by kernel_rfl) ?_
   refine Tr.buildSlice 38 (e := 36) (vs := [(0, .agg #[iv (w64 (xL4.X0 * p0.Unit)), iv (w64 (xL4.Y0 * p0.Unit)), iv (w64 (xL4.X1 * p0.Unit)), iv (w64 (xL4.Y1 * p0.Unit))])]) (cs := [iv (w64 (xL4.X0 * p0.Unit)), iv (w64 (xL4.Y0 * p0.Unit)), iv (w64 (xL4.X1 * p0.Unit)), iv (w64 (xL4.Y1 * p0.Unit))]) (wn rfl) rfl (zq rfl Qi) (by kernel_rfl) fun znV => ?_
   obtain ⟨zeI, zkP, H⟩ := bnd H
   refine Tr.append 30 (t := zK) (l := zR0) (l2 := [(zS.mk (w64 (xL4.X0 * p0.Unit)) (w64 (xL4.Y0 * p0.Unit)) (w64 (xL4.X1 * p0.Unit)) (w64 (xL4.Y1 * p0.Unit)))]) (wn rfl) rfl rfl rfl rfl (fun W hW => ⟨[[iv (w64 (xL4.X0 * p0.Unit)), iv (w64 (xL4.Y0 * p0.Unit)), iv (w64 (xL4.X1 * p0.Unit)), iv (w64 (xL4.Y1 * p0.Unit))]], (.cons ⟨(), trivial, rfl⟩ .nil), rdb hW (vs := [iv (w64 (xL4.X0 * p0.Unit)), iv (w64 (xL4.Y0 * p0.Unit)), iv (w64 (xL4.X1 * p0.Unit)), iv (w64 (xL4.Y1 * p0.Unit))]) (k := 38) rfl 0⟩) zA8 Ku zSo (by decide) zUc rfl zkP fun zlR zlA hAl191 => ?_
   refine Tr.asg rfl rfl (Tr.nil (Tr.zl (Tr.zA (Tr.region (Tr.va rfl (fun _ _ a c => QK (a.ev rfl) (a.ev rfl)) ?_)))))
   exact Tr.mv rfl rfl (Tr.nil (Tr.zn zCS (Ve, (iL4 + 1), zeI, zlR, zlA) ⟨rfl, Qu zEJ, QB zEJ, H, hAl191⟩ (.cons rfl (.cons rfl (.cons rfl (.cons rfl (.cons rfl (.cons rfl (.cons rfl (.cons rfl (.cons (congrArg (fun z => some (Value.int .i64 z)) (Qt zEJ zCU.form)) .nil))))))))) (.cons rfl (.cons rfl (.cons rfl (.cons rfl .nil))))))

theorem zC0 {w : Bs} (p0 : QQ) (zC : Option Addr) (zD : Nat) (zU : Sl w.R w.W zP zC zD p0.p.Tools) (zO : Option Addr) (zN : Nat) (Qe : Sl w.R w.W zH zO zN p0.p.Steps) (QA : Option Addr) (QC : Nat) (Ka : Sl w.R w.W Qy QA QC p0.tools) (QO : Option Addr) (QN : Nat) (zdP : Sl w.R w.W zL QO QN p0.image) (bp0 : Nat) (hbp0 : w.R bp0) (hcp0 : zR w.W bp0 0 [iv p0.p.Unit, sL zC p0.p.Tools zD, sL zO p0.p.Steps zN, sL QA p0.tools QC, sL QO p0.image QN, bV p0.clear, iv p0.tool, iv p0.place.X, iv p0.place.Y, bV p0.placed, iv p0.off, iv p0.on]) (p1 : zJ) (p2 : zJ) (r : zJ) (H : Vv p0 p1 p2 = some r) (hE : HF w w.W E0) : Calls Tryz.prog 103 [pV bp0, .agg #[iv p1.X, iv p1.Y], .agg #[iv p2.X, iv p2.Y]].toArray w.W fun e W' => e = .returned (.agg #[iv r.X, iv r.Y]) ∧ HF w W' E0 := by
 unfold Vv at H
 have leB := Bs.Le.refl w
 refine Tr.enter (n := 30) Tryz.func103 rfl rfl rfl hE ?_
 refine Tr.sr (Tr.box 1 (cs := [iv p1.X, iv p1.Y]) (wn rfl) rfl rfl rfl fun QE => ?_)
 refine Tr.box 2 (cs := [iv p2.X, iv p2.Y]) (wn rfl) rfl rfl rfl fun Qw => ?_
 refine Tr.alloc 3 (wn rfl) rfl zIo fun Vs => ?_
 refine Tr.nil (Tr.zA (Tr.seq (Tr.zCv 22 (by kernel_rfl) (by kernel_rfl) ?_)))
 refine Tq.va rfl (fun _ _ a c => zB Vm (a.ev rfl)) ?_
 refine Tq.va rfl (fun _ _ a c => zF QH (a.ev rfl) (rdb c (vs := [iv p1.X, iv p1.Y]) (k := 1) rfl 0) rfl) ?_
 refine Tq.mv rfl rfl (Tq.va rfl (fun _ _ a c => zt (a.ev rfl)) ?_)
 refine Tq.va rfl (fun _ _ a c => zB zLe (a.ev rfl)) ?_
 refine Tq.va rfl (fun _ _ a c => zB WS (a.ev rfl)) ?_
 refine Tq.va rfl (fun _ _ a c => zF QH (a.ev rfl) (zR.drop (zR.drop (rdR hbp0 hcp0 c) 0) 0) rfl) ?_
 refine Tq.va rfl (fun _ _ a c => zBu (a.ev rfl) (a.ev rfl)) ?_
 refine Tq.va rfl (fun _ _ a c => zB Vm (a.ev rfl)) ?_
 refine Tq.va rfl (fun _ _ a c => zF QH (a.ev rfl) (rdb c (vs := [iv p2.X, iv p2.Y]) (k := 2) rfl 0) rfl) ?_
 refine Tq.va rfl (fun _ _ a c => QK (a.ev rfl) (a.ev rfl)) ?_
 refine Tq.va rfl (fun _ _ a c => zB VZ (a.ev rfl)) ?_
 refine Tq.va rfl (fun _ _ a c => zF QH (a.ev rfl) (rdb c (vs := [iv p1.X, iv p1.Y]) (k := 1) rfl 1) rfl) ?_
 refine Tq.mv rfl rfl (Tq.va rfl (fun _ _ a c => zt (a.ev rfl)) ?_)
 refine Tq.va rfl (fun _ _ a c => zB zLe (a.ev rfl)) ?_
 refine Tq.va rfl (fun _ _ a c => zB WS (a.ev rfl)) ?_
 refine Tq.va rfl (fun _ _ a c => zF QH (a.ev rfl) (zR.drop (zR.drop (rdR hbp0 hcp0 c) 0) 0) rfl) ?_
 refine Tq.va rfl (fun _ _ a c => zBu (a.ev rfl) (a.ev rfl)) ?_
 refine Tq.va rfl (fun _ _ a c => zB VZ (a.ev rfl)) ?_
 refine Tq.va rfl (fun _ _ a c => zF QH (a.ev rfl) (rdb c (vs := [iv p2.X, iv p2.Y]) (k := 2) rfl 1) rfl) ?_
 refine Tq.va rfl (fun _ _ a c => QK (a.ev rfl) (a.ev rfl)) ?_
 refine Tq.nil (Tr.build (vs := [(0, iv (w64 ((w64 (p1.X * p0.p.Unit)) + p2.X))), (1, iv (w64 ((w64 (p1.Y * p0.p.Unit)) + p2.Y)))]) (cs := [iv (w64 ((w64 (p1.X * p0.p.Unit)) + p2.X)), iv (w64 ((w64 (p1.Y * p0.p.Unit)) + p2.Y))]) (wn rfl) rfl (zq rfl (zq rfl Qi)) (by kernel_rfl) ?_)
 refine Tr.store 3 (cs := [iv (w64 ((w64 (p1.X * p0.p.Unit)) + p2.X)), iv (w64 ((w64 (p1.Y * p0.p.Unit)) + p2.Y))]) [iv (w64 ((w64 (p1.X * p0.p.Unit)) + p2.X)), iv (w64 ((w64 (p1.Y * p0.p.Unit)) + p2.Y))] (wn rfl) rfl rfl rfl rfl Js rfl rfl rfl ?_
 refine Tr.nil (Tr.zA (Tr.ret ?_))
 obtain rfl := oI H
 exact Tr.out (m := [.agg #[iv (w64 ((w64 (p1.X * p0.p.Unit)) + p2.X)), iv (w64 ((w64 (p1.Y * p0.p.Unit)) + p2.Y))]]) [3] (Wq rfl rfl VP Js zX) (fun W hW => ⟨rfl, hW.low leB⟩)

theorem zL1 {w : Bs} (p0 : Int) (p1 : Int) (p2 : Int) (r : Bool) (H : zCH p0 p1 p2 = some r) (hE : HF w w.W E0) : Calls Tryz.prog 158 [iv p0, iv p1, iv p2].toArray w.W fun e W' => e = .returned (bV r) ∧ HF w W' E0 := by
 unfold zCH at H
 have leB := Bs.Le.refl w
 refine Tr.enter (n := 15) Tryz.func158 rfl rfl rfl hE ?_
 refine Tr.sr (Tr.asg rfl rfl (Tr.nil (Tr.zA (Tr.sr (Tr.mv rfl rfl (Tr.mv rfl rfl (Tr.va rfl (fun _ _ a c => zFN (a.ev rfl) (a.ev rfl)) ?_)))))))
 refine Tr.mv rfl rfl (Tr.Vr 4 [(14, bV ((decide (p1 ≤ p0)) && (decide (p0 ≤ p2))))] [] ?_ ?_)
 ·cases zgn : (decide (p1 ≤ p0))
  ·refine Tr.pass rfl rfl rfl rfl rfl (by decide) ?_
   refine Tr.pass rfl rfl rfl rfl rfl (by decide) ?_
   refine Tr.pass rfl rfl rfl rfl rfl (by decide) ?_
   refine Tr.va rfl (fun _ _ a c => zx (a.ev rfl) (a.ev rfl)) ?_
   exact Tr.nil (Tr.JM (.cons rfl .nil) .nil)
  ·refine Tr.val (wg rfl rfl rfl) rfl (fun _ _ a c => run_move (a.ev rfl)) ?_
   refine Tr.val (wg rfl rfl rfl) rfl (fun _ _ a c => run_move (a.ev rfl)) ?_
   refine Tr.val (wg rfl rfl rfl) rfl (fun _ _ a c => zAW (a.ev rfl) (a.ev rfl)) ?_
   refine Tr.va rfl (fun _ _ a c => zw (a.ev rfl) (a.ev rfl)) ?_
   exact Tr.nil (Tr.JM (.cons rfl .nil) .nil)
 ·show Tr _ _ (LF [(14, bV ((decide (p1 ≤ p0)) && (decide (p0 ≤ p2))))]) (LE []) _
  refine Tr.asg rfl rfl (Tr.nil (Tr.zA (Tr.ret ?_)))
  obtain rfl := oI H
  exact Tr.out (m := [bV ((decide (p1 ≤ p0)) && (decide (p0 ≤ p2)))]) [] (zW rfl zX) (fun W hW => ⟨rfl, hW.low leB⟩)

theorem zAi {w : Bs} (p0 : Int) (r : Bool) (H : WC p0 = some r) (hE : HF w w.W E0) : Calls Tryz.prog 129 [iv p0].toArray w.W fun e W' => e = .returned (bV r) ∧ HF w W' E0 := by
 unfold WC at H
 have leB := Bs.Le.refl w
 refine Tr.enter (n := 5) Tryz.func129 rfl rfl rfl hE ?_
 refine Tr.sr (Tr.asg rfl rfl (Tr.nil (Tr.zA (Tr.sr (Tr.mv rfl rfl ?_)))))
 obtain ⟨zy, Ws, H⟩ := bnd H
 refine Tr.JI (r := (bV zy)) (wn rfl) rfl Tryz.call158 (zI rfl (zI rfl (zI rfl zT))) (fun W hW => zL1 p0 (-1000000) 1000000 zy Ws (HF.start _)) ?_
 refine Tr.asg rfl rfl (Tr.nil (Tr.zA (Tr.ret ?_)))
 obtain rfl := oI H
 exact Tr.out (m := [bV zy]) [] (zW rfl zX) (fun W hW => ⟨rfl, hW.low leB⟩)

theorem zDJ {w : Bs} (p0 : zJ) (r : Bool) (H : Wm p0 = some r) (hE : HF w w.W E0) : Calls Tryz.prog 123 [.agg #[iv p0.X, iv p0.Y]].toArray w.W fun e W' => e = .returned (bV r) ∧ HF w W' E0 := by
 unfold Wm at H
 have leB := Bs.Le.refl w
 refine Tr.enter (n := 11) Tryz.func123 rfl rfl rfl hE ?_
 refine Tr.sr (Tr.box 1 (cs := [iv p0.X, iv p0.Y]) (wn rfl) rfl rfl rfl fun QE => ?_)
 refine Tr.asg rfl rfl (Tr.nil (Tr.zA (Tr.sr (Tr.va rfl (fun _ _ a c => zB Vm (a.ev rfl)) ?_))))
 refine Tr.va rfl (fun _ _ a c => zF QH (a.ev rfl) (rdb c (vs := [iv p0.X, iv p0.Y]) (k := 1) rfl 0) rfl) ?_
 obtain ⟨y101, hy101, H⟩ := bnd H
 refine Tr.JI (r := (bV y101)) (wn rfl) rfl Tryz.call129 (zI rfl zT) (fun W hW => zAi p0.X y101 hy101 (HF.start _)) ?_
 refine Tr.mv rfl rfl ?_
 obtain ⟨zJF, zCC, H⟩ := bnd H
 refine Tr.Vr 4 [(10, bV zJF)] [(1, bx QE #[iv p0.X, iv p0.Y] 43)] ?_ ?_
 ·cases zNN : y101
  ·rw [zNN] at zCC
   rw [if_neg (by decide)] at zCC
   have H := zCC
   obtain rfl := oI H
   refine Tr.pass rfl rfl rfl rfl rfl (by decide) ?_
   refine Tr.pass rfl rfl rfl rfl rfl (by decide) ?_
   refine Tr.pass rfl rfl rfl rfl rfl (by decide) ?_
   refine Tr.va rfl (fun _ _ a c => zx (a.ev rfl) (a.ev rfl)) ?_
   exact Tr.nil (Tr.JM (.cons rfl .nil) (.cons rfl .nil))
  ·rw [zNN] at zCC
   rw [if_pos rfl] at zCC
   have H := zCC
   refine Tr.val (wg rfl rfl rfl) rfl (fun _ _ a c => zB VZ (a.ev rfl)) ?_
   refine Tr.val (wg rfl rfl rfl) rfl (fun _ _ a c => zF QH (a.ev rfl) (rdb c (vs := [iv p0.X, iv p0.Y]) (k := 1) rfl 1) rfl) ?_
   obtain ⟨y104, hy104, H⟩ := bnd H
   refine Tr.JI (r := (bV y104)) (wg rfl rfl rfl) rfl Tryz.call129 (zI rfl zT) (fun W hW => zAi p0.Y y104 hy104 (HF.start _)) ?_
   refine Tr.va rfl (fun _ _ a c => zw (a.ev rfl) (a.ev rfl)) ?_
   obtain rfl := oI H
   exact Tr.nil (Tr.JM (.cons rfl .nil) (.cons rfl .nil))
 ·show Tr _ _ (LF [(10, bV zJF)]) (LE [(1, bx QE #[iv p0.X, iv p0.Y] 43)]) _
  refine Tr.asg rfl rfl (Tr.nil (Tr.zA (Tr.ret ?_)))
  obtain rfl := oI H
  exact Tr.out (m := [bV zJF]) [] (zW rfl zX) (fun W hW => ⟨rfl, hW.low leB⟩)

theorem zKe {w : Bs} (p0 : zJ) (p1 : zJ) (r : Int) (H : zIE p0 p1 = some r) (hE : HF w w.W E0) : Calls Tryz.prog 124 [.agg #[iv p0.X, iv p0.Y], .agg #[iv p1.X, iv p1.Y]].toArray w.W fun e W' => e = .returned (iv r) ∧ HF w W' E0 := by
 unfold zIE at H
 have leB := Bs.Le.refl w
 refine Tr.enter (n := 28) Tryz.func124 rfl rfl rfl hE ?_
 refine Tr.sr (Tr.box 1 (cs := [iv p0.X, iv p0.Y]) (wn rfl) rfl rfl rfl fun QE => ?_)
 refine Tr.box 2 (cs := [iv p1.X, iv p1.Y]) (wn rfl) rfl rfl rfl fun Qw => ?_
 refine Tr.asg rfl rfl (Tr.nil (Tr.zA (Tr.sr (Tr.va rfl (fun _ _ a c => zB Vm (a.ev rfl)) ?_))))
 refine Tr.va rfl (fun _ _ a c => zF QH (a.ev rfl) (rdb c (vs := [iv p0.X, iv p0.Y]) (k := 1) rfl 0) rfl) ?_
 refine Tr.va rfl (fun _ _ a c => zB Vm (a.ev rfl)) ?_
 refine Tr.va rfl (fun _ _ a c => zF QH (a.ev rfl) (rdb c (vs := [iv p1.X, iv p1.Y]) (k := 2) rfl 0) rfl) ?_
 refine Tr.va rfl (fun _ _ a c => Wy (a.ev rfl) (a.ev rfl)) ?_
 refine Tr.va rfl (fun _ _ a c => zB Vm (a.ev rfl)) ?_
 refine Tr.va rfl (fun _ _ a c => zF QH (a.ev rfl) (rdb c (vs := [iv p1.X, iv p1.Y]) (k := 2) rfl 0) rfl) ?_
 refine Tr.va rfl (fun _ _ a c => zB Vm (a.ev rfl)) ?_
 refine Tr.va rfl (fun _ _ a c => zF QH (a.ev rfl) (rdb c (vs := [iv p0.X, iv p0.Y]) (k := 1) rfl 0) rfl) ?_
 refine Tr.va rfl (fun _ _ a c => Wy (a.ev rfl) (a.ev rfl)) ?_
 refine Tr.va rfl (fun _ _ a c => zGZ (a.ev rfl) (a.ev rfl) _) ?_
 refine Tr.va rfl (fun _ _ a c => zB VZ (a.ev rfl)) ?_
 refine Tr.va rfl (fun _ _ a c => zF QH (a.ev rfl) (rdb c (vs := [iv p0.X, iv p0.Y]) (k := 1) rfl 1) rfl) ?_
 refine Tr.va rfl (fun _ _ a c => zB VZ (a.ev rfl)) ?_
 refine Tr.va rfl (fun _ _ a c => zF QH (a.ev rfl) (rdb c (vs := [iv p1.X, iv p1.Y]) (k := 2) rfl 1) rfl) ?_
 refine Tr.va rfl (fun _ _ a c => Wy (a.ev rfl) (a.ev rfl)) ?_
 refine Tr.va rfl (fun _ _ a c => zB VZ (a.ev rfl)) ?_
 refine Tr.va rfl (fun _ _ a c => zF QH (a.ev rfl) (rdb c (vs := [iv p1.X, iv p1.Y]) (k := 2) rfl 1) rfl) ?_
 refine Tr.va rfl (fun _ _ a c => zB VZ (a.ev rfl)) ?_
 refine Tr.va rfl (fun _ _ a c => zF QH (a.ev rfl) (rdb c (vs := [iv p0.X, iv p0.Y]) (k := 1) rfl 1) rfl) ?_
 refine Tr.va rfl (fun _ _ a c => Wy (a.ev rfl) (a.ev rfl)) ?_
 refine Tr.va rfl (fun _ _ a c => zGZ (a.ev rfl) (a.ev rfl) _) ?_
 refine Tr.va rfl (fun _ _ a c => QK (a.ev rfl) (a.ev rfl)) ?_
 refine Tr.asg rfl rfl (Tr.nil (Tr.zA (Tr.ret ?_)))
 obtain rfl := oI H
 exact Tr.out (m := [iv (w64 ((max (w64 (p0.X - p1.X)) (w64 (p1.X - p0.X))) + (max (w64 (p0.Y - p1.Y)) (w64 (p1.Y - p0.Y)))))]) [] (zW rfl zX) (fun W hW => ⟨rfl, hW.low leB⟩)

theorem zAa (N : Nat) {w : Bs} (p0 : (List ze)) (zC : Option Addr) (zD : Nat) (zU : Sl w.R w.W zL zC zD p0) (r : (List zS)) (H : KG N p0 = some r) (hE : HF w w.W (LEn [emp])) : Calls Tryz.prog 29 [sL zC p0 zD].toArray w.W fun e W' => ∃ u : (Option Addr × Nat), e = .returned (sL u.1 r u.2) ∧ (SlF u.1 r.length u.2) ∧ HF w W' (LEn [ow u.1 u.2 36 zK r]) := by
 unfold KG at H
 have leB := Bs.Le.refl w
 refine Tr.enter (n := 41) Tryz.func29 rfl rfl rfl hE ?_
 refine Tr.sr (Tr.asg rfl rfl (Tr.JU 1 36 zK ?_))
 show Tr _ _ (uf _ 2 (sL none (([] : List zS)) 0)) _ _
 refine Tr.nil (Tr.zA (Tr.sr (Tr.asg rfl rfl (Tr.JU 2 36 zK ?_))))
 show Tr _ _ (uf _ 3 (sL none (([] : List zS)) 0)) _ _
 refine Tr.nil (Tr.zA (Tr.seq (Tr.sr (Tr.mv rfl rfl (Tr.va rfl (fun _ _ a c => QJ zFD (a.ev rfl)) ?_)))))
 refine Tr.mv rfl rfl (Tr.nil (Tr.zA (Tr.block (Tr.loop (σ := (List ze) × Nat × (List zS) × (Option Addr) × Nat) (fun m w s => m = s.1.length + 1 ∧ s.1 = List.drop s.2.1 p0 ∧ s.2.1 ≤ p0.length ∧ JC N s.1 s.2.1 s.2.2.1 = some r ∧ SlF s.2.2.2.1 s.2.2.1.length s.2.2.2.2) (fun s => [(3, sL s.2.2.2.1 s.2.2.1 s.2.2.2.2), (7, sL zC p0 zD), (8, iv (p0.length : Int)), (9, iv (s.2.1 : Int))]) (fun s => [(2, ow s.2.2.2.1 s.2.2.2.2 36 zK s.2.2.1)]) (p0.length + 1) (p0, 0, ([] : List zS), none, 0) ⟨rfl, rfl, Nat.zero_le _, H, Kk⟩ (.cons rfl (.cons rfl (.cons rfl (.cons rfl .nil)))) (.cons rfl .nil) (fun _ _ h => absurd h.1 (by simp)) ?_))))
 intro w Vl m s hs
 obtain ⟨JF, iL3, zCT, zDT, zDP⟩ := s
 obtain ⟨zHs, zAA, hiL3, H, zKY⟩ := hs
 replace zAA : JF = List.drop iL3 p0 := zAA
 replace H : JC N JF iL3 zCT = some r := H
 replace zHs : m + 1 = JF.length + 1 := zHs
 replace zU := zU.leR Vl
 replace leB := leB.trans Vl
 replace zKY : SlF zDT zCT.length zDP := zKY
 obtain rfl : m = JF.length := by omega
 clear zHs
 show Tr _ _ (LF [(3, sL zDT zCT zDP), (7, sL zC p0 zD), (8, iv (p0.length : Int)), (9, iv (iL3 : Int))]) (LE [(2, ow zDT zDP 36 zK zCT)]) _
 cases JF with
 | nil =>
  rw [JC.eq_1] at H
  refine Tr.sr (Tr.va rfl (fun _ _ a c => QI (a.ev rfl) (a.ev rfl)) ?_)
  refine Tr.nil (Tr.zA (Tr.seq (Tr.WL rfl (JS zAA) ?_)))
  refine Tr.exit (Tr.zk (Tr.zk (Tr.QV (Tr.zA (Tr.sr (Tr.mv rfl rfl (Tr.asg rfl rfl (Tr.nil (Tr.zA (Tr.ret ?_))))))))))
  obtain rfl := oI H
  exact Tr.out (m := [sL zDT zCT zDP]) [] (zW rfl zX) (fun W hW => ⟨(zDT, zDP), rfl, zKY, HF.zFO leB (hW.pick (ks := [2]) (by decide) (zQ rfl zf)) ⟨zCA _ _ _ _ WI, trivial⟩⟩)
 | cons xL3 JF =>
  rw [JC.eq_2] at H
  refine Tr.sr (Tr.va rfl (fun _ _ a c => QI (a.ev rfl) (a.ev rfl)) ?_)
  refine Tr.nil (Tr.zA (Tr.seq (Tr.WK rfl (Jt zAA) ?_)))
  refine Tr.skip (Tr.zA (Tr.seq (Tr.block (Tr.sr ?_))))
  obtain ⟨zmT, hRu153, zcG, hcu153⟩ := (zU).el (KL zAA)
  obtain ⟨zAC, zBa⟩ := zmT
  have zDO := zcG
  replace zDO : Sl w.R w.W QG zAC zBa xL3.Xs := zDO
  refine Tr.va rfl (fun _ _ a c => zM zCi (a.ev rfl) zU.form (a.ev rfl) (Int.natCast_nonneg _) (QB zAA)) ?_
  refine Tr.va rfl (fun _ _ a c => zZ (cs := [iv xL3.Y0, iv xL3.Y1, sL zAC xL3.Xs zBa]) zSa zIt (a.ev rfl) (zR.take (rdR hRu153 hcu153 c) 3) rfl) ?_
  refine Tr.alloc 11 (wn rfl) rfl zUq fun zNj => ?_
  refine Tr.store 11 (cs := [iv xL3.Y0, iv xL3.Y1, sL zAC xL3.Xs zBa]) [iv xL3.Y0, iv xL3.Y1, sL zAC xL3.Xs zBa] (wn rfl) rfl rfl rfl rfl zIt rfl rfl rfl ?_
  refine Tr.nil (Tr.zA (Tr.sr (Tr.asg rfl rfl (Tr.nil (Tr.zA (Tr.block (Tr.loop (σ := (List zS) × Int × (Option Addr) × Nat) (fun m w s => Jm (JC N JF (iL3 + 1)) xL3 m s.1 s.2.1 = some r ∧ SlF s.2.2.1 s.1.length s.2.2.2) (fun s => [(3, sL s.2.2.1 s.1 s.2.2.2), (5, pV zNj), (6, iv s.2.1), (7, sL zC p0 zD), (8, iv (p0.length : Int)), (9, iv (iL3 : Int))]) (fun s => [(2, ow s.2.2.1 s.2.2.2 36 zK s.1), (11, bx zNj #[iv xL3.Y0, iv xL3.Y1, sL zAC xL3.Xs zBa] 107)]) N (zCT, 0, zDT, zDP) ⟨H, zKY⟩ (.cons rfl (.cons rfl (.cons rfl (.cons rfl (.cons rfl (.cons rfl .nil)))))) (.cons rfl (.cons rfl .nil)) (fun _ _ h => zA0 (h.1)) ?_)))))))
  intro w zCS mL4 s hs
  obtain ⟨zMV, zFp, zNb, zNT⟩ := s
  obtain ⟨H, zZ9⟩ := hs
  replace H : Jm (JC N JF (iL3 + 1)) xL3 (mL4 + 1) zMV zFp = some r := H
  replace zDO := zDO.leR zCS
  replace zU := zU.leR zCS
  replace Vl := Vl.trans zCS
  replace zZ9 : SlF zNb zMV.length zNT := zZ9
  rw [Jm.eq_2] at H
  show Tr _ _ (LF [(3, sL zNb zMV zNT), (5, pV zNj), (6, iv zFp), (7, sL zC p0 zD), (8, iv (p0.length : Int)), (9, iv (iL3 : Int))]) (LE [(2, ow zNb zNT 36 zK zMV), (11, bx zNj #[iv xL3.Y0, iv xL3.Y1, sL zAC xL3.Xs zBa] 107)]) _
  refine Tr.seq (Tr.sr (Tr.mv rfl rfl (Tr.va rfl (fun _ _ a c => zB zBB (a.ev rfl)) ?_)))
  refine Tr.va rfl (fun _ _ a c => zF zCx (a.ev rfl) (rdb c (vs := [iv xL3.Y0, iv xL3.Y1, sL zAC xL3.Xs zBa]) (k := 11) rfl 2) rfl) ?_
  refine Tr.va rfl (fun _ _ a c => QJ zCg (a.ev rfl)) ?_
  refine Tr.va rfl (fun _ _ a c => QI (a.ev rfl) (a.ev rfl)) ?_
  refine Tr.nil (Tr.zA (Tr.cond rfl H (fun H => ?_) (fun H => ?_)))
  ·refine Tr.skip (Tr.zA (Tr.seq (Tr.block ?_)))
   obtain ⟨zKP, zje, H⟩ := bnd H
   obtain ⟨zfi, zfh, zfg⟩ := zz zje
   obtain ⟨zKO, zjd, H⟩ := bnd H
   obtain ⟨zff, zfe, zfd⟩ := zz zjd
   refine Tr.zan 18 [(17, .makeFunc (.func 0) #[] #[.tmp 36])] [(17, ⟨37, 14, .func (.func 0) #[] #[.agg #[iv zKP, iv xL3.Y0, iv zKO, iv xL3.Y1]], fun b => .slice (some ⟨b, 0, none⟩) 1 1, fun b => bx b #[iv zKP, iv xL3.Y0, iv zKO, iv xL3.Y1] 36⟩)] [(3, sL zNb zMV zNT), (5, pV zNj), (6, iv zFp), (7, sL zC p0 zD), (8, iv (p0.length : Int)), (9, iv (iL3 : Int)), (13, iv zFp), (14, .pointer (some ⟨zNj, 2, none⟩)), (15, sL zAC xL3.Xs zBa), (16, iv (xL3.Xs.length : Int)), (17, bV (decide (zFp < (xL3.Xs.length : Int)))), (20, sL zNb zMV zNT), (21, .pointer (some ⟨zNj, 2, none⟩)), (22, sL zAC xL3.Xs zBa), (23, iv zFp), (24, .pointer (some ⟨adB zAC, adO zAC + (zFp).toNat * 1, none⟩)), (25, iv zKP), (26, pV zNj), (27, iv xL3.Y0), (28, .pointer (some ⟨zNj, 2, none⟩)), (29, sL zAC xL3.Xs zBa), (30, iv zFp), (31, iv (w64 (zFp + 1))), (32, .pointer (some ⟨adB zAC, adO zAC + ((w64 (zFp + 1))).toNat * 1, none⟩)), (33, iv zKO), (34, .pointer (some ⟨zNj, 1, none⟩)), (35, iv xL3.Y1), (36, .agg #[iv zKP, iv xL3.Y0, iv zKO, iv xL3.Y1]), (37, .func (.func 0) #[] #[.agg #[iv zKP, iv xL3.Y0, iv zKO, iv xL3.Y1]])] (by kernel_rfl) (by kernel_rfl) (by kernel_rfl) (by kernel_rfl) (by kernel_rfl) (by kernel_rfl) (by kernel_rfl) (zCX (zgx (vs := [(0, .agg #[iv zKP, iv xL3.Y0, iv zKO, iv xL3.Y1])]) rfl rfl rfl (by kernel_rfl)) zDm) (zCX rfl zDm) (zCX rfl zDm) ?_ ?_
   ·refine Tq.mv rfl rfl (Tq.va rfl (fun _ _ a c => zB zBB (a.ev rfl)) ?_)
    refine Tq.va rfl (fun _ _ a c => zF zCx (a.ev rfl) (rdb c (vs := [iv xL3.Y0, iv xL3.Y1, sL zAC xL3.Xs zBa]) (k := 11) rfl 2) rfl) ?_
    refine Tq.mv rfl rfl (Tq.va rfl (fun _ _ a c => zM zAl (a.ev rfl) zDO.form (a.ev rfl) zfi zfh) ?_)
    refine Tq.va rfl (fun _ _ a c => zF QH (a.ev rfl) (rdF Vx zDO zfg c) rfl) ?_
    refine Tq.va rfl (fun _ _ a c => zB zEn (a.ev rfl)) ?_
    refine Tq.va rfl (fun _ _ a c => zF QH (a.ev rfl) (rdb c (vs := [iv xL3.Y0, iv xL3.Y1, sL zAC xL3.Xs zBa]) (k := 11) rfl 0) rfl) ?_
    refine Tq.va rfl (fun _ _ a c => zB zBB (a.ev rfl)) ?_
    refine Tq.va rfl (fun _ _ a c => zF zCx (a.ev rfl) (rdb c (vs := [iv xL3.Y0, iv xL3.Y1, sL zAC xL3.Xs zBa]) (k := 11) rfl 2) rfl) ?_
    refine Tq.mv rfl rfl (Tq.va rfl (fun _ _ a c => QK (a.ev rfl) (a.ev rfl)) ?_)
    refine Tq.va rfl (fun _ _ a c => zM zAl (a.ev rfl) zDO.form (a.ev rfl) zff zfe) ?_
    refine Tq.va rfl (fun _ _ a c => zF QH (a.ev rfl) (rdF Vx zDO zfd c) rfl) ?_
    refine Tq.va rfl (fun _ _ a c => zB zCD (a.ev rfl)) ?_
    refine Tq.va rfl (fun _ _ a c => zF QH (a.ev rfl) (rdb c (vs := [iv xL3.Y0, iv xL3.Y1, sL zAC xL3.Xs zBa]) (k := 11) rfl 1) rfl) ?_
    refine Tq.build (vs := [(0, iv zKP), (1, iv xL3.Y0), (2, iv zKO), (3, iv xL3.Y1)]) (cs := [iv zKP, iv xL3.Y0, iv zKO, iv xL3.Y1]) (wn rfl) rfl (zq rfl (zq rfl (zq rfl (zq rfl Qi)))) (by kernel_rfl) ?_
    refine Tq.zE5 (vs := [.agg #[iv zKP, iv xL3.Y0, iv zKO, iv xL3.Y1]]) (wn rfl) rfl (zI rfl zT) ?_
    exact Tq.fin (.cons rfl (.cons rfl (.cons rfl (.cons rfl (.cons rfl (.cons rfl (.cons rfl (.cons rfl (.cons rfl (.cons rfl (.cons rfl (.cons rfl (.cons rfl (.cons rfl (.cons rfl (.cons rfl (.cons rfl (.cons rfl (.cons rfl (.cons rfl (.cons rfl (.cons rfl (.cons rfl (.cons rfl (.cons rfl (.cons rfl (.cons rfl (.cons rfl (.cons rfl .nil)))))))))))))))))))))))))))))
   ·intro bs171
    refine Tr.sel (lf := [(5, pV zNj), (6, iv zFp), (7, sL zC p0 zD), (8, iv (p0.length : Int)), (9, iv (iL3 : Int)), (20, sL zNb zMV zNT), (37, .slice (some ⟨(bs171 17), 0, none⟩) 1 1)]) (le := [(2, ow zNb zNT 36 zK zMV), (11, bx zNj #[iv xL3.Y0, iv xL3.Y1, sL zAC xL3.Xs zBa] 107), (14, bx (bs171 17) #[iv zKP, iv xL3.Y0, iv zKO, iv xL3.Y1] 36)]) (.cons rfl (.cons rfl (.cons rfl (.cons rfl (.cons rfl (.cons rfl (.cons rfl .nil))))))) (.cons rfl (.cons rfl (.cons rfl .nil))) ?_
    obtain ⟨zeJ, zkQ, H⟩ := bnd H
    refine Tr.append 2 (t := zK) (l := zMV) (l2 := [(zS.mk zKP xL3.Y0 zKO xL3.Y1)]) (wn rfl) rfl rfl rfl rfl (fun W hW => ⟨[[iv zKP, iv xL3.Y0, iv zKO, iv xL3.Y1]], (.cons ⟨(), trivial, rfl⟩ .nil), rdb hW (vs := [iv zKP, iv xL3.Y0, iv zKO, iv xL3.Y1]) (k := 14) rfl 0⟩) zA8 Ku zSo (by decide) zUc rfl zkQ fun zlS zlB hAl174 => ?_
    refine Tr.asg rfl rfl (Tr.nil (Tr.zl (Tr.zA (Tr.region (Tr.mv rfl rfl (Tr.va rfl (fun _ _ a c => QK (a.ev rfl) (a.ev rfl)) ?_))))))
    exact Tr.asg rfl rfl (Tr.nil (Tr.zn zCS (zeJ, (w64 (zFp + 2)), zlS, zlB) ⟨H, hAl174⟩ (.cons rfl (.cons rfl (.cons rfl (.cons rfl (.cons rfl (.cons rfl .nil)))))) (.cons rfl (.cons rfl .nil))))
  ·refine Tr.exit (Tr.zk (Tr.zk (Tr.QV (Tr.zl (Tr.zA (Tr.region (Tr.va rfl (fun _ _ a c => QK (a.ev rfl) (a.ev rfl)) ?_)))))))
   exact Tr.mv rfl rfl (Tr.nil (Tr.zn Vl (JF, (iL3 + 1), zMV, zNb, zNT) ⟨rfl, Qu zAA, QB zAA, H, zZ9⟩ (.cons rfl (.cons rfl (.cons rfl (.cons (congrArg (fun z => some (Value.int .i64 z)) (Qt zAA zU.form)) .nil)))) (.cons rfl .nil)))

theorem zIA (N : Nat) {w : Bs} (p0 : (List ze)) (zC : Option Addr) (zD : Nat) (zU : Sl w.R w.W zL zC zD p0) (p1 : Int) (p2 : Int) (p3 : Int) (p4 : Int) (r : (List ze)) (H : Wu N p0 p1 p2 p3 p4 = some r) (hE : HF w w.W (LEn [emp])) : Calls Tryz.prog 156 [sL zC p0 zD, iv p1, iv p2, iv p3, iv p4].toArray w.W fun e W' => ∃ (w' : Bs) (u : (Option Addr × Nat)), w.Le w' ∧ e = .returned (sL u.1 r u.2) ∧ (SlF u.1 r.length u.2) ∧ HF w' W' (LEn [ow u.1 u.2 107 zL r]) := by
 unfold Wu at H
 have leB := Bs.Le.refl w
 refine Tr.enter (n := 46) Tryz.func156 rfl rfl rfl hE ?_
 refine Tr.sr (Tr.asg rfl rfl (Tr.JU 1 107 zL ?_))
 show Tr _ _ (uf _ 10 (sL none (([] : List ze)) 0)) _ _
 refine Tr.nil (Tr.zA (Tr.sr (Tr.mv rfl rfl ?_)))
 obtain ⟨zy, Ws, H⟩ := bnd H
 refine Tr.VM [2] [emp] (U := (Option Addr × Nat)) (fun u => (sL u.1 zy u.2)) (fun u => SlF u.1 zy.length u.2) (fun u => [ow u.1 u.2 36 zK zy]) rfl (zQ rfl zf) (fun _ => rfl) (wn rfl) rfl Tryz.call29 (zI rfl zT) (fun W hW hp hE => zAa N p0 zC zD (zU.ext (hW.QM hp)) zy Ws hE) ?_
 intro u hu
 obtain ⟨QY, QX⟩ := u
 have gy100_0 := hu
 have zAR : SlF QY zy.length QX := gy100_0 --@phi
 show Tr _ _ (uf _ 15 (sL QY zy QX)) (up _ 2 (ow QY QX 36 zK zy)) _
 refine Tr.asg rfl rfl (Tr.nil (Tr.zA (Tr.seq (Tr.sr (Tr.mv rfl rfl (Tr.va rfl (fun _ _ a c => QJ zA8 (a.ev rfl)) ?_))))))
 refine Tr.mv rfl rfl (Tr.nil (Tr.zA (Tr.block (Tr.loop (σ := (List zS) × Int × (Option Addr) × Nat) (fun m w s => Jw N p1 p2 p3 p4 zy m s.1 s.2.1 = some r ∧ SlF s.2.2.1 s.1.length s.2.2.2) (fun s => [(1, iv p1), (2, iv p2), (3, iv p3), (4, iv p4), (11, sL s.2.2.1 s.1 s.2.2.2), (16, sL s.2.2.1 s.1 s.2.2.2), (17, iv (zy.length : Int)), (18, iv s.2.1)]) (fun s => [(2, ow s.2.2.1 s.2.2.2 36 zK s.1)]) N (zy, 0, QY, QX) ⟨H, zAR⟩ (.cons rfl (.cons rfl (.cons rfl (.cons rfl (.cons rfl (.cons rfl (.cons rfl (.cons rfl .nil)))))))) (.cons rfl .nil) (fun _ _ h => zA0 (h.1)) ?_))))
 intro w Qd mL1 s hs
 obtain ⟨zNg, zKh, zJb, zJN⟩ := s
 obtain ⟨H, zT8⟩ := hs
 replace H : Jw N p1 p2 p3 p4 zy (mL1 + 1) zNg zKh = some r := H
 replace leB := leB.trans Qd
 replace zT8 : SlF zJb zNg.length zJN := zT8
 rw [Jw.eq_2] at H
 show Tr _ _ (LF [(1, iv p1), (2, iv p2), (3, iv p3), (4, iv p4), (11, sL zJb zNg zJN), (16, sL zJb zNg zJN), (17, iv (zy.length : Int)), (18, iv zKh)]) (LE [(2, ow zJb zJN 36 zK zNg)]) _
 refine Tr.sr (Tr.va rfl (fun _ _ a c => QI (a.ev rfl) (a.ev rfl)) ?_)
 refine Tr.nil (Tr.zA (Tr.seq (Tr.cond rfl H (fun H => ?_) (fun H => ?_))))
 ·refine Tr.skip (Tr.zA (Tr.seq (Tr.block (Tr.sr (Tr.mv rfl rfl ?_)))))
  obtain ⟨Qk, zZr, H⟩ := bnd H
  obtain ⟨zVh, zVg, hx1182⟩ := zz zZr
  refine Tr.va rfl (fun _ _ a c => zM zCj (a.ev rfl) zT8 (a.ev rfl) zVh zVg) ?_
  refine Tr.va rfl (fun _ _ a c => zZ (cs := [iv Qk.X0, iv Qk.Y0, iv Qk.X1, iv Qk.Y1]) zBz Ku (a.ev rfl) (zR.take (rdo Vg (k := 2) c rfl hx1182) 4) rfl) ?_
  refine Tr.alloc 5 (wn rfl) rfl zD3 fun zYA => ?_
  refine Tr.asg rfl rfl (Tr.store 5 (cs := [iv Qk.X0, iv Qk.Y0, iv Qk.X1, iv Qk.Y1]) [iv Qk.X0, iv Qk.Y0, iv Qk.X1, iv Qk.Y1] (wn rfl) rfl rfl rfl rfl Ku rfl rfl rfl ?_)
  refine Tr.nil (Tr.zA (Tr.region (Tr.mv rfl rfl (Tr.mv rfl rfl (Tr.va rfl (fun _ _ a c => zB WR (a.ev rfl)) ?_)))))
  refine Tr.va rfl (fun _ _ a c => zF QH (a.ev rfl) (rdb c (vs := [iv Qk.X0, iv Qk.Y0, iv Qk.X1, iv Qk.Y1]) (k := 5) rfl 0) rfl) ?_
  refine Tr.mv rfl rfl (Tr.va rfl (fun _ _ a c => Wy (a.ev rfl) (a.ev rfl)) ?_)
  refine Tr.va rfl (fun _ _ a c => zB zAk (a.ev rfl)) ?_
  refine Tr.va rfl (fun _ _ a c => zF QH (a.ev rfl) (rdb c (vs := [iv Qk.X0, iv Qk.Y0, iv Qk.X1, iv Qk.Y1]) (k := 5) rfl 1) rfl) ?_
  refine Tr.mv rfl rfl (Tr.va rfl (fun _ _ a c => Wy (a.ev rfl) (a.ev rfl)) ?_)
  refine Tr.va rfl (fun _ _ a c => zB zC5 (a.ev rfl)) ?_
  refine Tr.va rfl (fun _ _ a c => zF QH (a.ev rfl) (rdb c (vs := [iv Qk.X0, iv Qk.Y0, iv Qk.X1, iv Qk.Y1]) (k := 5) rfl 2) rfl) ?_
  refine Tr.mv rfl rfl (Tr.va rfl (fun _ _ a c => QK (a.ev rfl) (a.ev rfl)) ?_)
  refine Tr.va rfl (fun _ _ a c => zB zDi (a.ev rfl)) ?_
  refine Tr.va rfl (fun _ _ a c => zF QH (a.ev rfl) (rdb c (vs := [iv Qk.X0, iv Qk.Y0, iv Qk.X1, iv Qk.Y1]) (k := 5) rfl 3) rfl) ?_
  refine Tr.mv rfl rfl (Tr.va rfl (fun _ _ a c => QK (a.ev rfl) (a.ev rfl)) ?_)
  refine Tr.build (vs := [(0, iv (w64 (Qk.X0 - p1))), (1, iv (w64 (Qk.Y0 - p3))), (2, iv (w64 (Qk.X1 + p2))), (3, iv (w64 (Qk.Y1 + p4)))]) (cs := [iv (w64 (Qk.X0 - p1)), iv (w64 (Qk.Y0 - p3)), iv (w64 (Qk.X1 + p2)), iv (w64 (Qk.Y1 + p4))]) (wn rfl) rfl (zq rfl (zq rfl (zq rfl (zq rfl Qi)))) (by kernel_rfl) ?_
  obtain ⟨zYX, zZq, H⟩ := bnd H
  obtain ⟨hx1200, hx1201, hx1202⟩ := zz zZq
  refine Tr.va rfl (fun _ _ a c => zM zCj (a.ev rfl) zT8 (a.ev rfl) hx1200 hx1201) ?_
  obtain ⟨zTp, zdY, H⟩ := bnd H
  have zSE := zG9 zdY
  refine Tr.zHj 2 (t := zK) (l := zNg) (i := zKh) (fo := 0) (cs := [iv (w64 (Qk.X0 - p1)), iv (w64 (Qk.Y0 - p3)), iv (w64 (Qk.X1 + p2)), iv (w64 (Qk.Y1 + p4))]) (zS.mk (w64 (Qk.X0 - p1)) (w64 (Qk.Y0 - p3)) (w64 (Qk.X1 + p2)) (w64 (Qk.Y1 + p4))) (wn rfl) rfl rfl rfl rfl rfl hx1202 Ku rfl (fun u _ => ⟨u, trivial, rfl⟩) rfl zdY ?_
  have zgq : SlF zJb zTp.length zJN := by rw [zSE]; exact zT8
  refine Tr.sel (lf := [(1, iv p1), (2, iv p2), (3, iv p3), (4, iv p4), (11, sL zJb zTp zJN), (12, iv zKh), (13, pV zYA), (16, sL zJb zTp zJN), (17, iv (zy.length : Int)), (18, iv zKh), (19, bV (decide (zKh < (zy.length : Int)))), (20, iv zKh), (22, .agg #[iv Qk.X0, iv Qk.Y0, iv Qk.X1, iv Qk.Y1]), (23, sL zJb zTp zJN), (24, iv zKh), (25, pV zYA), (26, iv Qk.X0), (27, iv p1), (28, iv (w64 (Qk.X0 - p1))), (29, .pointer (some ⟨zYA, 1, none⟩)), (30, iv Qk.Y0), (31, iv p3), (32, iv (w64 (Qk.Y0 - p3))), (33, .pointer (some ⟨zYA, 2, none⟩)), (34, iv Qk.X1), (35, iv p2), (36, iv (w64 (Qk.X1 + p2))), (37, .pointer (some ⟨zYA, 3, none⟩)), (38, iv Qk.Y1), (39, iv p4), (40, iv (w64 (Qk.Y1 + p4))), (41, .agg #[iv (w64 (Qk.X0 - p1)), iv (w64 (Qk.Y0 - p3)), iv (w64 (Qk.X1 + p2)), iv (w64 (Qk.Y1 + p4))])]) (le := [(2, ow zJb zJN 36 zK zTp), (5, bx zYA #[iv Qk.X0, iv Qk.Y0, iv Qk.X1, iv Qk.Y1] 36)]) (.cons rfl (.cons rfl (.cons rfl (.cons rfl (.cons (VK rfl (by unfold sL; rw [zSE])) (.cons rfl (.cons rfl (.cons (VK rfl (by unfold sL; rw [zSE])) (.cons rfl (.cons rfl (.cons rfl (.cons rfl (.cons rfl (.cons (VK rfl (by unfold sL; rw [zSE])) (.cons rfl (.cons rfl (.cons rfl (.cons rfl (.cons rfl (.cons rfl (.cons rfl (.cons rfl (.cons rfl (.cons rfl (.cons rfl (.cons rfl (.cons rfl (.cons rfl (.cons rfl (.cons rfl (.cons rfl (.cons rfl .nil)))))))))))))))))))))))))))))))) (.cons rfl (.cons rfl .nil)) ?_
  refine Tr.nil (Tr.zl (Tr.zA (Tr.region (Tr.va rfl (fun _ _ a c => QK (a.ev rfl) (a.ev rfl)) ?_))))
  exact Tr.mv rfl rfl (Tr.nil (Tr.zn Qd (zTp, (w64 (zKh + 1)), zJb, zJN) ⟨H, zgq⟩ (.cons rfl (.cons rfl (.cons rfl (.cons rfl (.cons rfl (.cons rfl (.cons rfl (.cons rfl .nil)))))))) (.cons rfl .nil)))
 ·refine Tr.exit (Tr.zk (Tr.zk (Tr.QV (Tr.zA (Tr.sr (Tr.mv rfl rfl ?_))))))
  obtain ⟨Kq, zPQ, H⟩ := bnd H
  refine Tr.VT [6] [emp] (U := (Option Addr × Nat)) (fun u => (sL u.1 Kq u.2)) (fun O W u => SlF u.1 Kq.length u.2) (fun u => [ow u.1 u.2 107 zL Kq]) rfl (zQ rfl zf) (fun _ => rfl) (wn rfl) rfl Tryz.call59 (zI rfl zT) (fun W hW hp hE => zBJ N zNg zJb zJN (hW.slS (k := 2) rfl hp rfl) Kq zPQ hE) ?_
  intro w u ziJ hu
  obtain ⟨Jk, KI⟩ := u
  have gy122_0 := hu
  replace leB := leB.trans ziJ
  have zJB : SlF Jk Kq.length KI := gy122_0 --@phi
  show Tr _ _ (uf _ 45 (sL Jk Kq KI)) (up _ 6 (ow Jk KI 107 zL Kq)) _
  refine Tr.asg rfl rfl (Tr.nil (Tr.zA (Tr.ret ?_)))
  obtain rfl := oI H
  exact Tr.out (m := [sL Jk Kq KI]) [] (zW rfl zX) (fun W hW => ⟨w, (Jk, KI), leB, rfl, zJB, hW.pick (ks := [6]) (by decide) (zQ rfl zf)⟩)

theorem zIX (N : Nat) {w : Bs} (p0 : (List ze)) (zC : Option Addr) (zD : Nat) (zU : Sl w.R w.W zL zC zD p0) (p1 : zJ) (p2 : zJ) (r : (List ze)) (H : zBc N p0 p1 p2 = some r) (hE : HF w w.W (LEn [emp])) : Calls Tryz.prog 126 [sL zC p0 zD, .agg #[iv p1.X, iv p1.Y], .agg #[iv p2.X, iv p2.Y]].toArray w.W fun e W' => ∃ (w' : Bs) (u : (Option Addr × Nat)), w.Le w' ∧ e = .returned (sL u.1 r u.2) ∧ (SlF u.1 r.length u.2) ∧ HF w' W' (LEn [ow u.1 u.2 107 zL r]) := by
 unfold zBc at H
 have leB := Bs.Le.refl w
 refine Tr.enter (n := 39) Tryz.func126 rfl rfl rfl hE ?_
 refine Tr.sr (Tr.box 1 (cs := [iv p1.X, iv p1.Y]) (wn rfl) rfl rfl rfl fun QE => ?_)
 refine Tr.box 2 (cs := [iv p2.X, iv p2.Y]) (wn rfl) rfl rfl rfl fun Qw => ?_
 refine Tr.asg rfl rfl (Tr.JU 3 107 zL ?_)
 show Tr _ _ (uf _ 6 (sL none (([] : List ze)) 0)) _ _
 refine Tr.nil (Tr.zA (Tr.seq (Tr.draw (by kernel_rfl) (by kernel_rfl) ?_)))
 refine Tq.va rfl (fun _ _ a c => zB Vm (a.ev rfl)) ?_
 refine Tq.va rfl (fun _ _ a c => zF QH (a.ev rfl) (rdb c (vs := [iv p1.X, iv p1.Y]) (k := 1) rfl 0) rfl) ?_
 refine Tq.va rfl (fun _ _ a c => zB Vm (a.ev rfl)) ?_
 refine Tq.va rfl (fun _ _ a c => zF QH (a.ev rfl) (rdb c (vs := [iv p2.X, iv p2.Y]) (k := 2) rfl 0) rfl) ?_
 refine Tq.va rfl (fun _ _ a c => zGY (a.ev rfl) (a.ev rfl) _) ?_
 refine Tq.va rfl (fun _ _ a c => zB VZ (a.ev rfl)) ?_
 refine Tq.va rfl (fun _ _ a c => zF QH (a.ev rfl) (rdb c (vs := [iv p1.X, iv p1.Y]) (k := 1) rfl 1) rfl) ?_
 refine Tq.va rfl (fun _ _ a c => zB VZ (a.ev rfl)) ?_
 refine Tq.va rfl (fun _ _ a c => zF QH (a.ev rfl) (rdb c (vs := [iv p2.X, iv p2.Y]) (k := 2) rfl 1) rfl) ?_
 refine Tq.va rfl (fun _ _ a c => zGY (a.ev rfl) (a.ev rfl) _) ?_
 refine Tq.va rfl (fun _ _ a c => zB Vm (a.ev rfl)) ?_
 refine Tq.va rfl (fun _ _ a c => zF QH (a.ev rfl) (rdb c (vs := [iv p1.X, iv p1.Y]) (k := 1) rfl 0) rfl) ?_
 refine Tq.va rfl (fun _ _ a c => zB Vm (a.ev rfl)) ?_
 refine Tq.va rfl (fun _ _ a c => zF QH (a.ev rfl) (rdb c (vs := [iv p2.X, iv p2.Y]) (k := 2) rfl 0) rfl) ?_
 refine Tq.va rfl (fun _ _ a c => zGZ (a.ev rfl) (a.ev rfl) _) ?_
 refine Tq.va rfl (fun _ _ a c => zB VZ (a.ev rfl)) ?_
 refine Tq.va rfl (fun _ _ a c => zF QH (a.ev rfl) (rdb c (vs := [iv p1.X, iv p1.Y]) (k := 1) rfl 1) rfl) ?_
 refine Tq.va rfl (fun _ _ a c => zB VZ (a.ev rfl)) ?_
 refine Tq.va rfl (fun _ _ a c => zF QH (a.ev rfl) (rdb c (vs := [iv p2.X, iv p2.Y]) (k := 2) rfl 1) rfl) ?_
 refine Tq.va rfl (fun _ _ a c => zGZ (a.ev rfl) (a.ev rfl) _) ?_
 refine Tq.asg rfl rfl (Tq.asg rfl rfl (Tq.asg rfl rfl (Tq.asg rfl rfl (Tq.nil (Tr.zA (Tr.sr (Tr.mv rfl rfl (Tr.mv rfl rfl (Tr.va rfl (fun _ _ a c => zWE (a.ev rfl)) ?_)))))))))
 refine Tr.mv rfl rfl (Tr.mv rfl rfl (Tr.va rfl (fun _ _ a c => zWE (a.ev rfl)) ?_))
 refine Tr.mv rfl rfl ?_
 obtain ⟨y102, hy102, H⟩ := bnd H
 refine Tr.VT [4] [emp] (U := (Option Addr × Nat)) (fun u => (sL u.1 y102 u.2)) (fun O W u => SlF u.1 y102.length u.2) (fun u => [ow u.1 u.2 107 zL y102]) rfl (zQ rfl zf) (fun _ => rfl) (wn rfl) rfl Tryz.call156 (zI rfl (zI rfl (zI rfl (zI rfl (zI rfl zT))))) (fun W hW hp hE => zIA N p0 zC zD (zU.ext (hW.QM hp)) (w64 (0 - (min p1.X p2.X))) (max p1.X p2.X) (w64 (0 - (min p1.Y p2.Y))) (max p1.Y p2.Y) y102 hy102 hE) ?_
 intro w u zQt hu
 obtain ⟨JK, JH⟩ := u
 have gy102_0 := hu
 replace leB := leB.trans zQt
 have zLZ : SlF JK y102.length JH := gy102_0 --@phi
 show Tr _ _ (uf _ 38 (sL JK y102 JH)) (up _ 4 (ow JK JH 107 zL y102)) _
 refine Tr.asg rfl rfl (Tr.nil (Tr.zA (Tr.ret ?_)))
 obtain rfl := oI H
 exact Tr.out (m := [sL JK y102 JH]) [] (zW rfl zX) (fun W hW => ⟨w, (JK, JH), leB, rfl, zLZ, hW.pick (ks := [4]) (by decide) (zQ rfl zf)⟩)

theorem zIC {w : Bs} (p0 : (List ze)) (zC : Option Addr) (zD : Nat) (zU : Sl w.R w.W zL zC zD p0) (r : zS) (H : Ww p0 = some r) (hE : HF w w.W E0) : Calls Tryz.prog 170 [sL zC p0 zD].toArray w.W fun e W' => e = .returned (.agg #[iv r.X0, iv r.Y0, iv r.X1, iv r.Y1]) ∧ HF w W' E0 := by
 unfold Ww at H
 have leB := Bs.Le.refl w
 refine Tr.enter (n := 58) Tryz.func170 rfl rfl rfl hE ?_
 refine Tr.sr (Tr.alloc 1 (wn rfl) rfl zD3 fun QE => ?_)
 refine Tr.nil (Tr.zA (Tr.seq ?_))
 obtain ⟨x102, hx102, H⟩ := bnd H
 obtain ⟨zVn, zVm, zVl⟩ := zz hx102
 obtain ⟨zdu, hRu103, zSB, hcu103⟩ := (zU).el zVl
 obtain ⟨zMC, zST⟩ := zdu
 obtain ⟨x104, hx104, H⟩ := bnd H
 obtain ⟨zPa, zPZ, zPY⟩ := zz hx104
 obtain ⟨x105, zZs, H⟩ := bnd H
 obtain ⟨zVk, zVj, zVi⟩ := zz zZs
 obtain ⟨zdt, hRu106, zR9, hcu106⟩ := (zU).el zVi
 obtain ⟨zOV, zOA⟩ := zdt
 obtain ⟨x107, zjz, H⟩ := bnd H
 obtain ⟨zgd, zgc, zgb⟩ := zz zjz
 obtain ⟨zmc, hRu108, zcQ, hcu108⟩ := (zU).el zgb
 obtain ⟨zOU, zW3⟩ := zmc
 obtain ⟨zQO, zjy, H⟩ := bnd H
 obtain ⟨zga, zgZ, zgY⟩ := zz zjy
 obtain ⟨zE4, zjx, H⟩ := bnd H
 obtain ⟨zgX, zgW, zgV⟩ := zz zjx
 obtain ⟨zmb, hRu111, zcP, hcu111⟩ := (zU).el zgV
 obtain ⟨zl3, zlq⟩ := zmb
 refine Tr.zan 25 [(24, .makeFunc (.func 0) #[] #[])] [(24, ⟨3, 2, .func (.func 0) #[] #[], fun b => pV b, fun b => bx b #[iv 0, iv 0, iv 0, iv 0] 36⟩)] [(0, sL zC p0 zD), (2, pV QE), (3, .func (.func 0) #[] #[]), (6, sL zC p0 zD), (7, .pointer (some ⟨adB zC, adO zC + ((0 : Int)).toNat * 3, none⟩)), (8, .pointer (some ⟨adB zC, adO zC + ((0 : Int)).toNat * 3 + 2, none⟩)), (9, sL zMC x102.Xs zST), (10, .pointer (some ⟨adB zMC, adO zMC + ((0 : Int)).toNat * 1, none⟩)), (11, iv x104), (12, sL zC p0 zD), (13, .pointer (some ⟨adB zC, adO zC + ((0 : Int)).toNat * 3, none⟩)), (14, .pointer (some ⟨adB zC, adO zC + ((0 : Int)).toNat * 3 + 0, none⟩)), (15, iv x105.Y0), (16, sL zC p0 zD), (17, .pointer (some ⟨adB zC, adO zC + ((0 : Int)).toNat * 3, none⟩)), (18, .pointer (some ⟨adB zC, adO zC + ((0 : Int)).toNat * 3 + 2, none⟩)), (19, sL zOU x107.Xs zW3), (20, .pointer (some ⟨adB zOU, adO zOU + ((1 : Int)).toNat * 1, none⟩)), (21, iv zQO), (22, sL zC p0 zD), (23, sL zC p0 zD), (24, iv (p0.length : Int)), (25, iv (w64 ((p0.length : Int) - 1))), (26, .pointer (some ⟨adB zC, adO zC + ((w64 ((p0.length : Int) - 1))).toNat * 3, none⟩)), (27, .pointer (some ⟨adB zC, adO zC + ((w64 ((p0.length : Int) - 1))).toNat * 3 + 1, none⟩)), (28, iv zE4.Y1), (29, .agg #[iv x104, iv x105.Y0, iv zQO, iv zE4.Y1])] (by kernel_rfl) (by kernel_rfl) (by kernel_rfl) (by kernel_rfl) (by kernel_rfl) (by kernel_rfl) (by kernel_rfl) (zCX (zUJ rfl rfl zD3) zDm) (zCX rfl zDm) (zCX rfl zDm) ?_ ?_
 ·refine Tq.mv rfl rfl ?_
  have zHK := zSB
  replace zHK : Sl w.R w.W QG zMC zST x102.Xs := zHK
  refine Tq.va rfl (fun _ _ a c => zM zCi (a.ev rfl) zU.form (a.ev rfl) zVn zVm) ?_
  refine Tq.va rfl (fun _ _ a c => zB zBB (a.ev rfl)) ?_
  refine Tq.va rfl (fun _ _ a c => zF zCx (a.ev rfl) (zR.drop (rdR hRu103 hcu103 c) 2) rfl) ?_
  refine Tq.va rfl (fun _ _ a c => zM zAl (a.ev rfl) zHK.form (a.ev rfl) zPa zPZ) ?_
  refine Tq.va rfl (fun _ _ a c => zF QH (a.ev rfl) (rdF Vx zHK zPY c) rfl) ?_
  refine Tq.mv rfl rfl ?_
  have zJx := zR9
  refine Tq.va rfl (fun _ _ a c => zM zCi (a.ev rfl) zU.form (a.ev rfl) zVk zVj) ?_
  refine Tq.va rfl (fun _ _ a c => zB zEn (a.ev rfl)) ?_
  refine Tq.va rfl (fun _ _ a c => zF QH (a.ev rfl) (zR.drop (rdR hRu106 hcu106 c) 0) rfl) ?_
  refine Tq.mv rfl rfl ?_
  have zJv := zcQ
  replace zJv : Sl w.R w.W QG zOU zW3 x107.Xs := zJv
  refine Tq.va rfl (fun _ _ a c => zM zCi (a.ev rfl) zU.form (a.ev rfl) zgd zgc) ?_
  refine Tq.va rfl (fun _ _ a c => zB zBB (a.ev rfl)) ?_
  refine Tq.va rfl (fun _ _ a c => zF zCx (a.ev rfl) (zR.drop (rdR hRu108 hcu108 c) 2) rfl) ?_
  refine Tq.va rfl (fun _ _ a c => zM zAl (a.ev rfl) zJv.form (a.ev rfl) zga zgZ) ?_
  refine Tq.va rfl (fun _ _ a c => zF QH (a.ev rfl) (rdF Vx zJv zgY c) rfl) ?_
  refine Tq.mv rfl rfl (Tq.mv rfl rfl (Tq.va rfl (fun _ _ a c => QJ zFD (a.ev rfl)) ?_))
  refine Tq.va rfl (fun _ _ a c => Wy (a.ev rfl) (a.ev rfl)) ?_
  have zhP := zcP
  refine Tq.va rfl (fun _ _ a c => zM zCi (a.ev rfl) zU.form (a.ev rfl) zgX zgW) ?_
  refine Tq.va rfl (fun _ _ a c => zB zCD (a.ev rfl)) ?_
  refine Tq.va rfl (fun _ _ a c => zF QH (a.ev rfl) (zR.drop (rdR hRu111 hcu111 c) 1) rfl) ?_
  refine Tq.build (vs := [(0, iv x104), (1, iv x105.Y0), (2, iv zQO), (3, iv zE4.Y1)]) (cs := [iv x104, iv x105.Y0, iv zQO, iv zE4.Y1]) (wn rfl) rfl (zq rfl (zq rfl (zq rfl (zq rfl Qi)))) (by kernel_rfl) ?_
  refine Tq.zE5 (vs := []) (wn rfl) rfl zT ?_
  exact Tq.fin (.cons rfl (.cons rfl (.cons rfl (.cons rfl (.cons rfl (.cons rfl (.cons rfl (.cons rfl (.cons rfl (.cons rfl (.cons rfl (.cons rfl (.cons rfl (.cons rfl (.cons rfl (.cons rfl (.cons rfl (.cons rfl (.cons rfl (.cons rfl (.cons rfl (.cons rfl (.cons rfl (.cons rfl (.cons rfl (.cons rfl (.cons rfl .nil)))))))))))))))))))))))))))
 ·intro bs101
  refine Tr.sel (lf := [(0, sL zC p0 zD), (2, pV QE), (3, .pointer (some ⟨(bs101 24), 0, none⟩)), (29, .agg #[iv x104, iv x105.Y0, iv zQO, iv zE4.Y1])]) (le := [(1, bx QE #[iv 0, iv 0, iv 0, iv 0] 36), (2, bx (bs101 24) #[iv 0, iv 0, iv 0, iv 0] 36)]) (.cons rfl (.cons rfl (.cons rfl (.cons rfl .nil)))) (.cons rfl (.cons rfl .nil)) ?_
  refine Tr.store 2 (cs := [iv x104, iv x105.Y0, iv zQO, iv zE4.Y1]) [iv x104, iv x105.Y0, iv zQO, iv zE4.Y1] (wn rfl) rfl rfl rfl rfl Ku rfl rfl rfl ?_
  refine Tr.nil (Tr.zA (Tr.seq (Tr.sr (Tr.mv rfl rfl (Tr.va rfl (fun _ _ a c => QJ zFD (a.ev rfl)) ?_)))))
  refine Tr.mv rfl rfl (Tr.nil (Tr.zA (Tr.block (Tr.loop (σ := (List ze) × Nat × Int × Int) (fun m w s => m = s.1.length + 1 ∧ s.1 = List.drop s.2.1 p0 ∧ s.2.1 ≤ p0.length ∧ Jz x105 zE4 s.1 s.2.1 s.2.2.1 s.2.2.2 = some r) (fun s => [(2, pV QE), (3, .pointer (some ⟨(bs101 24), 0, none⟩)), (30, sL zC p0 zD), (31, iv (p0.length : Int)), (32, iv (s.2.1 : Int))]) (fun s => [(1, bx QE #[iv 0, iv 0, iv 0, iv 0] 36), (2, bx (bs101 24) #[iv s.2.2.1, iv x105.Y0, iv s.2.2.2, iv zE4.Y1] 36)]) (p0.length + 1) (p0, 0, x104, zQO) ⟨rfl, rfl, Nat.zero_le _, H⟩ (.cons rfl (.cons rfl (.cons rfl (.cons rfl (.cons rfl .nil))))) (.cons rfl (.cons rfl .nil)) (fun _ _ h => absurd h.1 (by simp)) ?_))))
  intro w Qd m s hs
  obtain ⟨zY, iL1, zEc, zG7⟩ := s
  obtain ⟨Kj, QF, hiL1, H⟩ := hs
  replace QF : zY = List.drop iL1 p0 := QF
  replace H : Jz x105 zE4 zY iL1 zEc zG7 = some r := H
  replace Kj : m + 1 = zY.length + 1 := Kj
  replace zU := zU.leR Qd
  replace leB := leB.trans Qd
  obtain rfl : m = zY.length := by omega
  clear Kj
  show Tr _ _ (LF [(2, pV QE), (3, .pointer (some ⟨(bs101 24), 0, none⟩)), (30, sL zC p0 zD), (31, iv (p0.length : Int)), (32, iv (iL1 : Int))]) (LE [(1, bx QE #[iv 0, iv 0, iv 0, iv 0] 36), (2, bx (bs101 24) #[iv zEc, iv x105.Y0, iv zG7, iv zE4.Y1] 36)]) _
  cases zY with
  | nil =>
   rw [Jz.eq_1] at H
   refine Tr.sr (Tr.va rfl (fun _ _ a c => QI (a.ev rfl) (a.ev rfl)) ?_)
   refine Tr.nil (Tr.zA (Tr.seq (Tr.WL rfl (JS QF) ?_)))
   refine Tr.exit (Tr.zk (Tr.zk (Tr.QV (Tr.zA (Tr.sr (Tr.va rfl (fun _ _ a c => zZ (cs := [iv zEc, iv x105.Y0, iv zG7, iv zE4.Y1]) zBz Ku (a.ev rfl) (zR.take (rdb c (vs := [iv zEc, iv x105.Y0, iv zG7, iv zE4.Y1]) (k := 2) rfl 0) 4) rfl) ?_))))))
   refine Tr.store 1 (cs := [iv zEc, iv x105.Y0, iv zG7, iv zE4.Y1]) [iv zEc, iv x105.Y0, iv zG7, iv zE4.Y1] (wn rfl) rfl rfl rfl rfl Ku rfl rfl rfl ?_
   refine Tr.nil (Tr.zA (Tr.ret ?_))
   obtain rfl := oI H
   exact Tr.out (m := [.agg #[iv zEc, iv x105.Y0, iv zG7, iv zE4.Y1]]) [1] (Wq rfl rfl zBz Ku zX) (fun W hW => ⟨rfl, hW.low leB⟩)
  | cons xL1 zY =>
   rw [Jz.eq_2] at H
   refine Tr.sr (Tr.va rfl (fun _ _ a c => QI (a.ev rfl) (a.ev rfl)) ?_)
   refine Tr.nil (Tr.zA (Tr.seq (Tr.WK rfl (Jt QF) ?_)))
   refine Tr.skip (Tr.zA (Tr.seq (Tr.block (Tr.sr ?_))))
   obtain ⟨zmV, hRu135, zcI, hcu135⟩ := (zU).el (KL QF)
   obtain ⟨zB4, zC6⟩ := zmV
   have zFk := zcI
   replace zFk : Sl w.R w.W QG zB4 zC6 xL1.Xs := zFk
   refine Tr.va rfl (fun _ _ a c => zM zCi (a.ev rfl) zU.form (a.ev rfl) (Int.natCast_nonneg _) (QB QF)) ?_
   refine Tr.va rfl (fun _ _ a c => zZ (cs := [iv xL1.Y0, iv xL1.Y1, sL zB4 xL1.Xs zC6]) zSa zIt (a.ev rfl) (zR.take (rdR hRu135 hcu135 c) 3) rfl) ?_
   refine Tr.alloc 5 (wn rfl) rfl zUq fun zcq => ?_
   refine Tr.store 5 (cs := [iv xL1.Y0, iv xL1.Y1, sL zB4 xL1.Xs zC6]) [iv xL1.Y0, iv xL1.Y1, sL zB4 xL1.Xs zC6] (wn rfl) rfl rfl rfl rfl zIt rfl rfl rfl ?_
   refine Tr.nil (Tr.zA (Tr.zHS 20 [(19, fun x => x = (bs101 24))] [] (by kernel_rfl) (by kernel_rfl) fun zYn zkC zlZ => ?_))
   refine Dr.quiet 0 [(36, .pointer (some ⟨(bs101 24), 0, none⟩))] (by kernel_rfl) rfl rfl (by kernel_rfl) ?_ rfl rfl ?_
   ·refine Tq.va rfl (fun _ _ a c => zB WR (a.ev rfl)) ?_
    exact Tq.fin (.cons rfl .nil)
   refine Dr.quiet 1 [(37, iv zEc)] (by kernel_rfl) rfl rfl (by kernel_rfl) ?_ rfl rfl ?_
   ·refine Tq.va rfl (fun _ _ a c => zF QH (a.ev rfl) (rdb c (vs := [iv zEc, iv x105.Y0, iv zG7, iv zE4.Y1]) (k := 2) rfl 0) rfl) ?_
    exact Tq.fin (.cons rfl .nil)
   refine Dr.quiet 2 [(38, .pointer (some ⟨zcq, 2, none⟩))] (by kernel_rfl) rfl rfl (by kernel_rfl) ?_ rfl rfl ?_
   ·refine Tq.va rfl (fun _ _ a c => zB zBB (a.ev rfl)) ?_
    exact Tq.fin (.cons rfl .nil)
   refine Dr.quiet 3 [(39, sL zB4 xL1.Xs zC6)] (by kernel_rfl) rfl rfl (by kernel_rfl) ?_ rfl rfl ?_
   ·refine Tq.va rfl (fun _ _ a c => zF zCx (a.ev rfl) (rdb c (vs := [iv xL1.Y0, iv xL1.Y1, sL zB4 xL1.Xs zC6]) (k := 5) rfl 2) rfl) ?_
    exact Tq.fin (.cons rfl .nil)
   obtain ⟨zS0, zjl, H⟩ := bnd H
   obtain ⟨zf6, zf5, zf4⟩ := zz zjl
   refine Dr.quiet 4 [(40, .pointer (some ⟨adB zB4, adO zB4 + ((0 : Int)).toNat * 1, none⟩))] (by kernel_rfl) rfl rfl (by kernel_rfl) ?_ rfl rfl ?_
   ·refine Tq.va rfl (fun _ _ a c => zM zAl (a.ev rfl) zFk.form (a.ev rfl) zf6 zf5) ?_
    exact Tq.fin (.cons rfl .nil)
   refine Dr.quiet 5 [(41, iv zS0)] (by kernel_rfl) rfl rfl (by kernel_rfl) ?_ rfl rfl ?_
   ·refine Tq.va rfl (fun _ _ a c => zF QH (a.ev rfl) (rdF Vx zFk zf4 c) rfl) ?_
    exact Tq.fin (.cons rfl .nil)
   refine Dr.quiet 6 [(42, iv (min zEc zS0))] (by kernel_rfl) rfl rfl (by kernel_rfl) ?_ rfl rfl ?_
   ·refine Tq.va rfl (fun _ _ a c => zGY (a.ev rfl) (a.ev rfl) _) ?_
    exact Tq.fin (.cons rfl .nil)
   refine Dr.quiet 7 [(43, .pointer (some ⟨(bs101 24), 2, none⟩))] (by kernel_rfl) rfl rfl (by kernel_rfl) ?_ rfl rfl ?_
   ·refine Tq.va rfl (fun _ _ a c => zB zC5 (a.ev rfl)) ?_
    exact Tq.fin (.cons rfl .nil)
   refine Dr.quiet 8 [(44, iv zG7)] (by kernel_rfl) rfl rfl (by kernel_rfl) ?_ rfl rfl ?_
   ·refine Tq.va rfl (fun _ _ a c => zF QH (a.ev rfl) (rdb c (vs := [iv zEc, iv x105.Y0, iv zG7, iv zE4.Y1]) (k := 2) rfl 2) rfl) ?_
    exact Tq.fin (.cons rfl .nil)
   refine Dr.KM 9 (by kernel_rfl) rfl (wn rfl) rfl (by kernel_rfl) (fun _ _ a => zB zBB (a.ev rfl)) rfl ?_
   refine Dr.We 10 [(46, sL zB4 xL1.Xs zC6)] [19] false (by kernel_rfl) rfl rfl (by kernel_rfl) (fun W W' c hsW hk => HF.zBv (le := [(5, bx zcq #[iv xL1.Y0, iv xL1.Y1, sL zB4 xL1.Xs zC6] 107)]) (ks := [(2, fun x => x = (bs101 24))]) (s0 := zYn) false c hk (fun h => absurd h (by decide)) (.cons rfl .nil) (fun b hb => hb.elim (fun ⟨p, hp, hf, hb⟩ => by simp only [List.mem_cons, List.not_mem_nil, or_false] at hp; rcases hp with rfl; exact .inl ⟨_, List.mem_cons_self, hb⟩) (fun hb => absurd hb.1 (by decide))) (List.forall_mem_cons.2 ⟨fun b hb => hb, (fun _ h => nomatch h)⟩) rfl) ?_ rfl rfl ?_
   ·refine Tq.va rfl (fun _ _ a c => zF zCx (a.ev rfl) (rdb c (vs := [iv xL1.Y0, iv xL1.Y1, sL zB4 xL1.Xs zC6]) (k := 5) rfl 2) rfl) ?_
    exact Tq.fin (.cons rfl .nil)
   refine Dr.KM 11 (by kernel_rfl) rfl (wn rfl) rfl (by kernel_rfl) (fun _ _ a => zB zBB (a.ev rfl)) rfl ?_
   refine Dr.We 12 [(48, sL zB4 xL1.Xs zC6)] [19] false (by kernel_rfl) rfl rfl (by kernel_rfl) (fun W W' c hsW hk => HF.zBv (le := [(5, bx zcq #[iv xL1.Y0, iv xL1.Y1, sL zB4 xL1.Xs zC6] 107)]) (ks := [(2, fun x => x = (bs101 24))]) (s0 := zYn) false c hk (fun h => absurd h (by decide)) (.cons rfl .nil) (fun b hb => hb.elim (fun ⟨p, hp, hf, hb⟩ => by simp only [List.mem_cons, List.not_mem_nil, or_false] at hp; rcases hp with rfl; exact .inl ⟨_, List.mem_cons_self, hb⟩) (fun hb => absurd hb.1 (by decide))) (List.forall_mem_cons.2 ⟨fun b hb => hb, (fun _ h => nomatch h)⟩) rfl) ?_ rfl rfl ?_
   ·refine Tq.va rfl (fun _ _ a c => zF zCx (a.ev rfl) (rdb c (vs := [iv xL1.Y0, iv xL1.Y1, sL zB4 xL1.Xs zC6]) (k := 5) rfl 2) rfl) ?_
    exact Tq.fin (.cons rfl .nil)
   refine Dr.KM 13 (by kernel_rfl) rfl (wn rfl) rfl (by kernel_rfl) (fun _ _ a => QJ zCg (a.ev rfl)) rfl ?_
   refine Dr.KM 14 (by kernel_rfl) rfl (wn rfl) rfl (by kernel_rfl) (fun _ _ a => Wy (a.ev rfl) (a.ev rfl)) rfl ?_
   obtain ⟨zKg, zjk, H⟩ := bnd H
   obtain ⟨zf3, zf2, zf1⟩ := zz zjk
   refine Dr.KM 15 (by kernel_rfl) rfl (wn rfl) rfl (by kernel_rfl) (fun _ _ a => zM zAl (a.ev rfl) zFk.form (a.ev rfl) zf3 zf2) rfl ?_
   refine Dr.We 16 [(52, iv zKg)] [19] false (by kernel_rfl) rfl rfl (by kernel_rfl) (fun W W' c hsW hk => HF.zBv (le := []) (ks := [(2, fun x => x = (bs101 24))]) (s0 := zYn) false c hk (fun h => absurd h (by decide)) .nil (fun b hb => hb.elim (fun ⟨p, hp, hf, hb⟩ => by simp only [List.mem_cons, List.not_mem_nil, or_false] at hp; rcases hp with rfl; exact .inl ⟨_, List.mem_cons_self, hb⟩) (fun hb => absurd hb.1 (by decide))) (List.forall_mem_cons.2 ⟨fun b hb => hb, (fun _ h => nomatch h)⟩) rfl) ?_ rfl rfl ?_
   ·refine Tq.va rfl (fun _ _ a c => zF QH (a.ev rfl) (rdF Vx zFk zf1 c) rfl) ?_
    exact Tq.fin (.cons rfl .nil)
   refine Dr.KM 17 (by kernel_rfl) rfl (wn rfl) rfl (by kernel_rfl) (fun _ _ a => zGZ (a.ev rfl) (a.ev rfl) _) rfl ?_
   refine Dr.quiet 18 [(54, .pointer (some ⟨(bs101 24), 0, none⟩))] (by kernel_rfl) rfl rfl (by kernel_rfl) ?_ rfl rfl ?_
   ·refine Tq.va rfl (fun _ _ a c => zB WR (a.ev rfl)) ?_
    exact Tq.fin (.cons rfl .nil)
   refine Dr.one 19 (by kernel_rfl) ?_
   refine St.store 19 2 (cs := [iv (min zEc zS0)]) [iv (min zEc zS0), iv x105.Y0, iv zG7, iv zE4.Y1] rfl (wn rfl) (.inl ⟨_, List.mem_cons_self, rfl, rfl⟩) rfl rfl rfl rfl zKQ rfl rfl rfl ?_
   refine Dr.tail (by kernel_rfl) ?_
   refine Tr.va rfl (fun _ _ a c => zB zC5 (a.ev rfl)) ?_
   refine Tr.store 2 (cs := [iv (max zG7 zKg)]) [iv (min zEc zS0), iv x105.Y0, iv (max zG7 zKg), iv zE4.Y1] (wn rfl) rfl rfl rfl rfl zKQ rfl rfl rfl ?_
   refine Tr.nil (Tr.zl (Tr.zA (Tr.region (Tr.va rfl (fun _ _ a c => QK (a.ev rfl) (a.ev rfl)) ?_))))
   exact Tr.mv rfl rfl (Tr.nil (Tr.zn Qd (zY, (iL1 + 1), (min zEc zS0), (max zG7 zKg)) ⟨rfl, Qu QF, QB QF, H⟩ (.cons rfl (.cons rfl (.cons rfl (.cons rfl (.cons (congrArg (fun z => some (Value.int .i64 z)) (Qt QF zU.form)) .nil))))) (.cons rfl (.cons rfl .nil))))

theorem zGn {w : Bs} (p0 : zS) (r : Bool) (H : zBI p0 = some r) (hE : HF w w.W E0) : Calls Tryz.prog 108 [.agg #[iv p0.X0, iv p0.Y0, iv p0.X1, iv p0.Y1]].toArray w.W fun e W' => e = .returned (bV r) ∧ HF w W' E0 := by
 unfold zBI at H
 have leB := Bs.Le.refl w
 refine Tr.enter (n := 21) Tryz.func108 rfl rfl rfl hE ?_
 refine Tr.sr (Tr.box 1 (cs := [iv p0.X0, iv p0.Y0, iv p0.X1, iv p0.Y1]) (wn rfl) rfl rfl rfl fun QE => ?_)
 refine Tr.asg rfl rfl (Tr.nil (Tr.zA (Tr.sr (Tr.va rfl (fun _ _ a c => zB WR (a.ev rfl)) ?_))))
 refine Tr.va rfl (fun _ _ a c => zF QH (a.ev rfl) (rdb c (vs := [iv p0.X0, iv p0.Y0, iv p0.X1, iv p0.Y1]) (k := 1) rfl 0) rfl) ?_
 obtain ⟨y101, hy101, H⟩ := bnd H
 refine Tr.JI (r := (bV y101)) (wn rfl) rfl Tryz.call129 (zI rfl zT) (fun W hW => zAi p0.X0 y101 hy101 (HF.start _)) ?_
 refine Tr.mv rfl rfl ?_
 obtain ⟨zJF, zCC, H⟩ := bnd H
 refine Tr.Vr 4 [(1, pV QE), (10, bV zJF)] [(1, bx QE #[iv p0.X0, iv p0.Y0, iv p0.X1, iv p0.Y1] 36)] ?_ ?_
 ·cases zF8 : y101
  ·rw [zF8] at zCC
   rw [if_neg (by decide)] at zCC
   have H := zCC
   obtain rfl := oI H
   refine Tr.pass rfl rfl rfl rfl rfl (by decide) ?_
   refine Tr.pass rfl rfl rfl rfl rfl (by decide) ?_
   refine Tr.pass rfl rfl rfl rfl rfl (by decide) ?_
   refine Tr.va rfl (fun _ _ a c => zx (a.ev rfl) (a.ev rfl)) ?_
   exact Tr.nil (Tr.JM (.cons rfl (.cons rfl .nil)) (.cons rfl .nil))
  ·rw [zF8] at zCC
   rw [if_pos rfl] at zCC
   have H := zCC
   refine Tr.val (wg rfl rfl rfl) rfl (fun _ _ a c => zB zAk (a.ev rfl)) ?_
   refine Tr.val (wg rfl rfl rfl) rfl (fun _ _ a c => zF QH (a.ev rfl) (rdb c (vs := [iv p0.X0, iv p0.Y0, iv p0.X1, iv p0.Y1]) (k := 1) rfl 1) rfl) ?_
   obtain ⟨y104, hy104, H⟩ := bnd H
   refine Tr.JI (r := (bV y104)) (wg rfl rfl rfl) rfl Tryz.call129 (zI rfl zT) (fun W hW => zAi p0.Y0 y104 hy104 (HF.start _)) ?_
   refine Tr.va rfl (fun _ _ a c => zw (a.ev rfl) (a.ev rfl)) ?_
   obtain rfl := oI H
   exact Tr.nil (Tr.JM (.cons rfl (.cons rfl .nil)) (.cons rfl .nil))
 ·show Tr _ _ (LF [(1, pV QE), (10, bV zJF)]) (LE [(1, bx QE #[iv p0.X0, iv p0.Y0, iv p0.X1, iv p0.Y1] 36)]) _
  refine Tr.mv rfl rfl ?_
  obtain ⟨zae, zF9, H⟩ := bnd H
  refine Tr.Vr 4 [(1, pV QE), (15, bV zae)] [(1, bx QE #[iv p0.X0, iv p0.Y0, iv p0.X1, iv p0.Y1] 36)] ?_ ?_
  ·cases zF8 : zJF
   ·rw [zF8] at zF9
    rw [if_neg (by decide)] at zF9
    have H := zF9
    obtain rfl := oI H
    refine Tr.pass rfl rfl rfl rfl rfl (by decide) ?_
    refine Tr.pass rfl rfl rfl rfl rfl (by decide) ?_
    refine Tr.pass rfl rfl rfl rfl rfl (by decide) ?_
    refine Tr.va rfl (fun _ _ a c => zx (a.ev rfl) (a.ev rfl)) ?_
    exact Tr.nil (Tr.JM (.cons rfl (.cons rfl .nil)) (.cons rfl .nil))
   ·rw [zF8] at zF9
    rw [if_pos rfl] at zF9
    have H := zF9
    refine Tr.val (wg rfl rfl rfl) rfl (fun _ _ a c => zB zC5 (a.ev rfl)) ?_
    refine Tr.val (wg rfl rfl rfl) rfl (fun _ _ a c => zF QH (a.ev rfl) (rdb c (vs := [iv p0.X0, iv p0.Y0, iv p0.X1, iv p0.Y1]) (k := 1) rfl 2) rfl) ?_
    obtain ⟨zDB, zTz, H⟩ := bnd H
    refine Tr.JI (r := (bV zDB)) (wg rfl rfl rfl) rfl Tryz.call129 (zI rfl zT) (fun W hW => zAi p0.X1 zDB zTz (HF.start _)) ?_
    refine Tr.va rfl (fun _ _ a c => zw (a.ev rfl) (a.ev rfl)) ?_
    obtain rfl := oI H
    exact Tr.nil (Tr.JM (.cons rfl (.cons rfl .nil)) (.cons rfl .nil))
  ·show Tr _ _ (LF [(1, pV QE), (15, bV zae)]) (LE [(1, bx QE #[iv p0.X0, iv p0.Y0, iv p0.X1, iv p0.Y1] 36)]) _
   refine Tr.mv rfl rfl ?_
   obtain ⟨zQX, zHO, H⟩ := bnd H
   refine Tr.Vr 4 [(20, bV zQX)] [(1, bx QE #[iv p0.X0, iv p0.Y0, iv p0.X1, iv p0.Y1] 36)] ?_ ?_
   ·cases zF8 : zae
    ·rw [zF8] at zHO
     rw [if_neg (by decide)] at zHO
     have H := zHO
     obtain rfl := oI H
     refine Tr.pass rfl rfl rfl rfl rfl (by decide) ?_
     refine Tr.pass rfl rfl rfl rfl rfl (by decide) ?_
     refine Tr.pass rfl rfl rfl rfl rfl (by decide) ?_
     refine Tr.va rfl (fun _ _ a c => zx (a.ev rfl) (a.ev rfl)) ?_
     exact Tr.nil (Tr.JM (.cons rfl .nil) (.cons rfl .nil))
    ·rw [zF8] at zHO
     rw [if_pos rfl] at zHO
     have H := zHO
     refine Tr.val (wg rfl rfl rfl) rfl (fun _ _ a c => zB zDi (a.ev rfl)) ?_
     refine Tr.val (wg rfl rfl rfl) rfl (fun _ _ a c => zF QH (a.ev rfl) (rdb c (vs := [iv p0.X0, iv p0.Y0, iv p0.X1, iv p0.Y1]) (k := 1) rfl 3) rfl) ?_
     obtain ⟨zAc, zI7, H⟩ := bnd H
     refine Tr.JI (r := (bV zAc)) (wg rfl rfl rfl) rfl Tryz.call129 (zI rfl zT) (fun W hW => zAi p0.Y1 zAc zI7 (HF.start _)) ?_
     refine Tr.va rfl (fun _ _ a c => zw (a.ev rfl) (a.ev rfl)) ?_
     obtain rfl := oI H
     exact Tr.nil (Tr.JM (.cons rfl .nil) (.cons rfl .nil))
   ·show Tr _ _ (LF [(20, bV zQX)]) (LE [(1, bx QE #[iv p0.X0, iv p0.Y0, iv p0.X1, iv p0.Y1] 36)]) _
    refine Tr.asg rfl rfl (Tr.nil (Tr.zA (Tr.ret ?_)))
    obtain rfl := oI H
    exact Tr.out (m := [bV zQX]) [] (zW rfl zX) (fun W hW => ⟨rfl, hW.low leB⟩)

theorem zJV {w : Bs} (p0 : (List ze)) (zC : Option Addr) (zD : Nat) (zU : Sl w.R w.W zL zC zD p0) (r : Bool) (H : zAs p0 = some r) (hE : HF w w.W E0) : Calls Tryz.prog 154 [sL zC p0 zD].toArray w.W fun e W' => e = .returned (bV r) ∧ HF w W' E0 := by
 unfold zAs at H
 have leB := Bs.Le.refl w
 refine Tr.enter (n := 11) Tryz.func154 rfl rfl rfl hE ?_
 refine Tr.sr (Tr.asg rfl rfl (Tr.nil (Tr.zA (Tr.sr (Tr.mv rfl rfl (Tr.va rfl (fun _ _ a c => QJ zFD (a.ev rfl)) ?_))))))
 refine Tr.va rfl (fun _ _ a c => Qn (a.ev rfl) (a.ev rfl)) ?_
 refine Tr.mv rfl rfl ?_
 obtain ⟨zQY, zHP, H⟩ := bnd H
 refine Tr.Vr 4 [(10, bV zQY)] [] ?_ ?_
 ·cases zNN : ((p0.length : Int) == 0)
  ·rw [zNN] at zHP
   rw [if_neg (by decide)] at zHP
   have H := zHP
   refine Tr.val (wg rfl rfl rfl) rfl (fun _ _ a c => run_move (a.ev rfl)) ?_
   obtain ⟨zo, zDf, H⟩ := bnd H
   refine Tr.JI (r := (.agg #[iv zo.X0, iv zo.Y0, iv zo.X1, iv zo.Y1])) (wg rfl rfl rfl) rfl Tryz.call170 (zI rfl zT) (fun W hW => zIC p0 zC zD (zU.ext hW.Qx) zo zDf (HF.start _)) ?_
   obtain ⟨y104, hy104, H⟩ := bnd H
   refine Tr.JI (r := (bV y104)) (wg rfl rfl rfl) rfl Tryz.call108 (zI rfl zT) (fun W hW => zGn zo y104 hy104 (HF.start _)) ?_
   refine Tr.va rfl (fun _ _ a c => zx (a.ev rfl) (a.ev rfl)) ?_
   obtain rfl := oI H
   exact Tr.nil (Tr.JM (.cons rfl .nil) .nil)
  ·rw [zNN] at zHP
   rw [if_pos rfl] at zHP
   have H := zHP
   obtain rfl := oI H
   refine Tr.pass rfl rfl rfl rfl rfl (by decide) ?_
   refine Tr.pass rfl rfl rfl rfl rfl (by decide) ?_
   refine Tr.pass rfl rfl rfl rfl rfl (by decide) ?_
   refine Tr.va rfl (fun _ _ a c => zw (a.ev rfl) (a.ev rfl)) ?_
   exact Tr.nil (Tr.JM (.cons rfl .nil) .nil)
 ·show Tr _ _ (LF [(10, bV zQY)]) (LE []) _
  refine Tr.asg rfl rfl (Tr.nil (Tr.zA (Tr.ret ?_)))
  obtain rfl := oI H
  exact Tr.out (m := [bV zQY]) [] (zW rfl zX) (fun W hW => ⟨rfl, hW.low leB⟩)

theorem zGH {w : Bs} (p0 : (List ze)) (zC : Option Addr) (zD : Nat) (zU : Sl w.O w.W zL zC zD p0) (p1 : Int) (p2 : Int) (r : ((List Int) × Int)) (H : zAf p0 p1 p2 = some r) (hE : HF w w.W (LEn [])) : Calls Tryz.prog 90 [sL zC p0 zD, iv p1, iv p2].toArray w.W fun e W' => ∃ (w' : Bs) (u : (Option Addr × Nat)), w.Le w' ∧ e = .returned (.tuple #[sL u.1 r.1 u.2, iv r.2]) ∧ (Sl w'.O w'.W QG u.1 u.2 r.1) ∧ HF w' W' (LEn []) := by
 unfold zAf at H
 have leB := Bs.Le.refl w
 refine Tr.enter (n := 36) Tryz.func90 rfl rfl rfl hE ?_
 refine Tr.sr (Tr.asg rfl rfl (Tr.JU 1 3 QG ?_))
 show Tr _ _ (uf _ 6 (sL none (([] : List Int)) 0)) _ _
 refine Tr.asg rfl rfl (Tr.nil (Tr.zA (Tr.seq (Tr.block (Tr.sr (Tr.mv rfl rfl (Tr.va rfl (fun _ _ a c => QJ zFD (a.ev rfl)) ?_)))))))
 refine Tr.va rfl (fun _ _ a c => Qn (a.ev rfl) (a.ev rfl)) ?_
 refine Tr.asg rfl rfl (Tr.nil (Tr.zA (Tr.cond rfl H (fun H => ?_) (fun H => ?_))))
 ·refine Tr.sr (Tr.mv rfl rfl (Tr.asg rfl rfl (Tr.JU 2 3 QG ?_)))
  show Tr _ _ (uf _ 6 (sL none (([] : List Int)) 0)) _ _
  refine Tr.asg rfl rfl (Tr.nil (Tr.zA (Tr.ret (Tr.QT (Tr.zi ?_)))))
  obtain rfl := oI H
  refine Tr.freeze 2 rfl fun w zAQ ziP => ?_
  replace leB := leB.trans zAQ
  exact Tr.out (m := [sL none (([] : List Int)) 0, iv p2]) [] (zW rfl (zW rfl zX)) (fun W hW => ⟨w, (none, 0), leB, rfl, ziP, hW.pick (ks := []) (by decide) zf⟩)
 ·refine Tr.sr (Tr.mv rfl rfl (Tr.mv rfl rfl ?_))
  obtain ⟨x102, hx102, H⟩ := bnd H
  obtain ⟨zVn, zVm, zVl⟩ := zz hx102
  obtain ⟨zdu, hRu103, zSB, hcu103⟩ := (zU).el zVl
  obtain ⟨zMC, zST⟩ := zdu
  have zHK := zSB
  replace hRu103 : w.R (adB zC) := Or.inl hRu103
  refine Tr.va rfl (fun _ _ a c => zM zCi (a.ev rfl) zU.form (a.ev rfl) zVn zVm) ?_
  refine Tr.va rfl (fun _ _ a c => zB zEn (a.ev rfl)) ?_
  refine Tr.va rfl (fun _ _ a c => zF QH (a.ev rfl) (zR.drop (rdR hRu103 hcu103 c) 0) rfl) ?_
  refine Tr.va rfl (fun _ _ a c => QI (a.ev rfl) (a.ev rfl)) ?_
  refine Tr.asg rfl rfl (Tr.nil (Tr.zA (Tr.cond rfl H (fun H => ?_) (fun H => ?_))))
  ·refine Tr.seq (Tr.draw (by kernel_rfl) (by kernel_rfl) ?_)
   refine Tq.mv rfl rfl (Tq.mv rfl rfl ?_)
   obtain ⟨x104, hx104, H⟩ := bnd H
   obtain ⟨zPa, zPZ, zPY⟩ := zz hx104
   obtain ⟨u105, hRu105, zSA, hcu105⟩ := (zU).el zPY
   obtain ⟨zOW, zOB⟩ := u105
   have zJy := zSA
   replace hRu105 : w.R (adB zC) := Or.inl hRu105
   refine Tq.va rfl (fun _ _ a c => zM zCi (a.ev rfl) zU.form (a.ev rfl) zPa zPZ) ?_
   refine Tq.va rfl (fun _ _ a c => zB zEn (a.ev rfl)) ?_
   refine Tq.va rfl (fun _ _ a c => zF QH (a.ev rfl) (zR.drop (rdR hRu105 hcu105 c) 0) rfl) ?_
   refine Tq.va rfl (fun _ _ a c => zGY (a.ev rfl) (a.ev rfl) _) ?_
   refine Tq.asg rfl rfl (Tq.asg rfl rfl (Tq.nil (Tr.zA (Tr.ret (Tr.QT (Tr.zi ?_))))))
   obtain rfl := oI H
   exact Tr.out (m := [.slice none 0 0, iv (min p2 x104.Y0)]) [] (zW rfl (zW rfl zX)) (fun W hW => ⟨w, (none, 0), leB, rfl, (Sl.nil _ _ _), hW.pick (ks := []) (by decide) zf⟩)
  ·refine Tr.skip (Tr.zl (Tr.zA (Tr.seq (Tr.draw (by kernel_rfl) (by kernel_rfl) ?_))))
   refine Tq.mv rfl rfl ?_
   obtain ⟨zbb, zj0, H⟩ := bnd H
   obtain ⟨zgg, zgf, zge⟩ := zz zj0
   obtain ⟨zds, hRu107, zR8, hcu107⟩ := (zU).el zge
   obtain ⟨zDA, zC7⟩ := zds
   have zEI := zR8
   replace zEI : Sl w.O w.W QG zDA zC7 zbb.Xs := zEI
   replace hRu107 : w.R (adB zC) := Or.inl hRu107
   refine Tq.va rfl (fun _ _ a c => zM zCi (a.ev rfl) zU.form (a.ev rfl) zgg zgf) ?_
   refine Tq.va rfl (fun _ _ a c => zB zBB (a.ev rfl)) ?_
   refine Tq.va rfl (fun _ _ a c => zF zCx (a.ev rfl) (zR.drop (rdR hRu107 hcu107 c) 2) rfl) ?_
   refine Tq.mv rfl rfl (Tq.mv rfl rfl ?_)
   obtain ⟨zEd, zT1, H⟩ := bnd H
   obtain ⟨zPX, zPW, zPV⟩ := zz zT1
   obtain ⟨zdr, hRu109, zR7, hcu109⟩ := (zU).el zPV
   obtain ⟨zOT, zN9⟩ := zdr
   have zJu := zR7
   replace hRu109 : w.R (adB zC) := Or.inl hRu109
   refine Tq.va rfl (fun _ _ a c => zM zCi (a.ev rfl) zU.form (a.ev rfl) zPX zPW) ?_
   refine Tq.va rfl (fun _ _ a c => zB zCD (a.ev rfl)) ?_
   refine Tq.va rfl (fun _ _ a c => zF QH (a.ev rfl) (zR.drop (rdR hRu109 hcu109 c) 1) rfl) ?_
   refine Tq.va rfl (fun _ _ a c => zGY (a.ev rfl) (a.ev rfl) _) ?_
   refine Tq.asg rfl rfl (Tq.asg rfl rfl (Tq.nil (Tr.zA (Tr.ret ?_))))
   obtain rfl := oI H
   exact Tr.out (m := [sL zDA zbb.Xs zC7, iv (min p2 zEd.Y1)]) [] (zW rfl (zW rfl zX)) (fun W hW => ⟨w, (zDA, zC7), leB, rfl, zEI, hW.pick (ks := []) (by decide) zf⟩)

theorem zNk (N : Nat) {w : Bs} (p0 : (List Int)) (zC : Option Addr) (zD : Nat) (zU : Sl w.R w.W QG zC zD p0) (p1 : (List Int)) (zh : Option Addr) (zg : Nat) (Qh : Sl w.R w.W QG zh zg p1) (p2 : Bool → Bool → Option Bool) (fid2 : Nat) (cap2 : List Value) (hg2 : ∀ args W, (callFunc fid2 args).run Tryz.prog W = .ok (.enter fid2 args) W) (hf2 : ∀ (w' : Bs), w.Ext w' → ∀ (z0 : Bool) (z1 : Bool), ∀ y, p2 z0 z1 = some y → Calls Tryz.prog fid2 (([bV z0, bV z1] : List Value) ++ cap2).toArray w'.W fun e W'' => e = .returned (bV y) ∧ HF w' W'' E0) (r : (List Int)) (H : zDt N p0 p1 p2 = some r) (hE : HF w w.W (LEn [emp])) : Calls Tryz.prog 91 [sL zC p0 zD, sL zh p1 zg, .func (.func fid2) #[] cap2.toArray].toArray w.W fun e W' => ∃ u : (Option Addr × Nat), e = .returned (sL u.1 r u.2) ∧ (SlF u.1 r.length u.2) ∧ HF w W' (LEn [ow u.1 u.2 3 QG r]) := by
 unfold zDt at H
 have leB := Bs.Le.refl w
 refine Tr.enter (n := 85) Tryz.func91 rfl rfl rfl hE ?_
 refine Tr.sr (Tr.asg rfl rfl (Tr.JU 1 3 QG ?_))
 show Tr _ _ (uf _ 6 (sL none (([] : List Int)) 0)) _ _
 refine Tr.nil (Tr.zA (Tr.sr (Tr.asg rfl rfl (Tr.JU 2 3 QG ?_))))
 show Tr _ _ (uf _ 7 (sL none (([] : List Int)) 0)) _ _
 refine Tr.nil (Tr.zA (Tr.sr (Tr.asg rfl rfl (Tr.asg rfl rfl (Tr.asg rfl rfl (Tr.nil (Tr.zA (Tr.seq (Tr.block (Tr.loop (σ := (List Int) × (List Int) × (List Int) × Bool × Bool × Bool × (Option Addr) × Nat × (Option Addr) × Nat × (Option Addr) × Nat) (fun m w s => Qr p2 m s.1 s.2.1 s.2.2.1 s.2.2.2.1 s.2.2.2.2.1 s.2.2.2.2.2.1 = some r ∧ Sl w.R w.W QG s.2.2.2.2.2.2.1 s.2.2.2.2.2.2.2.1 s.1 ∧ Sl w.R w.W QG s.2.2.2.2.2.2.2.2.1 s.2.2.2.2.2.2.2.2.2.1 s.2.1 ∧ SlF s.2.2.2.2.2.2.2.2.2.2.1 s.2.2.1.length s.2.2.2.2.2.2.2.2.2.2.2) (fun s => [(0, sL s.2.2.2.2.2.2.1 s.1 s.2.2.2.2.2.2.2.1), (1, sL s.2.2.2.2.2.2.2.2.1 s.2.1 s.2.2.2.2.2.2.2.2.2.1), (2, .func (.func fid2) #[] cap2.toArray), (7, sL s.2.2.2.2.2.2.2.2.2.2.1 s.2.2.1 s.2.2.2.2.2.2.2.2.2.2.2), (8, bV s.2.2.2.1), (9, bV s.2.2.2.2.1), (10, bV s.2.2.2.2.2.1)]) (fun s => [(2, ow s.2.2.2.2.2.2.2.2.2.2.1 s.2.2.2.2.2.2.2.2.2.2.2 3 QG s.2.2.1)]) N (p0, p1, ([] : List Int), false, false, false, zC, zD, zh, zg, none, 0) ⟨H, zU, Qh, Kk⟩ (.cons rfl (.cons rfl (.cons rfl (.cons rfl (.cons rfl (.cons rfl (.cons rfl .nil))))))) (.cons rfl .nil) (fun _ _ h => zA0 (h.1)) ?_))))))))))
 intro w zIi mL7 s hs
 obtain ⟨Vu, zAJ, WQ, zA3, zDY, zB9, zA2, zAo, zC3, zCk, zAH, zAD⟩ := s
 obtain ⟨H, zEk, zFG, zWf⟩ := hs
 replace H : Qr p2 (mL7 + 1) Vu zAJ WQ zA3 zDY zB9 = some r := H
 replace hf2 := fun w' he => hf2 w' (zIi.ext.trans he)
 replace leB := leB.trans zIi
 replace zEk : Sl w.R w.W QG zA2 zAo Vu := zEk
 replace zFG : Sl w.R w.W QG zC3 zCk zAJ := zFG
 replace zWf : SlF zAH WQ.length zAD := zWf
 rw [Qr.eq_2] at H
 show Tr _ _ (LF [(0, sL zA2 Vu zAo), (1, sL zC3 zAJ zCk), (2, .func (.func fid2) #[] cap2.toArray), (7, sL zAH WQ zAD), (8, bV zA3), (9, bV zDY), (10, bV zB9)]) (LE [(2, ow zAH zAD 3 QG WQ)]) _
 refine Tr.seq (Tr.sr (Tr.mv rfl rfl (Tr.va rfl (fun _ _ a c => QJ zCg (a.ev rfl)) ?_)))
 refine Tr.va rfl (fun _ _ a c => VY (a.ev rfl) (a.ev rfl)) ?_
 refine Tr.mv rfl rfl (Tr.Vr 4 [(0, sL zA2 Vu zAo), (1, sL zC3 zAJ zCk), (2, .func (.func fid2) #[] cap2.toArray), (7, sL zAH WQ zAD), (8, bV zA3), (9, bV zDY), (10, bV zB9), (20, bV ((decide (0 < (Vu.length : Int))) || (decide (0 < (zAJ.length : Int)))))] [(2, ow zAH zAD 3 QG WQ)] ?_ ?_)
 ·cases zaZ : (decide (0 < (Vu.length : Int)))
  ·refine Tr.val (wg rfl rfl rfl) rfl (fun _ _ a c => run_move (a.ev rfl)) ?_
   refine Tr.val (wg rfl rfl rfl) rfl (fun _ _ a c => QJ zCg (a.ev rfl)) ?_
   refine Tr.val (wg rfl rfl rfl) rfl (fun _ _ a c => VY (a.ev rfl) (a.ev rfl)) ?_
   refine Tr.va rfl (fun _ _ a c => zx (a.ev rfl) (a.ev rfl)) ?_
   exact Tr.nil (Tr.JM (.cons rfl (.cons rfl (.cons rfl (.cons rfl (.cons rfl (.cons rfl (.cons rfl (.cons rfl .nil)))))))) (.cons rfl .nil))
  ·refine Tr.pass rfl rfl rfl rfl rfl (by decide) ?_
   refine Tr.pass rfl rfl rfl rfl rfl (by decide) ?_
   refine Tr.pass rfl rfl rfl rfl rfl (by decide) ?_
   refine Tr.va rfl (fun _ _ a c => zw (a.ev rfl) (a.ev rfl)) ?_
   exact Tr.nil (Tr.JM (.cons rfl (.cons rfl (.cons rfl (.cons rfl (.cons rfl (.cons rfl (.cons rfl (.cons rfl .nil)))))))) (.cons rfl .nil))
 ·show Tr _ _ (LF [(0, sL zA2 Vu zAo), (1, sL zC3 zAJ zCk), (2, .func (.func fid2) #[] cap2.toArray), (7, sL zAH WQ zAD), (8, bV zA3), (9, bV zDY), (10, bV zB9), (20, bV ((decide (0 < (Vu.length : Int))) || (decide (0 < (zAJ.length : Int)))))]) (LE [(2, ow zAH zAD 3 QG WQ)]) _
  refine Tr.nil (Tr.zA (Tr.cond rfl H (fun H => ?_) (fun H => ?_)))
  ·refine Tr.skip (Tr.zA (Tr.block (Tr.sr (Tr.asg rfl rfl (Tr.nil (Tr.zA ?_))))))
   have leJ250 := Bs.Le.refl w
   refine Tr.zMx (σ := Int) (fun w s => VG p2 Vu zAJ WQ zA3 zDY zB9 (Qr p2 mL7) s = some r) (fun s => [(0, sL zA2 Vu zAo), (1, sL zC3 zAJ zCk), (2, .func (.func fid2) #[] cap2.toArray), (7, sL zAH WQ zAD), (8, bV zA3), (9, bV zDY), (10, bV zB9), (11, iv s)]) (fun s => [(2, ow zAH zAD 3 QG WQ)]) ?_ ?_
   ·refine Tr.seq (Tr.draw (by kernel_rfl) (by kernel_rfl) ?_)
    refine Tq.mv rfl rfl (Tq.va rfl (fun _ _ a c => QJ zCg (a.ev rfl)) ?_)
    refine Tq.va rfl (fun _ _ a c => Qn (a.ev rfl) (a.ev rfl)) ?_
    refine Tq.mv rfl rfl ?_
    obtain ⟨zgv, zQ7, H⟩ := bnd H
    refine Tq.mid 13 [(0, sL zA2 Vu zAo), (1, sL zC3 zAJ zCk), (2, .func (.func fid2) #[] cap2.toArray), (7, sL zAH WQ zAD), (8, bV zA3), (9, bV zDY), (10, bV zB9), (37, bV zgv)] ?_ ?_
    ·cases zaZ : ((zAJ.length : Int) == 0)
     ·rw [zaZ] at zQ7
      rw [if_neg (by decide)] at zQ7
      have H := zQ7
      refine Tq.val (wg rfl rfl rfl) rfl (fun _ _ a c => run_move (a.ev rfl)) ?_
      refine Tq.val (wg rfl rfl rfl) rfl (fun _ _ a c => QJ zCg (a.ev rfl)) ?_
      refine Tq.val (wg rfl rfl rfl) rfl (fun _ _ a c => VY (a.ev rfl) (a.ev rfl)) ?_
      refine Tq.val (wg rfl rfl rfl) rfl (fun _ _ a c => run_move (a.ev rfl)) ?_
      obtain ⟨zgu, zQ6, H⟩ := bnd H
      refine Tq.mid 8 [(0, sL zA2 Vu zAo), (1, sL zC3 zAJ zCk), (2, .func (.func fid2) #[] cap2.toArray), (7, sL zAH WQ zAD), (8, bV zA3), (9, bV zDY), (10, bV zB9), (24, bV false), (36, bV zgu)] ?_ ?_
      ·cases zda : (decide (0 < (Vu.length : Int)))
       ·rw [zda] at zQ6
        rw [if_neg (by decide)] at zQ6
        have H := zQ6
        obtain rfl := oI H
        refine Tq.pass rfl rfl rfl rfl rfl (by decide) ?_
        refine Tq.pass rfl rfl rfl rfl rfl (by decide) ?_
        refine Tq.pass rfl rfl rfl rfl rfl (by decide) ?_
        refine Tq.pass rfl rfl rfl rfl rfl (by decide) ?_
        refine Tq.pass rfl rfl rfl rfl rfl (by decide) ?_
        refine Tq.pass rfl rfl rfl rfl rfl (by decide) ?_
        refine Tq.pass rfl rfl rfl rfl rfl (by decide) ?_
        refine Tq.val (wg rfl rfl rfl) rfl (fun _ _ a c => zx (a.ev rfl) (a.ev rfl)) ?_
        exact Tq.fin (.cons rfl (.cons rfl (.cons rfl (.cons rfl (.cons rfl (.cons rfl (.cons rfl (.cons rfl (.cons rfl .nil)))))))))
       ·rw [zda] at zQ6
        rw [if_pos rfl] at zQ6
        have H := zQ6
        refine Tq.val (wg rfl rfl rfl) rfl (fun _ _ a c => run_move (a.ev rfl)) ?_
        obtain ⟨zU6, zjN, H⟩ := bnd H
        obtain ⟨zeu, zet, zes⟩ := zz zjN
        refine Tq.val (wg rfl rfl rfl) rfl (fun _ _ a c => zM zAl (a.ev rfl) zEk.form (a.ev rfl) zeu zet) ?_
        refine Tq.val (wg rfl rfl rfl) rfl (fun _ _ a c => zF QH (a.ev rfl) (rdF Vx zEk zes c) rfl) ?_
        refine Tq.val (wg rfl rfl rfl) rfl (fun _ _ a c => run_move (a.ev rfl)) ?_
        obtain ⟨zU5, zjM, H⟩ := bnd H
        obtain ⟨zer, zeq, zep⟩ := zz zjM
        refine Tq.val (wg rfl rfl rfl) rfl (fun _ _ a c => zM zAl (a.ev rfl) zFG.form (a.ev rfl) zer zeq) ?_
        refine Tq.val (wg rfl rfl rfl) rfl (fun _ _ a c => zF QH (a.ev rfl) (rdF Vx zFG zep c) rfl) ?_
        refine Tq.val (wg rfl rfl rfl) rfl (fun _ _ a c => zAW (a.ev rfl) (a.ev rfl)) ?_
        refine Tq.val (wg rfl rfl rfl) rfl (fun _ _ a c => zw (a.ev rfl) (a.ev rfl)) ?_
        obtain rfl := oI H
        exact Tq.fin (.cons rfl (.cons rfl (.cons rfl (.cons rfl (.cons rfl (.cons rfl (.cons rfl (.cons rfl (.cons rfl .nil)))))))))
      ·refine Tq.va rfl (fun _ _ a c => zx (a.ev rfl) (a.ev rfl)) ?_
       obtain rfl := oI H
       exact Tq.fin (.cons rfl (.cons rfl (.cons rfl (.cons rfl (.cons rfl (.cons rfl (.cons rfl (.cons rfl .nil))))))))
     ·rw [zaZ] at zQ7
      rw [if_pos rfl] at zQ7
      have H := zQ7
      obtain rfl := oI H
      refine Tq.pass rfl rfl rfl rfl rfl (by decide) ?_
      refine Tq.pass rfl rfl rfl rfl rfl (by decide) ?_
      refine Tq.pass rfl rfl rfl rfl rfl (by decide) ?_
      refine Tq.pass rfl rfl rfl rfl rfl (by decide) ?_
      refine Tq.VL rfl rfl rfl rfl (by decide) ?_
      refine Tq.VL rfl rfl rfl rfl (by decide) ?_
      refine Tq.VL rfl rfl rfl rfl (by decide) ?_
      refine Tq.VL rfl rfl rfl rfl (by decide) ?_
      refine Tq.VL rfl rfl rfl rfl (by decide) ?_
      refine Tq.VL rfl rfl rfl rfl (by decide) ?_
      refine Tq.VL rfl rfl rfl rfl (by decide) ?_
      refine Tq.pass rfl rfl rfl rfl rfl (by decide) ?_
      refine Tq.va rfl (fun _ _ a c => zw (a.ev rfl) (a.ev rfl)) ?_
      exact Tq.fin (.cons rfl (.cons rfl (.cons rfl (.cons rfl (.cons rfl (.cons rfl (.cons rfl (.cons rfl .nil))))))))
    ·refine Tq.nil (Tr.zA (Tr.cond rfl H (fun H => ?_) (fun H => ?_)))
     ·refine Tr.region (Tr.mv rfl rfl ?_)
      obtain ⟨zSq, zjL, H⟩ := bnd H
      obtain ⟨zeo, zen, zem⟩ := zz zjL
      refine Tr.va rfl (fun _ _ a c => zM zAl (a.ev rfl) zEk.form (a.ev rfl) zeo zen) ?_
      refine Tr.va rfl (fun _ _ a c => zF QH (a.ev rfl) (rdF Vx zEk zem c) rfl) ?_
      exact Tr.asg rfl rfl (Tr.nil (Tr.zn leJ250 zSq H (.cons rfl (.cons rfl (.cons rfl (.cons rfl (.cons rfl (.cons rfl (.cons rfl (.cons rfl .nil)))))))) (.cons rfl .nil)))
     ·refine Tr.region (Tr.mv rfl rfl ?_)
      obtain ⟨zSp, zjK, H⟩ := bnd H
      obtain ⟨zel, zek, zej⟩ := zz zjK
      refine Tr.va rfl (fun _ _ a c => zM zAl (a.ev rfl) zFG.form (a.ev rfl) zel zek) ?_
      refine Tr.va rfl (fun _ _ a c => zF QH (a.ev rfl) (rdF Vx zFG zej c) rfl) ?_
      exact Tr.asg rfl rfl (Tr.nil (Tr.zn leJ250 zSp H (.cons rfl (.cons rfl (.cons rfl (.cons rfl (.cons rfl (.cons rfl (.cons rfl (.cons rfl .nil)))))))) (.cons rfl .nil)))
   ·intro w zDX hlJ251 hs
    have H := hs
    replace H : VG p2 Vu zAJ WQ zA3 zDY zB9 (Qr p2 mL7) zDX = some r := H
    replace zEk := zEk.leR hlJ251
    replace zFG := zFG.leR hlJ251
    replace hf2 := fun w' he => hf2 w' (hlJ251.ext.trans he)
    replace zIi := zIi.trans hlJ251
    unfold VG at H
    show Tr _ _ (LF [(0, sL zA2 Vu zAo), (1, sL zC3 zAJ zCk), (2, .func (.func fid2) #[] cap2.toArray), (7, sL zAH WQ zAD), (8, bV zA3), (9, bV zDY), (10, bV zB9), (11, iv zDX)]) (LE [(2, ow zAH zAD 3 QG WQ)]) _
    have leJ258 := Bs.Le.refl w
    refine Tr.zMx (σ := (List Int) × Bool × (Option Addr) × Nat) (fun w s => Va p2 zAJ WQ zDY zB9 (Qr p2 mL7) zDX s.1 s.2.1 = some r ∧ Sl w.R w.W QG s.2.2.1 s.2.2.2 s.1) (fun s => [(0, sL s.2.2.1 s.1 s.2.2.2), (1, sL zC3 zAJ zCk), (2, .func (.func fid2) #[] cap2.toArray), (7, sL zAH WQ zAD), (8, bV s.2.1), (9, bV zDY), (10, bV zB9), (11, iv zDX)]) (fun s => [(2, ow zAH zAD 3 QG WQ)]) ?_ ?_
    ·refine Tr.sr (Tr.mv rfl rfl (Tr.va rfl (fun _ _ a c => QJ zCg (a.ev rfl)) ?_))
     refine Tr.va rfl (fun _ _ a c => VY (a.ev rfl) (a.ev rfl)) ?_
     refine Tr.mv rfl rfl ?_
     obtain ⟨zcY, zLb, H⟩ := bnd H
     refine Tr.Vr 6 [(0, sL zA2 Vu zAo), (1, sL zC3 zAJ zCk), (2, .func (.func fid2) #[] cap2.toArray), (7, sL zAH WQ zAD), (8, bV zA3), (9, bV zDY), (10, bV zB9), (11, iv zDX), (53, bV zcY)] [(2, ow zAH zAD 3 QG WQ)] ?_ ?_
     ·cases zdb : (decide (0 < (Vu.length : Int)))
      ·rw [zdb] at zLb
       rw [if_neg (by decide)] at zLb
       have H := zLb
       obtain rfl := oI H
       refine Tr.pass rfl rfl rfl rfl rfl (by decide) ?_
       refine Tr.pass rfl rfl rfl rfl rfl (by decide) ?_
       refine Tr.pass rfl rfl rfl rfl rfl (by decide) ?_
       refine Tr.pass rfl rfl rfl rfl rfl (by decide) ?_
       refine Tr.pass rfl rfl rfl rfl rfl (by decide) ?_
       refine Tr.va rfl (fun _ _ a c => zx (a.ev rfl) (a.ev rfl)) ?_
       exact Tr.nil (Tr.JM (.cons rfl (.cons rfl (.cons rfl (.cons rfl (.cons rfl (.cons rfl (.cons rfl (.cons rfl (.cons rfl .nil))))))))) (.cons rfl .nil))
      ·rw [zdb] at zLb
       rw [if_pos rfl] at zLb
       have H := zLb
       refine Tr.val (wg rfl rfl rfl) rfl (fun _ _ a c => run_move (a.ev rfl)) ?_
       obtain ⟨zha, zjO, H⟩ := bnd H
       obtain ⟨zex, zew, zev⟩ := zz zjO
       refine Tr.val (wg rfl rfl rfl) rfl (fun _ _ a c => zM zAl (a.ev rfl) zEk.form (a.ev rfl) zex zew) ?_
       refine Tr.val (wg rfl rfl rfl) rfl (fun _ _ a c => zF QH (a.ev rfl) (rdF Vx zEk zev c) rfl) ?_
       refine Tr.val (wg rfl rfl rfl) rfl (fun _ _ a c => run_move (a.ev rfl)) ?_
       refine Tr.val (wg rfl rfl rfl) rfl (fun _ _ a c => Qn (a.ev rfl) (a.ev rfl)) ?_
       refine Tr.va rfl (fun _ _ a c => zw (a.ev rfl) (a.ev rfl)) ?_
       obtain rfl := oI H
       exact Tr.nil (Tr.JM (.cons rfl (.cons rfl (.cons rfl (.cons rfl (.cons rfl (.cons rfl (.cons rfl (.cons rfl (.cons rfl .nil))))))))) (.cons rfl .nil))
     ·show Tr _ _ (LF [(0, sL zA2 Vu zAo), (1, sL zC3 zAJ zCk), (2, .func (.func fid2) #[] cap2.toArray), (7, sL zAH WQ zAD), (8, bV zA3), (9, bV zDY), (10, bV zB9), (11, iv zDX), (53, bV zcY)]) (LE [(2, ow zAH zAD 3 QG WQ)]) _
      refine Tr.nil (Tr.zA (Tr.cond rfl H (fun H => ?_) (fun H => ?_)))
      ·refine Tr.region (Tr.mv rfl rfl ?_)
       obtain ⟨zeF, zdS, H⟩ := bnd H
       refine Tr.va rfl (fun _ _ a c => zIz zAl (a.ev rfl) zEk.form (a.ev rfl) zdS) ?_
       refine Tr.mv rfl rfl (Tr.va rfl (fun _ _ a c => Km (a.ev rfl)) ?_)
       exact Tr.asg rfl rfl (Tr.asg rfl rfl (Tr.nil (Tr.zn leJ258 (zeF, (!zA3), (zH0 zA2 (1 : Int).toNat 1 zAo), (zAo - (1 : Int).toNat)) ⟨H, (Sl.cut zEk zdS)⟩ (.cons rfl (.cons rfl (.cons rfl (.cons rfl (.cons rfl (.cons rfl (.cons rfl (.cons rfl .nil)))))))) (.cons rfl .nil))))
      ·exact Tr.skip (Tr.zn leJ258 (Vu, zA3, zA2, zAo) ⟨H, zEk⟩ (.cons rfl (.cons rfl (.cons rfl (.cons rfl (.cons rfl (.cons rfl (.cons rfl (.cons rfl .nil)))))))) (.cons rfl .nil))
    ·intro w s hlJ259 hs
     obtain ⟨zI2, zIe, zNa, zNS⟩ := s
     obtain ⟨H, zQz⟩ := hs
     replace H : Va p2 zAJ WQ zDY zB9 (Qr p2 mL7) zDX zI2 zIe = some r := H
     replace zFG := zFG.leR hlJ259
     replace hf2 := fun w' he => hf2 w' (hlJ259.ext.trans he)
     replace zIi := zIi.trans hlJ259
     replace zQz : Sl w.R w.W QG zNa zNS zI2 := zQz
     unfold Va at H
     show Tr _ _ (LF [(0, sL zNa zI2 zNS), (1, sL zC3 zAJ zCk), (2, .func (.func fid2) #[] cap2.toArray), (7, sL zAH WQ zAD), (8, bV zIe), (9, bV zDY), (10, bV zB9), (11, iv zDX)]) (LE [(2, ow zAH zAD 3 QG WQ)]) _
     have leJ266 := Bs.Le.refl w
     refine Tr.zMx (σ := (List Int) × Bool × (Option Addr) × Nat) (fun w s => Wj p2 WQ zB9 (Qr p2 mL7) zDX zI2 zIe s.1 s.2.1 = some r ∧ Sl w.R w.W QG s.2.2.1 s.2.2.2 s.1) (fun s => [(0, sL zNa zI2 zNS), (1, sL s.2.2.1 s.1 s.2.2.2), (2, .func (.func fid2) #[] cap2.toArray), (7, sL zAH WQ zAD), (8, bV zIe), (9, bV s.2.1), (10, bV zB9), (11, iv zDX)]) (fun s => [(2, ow zAH zAD 3 QG WQ)]) ?_ ?_
     ·refine Tr.sr (Tr.mv rfl rfl (Tr.va rfl (fun _ _ a c => QJ zCg (a.ev rfl)) ?_))
      refine Tr.va rfl (fun _ _ a c => VY (a.ev rfl) (a.ev rfl)) ?_
      refine Tr.mv rfl rfl ?_
      obtain ⟨zcZ, zQ8, H⟩ := bnd H
      refine Tr.Vr 6 [(0, sL zNa zI2 zNS), (1, sL zC3 zAJ zCk), (2, .func (.func fid2) #[] cap2.toArray), (7, sL zAH WQ zAD), (8, bV zIe), (9, bV zDY), (10, bV zB9), (11, iv zDX), (67, bV zcZ)] [(2, ow zAH zAD 3 QG WQ)] ?_ ?_
      ·cases zdc : (decide (0 < (zAJ.length : Int)))
       ·rw [zdc] at zQ8
        rw [if_neg (by decide)] at zQ8
        have H := zQ8
        obtain rfl := oI H
        refine Tr.pass rfl rfl rfl rfl rfl (by decide) ?_
        refine Tr.pass rfl rfl rfl rfl rfl (by decide) ?_
        refine Tr.pass rfl rfl rfl rfl rfl (by decide) ?_
        refine Tr.pass rfl rfl rfl rfl rfl (by decide) ?_
        refine Tr.pass rfl rfl rfl rfl rfl (by decide) ?_
        refine Tr.va rfl (fun _ _ a c => zx (a.ev rfl) (a.ev rfl)) ?_
        exact Tr.nil (Tr.JM (.cons rfl (.cons rfl (.cons rfl (.cons rfl (.cons rfl (.cons rfl (.cons rfl (.cons rfl (.cons rfl .nil))))))))) (.cons rfl .nil))
       ·rw [zdc] at zQ8
        rw [if_pos rfl] at zQ8
        have H := zQ8
        refine Tr.val (wg rfl rfl rfl) rfl (fun _ _ a c => run_move (a.ev rfl)) ?_
        obtain ⟨zhb, zjP, H⟩ := bnd H
        obtain ⟨ze0, zez, zey⟩ := zz zjP
        refine Tr.val (wg rfl rfl rfl) rfl (fun _ _ a c => zM zAl (a.ev rfl) zFG.form (a.ev rfl) ze0 zez) ?_
        refine Tr.val (wg rfl rfl rfl) rfl (fun _ _ a c => zF QH (a.ev rfl) (rdF Vx zFG zey c) rfl) ?_
        refine Tr.val (wg rfl rfl rfl) rfl (fun _ _ a c => run_move (a.ev rfl)) ?_
        refine Tr.val (wg rfl rfl rfl) rfl (fun _ _ a c => Qn (a.ev rfl) (a.ev rfl)) ?_
        refine Tr.va rfl (fun _ _ a c => zw (a.ev rfl) (a.ev rfl)) ?_
        obtain rfl := oI H
        exact Tr.nil (Tr.JM (.cons rfl (.cons rfl (.cons rfl (.cons rfl (.cons rfl (.cons rfl (.cons rfl (.cons rfl (.cons rfl .nil))))))))) (.cons rfl .nil))
      ·show Tr _ _ (LF [(0, sL zNa zI2 zNS), (1, sL zC3 zAJ zCk), (2, .func (.func fid2) #[] cap2.toArray), (7, sL zAH WQ zAD), (8, bV zIe), (9, bV zDY), (10, bV zB9), (11, iv zDX), (67, bV zcZ)]) (LE [(2, ow zAH zAD 3 QG WQ)]) _
       refine Tr.nil (Tr.zA (Tr.cond rfl H (fun H => ?_) (fun H => ?_)))
       ·refine Tr.region (Tr.mv rfl rfl ?_)
        obtain ⟨zeG, zdT, H⟩ := bnd H
        refine Tr.va rfl (fun _ _ a c => zIz zAl (a.ev rfl) zFG.form (a.ev rfl) zdT) ?_
        refine Tr.mv rfl rfl (Tr.va rfl (fun _ _ a c => Km (a.ev rfl)) ?_)
        exact Tr.asg rfl rfl (Tr.asg rfl rfl (Tr.nil (Tr.zn leJ266 (zeG, (!zDY), (zH0 zC3 (1 : Int).toNat 1 zCk), (zCk - (1 : Int).toNat)) ⟨H, (Sl.cut zFG zdT)⟩ (.cons rfl (.cons rfl (.cons rfl (.cons rfl (.cons rfl (.cons rfl (.cons rfl (.cons rfl .nil)))))))) (.cons rfl .nil))))
       ·exact Tr.skip (Tr.zn leJ266 (zAJ, zDY, zC3, zCk) ⟨H, zFG⟩ (.cons rfl (.cons rfl (.cons rfl (.cons rfl (.cons rfl (.cons rfl (.cons rfl (.cons rfl .nil)))))))) (.cons rfl .nil))
     ·intro w s hlJ267 hs
      obtain ⟨zTk, zRY, zXW, zW9⟩ := s
      obtain ⟨H, zWe⟩ := hs
      replace H : Wj p2 WQ zB9 (Qr p2 mL7) zDX zI2 zIe zTk zRY = some r := H
      replace zQz := zQz.leR hlJ267
      replace hf2 := fun w' he => hf2 w' (hlJ267.ext.trans he)
      replace zIi := zIi.trans hlJ267
      replace zWe : Sl w.R w.W QG zXW zW9 zTk := zWe
      unfold Wj at H
      show Tr _ _ (LF [(0, sL zNa zI2 zNS), (1, sL zXW zTk zW9), (2, .func (.func fid2) #[] cap2.toArray), (7, sL zAH WQ zAD), (8, bV zIe), (9, bV zRY), (10, bV zB9), (11, iv zDX)]) (LE [(2, ow zAH zAD 3 QG WQ)]) _
      refine Tr.sr (Tr.mv rfl rfl (Tr.mv rfl rfl (Tr.mv rfl rfl ?_)))
      obtain ⟨zYP, zie, H⟩ := bnd H
      refine Tr.zNW (r := (bV zYP)) (wn rfl) rfl rfl hg2 (zI rfl (zI rfl zT)) (fun W hW => hf2 hW.all hW.Qx zIe zRY _ zie) ?_
      refine Tr.asg rfl rfl (Tr.nil (Tr.zA (Tr.sr (Tr.mv rfl rfl (Tr.mv rfl rfl (Tr.va rfl (fun _ _ a c => zY0 zhg (a.ev rfl) (a.ev rfl)) ?_))))))
      refine Tr.nil (Tr.zA (Tr.cond rfl H (fun H => ?_) (fun H => ?_)))
      ·refine Tr.region (Tr.mv rfl rfl (Tr.mv rfl rfl (Tr.buildSlice 5 (e := 3) (vs := [(0, iv zDX)]) (cs := [iv zDX]) (wn rfl) rfl (zq rfl Qi) (by kernel_rfl) fun zmw => ?_)))
       obtain ⟨zRy, zZ4, H⟩ := bnd H
       refine Tr.append 2 (t := QG) (l := WQ) (l2 := [zDX]) (wn rfl) rfl rfl rfl rfl (fun W hW => ⟨[[iv zDX]], (.cons ⟨(), trivial, rfl⟩ .nil), rdb hW (vs := [iv zDX]) (k := 5) rfl 0⟩) zCg zKQ zYN (by decide) za5 rfl zZ4 fun zUp zUY hAl270 => ?_
       exact Tr.mv rfl rfl (Tr.asg rfl rfl (Tr.asg rfl rfl (Tr.nil (Tr.zl (Tr.zn zIi (zI2, zTk, zRy, zIe, zRY, zYP, zNa, zNS, zXW, zW9, zUp, zUY) ⟨H, zQz, zWe, hAl270⟩ (.cons rfl (.cons rfl (.cons rfl (.cons rfl (.cons rfl (.cons rfl (.cons rfl .nil))))))) (.cons rfl .nil))))))
      ·exact Tr.skip (Tr.zl (Tr.zn zIi (zI2, zTk, WQ, zIe, zRY, zB9, zNa, zNS, zXW, zW9, zAH, zAD) ⟨H, zQz, zWe, zWf⟩ (.cons rfl (.cons rfl (.cons rfl (.cons rfl (.cons rfl (.cons rfl (.cons rfl .nil))))))) (.cons rfl .nil)))
  ·refine Tr.exit (Tr.zk (Tr.zk (Tr.QV (Tr.zA (Tr.sr (Tr.mv rfl rfl (Tr.asg rfl rfl (Tr.nil (Tr.zA (Tr.ret ?_))))))))))
   obtain rfl := oI H
   exact Tr.out (m := [sL zAH WQ zAD]) [] (zW rfl zX) (fun W hW => ⟨(zAH, zAD), rfl, zWf, HF.zFO leB (hW.pick (ks := [2]) (by decide) (zQ rfl zf)) ⟨zCA _ _ _ _ zRf, trivial⟩⟩)

theorem zHX (N : Nat) {w : Bs} (p0 : (List ze)) (zC : Option Addr) (zD : Nat) (zU : Sl w.O w.W zL zC zD p0) (p1 : (List ze)) (zh : Option Addr) (zg : Nat) (Qh : Sl w.O w.W zL zh zg p1) (p2 : Bool → Bool → Option Bool) (fid2 : Nat) (cap2 : List Value) (hg2 : ∀ args W, (callFunc fid2 args).run Tryz.prog W = .ok (.enter fid2 args) W) (hf2 : ∀ (w' : Bs), w.Ext w' → ∀ (z0 : Bool) (z1 : Bool), ∀ y, p2 z0 z1 = some y → Calls Tryz.prog fid2 (([bV z0, bV z1] : List Value) ++ cap2).toArray w'.W fun e W'' => e = .returned (bV y) ∧ HF w' W'' E0) (r : (List ze)) (H : zBm N p0 p1 p2 = some r) (hE : HF w w.W (LEn [emp])) : Calls Tryz.prog 61 [sL zC p0 zD, sL zh p1 zg, .func (.func fid2) #[] cap2.toArray].toArray w.W fun e W' => ∃ (w' : Bs) (u : (Option Addr × Nat)), w.Le w' ∧ e = .returned (sL u.1 r u.2) ∧ (SlF u.1 r.length u.2) ∧ HF w' W' (LEn [ow u.1 u.2 107 zL r]) := by
 unfold zBm at H
 have leB := Bs.Le.refl w
 refine Tr.enter (n := 126) Tryz.func61 rfl rfl rfl hE ?_
 refine Tr.sr (Tr.asg rfl rfl (Tr.JU 1 107 zL ?_))
 show Tr _ _ (uf _ 6 (sL none (([] : List ze)) 0)) _ _
 refine Tr.nil (Tr.zA (Tr.sr (Tr.asg rfl rfl (Tr.JU 2 107 zL ?_))))
 show Tr _ _ (uf _ 7 (sL none (([] : List ze)) 0)) _ _
 refine Tr.nil (Tr.zA (Tr.seq (Tr.sr (Tr.mv rfl rfl (Tr.va rfl (fun _ _ a c => QJ zFD (a.ev rfl)) ?_)))))
 refine Tr.mv rfl rfl (Tr.va rfl (fun _ _ a c => QJ zFD (a.ev rfl)) ?_)
 refine Tr.va rfl (fun _ _ a c => QK (a.ev rfl) (a.ev rfl)) ?_
 refine Tr.va rfl (fun _ _ a c => Qn (a.ev rfl) (a.ev rfl)) ?_
 refine Tr.nil (Tr.zA (Tr.cond rfl H (fun H => ?_) (fun H => ?_)))
 ·refine Tr.sr (Tr.asg rfl rfl (Tr.JU 3 107 zL ?_))
  show Tr _ _ (uf _ 6 (sL none (([] : List ze)) 0)) _ _
  refine Tr.nil (Tr.zA (Tr.ret (Tr.zi ?_)))
  obtain rfl := oI H
  exact Tr.out (m := [sL none (([] : List ze)) 0]) [] (zW rfl zX) (fun W hW => ⟨w, (none, 0), leB, rfl, Kk, hW.pick (ks := [3]) (by decide) (zQ rfl zf)⟩)
 ·refine Tr.skip (Tr.zA (Tr.sr (Tr.asg rfl rfl (Tr.asg rfl rfl (Tr.nil (Tr.zA (Tr.seq (Tr.sr (Tr.mv rfl rfl (Tr.mv rfl rfl ?_))))))))))
  refine Tr.buildSlice 4 (e := 66) (vs := [(0, sL zC p0 zD), (1, sL zh p1 zg)]) (cs := [sL zC p0 zD, sL zh p1 zg]) (wn rfl) rfl (zq rfl (zq rfl Qi)) (by kernel_rfl) fun QE => ?_
  refine Tr.va rfl (fun _ _ a c => QJ zc2 (a.ev rfl)) ?_
  refine Tr.mv rfl rfl (Tr.nil (Tr.zA (Tr.block (Tr.own 4 Qy [p0, p1] (css := [[sL zC p0 zD], [sL zh p1 zg]]) rfl (.cons ⟨(zC, zD), zU, rfl⟩ (.cons ⟨(zh, zg), Qh, rfl⟩ .nil)) rfl (by decide) (zCR rfl) ?_))))
  refine Tr.ren 4 9 rfl rfl rfl ?_
  refine Tr.loop (σ := Int × Int × (List (List ze)) × Int × (Option Addr) × Nat) (fun m w s => Qp N p0 p1 p2 m s.1 s.2.1 s.2.2.1 s.2.2.2.1 = some r ∧ SlF s.2.2.2.2.1 s.2.2.1.length s.2.2.2.2.2) (fun s => [(0, sL zC p0 zD), (1, sL zh p1 zg), (2, .func (.func fid2) #[] cap2.toArray), (7, sL none (([] : List ze)) 0), (8, iv s.1), (9, iv s.2.1), (25, sL s.2.2.2.2.1 s.2.2.1 s.2.2.2.2.2), (26, iv 2), (27, iv s.2.2.2.1)]) (fun s => [(2, ow none 0 107 zL ([] : List ze)), (9, ow s.2.2.2.2.1 s.2.2.2.2.2 66 Qy s.2.2.1)]) N (0, 0, [p0, p1], 0, (some ⟨QE, 0, none⟩), 2) ⟨H, (zO9 QE rfl)⟩ (.cons rfl (.cons rfl (.cons rfl (.cons rfl (.cons rfl (.cons rfl (.cons rfl (.cons rfl (.cons rfl .nil))))))))) (.cons rfl (.cons rfl .nil)) (fun _ _ h => zA0 (h.1)) ?_
  intro w Vl mL3 s hs
  obtain ⟨x150, x151, zCT, x153, zDT, zDP⟩ := s
  obtain ⟨H, zKY⟩ := hs
  replace H : Qp N p0 p1 p2 (mL3 + 1) x150 x151 zCT x153 = some r := H
  replace zU := zU.le Vl
  replace Qh := Qh.le Vl
  replace hf2 := fun w' he => hf2 w' (Vl.ext.trans he)
  replace leB := leB.trans Vl
  replace zKY : SlF zDT zCT.length zDP := zKY
  rw [Qp.eq_2] at H
  show Tr _ _ (LF [(0, sL zC p0 zD), (1, sL zh p1 zg), (2, .func (.func fid2) #[] cap2.toArray), (7, sL none (([] : List ze)) 0), (8, iv x150), (9, iv x151), (25, sL zDT zCT zDP), (26, iv 2), (27, iv x153)]) (LE [(2, ow none 0 107 zL ([] : List ze)), (9, ow zDT zDP 66 Qy zCT)]) _
  refine Tr.sr (Tr.va rfl (fun _ _ a c => QI (a.ev rfl) (a.ev rfl)) ?_)
  refine Tr.nil (Tr.zA (Tr.seq (Tr.cond rfl H (fun H => ?_) (fun H => ?_))))
  ·refine Tr.skip (Tr.zA (Tr.seq (Tr.block (Tr.sr (Tr.mv rfl rfl ?_)))))
   obtain ⟨zGP, zjj, H⟩ := bnd H
   obtain ⟨zf0, zfz, zfy⟩ := zz zjj
   refine Tr.va rfl (fun _ _ a c => zM zal (a.ev rfl) zKY (a.ev rfl) zf0 zfz) ?_
   refine Tr.zS5 (U := (Qy).Ad) (fun u => (Qy).ok w.O w.W u zGP) (fun u => (sL u.1 zGP u.2)) (wn rfl) rfl (ldN (κ := 9) (t := Qy) (V := fun u => (sL u.1 zGP u.2)) rfl zfy (fun _ _ u a hc => zF zP4 (a.ev rfl) hc rfl)) ?_
   intro zmS zcF
   obtain ⟨zEY, zKC⟩ := zmS
   have zAe := zcF
   replace zAe : Sl w.O w.W zL zEY zKC zGP := zAe
   show Tr _ _ (uf _ 31 (sL zEY zGP zKC)) _ _
   refine Tr.asg rfl rfl (Tr.asg rfl rfl (Tr.nil (Tr.zA (Tr.sr (Tr.mv rfl rfl (Tr.va rfl (fun _ _ a c => QJ zFD (a.ev rfl)) ?_))))))
   refine Tr.va rfl (fun _ _ a c => VY (a.ev rfl) (a.ev rfl)) ?_
   refine Tr.nil (Tr.zA (Tr.cond rfl H (fun H => ?_) (fun H => ?_)))
   ·have leJ162 := Bs.Le.refl w
    refine Tr.zMx (σ := Int × Int) (fun w s => Vh zCT x153 (Qp N p0 p1 p2 mL3) zGP s.1 s.2 = some r) (fun s => [(0, sL zC p0 zD), (1, sL zh p1 zg), (2, .func (.func fid2) #[] cap2.toArray), (7, sL none (([] : List ze)) 0), (8, iv s.1), (9, iv s.2), (11, sL zEY zGP zKC), (25, sL zDT zCT zDP), (26, iv 2), (27, iv x153)]) (fun s => [(2, ow none 0 107 zL ([] : List ze)), (9, ow zDT zDP 66 Qy zCT)]) ?_ ?_
    ·refine Tr.sr (Tr.mv rfl rfl (Tr.va rfl (fun _ _ a c => Qn (a.ev rfl) (a.ev rfl)) ?_))
     refine Tr.mv rfl rfl (Tr.Vr 4 [(0, sL zC p0 zD), (1, sL zh p1 zg), (2, .func (.func fid2) #[] cap2.toArray), (7, sL none (([] : List ze)) 0), (8, iv x150), (9, iv x151), (11, sL zEY zGP zKC), (25, sL zDT zCT zDP), (26, iv 2), (27, iv x153), (41, bV ((x153 == 0) || ((p0.length : Int) == 0)))] [(2, ow none 0 107 zL ([] : List ze)), (9, ow zDT zDP 66 Qy zCT)] ?_ ?_)
     ·cases znC : (x153 == 0)
      ·refine Tr.val (wg rfl rfl rfl) rfl (fun _ _ a c => run_move (a.ev rfl)) ?_
       refine Tr.val (wg rfl rfl rfl) rfl (fun _ _ a c => QJ zFD (a.ev rfl)) ?_
       refine Tr.val (wg rfl rfl rfl) rfl (fun _ _ a c => Qn (a.ev rfl) (a.ev rfl)) ?_
       refine Tr.va rfl (fun _ _ a c => zx (a.ev rfl) (a.ev rfl)) ?_
       exact Tr.nil (Tr.JM (.cons rfl (.cons rfl (.cons rfl (.cons rfl (.cons rfl (.cons rfl (.cons rfl (.cons rfl (.cons rfl (.cons rfl (.cons rfl .nil))))))))))) (.cons rfl (.cons rfl .nil)))
      ·refine Tr.pass rfl rfl rfl rfl rfl (by decide) ?_
       refine Tr.pass rfl rfl rfl rfl rfl (by decide) ?_
       refine Tr.pass rfl rfl rfl rfl rfl (by decide) ?_
       refine Tr.va rfl (fun _ _ a c => zw (a.ev rfl) (a.ev rfl)) ?_
       exact Tr.nil (Tr.JM (.cons rfl (.cons rfl (.cons rfl (.cons rfl (.cons rfl (.cons rfl (.cons rfl (.cons rfl (.cons rfl (.cons rfl (.cons rfl .nil))))))))))) (.cons rfl (.cons rfl .nil)))
     ·show Tr _ _ (LF [(0, sL zC p0 zD), (1, sL zh p1 zg), (2, .func (.func fid2) #[] cap2.toArray), (7, sL none (([] : List ze)) 0), (8, iv x150), (9, iv x151), (11, sL zEY zGP zKC), (25, sL zDT zCT zDP), (26, iv 2), (27, iv x153), (41, bV ((x153 == 0) || ((p0.length : Int) == 0)))]) (LE [(2, ow none 0 107 zL ([] : List ze)), (9, ow zDT zDP 66 Qy zCT)]) _
      refine Tr.nil (Tr.zA (Tr.cond rfl H (fun H => ?_) (fun H => ?_)))
      ·refine Tr.draw (by kernel_rfl) (by kernel_rfl) ?_
       refine Tq.mv rfl rfl ?_
       obtain ⟨x168, hx168, H⟩ := bnd H
       obtain ⟨zfo, zfn, zfm⟩ := zz hx168
       obtain ⟨zmP, hRu169, zcC, hcu169⟩ := (zAe).el zfm
       obtain ⟨zlw, zlj⟩ := zmP
       have zhH := zcC
       replace hRu169 : w.R (adB zEY) := Or.inl hRu169
       refine Tq.va rfl (fun _ _ a c => zM zCi (a.ev rfl) zAe.form (a.ev rfl) zfo zfn) ?_
       refine Tq.va rfl (fun _ _ a c => zB zEn (a.ev rfl)) ?_
       refine Tq.va rfl (fun _ _ a c => zF QH (a.ev rfl) (zR.drop (rdR hRu169 hcu169 c) 0) rfl) ?_
       refine Tq.mv rfl rfl (Tq.mv rfl rfl (Tq.va rfl (fun _ _ a c => QJ zFD (a.ev rfl)) ?_))
       refine Tq.va rfl (fun _ _ a c => Wy (a.ev rfl) (a.ev rfl)) ?_
       obtain ⟨zFp, zZo, H⟩ := bnd H
       obtain ⟨zVb, zVa, zVZ⟩ := zz zZo
       obtain ⟨zmO, hRu171, zcB, hcu171⟩ := (zAe).el zVZ
       obtain ⟨zlv, zli⟩ := zmO
       have zhG := zcB
       replace hRu171 : w.R (adB zEY) := Or.inl hRu171
       refine Tq.va rfl (fun _ _ a c => zM zCi (a.ev rfl) zAe.form (a.ev rfl) zVb zVa) ?_
       refine Tq.va rfl (fun _ _ a c => zB zCD (a.ev rfl)) ?_
       refine Tq.va rfl (fun _ _ a c => zF QH (a.ev rfl) (zR.drop (rdR hRu171 hcu171 c) 1) rfl) ?_
       exact Tq.asg rfl rfl (Tq.asg rfl rfl (Tq.nil (Tr.zn leJ162 (x168.Y0, zFp.Y1) H (.cons rfl (.cons rfl (.cons rfl (.cons rfl (.cons rfl (.cons rfl (.cons rfl (.cons rfl (.cons rfl (.cons rfl .nil)))))))))) (.cons rfl (.cons rfl .nil)))))
      ·exact Tr.skip (Tr.zn leJ162 (x150, x151) H (.cons rfl (.cons rfl (.cons rfl (.cons rfl (.cons rfl (.cons rfl (.cons rfl (.cons rfl (.cons rfl (.cons rfl .nil)))))))))) (.cons rfl (.cons rfl .nil)))
    ·intro w s hlJ163 hs
     obtain ⟨x160, zYW⟩ := s
     have H := hs
     replace H : Vh zCT x153 (Qp N p0 p1 p2 mL3) zGP x160 zYW = some r := H
     replace hf2 := fun w' he => hf2 w' (hlJ163.ext.trans he)
     replace zAe := zAe.le hlJ163
     replace Vl := Vl.trans hlJ163
     unfold Vh at H
     show Tr _ _ (LF [(0, sL zC p0 zD), (1, sL zh p1 zg), (2, .func (.func fid2) #[] cap2.toArray), (7, sL none (([] : List ze)) 0), (8, iv x160), (9, iv zYW), (11, sL zEY zGP zKC), (25, sL zDT zCT zDP), (26, iv 2), (27, iv x153)]) (LE [(2, ow none 0 107 zL ([] : List ze)), (9, ow zDT zDP 66 Qy zCT)]) _
     refine Tr.draw (by kernel_rfl) (by kernel_rfl) ?_
     refine Tq.mv rfl rfl (Tq.mv rfl rfl ?_)
     obtain ⟨JQ, zZp, H⟩ := bnd H
     obtain ⟨zVd, zVc, zR4⟩ := zz zZp
     obtain ⟨zYb, hRu165, zLV, hcu165⟩ := (zAe).el zR4
     obtain ⟨zEX, zER⟩ := zYb
     have zCU := zLV
     replace hRu165 : w.R (adB zEY) := Or.inl hRu165
     refine Tq.va rfl (fun _ _ a c => zM zCi (a.ev rfl) zAe.form (a.ev rfl) zVd zVc) ?_
     refine Tq.va rfl (fun _ _ a c => zB zEn (a.ev rfl)) ?_
     refine Tq.va rfl (fun _ _ a c => zF QH (a.ev rfl) (zR.drop (rdR hRu165 hcu165 c) 0) rfl) ?_
     refine Tq.va rfl (fun _ _ a c => zGY (a.ev rfl) (a.ev rfl) _) ?_
     refine Tq.mv rfl rfl (Tq.mv rfl rfl (Tq.mv rfl rfl (Tq.va rfl (fun _ _ a c => QJ zFD (a.ev rfl)) ?_)))
     refine Tq.va rfl (fun _ _ a c => Wy (a.ev rfl) (a.ev rfl)) ?_
     obtain ⟨zU7, zT0, H⟩ := bnd H
     obtain ⟨zPU, zPT, zPS⟩ := zz zT0
     obtain ⟨zmQ, hRu167, zcD, hcu167⟩ := (zAe).el zPS
     obtain ⟨zlx, zlk⟩ := zmQ
     have zhI := zcD
     replace hRu167 : w.R (adB zEY) := Or.inl hRu167
     refine Tq.va rfl (fun _ _ a c => zM zCi (a.ev rfl) zAe.form (a.ev rfl) zPU zPT) ?_
     refine Tq.va rfl (fun _ _ a c => zB zCD (a.ev rfl)) ?_
     refine Tq.va rfl (fun _ _ a c => zF QH (a.ev rfl) (zR.drop (rdR hRu167 hcu167 c) 1) rfl) ?_
     refine Tq.va rfl (fun _ _ a c => zGZ (a.ev rfl) (a.ev rfl) _) ?_
     refine Tq.asg rfl rfl (Tq.asg rfl rfl (Tq.nil (Tr.zl (Tr.zA (Tr.region (Tr.va rfl (fun _ _ a c => QK (a.ev rfl) (a.ev rfl)) ?_))))))
     exact Tr.mv rfl rfl (Tr.nil (Tr.zn Vl ((min x160 JQ.Y0), (max zYW zU7.Y1), zCT, (w64 (x153 + 1)), zDT, zDP) ⟨H, zKY⟩ (.cons rfl (.cons rfl (.cons rfl (.cons rfl (.cons rfl (.cons rfl (.cons rfl (.cons rfl (.cons rfl .nil))))))))) (.cons rfl (.cons rfl .nil))))
   ·refine Tr.skip (Tr.zl (Tr.zA (Tr.region (Tr.va rfl (fun _ _ a c => QK (a.ev rfl) (a.ev rfl)) ?_))))
    exact Tr.mv rfl rfl (Tr.nil (Tr.zn Vl (x150, x151, zCT, (w64 (x153 + 1)), zDT, zDP) ⟨H, zKY⟩ (.cons rfl (.cons rfl (.cons rfl (.cons rfl (.cons rfl (.cons rfl (.cons rfl (.cons rfl (.cons rfl .nil))))))))) (.cons rfl (.cons rfl .nil))))
  ·refine Tr.exit (Tr.zk (Tr.zk (Tr.QV (Tr.zA (Tr.seq (Tr.block (Tr.loop (σ := (List ze) × (List ze) × (List ze) × Int × (Option Addr) × Nat × (Option Addr) × Nat × (Option Addr) × Nat) (fun m w s => Jh N p2 x151 m s.1 s.2.1 s.2.2.1 s.2.2.2.1 = some r ∧ Sl w.O w.W zL s.2.2.2.2.1 s.2.2.2.2.2.1 s.1 ∧ Sl w.O w.W zL s.2.2.2.2.2.2.1 s.2.2.2.2.2.2.2.1 s.2.1 ∧ SlF s.2.2.2.2.2.2.2.2.1 s.2.2.1.length s.2.2.2.2.2.2.2.2.2) (fun s => [(0, sL s.2.2.2.2.1 s.1 s.2.2.2.2.2.1), (1, sL s.2.2.2.2.2.2.1 s.2.1 s.2.2.2.2.2.2.2.1), (2, .func (.func fid2) #[] cap2.toArray), (7, sL s.2.2.2.2.2.2.2.2.1 s.2.2.1 s.2.2.2.2.2.2.2.2.2), (8, iv s.2.2.2.1), (9, iv x151)]) (fun s => [(2, ow s.2.2.2.2.2.2.2.2.1 s.2.2.2.2.2.2.2.2.2 107 zL s.2.2.1)]) N (p0, p1, ([] : List ze), x150, zC, zD, zh, zg, none, 0) ⟨H, zU, Qh, Kk⟩ (.cons rfl (.cons rfl (.cons rfl (.cons rfl (.cons rfl (.cons rfl .nil)))))) (.cons rfl .nil) (fun _ _ h => zA0 (h.1)) ?_)))))))
   intro w zE6 mL9 s hs
   obtain ⟨zX0, zKr, zB6, zCq, zbM, zav, zQC, zPu, zCO, zCE⟩ := s
   obtain ⟨H, zZ2, zT5, zZ1⟩ := hs
   replace H : Jh N p2 x151 (mL9 + 1) zX0 zKr zB6 zCq = some r := H
   replace hf2 := fun w' he => hf2 w' (zE6.ext.trans he)
   replace leB := leB.trans zE6
   replace zZ2 : Sl w.O w.W zL zbM zav zX0 := zZ2
   replace zT5 : Sl w.O w.W zL zQC zPu zKr := zT5
   replace zZ1 : SlF zCO zB6.length zCE := zZ1
   rw [Jh.eq_2] at H
   show Tr _ _ (LF [(0, sL zbM zX0 zav), (1, sL zQC zKr zPu), (2, .func (.func fid2) #[] cap2.toArray), (7, sL zCO zB6 zCE), (8, iv zCq), (9, iv x151)]) (LE [(2, ow zCO zCE 107 zL zB6)]) _
   refine Tr.seq (Tr.sr (Tr.mv rfl rfl (Tr.mv rfl rfl (Tr.va rfl (fun _ _ a c => QI (a.ev rfl) (a.ev rfl)) ?_))))
   refine Tr.nil (Tr.zA (Tr.cond rfl H (fun H => ?_) (fun H => ?_)))
   ·refine Tr.skip (Tr.zA (Tr.block (Tr.seq (Tr.block (Tr.loop (σ := (List ze) × (Option Addr) × Nat) (fun m w s => VR N p2 x151 zKr zB6 zCq (Jh N p2 x151 mL9) m s.1 = some r ∧ Sl w.O w.W zL s.2.1 s.2.2 s.1) (fun s => [(0, sL s.2.1 s.1 s.2.2), (1, sL zQC zKr zPu), (2, .func (.func fid2) #[] cap2.toArray), (7, sL zCO zB6 zCE), (8, iv zCq), (9, iv x151)]) (fun s => [(2, ow zCO zCE 107 zL zB6)]) N (zX0, zbM, zav) ⟨H, zZ2⟩ (.cons rfl (.cons rfl (.cons rfl (.cons rfl (.cons rfl (.cons rfl .nil)))))) (.cons rfl .nil) (fun _ _ h => zA0 (h.1)) ?_)))))
    intro w zGe zVR s hs
    obtain ⟨zFQ, zIZ, zIT⟩ := s
    obtain ⟨H, zD5⟩ := hs
    replace H : VR N p2 x151 zKr zB6 zCq (Jh N p2 x151 mL9) (zVR + 1) zFQ = some r := H
    replace zT5 := zT5.le zGe
    replace hf2 := fun w' he => hf2 w' (zGe.ext.trans he)
    replace zE6 := zE6.trans zGe
    replace zD5 : Sl w.O w.W zL zIZ zIT zFQ := zD5
    rw [VR.eq_2] at H
    show Tr _ _ (LF [(0, sL zIZ zFQ zIT), (1, sL zQC zKr zPu), (2, .func (.func fid2) #[] cap2.toArray), (7, sL zCO zB6 zCE), (8, iv zCq), (9, iv x151)]) (LE [(2, ow zCO zCE 107 zL zB6)]) _
    refine Tr.seq (Tr.sr (Tr.mv rfl rfl (Tr.va rfl (fun _ _ a c => QJ zFD (a.ev rfl)) ?_)))
    refine Tr.va rfl (fun _ _ a c => VY (a.ev rfl) (a.ev rfl)) ?_
    refine Tr.mv rfl rfl ?_
    obtain ⟨zcX, zQ5, H⟩ := bnd H
    refine Tr.Vr 7 [(0, sL zIZ zFQ zIT), (1, sL zQC zKr zPu), (2, .func (.func fid2) #[] cap2.toArray), (7, sL zCO zB6 zCE), (8, iv zCq), (9, iv x151), (82, bV zcX)] [(2, ow zCO zCE 107 zL zB6)] ?_ ?_
    ·cases zUE : (decide (0 < (zFQ.length : Int)))
     ·rw [zUE] at zQ5
      rw [if_neg (by decide)] at zQ5
      have H := zQ5
      obtain rfl := oI H
      refine Tr.pass rfl rfl rfl rfl rfl (by decide) ?_
      refine Tr.pass rfl rfl rfl rfl rfl (by decide) ?_
      refine Tr.pass rfl rfl rfl rfl rfl (by decide) ?_
      refine Tr.pass rfl rfl rfl rfl rfl (by decide) ?_
      refine Tr.pass rfl rfl rfl rfl rfl (by decide) ?_
      refine Tr.pass rfl rfl rfl rfl rfl (by decide) ?_
      refine Tr.va rfl (fun _ _ a c => zx (a.ev rfl) (a.ev rfl)) ?_
      exact Tr.nil (Tr.JM (.cons rfl (.cons rfl (.cons rfl (.cons rfl (.cons rfl (.cons rfl (.cons rfl .nil))))))) (.cons rfl .nil))
     ·rw [zUE] at zQ5
      rw [if_pos rfl] at zQ5
      have H := zQ5
      refine Tr.val (wg rfl rfl rfl) rfl (fun _ _ a c => run_move (a.ev rfl)) ?_
      obtain ⟨zhZ, zjJ, H⟩ := bnd H
      obtain ⟨zei, zeh, zeg⟩ := zz zjJ
      obtain ⟨zmH, hRu316, zb4, hcu316⟩ := (zD5).el zeg
      obtain ⟨zlu, zlh⟩ := zmH
      have zhE := zb4
      replace hRu316 : w.R (adB zIZ) := Or.inl hRu316
      refine Tr.val (wg rfl rfl rfl) rfl (fun _ _ a c => zM zCi (a.ev rfl) zD5.form (a.ev rfl) zei zeh) ?_
      refine Tr.val (wg rfl rfl rfl) rfl (fun _ _ a c => zB zCD (a.ev rfl)) ?_
      refine Tr.val (wg rfl rfl rfl) rfl (fun _ _ a c => zF QH (a.ev rfl) (zR.drop (rdR hRu316 hcu316 c) 1) rfl) ?_
      refine Tr.val (wg rfl rfl rfl) rfl (fun _ _ a c => run_move (a.ev rfl)) ?_
      refine Tr.val (wg rfl rfl rfl) rfl (fun _ _ a c => zAW (a.ev rfl) (a.ev rfl)) ?_
      refine Tr.va rfl (fun _ _ a c => zw (a.ev rfl) (a.ev rfl)) ?_
      obtain rfl := oI H
      exact Tr.nil (Tr.JM (.cons rfl (.cons rfl (.cons rfl (.cons rfl (.cons rfl (.cons rfl (.cons rfl .nil))))))) (.cons rfl .nil))
    ·show Tr _ _ (LF [(0, sL zIZ zFQ zIT), (1, sL zQC zKr zPu), (2, .func (.func fid2) #[] cap2.toArray), (7, sL zCO zB6 zCE), (8, iv zCq), (9, iv x151), (82, bV zcX)]) (LE [(2, ow zCO zCE 107 zL zB6)]) _
     refine Tr.nil (Tr.zA (Tr.cond rfl H (fun H => ?_) (fun H => ?_)))
     ·refine Tr.skip (Tr.zA (Tr.block (Tr.region (Tr.mv rfl rfl ?_))))
      obtain ⟨zeE, zdR, H⟩ := bnd H
      refine Tr.va rfl (fun _ _ a c => zIz zCi (a.ev rfl) zD5.form (a.ev rfl) zdR) ?_
      exact Tr.asg rfl rfl (Tr.nil (Tr.zl (Tr.zn zGe (zeE, (zH0 zIZ (1 : Int).toNat 3 zIT), (zIT - (1 : Int).toNat)) ⟨H, (Sl.cut zD5 zdR)⟩ (.cons rfl (.cons rfl (.cons rfl (.cons rfl (.cons rfl (.cons rfl .nil)))))) (.cons rfl .nil))))
     ·refine Tr.exit (Tr.zk (Tr.zk (Tr.QV (Tr.zA (Tr.seq (Tr.block (Tr.loop (σ := (List ze) × (Option Addr) × Nat) (fun m w s => VQ N p2 x151 zB6 zCq (Jh N p2 x151 mL9) zFQ m s.1 = some r ∧ Sl w.O w.W zL s.2.1 s.2.2 s.1) (fun s => [(0, sL zIZ zFQ zIT), (1, sL s.2.1 s.1 s.2.2), (2, .func (.func fid2) #[] cap2.toArray), (7, sL zCO zB6 zCE), (8, iv zCq), (9, iv x151)]) (fun s => [(2, ow zCO zCE 107 zL zB6)]) N (zKr, zQC, zPu) ⟨H, zT5⟩ (.cons rfl (.cons rfl (.cons rfl (.cons rfl (.cons rfl (.cons rfl .nil)))))) (.cons rfl .nil) (fun _ _ h => zA0 (h.1)) ?_)))))))
      intro w zWV zd9 s hs
      obtain ⟨zKq, zNZ, zNR⟩ := s
      obtain ⟨H, zFF⟩ := hs
      replace H : VQ N p2 x151 zB6 zCq (Jh N p2 x151 mL9) zFQ (zd9 + 1) zKq = some r := H
      replace zD5 := zD5.le zWV
      replace hf2 := fun w' he => hf2 w' (zWV.ext.trans he)
      replace zE6 := zE6.trans zWV
      replace zFF : Sl w.O w.W zL zNZ zNR zKq := zFF
      rw [VQ.eq_2] at H
      show Tr _ _ (LF [(0, sL zIZ zFQ zIT), (1, sL zNZ zKq zNR), (2, .func (.func fid2) #[] cap2.toArray), (7, sL zCO zB6 zCE), (8, iv zCq), (9, iv x151)]) (LE [(2, ow zCO zCE 107 zL zB6)]) _
      refine Tr.seq (Tr.sr (Tr.mv rfl rfl (Tr.va rfl (fun _ _ a c => QJ zFD (a.ev rfl)) ?_)))
      refine Tr.va rfl (fun _ _ a c => VY (a.ev rfl) (a.ev rfl)) ?_
      refine Tr.mv rfl rfl ?_
      obtain ⟨zcW, zQ4, H⟩ := bnd H
      refine Tr.Vr 7 [(0, sL zIZ zFQ zIT), (1, sL zNZ zKq zNR), (2, .func (.func fid2) #[] cap2.toArray), (7, sL zCO zB6 zCE), (8, iv zCq), (9, iv x151), (95, bV zcW)] [(2, ow zCO zCE 107 zL zB6)] ?_ ?_
      ·cases zUE : (decide (0 < (zKq.length : Int)))
       ·rw [zUE] at zQ4
        rw [if_neg (by decide)] at zQ4
        have H := zQ4
        obtain rfl := oI H
        refine Tr.pass rfl rfl rfl rfl rfl (by decide) ?_
        refine Tr.pass rfl rfl rfl rfl rfl (by decide) ?_
        refine Tr.pass rfl rfl rfl rfl rfl (by decide) ?_
        refine Tr.pass rfl rfl rfl rfl rfl (by decide) ?_
        refine Tr.pass rfl rfl rfl rfl rfl (by decide) ?_
        refine Tr.pass rfl rfl rfl rfl rfl (by decide) ?_
        refine Tr.va rfl (fun _ _ a c => zx (a.ev rfl) (a.ev rfl)) ?_
        exact Tr.nil (Tr.JM (.cons rfl (.cons rfl (.cons rfl (.cons rfl (.cons rfl (.cons rfl (.cons rfl .nil))))))) (.cons rfl .nil))
       ·rw [zUE] at zQ4
        rw [if_pos rfl] at zQ4
        have H := zQ4
        refine Tr.val (wg rfl rfl rfl) rfl (fun _ _ a c => run_move (a.ev rfl)) ?_
        obtain ⟨zXh, zZm, H⟩ := bnd H
        obtain ⟨zVY, zVX, zVW⟩ := zz zZm
        obtain ⟨zmG, hRu338, zb3, hcu338⟩ := (zFF).el zVW
        obtain ⟨zlt, zlg⟩ := zmG
        have zhD := zb3
        replace hRu338 : w.R (adB zNZ) := Or.inl hRu338
        refine Tr.val (wg rfl rfl rfl) rfl (fun _ _ a c => zM zCi (a.ev rfl) zFF.form (a.ev rfl) zVY zVX) ?_
        refine Tr.val (wg rfl rfl rfl) rfl (fun _ _ a c => zB zCD (a.ev rfl)) ?_
        refine Tr.val (wg rfl rfl rfl) rfl (fun _ _ a c => zF QH (a.ev rfl) (zR.drop (rdR hRu338 hcu338 c) 1) rfl) ?_
        refine Tr.val (wg rfl rfl rfl) rfl (fun _ _ a c => run_move (a.ev rfl)) ?_
        refine Tr.val (wg rfl rfl rfl) rfl (fun _ _ a c => zAW (a.ev rfl) (a.ev rfl)) ?_
        refine Tr.va rfl (fun _ _ a c => zw (a.ev rfl) (a.ev rfl)) ?_
        obtain rfl := oI H
        exact Tr.nil (Tr.JM (.cons rfl (.cons rfl (.cons rfl (.cons rfl (.cons rfl (.cons rfl (.cons rfl .nil))))))) (.cons rfl .nil))
      ·show Tr _ _ (LF [(0, sL zIZ zFQ zIT), (1, sL zNZ zKq zNR), (2, .func (.func fid2) #[] cap2.toArray), (7, sL zCO zB6 zCE), (8, iv zCq), (9, iv x151), (95, bV zcW)]) (LE [(2, ow zCO zCE 107 zL zB6)]) _
       refine Tr.nil (Tr.zA (Tr.cond rfl H (fun H => ?_) (fun H => ?_)))
       ·refine Tr.skip (Tr.zA (Tr.block (Tr.region (Tr.mv rfl rfl ?_))))
        obtain ⟨zeD, zdQ, H⟩ := bnd H
        refine Tr.va rfl (fun _ _ a c => zIz zCi (a.ev rfl) zFF.form (a.ev rfl) zdQ) ?_
        exact Tr.asg rfl rfl (Tr.nil (Tr.zl (Tr.zn zWV (zeD, (zH0 zNZ (1 : Int).toNat 3 zNR), (zNR - (1 : Int).toNat)) ⟨H, (Sl.cut zFF zdQ)⟩ (.cons rfl (.cons rfl (.cons rfl (.cons rfl (.cons rfl (.cons rfl .nil)))))) (.cons rfl .nil))))
       ·refine Tr.exit (Tr.zk (Tr.zk (Tr.QV (Tr.zA (Tr.sr (Tr.mv rfl rfl (Tr.mv rfl rfl (Tr.mv rfl rfl ?_))))))))
        obtain ⟨zKN, ziU, H⟩ := bnd H
        refine Tr.VT [] [] (U := (Option Addr × Nat)) (fun u => (.tuple #[sL u.1 zKN.1 u.2, iv zKN.2])) (fun O W u => Sl O W QG u.1 u.2 zKN.1) (fun u => []) rfl zf (fun _ => rfl) (wn rfl) rfl Tryz.call90 (zI rfl (zI rfl (zI rfl zT))) (fun W hW hp hE => zGH zFQ zIZ zIT (zD5.zAK (hW.QM hp)) zCq x151 zKN ziU hE) ?_
        intro w u zWW hu
        obtain ⟨zSf, zSK⟩ := u
        have gy340_0 := hu
        replace zD5 := zD5.le zWW
        replace zFF := zFF.le zWW
        replace hf2 := fun w' he => hf2 w' (zWW.ext.trans he)
        replace zE6 := zE6.trans zWW
        have zF6 : Sl w.O w.W QG zSf zSK zKN.1 := gy340_0 --@phi
        show Tr _ _ (uf _ 102 (.tuple #[sL zSf zKN.1 zSK, iv zKN.2])) (_) _
        refine Tr.mv rfl rfl (Tr.va rfl (fun _ _ a c => Qq (a.ev rfl) rfl) ?_)
        refine Tr.va rfl (fun _ _ a c => Qq (a.ev rfl) rfl) ?_
        refine Tr.asg rfl rfl (Tr.asg rfl rfl (Tr.nil (Tr.zA (Tr.sr (Tr.mv rfl rfl (Tr.mv rfl rfl (Tr.mv rfl rfl ?_)))))))
        obtain ⟨zKM, ziT, H⟩ := bnd H
        refine Tr.VT [] [] (U := (Option Addr × Nat)) (fun u => (.tuple #[sL u.1 zKM.1 u.2, iv zKM.2])) (fun O W u => Sl O W QG u.1 u.2 zKM.1) (fun u => []) rfl zf (fun _ => rfl) (wn rfl) rfl Tryz.call90 (zI rfl (zI rfl (zI rfl zT))) (fun W hW hp hE => zGH zKq zNZ zNR (zFF.zAK (hW.QM hp)) zCq x151 zKM ziT hE) ?_
        intro w u zTe hu
        obtain ⟨zSe, zSJ⟩ := u
        have gy342_0 := hu
        replace zD5 := zD5.le zTe
        replace zFF := zFF.le zTe
        replace hf2 := fun w' he => hf2 w' (zTe.ext.trans he)
        replace zF6 := zF6.le zTe
        replace zE6 := zE6.trans zTe
        have zJA : Sl w.O w.W QG zSe zSJ zKM.1 := gy342_0 --@phi
        show Tr _ _ (uf _ 109 (.tuple #[sL zSe zKM.1 zSJ, iv zKM.2])) (_) _
        refine Tr.mv rfl rfl (Tr.va rfl (fun _ _ a c => Qq (a.ev rfl) rfl) ?_)
        refine Tr.va rfl (fun _ _ a c => Qq (a.ev rfl) rfl) ?_
        refine Tr.asg rfl rfl (Tr.asg rfl rfl (Tr.nil (Tr.zA (Tr.sr (Tr.mv rfl rfl (Tr.mv rfl rfl (Tr.va rfl (fun _ _ a c => zGY (a.ev rfl) (a.ev rfl) _) ?_)))))))
        refine Tr.asg rfl rfl (Tr.nil (Tr.zA (Tr.sr (Tr.mv rfl rfl (Tr.mv rfl rfl (Tr.mv rfl rfl (Tr.mv rfl rfl (Tr.mv rfl rfl (Tr.mv rfl rfl ?_)))))))))
        obtain ⟨zK9, ziS, H⟩ := bnd H
        refine Tr.VM [12] [emp] (U := (Option Addr × Nat)) (fun u => (sL u.1 zK9 u.2)) (fun u => SlF u.1 zK9.length u.2) (fun u => [ow u.1 u.2 3 QG zK9]) rfl (zQ rfl zf) (fun _ => rfl) (wn rfl) rfl Tryz.call91 (zI rfl (zI rfl (zI rfl zT))) (fun W hW hp hE => zNk N zKN.1 zSf zSK (zF6.rl.ext (hW.QM hp)) zKM.1 zSe zSJ (zJA.rl.ext (hW.QM hp)) p2 fid2 cap2 hg2 (fun w' he => hf2 w' ((hW.QM hp).trans he)) zK9 ziS hE) ?_
        intro u hu
        obtain ⟨zKF, zJ5⟩ := u
        have gy344_0 := hu
        have zkU : SlF zKF zK9.length zJ5 := gy344_0 --@phi
        show Tr _ _ (uf _ 121 (sL zKF zK9 zJ5)) (up _ 12 (ow zKF zJ5 3 QG zK9)) _
        refine Tr.build (vs := [(0, iv zCq), (1, iv (min zKN.2 zKM.2)), (2, sL zKF zK9 zJ5)]) (cs := [iv zCq, iv (min zKN.2 zKM.2), sL zKF zK9 zJ5]) (wn rfl) rfl (zq rfl (zq rfl (zq rfl Qi))) (by kernel_rfl) ?_
        refine Tr.freeze 12 rfl fun w zQs zZU => ?_
        replace zD5 := zD5.le zQs
        replace zFF := zFF.le zQs
        replace hf2 := fun w' he => hf2 w' (zQs.ext.trans he)
        replace zF6 := zF6.le zQs
        replace zJA := zJA.le zQs
        replace zE6 := zE6.trans zQs
        obtain ⟨zNc, ziR, H⟩ := bnd H
        refine Tr.VT [2] [ow zCO zCE 107 zL zB6] (U := (Option Addr × Nat)) (fun u => (sL u.1 zNc u.2)) (fun O W u => SlF u.1 zNc.length u.2) (fun u => [ow u.1 u.2 107 zL zNc]) rfl (zQ rfl zf) (fun _ => rfl) (wn rfl) rfl Tryz.call87 (zI rfl (zI rfl zT)) (fun W hW hp hE => zCI zB6 zCO zCE (ze.mk zCq (min zKN.2 zKM.2) zK9) zKF zJ5 (zZU.zAK (hW.QM hp)) zNc ziR hE) ?_
        intro w u zPB hu
        obtain ⟨zOE, zNu⟩ := u
        have gy348_0 := hu
        replace zD5 := zD5.le zPB
        replace zFF := zFF.le zPB
        replace hf2 := fun w' he => hf2 w' (zPB.ext.trans he)
        replace zF6 := zF6.le zPB
        replace zJA := zJA.le zPB
        replace zZU := zZU.le zPB
        replace zE6 := zE6.trans zPB
        have zaE : SlF zOE zNc.length zNu := gy348_0 --@phi
        show Tr _ _ (uf _ 123 (sL zOE zNc zNu)) (up _ 2 (ow zOE zNu 107 zL zNc)) _
        exact Tr.asg rfl rfl (Tr.nil (Tr.zA (Tr.region (Tr.mv rfl rfl (Tr.asg rfl rfl (Tr.nil (Tr.zl (Tr.zn zE6 (zFQ, zKq, zNc, (min zKN.2 zKM.2), zIZ, zIT, zNZ, zNR, zOE, zNu) ⟨H, zD5, zFF, zaE⟩ (.cons rfl (.cons rfl (.cons rfl (.cons rfl (.cons rfl (.cons rfl .nil)))))) (.cons rfl .nil)))))))))
   ·refine Tr.exit (Tr.zk (Tr.zk (Tr.QV (Tr.zA (Tr.sr (Tr.mv rfl rfl (Tr.asg rfl rfl (Tr.nil (Tr.zA (Tr.ret ?_))))))))))
    obtain rfl := oI H
    exact Tr.out (m := [sL zCO zB6 zCE]) [] (zW rfl zX) (fun W hW => ⟨w, (zCO, zCE), leB, rfl, zZ1, hW.pick (ks := [2]) (by decide) (zQ rfl zf)⟩)

theorem zIB {w : Bs} (p0 : Bool) (p1 : Bool) (r : Bool) (H : Wv p0 p1 = some r) (hE : HF w w.W E0) : Calls Tryz.prog 171 [bV p0, bV p1].toArray w.W fun e W' => e = .returned (bV r) ∧ HF w W' E0 := by
 unfold Wv at H
 have leB := Bs.Le.refl w
 refine Tr.enter (n := 10) Tryz.func171 rfl rfl rfl hE ?_
 refine Tr.sr (Tr.asg rfl rfl (Tr.nil (Tr.zA (Tr.sr (Tr.mv rfl rfl (Tr.mv rfl rfl (Tr.Vr 3 [(9, bV (p0 && (!p1)))] [] ?_ ?_)))))))
 ·cases zgn : p0
  ·refine Tr.pass rfl rfl rfl rfl rfl (by decide) ?_
   refine Tr.pass rfl rfl rfl rfl rfl (by decide) ?_
   refine Tr.va rfl (fun _ _ a c => zx (a.ev rfl) (a.ev rfl)) ?_
   exact Tr.nil (Tr.JM (.cons rfl .nil) .nil)
  ·refine Tr.val (wg rfl rfl rfl) rfl (fun _ _ a c => run_move (a.ev rfl)) ?_
   refine Tr.val (wg rfl rfl rfl) rfl (fun _ _ a c => Km (a.ev rfl)) ?_
   refine Tr.va rfl (fun _ _ a c => zw (a.ev rfl) (a.ev rfl)) ?_
   exact Tr.nil (Tr.JM (.cons rfl .nil) .nil)
 ·show Tr _ _ (LF [(9, bV (p0 && (!p1)))]) (LE []) _
  refine Tr.asg rfl rfl (Tr.nil (Tr.zA (Tr.ret ?_)))
  obtain rfl := oI H
  exact Tr.out (m := [bV (p0 && (!p1))]) [] (zW rfl zX) (fun W hW => ⟨rfl, hW.low leB⟩)

theorem zJU (N : Nat) {w : Bs} (p0 : (List ze)) (zC : Option Addr) (zD : Nat) (zU : Sl w.O w.W zL zC zD p0) (p1 : (List ze)) (zh : Option Addr) (zg : Nat) (Qh : Sl w.O w.W zL zh zg p1) (r : (List ze)) (H : WX N p0 p1 = some r) (hE : HF w w.W (LEn [emp])) : Calls Tryz.prog 155 [sL zC p0 zD, sL zh p1 zg].toArray w.W fun e W' => ∃ (w' : Bs) (u : (Option Addr × Nat)), w.Le w' ∧ e = .returned (sL u.1 r u.2) ∧ (SlF u.1 r.length u.2) ∧ HF w' W' (LEn [ow u.1 u.2 107 zL r]) := by
 unfold WX at H
 have leB := Bs.Le.refl w
 refine Tr.enter (n := 8) Tryz.func155 rfl rfl rfl hE ?_
 refine Tr.sr (Tr.asg rfl rfl (Tr.JU 1 107 zL ?_))
 show Tr _ _ (uf _ 4 (sL none (([] : List ze)) 0)) _ _
 refine Tr.nil (Tr.zA (Tr.sr (Tr.mv rfl rfl (Tr.mv rfl rfl ?_))))
 obtain ⟨zy, Ws, H⟩ := bnd H
 refine Tr.VT [2] [emp] (U := (Option Addr × Nat)) (fun u => (sL u.1 zy u.2)) (fun O W u => SlF u.1 zy.length u.2) (fun u => [ow u.1 u.2 107 zL zy]) rfl (zQ rfl zf) (fun _ => rfl) (wn rfl) rfl Tryz.call61 (zI rfl (zI rfl (zI rfl zT))) (fun W hW hp hE => zHX N p0 zC zD (zU.zAK (hW.QM hp)) p1 zh zg (Qh.zAK (hW.QM hp)) (fun z0 z1 => Wv z0 z1) 171 [] Tryz.call171 (fun w' he z0 z1 y hy => zIB z0 z1 y hy (HF.start _)) zy Ws hE) ?_
 intro w u zAQ hu
 obtain ⟨QY, QX⟩ := u
 have gy100_0 := hu
 replace leB := leB.trans zAQ
 have zAR : SlF QY zy.length QX := gy100_0 --@phi
 show Tr _ _ (uf _ 7 (sL QY zy QX)) (up _ 2 (ow QY QX 107 zL zy)) _
 refine Tr.asg rfl rfl (Tr.nil (Tr.zA (Tr.ret ?_)))
 obtain rfl := oI H
 exact Tr.out (m := [sL QY zy QX]) [] (zW rfl zX) (fun W hW => ⟨w, (QY, QX), leB, rfl, zAR, hW.pick (ks := [2]) (by decide) (zQ rfl zf)⟩)

theorem zJT {w : Bs} (p0 : Bool) (p1 : Bool) (r : Bool) (H : zAr p0 p1 = some r) (hE : HF w w.W E0) : Calls Tryz.prog 62 [bV p0, bV p1].toArray w.W fun e W' => e = .returned (bV r) ∧ HF w W' E0 := by
 unfold zAr at H
 have leB := Bs.Le.refl w
 refine Tr.enter (n := 9) Tryz.func62 rfl rfl rfl hE ?_
 refine Tr.sr (Tr.asg rfl rfl (Tr.nil (Tr.zA (Tr.sr (Tr.mv rfl rfl (Tr.mv rfl rfl (Tr.Vr 2 [(8, bV (p0 || p1))] [] ?_ ?_)))))))
 ·cases zgn : p0
  ·refine Tr.val (wg rfl rfl rfl) rfl (fun _ _ a c => run_move (a.ev rfl)) ?_
   refine Tr.va rfl (fun _ _ a c => zx (a.ev rfl) (a.ev rfl)) ?_
   exact Tr.nil (Tr.JM (.cons rfl .nil) .nil)
  ·refine Tr.pass rfl rfl rfl rfl rfl (by decide) ?_
   refine Tr.va rfl (fun _ _ a c => zw (a.ev rfl) (a.ev rfl)) ?_
   exact Tr.nil (Tr.JM (.cons rfl .nil) .nil)
 ·show Tr _ _ (LF [(8, bV (p0 || p1))]) (LE []) _
  refine Tr.asg rfl rfl (Tr.nil (Tr.zA (Tr.ret ?_)))
  obtain rfl := oI H
  exact Tr.out (m := [bV (p0 || p1)]) [] (zW rfl zX) (fun W hW => ⟨rfl, hW.low leB⟩)

theorem zGI (N : Nat) {w : Bs} (p0 : (List ze)) (zC : Option Addr) (zD : Nat) (zU : Sl w.O w.W zL zC zD p0) (p1 : (List ze)) (zh : Option Addr) (zg : Nat) (Qh : Sl w.O w.W zL zh zg p1) (r : (List ze)) (H : Wl N p0 p1 = some r) (hE : HF w w.W (LEn [emp])) : Calls Tryz.prog 36 [sL zC p0 zD, sL zh p1 zg].toArray w.W fun e W' => ∃ (w' : Bs) (u : (Option Addr × Nat)), w.Le w' ∧ e = .returned (sL u.1 r u.2) ∧ (SlF u.1 r.length u.2) ∧ HF w' W' (LEn [ow u.1 u.2 107 zL r]) := by
 unfold Wl at H
 have leB := Bs.Le.refl w
 refine Tr.enter (n := 8) Tryz.func36 rfl rfl rfl hE ?_
 refine Tr.sr (Tr.asg rfl rfl (Tr.JU 1 107 zL ?_))
 show Tr _ _ (uf _ 4 (sL none (([] : List ze)) 0)) _ _
 refine Tr.nil (Tr.zA (Tr.sr (Tr.mv rfl rfl (Tr.mv rfl rfl ?_))))
 obtain ⟨zy, Ws, H⟩ := bnd H
 refine Tr.VT [2] [emp] (U := (Option Addr × Nat)) (fun u => (sL u.1 zy u.2)) (fun O W u => SlF u.1 zy.length u.2) (fun u => [ow u.1 u.2 107 zL zy]) rfl (zQ rfl zf) (fun _ => rfl) (wn rfl) rfl Tryz.call61 (zI rfl (zI rfl (zI rfl zT))) (fun W hW hp hE => zHX N p0 zC zD (zU.zAK (hW.QM hp)) p1 zh zg (Qh.zAK (hW.QM hp)) (fun z0 z1 => zAr z0 z1) 62 [] Tryz.call62 (fun w' he z0 z1 y hy => zJT z0 z1 y hy (HF.start _)) zy Ws hE) ?_
 intro w u zAQ hu
 obtain ⟨QY, QX⟩ := u
 have gy100_0 := hu
 replace leB := leB.trans zAQ
 have zAR : SlF QY zy.length QX := gy100_0 --@phi
 show Tr _ _ (uf _ 7 (sL QY zy QX)) (up _ 2 (ow QY QX 107 zL zy)) _
 refine Tr.asg rfl rfl (Tr.nil (Tr.zA (Tr.ret ?_)))
 obtain rfl := oI H
 exact Tr.out (m := [sL QY zy QX]) [] (zW rfl zX) (fun W hW => ⟨w, (QY, QX), leB, rfl, zAR, hW.pick (ks := [2]) (by decide) (zQ rfl zf)⟩)

theorem zCJ {w : Bs} (p0 : (List ze)) (zC : Option Addr) (zD : Nat) (zU : Sl w.R w.W zL zC zD p0) (r : Int) (H : WW p0 = some r) (hE : HF w w.W E0) : Calls Tryz.prog 89 [sL zC p0 zD].toArray w.W fun e W' => e = .returned (iv r) ∧ HF w W' E0 := by
 unfold WW at H
 have leB := Bs.Le.refl w
 refine Tr.enter (n := 20) Tryz.func89 rfl rfl rfl hE ?_
 refine Tr.sr (Tr.asg rfl rfl (Tr.nil (Tr.zA (Tr.sr (Tr.asg rfl rfl (Tr.nil (Tr.zA (Tr.seq (Tr.sr (Tr.mv rfl rfl ?_))))))))))
 refine Tr.va rfl (fun _ _ a c => QJ zFD (a.ev rfl)) ?_
 refine Tr.mv rfl rfl (Tr.nil (Tr.zA (Tr.block (Tr.loop (σ := (List ze) × Nat × Int) (fun m w s => m = s.1.length + 1 ∧ s.1 = List.drop s.2.1 p0 ∧ s.2.1 ≤ p0.length ∧ Jy s.1 s.2.1 s.2.2 = some r) (fun s => [(3, iv s.2.2), (6, sL zC p0 zD), (7, iv (p0.length : Int)), (8, iv (s.2.1 : Int))]) (fun s => []) (p0.length + 1) (p0, 0, 0) ⟨rfl, rfl, Nat.zero_le _, H⟩ (.cons rfl (.cons rfl (.cons rfl (.cons rfl .nil)))) .nil (fun _ _ h => absurd h.1 (by simp)) ?_))))
 intro w Qd m s hs
 obtain ⟨zY, iL1, x112⟩ := s
 obtain ⟨Kj, QF, hiL1, H⟩ := hs
 replace QF : zY = List.drop iL1 p0 := QF
 replace H : Jy zY iL1 x112 = some r := H
 replace Kj : m + 1 = zY.length + 1 := Kj
 replace zU := zU.leR Qd
 replace leB := leB.trans Qd
 obtain rfl : m = zY.length := by omega
 clear Kj
 show Tr _ _ (LF [(3, iv x112), (6, sL zC p0 zD), (7, iv (p0.length : Int)), (8, iv (iL1 : Int))]) (LE []) _
 cases zY with
 | nil =>
  rw [Jy.eq_1] at H
  refine Tr.sr (Tr.va rfl (fun _ _ a c => QI (a.ev rfl) (a.ev rfl)) ?_)
  refine Tr.nil (Tr.zA (Tr.seq (Tr.WL rfl (JS QF) ?_)))
  refine Tr.exit (Tr.zk (Tr.zk (Tr.QV (Tr.zA (Tr.sr (Tr.mv rfl rfl (Tr.asg rfl rfl (Tr.nil (Tr.zA (Tr.ret ?_))))))))))
  obtain rfl := oI H
  exact Tr.out (m := [iv x112]) [] (zW rfl zX) (fun W hW => ⟨rfl, hW.low leB⟩)
 | cons xL1 zY =>
  rw [Jy.eq_2] at H
  refine Tr.sr (Tr.va rfl (fun _ _ a c => QI (a.ev rfl) (a.ev rfl)) ?_)
  refine Tr.nil (Tr.zA (Tr.seq (Tr.WK rfl (Jt QF) ?_)))
  refine Tr.skip (Tr.zA (Tr.seq (Tr.block (Tr.sr ?_))))
  obtain ⟨zma, hRu113, zcO, hcu113⟩ := (zU).el (KL QF)
  obtain ⟨zOS, zN8⟩ := zma
  have zhO := zcO
  refine Tr.va rfl (fun _ _ a c => zM zCi (a.ev rfl) zU.form (a.ev rfl) (Int.natCast_nonneg _) (QB QF)) ?_
  refine Tr.va rfl (fun _ _ a c => zZ (cs := [iv xL1.Y0, iv xL1.Y1, sL zOS xL1.Xs zN8]) zSa zIt (a.ev rfl) (zR.take (rdR hRu113 hcu113 c) 3) rfl) ?_
  refine Tr.alloc 3 (wn rfl) rfl zUq fun zne => ?_
  refine Tr.store 3 (cs := [iv xL1.Y0, iv xL1.Y1, sL zOS xL1.Xs zN8]) [iv xL1.Y0, iv xL1.Y1, sL zOS xL1.Xs zN8] (wn rfl) rfl rfl rfl rfl zIt rfl rfl rfl ?_
  refine Tr.nil (Tr.zA (Tr.region (Tr.mv rfl rfl (Tr.va rfl (fun _ _ a c => zB zBB (a.ev rfl)) ?_))))
  refine Tr.va rfl (fun _ _ a c => zF zCx (a.ev rfl) (rdb c (vs := [iv xL1.Y0, iv xL1.Y1, sL zOS xL1.Xs zN8]) (k := 3) rfl 2) rfl) ?_
  refine Tr.va rfl (fun _ _ a c => QJ zCg (a.ev rfl)) ?_
  refine Tr.va rfl (fun _ _ a c => zWC (a.ev rfl) (a.ev rfl) (by decide)) ?_
  refine Tr.va rfl (fun _ _ a c => QK (a.ev rfl) (a.ev rfl)) ?_
  refine Tr.asg rfl rfl (Tr.nil (Tr.zl (Tr.zA (Tr.region (Tr.va rfl (fun _ _ a c => QK (a.ev rfl) (a.ev rfl)) ?_)))))
  exact Tr.mv rfl rfl (Tr.nil (Tr.zn Qd (zY, (iL1 + 1), (w64 (x112 + (w64 (Int.tdiv (xL1.Xs.length : Int) 2))))) ⟨rfl, Qu QF, QB QF, H⟩ (.cons rfl (.cons rfl (.cons rfl (.cons (congrArg (fun z => some (Value.int .i64 z)) (Qt QF zU.form)) .nil)))) .nil))

theorem zBK (N : Nat) {w : Bs} (p0 : QQ) (zC : Option Addr) (zD : Nat) (zU : Sl w.R w.W zP zC zD p0.p.Tools) (zO : Option Addr) (zN : Nat) (Qe : Sl w.R w.W zH zO zN p0.p.Steps) (QA : Option Addr) (QC : Nat) (Ka : Sl w.R w.W Qy QA QC p0.tools) (QO : Option Addr) (QN : Nat) (bp0 : Nat) (p1 : (List ze)) (zh : Option Addr) (zg : Nat) (Qh : Sl w.O w.W zL zh zg p1) (r : (Int × (List ze))) (H : Kw N p0 p1 = some r) (hE : HF w w.W (LEn [bx bp0 #[iv p0.p.Unit, sL zC p0.p.Tools zD, sL zO p0.p.Steps zN, sL QA p0.tools QC, sL QO p0.image QN, bV p0.clear, iv p0.tool, iv p0.place.X, iv p0.place.Y, bV p0.placed, iv p0.off, iv p0.on] 77, ow QO QN 107 zL p0.image])) : Calls Tryz.prog 125 [pV bp0, sL zh p1 zg].toArray w.W fun e W' => ∃ (w' : Bs) (u : (Option Addr × Nat)), w.Le w' ∧ e = .returned (iv r.1) ∧ (SlF u.1 r.2.length u.2) ∧ HF w' W' (LEn [bx bp0 #[iv p0.p.Unit, sL zC p0.p.Tools zD, sL zO p0.p.Steps zN, sL QA p0.tools QC, sL u.1 r.2 u.2, bV p0.clear, iv p0.tool, iv p0.place.X, iv p0.place.Y, bV p0.placed, iv p0.off, iv p0.on] 77, ow u.1 u.2 107 zL r.2]) := by
 unfold Kw at H
 have Wz := (hE.sl (k := 1) rfl).form
 have leB := Bs.Le.refl w
 refine Tr.enter (n := 38) Tryz.func125 rfl rfl rfl hE ?_
 refine Tr.sr (Tr.asg rfl rfl (Tr.nil (Tr.zA ?_)))
 have leJ110 := Bs.Le.refl w
 refine Tr.zMx (σ := (List ze) × (Option Addr) × Nat) (fun w s => KQ s.1 = some r ∧ SlF s.2.1 s.1.length s.2.2) (fun s => [(0, pV bp0)]) (fun s => [(0, bx bp0 #[iv p0.p.Unit, sL zC p0.p.Tools zD, sL zO p0.p.Steps zN, sL QA p0.tools QC, sL s.2.1 s.1 s.2.2, bV p0.clear, iv p0.tool, iv p0.place.X, iv p0.place.Y, bV p0.placed, iv p0.off, iv p0.on] 77), (4, ow s.2.1 s.2.2 107 zL s.1)]) ?_ ?_
 ·refine Tr.block (Tr.sr (Tr.mv rfl rfl ?_))
  obtain ⟨y113, hy113, H⟩ := bnd H
  refine Tr.JI (r := (bV y113)) (wn rfl) rfl Tryz.call154 (zI rfl zT) (fun W hW => zJV p1 zh zg (Qh.rl.ext hW.Qx) y113 hy113 (HF.start _)) ?_
  refine Tr.va rfl (fun _ _ a c => Km (a.ev rfl)) ?_
  refine Tr.asg rfl rfl (Tr.nil (Tr.zA (Tr.cond rfl H (fun H => ?_) (fun H => ?_))))
  ·refine Tr.sr (Tr.asg rfl rfl (Tr.nil (Tr.zA (Tr.ret (Tr.QT (Tr.zi ?_))))))
   obtain rfl := oI H
   exact Tr.out (m := [iv 1]) [] (zW rfl zX) (fun W hW => ⟨w, (QO, QN), leB, rfl, Wz, hW.pick (ks := [0, 1]) (by decide) (zQ rfl (zQ rfl zf))⟩)
  ·refine Tr.sr (Tr.mv rfl rfl (Tr.va rfl (fun _ _ a c => zt (a.ev rfl)) ?_))
   refine Tr.va rfl (fun _ _ a c => zB zWm (a.ev rfl)) ?_
   refine Tr.va rfl (fun _ _ a c => zF zM3 (a.ev rfl) (rdb c (vs := [iv p0.p.Unit, sL zC p0.p.Tools zD, sL zO p0.p.Steps zN, sL QA p0.tools QC, sL QO p0.image QN, bV p0.clear, iv p0.tool, iv p0.place.X, iv p0.place.Y, bV p0.placed, iv p0.off, iv p0.on]) (k := 0) rfl 5) rfl) ?_
   refine Tr.asg rfl rfl (Tr.nil (Tr.zA (Tr.cond rfl H (fun H => ?_) (fun H => ?_))))
   ·refine Tr.region (Tr.mv rfl rfl (Tr.mv rfl rfl (Tr.va rfl (fun _ _ a c => zt (a.ev rfl)) ?_)))
    refine Tr.va rfl (fun _ _ a c => zB zJ3 (a.ev rfl)) ?_
    refine Tr.va rfl (fun _ _ a c => zF zP4 (a.ev rfl) (rdb c (vs := [iv p0.p.Unit, sL zC p0.p.Tools zD, sL zO p0.p.Steps zN, sL QA p0.tools QC, sL QO p0.image QN, bV p0.clear, iv p0.tool, iv p0.place.X, iv p0.place.Y, bV p0.placed, iv p0.off, iv p0.on]) (k := 0) rfl 4) rfl) ?_
    refine Tr.mv rfl rfl (Tr.freeze 1 rfl fun w zdN zZb => ?_)
    replace Qh := Qh.le zdN
    replace leJ110 := leJ110.trans zdN
    obtain ⟨zE1, zTx, H⟩ := bnd H
    refine Tr.VT [5] [emp] (U := (Option Addr × Nat)) (fun u => (sL u.1 zE1 u.2)) (fun O W u => SlF u.1 zE1.length u.2) (fun u => [ow u.1 u.2 107 zL zE1]) rfl (zQ rfl zf) (fun _ => rfl) (wn rfl) rfl Tryz.call155 (zI rfl (zI rfl zT)) (fun W hW hp hE => zJU N p0.image QO QN (zZb.zAK (hW.QM hp)) p1 zh zg (Qh.zAK (hW.QM hp)) zE1 zTx hE) ?_
    intro w u zdM hu
    obtain ⟨zKJ, zJ9⟩ := u
    have gy116_0 := hu
    replace zZb := zZb.le zdM
    replace leJ110 := leJ110.trans zdM
    have zaS : SlF zKJ zE1.length zJ9 := gy116_0 --@phi
    show Tr _ _ (uf _ 29 (sL zKJ zE1 zJ9)) (up _ 5 (ow zKJ zJ9 107 zL zE1)) _
    refine Tr.va rfl (fun _ _ a c => zt (a.ev rfl)) ?_
    refine Tr.va rfl (fun _ _ a c => zB zJ3 (a.ev rfl)) ?_
    refine Tr.store 0 (cs := [sL zKJ zE1 zJ9]) [iv p0.p.Unit, sL zC p0.p.Tools zD, sL zO p0.p.Steps zN, sL QA p0.tools QC, sL zKJ zE1 zJ9, bV p0.clear, iv p0.tool, iv p0.place.X, iv p0.place.Y, bV p0.placed, iv p0.off, iv p0.on] (wn rfl) rfl rfl rfl rfl zYl rfl rfl rfl ?_
    refine Tr.nil (Tr.zl (Tr.ren 5 4 rfl rfl rfl ?_))
    exact Tr.zn leJ110 (zE1, zKJ, zJ9) ⟨H, zaS⟩ (.cons rfl .nil) (.cons rfl (.cons rfl .nil))
   ·refine Tr.region (Tr.mv rfl rfl (Tr.mv rfl rfl (Tr.va rfl (fun _ _ a c => zt (a.ev rfl)) ?_)))
    refine Tr.va rfl (fun _ _ a c => zB zJ3 (a.ev rfl)) ?_
    refine Tr.va rfl (fun _ _ a c => zF zP4 (a.ev rfl) (rdb c (vs := [iv p0.p.Unit, sL zC p0.p.Tools zD, sL zO p0.p.Steps zN, sL QA p0.tools QC, sL QO p0.image QN, bV p0.clear, iv p0.tool, iv p0.place.X, iv p0.place.Y, bV p0.placed, iv p0.off, iv p0.on]) (k := 0) rfl 4) rfl) ?_
    refine Tr.mv rfl rfl (Tr.freeze 1 rfl fun w zPC zIS => ?_)
    replace Qh := Qh.le zPC
    replace leJ110 := leJ110.trans zPC
    obtain ⟨zD9, zZj, H⟩ := bnd H
    refine Tr.VT [6] [emp] (U := (Option Addr × Nat)) (fun u => (sL u.1 zD9 u.2)) (fun O W u => SlF u.1 zD9.length u.2) (fun u => [ow u.1 u.2 107 zL zD9]) rfl (zQ rfl zf) (fun _ => rfl) (wn rfl) rfl Tryz.call36 (zI rfl (zI rfl zT)) (fun W hW hp hE => zGI N p0.image QO QN (zIS.zAK (hW.QM hp)) p1 zh zg (Qh.zAK (hW.QM hp)) zD9 zZj hE) ?_
    intro w u zdL hu
    obtain ⟨zKI, zJ8⟩ := u
    have gy120_0 := hu
    replace zIS := zIS.le zdL
    replace leJ110 := leJ110.trans zdL
    have zaR : SlF zKI zD9.length zJ8 := gy120_0 --@phi
    show Tr _ _ (uf _ 11 (sL zKI zD9 zJ8)) (up _ 6 (ow zKI zJ8 107 zL zD9)) _
    refine Tr.va rfl (fun _ _ a c => zt (a.ev rfl)) ?_
    refine Tr.va rfl (fun _ _ a c => zB zJ3 (a.ev rfl)) ?_
    refine Tr.store 0 (cs := [sL zKI zD9 zJ8]) [iv p0.p.Unit, sL zC p0.p.Tools zD, sL zO p0.p.Steps zN, sL QA p0.tools QC, sL zKI zD9 zJ8, bV p0.clear, iv p0.tool, iv p0.place.X, iv p0.place.Y, bV p0.placed, iv p0.off, iv p0.on] (wn rfl) rfl rfl rfl rfl zYl rfl rfl rfl ?_
    refine Tr.nil (Tr.zl (Tr.ren 6 4 rfl rfl rfl ?_))
    exact Tr.zn leJ110 (zD9, zKI, zJ8) ⟨H, zaR⟩ (.cons rfl .nil) (.cons rfl (.cons rfl .nil))
 ·intro w s hlJ111 hs
  obtain ⟨zQU, zQG, zPy⟩ := s
  obtain ⟨H, zWi⟩ := hs
  replace H : KQ zQU = some r := H
  replace leB := leB.trans hlJ111
  replace zWi : SlF zQG zQU.length zPy := zWi
  unfold KQ at H
  show Tr _ _ (LF [(0, pV bp0)]) (LE [(0, bx bp0 #[iv p0.p.Unit, sL zC p0.p.Tools zD, sL zO p0.p.Steps zN, sL QA p0.tools QC, sL zQG zQU zPy, bV p0.clear, iv p0.tool, iv p0.place.X, iv p0.place.Y, bV p0.placed, iv p0.off, iv p0.on] 77), (4, ow zQG zPy 107 zL zQU)]) _
  refine Tr.seq (Tr.sr (Tr.mv rfl rfl (Tr.va rfl (fun _ _ a c => zt (a.ev rfl)) ?_)))
  refine Tr.va rfl (fun _ _ a c => zB zJ3 (a.ev rfl)) ?_
  refine Tr.va rfl (fun _ _ a c => zF zP4 (a.ev rfl) (rdb c (vs := [iv p0.p.Unit, sL zC p0.p.Tools zD, sL zO p0.p.Steps zN, sL QA p0.tools QC, sL zQG zQU zPy, bV p0.clear, iv p0.tool, iv p0.place.X, iv p0.place.Y, bV p0.placed, iv p0.off, iv p0.on]) (k := 0) rfl 4) rfl) ?_
  obtain ⟨y112, hy112, H⟩ := bnd H
  refine Tr.JI (r := (iv y112)) (wn rfl) rfl Tryz.call89 (zI rfl zT) (fun W hW => zCJ zQU zQG zPy (hW.zEA (k := 4) rfl) y112 hy112 (HF.start _)) ?_
  refine Tr.va rfl (fun _ _ a c => VY (a.ev rfl) (a.ev rfl)) ?_
  refine Tr.nil (Tr.zA (Tr.cond rfl H (fun H => ?_) (fun H => ?_)))
  ·refine Tr.sr (Tr.asg rfl rfl (Tr.nil (Tr.zA (Tr.ret (Tr.zi ?_)))))
   obtain rfl := oI H
   exact Tr.out (m := [iv 2]) [] (zW rfl zX) (fun W hW => ⟨w, (zQG, zPy), leB, rfl, zWi, hW.pick (ks := [0, 4]) (by decide) (zQ rfl (zQ rfl zf))⟩)
  ·refine Tr.skip (Tr.zA (Tr.sr (Tr.asg rfl rfl (Tr.nil (Tr.zA (Tr.ret ?_))))))
   obtain rfl := oI H
   exact Tr.out (m := [iv 0]) [] (zW rfl zX) (fun W hW => ⟨w, (zQG, zPy), leB, rfl, zWi, hW.pick (ks := [0, 4]) (by decide) (zQ rfl (zQ rfl zf))⟩)

end Go.Proofs.YtoageaoknnnfbaaGreatDoor
