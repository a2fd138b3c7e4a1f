/- The walks: each function computes its plain function. -/
import Derived.Test.YtacapjleiadkkaaGreatXWc
namespace Go.Proofs.YtacapjleiadkkaaGreat
open Go.RowKit
set_option maxRecDepth 100000
set_option maxHeartbeats 1000000
theorem zIa {w : Bs} (p0 : (List JD)) (zF : Option Addr) (zH : Nat) (zK : Sl w.R w.W Qi zF zH p0) (r : Int) (H : zCQ p0 = some r) (hE : HF w w.W E0) : Calls Tryz.prog 58 [sL zF p0 zH].toArray w.W fun e W' => e = .returned (iv r) ∧ HF w W' E0 := by
 unfold zCQ at H
 have leB := Bs.Le.refl w
 refine Tr.enter (n := 20) Tryz.func58 rfl rfl rfl hE ?_
 refine Tr.sr (Tr.asg rfl rfl (Tr.nil (Tr.zA (Tr.sr (Tr.asg rfl rfl (Tr.nil (Tr.zA (Tr.seq (Tr.sr (Tr.mv rfl rfl ?_))))))))))
 refine Tr.va rfl (fun _ _ a c => zf zPx (a.ev rfl)) ?_
 refine Tr.mv rfl rfl (Tr.nil (Tr.zA (Tr.block (Tr.loop (σ := (List JD) × Nat × Int) (fun m w s => m = s.1.length + 1 ∧ s.1 = List.drop s.2.1 p0 ∧ s.2.1 ≤ p0.length ∧ Kg s.1 s.2.1 s.2.2 = some r) (fun s => [(3, iv s.2.2), (6, sL zF p0 zH), (7, iv (p0.length : Int)), (8, iv (s.2.1 : Int))]) (fun s => []) (p0.length + 1) (p0, 0, 0) ⟨rfl, rfl, Nat.zero_le _, H⟩ (.cons rfl (.cons rfl (.cons rfl (.cons rfl .nil)))) .nil (fun _ _ h => absurd h.1 (by simp)) ?_))))
 intro w QI m s hs
 obtain ⟨zV, iL1, x112⟩ := s
 obtain ⟨Vn, QK, hiL1, H⟩ := hs
 replace QK : zV = List.drop iL1 p0 := QK
 replace H : Kg zV iL1 x112 = some r := H
 replace Vn : m + 1 = zV.length + 1 := Vn
 replace zK := zK.leR QI
 replace leB := leB.trans QI
 obtain rfl : m = zV.length := by omega
 clear Vn
 show Tr _ _ (LF [(3, iv x112), (6, sL zF p0 zH), (7, iv (p0.length : Int)), (8, iv (iL1 : Int))]) (LE []) _
 cases zV with
 | nil =>
  rw [Kg.eq_1] at H
  refine Tr.sr (Tr.va rfl (fun _ _ a c => zh (a.ev rfl) (a.ev rfl)) ?_)
  refine Tr.nil (Tr.zA (Tr.seq (Tr.zBN rfl (KF QK) ?_)))
  refine Tr.exit (Tr.zP (Tr.zP (Tr.zl (Tr.zA (Tr.sr (Tr.mv rfl rfl (Tr.asg rfl rfl (Tr.nil (Tr.zA (Tr.ret ?_))))))))))
  obtain rfl := oI H
  exact Tr.out (m := [iv x112]) [] (zU rfl zY) (fun W hW => ⟨rfl, hW.low leB⟩)
 | cons xL1 zV =>
  rw [Kg.eq_2] at H
  refine Tr.sr (Tr.va rfl (fun _ _ a c => zh (a.ev rfl) (a.ev rfl)) ?_)
  refine Tr.nil (Tr.zA (Tr.seq (Tr.zBM rfl (VD QK) ?_)))
  refine Tr.skip (Tr.zA (Tr.seq (Tr.block (Tr.sr ?_))))
  obtain ⟨zfB, hRu113, zSD, hcu113⟩ := (zK).el (Kv QK)
  obtain ⟨zK7, zKm⟩ := zfB
  have zYu := zSD
  refine Tr.va rfl (fun _ _ a c => zD zKd (a.ev rfl) zK.form (a.ev rfl) (Int.natCast_nonneg _) (QF QK)) ?_
  refine Tr.va rfl (fun _ _ a c => ze (cs := [iv xL1.Y0, iv xL1.Y1, sL zK7 xL1.Xs zKm]) zX2 zLw (a.ev rfl) (zQ.take (rdR hRu113 hcu113 c) 3) rfl) ?_
  refine Tr.alloc 3 (wn rfl) rfl zZE fun zsR => ?_
  refine Tr.store 3 (cs := [iv xL1.Y0, iv xL1.Y1, sL zK7 xL1.Xs zKm]) [iv xL1.Y0, iv xL1.Y1, sL zK7 xL1.Xs zKm] (wn rfl) rfl rfl rfl rfl zLw rfl rfl rfl ?_
  refine Tr.nil (Tr.zA (Tr.region (Tr.mv rfl rfl (Tr.va rfl (fun _ _ a c => zB zBe (a.ev rfl)) ?_))))
  refine Tr.va rfl (fun _ _ a c => zC zAA (a.ev rfl) (rdb c (vs := [iv xL1.Y0, iv xL1.Y1, sL zK7 xL1.Xs zKm]) (k := 3) rfl 2) rfl) ?_
  refine Tr.va rfl (fun _ _ a c => zf Vu (a.ev rfl)) ?_
  refine Tr.va rfl (fun _ _ a c => zWm (a.ev rfl) (a.ev rfl) (by decide)) ?_
  refine Tr.va rfl (fun _ _ a c => zg (a.ev rfl) (a.ev rfl)) ?_
  refine Tr.asg rfl rfl (Tr.nil (Tr.zb (Tr.zA (Tr.region (Tr.va rfl (fun _ _ a c => zg (a.ev rfl) (a.ev rfl)) ?_)))))
  exact Tr.mv rfl rfl (Tr.nil (Tr.zZ QI (zV, (iL1 + 1), (w64 (x112 + (w64 (Int.tdiv (xL1.Xs.length : Int) 2))))) ⟨rfl, Jh QK, QF QK, H⟩ (.cons rfl (.cons rfl (.cons rfl (.cons (congrArg (fun z => some (Value.int .i64 z)) (Jg QK zK.form)) .nil)))) .nil))

theorem zIZ (N : Nat) {w : Bs} (p0 : (List JD)) (zF : Option Addr) (zH : Nat) (zK : Sl w.R w.W Qi zF zH p0) (r : ((List zJ) × Int)) (H : Wt N p0 = some r) (hE : HF w w.W (LEn [emp])) : Calls Tryz.prog 22 [sL zF p0 zH].toArray w.W fun e W' => ∃ u : (Option Addr × Nat), e = .returned (.tuple #[sL u.1 r.1 u.2, iv r.2]) ∧ (SlF u.1 r.1.length u.2) ∧ HF w W' (LEn [ow u.1 u.2 36 zL r.1]) := by
 unfold Wt at H
 have leB := Bs.Le.refl w
 refine Tr.enter (n := 9) Tryz.func22 rfl rfl rfl hE ?_
 refine Tr.sr (Tr.asg rfl rfl (Tr.Qb 1 36 zL ?_))
 show Tr _ _ (uf _ 2 (sL none (([] : List zJ)) 0)) _ _
 refine Tr.asg rfl rfl (Tr.nil (Tr.zA (Tr.seq (Tr.sr (Tr.mv rfl rfl ?_)))))
 obtain ⟨zN, zAQ, H⟩ := bnd H
 refine Tr.KV (r := (iv zN)) (wn rfl) rfl Tryz.call58 (zI rfl zX) (fun W hW => zIa p0 zF zH (zK.ext hW.Ky) zN zAQ (HF.start _)) ?_
 refine Tr.va rfl (fun _ _ a c => Wx (a.ev rfl) (a.ev rfl)) ?_
 refine Tr.nil (Tr.zA (Tr.cond rfl H (fun H => ?_) (fun H => ?_)))
 ·refine Tr.sr (Tr.asg rfl rfl (Tr.Qb 2 36 zL ?_))
  show Tr _ _ (uf _ 2 (sL none (([] : List zJ)) 0)) _ _
  refine Tr.asg rfl rfl (Tr.nil (Tr.zA (Tr.ret (Tr.zq ?_))))
  obtain rfl := oI H
  exact Tr.out (m := [sL none (([] : List zJ)) 0, iv 2]) [] (zU rfl (zU rfl zY)) (fun W hW => ⟨(none, 0), rfl, Jm, HF.zEF leB (hW.pick (ks := [2]) (by decide) (zn rfl zw)) ⟨Ww _ _ _ _ WW, trivial⟩⟩)
 ·refine Tr.skip (Tr.zA (Tr.sr (Tr.mv rfl rfl ?_)))
  obtain ⟨y101, hy101, H⟩ := bnd H
  refine Tr.zAi [3] [emp] (U := (Option Addr × Nat)) (fun u => (sL u.1 y101 u.2)) (fun u => SlF u.1 y101.length u.2) (fun u => [ow u.1 u.2 36 zL y101]) rfl (zn rfl zw) (fun _ => rfl) (wn rfl) rfl Tryz.call28 (zI rfl zX) (fun W hW hp hE => zD8 N p0 zF zH (zK.ext (hW.zCA hp)) y101 hy101 hE) ?_
  intro u hu
  obtain ⟨zAa, zAV⟩ := u
  have gy101_0 := hu
  have zIL : SlF zAa y101.length zAV := gy101_0 --@phi
  show Tr _ _ (uf _ 8 (sL zAa y101 zAV)) (up _ 3 (ow zAa zAV 36 zL y101)) _
  refine Tr.asg rfl rfl (Tr.asg rfl rfl (Tr.nil (Tr.zA (Tr.ret ?_))))
  obtain rfl := oI H
  exact Tr.out (m := [sL zAa y101 zAV, iv 0]) [] (zU rfl (zU rfl zY)) (fun W hW => ⟨(zAa, zAV), rfl, zIL, HF.zEF leB (hW.pick (ks := [3]) (by decide) (zn rfl zw)) ⟨Ww _ _ _ _ WW, trivial⟩⟩)

theorem zKx (N : Nat) {w : Bs} (p0 : (List (List zG))) (zF : Option Addr) (zH : Nat) (zK : Sl w.R w.W zS zF zH p0) (r : ((List zJ) × Int)) (H : zBn N p0 = some r) (hE : HF w w.W (LEn [emp])) : Calls Tryz.prog 6 [sL zF p0 zH].toArray w.W fun e W' => ∃ u : (Option Addr × Nat), e = .returned (.tuple #[sL u.1 r.1 u.2, iv r.2]) ∧ (SlF u.1 r.1.length u.2) ∧ HF w W' (LEn [ow u.1 u.2 36 zL r.1]) := by
 unfold zBn at H
 have leB := Bs.Le.refl w
 refine Tr.enter (n := 45) Tryz.func6 rfl rfl rfl hE ?_
 refine Tr.sr (Tr.asg rfl rfl (Tr.Qb 1 36 zL ?_))
 show Tr _ _ (uf _ 2 (sL none (([] : List zJ)) 0)) _ _
 refine Tr.asg rfl rfl (Tr.nil (Tr.zA (Tr.sr (Tr.asg rfl rfl (Tr.nil (Tr.zA (Tr.seq (Tr.sr (Tr.mv rfl rfl (Tr.va rfl (fun _ _ a c => zf zDX (a.ev rfl)) ?_))))))))))
 refine Tr.mv rfl rfl (Tr.nil (Tr.zA (Tr.block (Tr.loop (σ := (List (List zG)) × Nat × Int) (fun m w s => m = s.1.length + 1 ∧ s.1 = List.drop s.2.1 p0 ∧ s.2.1 ≤ p0.length ∧ Vf N p0 s.1 s.2.1 s.2.2 = some r) (fun s => [(0, sL zF p0 zH), (4, iv s.2.2), (9, sL zF p0 zH), (10, iv (p0.length : Int)), (11, iv (s.2.1 : Int))]) (fun s => []) (p0.length + 1) (p0, 0, 0) ⟨rfl, rfl, Nat.zero_le _, H⟩ (.cons rfl (.cons rfl (.cons rfl (.cons rfl (.cons rfl .nil))))) .nil (fun _ _ h => absurd h.1 (by simp)) ?_))))
 intro w QI m s hs
 obtain ⟨zV, iL1, zAm⟩ := s
 obtain ⟨Vn, QK, hiL1, H⟩ := hs
 replace QK : zV = List.drop iL1 p0 := QK
 replace H : Vf N p0 zV iL1 zAm = some r := H
 replace Vn : m + 1 = zV.length + 1 := Vn
 replace zK := zK.leR QI
 replace leB := leB.trans QI
 obtain rfl : m = zV.length := by omega
 clear Vn
 show Tr _ _ (LF [(0, sL zF p0 zH), (4, iv zAm), (9, sL zF p0 zH), (10, iv (p0.length : Int)), (11, iv (iL1 : Int))]) (LE []) _
 cases zV with
 | nil =>
  rw [Vf.eq_1] at H
  refine Tr.sr (Tr.va rfl (fun _ _ a c => zh (a.ev rfl) (a.ev rfl)) ?_)
  refine Tr.nil (Tr.zA (Tr.seq (Tr.zBN rfl (KF QK) ?_)))
  refine Tr.exit (Tr.zP (Tr.zP (Tr.zl (Tr.zA (Tr.seq (Tr.sr (Tr.mv rfl rfl (Tr.va rfl (fun _ _ a c => Wx (a.ev rfl) (a.ev rfl)) ?_))))))))
  refine Tr.nil (Tr.zA (Tr.cond rfl H (fun H => ?_) (fun H => ?_)))
  ·refine Tr.sr (Tr.asg rfl rfl (Tr.Qb 2 36 zL ?_))
   show Tr _ _ (uf _ 2 (sL none (([] : List zJ)) 0)) _ _
   refine Tr.asg rfl rfl (Tr.nil (Tr.zA (Tr.ret (Tr.zq ?_))))
   obtain rfl := oI H
   exact Tr.out (m := [sL none (([] : List zJ)) 0, iv 2]) [] (zU rfl (zU rfl zY)) (fun W hW => ⟨(none, 0), rfl, Jm, HF.zEF leB (hW.pick (ks := [2]) (by decide) (zn rfl zw)) ⟨Ww _ _ _ _ WW, trivial⟩⟩)
  ·refine Tr.skip (Tr.zA (Tr.seq (Tr.sr (Tr.mv rfl rfl (Tr.va rfl (fun _ _ a c => zf zDX (a.ev rfl)) ?_)))))
   refine Tr.mv rfl rfl (Tr.nil (Tr.zA (Tr.block (Tr.loop (σ := (List (List zG)) × Nat) (fun m w s => m = s.1.length + 1 ∧ s.1 = List.drop s.2 p0 ∧ s.2 ≤ p0.length ∧ VH N p0 s.1 s.2 = some r) (fun s => [(0, sL zF p0 zH), (22, sL zF p0 zH), (23, iv (p0.length : Int)), (24, iv (s.2 : Int))]) (fun s => []) (p0.length + 1) (p0, 0) ⟨rfl, rfl, Nat.zero_le _, H⟩ (.cons rfl (.cons rfl (.cons rfl (.cons rfl .nil)))) .nil (fun _ _ h => absurd h.1 (by simp)) ?_))))
   intro w zCs m s hs
   obtain ⟨WQ, iL2⟩ := s
   obtain ⟨zOi, zCt, hiL2, H⟩ := hs
   replace zCt : WQ = List.drop iL2 p0 := zCt
   replace H : VH N p0 WQ iL2 = some r := H
   replace zOi : m + 1 = WQ.length + 1 := zOi
   replace zK := zK.leR zCs
   replace leB := leB.trans zCs
   obtain rfl : m = WQ.length := by omega
   clear zOi
   show Tr _ _ (LF [(0, sL zF p0 zH), (22, sL zF p0 zH), (23, iv (p0.length : Int)), (24, iv (iL2 : Int))]) (LE []) _
   cases WQ with
   | nil =>
    rw [VH.eq_1] at H
    refine Tr.sr (Tr.va rfl (fun _ _ a c => zh (a.ev rfl) (a.ev rfl)) ?_)
    refine Tr.nil (Tr.zA (Tr.seq (Tr.zBN rfl (KF zCt) ?_)))
    refine Tr.exit (Tr.zP (Tr.zP (Tr.zl (Tr.zA (Tr.sr (Tr.mv rfl rfl ?_))))))
    obtain ⟨zGJ, zaT, H⟩ := bnd H
    refine Tr.zCe [6] [emp] (U := (Option Addr × Nat)) (fun u => (sL u.1 zGJ u.2)) (fun O W u => SlF u.1 zGJ.length u.2) (fun u => [ow u.1 u.2 67 Qi zGJ]) rfl (zn rfl zw) (fun _ => rfl) (wn rfl) rfl Tryz.call21 (zI rfl zX) (fun W hW hp hE => zKy N p0 zF zH (zK.ext (hW.zCA hp)) zGJ zaT hE) ?_
    intro w u zl6 hu
    obtain ⟨zNX, zM5⟩ := u
    have gy116_0 := hu
    replace leB := leB.trans zl6
    have zpP : SlF zNX zGJ.length zM5 := gy116_0 --@phi
    show Tr _ _ (uf _ 41 (sL zNX zGJ zM5)) (up _ 6 (ow zNX zM5 67 Qi zGJ)) _
    obtain ⟨zGU, zm7, H⟩ := bnd H
    refine Tr.zAi [7] [emp] (U := (Option Addr × Nat)) (fun u => (.tuple #[sL u.1 zGU.1 u.2, iv zGU.2])) (fun u => SlF u.1 zGU.1.length u.2) (fun u => [ow u.1 u.2 36 zL zGU.1]) rfl (zn rfl zw) (fun _ => rfl) (wn rfl) rfl Tryz.call22 (zI rfl zX) (fun W hW hp hE => zIZ N zGJ zNX zM5 (hW.slS (k := 6) rfl hp rfl) zGU zm7 hE) ?_
    intro u hu
    obtain ⟨zK4, zKi⟩ := u
    have gy118_0 := hu
    have zbN : SlF zK4 zGU.1.length zKi := gy118_0 --@phi
    show Tr _ _ (uf _ 42 (.tuple #[sL zK4 zGU.1 zKi, iv zGU.2])) (up _ 7 (ow zK4 zKi 36 zL zGU.1)) _
    refine Tr.va rfl (fun _ _ a c => VZ (a.ev rfl) rfl) ?_
    refine Tr.va rfl (fun _ _ a c => VZ (a.ev rfl) rfl) ?_
    refine Tr.asg rfl rfl (Tr.asg rfl rfl (Tr.nil (Tr.zA (Tr.ret ?_))))
    obtain rfl := oI H
    exact Tr.out (m := [sL zK4 zGU.1 zKi, iv zGU.2]) [] (zU rfl (zU rfl zY)) (fun W hW => ⟨(zK4, zKi), rfl, zbN, HF.zEF leB (hW.pick (ks := [7]) (by decide) (zn rfl zw)) ⟨Ww _ _ _ _ WW, trivial⟩⟩)
   | cons xL2 WQ =>
    rw [VH.eq_2] at H
    refine Tr.sr (Tr.va rfl (fun _ _ a c => zh (a.ev rfl) (a.ev rfl)) ?_)
    refine Tr.nil (Tr.zA (Tr.seq (Tr.zBM rfl (VD zCt) ?_)))
    refine Tr.skip (Tr.zA (Tr.seq (Tr.block (Tr.sr ?_))))
    obtain ⟨zq7, hRu120, zdN, hcu120⟩ := (zK).el (Kv zCt)
    obtain ⟨zSp, zSX⟩ := zq7
    have zIv := zdN
    replace zIv : Sl w.R w.W zz zSp zSX xL2 := zIv
    refine Tr.va rfl (fun _ _ a c => zD zCl (a.ev rfl) zK.form (a.ev rfl) (Int.natCast_nonneg _) (QF zCt)) ?_
    refine Tr.va rfl (fun _ _ a c => zC zDJ (a.ev rfl) (rdR hRu120 hcu120 c) rfl) ?_
    refine Tr.asg rfl rfl (Tr.nil (Tr.zA (Tr.block (Tr.sr (Tr.mv rfl rfl (Tr.va rfl (fun _ _ a c => zf zBI (a.ev rfl)) ?_))))))
    refine Tr.va rfl (fun _ _ a c => zh (a.ev rfl) (a.ev rfl)) ?_
    refine Tr.asg rfl rfl (Tr.nil (Tr.zA (Tr.cond rfl H (fun H => ?_) (fun H => ?_))))
    ·refine Tr.sr (Tr.asg rfl rfl (Tr.Qb 8 36 zL ?_))
     show Tr _ _ (uf _ 2 (sL none (([] : List zJ)) 0)) _ _
     refine Tr.asg rfl rfl (Tr.nil (Tr.zA (Tr.ret (Tr.QY (Tr.QY (Tr.zq (Tr.zq (Tr.QY (Tr.zq ?_)))))))))
     obtain rfl := oI H
     exact Tr.out (m := [sL none (([] : List zJ)) 0, iv 3]) [] (zU rfl (zU rfl zY)) (fun W hW => ⟨(none, 0), rfl, Jm, HF.zEF leB (hW.pick (ks := [8]) (by decide) (zn rfl zw)) ⟨Ww _ _ _ _ WW, trivial⟩⟩)
    ·refine Tr.sr (Tr.mv rfl rfl ?_)
     obtain ⟨zcM, zm6, H⟩ := bnd H
     refine Tr.KV (r := (bV zcM)) (wn rfl) rfl Tryz.call17 (zI rfl (zI rfl zX)) (fun W hW => zEK xL2 zSp zSX (zIv.ext hW.Ky) (fun z0 => WA z0) 18 [] Tryz.call18 (fun w' he z0 y hy => zJI z0 y hy (HF.start _)) zcM zm6 (HF.start _)) ?_
     refine Tr.asg rfl rfl (Tr.nil (Tr.zA (Tr.cond rfl H (fun H => ?_) (fun H => ?_))))
     ·refine Tr.sr (Tr.asg rfl rfl (Tr.Qb 9 36 zL ?_))
      show Tr _ _ (uf _ 2 (sL none (([] : List zJ)) 0)) _ _
      refine Tr.asg rfl rfl (Tr.nil (Tr.zA (Tr.ret (Tr.QY (Tr.QY (Tr.zq (Tr.zq (Tr.QY (Tr.zq ?_)))))))))
      obtain rfl := oI H
      exact Tr.out (m := [sL none (([] : List zJ)) 0, iv 1]) [] (zU rfl (zU rfl zY)) (fun W hW => ⟨(none, 0), rfl, Jm, HF.zEF leB (hW.pick (ks := [9]) (by decide) (zn rfl zw)) ⟨Ww _ _ _ _ WW, trivial⟩⟩)
     ·refine Tr.sr (Tr.mv rfl rfl ?_)
      obtain ⟨VM, zTg, H⟩ := bnd H
      refine Tr.KV (r := (bV VM)) (wn rfl) rfl Tryz.call20 (zI rfl zX) (fun W hW => zLt xL2 zSp zSX (zIv.ext hW.Ky) VM zTg (HF.start _)) ?_
      refine Tr.va rfl (fun _ _ a c => Wm (a.ev rfl)) ?_
      refine Tr.asg rfl rfl (Tr.nil (Tr.zA (Tr.cond rfl H (fun H => ?_) (fun H => ?_))))
      ·refine Tr.sr (Tr.asg rfl rfl (Tr.Qb 10 36 zL ?_))
       show Tr _ _ (uf _ 2 (sL none (([] : List zJ)) 0)) _ _
       refine Tr.asg rfl rfl (Tr.nil (Tr.zA (Tr.ret (Tr.QY (Tr.QY (Tr.zq (Tr.zq (Tr.QY (Tr.zq ?_)))))))))
       obtain rfl := oI H
       exact Tr.out (m := [sL none (([] : List zJ)) 0, iv 3]) [] (zU rfl (zU rfl zY)) (fun W hW => ⟨(none, 0), rfl, Jm, HF.zEF leB (hW.pick (ks := [10]) (by decide) (zn rfl zw)) ⟨Ww _ _ _ _ WW, trivial⟩⟩)
      ·refine Tr.skip (Tr.zb (Tr.zb (Tr.zA (Tr.region (Tr.va rfl (fun _ _ a c => zg (a.ev rfl) (a.ev rfl)) ?_)))))
       exact Tr.mv rfl rfl (Tr.nil (Tr.zZ zCs (WQ, (iL2 + 1)) ⟨rfl, Jh zCt, QF zCt, H⟩ (.cons rfl (.cons rfl (.cons rfl (.cons (congrArg (fun z => some (Value.int .i64 z)) (Jg zCt zK.form)) .nil)))) .nil))
 | cons xL1 zV =>
  rw [Vf.eq_2] at H
  refine Tr.sr (Tr.va rfl (fun _ _ a c => zh (a.ev rfl) (a.ev rfl)) ?_)
  refine Tr.nil (Tr.zA (Tr.seq (Tr.zBM rfl (VD QK) ?_)))
  refine Tr.skip (Tr.zA (Tr.seq (Tr.block (Tr.sr ?_))))
  obtain ⟨zq6, hRu123, zdM, hcu123⟩ := (zK).el (Kv QK)
  obtain ⟨zqe, zqX⟩ := zq6
  have zlA := zdM
  refine Tr.va rfl (fun _ _ a c => zD zCl (a.ev rfl) zK.form (a.ev rfl) (Int.natCast_nonneg _) (QF QK)) ?_
  refine Tr.va rfl (fun _ _ a c => zC zDJ (a.ev rfl) (rdR hRu123 hcu123 c) rfl) ?_
  refine Tr.asg rfl rfl (Tr.nil (Tr.zA (Tr.region (Tr.mv rfl rfl (Tr.mv rfl rfl (Tr.va rfl (fun _ _ a c => zf zBI (a.ev rfl)) ?_))))))
  refine Tr.va rfl (fun _ _ a c => zg (a.ev rfl) (a.ev rfl)) ?_
  refine Tr.asg rfl rfl (Tr.nil (Tr.zb (Tr.zA (Tr.region (Tr.va rfl (fun _ _ a c => zg (a.ev rfl) (a.ev rfl)) ?_)))))
  exact Tr.mv rfl rfl (Tr.nil (Tr.zZ QI (zV, (iL1 + 1), (w64 (zAm + (xL1.length : Int)))) ⟨rfl, Jh QK, QF QK, H⟩ (.cons rfl (.cons rfl (.cons rfl (.cons rfl (.cons (congrArg (fun z => some (Value.int .i64 z)) (Jg QK zK.form)) .nil))))) .nil))

theorem zFm {w : Bs} (p0 : zG) (r : Bool) (H : We p0 = some r) (hE : HF w w.W E0) : Calls Tryz.prog 59 [.agg #[iv p0.X, iv p0.Y]].toArray w.W fun e W' => e = .returned (bV r) ∧ HF w W' E0 := by
 unfold We at H
 have leB := Bs.Le.refl w
 refine Tr.enter (n := 11) Tryz.func59 rfl rfl rfl hE ?_
 refine Tr.sr (Tr.box 1 (cs := [iv p0.X, iv p0.Y]) (wn rfl) rfl rfl rfl fun QQ => ?_)
 refine Tr.asg rfl rfl (Tr.nil (Tr.zA (Tr.sr (Tr.va rfl (fun _ _ a c => zB Wo (a.ev rfl)) ?_))))
 refine Tr.va rfl (fun _ _ a c => zC QA (a.ev rfl) (rdb c (vs := [iv p0.X, iv p0.Y]) (k := 1) rfl 0) rfl) ?_
 obtain ⟨y101, hy101, H⟩ := bnd H
 refine Tr.KV (r := (bV y101)) (wn rfl) rfl Tryz.call80 (zI rfl zX) (fun W hW => WL p0.X y101 hy101 (HF.start _)) ?_
 refine Tr.mv rfl rfl ?_
 obtain ⟨zIM, zDH, H⟩ := bnd H
 refine Tr.zBy 4 [(10, bV zIM)] [(1, bx QQ #[iv p0.X, iv p0.Y] 33)] ?_ ?_
 ·cases zHf : y101
  ·rw [zHf] at zDH
   rw [if_neg (by decide)] at zDH
   have H := zDH
   obtain rfl := oI H
   refine Tr.pass rfl rfl rfl rfl rfl (by decide) ?_
   refine Tr.pass rfl rfl rfl rfl rfl (by decide) ?_
   refine Tr.pass rfl rfl rfl rfl rfl (by decide) ?_
   refine Tr.va rfl (fun _ _ a c => zy (a.ev rfl) (a.ev rfl)) ?_
   exact Tr.nil (Tr.VW (.cons rfl .nil) (.cons rfl .nil))
  ·rw [zHf] at zDH
   rw [if_pos rfl] at zDH
   have H := zDH
   refine Tr.val (wg rfl rfl rfl) rfl (fun _ _ a c => zB VP (a.ev rfl)) ?_
   refine Tr.val (wg rfl rfl rfl) rfl (fun _ _ a c => zC QA (a.ev rfl) (rdb c (vs := [iv p0.X, iv p0.Y]) (k := 1) rfl 1) rfl) ?_
   obtain ⟨y104, hy104, H⟩ := bnd H
   refine Tr.KV (r := (bV y104)) (wg rfl rfl rfl) rfl Tryz.call80 (zI rfl zX) (fun W hW => WL p0.Y y104 hy104 (HF.start _)) ?_
   refine Tr.va rfl (fun _ _ a c => zx (a.ev rfl) (a.ev rfl)) ?_
   obtain rfl := oI H
   exact Tr.nil (Tr.VW (.cons rfl .nil) (.cons rfl .nil))
 ·show Tr _ _ (LF [(10, bV zIM)]) (LE [(1, bx QQ #[iv p0.X, iv p0.Y] 33)]) _
  refine Tr.asg rfl rfl (Tr.nil (Tr.zA (Tr.ret ?_)))
  obtain rfl := oI H
  exact Tr.out (m := [bV zIM]) [] (zU rfl zY) (fun W hW => ⟨rfl, hW.low leB⟩)

theorem zFB (N : Nat) {w : Bs} (p0 : (List zG)) (zF : Option Addr) (zH : Nat) (zK : Sl w.R w.W zz zF zH p0) (r : Int) (H : WN N p0 = some r) (hE : HF w w.W E0) : Calls Tryz.prog 23 [sL zF p0 zH].toArray w.W fun e W' => e = .returned (iv r) ∧ HF w W' E0 := by
 unfold WN at H
 have leB := Bs.Le.refl w
 refine Tr.enter (n := 51) Tryz.func23 rfl rfl rfl hE ?_
 refine Tr.sr (Tr.asg rfl rfl (Tr.nil (Tr.zA (Tr.seq (Tr.sr (Tr.mv rfl rfl (Tr.va rfl (fun _ _ a c => zf zBI (a.ev rfl)) ?_)))))))
 refine Tr.va rfl (fun _ _ a c => zh (a.ev rfl) (a.ev rfl)) ?_
 refine Tr.nil (Tr.zA (Tr.cond rfl H (fun H => ?_) (fun H => ?_)))
 ·refine Tr.sr (Tr.asg rfl rfl (Tr.nil (Tr.zA (Tr.ret (Tr.zq ?_)))))
  obtain rfl := oI H
  exact Tr.out (m := [iv 3]) [] (zU rfl zY) (fun W hW => ⟨rfl, hW.low leB⟩)
 ·refine Tr.skip (Tr.zA (Tr.seq (Tr.sr (Tr.asg rfl rfl (Tr.nil (Tr.zA (Tr.block (Tr.loop (σ := Int) (fun m w s => JZ N p0 m s = some r) (fun s => [(0, sL zF p0 zH), (3, iv s)]) (fun s => []) N 0 H (.cons rfl (.cons rfl .nil)) .nil (fun _ _ h => KG (h)) ?_))))))))
  intro w QI mL1 x107 hs
  have H := hs
  replace H : JZ N p0 (mL1 + 1) x107 = some r := H
  replace zK := zK.leR QI
  replace leB := leB.trans QI
  rw [JZ.eq_2] at H
  show Tr _ _ (LF [(0, sL zF p0 zH), (3, iv x107)]) (LE []) _
  refine Tr.seq (Tr.sr (Tr.mv rfl rfl (Tr.mv rfl rfl (Tr.va rfl (fun _ _ a c => zf zBI (a.ev rfl)) ?_))))
  refine Tr.va rfl (fun _ _ a c => zh (a.ev rfl) (a.ev rfl)) ?_
  refine Tr.nil (Tr.zA (Tr.cond rfl H (fun H => ?_) (fun H => ?_)))
  ·refine Tr.skip (Tr.zA (Tr.seq (Tr.block (Tr.sr (Tr.mv rfl rfl (Tr.mv rfl rfl ?_))))))
   obtain ⟨Vt, zIJ, H⟩ := bnd H
   obtain ⟨zFZ, zFY, zFX⟩ := zO zIJ
   refine Tr.va rfl (fun _ _ a c => zD zAh (a.ev rfl) zK.form (a.ev rfl) zFZ zFY) ?_
   refine Tr.va rfl (fun _ _ a c => ze (cs := [iv Vt.X, iv Vt.Y]) WP KI (a.ev rfl) (zQ.take (rdF Jb zK zFX c) 2) rfl) ?_
   obtain ⟨zRZ, zaV, H⟩ := bnd H
   refine Tr.KV (r := (bV zRZ)) (wn rfl) rfl Tryz.call59 (zI rfl zX) (fun W hW => zFm Vt zRZ zaV (HF.start _)) ?_
   refine Tr.va rfl (fun _ _ a c => Wm (a.ev rfl)) ?_
   refine Tr.nil (Tr.zA (Tr.cond rfl H (fun H => ?_) (fun H => ?_)))
   ·refine Tr.sr (Tr.asg rfl rfl (Tr.nil (Tr.zA (Tr.ret (Tr.QY (Tr.zq (Tr.zq (Tr.QY (Tr.zq ?_)))))))))
    obtain rfl := oI H
    exact Tr.out (m := [iv 1]) [] (zU rfl zY) (fun W hW => ⟨rfl, hW.low leB⟩)
   ·refine Tr.skip (Tr.zb (Tr.zA (Tr.region (Tr.mv rfl rfl (Tr.va rfl (fun _ _ a c => zg (a.ev rfl) (a.ev rfl)) ?_)))))
    exact Tr.asg rfl rfl (Tr.nil (Tr.zZ QI (w64 (x107 + 1)) H (.cons rfl (.cons rfl .nil)) .nil))
  ·refine Tr.exit (Tr.zP (Tr.zP (Tr.zl (Tr.zA (Tr.seq (Tr.sr (Tr.asg rfl rfl (Tr.nil (Tr.zA (Tr.block (Tr.loop (σ := Int) (fun m w s => JY p0 m s = some r) (fun s => [(0, sL zF p0 zH), (4, iv s)]) (fun s => []) N 0 H (.cons rfl (.cons rfl .nil)) .nil (fun _ _ h => KG (h)) ?_)))))))))))
   intro w zCs mL2 Vk hs
   have H := hs
   replace H : JY p0 (mL2 + 1) Vk = some r := H
   replace zK := zK.leR zCs
   replace leB := leB.trans zCs
   rw [JY.eq_2] at H
   show Tr _ _ (LF [(0, sL zF p0 zH), (4, iv Vk)]) (LE []) _
   refine Tr.seq (Tr.sr (Tr.mv rfl rfl (Tr.mv rfl rfl (Tr.va rfl (fun _ _ a c => zf zBI (a.ev rfl)) ?_))))
   refine Tr.va rfl (fun _ _ a c => zh (a.ev rfl) (a.ev rfl)) ?_
   refine Tr.nil (Tr.zA (Tr.cond rfl H (fun H => ?_) (fun H => ?_)))
   ·refine Tr.skip (Tr.zA (Tr.seq (Tr.block (Tr.seq (Tr.zJQ 15 [] [14] (by kernel_rfl) (by kernel_rfl) fun zWf zal zqO => ?_)))))
    refine Dr.quiet 0 [(28, sL zF p0 zH)] (by kernel_rfl) rfl rfl (by kernel_rfl) ?_ rfl rfl ?_
    ·exact Tq.mv rfl rfl (Tq.fin (.cons rfl .nil))
    refine Dr.quiet 1 [(29, iv Vk)] (by kernel_rfl) rfl rfl (by kernel_rfl) ?_ rfl rfl ?_
    ·exact Tq.mv rfl rfl (Tq.fin (.cons rfl .nil))
    obtain ⟨zAb, zTj, H⟩ := bnd H
    obtain ⟨zOS, zOR, zOQ⟩ := zO zTj
    refine Dr.quiet 2 [(30, .pointer (some ⟨adB zF, adO zF + (Vk).toNat * 2, none⟩))] (by kernel_rfl) rfl rfl (by kernel_rfl) ?_ rfl rfl ?_
    ·refine Tq.va rfl (fun _ _ a c => zD zAh (a.ev rfl) zK.form (a.ev rfl) zOS zOR) ?_
     exact Tq.fin (.cons rfl .nil)
    refine Dr.quiet 3 [(31, .agg #[iv zAb.X, iv zAb.Y])] (by kernel_rfl) rfl rfl (by kernel_rfl) ?_ rfl rfl ?_
    ·refine Tq.va rfl (fun _ _ a c => ze (cs := [iv zAb.X, iv zAb.Y]) WP KI (a.ev rfl) (zQ.take (rdF Jb zK zOQ c) 2) rfl) ?_
     exact Tq.fin (.cons rfl .nil)
    refine Dr.Wh 4 (by kernel_rfl) rfl (wn rfl) rfl (by kernel_rfl) (fun _ _ a => run_move (a.ev rfl)) rfl ?_
    refine Dr.Wh 5 (by kernel_rfl) rfl (wn rfl) rfl (by kernel_rfl) (fun _ _ a => run_move (a.ev rfl)) rfl ?_
    refine Dr.Wh 6 (by kernel_rfl) rfl (wn rfl) rfl (by kernel_rfl) (fun _ _ a => zg (a.ev rfl) (a.ev rfl)) rfl ?_
    refine Dr.Wh 7 (by kernel_rfl) rfl (wn rfl) rfl (by kernel_rfl) (fun _ _ a => run_move (a.ev rfl)) rfl ?_
    refine Dr.Wh 8 (by kernel_rfl) rfl (wn rfl) rfl (by kernel_rfl) (fun _ _ a => zf zBI (a.ev rfl)) rfl ?_
    obtain ⟨q130, zod, H⟩ := bnd H
    refine Dr.Wh 9 (by kernel_rfl) rfl (wn rfl) rfl (by kernel_rfl) (fun _ _ a => zLI (a.ev rfl) (a.ev rfl) zod) rfl ?_
    obtain ⟨zEA, zac, H⟩ := bnd H
    obtain ⟨zVn, zVm, zVl⟩ := zO zac
    refine Dr.Wh 10 (by kernel_rfl) rfl (wn rfl) rfl (by kernel_rfl) (fun _ _ a => zD zAh (a.ev rfl) zK.form (a.ev rfl) zVn zVm) rfl ?_
    refine Dr.zED 11 [(39, .agg #[iv zEA.X, iv zEA.Y])] [] true (by kernel_rfl) rfl rfl (by kernel_rfl) (fun W W' c hsW hk => HF.zHc (le := []) (ks := []) (s0 := zWf) true c hk (fun _ => zal) .nil (fun b hb => hb.elim (fun ⟨_, hp, _⟩ => nomatch hp) (fun hb => .inr ⟨rfl, hb.2, (fun _ h => nomatch h)⟩)) (fun _ h => nomatch h) rfl) ?_ rfl rfl ?_
    ·refine Tq.va rfl (fun _ _ a c => ze (cs := [iv zEA.X, iv zEA.Y]) WP KI (a.ev rfl) (zQ.take (rdF Jb zK zVl c) 2) rfl) ?_
     exact Tq.fin (.cons rfl .nil)
    refine Dr.cut (U := Nat × Nat) [12, 13] 1 (fun u => zWf ≤ u.1 ∧ zWf ≤ u.2) (fun u => [(0, sL zF p0 zH), (4, iv Vk), (5, .pointer (some ⟨u.1, 0, none⟩)), (6, .pointer (some ⟨u.2, 0, none⟩)), (22, iv Vk), (23, sL zF p0 zH), (24, iv (p0.length : Int)), (25, bV (decide (Vk < (p0.length : Int)))), (28, sL zF p0 zH), (29, iv Vk), (30, .pointer (some ⟨adB zF, adO zF + (Vk).toNat * 2, none⟩)), (31, .agg #[iv zAb.X, iv zAb.Y]), (32, sL zF p0 zH), (33, iv Vk), (34, iv (w64 (Vk + 1))), (35, sL zF p0 zH), (36, iv (p0.length : Int)), (37, iv q130), (38, .pointer (some ⟨adB zF, adO zF + (q130).toNat * 2, none⟩)), (39, .agg #[iv zEA.X, iv zEA.Y])]) (fun u => [(5, bx u.1 #[iv 0, iv 0] 33), (6, bx u.2 #[iv 0, iv 0] 33)]) ?_ ?_
    ·intro hC
     refine Dr.pair 12 13 (by kernel_rfl) ?_ ?_
     ·refine St.alloc 12 5 rfl (wn rfl) rfl zDS fun zWQ zOt => ?_
      refine Dr.one 13 (by kernel_rfl) ?_
      refine St.alloc 13 6 rfl (wn rfl) rfl zDS fun zWP zXS => ?_
      exact (hC ⟨zWQ, zWP⟩ ⟨zOt, zXS⟩).use (by kernel_rfl) (.cons rfl (.cons rfl (.cons rfl (.cons rfl (.cons rfl (.cons rfl (.cons rfl (.cons rfl (.cons rfl (.cons rfl (.cons rfl (.cons rfl (.cons rfl (.cons rfl (.cons rfl (.cons rfl (.cons rfl (.cons rfl (.cons rfl (.cons rfl .nil)))))))))))))))))))) (.cons rfl (.cons rfl .nil))
     ·refine St.alloc 13 6 rfl (wn rfl) rfl zDS fun zWP zXS => ?_
      refine Dr.one 12 (by kernel_rfl) ?_
      refine St.alloc 12 5 rfl (wn rfl) rfl zDS fun zWQ zOt => ?_
      exact (hC ⟨zWQ, zWP⟩ ⟨zOt, zXS⟩).use (by kernel_rfl) (.cons rfl (.cons rfl (.cons rfl (.cons rfl (.cons rfl (.cons rfl (.cons rfl (.cons rfl (.cons rfl (.cons rfl (.cons rfl (.cons rfl (.cons rfl (.cons rfl (.cons rfl (.cons rfl (.cons rfl (.cons rfl (.cons rfl (.cons rfl .nil)))))))))))))))))))) (.cons rfl (.cons rfl .nil))
    intro u hu
    obtain ⟨zWQ, zWP⟩ := u
    obtain ⟨zOt, zXS⟩ := hu
    replace zOt : zWf ≤ zWQ := zOt
    show Dr _ _ _ _ _ _ _ _ _ (LF [(0, sL zF p0 zH), (4, iv Vk), (5, pV zWQ), (6, pV zWP), (22, iv Vk), (23, sL zF p0 zH), (24, iv (p0.length : Int)), (25, bV (decide (Vk < (p0.length : Int)))), (28, sL zF p0 zH), (29, iv Vk), (30, .pointer (some ⟨adB zF, adO zF + (Vk).toNat * 2, none⟩)), (31, .agg #[iv zAb.X, iv zAb.Y]), (32, sL zF p0 zH), (33, iv Vk), (34, iv (w64 (Vk + 1))), (35, sL zF p0 zH), (36, iv (p0.length : Int)), (37, iv q130), (38, .pointer (some ⟨adB zF, adO zF + (q130).toNat * 2, none⟩)), (39, .agg #[iv zEA.X, iv zEA.Y])]) (LE [(5, bx zWQ #[iv 0, iv 0] 33), (6, bx zWP #[iv 0, iv 0] 33)])
    refine Dr.one 14 (by kernel_rfl) ?_
    refine St.store 14 5 (cs := [iv zAb.X, iv zAb.Y]) [iv zAb.X, iv zAb.Y] rfl (wn rfl) (.inr ⟨by simp, zOt⟩) rfl rfl rfl rfl KI rfl rfl rfl ?_
    refine Dr.tail (by kernel_rfl) ?_
    refine Tr.store 6 (cs := [iv zEA.X, iv zEA.Y]) [iv zEA.X, iv zEA.Y] (wn rfl) rfl rfl rfl rfl KI rfl rfl rfl ?_
    refine Tr.nil (Tr.zA (Tr.sr (Tr.va rfl (fun _ _ a c => zB Wo (a.ev rfl)) ?_)))
    refine Tr.va rfl (fun _ _ a c => zC QA (a.ev rfl) (rdb c (vs := [iv zAb.X, iv zAb.Y]) (k := 5) rfl 0) rfl) ?_
    refine Tr.va rfl (fun _ _ a c => zB Wo (a.ev rfl)) ?_
    refine Tr.va rfl (fun _ _ a c => zC QA (a.ev rfl) (rdb c (vs := [iv zEA.X, iv zEA.Y]) (k := 6) rfl 0) rfl) ?_
    refine Tr.va rfl (fun _ _ a c => Vv (a.ev rfl) (a.ev rfl)) ?_
    refine Tr.va rfl (fun _ _ a c => zB VP (a.ev rfl)) ?_
    refine Tr.va rfl (fun _ _ a c => zC QA (a.ev rfl) (rdb c (vs := [iv zAb.X, iv zAb.Y]) (k := 5) rfl 1) rfl) ?_
    refine Tr.va rfl (fun _ _ a c => zB VP (a.ev rfl)) ?_
    refine Tr.va rfl (fun _ _ a c => zC QA (a.ev rfl) (rdb c (vs := [iv zEA.X, iv zEA.Y]) (k := 6) rfl 1) rfl) ?_
    refine Tr.va rfl (fun _ _ a c => Vv (a.ev rfl) (a.ev rfl)) ?_
    refine Tr.va rfl (fun _ _ a c => zTC ze9 (a.ev rfl) (a.ev rfl)) ?_
    refine Tr.nil (Tr.zA (Tr.cond rfl H (fun H => ?_) (fun H => ?_)))
    ·refine Tr.sr (Tr.asg rfl rfl (Tr.nil (Tr.zA (Tr.ret (Tr.QY (Tr.zq (Tr.zq (Tr.QY (Tr.zq ?_)))))))))
     obtain rfl := oI H
     exact Tr.out (m := [iv 3]) [] (zU rfl zY) (fun W hW => ⟨rfl, hW.low leB⟩)
    ·refine Tr.skip (Tr.zb (Tr.zA (Tr.region (Tr.mv rfl rfl (Tr.va rfl (fun _ _ a c => zg (a.ev rfl) (a.ev rfl)) ?_)))))
     exact Tr.asg rfl rfl (Tr.nil (Tr.zZ zCs (w64 (Vk + 1)) H (.cons rfl (.cons rfl .nil)) .nil))
   ·refine Tr.exit (Tr.zP (Tr.zP (Tr.zl (Tr.zA (Tr.sr (Tr.asg rfl rfl (Tr.nil (Tr.zA (Tr.ret ?_)))))))))
    obtain rfl := oI H
    exact Tr.out (m := [iv 0]) [] (zU rfl zY) (fun W hW => ⟨rfl, hW.low leB⟩)

theorem zFv (N : Nat) {w : Bs} (p0 : (List Int)) (zF : Option Addr) (zH : Nat) (zK : Sl w.R w.W zW zF zH p0) (r : (List KH)) (H : zAr N p0 = some r) (hE : HF w w.W (LEn [emp])) : Calls Tryz.prog 62 [sL zF p0 zH].toArray w.W fun e W' => ∃ u : (Option Addr × Nat), e = .returned (sL u.1 r u.2) ∧ (SlF u.1 r.length u.2) ∧ HF w W' (LEn [ow u.1 u.2 125 Qm r]) := by
 unfold zAr at H
 have leB := Bs.Le.refl w
 refine Tr.enter (n := 80) Tryz.func62 rfl rfl rfl hE ?_
 refine Tr.sr (Tr.asg rfl rfl (Tr.Qb 1 125 Qm ?_))
 show Tr _ _ (uf _ 2 (sL none (([] : List KH)) 0)) _ _
 refine Tr.nil (Tr.zA (Tr.sr (Tr.asg rfl rfl (Tr.Qb 2 3 zW ?_))))
 show Tr _ _ (uf _ 3 (sL none (([] : List Int)) 0)) _ _
 refine Tr.nil (Tr.zA (Tr.seq (Tr.sr (Tr.asg rfl rfl (Tr.nil (Tr.zA (Tr.block (Tr.ren 2 10 rfl rfl rfl ?_))))))))
 refine Tr.loop (σ := (List Int) × Int × (Option Addr) × Nat) (fun m w s => Qr N p0 m s.1 s.2.1 = some r ∧ SlF s.2.2.1 s.1.length s.2.2.2) (fun s => [(0, sL zF p0 zH), (3, sL s.2.2.1 s.1 s.2.2.2), (4, iv s.2.1)]) (fun s => [(10, ow s.2.2.1 s.2.2.2 3 zW s.1)]) N (([] : List Int), 0, none, 0) ⟨H, Jm⟩ (.cons rfl (.cons rfl (.cons rfl .nil))) (.cons rfl .nil) (fun _ _ h => KG (h.1)) ?_
 intro w zDc mL3 s hs
 obtain ⟨zA7, x159, zGI, zGB⟩ := s
 obtain ⟨H, zGi⟩ := hs
 replace H : Qr N p0 (mL3 + 1) zA7 x159 = some r := H
 replace zK := zK.leR zDc
 replace leB := leB.trans zDc
 replace zGi : SlF zGI zA7.length zGB := zGi
 rw [Qr.eq_2] at H
 show Tr _ _ (LF [(0, sL zF p0 zH), (3, sL zGI zA7 zGB), (4, iv x159)]) (LE [(10, ow zGI zGB 3 zW zA7)]) _
 refine Tr.seq (Tr.sr (Tr.mv rfl rfl (Tr.mv rfl rfl (Tr.va rfl (fun _ _ a c => zf Vu (a.ev rfl)) ?_))))
 refine Tr.va rfl (fun _ _ a c => zh (a.ev rfl) (a.ev rfl)) ?_
 refine Tr.nil (Tr.zA (Tr.cond rfl H (fun H => ?_) (fun H => ?_)))
 ·refine Tr.skip (Tr.zA (Tr.seq (Tr.block (Tr.sr (Tr.mv rfl rfl (Tr.va rfl (fun _ _ a c => zf Vu (a.ev rfl)) ?_))))))
  refine Tr.asg rfl rfl (Tr.nil (Tr.zA (Tr.seq (Tr.block (Tr.loop (σ := Int) (fun m w s => Js p0 zA7 x159 (Qr N p0 mL3) m s = some r) (fun s => [(0, sL zF p0 zH), (3, sL zGI zA7 zGB), (4, iv x159), (5, iv s)]) (fun s => [(10, ow zGI zGB 3 zW zA7)]) N (zA7.length : Int) H (.cons rfl (.cons rfl (.cons rfl (.cons rfl .nil)))) (.cons rfl .nil) (fun _ _ h => KG (h)) ?_)))))
  intro w zCM mL4 zD3 hs
  have H := hs
  replace H : Js p0 zA7 x159 (Qr N p0 mL3) (mL4 + 1) zD3 = some r := H
  replace zK := zK.leR zCM
  replace zDc := zDc.trans zCM
  rw [Js.eq_2] at H
  show Tr _ _ (LF [(0, sL zF p0 zH), (3, sL zGI zA7 zGB), (4, iv x159), (5, iv zD3)]) (LE [(10, ow zGI zGB 3 zW zA7)]) _
  refine Tr.seq (Tr.seq (Tr.draw (by kernel_rfl) (by kernel_rfl) ?_))
  refine Tq.mv rfl rfl (Tq.va rfl (fun _ _ a c => Wx (a.ev rfl) (a.ev rfl)) ?_)
  refine Tq.mv rfl rfl ?_
  obtain ⟨zkp, zQo, H⟩ := bnd H
  refine Tq.mid 11 [(0, sL zF p0 zH), (3, sL zGI zA7 zGB), (4, iv x159), (5, iv zD3), (30, bV zkp)] ?_ ?_
  ·cases zeo : (decide (0 < zD3))
   ·rw [zeo] at zQo
    rw [if_neg (by decide)] at zQo
    have H := zQo
    obtain rfl := oI H
    refine Tq.pass rfl rfl rfl rfl rfl (by decide) ?_
    refine Tq.pass rfl rfl rfl rfl rfl (by decide) ?_
    refine Tq.pass rfl rfl rfl rfl rfl (by decide) ?_
    refine Tq.pass rfl rfl rfl rfl rfl (by decide) ?_
    refine Tq.pass rfl rfl rfl rfl rfl (by decide) ?_
    refine Tq.pass rfl rfl rfl rfl rfl (by decide) ?_
    refine Tq.pass rfl rfl rfl rfl rfl (by decide) ?_
    refine Tq.pass rfl rfl rfl rfl rfl (by decide) ?_
    refine Tq.pass rfl rfl rfl rfl rfl (by decide) ?_
    refine Tq.pass rfl rfl rfl rfl rfl (by decide) ?_
    refine Tq.va rfl (fun _ _ a c => zy (a.ev rfl) (a.ev rfl)) ?_
    exact Tq.fin (.cons rfl (.cons rfl (.cons rfl (.cons rfl (.cons rfl .nil)))))
   ·rw [zeo] at zQo
    rw [if_pos rfl] at zQo
    have H := zQo
    refine Tq.val (wg rfl rfl rfl) rfl (fun _ _ a c => run_move (a.ev rfl)) ?_
    refine Tq.val (wg rfl rfl rfl) rfl (fun _ _ a c => run_move (a.ev rfl)) ?_
    refine Tq.val (wg rfl rfl rfl) rfl (fun _ _ a c => Jn (a.ev rfl) (a.ev rfl)) ?_
    obtain ⟨zlc, zoM, H⟩ := bnd H
    obtain ⟨zjb, zja, zjZ⟩ := zO zoM
    refine Tq.val (wg rfl rfl rfl) rfl (fun _ _ a c => zD Kb (a.ev rfl) zGi (a.ev rfl) zjb zja) ?_
    refine Tq.val (wg rfl rfl rfl) rfl (fun _ _ a c => zC QA (a.ev rfl) (rdo Jd (k := 10) c rfl zjZ) rfl) ?_
    refine Tq.val (wg rfl rfl rfl) rfl (fun _ _ a c => run_move (a.ev rfl)) ?_
    refine Tq.val (wg rfl rfl rfl) rfl (fun _ _ a c => run_move (a.ev rfl)) ?_
    obtain ⟨zlb, zoL, H⟩ := bnd H
    obtain ⟨zjY, zjX, zjW⟩ := zO zoL
    refine Tq.val (wg rfl rfl rfl) rfl (fun _ _ a c => zD Kb (a.ev rfl) zK.form (a.ev rfl) zjY zjX) ?_
    refine Tq.val (wg rfl rfl rfl) rfl (fun _ _ a c => zC QA (a.ev rfl) (rdF Jd zK zjW c) rfl) ?_
    refine Tq.val (wg rfl rfl rfl) rfl (fun _ _ a c => Wx (a.ev rfl) (a.ev rfl)) ?_
    refine Tq.va rfl (fun _ _ a c => zx (a.ev rfl) (a.ev rfl)) ?_
    obtain rfl := oI H
    exact Tq.fin (.cons rfl (.cons rfl (.cons rfl (.cons rfl (.cons rfl .nil)))))
  ·refine Tq.nil (Tr.zA (Tr.cond rfl H (fun H => ?_) (fun H => ?_)))
   ·refine Tr.skip (Tr.zA (Tr.block (Tr.region (Tr.mv rfl rfl (Tr.va rfl (fun _ _ a c => Jn (a.ev rfl) (a.ev rfl)) ?_)))))
    exact Tr.asg rfl rfl (Tr.nil (Tr.zb (Tr.zZ zCM (w64 (zD3 - 1)) H (.cons rfl (.cons rfl (.cons rfl (.cons rfl .nil)))) (.cons rfl .nil))))
   ·refine Tr.exit (Tr.zP (Tr.zP (Tr.zl (Tr.zA (Tr.sr (Tr.asg rfl rfl (Tr.Qb 11 3 zW ?_)))))))
    show Tr _ _ (uf _ 6 (sL none (([] : List Int)) 0)) _ _
    refine Tr.nil (Tr.zA (Tr.sr (Tr.mv rfl rfl (Tr.mv rfl rfl (Tr.mv rfl rfl ?_)))))
    obtain ⟨zaB, zed, H⟩ := bnd H
    refine Tr.va rfl (fun _ _ a c => zG9 Kb (a.ev rfl) zGi (a.ev rfl) zed) ?_
    obtain ⟨zaA, zpA, H⟩ := bnd H
    refine Tr.zDp 11 (t := zW) (l := ([] : List Int)) (l2 := zaB) (wn rfl) rfl rfl rfl rfl (apT zH6 (fun W hW => (Sl.pre (hW.slB (k := 10) rfl) zed))) Vu zGN zK9 (by decide) zLq rfl zpA fun zru zrl hAl180 => ?_
    refine Tr.asg rfl rfl (Tr.nil (Tr.zA (Tr.sr (Tr.mv rfl rfl (Tr.mv rfl rfl (Tr.mv rfl rfl ?_))))))
    obtain ⟨zRc, zoK, H⟩ := bnd H
    obtain ⟨zjV, zjU, zjT⟩ := zO zoK
    refine Tr.va rfl (fun _ _ a c => zD Kb (a.ev rfl) zK.form (a.ev rfl) zjV zjU) ?_
    refine Tr.va rfl (fun _ _ a c => zC QA (a.ev rfl) (rdF Jd zK zjT c) rfl) ?_
    refine Tr.buildSlice 12 (e := 3) (vs := [(0, iv zRc)]) (cs := [iv zRc]) (wn rfl) rfl (zi rfl Qh) (by kernel_rfl) fun zsJ => ?_
    obtain ⟨zZ9, zo9, H⟩ := bnd H
    refine Tr.append 11 (t := zW) (l := zaA) (l2 := [zRc]) (wn rfl) rfl rfl rfl rfl (fun W hW => ⟨[[iv zRc]], (.cons ⟨(), trivial, rfl⟩ .nil), rdb hW (vs := [iv zRc]) (k := 12) rfl 0⟩) Vu zGN zK9 (by decide) zLq rfl zo9 fun zrt zrk hAl183 => ?_
    refine Tr.asg rfl rfl (Tr.nil (Tr.zA (Tr.region (Tr.mv rfl rfl (Tr.mv rfl rfl (Tr.mv rfl rfl ?_))))))
    obtain ⟨zZ8, zec, H⟩ := bnd H
    refine Tr.va rfl (fun _ _ a c => zDa Kb (a.ev rfl) zGi (a.ev rfl) zec) ?_
    obtain ⟨zZ7, zo8, H⟩ := bnd H
    refine Tr.zDp 11 (t := zW) (l := zZ9) (l2 := zZ8) (wn rfl) rfl rfl rfl rfl (apT zH6 (fun W hW => (Sl.cut (hW.slB (k := 10) rfl) zec))) Vu zGN zK9 (by decide) zLq rfl zo8 fun zp9 zpj hAl185 => ?_
    refine Tr.asg rfl rfl (Tr.nil (Tr.zb (Tr.zA (Tr.region (Tr.mv rfl rfl (Tr.va rfl (fun _ _ a c => zg (a.ev rfl) (a.ev rfl)) ?_))))))
    refine Tr.asg rfl rfl (Tr.nil (Tr.zXg 10 ?_))
    refine Tr.ren 11 10 rfl rfl rfl ?_
    exact Tr.zZ zDc (zZ7, (w64 (x159 + 1)), zp9, zpj) ⟨H, hAl185⟩ (.cons rfl (.cons rfl (.cons rfl .nil))) (.cons rfl .nil)
 ·refine Tr.exit (Tr.zP (Tr.zP (Tr.zl (Tr.zA (Tr.sr (Tr.asg rfl rfl (Tr.Qb 13 125 Qm ?_)))))))
  show Tr _ _ (uf _ 7 (sL none (([] : List KH)) 0)) _ _
  refine Tr.nil (Tr.zA (Tr.seq (Tr.sr (Tr.asg rfl rfl (Tr.nil (Tr.zA (Tr.block (Tr.ren 13 19 rfl rfl rfl ?_))))))))
  refine Tr.loop (σ := (List KH) × Int × (Option Addr) × Nat) (fun m w s => Qz N zA7 m s.1 s.2.1 = some r ∧ SlF s.2.2.1 s.1.length s.2.2.2) (fun s => [(3, sL zGI zA7 zGB), (7, sL s.2.2.1 s.1 s.2.2.2), (8, iv s.2.1)]) (fun s => [(10, ow zGI zGB 3 zW zA7), (19, ow s.2.2.1 s.2.2.2 125 Qm s.1)]) N (([] : List KH), 0, none, 0) ⟨H, Jm⟩ (.cons rfl (.cons rfl (.cons rfl .nil))) (.cons rfl (.cons rfl .nil)) (fun _ _ h => KG (h.1)) ?_
  intro w zC8 mL5 s hs
  obtain ⟨zOG, zMR, zPN, zO9⟩ := s
  obtain ⟨H, zXK⟩ := hs
  replace H : Qz N zA7 (mL5 + 1) zOG zMR = some r := H
  replace leB := leB.trans zC8
  replace zXK : SlF zPN zOG.length zO9 := zXK
  rw [Qz.eq_2] at H
  show Tr _ _ (LF [(3, sL zGI zA7 zGB), (7, sL zPN zOG zO9), (8, iv zMR)]) (LE [(10, ow zGI zGB 3 zW zA7), (19, ow zPN zO9 125 Qm zOG)]) _
  refine Tr.seq (Tr.sr (Tr.mv rfl rfl (Tr.va rfl (fun _ _ a c => zg (a.ev rfl) (a.ev rfl)) ?_)))
  refine Tr.mv rfl rfl (Tr.va rfl (fun _ _ a c => zf Vu (a.ev rfl)) ?_)
  refine Tr.va rfl (fun _ _ a c => zh (a.ev rfl) (a.ev rfl)) ?_
  refine Tr.nil (Tr.zA (Tr.cond rfl H (fun H => ?_) (fun H => ?_)))
  ·refine Tr.skip (Tr.zA (Tr.seq (Tr.block (Tr.seq (Tr.draw (by kernel_rfl) (by kernel_rfl) ?_)))))
   refine Tq.mv rfl rfl (Tq.mv rfl rfl ?_)
   obtain ⟨zlZ, zoG, H⟩ := bnd H
   obtain ⟨zjJ, zjI, zjH⟩ := zO zoG
   refine Tq.va rfl (fun _ _ a c => zD Kb (a.ev rfl) zGi (a.ev rfl) zjJ zjI) ?_
   refine Tq.va rfl (fun _ _ a c => zC QA (a.ev rfl) (rdo Jd (k := 10) c rfl zjH) rfl) ?_
   refine Tq.mv rfl rfl (Tq.mv rfl rfl (Tq.va rfl (fun _ _ a c => zg (a.ev rfl) (a.ev rfl)) ?_))
   obtain ⟨zB6, zoF, H⟩ := bnd H
   obtain ⟨zjG, zjF, zjE⟩ := zO zoF
   refine Tq.va rfl (fun _ _ a c => zD Kb (a.ev rfl) zGi (a.ev rfl) zjG zjF) ?_
   refine Tq.va rfl (fun _ _ a c => zC QA (a.ev rfl) (rdo Jd (k := 10) c rfl zjE) rfl) ?_
   refine Tq.va rfl (fun _ _ a c => zh (a.ev rfl) (a.ev rfl)) ?_
   refine Tq.nil (Tr.zA (Tr.cond rfl H (fun H => ?_) (fun H => ?_)))
   ·refine Tr.zCB 11 (by kernel_rfl) (by kernel_rfl) ?_
    refine Tq.mv rfl rfl (Tq.mv rfl rfl (Tq.mv rfl rfl ?_))
    obtain ⟨zZS, zoE, H⟩ := bnd H
    obtain ⟨zjD, zjC, zjB⟩ := zO zoE
    refine Tq.va rfl (fun _ _ a c => zD Kb (a.ev rfl) zGi (a.ev rfl) zjD zjC) ?_
    refine Tq.va rfl (fun _ _ a c => zC QA (a.ev rfl) (rdo Jd (k := 10) c rfl zjB) rfl) ?_
    refine Tq.mv rfl rfl (Tq.mv rfl rfl (Tq.va rfl (fun _ _ a c => zg (a.ev rfl) (a.ev rfl)) ?_))
    obtain ⟨zZR, zoD, H⟩ := bnd H
    obtain ⟨zjA, zi9, zi8⟩ := zO zoD
    refine Tq.va rfl (fun _ _ a c => zD Kb (a.ev rfl) zGi (a.ev rfl) zjA zi9) ?_
    refine Tq.va rfl (fun _ _ a c => zC QA (a.ev rfl) (rdo Jd (k := 10) c rfl zi8) rfl) ?_
    refine Tq.build (vs := [(0, iv zZS), (1, iv zZR)]) (cs := [iv zZS, iv zZR]) (wn rfl) rfl (zi rfl (zi rfl Qh)) (by kernel_rfl) ?_
    refine Tq.nil ?_
    obtain ⟨zPY, zml, H⟩ := bnd H
    refine Tr.zAi [20] [emp] (U := (Option Addr × Nat)) (fun u => (sL u.1 zPY u.2)) (fun u => SlF u.1 zPY.length u.2) (fun u => [ow u.1 u.2 125 Qm zPY]) rfl (zn rfl zw) (fun _ => rfl) (wn rfl) rfl Tryz.call88 (zI rfl (zI rfl zX)) (fun W hW hp hE => zCn N zOG zPN zO9 (hW.slS (k := 19) rfl hp rfl) (KH.mk zZS zZR) zPY zml hE) ?_
    intro u hu
    obtain ⟨zNP, zMx⟩ := u
    have gy210_0 := hu
    have zbD : SlF zNP zPY.length zMx := gy210_0 --@phi
    show Tr _ _ (uf _ 78 (sL zNP zPY zMx)) (up _ 20 (ow zNP zMx 125 Qm zPY)) _
    refine Tr.asg rfl rfl (Tr.nil (Tr.zb (Tr.zA (Tr.region (Tr.mv rfl rfl (Tr.va rfl (fun _ _ a c => zg (a.ev rfl) (a.ev rfl)) ?_))))))
    refine Tr.asg rfl rfl (Tr.nil (Tr.zXg 19 ?_))
    refine Tr.ren 20 19 rfl rfl rfl ?_
    exact Tr.zZ zC8 (zPY, (w64 (zMR + 2)), zNP, zMx) ⟨H, zbD⟩ (.cons rfl (.cons rfl (.cons rfl .nil))) (.cons rfl (.cons rfl .nil))
   ·refine Tr.skip (Tr.zb (Tr.zA (Tr.region (Tr.mv rfl rfl (Tr.va rfl (fun _ _ a c => zg (a.ev rfl) (a.ev rfl)) ?_)))))
    exact Tr.asg rfl rfl (Tr.nil (Tr.zZ zC8 (zOG, (w64 (zMR + 2)), zPN, zO9) ⟨H, zXK⟩ (.cons rfl (.cons rfl (.cons rfl .nil))) (.cons rfl (.cons rfl .nil))))
  ·refine Tr.exit (Tr.zP (Tr.zP (Tr.zl (Tr.zA (Tr.sr (Tr.mv rfl rfl (Tr.asg rfl rfl (Tr.nil (Tr.zA (Tr.ret ?_))))))))))
   obtain rfl := oI H
   exact Tr.out (m := [sL zPN zOG zO9]) [] (zU rfl zY) (fun W hW => ⟨(zPN, zO9), rfl, zXK, HF.zEF leB (hW.pick (ks := [19]) (by decide) (zn rfl zw)) ⟨Ww _ _ _ _ zJ7, trivial⟩⟩)

theorem zFA (N : Nat) {w : Bs} (p0 : (List (List zG))) (zF : Option Addr) (zH : Nat) (zK : Sl w.R w.W zS zF zH p0) (r : (List zJ)) (H : Ko N p0 = some r) (hE : HF w w.W (LEn [emp])) : Calls Tryz.prog 25 [sL zF p0 zH].toArray w.W fun e W' => ∃ u : (Option Addr × Nat), e = .returned (sL u.1 r u.2) ∧ (SlF u.1 r.length u.2) ∧ HF w W' (LEn [ow u.1 u.2 36 zL r]) := by
 unfold Ko at H
 have leB := Bs.Le.refl w
 refine Tr.enter (n := 132) Tryz.func25 rfl rfl rfl hE ?_
 refine Tr.sr (Tr.asg rfl rfl (Tr.Qb 1 36 zL ?_))
 show Tr _ _ (uf _ 2 (sL none (([] : List zJ)) 0)) _ _
 refine Tr.nil (Tr.zA (Tr.sr (Tr.asg rfl rfl (Tr.Qb 2 3 zW ?_))))
 show Tr _ _ (uf _ 3 (sL none (([] : List Int)) 0)) _ _
 refine Tr.nil (Tr.zA (Tr.seq (Tr.sr (Tr.asg rfl rfl (Tr.nil (Tr.zA (Tr.block (Tr.freeze 2 rfl fun w zeM zmF => ?_))))))))
 replace zK := zK.leR zeM
 replace leB := leB.trans zeM
 refine Tr.loop (σ := (List Int) × Int × (Option Addr) × Nat) (fun m w s => Qe N p0 m s.1 s.2.1 = some r ∧ Sl w.O w.W zW s.2.2.1 s.2.2.2 s.1) (fun s => [(0, sL zF p0 zH), (3, sL s.2.2.1 s.1 s.2.2.2), (4, iv s.2.1)]) (fun s => []) N (([] : List Int), 0, none, 0) ⟨H, zmF⟩ (.cons rfl (.cons rfl (.cons rfl .nil))) .nil (fun _ _ h => KG (h.1)) ?_
 intro w zDc mL3 s hs
 obtain ⟨zBE, zJf, zDz, zFf⟩ := s
 obtain ⟨H, zEW⟩ := hs
 replace H : Qe N p0 (mL3 + 1) zBE zJf = some r := H
 replace zK := zK.leR zDc
 replace leB := leB.trans zDc
 replace zEW : Sl w.O w.W zW zDz zFf zBE := zEW
 rw [Qe.eq_2] at H
 show Tr _ _ (LF [(0, sL zF p0 zH), (3, sL zDz zBE zFf), (4, iv zJf)]) (LE []) _
 refine Tr.seq (Tr.sr (Tr.mv rfl rfl (Tr.mv rfl rfl (Tr.va rfl (fun _ _ a c => zf zDX (a.ev rfl)) ?_))))
 refine Tr.va rfl (fun _ _ a c => zh (a.ev rfl) (a.ev rfl)) ?_
 refine Tr.nil (Tr.zA (Tr.cond rfl H (fun H => ?_) (fun H => ?_)))
 ·refine Tr.skip (Tr.zA (Tr.seq (Tr.block (Tr.sr (Tr.asg rfl rfl (Tr.nil (Tr.zA (Tr.block (Tr.loop (σ := (List Int) × Int × (Option Addr) × Nat) (fun m w s => JX N p0 zJf (Qe N p0 mL3) m s.1 s.2.1 = some r ∧ Sl w.O w.W zW s.2.2.1 s.2.2.2 s.1) (fun s => [(0, sL zF p0 zH), (3, sL s.2.2.1 s.1 s.2.2.2), (4, iv zJf), (5, iv s.2.1)]) (fun s => []) N (zBE, 0, zDz, zFf) ⟨H, zEW⟩ (.cons rfl (.cons rfl (.cons rfl (.cons rfl .nil)))) .nil (fun _ _ h => KG (h.1)) ?_)))))))))
  intro w zCM mL4 s hs
  obtain ⟨zTY, zU7, zYG, zXz⟩ := s
  obtain ⟨H, zXL⟩ := hs
  replace H : JX N p0 zJf (Qe N p0 mL3) (mL4 + 1) zTY zU7 = some r := H
  replace zK := zK.leR zCM
  replace zDc := zDc.trans zCM
  replace zXL : Sl w.O w.W zW zYG zXz zTY := zXL
  rw [JX.eq_2] at H
  show Tr _ _ (LF [(0, sL zF p0 zH), (3, sL zYG zTY zXz), (4, iv zJf), (5, iv zU7)]) (LE []) _
  refine Tr.seq (Tr.sr (Tr.mv rfl rfl (Tr.mv rfl rfl (Tr.mv rfl rfl ?_))))
  obtain ⟨zla, zoJ, H⟩ := bnd H
  obtain ⟨zjS, zjR, zjQ⟩ := zO zoJ
  obtain ⟨zq2, hRu195, zdH, hcu195⟩ := (zK).el zjQ
  obtain ⟨zqc, zqV⟩ := zq2
  have zk8 := zdH
  refine Tr.va rfl (fun _ _ a c => zD zCl (a.ev rfl) zK.form (a.ev rfl) zjS zjR) ?_
  refine Tr.va rfl (fun _ _ a c => zC zDJ (a.ev rfl) (rdR hRu195 hcu195 c) rfl) ?_
  refine Tr.va rfl (fun _ _ a c => zf zBI (a.ev rfl)) ?_
  refine Tr.va rfl (fun _ _ a c => zh (a.ev rfl) (a.ev rfl)) ?_
  refine Tr.nil (Tr.zA (Tr.cond rfl H (fun H => ?_) (fun H => ?_)))
  ·refine Tr.skip (Tr.zA (Tr.seq (Tr.block (Tr.region (Tr.mv rfl rfl (Tr.mv rfl rfl (Tr.mv rfl rfl ?_)))))))
   obtain ⟨ze7, zoI, H⟩ := bnd H
   obtain ⟨zjP, zjO, zjN⟩ := zO zoI
   obtain ⟨zq1, hRu197, zdG, hcu197⟩ := (zK).el zjN
   obtain ⟨zdz, zdh⟩ := zq1
   have zIu := zdG
   replace zIu : Sl w.R w.W zz zdz zdh ze7 := zIu
   refine Tr.va rfl (fun _ _ a c => zD zCl (a.ev rfl) zK.form (a.ev rfl) zjP zjO) ?_
   refine Tr.va rfl (fun _ _ a c => zC zDJ (a.ev rfl) (rdR hRu197 hcu197 c) rfl) ?_
   refine Tr.mv rfl rfl ?_
   obtain ⟨ze6, zoH, H⟩ := bnd H
   obtain ⟨zjM, zjL, zjK⟩ := zO zoH
   refine Tr.va rfl (fun _ _ a c => zD zAh (a.ev rfl) zIu.form (a.ev rfl) zjM zjL) ?_
   refine Tr.va rfl (fun _ _ a c => zB VP (a.ev rfl)) ?_
   refine Tr.va rfl (fun _ _ a c => zC QA (a.ev rfl) (zQ.drop (rdF Jb zIu zjK c) 1) rfl) ?_
   obtain ⟨zSt, zmm, H⟩ := bnd H
   refine Tr.zCe [] [] (U := (Option Addr × Nat)) (fun u => (sL u.1 zSt u.2)) (fun O W u => Sl O W zW u.1 u.2 zSt) (fun u => []) rfl zw (fun _ => rfl) (wn rfl) rfl Tryz.call60 (zI rfl (zI rfl zX)) (fun W hW hp hE => VU N zTY zYG zXz (zXL.zMY (hW.zCA hp)) ze6.Y zSt zmm hE) ?_
   intro w u zZu hu
   obtain ⟨zSk, zSR⟩ := u
   have gy199_0 := hu
   replace hRu195 := zZu.r _ hRu195
   replace hRu197 := zZu.r _ hRu197
   replace zCM := zCM.trans zZu
   have zbE : Sl w.O w.W zW zSk zSR zSt := gy199_0 --@phi
   show Tr _ _ (uf _ 37 (sL zSk zSt zSR)) (_) _
   refine Tr.asg rfl rfl (Tr.nil (Tr.zb (Tr.zA (Tr.region (Tr.mv rfl rfl (Tr.va rfl (fun _ _ a c => zg (a.ev rfl) (a.ev rfl)) ?_))))))
   exact Tr.asg rfl rfl (Tr.nil (Tr.zZ zCM (zSt, (w64 (zU7 + 1)), zSk, zSR) ⟨H, zbE⟩ (.cons rfl (.cons rfl (.cons rfl (.cons rfl .nil)))) .nil))
  ·refine Tr.exit (Tr.zP (Tr.zP (Tr.zl (Tr.zb (Tr.zA (Tr.region (Tr.mv rfl rfl (Tr.va rfl (fun _ _ a c => zg (a.ev rfl) (a.ev rfl)) ?_))))))))
   exact Tr.asg rfl rfl (Tr.nil (Tr.zZ zDc (zTY, (w64 (zJf + 1)), zYG, zXz) ⟨H, zXL⟩ (.cons rfl (.cons rfl (.cons rfl .nil))) .nil))
 ·refine Tr.exit (Tr.zP (Tr.zP (Tr.zl (Tr.zA (Tr.sr (Tr.asg rfl rfl (Tr.Qb 3 98 zm ?_)))))))
  show Tr _ _ (uf _ 6 (sL none (([] : List zk)) 0)) _ _
  refine Tr.nil (Tr.zA (Tr.seq (Tr.sr (Tr.asg rfl rfl (Tr.nil (Tr.zA (Tr.block (Tr.loop (σ := (List zk) × Int × (Option Addr) × Nat) (fun m w s => QC N p0 zBE m s.1 s.2.1 = some r ∧ SlF s.2.2.1 s.1.length s.2.2.2) (fun s => [(0, sL zF p0 zH), (3, sL zDz zBE zFf), (6, sL s.2.2.1 s.1 s.2.2.2), (7, iv s.2.1)]) (fun s => [(3, ow s.2.2.1 s.2.2.2 98 zm s.1)]) N (([] : List zk), 1, none, 0) ⟨H, Jm⟩ (.cons rfl (.cons rfl (.cons rfl (.cons rfl .nil)))) (.cons rfl .nil) (fun _ _ h => KG (h.1)) ?_))))))))
  intro w zJN zVS s hs
  obtain ⟨zC9, zCS, zDN, zDI⟩ := s
  obtain ⟨H, zrc⟩ := hs
  replace H : QC N p0 zBE (zVS + 1) zC9 zCS = some r := H
  replace zK := zK.leR zJN
  replace zEW := zEW.le zJN
  replace leB := leB.trans zJN
  rw [QC.eq_2] at H
  show Tr _ _ (LF [(0, sL zF p0 zH), (3, sL zDz zBE zFf), (6, sL zDN zC9 zDI), (7, iv zCS)]) (LE [(3, ow zDN zDI 98 zm zC9)]) _
  refine Tr.seq (Tr.sr (Tr.mv rfl rfl (Tr.mv rfl rfl (Tr.va rfl (fun _ _ a c => zf Vu (a.ev rfl)) ?_))))
  refine Tr.va rfl (fun _ _ a c => zh (a.ev rfl) (a.ev rfl)) ?_
  refine Tr.nil (Tr.zA (Tr.cond rfl H (fun H => ?_) (fun H => ?_)))
  ·refine Tr.skip (Tr.zA (Tr.seq (Tr.block (Tr.sr (Tr.asg rfl rfl (Tr.Qb 62 3 zW ?_))))))
   show Tr _ _ (uf _ 8 (sL none (([] : List Int)) 0)) _ _
   refine Tr.nil (Tr.zA (Tr.seq (Tr.sr (Tr.asg rfl rfl (Tr.nil (Tr.zA (Tr.block (Tr.loop (σ := (List Int) × Int × (Option Addr) × Nat) (fun m w s => Qa N p0 zBE zC9 zCS (QC N p0 zBE zVS) m s.1 s.2.1 = some r ∧ SlF s.2.2.1 s.1.length s.2.2.2) (fun s => [(0, sL zF p0 zH), (3, sL zDz zBE zFf), (6, sL zDN zC9 zDI), (7, iv zCS), (8, sL s.2.2.1 s.1 s.2.2.2), (9, iv s.2.1)]) (fun s => [(3, ow zDN zDI 98 zm zC9), (62, ow s.2.2.1 s.2.2.2 3 zW s.1)]) N (([] : List Int), 0, none, 0) ⟨H, Jm⟩ (.cons rfl (.cons rfl (.cons rfl (.cons rfl (.cons rfl (.cons rfl .nil)))))) (.cons rfl (.cons rfl .nil)) (fun _ _ h => KG (h.1)) ?_))))))))
   intro w zQP zZp s hs
   obtain ⟨zPi, zBr, zRT, zRB⟩ := s
   obtain ⟨H, zan⟩ := hs
   replace H : Qa N p0 zBE zC9 zCS (QC N p0 zBE zVS) (zZp + 1) zPi zBr = some r := H
   replace zK := zK.leR zQP
   replace zEW := zEW.le zQP
   replace zJN := zJN.trans zQP
   replace zan : SlF zRT zPi.length zRB := zan
   rw [Qa.eq_2] at H
   show Tr _ _ (LF [(0, sL zF p0 zH), (3, sL zDz zBE zFf), (6, sL zDN zC9 zDI), (7, iv zCS), (8, sL zRT zPi zRB), (9, iv zBr)]) (LE [(3, ow zDN zDI 98 zm zC9), (62, ow zRT zRB 3 zW zPi)]) _
   refine Tr.seq (Tr.sr (Tr.mv rfl rfl (Tr.mv rfl rfl (Tr.va rfl (fun _ _ a c => zf zDX (a.ev rfl)) ?_))))
   refine Tr.va rfl (fun _ _ a c => zh (a.ev rfl) (a.ev rfl)) ?_
   refine Tr.nil (Tr.zA (Tr.cond rfl H (fun H => ?_) (fun H => ?_)))
   ·refine Tr.skip (Tr.zA (Tr.seq (Tr.block (Tr.sr (Tr.asg rfl rfl (Tr.nil (Tr.zA (Tr.block (Tr.loop (σ := (List Int) × Int × (Option Addr) × Nat) (fun m w s => Qj p0 zBE zCS zBr (Qa N p0 zBE zC9 zCS (QC N p0 zBE zVS) zZp) m s.1 s.2.1 = some r ∧ SlF s.2.2.1 s.1.length s.2.2.2) (fun s => [(0, sL zF p0 zH), (3, sL zDz zBE zFf), (6, sL zDN zC9 zDI), (7, iv zCS), (8, sL s.2.2.1 s.1 s.2.2.2), (9, iv zBr), (10, iv s.2.1)]) (fun s => [(3, ow zDN zDI 98 zm zC9), (62, ow s.2.2.1 s.2.2.2 3 zW s.1)]) N (zPi, 0, zRT, zRB) ⟨H, zan⟩ (.cons rfl (.cons rfl (.cons rfl (.cons rfl (.cons rfl (.cons rfl (.cons rfl .nil))))))) (.cons rfl (.cons rfl .nil)) (fun _ _ h => KG (h.1)) ?_)))))))))
    intro w zTV zct s hs
    obtain ⟨zIE, zD2, zIb, zIT⟩ := s
    obtain ⟨H, zXC⟩ := hs
    replace H : Qj p0 zBE zCS zBr (Qa N p0 zBE zC9 zCS (QC N p0 zBE zVS) zZp) (zct + 1) zIE zD2 = some r := H
    replace zK := zK.leR zTV
    replace zEW := zEW.le zTV
    replace zQP := zQP.trans zTV
    replace zXC : SlF zIb zIE.length zIT := zXC
    rw [Qj.eq_2] at H
    show Tr _ _ (LF [(0, sL zF p0 zH), (3, sL zDz zBE zFf), (6, sL zDN zC9 zDI), (7, iv zCS), (8, sL zIb zIE zIT), (9, iv zBr), (10, iv zD2)]) (LE [(3, ow zDN zDI 98 zm zC9), (62, ow zIb zIT 3 zW zIE)]) _
    refine Tr.seq (Tr.sr (Tr.mv rfl rfl (Tr.mv rfl rfl (Tr.mv rfl rfl ?_))))
    obtain ⟨zSw, znK, H⟩ := bnd H
    obtain ⟨zgQ, zgP, zgO⟩ := zO znK
    obtain ⟨zqm, hRu922, zc1, hcu922⟩ := (zK).el zgO
    obtain ⟨zX4, zXh⟩ := zqm
    have zk2 := zc1
    refine Tr.va rfl (fun _ _ a c => zD zCl (a.ev rfl) zK.form (a.ev rfl) zgQ zgP) ?_
    refine Tr.va rfl (fun _ _ a c => zC zDJ (a.ev rfl) (rdR hRu922 hcu922 c) rfl) ?_
    refine Tr.va rfl (fun _ _ a c => zf zBI (a.ev rfl)) ?_
    refine Tr.va rfl (fun _ _ a c => zh (a.ev rfl) (a.ev rfl)) ?_
    refine Tr.nil (Tr.zA (Tr.cond rfl H (fun H => ?_) (fun H => ?_)))
    ·refine Tr.skip (Tr.zA (Tr.seq (Tr.block (Tr.seq (Tr.zJQ 24 [] [23] (by kernel_rfl) (by kernel_rfl) fun zPz zOj zqI => ?_)))))
     refine Dr.quiet 0 [(59, sL zF p0 zH)] (by kernel_rfl) rfl rfl (by kernel_rfl) ?_ rfl rfl ?_
     ·exact Tq.mv rfl rfl (Tq.fin (.cons rfl .nil))
     refine Dr.quiet 1 [(60, iv zBr)] (by kernel_rfl) rfl rfl (by kernel_rfl) ?_ rfl rfl ?_
     ·exact Tq.mv rfl rfl (Tq.fin (.cons rfl .nil))
     obtain ⟨zYN, znJ, H⟩ := bnd H
     obtain ⟨zgN, zgM, zgL⟩ := zO znJ
     obtain ⟨zql, hRu925, zc0, hcu925⟩ := (zK).el zgL
     obtain ⟨zEO, zM9⟩ := zql
     have zIn := zc0
     replace zIn : Sl w.R w.W zz zEO zM9 zYN := zIn
     refine Dr.quiet 2 [(61, .pointer (some ⟨adB zF, adO zF + (zBr).toNat * 1, none⟩))] (by kernel_rfl) rfl rfl (by kernel_rfl) ?_ rfl rfl ?_
     ·refine Tq.va rfl (fun _ _ a c => zD zCl (a.ev rfl) zK.form (a.ev rfl) zgN zgM) ?_
      exact Tq.fin (.cons rfl .nil)
     refine Dr.quiet 3 [(62, sL zEO zYN zM9)] (by kernel_rfl) rfl rfl (by kernel_rfl) ?_ rfl rfl ?_
     ·refine Tq.va rfl (fun _ _ a c => zC zDJ (a.ev rfl) (rdR hRu925 hcu925 c) rfl) ?_
      exact Tq.fin (.cons rfl .nil)
     refine Dr.quiet 4 [(63, iv zD2)] (by kernel_rfl) rfl rfl (by kernel_rfl) ?_ rfl rfl ?_
     ·exact Tq.mv rfl rfl (Tq.fin (.cons rfl .nil))
     obtain ⟨zC4, znI, H⟩ := bnd H
     obtain ⟨zgK, zgJ, zgI⟩ := zO znI
     refine Dr.quiet 5 [(64, .pointer (some ⟨adB zEO, adO zEO + (zD2).toNat * 2, none⟩))] (by kernel_rfl) rfl rfl (by kernel_rfl) ?_ rfl rfl ?_
     ·refine Tq.va rfl (fun _ _ a c => zD zAh (a.ev rfl) zIn.form (a.ev rfl) zgK zgJ) ?_
      exact Tq.fin (.cons rfl .nil)
     refine Dr.quiet 6 [(65, .agg #[iv zC4.X, iv zC4.Y])] (by kernel_rfl) rfl rfl (by kernel_rfl) ?_ rfl rfl ?_
     ·refine Tq.va rfl (fun _ _ a c => ze (cs := [iv zC4.X, iv zC4.Y]) WP KI (a.ev rfl) (zQ.take (rdF Jb zIn zgI c) 2) rfl) ?_
      exact Tq.fin (.cons rfl .nil)
     refine Dr.Wh 7 (by kernel_rfl) rfl (wn rfl) rfl (by kernel_rfl) (fun _ _ a => run_move (a.ev rfl)) rfl ?_
     refine Dr.Wh 8 (by kernel_rfl) rfl (wn rfl) rfl (by kernel_rfl) (fun _ _ a => run_move (a.ev rfl)) rfl ?_
     obtain ⟨zYM, znH, H⟩ := bnd H
     obtain ⟨zgH, zgG, zgF⟩ := zO znH
     obtain ⟨zqk, hRu928, zcz, hcu928⟩ := (zK).el zgF
     obtain ⟨zGE, zM8⟩ := zqk
     have zIm := zcz
     replace zIm : Sl w.R w.W zz zGE zM8 zYM := zIm
     refine Dr.Wh 9 (by kernel_rfl) rfl (wn rfl) rfl (by kernel_rfl) (fun _ _ a => zD zCl (a.ev rfl) zK.form (a.ev rfl) zgH zgG) rfl ?_
     refine Dr.zED 10 [(69, sL zGE zYM zM8)] [] true (by kernel_rfl) rfl rfl (by kernel_rfl) (fun W W' c hsW hk => HF.zHc (le := []) (ks := []) (s0 := zPz) true c hk (fun _ => zOj) .nil (fun b hb => hb.elim (fun ⟨_, hp, _⟩ => nomatch hp) (fun hb => .inr ⟨rfl, hb.2, (fun _ h => nomatch h)⟩)) (fun _ h => nomatch h) rfl) ?_ rfl rfl ?_
     ·refine Tq.va rfl (fun _ _ a c => zC zDJ (a.ev rfl) (rdR hRu928 hcu928 c) rfl) ?_
      exact Tq.fin (.cons rfl .nil)
     refine Dr.Wh 11 (by kernel_rfl) rfl (wn rfl) rfl (by kernel_rfl) (fun _ _ a => run_move (a.ev rfl)) rfl ?_
     refine Dr.Wh 12 (by kernel_rfl) rfl (wn rfl) rfl (by kernel_rfl) (fun _ _ a => zg (a.ev rfl) (a.ev rfl)) rfl ?_
     refine Dr.Wh 13 (by kernel_rfl) rfl (wn rfl) rfl (by kernel_rfl) (fun _ _ a => run_move (a.ev rfl)) rfl ?_
     refine Dr.Wh 14 (by kernel_rfl) rfl (wn rfl) rfl (by kernel_rfl) (fun _ _ a => run_move (a.ev rfl)) rfl ?_
     obtain ⟨zU0, znG, H⟩ := bnd H
     obtain ⟨zgE, zgD, zgC⟩ := zO znG
     obtain ⟨zqj, hRu930, zcy, hcu930⟩ := (zK).el zgC
     obtain ⟨zSo, zSW⟩ := zqj
     have zk1 := zcy
     refine Dr.Wh 15 (by kernel_rfl) rfl (wn rfl) rfl (by kernel_rfl) (fun _ _ a => zD zCl (a.ev rfl) zK.form (a.ev rfl) zgE zgD) rfl ?_
     refine Dr.zED 16 [(75, sL zSo zU0 zSW)] [] true (by kernel_rfl) rfl rfl (by kernel_rfl) (fun W W' c hsW hk => HF.zHc (le := []) (ks := []) (s0 := zPz) true c hk (fun _ => zOj) .nil (fun b hb => hb.elim (fun ⟨_, hp, _⟩ => nomatch hp) (fun hb => .inr ⟨rfl, hb.2, (fun _ h => nomatch h)⟩)) (fun _ h => nomatch h) rfl) ?_ rfl rfl ?_
     ·refine Tq.va rfl (fun _ _ a c => zC zDJ (a.ev rfl) (rdR hRu930 hcu930 c) rfl) ?_
      exact Tq.fin (.cons rfl .nil)
     refine Dr.Wh 17 (by kernel_rfl) rfl (wn rfl) rfl (by kernel_rfl) (fun _ _ a => zf zBI (a.ev rfl)) rfl ?_
     obtain ⟨q931, zoa, H⟩ := bnd H
     refine Dr.Wh 18 (by kernel_rfl) rfl (wn rfl) rfl (by kernel_rfl) (fun _ _ a => zLI (a.ev rfl) (a.ev rfl) zoa) rfl ?_
     obtain ⟨zFI, znF, H⟩ := bnd H
     obtain ⟨zgB, zgA, zf9⟩ := zO znF
     refine Dr.Wh 19 (by kernel_rfl) rfl (wn rfl) rfl (by kernel_rfl) (fun _ _ a => zD zAh (a.ev rfl) zIm.form (a.ev rfl) zgB zgA) rfl ?_
     refine Dr.zED 20 [(79, .agg #[iv zFI.X, iv zFI.Y])] [] true (by kernel_rfl) rfl rfl (by kernel_rfl) (fun W W' c hsW hk => HF.zHc (le := []) (ks := []) (s0 := zPz) true c hk (fun _ => zOj) .nil (fun b hb => hb.elim (fun ⟨_, hp, _⟩ => nomatch hp) (fun hb => .inr ⟨rfl, hb.2, (fun _ h => nomatch h)⟩)) (fun _ h => nomatch h) rfl) ?_ rfl rfl ?_
     ·refine Tq.va rfl (fun _ _ a c => ze (cs := [iv zFI.X, iv zFI.Y]) WP KI (a.ev rfl) (zQ.take (rdF Jb zIm zf9 c) 2) rfl) ?_
      exact Tq.fin (.cons rfl .nil)
     refine Dr.cut (U := Nat × Nat) [21, 22] 1 (fun u => zPz ≤ u.1 ∧ zPz ≤ u.2) (fun u => [(0, sL zF p0 zH), (3, sL zDz zBE zFf), (6, sL zDN zC9 zDI), (7, iv zCS), (8, sL zIb zIE zIT), (9, iv zBr), (10, iv zD2), (11, .pointer (some ⟨u.1, 0, none⟩)), (12, .pointer (some ⟨u.2, 0, none⟩)), (50, iv zD2), (51, sL zF p0 zH), (52, iv zBr), (53, .pointer (some ⟨adB zF, adO zF + (zBr).toNat * 1, none⟩)), (54, sL zX4 zSw zXh), (55, iv (zSw.length : Int)), (56, bV (decide (zD2 < (zSw.length : Int)))), (59, sL zF p0 zH), (60, iv zBr), (61, .pointer (some ⟨adB zF, adO zF + (zBr).toNat * 1, none⟩)), (62, sL zEO zYN zM9), (63, iv zD2), (64, .pointer (some ⟨adB zEO, adO zEO + (zD2).toNat * 2, none⟩)), (65, .agg #[iv zC4.X, iv zC4.Y]), (66, sL zF p0 zH), (67, iv zBr), (68, .pointer (some ⟨adB zF, adO zF + (zBr).toNat * 1, none⟩)), (69, sL zGE zYM zM8), (70, iv zD2), (71, iv (w64 (zD2 + 1))), (72, sL zF p0 zH), (73, iv zBr), (74, .pointer (some ⟨adB zF, adO zF + (zBr).toNat * 1, none⟩)), (75, sL zSo zU0 zSW), (76, iv (zU0.length : Int)), (77, iv q931), (78, .pointer (some ⟨adB zGE, adO zGE + (q931).toNat * 2, none⟩)), (79, .agg #[iv zFI.X, iv zFI.Y])]) (fun u => [(3, ow zDN zDI 98 zm zC9), (62, ow zIb zIT 3 zW zIE), (87, bx u.1 #[iv 0, iv 0] 33), (88, bx u.2 #[iv 0, iv 0] 33)]) ?_ ?_
     ·intro hC
      refine Dr.pair 21 22 (by kernel_rfl) ?_ ?_
      ·refine St.alloc 21 87 rfl (wn rfl) rfl zDS fun zSb zOs => ?_
       refine Dr.one 22 (by kernel_rfl) ?_
       refine St.alloc 22 88 rfl (wn rfl) rfl zDS fun zWO zXR => ?_
       exact (hC ⟨zSb, zWO⟩ ⟨zOs, zXR⟩).use (by kernel_rfl) (.cons rfl (.cons rfl (.cons rfl (.cons rfl (.cons rfl (.cons rfl (.cons rfl (.cons rfl (.cons rfl (.cons rfl (.cons rfl (.cons rfl (.cons rfl (.cons rfl (.cons rfl (.cons rfl (.cons rfl (.cons rfl (.cons rfl (.cons rfl (.cons rfl (.cons rfl (.cons rfl (.cons rfl (.cons rfl (.cons rfl (.cons rfl (.cons rfl (.cons rfl (.cons rfl (.cons rfl (.cons rfl (.cons rfl (.cons rfl (.cons rfl (.cons rfl (.cons rfl .nil))))))))))))))))))))))))))))))))))))) (.cons rfl (.cons rfl (.cons rfl (.cons rfl .nil))))
      ·refine St.alloc 22 88 rfl (wn rfl) rfl zDS fun zWO zXR => ?_
       refine Dr.one 21 (by kernel_rfl) ?_
       refine St.alloc 21 87 rfl (wn rfl) rfl zDS fun zSb zOs => ?_
       exact (hC ⟨zSb, zWO⟩ ⟨zOs, zXR⟩).use (by kernel_rfl) (.cons rfl (.cons rfl (.cons rfl (.cons rfl (.cons rfl (.cons rfl (.cons rfl (.cons rfl (.cons rfl (.cons rfl (.cons rfl (.cons rfl (.cons rfl (.cons rfl (.cons rfl (.cons rfl (.cons rfl (.cons rfl (.cons rfl (.cons rfl (.cons rfl (.cons rfl (.cons rfl (.cons rfl (.cons rfl (.cons rfl (.cons rfl (.cons rfl (.cons rfl (.cons rfl (.cons rfl (.cons rfl (.cons rfl (.cons rfl (.cons rfl (.cons rfl (.cons rfl .nil))))))))))))))))))))))))))))))))))))) (.cons rfl (.cons rfl (.cons rfl (.cons rfl .nil))))
     intro u hu
     obtain ⟨zSb, zWO⟩ := u
     obtain ⟨zOs, zXR⟩ := hu
     replace zOs : zPz ≤ zSb := zOs
     show Dr _ _ _ _ _ _ _ _ _ (LF [(0, sL zF p0 zH), (3, sL zDz zBE zFf), (6, sL zDN zC9 zDI), (7, iv zCS), (8, sL zIb zIE zIT), (9, iv zBr), (10, iv zD2), (11, pV zSb), (12, pV zWO), (50, iv zD2), (51, sL zF p0 zH), (52, iv zBr), (53, .pointer (some ⟨adB zF, adO zF + (zBr).toNat * 1, none⟩)), (54, sL zX4 zSw zXh), (55, iv (zSw.length : Int)), (56, bV (decide (zD2 < (zSw.length : Int)))), (59, sL zF p0 zH), (60, iv zBr), (61, .pointer (some ⟨adB zF, adO zF + (zBr).toNat * 1, none⟩)), (62, sL zEO zYN zM9), (63, iv zD2), (64, .pointer (some ⟨adB zEO, adO zEO + (zD2).toNat * 2, none⟩)), (65, .agg #[iv zC4.X, iv zC4.Y]), (66, sL zF p0 zH), (67, iv zBr), (68, .pointer (some ⟨adB zF, adO zF + (zBr).toNat * 1, none⟩)), (69, sL zGE zYM zM8), (70, iv zD2), (71, iv (w64 (zD2 + 1))), (72, sL zF p0 zH), (73, iv zBr), (74, .pointer (some ⟨adB zF, adO zF + (zBr).toNat * 1, none⟩)), (75, sL zSo zU0 zSW), (76, iv (zU0.length : Int)), (77, iv q931), (78, .pointer (some ⟨adB zGE, adO zGE + (q931).toNat * 2, none⟩)), (79, .agg #[iv zFI.X, iv zFI.Y])]) (LE [(3, ow zDN zDI 98 zm zC9), (62, ow zIb zIT 3 zW zIE), (87, bx zSb #[iv 0, iv 0] 33), (88, bx zWO #[iv 0, iv 0] 33)])
     refine Dr.one 23 (by kernel_rfl) ?_
     refine St.store 23 87 (cs := [iv zC4.X, iv zC4.Y]) [iv zC4.X, iv zC4.Y] rfl (wn rfl) (.inr ⟨by simp, zOs⟩) rfl rfl rfl rfl KI rfl rfl rfl ?_
     refine Dr.tail (by kernel_rfl) ?_
     refine Tr.store 88 (cs := [iv zFI.X, iv zFI.Y]) [iv zFI.X, iv zFI.Y] (wn rfl) rfl rfl rfl rfl KI rfl rfl rfl ?_
     refine Tr.nil (Tr.zA (Tr.seq (Tr.draw (by kernel_rfl) (by kernel_rfl) ?_)))
     refine Tq.va rfl (fun _ _ a c => zB Wo (a.ev rfl)) ?_
     refine Tq.va rfl (fun _ _ a c => zC QA (a.ev rfl) (rdb c (vs := [iv zC4.X, iv zC4.Y]) (k := 87) rfl 0) rfl) ?_
     refine Tq.va rfl (fun _ _ a c => zB Wo (a.ev rfl)) ?_
     refine Tq.va rfl (fun _ _ a c => zC QA (a.ev rfl) (rdb c (vs := [iv zFI.X, iv zFI.Y]) (k := 88) rfl 0) rfl) ?_
     refine Tq.va rfl (fun _ _ a c => Vv (a.ev rfl) (a.ev rfl)) ?_
     refine Tq.mv rfl rfl ?_
     obtain ⟨zYx, zQb, H⟩ := bnd H
     refine Tq.mid 12 [(0, sL zF p0 zH), (3, sL zDz zBE zFf), (6, sL zDN zC9 zDI), (7, iv zCS), (8, sL zIb zIE zIT), (9, iv zBr), (10, iv zD2), (11, pV zSb), (12, pV zWO), (97, bV zYx)] ?_ ?_
     ·cases zTz : (zC4.X == zFI.X)
      ·rw [zTz] at zQb
       rw [if_neg (by decide)] at zQb
       have H := zQb
       obtain rfl := oI H
       refine Tq.pass rfl rfl rfl rfl rfl (by decide) ?_
       refine Tq.pass rfl rfl rfl rfl rfl (by decide) ?_
       refine Tq.pass rfl rfl rfl rfl rfl (by decide) ?_
       refine Tq.pass rfl rfl rfl rfl rfl (by decide) ?_
       refine Tq.pass rfl rfl rfl rfl rfl (by decide) ?_
       refine Tq.pass rfl rfl rfl rfl rfl (by decide) ?_
       refine Tq.pass rfl rfl rfl rfl rfl (by decide) ?_
       refine Tq.pass rfl rfl rfl rfl rfl (by decide) ?_
       refine Tq.pass rfl rfl rfl rfl rfl (by decide) ?_
       refine Tq.pass rfl rfl rfl rfl rfl (by decide) ?_
       refine Tq.pass rfl rfl rfl rfl rfl (by decide) ?_
       refine Tq.va rfl (fun _ _ a c => zy (a.ev rfl) (a.ev rfl)) ?_
       exact Tq.fin (.cons rfl (.cons rfl (.cons rfl (.cons rfl (.cons rfl (.cons rfl (.cons rfl (.cons rfl (.cons rfl (.cons rfl .nil))))))))))
      ·rw [zTz] at zQb
       rw [if_pos rfl] at zQb
       have H := zQb
       refine Tq.val (wg rfl rfl rfl) rfl (fun _ _ a c => zB VP (a.ev rfl)) ?_
       refine Tq.val (wg rfl rfl rfl) rfl (fun _ _ a c => zC QA (a.ev rfl) (rdb c (vs := [iv zC4.X, iv zC4.Y]) (k := 87) rfl 1) rfl) ?_
       refine Tq.val (wg rfl rfl rfl) rfl (fun _ _ a c => zB VP (a.ev rfl)) ?_
       refine Tq.val (wg rfl rfl rfl) rfl (fun _ _ a c => zC QA (a.ev rfl) (rdb c (vs := [iv zFI.X, iv zFI.Y]) (k := 88) rfl 1) rfl) ?_
       refine Tq.val (wg rfl rfl rfl) rfl (fun _ _ a c => zMg (a.ev rfl) (a.ev rfl) _) ?_
       refine Tq.val (wg rfl rfl rfl) rfl (fun _ _ a c => run_move (a.ev rfl)) ?_
       refine Tq.val (wg rfl rfl rfl) rfl (fun _ _ a c => run_move (a.ev rfl)) ?_
       refine Tq.val (wg rfl rfl rfl) rfl (fun _ _ a c => Jn (a.ev rfl) (a.ev rfl)) ?_
       obtain ⟨zcP, znE, H⟩ := bnd H
       obtain ⟨zf8, zf7, zf6⟩ := zO znE
       refine Tq.val (wg rfl rfl rfl) rfl (fun _ _ a c => zD Kb (a.ev rfl) zEW.form (a.ev rfl) zf8 zf7) ?_
       refine Tq.val (wg rfl rfl rfl) rfl (fun _ _ a c => zC QA (a.ev rfl) (rdF Jd (zEW.rl) zf6 c) rfl) ?_
       refine Tq.val (wg rfl rfl rfl) rfl (fun _ _ a c => zBJ (a.ev rfl) (a.ev rfl)) ?_
       refine Tq.va rfl (fun _ _ a c => zx (a.ev rfl) (a.ev rfl)) ?_
       obtain rfl := oI H
       exact Tq.fin (.cons rfl (.cons rfl (.cons rfl (.cons rfl (.cons rfl (.cons rfl (.cons rfl (.cons rfl (.cons rfl (.cons rfl .nil))))))))))
     ·refine Tq.mv rfl rfl ?_
      obtain ⟨zke, zQa, H⟩ := bnd H
      refine Tq.mid 12 [(0, sL zF p0 zH), (3, sL zDz zBE zFf), (6, sL zDN zC9 zDI), (7, iv zCS), (8, sL zIb zIE zIT), (9, iv zBr), (10, iv zD2), (11, pV zSb), (110, bV zke)] ?_ ?_
      ·cases zTz : zYx
       ·rw [zTz] at zQa
        rw [if_neg (by decide)] at zQa
        have H := zQa
        obtain rfl := oI H
        refine Tq.pass rfl rfl rfl rfl rfl (by decide) ?_
        refine Tq.pass rfl rfl rfl rfl rfl (by decide) ?_
        refine Tq.pass rfl rfl rfl rfl rfl (by decide) ?_
        refine Tq.pass rfl rfl rfl rfl rfl (by decide) ?_
        refine Tq.pass rfl rfl rfl rfl rfl (by decide) ?_
        refine Tq.pass rfl rfl rfl rfl rfl (by decide) ?_
        refine Tq.pass rfl rfl rfl rfl rfl (by decide) ?_
        refine Tq.pass rfl rfl rfl rfl rfl (by decide) ?_
        refine Tq.pass rfl rfl rfl rfl rfl (by decide) ?_
        refine Tq.pass rfl rfl rfl rfl rfl (by decide) ?_
        refine Tq.pass rfl rfl rfl rfl rfl (by decide) ?_
        refine Tq.va rfl (fun _ _ a c => zy (a.ev rfl) (a.ev rfl)) ?_
        exact Tq.fin (.cons rfl (.cons rfl (.cons rfl (.cons rfl (.cons rfl (.cons rfl (.cons rfl (.cons rfl (.cons rfl .nil)))))))))
       ·rw [zTz] at zQa
        rw [if_pos rfl] at zQa
        have H := zQa
        refine Tq.val (wg rfl rfl rfl) rfl (fun _ _ a c => run_move (a.ev rfl)) ?_
        refine Tq.val (wg rfl rfl rfl) rfl (fun _ _ a c => run_move (a.ev rfl)) ?_
        refine Tq.val (wg rfl rfl rfl) rfl (fun _ _ a c => Jn (a.ev rfl) (a.ev rfl)) ?_
        obtain ⟨zcO, znD, H⟩ := bnd H
        obtain ⟨zf5, zf4, zf3⟩ := zO znD
        refine Tq.val (wg rfl rfl rfl) rfl (fun _ _ a c => zD Kb (a.ev rfl) zEW.form (a.ev rfl) zf5 zf4) ?_
        refine Tq.val (wg rfl rfl rfl) rfl (fun _ _ a c => zC QA (a.ev rfl) (rdF Jd (zEW.rl) zf3 c) rfl) ?_
        refine Tq.val (wg rfl rfl rfl) rfl (fun _ _ a c => zB VP (a.ev rfl)) ?_
        refine Tq.val (wg rfl rfl rfl) rfl (fun _ _ a c => zC QA (a.ev rfl) (rdb c (vs := [iv zC4.X, iv zC4.Y]) (k := 87) rfl 1) rfl) ?_
        refine Tq.val (wg rfl rfl rfl) rfl (fun _ _ a c => zB VP (a.ev rfl)) ?_
        refine Tq.val (wg rfl rfl rfl) rfl (fun _ _ a c => zC QA (a.ev rfl) (rdb c (vs := [iv zFI.X, iv zFI.Y]) (k := 88) rfl 1) rfl) ?_
        refine Tq.val (wg rfl rfl rfl) rfl (fun _ _ a c => zKA (a.ev rfl) (a.ev rfl) _) ?_
        refine Tq.val (wg rfl rfl rfl) rfl (fun _ _ a c => zh (a.ev rfl) (a.ev rfl)) ?_
        refine Tq.va rfl (fun _ _ a c => zx (a.ev rfl) (a.ev rfl)) ?_
        obtain rfl := oI H
        exact Tq.fin (.cons rfl (.cons rfl (.cons rfl (.cons rfl (.cons rfl (.cons rfl (.cons rfl (.cons rfl (.cons rfl .nil)))))))))
      ·refine Tq.nil (Tr.zA (Tr.cond rfl H (fun H => ?_) (fun H => ?_)))
       ·refine Tr.region (Tr.mv rfl rfl (Tr.va rfl (fun _ _ a c => zB Wo (a.ev rfl)) ?_))
        refine Tr.va rfl (fun _ _ a c => zC QA (a.ev rfl) (rdb c (vs := [iv zC4.X, iv zC4.Y]) (k := 87) rfl 0) rfl) ?_
        refine Tr.buildSlice 89 (e := 3) (vs := [(0, iv zC4.X)]) (cs := [iv zC4.X]) (wn rfl) rfl (zi rfl Qh) (by kernel_rfl) fun zry => ?_
        obtain ⟨zfY, zon, H⟩ := bnd H
        refine Tr.append 62 (t := zW) (l := zIE) (l2 := [zC4.X]) (wn rfl) rfl rfl rfl rfl (fun W hW => ⟨[[iv zC4.X]], (.cons ⟨(), trivial, rfl⟩ .nil), rdb hW (vs := [iv zC4.X]) (k := 89) rfl 0⟩) Vu zGN zK9 (by decide) zLq rfl zon fun zpx zpX hAl942 => ?_
        refine Tr.asg rfl rfl (Tr.nil (Tr.zb (Tr.zA (Tr.region (Tr.mv rfl rfl (Tr.va rfl (fun _ _ a c => zg (a.ev rfl) (a.ev rfl)) ?_))))))
        exact Tr.asg rfl rfl (Tr.nil (Tr.zZ zTV (zfY, (w64 (zD2 + 1)), zpx, zpX) ⟨H, hAl942⟩ (.cons rfl (.cons rfl (.cons rfl (.cons rfl (.cons rfl (.cons rfl (.cons rfl .nil))))))) (.cons rfl (.cons rfl .nil))))
       ·refine Tr.skip (Tr.zb (Tr.zA (Tr.region (Tr.mv rfl rfl (Tr.va rfl (fun _ _ a c => zg (a.ev rfl) (a.ev rfl)) ?_)))))
        exact Tr.asg rfl rfl (Tr.nil (Tr.zZ zTV (zIE, (w64 (zD2 + 1)), zIb, zIT) ⟨H, zXC⟩ (.cons rfl (.cons rfl (.cons rfl (.cons rfl (.cons rfl (.cons rfl (.cons rfl .nil))))))) (.cons rfl (.cons rfl .nil))))
    ·refine Tr.exit (Tr.zP (Tr.zP (Tr.zl (Tr.zb (Tr.zA (Tr.region (Tr.mv rfl rfl (Tr.va rfl (fun _ _ a c => zg (a.ev rfl) (a.ev rfl)) ?_))))))))
     exact Tr.asg rfl rfl (Tr.nil (Tr.zZ zQP (zIE, (w64 (zBr + 1)), zIb, zIT) ⟨H, zXC⟩ (.cons rfl (.cons rfl (.cons rfl (.cons rfl (.cons rfl (.cons rfl .nil)))))) (.cons rfl (.cons rfl .nil))))
   ·refine Tr.exit (Tr.zP (Tr.zP (Tr.zl (Tr.zA (Tr.zJQ 13 [] [] (by kernel_rfl) (by kernel_rfl) fun zrU zog zqH => ?_)))))
    refine Dr.quiet 0 [(116, sL zDN zC9 zDI)] (by kernel_rfl) rfl rfl (by kernel_rfl) ?_ rfl rfl ?_
    ·exact Tq.mv rfl rfl (Tq.fin (.cons rfl .nil))
    refine Dr.quiet 1 [(117, sL zDz zBE zFf)] (by kernel_rfl) rfl rfl (by kernel_rfl) ?_ rfl rfl ?_
    ·exact Tq.mv rfl rfl (Tq.fin (.cons rfl .nil))
    refine Dr.quiet 2 [(118, iv zCS)] (by kernel_rfl) rfl rfl (by kernel_rfl) ?_ rfl rfl ?_
    ·exact Tq.mv rfl rfl (Tq.fin (.cons rfl .nil))
    refine Dr.quiet 3 [(119, iv (w64 (zCS - 1)))] (by kernel_rfl) rfl rfl (by kernel_rfl) ?_ rfl rfl ?_
    ·refine Tq.va rfl (fun _ _ a c => Jn (a.ev rfl) (a.ev rfl)) ?_
     exact Tq.fin (.cons rfl .nil)
    obtain ⟨zUz, znC, H⟩ := bnd H
    obtain ⟨zf2, zf1, zf0⟩ := zO znC
    refine Dr.quiet 4 [(120, .pointer (some ⟨adB zDz, adO zDz + ((w64 (zCS - 1))).toNat * 1, none⟩))] (by kernel_rfl) rfl rfl (by kernel_rfl) ?_ rfl rfl ?_
    ·refine Tq.va rfl (fun _ _ a c => zD Kb (a.ev rfl) zEW.form (a.ev rfl) zf2 zf1) ?_
     exact Tq.fin (.cons rfl .nil)
    refine Dr.quiet 5 [(121, iv zUz)] (by kernel_rfl) rfl rfl (by kernel_rfl) ?_ rfl rfl ?_
    ·refine Tq.va rfl (fun _ _ a c => zC QA (a.ev rfl) (rdF Jd (zEW.rl) zf0 c) rfl) ?_
     exact Tq.fin (.cons rfl .nil)
    refine Dr.quiet 6 [(122, sL zDz zBE zFf)] (by kernel_rfl) rfl rfl (by kernel_rfl) ?_ rfl rfl ?_
    ·exact Tq.mv rfl rfl (Tq.fin (.cons rfl .nil))
    refine Dr.quiet 7 [(123, iv zCS)] (by kernel_rfl) rfl rfl (by kernel_rfl) ?_ rfl rfl ?_
    ·exact Tq.mv rfl rfl (Tq.fin (.cons rfl .nil))
    obtain ⟨zUy, znB, H⟩ := bnd H
    obtain ⟨zfz, zfy, zfx⟩ := zO znB
    refine Dr.quiet 8 [(124, .pointer (some ⟨adB zDz, adO zDz + (zCS).toNat * 1, none⟩))] (by kernel_rfl) rfl rfl (by kernel_rfl) ?_ rfl rfl ?_
    ·refine Tq.va rfl (fun _ _ a c => zD Kb (a.ev rfl) zEW.form (a.ev rfl) zfz zfy) ?_
     exact Tq.fin (.cons rfl .nil)
    refine Dr.quiet 9 [(125, iv zUy)] (by kernel_rfl) rfl rfl (by kernel_rfl) ?_ rfl rfl ?_
    ·refine Tq.va rfl (fun _ _ a c => zC QA (a.ev rfl) (rdF Jd (zEW.rl) zfx c) rfl) ?_
     exact Tq.fin (.cons rfl .nil)
    refine Dr.quiet 10 [(126, sL zRT zPi zRB)] (by kernel_rfl) rfl rfl (by kernel_rfl) ?_ rfl rfl ?_
    ·exact Tq.mv rfl rfl (Tq.fin (.cons rfl .nil))
    obtain ⟨zLA, zmM, H⟩ := bnd H
    refine Dr.one 11 (by kernel_rfl) ?_
    refine St.zAi 11 [90] [emp] (U := (Option Addr × Nat)) (fun u => (sL u.1 zLA u.2)) (fun u => SlF u.1 zLA.length u.2) (fun u => [ow u.1 u.2 125 Qm zLA]) rfl (zn rfl zw) (fun _ => rfl) (zKS rfl) rfl (wn rfl) rfl Tryz.call62 (zI rfl zX) (fun W hW hp hE => zFv N zPi zRT zRB (hW.slS (k := 62) rfl hp rfl) zLA zmM hE) ?_
    intro u hu zrG
    obtain ⟨zHU, zHO⟩ := u
    have gy947_0 := hu
    have zpH : SlF zHU zLA.length zHO := gy947_0
    show Dr _ _ _ _ _ _ _ _ _ (uf _ 127 (sL zHU zLA zHO)) (up _ 90 (ow zHU zHO 125 Qm zLA))
    refine Dr.quiet 12 [(128, .agg #[iv zUz, iv zUy, sL zHU zLA zHO])] (by kernel_rfl) rfl rfl (by kernel_rfl) ?_ rfl rfl ?_
    ·refine Tq.build (vs := [(0, iv zUz), (1, iv zUy), (2, sL zHU zLA zHO)]) (cs := [iv zUz, iv zUy, sL zHU zLA zHO]) (wn rfl) rfl (zi rfl (zi rfl (zi rfl Qh))) (by kernel_rfl) ?_
     exact Tq.fin (.cons rfl .nil)
    refine Dr.tail (by kernel_rfl) ?_
    refine Tr.freeze 90 rfl fun w zly zaK => ?_
    replace zJN := zJN.trans zly
    obtain ⟨zPR, zmL, H⟩ := bnd H
    refine Tr.zCe [3] [ow zDN zDI 98 zm zC9] (U := (Option Addr × Nat)) (fun u => (sL u.1 zPR u.2)) (fun O W u => SlF u.1 zPR.length u.2) (fun u => [ow u.1 u.2 98 zm zPR]) rfl (zn rfl zw) (fun _ => rfl) (wn rfl) rfl Tryz.call61 (zI rfl (zI rfl zX)) (fun W hW hp hE => zCg N zC9 zDN zDI (zk.mk zUz zUy zLA) zHU zHO (zaK.zMY (hW.zCA hp)) zPR zmL hE) ?_
    intro w u zeH hu
    obtain ⟨zNH, zMp⟩ := u
    have gy951_0 := hu
    replace zaK := zaK.le zeH
    replace zJN := zJN.trans zeH
    have za5 : SlF zNH zPR.length zMp := gy951_0 --@phi
    show Tr _ _ (uf _ 129 (sL zNH zPR zMp)) (up _ 3 (ow zNH zMp 98 zm zPR)) _
    refine Tr.asg rfl rfl (Tr.nil (Tr.zb (Tr.zA (Tr.region (Tr.mv rfl rfl (Tr.va rfl (fun _ _ a c => zg (a.ev rfl) (a.ev rfl)) ?_))))))
    exact Tr.asg rfl rfl (Tr.nil (Tr.zZ zJN (zPR, (w64 (zCS + 1)), zNH, zMp) ⟨H, za5⟩ (.cons rfl (.cons rfl (.cons rfl (.cons rfl .nil)))) (.cons rfl .nil)))
  ·refine Tr.exit (Tr.zP (Tr.zP (Tr.zl (Tr.zA (Tr.sr (Tr.mv rfl rfl ?_))))))
   obtain ⟨zPQ, zmK, H⟩ := bnd H
   refine Tr.zAi [91] [emp] (U := (Option Addr × Nat)) (fun u => (sL u.1 zPQ u.2)) (fun u => SlF u.1 zPQ.length u.2) (fun u => [ow u.1 u.2 36 zL zPQ]) rfl (zn rfl zw) (fun _ => rfl) (wn rfl) rfl Tryz.call63 (zI rfl zX) (fun W hW hp hE => zDL N zC9 zDN zDI (hW.slS (k := 3) rfl hp rfl) zPQ zmK hE) ?_
   intro u hu
   obtain ⟨zK0, zKe⟩ := u
   have gy953_0 := hu
   have za4 : SlF zK0 zPQ.length zKe := gy953_0 --@phi
   show Tr _ _ (uf _ 131 (sL zK0 zPQ zKe)) (up _ 91 (ow zK0 zKe 36 zL zPQ)) _
   refine Tr.asg rfl rfl (Tr.nil (Tr.zA (Tr.ret ?_)))
   obtain rfl := oI H
   exact Tr.out (m := [sL zK0 zPQ zKe]) [] (zU rfl zY) (fun W hW => ⟨(zK0, zKe), rfl, za4, HF.zEF leB (hW.pick (ks := [91]) (by decide) (zn rfl zw)) ⟨Ww _ _ _ _ WW, trivial⟩⟩)

theorem zFi {w : Bs} (p0 : (List zJ)) (zF : Option Addr) (zH : Nat) (zK : Sl w.O w.W zL zF zH p0) (r : ((List zJ) × Int)) (H : Vi p0 = some r) (hE : HF w w.W (LEn [])) : Calls Tryz.prog 24 [sL zF p0 zH].toArray w.W fun e W' => ∃ (w' : Bs) (u : (Option Addr × Nat)), w.Le w' ∧ e = .returned (.tuple #[sL u.1 r.1 u.2, iv r.2]) ∧ (Sl w'.O w'.W zL u.1 u.2 r.1) ∧ HF w' W' (LEn []) := by
 unfold Vi at H
 have leB := Bs.Le.refl w
 refine Tr.enter (n := 8) Tryz.func24 rfl rfl rfl hE ?_
 refine Tr.sr (Tr.asg rfl rfl (Tr.Qb 1 36 zL ?_))
 show Tr _ _ (uf _ 2 (sL none (([] : List zJ)) 0)) _ _
 refine Tr.asg rfl rfl (Tr.nil (Tr.zA (Tr.seq (Tr.sr (Tr.mv rfl rfl (Tr.va rfl (fun _ _ a c => zf zA9 (a.ev rfl)) ?_))))))
 refine Tr.va rfl (fun _ _ a c => Wx (a.ev rfl) (a.ev rfl)) ?_
 refine Tr.nil (Tr.zA (Tr.cond rfl H (fun H => ?_) (fun H => ?_)))
 ·refine Tr.sr (Tr.asg rfl rfl (Tr.Qb 2 36 zL ?_))
  show Tr _ _ (uf _ 2 (sL none (([] : List zJ)) 0)) _ _
  refine Tr.asg rfl rfl (Tr.nil (Tr.zA (Tr.ret (Tr.zq ?_))))
  obtain rfl := oI H
  refine Tr.freeze 2 rfl fun w zJO zmJ => ?_
  replace leB := leB.trans zJO
  exact Tr.out (m := [sL none (([] : List zJ)) 0, iv 2]) [] (zU rfl (zU rfl zY)) (fun W hW => ⟨w, (none, 0), leB, rfl, zmJ, hW.pick (ks := []) (by decide) zw⟩)
 ·refine Tr.skip (Tr.zA (Tr.sr (Tr.mv rfl rfl (Tr.asg rfl rfl (Tr.asg rfl rfl (Tr.nil (Tr.zA (Tr.ret ?_))))))))
  obtain rfl := oI H
  exact Tr.out (m := [sL zF p0 zH, iv 0]) [] (zU rfl (zU rfl zY)) (fun W hW => ⟨w, (zF, zH), leB, rfl, zK, hW.pick (ks := []) (by decide) zw⟩)

theorem zFy (N : Nat) {w : Bs} (p0 : (List (List zG))) (zF : Option Addr) (zH : Nat) (zK : Sl w.R w.W zS zF zH p0) (r : ((List zJ) × Int)) (H : WB N p0 = some r) (hE : HF w w.W (LEn [])) : Calls Tryz.prog 7 [sL zF p0 zH].toArray w.W fun e W' => ∃ (w' : Bs) (u : (Option Addr × Nat)), w.Le w' ∧ e = .returned (.tuple #[sL u.1 r.1 u.2, iv r.2]) ∧ (Sl w'.O w'.W zL u.1 u.2 r.1) ∧ HF w' W' (LEn []) := by
 unfold WB at H
 have leB := Bs.Le.refl w
 refine Tr.enter (n := 42) Tryz.func7 rfl rfl rfl hE ?_
 refine Tr.sr (Tr.asg rfl rfl (Tr.Qb 1 36 zL ?_))
 show Tr _ _ (uf _ 2 (sL none (([] : List zJ)) 0)) _ _
 refine Tr.asg rfl rfl (Tr.nil (Tr.zA (Tr.sr (Tr.asg rfl rfl (Tr.nil (Tr.zA (Tr.seq (Tr.sr (Tr.asg rfl rfl (Tr.nil (Tr.zA ?_)))))))))))
 refine Tr.block (Tr.loop (σ := Int × Int) (fun m w s => Jw N p0 m s.1 s.2 = some r) (fun s => [(0, sL zF p0 zH), (4, iv s.1), (5, iv s.2)]) (fun s => []) N (0, 0) H (.cons rfl (.cons rfl (.cons rfl .nil))) .nil (fun _ _ h => KG (h)) ?_)
 intro w QI mL1 s hs
 obtain ⟨zAm, zB7⟩ := s
 have H := hs
 replace H : Jw N p0 (mL1 + 1) zAm zB7 = some r := H
 replace zK := zK.leR QI
 replace leB := leB.trans QI
 rw [Jw.eq_2] at H
 show Tr _ _ (LF [(0, sL zF p0 zH), (4, iv zAm), (5, iv zB7)]) (LE []) _
 refine Tr.seq (Tr.sr (Tr.mv rfl rfl (Tr.mv rfl rfl (Tr.va rfl (fun _ _ a c => zf zDX (a.ev rfl)) ?_))))
 refine Tr.va rfl (fun _ _ a c => zh (a.ev rfl) (a.ev rfl)) ?_
 refine Tr.nil (Tr.zA (Tr.cond rfl H (fun H => ?_) (fun H => ?_)))
 ·refine Tr.skip (Tr.zA (Tr.seq (Tr.block (Tr.region (Tr.mv rfl rfl (Tr.mv rfl rfl (Tr.mv rfl rfl ?_)))))))
  obtain ⟨x112, hx112, H⟩ := bnd H
  obtain ⟨zOe, zOd, zOc⟩ := zO hx112
  obtain ⟨zfB, hRu113, zSD, hcu113⟩ := (zK).el zOc
  obtain ⟨zK7, zKm⟩ := zfB
  have zYu := zSD
  refine Tr.va rfl (fun _ _ a c => zD zCl (a.ev rfl) zK.form (a.ev rfl) zOe zOd) ?_
  refine Tr.va rfl (fun _ _ a c => zC zDJ (a.ev rfl) (rdR hRu113 hcu113 c) rfl) ?_
  refine Tr.va rfl (fun _ _ a c => zf zBI (a.ev rfl)) ?_
  refine Tr.va rfl (fun _ _ a c => zg (a.ev rfl) (a.ev rfl)) ?_
  refine Tr.asg rfl rfl (Tr.nil (Tr.zb (Tr.zA (Tr.region (Tr.mv rfl rfl (Tr.va rfl (fun _ _ a c => zg (a.ev rfl) (a.ev rfl)) ?_))))))
  exact Tr.asg rfl rfl (Tr.nil (Tr.zZ QI ((w64 (zAm + (x112.length : Int))), (w64 (zB7 + 1))) H (.cons rfl (.cons rfl (.cons rfl .nil))) .nil))
 ·refine Tr.exit (Tr.zP (Tr.zP (Tr.zl (Tr.zA (Tr.seq (Tr.sr (Tr.mv rfl rfl (Tr.va rfl (fun _ _ a c => Wx (a.ev rfl) (a.ev rfl)) ?_))))))))
  refine Tr.nil (Tr.zA (Tr.cond rfl H (fun H => ?_) (fun H => ?_)))
  ·refine Tr.sr (Tr.asg rfl rfl (Tr.Qb 2 36 zL ?_))
   show Tr _ _ (uf _ 2 (sL none (([] : List zJ)) 0)) _ _
   refine Tr.asg rfl rfl (Tr.nil (Tr.zA (Tr.ret (Tr.zq ?_))))
   obtain rfl := oI H
   refine Tr.freeze 2 rfl fun w zl7 zmI => ?_
   replace leB := leB.trans zl7
   exact Tr.out (m := [sL none (([] : List zJ)) 0, iv 2]) [] (zU rfl (zU rfl zY)) (fun W hW => ⟨w, (none, 0), leB, rfl, zmI, hW.pick (ks := []) (by decide) zw⟩)
  ·refine Tr.skip (Tr.zA (Tr.seq (Tr.sr (Tr.asg rfl rfl (Tr.nil (Tr.zA (Tr.block (Tr.loop (σ := Int) (fun m w s => JQ N p0 m s = some r) (fun s => [(0, sL zF p0 zH), (6, iv s)]) (fun s => []) N 0 H (.cons rfl (.cons rfl .nil)) .nil (fun _ _ h => KG (h)) ?_))))))))
   intro w zCs mL2 zDW hs
   have H := hs
   replace H : JQ N p0 (mL2 + 1) zDW = some r := H
   replace zK := zK.leR zCs
   replace leB := leB.trans zCs
   rw [JQ.eq_2] at H
   show Tr _ _ (LF [(0, sL zF p0 zH), (6, iv zDW)]) (LE []) _
   refine Tr.seq (Tr.sr (Tr.mv rfl rfl (Tr.mv rfl rfl (Tr.va rfl (fun _ _ a c => zf zDX (a.ev rfl)) ?_))))
   refine Tr.va rfl (fun _ _ a c => zh (a.ev rfl) (a.ev rfl)) ?_
   refine Tr.nil (Tr.zA (Tr.cond rfl H (fun H => ?_) (fun H => ?_)))
   ·refine Tr.skip (Tr.zA (Tr.seq (Tr.block (Tr.sr (Tr.mv rfl rfl (Tr.mv rfl rfl ?_))))))
    obtain ⟨zYT, zad, H⟩ := bnd H
    obtain ⟨zVq, zVp, zVo⟩ := zO zad
    obtain ⟨u127, hRu127, zdK, hcu127⟩ := (zK).el zVo
    obtain ⟨zYA, zXp⟩ := u127
    have zLe := zdK
    replace zLe : Sl w.R w.W zz zYA zXp zYT := zLe
    refine Tr.va rfl (fun _ _ a c => zD zCl (a.ev rfl) zK.form (a.ev rfl) zVq zVp) ?_
    refine Tr.va rfl (fun _ _ a c => zC zDJ (a.ev rfl) (rdR hRu127 hcu127 c) rfl) ?_
    obtain ⟨zYJ, hy128, H⟩ := bnd H
    refine Tr.KV (r := (iv zYJ)) (wn rfl) rfl Tryz.call23 (zI rfl zX) (fun W hW => zFB N zYT zYA zXp (zLe.ext hW.Ky) zYJ hy128 (HF.start _)) ?_
    refine Tr.asg rfl rfl (Tr.nil (Tr.zA (Tr.sr (Tr.mv rfl rfl (Tr.va rfl (fun _ _ a c => zCi (a.ev rfl) (a.ev rfl)) ?_)))))
    refine Tr.nil (Tr.zA (Tr.cond rfl H (fun H => ?_) (fun H => ?_)))
    ·refine Tr.sr (Tr.mv rfl rfl (Tr.asg rfl rfl (Tr.Qb 5 36 zL ?_)))
     show Tr _ _ (uf _ 2 (sL none (([] : List zJ)) 0)) _ _
     refine Tr.asg rfl rfl (Tr.nil (Tr.zA (Tr.ret (Tr.QY (Tr.zq (Tr.zq (Tr.QY (Tr.zq ?_))))))))
     obtain rfl := oI H
     refine Tr.freeze 5 rfl fun w zW5 zmG => ?_
     replace hRu127 := zW5.r _ hRu127
     replace leB := leB.trans zW5
     exact Tr.out (m := [sL none (([] : List zJ)) 0, iv zYJ]) [] (zU rfl (zU rfl zY)) (fun W hW => ⟨w, (none, 0), leB, rfl, zmG, hW.pick (ks := []) (by decide) zw⟩)
    ·refine Tr.skip (Tr.zb (Tr.zA (Tr.region (Tr.mv rfl rfl (Tr.va rfl (fun _ _ a c => zg (a.ev rfl) (a.ev rfl)) ?_)))))
     exact Tr.asg rfl rfl (Tr.nil (Tr.zZ zCs (w64 (zDW + 1)) H (.cons rfl (.cons rfl .nil)) .nil))
   ·refine Tr.exit (Tr.zP (Tr.zP (Tr.zl (Tr.zA (Tr.sr (Tr.mv rfl rfl ?_))))))
    obtain ⟨zDO, zTe, H⟩ := bnd H
    refine Tr.zAi [6] [emp] (U := (Option Addr × Nat)) (fun u => (sL u.1 zDO u.2)) (fun u => SlF u.1 zDO.length u.2) (fun u => [ow u.1 u.2 36 zL zDO]) rfl (zn rfl zw) (fun _ => rfl) (wn rfl) rfl Tryz.call25 (zI rfl zX) (fun W hW hp hE => zFA N p0 zF zH (zK.ext (hW.zCA hp)) zDO zTe hE) ?_
    intro u hu
    obtain ⟨zGD, zF7⟩ := u
    have gy131_0 := hu
    have zTy : SlF zGD zDO.length zF7 := gy131_0 --@phi
    show Tr _ _ (uf _ 38 (sL zGD zDO zF7)) (up _ 6 (ow zGD zF7 36 zL zDO)) _
    refine Tr.freeze 6 rfl fun w zl4 zaO => ?_
    replace leB := leB.trans zl4
    obtain ⟨zHn, zm0, H⟩ := bnd H
    refine Tr.zCe [] [] (U := (Option Addr × Nat)) (fun u => (.tuple #[sL u.1 zHn.1 u.2, iv zHn.2])) (fun O W u => Sl O W zL u.1 u.2 zHn.1) (fun u => []) rfl zw (fun _ => rfl) (wn rfl) rfl Tryz.call24 (zI rfl zX) (fun W hW hp hE => zFi zDO zGD zF7 (zaO.zMY (hW.zCA hp)) zHn zm0 hE) ?_
    intro w u zeO hu
    obtain ⟨zNS, zM0⟩ := u
    have gy135_0 := hu
    replace zaO := zaO.le zeO
    replace leB := leB.trans zeO
    have zbK : Sl w.O w.W zL zNS zM0 zHn.1 := gy135_0 --@phi
    show Tr _ _ (uf _ 39 (.tuple #[sL zNS zHn.1 zM0, iv zHn.2])) (_) _
    refine Tr.va rfl (fun _ _ a c => VZ (a.ev rfl) rfl) ?_
    refine Tr.va rfl (fun _ _ a c => VZ (a.ev rfl) rfl) ?_
    refine Tr.asg rfl rfl (Tr.asg rfl rfl (Tr.nil (Tr.zA (Tr.ret ?_))))
    obtain rfl := oI H
    exact Tr.out (m := [sL zNS zHn.1 zM0, iv zHn.2]) [] (zU rfl (zU rfl zY)) (fun W hW => ⟨w, (zNS, zM0), leB, rfl, zbK, hW.pick (ks := []) (by decide) zw⟩)

theorem zGy {w : Bs} (p0 : (List zG)) (zF : Option Addr) (zH : Nat) (zK : Sl w.R w.W zz zF zH p0) (p1 : (List zG)) (Ql : Option Addr) (Qk : Nat) (KU : Sl w.R w.W zz Ql Qk p1) (r : Bool) (H : zAS p0 p1 = some r) (hE : HF w w.W E0) : Calls Tryz.prog 9 [sL zF p0 zH, sL Ql p1 Qk].toArray w.W fun e W' => e = .returned (bV r) ∧ HF w W' E0 := by
 unfold zAS at H
 have leB := Bs.Le.refl w
 refine Tr.enter (n := 26) Tryz.func9 rfl rfl rfl hE ?_
 refine Tr.sr (Tr.asg rfl rfl (Tr.nil (Tr.zA (Tr.seq (Tr.sr (Tr.mv rfl rfl (Tr.va rfl (fun _ _ a c => zf zBI (a.ev rfl)) ?_)))))))
 refine Tr.mv rfl rfl (Tr.va rfl (fun _ _ a c => zf zBI (a.ev rfl)) ?_)
 refine Tr.va rfl (fun _ _ a c => zCi (a.ev rfl) (a.ev rfl)) ?_
 refine Tr.nil (Tr.zA (Tr.cond rfl H (fun H => ?_) (fun H => ?_)))
 ·refine Tr.sr (Tr.asg rfl rfl (Tr.nil (Tr.zA (Tr.ret (Tr.zq ?_)))))
  obtain rfl := oI H
  exact Tr.out (m := [bV false]) [] (zU rfl zY) (fun W hW => ⟨rfl, hW.low leB⟩)
 ·refine Tr.skip (Tr.zA (Tr.seq (Tr.sr (Tr.mv rfl rfl (Tr.va rfl (fun _ _ a c => zf zBI (a.ev rfl)) ?_)))))
  refine Tr.mv rfl rfl (Tr.nil (Tr.zA (Tr.block (Tr.loop (σ := (List zG) × Nat) (fun m w s => m = s.1.length + 1 ∧ s.1 = List.drop s.2 p0 ∧ s.2 ≤ p0.length ∧ Jo p1 s.1 s.2 = some r) (fun s => [(0, sL zF p0 zH), (1, sL Ql p1 Qk), (12, iv (p0.length : Int)), (13, iv (s.2 : Int))]) (fun s => []) (p0.length + 1) (p0, 0) ⟨rfl, rfl, Nat.zero_le _, H⟩ (.cons rfl (.cons rfl (.cons rfl (.cons rfl .nil)))) .nil (fun _ _ h => absurd h.1 (by simp)) ?_))))
  intro w QI m s hs
  obtain ⟨zV, iL1⟩ := s
  obtain ⟨Vn, QK, hiL1, H⟩ := hs
  replace QK : zV = List.drop iL1 p0 := QK
  replace H : Jo p1 zV iL1 = some r := H
  replace Vn : m + 1 = zV.length + 1 := Vn
  replace zK := zK.leR QI
  replace KU := KU.leR QI
  replace leB := leB.trans QI
  obtain rfl : m = zV.length := by omega
  clear Vn
  show Tr _ _ (LF [(0, sL zF p0 zH), (1, sL Ql p1 Qk), (12, iv (p0.length : Int)), (13, iv (iL1 : Int))]) (LE []) _
  cases zV with
  | nil =>
   rw [Jo.eq_1] at H
   refine Tr.sr (Tr.va rfl (fun _ _ a c => zh (a.ev rfl) (a.ev rfl)) ?_)
   refine Tr.nil (Tr.zA (Tr.seq (Tr.zBN rfl (KF QK) ?_)))
   refine Tr.exit (Tr.zP (Tr.zP (Tr.zl (Tr.zA (Tr.sr (Tr.asg rfl rfl (Tr.nil (Tr.zA (Tr.ret ?_)))))))))
   obtain rfl := oI H
   exact Tr.out (m := [bV true]) [] (zU rfl zY) (fun W hW => ⟨rfl, hW.low leB⟩)
  | cons xL1 zV =>
   rw [Jo.eq_2] at H
   refine Tr.sr (Tr.va rfl (fun _ _ a c => zh (a.ev rfl) (a.ev rfl)) ?_)
   refine Tr.nil (Tr.zA (Tr.seq (Tr.zBM rfl (VD QK) ?_)))
   refine Tr.skip (Tr.zA (Tr.seq (Tr.block (Tr.sr (Tr.mv rfl rfl (Tr.asg rfl rfl (Tr.nil (Tr.zA (Tr.seq (Tr.draw (by kernel_rfl) (by kernel_rfl) ?_))))))))))
   refine Tq.mv rfl rfl (Tq.mv rfl rfl (Tq.va rfl (fun _ _ a c => zD zAh (a.ev rfl) zK.form (a.ev rfl) (Int.natCast_nonneg _) (QF QK)) ?_))
   refine Tq.va rfl (fun _ _ a c => ze (cs := [iv xL1.X, iv xL1.Y]) WP KI (a.ev rfl) (zQ.take (rdF Jb zK (Kv QK) c) 2) rfl) ?_
   refine Tq.mv rfl rfl (Tq.mv rfl rfl ?_)
   obtain ⟨x103, zKU, H⟩ := bnd H
   obtain ⟨zHH, zHG, zHF⟩ := zO zKU
   refine Tq.va rfl (fun _ _ a c => zD zAh (a.ev rfl) KU.form (a.ev rfl) zHH zHG) ?_
   refine Tq.va rfl (fun _ _ a c => ze (cs := [iv x103.X, iv x103.Y]) WP KI (a.ev rfl) (zQ.take (rdF Jb KU zHF c) 2) rfl) ?_
   refine Tq.va rfl (fun _ _ a c => zHA xL1 x103 (a.ev rfl) (a.ev rfl)) ?_
   refine Tq.nil (Tr.zA (Tr.cond rfl H (fun H => ?_) (fun H => ?_)))
   ·refine Tr.sr (Tr.asg rfl rfl (Tr.nil (Tr.zA (Tr.ret (Tr.QY (Tr.zq (Tr.zq (Tr.QY (Tr.zq ?_)))))))))
    obtain rfl := oI H
    exact Tr.out (m := [bV false]) [] (zU rfl zY) (fun W hW => ⟨rfl, hW.low leB⟩)
   ·refine Tr.skip (Tr.zb (Tr.zA (Tr.region (Tr.va rfl (fun _ _ a c => zg (a.ev rfl) (a.ev rfl)) ?_))))
    exact Tr.mv rfl rfl (Tr.nil (Tr.zZ QI (zV, (iL1 + 1)) ⟨rfl, Jh QK, QF QK, H⟩ (.cons rfl (.cons rfl (.cons rfl (.cons (congrArg (fun z => some (Value.int .i64 z)) (Jg QK zK.form)) .nil)))) .nil))

theorem zKz {w : Bs} (p0 : (List zJ)) (zF : Option Addr) (zH : Nat) (zK : Sl w.R w.W zL zF zH p0) (r : Int) (H : zFh p0 = some r) (hE : HF w w.W E0) : Calls Tryz.prog 64 [sL zF p0 zH].toArray w.W fun e W' => e = .returned (iv r) ∧ HF w W' E0 := by
 unfold zFh at H
 have leB := Bs.Le.refl w
 refine Tr.enter (n := 27) Tryz.func64 rfl rfl rfl hE ?_
 refine Tr.sr (Tr.asg rfl rfl (Tr.nil (Tr.zA (Tr.sr (Tr.asg rfl rfl (Tr.nil (Tr.zA (Tr.seq (Tr.sr (Tr.mv rfl rfl ?_))))))))))
 refine Tr.va rfl (fun _ _ a c => zf zA9 (a.ev rfl)) ?_
 refine Tr.mv rfl rfl (Tr.nil (Tr.zA (Tr.block (Tr.loop (σ := (List zJ) × Nat × Int) (fun m w s => m = s.1.length + 1 ∧ s.1 = List.drop s.2.1 p0 ∧ s.2.1 ≤ p0.length ∧ zAY s.1 s.2.1 s.2.2 = some r) (fun s => [(3, iv s.2.2), (6, sL zF p0 zH), (7, iv (p0.length : Int)), (8, iv (s.2.1 : Int))]) (fun s => []) (p0.length + 1) (p0, 0, 0) ⟨rfl, rfl, Nat.zero_le _, H⟩ (.cons rfl (.cons rfl (.cons rfl (.cons rfl .nil)))) .nil (fun _ _ h => absurd h.1 (by simp)) ?_))))
 intro w QI m s hs
 obtain ⟨zV, iL1, zAm⟩ := s
 obtain ⟨Vn, QK, hiL1, H⟩ := hs
 replace QK : zV = List.drop iL1 p0 := QK
 replace H : zAY zV iL1 zAm = some r := H
 replace Vn : m + 1 = zV.length + 1 := Vn
 replace zK := zK.leR QI
 replace leB := leB.trans QI
 obtain rfl : m = zV.length := by omega
 clear Vn
 show Tr _ _ (LF [(3, iv zAm), (6, sL zF p0 zH), (7, iv (p0.length : Int)), (8, iv (iL1 : Int))]) (LE []) _
 cases zV with
 | nil =>
  rw [zAY.eq_1] at H
  refine Tr.sr (Tr.va rfl (fun _ _ a c => zh (a.ev rfl) (a.ev rfl)) ?_)
  refine Tr.nil (Tr.zA (Tr.seq (Tr.zBN rfl (KF QK) ?_)))
  refine Tr.exit (Tr.zP (Tr.zP (Tr.zl (Tr.zA (Tr.sr (Tr.mv rfl rfl (Tr.asg rfl rfl (Tr.nil (Tr.zA (Tr.ret ?_))))))))))
  obtain rfl := oI H
  exact Tr.out (m := [iv zAm]) [] (zU rfl zY) (fun W hW => ⟨rfl, hW.low leB⟩)
 | cons xL1 zV =>
  rw [zAY.eq_2] at H
  refine Tr.sr (Tr.va rfl (fun _ _ a c => zh (a.ev rfl) (a.ev rfl)) ?_)
  refine Tr.nil (Tr.zA (Tr.seq (Tr.zBM rfl (VD QK) ?_)))
  refine Tr.skip (Tr.zA (Tr.seq (Tr.block (Tr.sr (Tr.va rfl (fun _ _ a c => zD zA3 (a.ev rfl) zK.form (a.ev rfl) (Int.natCast_nonneg _) (QF QK)) ?_)))))
  refine Tr.va rfl (fun _ _ a c => ze (cs := [iv xL1.X0, iv xL1.Y0, iv xL1.X1, iv xL1.Y1]) zCw zAK (a.ev rfl) (zQ.take (rdF KL zK (Kv QK) c) 4) rfl) ?_
  refine Tr.alloc 3 (wn rfl) rfl zHY fun zsS => ?_
  refine Tr.store 3 (cs := [iv xL1.X0, iv xL1.Y0, iv xL1.X1, iv xL1.Y1]) [iv xL1.X0, iv xL1.Y0, iv xL1.X1, iv xL1.Y1] (wn rfl) rfl rfl rfl rfl zAK rfl rfl rfl ?_
  refine Tr.nil (Tr.zA (Tr.region (Tr.mv rfl rfl (Tr.va rfl (fun _ _ a c => zB zE2 (a.ev rfl)) ?_))))
  refine Tr.va rfl (fun _ _ a c => zC QA (a.ev rfl) (rdb c (vs := [iv xL1.X0, iv xL1.Y0, iv xL1.X1, iv xL1.Y1]) (k := 3) rfl 2) rfl) ?_
  refine Tr.va rfl (fun _ _ a c => zB zAo (a.ev rfl)) ?_
  refine Tr.va rfl (fun _ _ a c => zC QA (a.ev rfl) (rdb c (vs := [iv xL1.X0, iv xL1.Y0, iv xL1.X1, iv xL1.Y1]) (k := 3) rfl 0) rfl) ?_
  refine Tr.va rfl (fun _ _ a c => Jn (a.ev rfl) (a.ev rfl)) ?_
  refine Tr.va rfl (fun _ _ a c => zB zDg (a.ev rfl)) ?_
  refine Tr.va rfl (fun _ _ a c => zC QA (a.ev rfl) (rdb c (vs := [iv xL1.X0, iv xL1.Y0, iv xL1.X1, iv xL1.Y1]) (k := 3) rfl 3) rfl) ?_
  refine Tr.va rfl (fun _ _ a c => zB zAL (a.ev rfl)) ?_
  refine Tr.va rfl (fun _ _ a c => zC QA (a.ev rfl) (rdb c (vs := [iv xL1.X0, iv xL1.Y0, iv xL1.X1, iv xL1.Y1]) (k := 3) rfl 1) rfl) ?_
  refine Tr.va rfl (fun _ _ a c => Jn (a.ev rfl) (a.ev rfl)) ?_
  refine Tr.va rfl (fun _ _ a c => zRq (a.ev rfl) (a.ev rfl)) ?_
  refine Tr.va rfl (fun _ _ a c => zg (a.ev rfl) (a.ev rfl)) ?_
  refine Tr.asg rfl rfl (Tr.nil (Tr.zb (Tr.zA (Tr.region (Tr.va rfl (fun _ _ a c => zg (a.ev rfl) (a.ev rfl)) ?_)))))
  exact Tr.mv rfl rfl (Tr.nil (Tr.zZ QI (zV, (iL1 + 1), (w64 (zAm + (w64 ((w64 (xL1.X1 - xL1.X0)) * (w64 (xL1.Y1 - xL1.Y0))))))) ⟨rfl, Jh QK, QF QK, H⟩ (.cons rfl (.cons rfl (.cons rfl (.cons (congrArg (fun z => some (Value.int .i64 z)) (Jg QK zK.form)) .nil)))) .nil))

theorem zMc (N : Nat) {w : Bs} (p0 : (List zJ)) (zF : Option Addr) (zH : Nat) (zK : Sl w.R w.W zL zF zH p0) (r : (Int × Int)) (H : zE8 N p0 = some r) (hE : HF w w.W E0) : Calls Tryz.prog 26 [sL zF p0 zH].toArray w.W fun e W' => e = .returned (.tuple #[iv r.1, iv r.2]) ∧ HF w W' E0 := by
 unfold zE8 at H
 have leB := Bs.Le.refl w
 refine Tr.enter (n := 12) Tryz.func26 rfl rfl rfl hE ?_
 refine Tr.sr (Tr.asg rfl rfl (Tr.asg rfl rfl (Tr.nil (Tr.zA (Tr.seq (Tr.sr (Tr.mv rfl rfl ?_)))))))
 obtain ⟨zN, zAQ, H⟩ := bnd H
 refine Tr.KV (r := (iv zN)) (wn rfl) rfl Tryz.call12 (zI rfl zX) (fun W hW => zDu N p0 zF zH (zK.ext hW.Ky) zN zAQ (HF.start _)) ?_
 refine Tr.asg rfl rfl (Tr.nil (Tr.zA (Tr.sr (Tr.mv rfl rfl (Tr.va rfl (fun _ _ a c => zCi (a.ev rfl) (a.ev rfl)) ?_)))))
 refine Tr.nil (Tr.zA (Tr.cond rfl H (fun H => ?_) (fun H => ?_)))
 ·refine Tr.sr (Tr.mv rfl rfl (Tr.asg rfl rfl (Tr.asg rfl rfl (Tr.nil (Tr.zA (Tr.ret (Tr.zq ?_)))))))
  obtain rfl := oI H
  exact Tr.out (m := [iv 0, iv zN]) [] (zU rfl (zU rfl zY)) (fun W hW => ⟨rfl, hW.low leB⟩)
 ·refine Tr.skip (Tr.zA (Tr.sr (Tr.mv rfl rfl ?_)))
  obtain ⟨y101, hy101, H⟩ := bnd H
  refine Tr.KV (r := (iv y101)) (wn rfl) rfl Tryz.call64 (zI rfl zX) (fun W hW => zKz p0 zF zH (zK.ext hW.Ky) y101 hy101 (HF.start _)) ?_
  refine Tr.asg rfl rfl (Tr.asg rfl rfl (Tr.nil (Tr.zA (Tr.ret ?_))))
  obtain rfl := oI H
  exact Tr.out (m := [iv y101, iv 0]) [] (zU rfl (zU rfl zY)) (fun W hW => ⟨rfl, hW.low leB⟩)

theorem zGT (N : Nat) {w : Bs}  (r : Bool) (H : zAC N = some r) (hE : HF w w.W E0) : Calls Tryz.prog 11 [].toArray w.W fun e W' => e = .returned (bV r) ∧ HF w W' E0 := by
 unfold zAC at H
 have leB := Bs.Le.refl w
 refine Tr.enter (n := 15) Tryz.func11 rfl rfl rfl hE ?_
 refine Tr.sr (Tr.asg rfl rfl (Tr.nil (Tr.zA (Tr.sr (Tr.build (vs := [(2, iv 2), (3, iv 3)]) (cs := [iv 0, iv 0, iv 2, iv 3]) (wn rfl) rfl (zi rfl (zi rfl Qh)) (by kernel_rfl) ?_)))))
 refine Tr.buildSlice 1 (e := 36) (vs := [(0, .agg #[iv 0, iv 0, iv 2, iv 3])]) (cs := [iv 0, iv 0, iv 2, iv 3]) (wn rfl) rfl (zi rfl Qh) (by kernel_rfl) fun QQ => ?_
 refine Tr.own 1 zL [(zJ.mk 0 0 2 3)] (css := [[iv 0, iv 0, iv 2, iv 3]]) rfl (.cons ⟨(), trivial, rfl⟩ .nil) rfl (by decide) (zR2 rfl) ?_
 obtain ⟨y101, hy101, H⟩ := bnd H
 refine Tr.KV (r := (.tuple #[iv y101.1, iv y101.2])) (wn rfl) rfl Tryz.call26 (zI rfl zX) (fun W hW => zMc N [(zJ.mk 0 0 2 3)] (some ⟨QQ, 0, none⟩) 1 (hW.zCo (k := 1) rfl) y101 hy101 (HF.start _)) ?_
 refine Tr.mv rfl rfl (Tr.va rfl (fun _ _ a c => VZ (a.ev rfl) rfl) ?_)
 refine Tr.va rfl (fun _ _ a c => VZ (a.ev rfl) rfl) ?_
 refine Tr.asg rfl rfl (Tr.asg rfl rfl (Tr.nil (Tr.zA (Tr.sr (Tr.mv rfl rfl (Tr.va rfl (fun _ _ a c => Vv (a.ev rfl) (a.ev rfl)) ?_))))))
 refine Tr.mv rfl rfl (Tr.zBy 3 [(14, bV ((y101.2 == 0) && (y101.1 == 6)))] [(1, ow (some ⟨QQ, 0, none⟩) 1 36 zL [(zJ.mk 0 0 2 3)])] ?_ ?_)
 ·cases zQz : (y101.2 == 0)
  ·refine Tr.pass rfl rfl rfl rfl rfl (by decide) ?_
   refine Tr.pass rfl rfl rfl rfl rfl (by decide) ?_
   refine Tr.va rfl (fun _ _ a c => zy (a.ev rfl) (a.ev rfl)) ?_
   exact Tr.nil (Tr.VW (.cons rfl .nil) (.cons rfl .nil))
  ·refine Tr.val (wg rfl rfl rfl) rfl (fun _ _ a c => run_move (a.ev rfl)) ?_
   refine Tr.val (wg rfl rfl rfl) rfl (fun _ _ a c => Vv (a.ev rfl) (a.ev rfl)) ?_
   refine Tr.va rfl (fun _ _ a c => zx (a.ev rfl) (a.ev rfl)) ?_
   exact Tr.nil (Tr.VW (.cons rfl .nil) (.cons rfl .nil))
 ·show Tr _ _ (LF [(14, bV ((y101.2 == 0) && (y101.1 == 6)))]) (LE [(1, ow (some ⟨QQ, 0, none⟩) 1 36 zL [(zJ.mk 0 0 2 3)])]) _
  refine Tr.asg rfl rfl (Tr.nil (Tr.zA (Tr.ret ?_)))
  obtain rfl := oI H
  exact Tr.out (m := [bV ((y101.2 == 0) && (y101.1 == 6))]) [] (zU rfl zY) (fun W hW => ⟨rfl, hW.low leB⟩)

theorem zDA {w : Bs} (p0 : (List (List zG))) (zF : Option Addr) (zH : Nat) (zK : Sl w.R w.W zS zF zH p0) (p1 : (List (List zG))) (Ql : Option Addr) (Qk : Nat) (KU : Sl w.R w.W zS Ql Qk p1) (r : Bool) (H : Kw p0 p1 = some r) (hE : HF w w.W E0) : Calls Tryz.prog 8 [sL zF p0 zH, sL Ql p1 Qk, .func (.func 9) #[] #[]].toArray w.W fun e W' => e = .returned (bV r) ∧ HF w W' E0 := by
 unfold Kw at H
 have leB := Bs.Le.refl w
 refine Tr.enter (n := 32) Tryz.func8 rfl rfl rfl hE ?_
 refine Tr.sr (Tr.asg rfl rfl (Tr.nil (Tr.zA (Tr.seq (Tr.sr (Tr.mv rfl rfl (Tr.va rfl (fun _ _ a c => zf zDX (a.ev rfl)) ?_)))))))
 refine Tr.mv rfl rfl (Tr.va rfl (fun _ _ a c => zf zDX (a.ev rfl)) ?_)
 refine Tr.va rfl (fun _ _ a c => zCi (a.ev rfl) (a.ev rfl)) ?_
 refine Tr.nil (Tr.zA (Tr.cond rfl H (fun H => ?_) (fun H => ?_)))
 ·refine Tr.sr (Tr.asg rfl rfl (Tr.nil (Tr.zA (Tr.ret (Tr.zq ?_)))))
  obtain rfl := oI H
  exact Tr.out (m := [bV false]) [] (zU rfl zY) (fun W hW => ⟨rfl, hW.low leB⟩)
 ·refine Tr.skip (Tr.zA (Tr.seq (Tr.sr (Tr.mv rfl rfl (Tr.va rfl (fun _ _ a c => zf zDX (a.ev rfl)) ?_)))))
  refine Tr.mv rfl rfl (Tr.nil (Tr.zA (Tr.block (Tr.loop (σ := (List (List zG)) × Nat) (fun m w s => m = s.1.length + 1 ∧ s.1 = List.drop s.2 p0 ∧ s.2 ≤ p0.length ∧ QX p1 s.1 s.2 = some r) (fun s => [(1, sL Ql p1 Qk), (2, .func (.func 9) #[] #[]), (15, sL zF p0 zH), (16, iv (p0.length : Int)), (17, iv (s.2 : Int))]) (fun s => []) (p0.length + 1) (p0, 0) ⟨rfl, rfl, Nat.zero_le _, H⟩ (.cons rfl (.cons rfl (.cons rfl (.cons rfl (.cons rfl .nil))))) .nil (fun _ _ h => absurd h.1 (by simp)) ?_))))
  intro w QI m s hs
  obtain ⟨zV, iL1⟩ := s
  obtain ⟨Vn, QK, hiL1, H⟩ := hs
  replace QK : zV = List.drop iL1 p0 := QK
  replace H : QX p1 zV iL1 = some r := H
  replace Vn : m + 1 = zV.length + 1 := Vn
  replace KU := KU.leR QI
  replace zK := zK.leR QI
  replace leB := leB.trans QI
  obtain rfl : m = zV.length := by omega
  clear Vn
  show Tr _ _ (LF [(1, sL Ql p1 Qk), (2, .func (.func 9) #[] #[]), (15, sL zF p0 zH), (16, iv (p0.length : Int)), (17, iv (iL1 : Int))]) (LE []) _
  cases zV with
  | nil =>
   rw [QX.eq_1] at H
   refine Tr.sr (Tr.va rfl (fun _ _ a c => zh (a.ev rfl) (a.ev rfl)) ?_)
   refine Tr.nil (Tr.zA (Tr.seq (Tr.zBN rfl (KF QK) ?_)))
   refine Tr.exit (Tr.zP (Tr.zP (Tr.zl (Tr.zA (Tr.sr (Tr.asg rfl rfl (Tr.nil (Tr.zA (Tr.ret ?_)))))))))
   obtain rfl := oI H
   exact Tr.out (m := [bV true]) [] (zU rfl zY) (fun W hW => ⟨rfl, hW.low leB⟩)
  | cons xL1 zV =>
   rw [QX.eq_2] at H
   refine Tr.sr (Tr.va rfl (fun _ _ a c => zh (a.ev rfl) (a.ev rfl)) ?_)
   refine Tr.nil (Tr.zA (Tr.seq (Tr.zBM rfl (VD QK) ?_)))
   refine Tr.skip (Tr.zA (Tr.seq (Tr.block (Tr.sr (Tr.mv rfl rfl ?_)))))
   obtain ⟨zfD, hRu106, zSF, hcu106⟩ := (zK).el (Kv QK)
   obtain ⟨zNa, zNA⟩ := zfD
   have zDG := zSF
   replace zDG : Sl w.R w.W zz zNa zNA xL1 := zDG
   refine Tr.va rfl (fun _ _ a c => zD zCl (a.ev rfl) zK.form (a.ev rfl) (Int.natCast_nonneg _) (QF QK)) ?_
   refine Tr.va rfl (fun _ _ a c => zC zDJ (a.ev rfl) (rdR hRu106 hcu106 c) rfl) ?_
   refine Tr.asg rfl rfl (Tr.asg rfl rfl (Tr.nil (Tr.zA (Tr.sr (Tr.mv rfl rfl (Tr.mv rfl rfl ?_))))))
   obtain ⟨x107, zaj, H⟩ := bnd H
   obtain ⟨zV2, zV1, zV0⟩ := zO zaj
   obtain ⟨zq8, hRu108, zdO, hcu108⟩ := (KU).el zV0
   obtain ⟨zYB, zXq⟩ := zq8
   have zLg := zdO
   replace zLg : Sl w.R w.W zz zYB zXq x107 := zLg
   refine Tr.va rfl (fun _ _ a c => zD zCl (a.ev rfl) KU.form (a.ev rfl) zV2 zV1) ?_
   refine Tr.va rfl (fun _ _ a c => zC zDJ (a.ev rfl) (rdR hRu108 hcu108 c) rfl) ?_
   refine Tr.asg rfl rfl (Tr.nil (Tr.zA (Tr.sr (Tr.mv rfl rfl (Tr.mv rfl rfl (Tr.mv rfl rfl ?_))))))
   obtain ⟨zRZ, zaV, H⟩ := bnd H
   refine Tr.zHj (r := (bV zRZ)) (wn rfl) rfl rfl Tryz.call9 (zI rfl (zI rfl zX)) (fun W hW => zGy xL1 zNa zNA (zDG.ext hW.Ky) x107 zYB zXq (zLg.ext hW.Ky) zRZ zaV (HF.start _)) ?_
   refine Tr.va rfl (fun _ _ a c => Wm (a.ev rfl)) ?_
   refine Tr.nil (Tr.zA (Tr.cond rfl H (fun H => ?_) (fun H => ?_)))
   ·refine Tr.sr (Tr.asg rfl rfl (Tr.nil (Tr.zA (Tr.ret (Tr.QY (Tr.zq (Tr.zq (Tr.QY (Tr.zq ?_)))))))))
    obtain rfl := oI H
    exact Tr.out (m := [bV false]) [] (zU rfl zY) (fun W hW => ⟨rfl, hW.low leB⟩)
   ·refine Tr.skip (Tr.zb (Tr.zA (Tr.region (Tr.va rfl (fun _ _ a c => zg (a.ev rfl) (a.ev rfl)) ?_))))
    exact Tr.mv rfl rfl (Tr.nil (Tr.zZ QI (zV, (iL1 + 1)) ⟨rfl, Jh QK, QF QK, H⟩ (.cons rfl (.cons rfl (.cons rfl (.cons rfl (.cons (congrArg (fun z => some (Value.int .i64 z)) (Jg QK zK.form)) .nil))))) .nil))

theorem zCr (N : Nat) {w : Bs} (p0 : (List zJ)) (zF : Option Addr) (zH : Nat) (zK : Sl w.R w.W zL zF zH p0) (p1 : (List (List zG))) (Ql : Option Addr) (Qk : Nat) (KU : Sl w.R w.W zS Ql Qk p1) (r : Bool) (H : KW N p0 p1 = some r) (hE : HF w w.W E0) : Calls Tryz.prog 3 [sL zF p0 zH, sL Ql p1 Qk].toArray w.W fun e W' => e = .returned (bV r) ∧ HF w W' E0 := by
 unfold KW at H
 have leB := Bs.Le.refl w
 refine Tr.enter (n := 54) Tryz.func3 rfl rfl rfl hE ?_
 refine Tr.sr (Tr.asg rfl rfl (Tr.nil (Tr.zA (Tr.sr (Tr.mv rfl rfl ?_)))))
 obtain ⟨zN, zAQ, H⟩ := bnd H
 refine Tr.zCe [1] [emp] (U := (Option Addr × Nat)) (fun u => (.tuple #[sL u.1 zN.1 u.2, iv zN.2])) (fun O W u => SlF u.1 zN.1.length u.2) (fun u => [ow u.1 u.2 30 zS zN.1]) rfl (zn rfl zw) (fun _ => rfl) (wn rfl) rfl Tryz.call4 (zI rfl zX) (fun W hW hp hE => zJH N p0 zF zH (zK.ext (hW.zCA hp)) zN zAQ hE) ?_
 intro w u zJO hu
 obtain ⟨zR, zT⟩ := u
 have gy100_0 := hu
 replace zK := zK.leR zJO
 replace KU := KU.leR zJO
 replace leB := leB.trans zJO
 have QZ : SlF zR zN.1.length zT := gy100_0 --@phi
 show Tr _ _ (uf _ 15 (.tuple #[sL zR zN.1 zT, iv zN.2])) (up _ 1 (ow zR zT 30 zS zN.1)) _
 refine Tr.mv rfl rfl (Tr.va rfl (fun _ _ a c => VZ (a.ev rfl) rfl) ?_)
 refine Tr.va rfl (fun _ _ a c => VZ (a.ev rfl) rfl) ?_
 refine Tr.asg rfl rfl (Tr.asg rfl rfl (Tr.nil (Tr.zA (Tr.sr (Tr.mv rfl rfl ?_)))))
 obtain ⟨y102, hy102, H⟩ := bnd H
 refine Tr.zCe [2] [emp] (U := (Option Addr × Nat)) (fun u => (.tuple #[sL u.1 y102.1 u.2, iv y102.2])) (fun O W u => SlF u.1 y102.1.length u.2) (fun u => [ow u.1 u.2 30 zS y102.1]) rfl (zn rfl zw) (fun _ => rfl) (wn rfl) rfl Tryz.call5 (zI rfl zX) (fun W hW hp hE => zE9 N p0 zF zH (zK.ext (hW.zCA hp)) y102 hy102 hE) ?_
 intro w u zeR hu
 obtain ⟨zC1, zC0⟩ := u
 have gy102_0 := hu
 replace KU := KU.leR zeR
 replace leB := leB.trans zeR
 have zpS : SlF zC1 y102.1.length zC0 := gy102_0 --@phi
 show Tr _ _ (uf _ 20 (.tuple #[sL zC1 y102.1 zC0, iv y102.2])) (up _ 2 (ow zC1 zC0 30 zS y102.1)) _
 refine Tr.mv rfl rfl (Tr.va rfl (fun _ _ a c => VZ (a.ev rfl) rfl) ?_)
 refine Tr.va rfl (fun _ _ a c => VZ (a.ev rfl) rfl) ?_
 refine Tr.asg rfl rfl (Tr.asg rfl rfl (Tr.nil (Tr.zA (Tr.sr (Tr.mv rfl rfl ?_)))))
 obtain ⟨y104, hy104, H⟩ := bnd H
 refine Tr.zAi [3] [emp] (U := (Option Addr × Nat)) (fun u => (.tuple #[sL u.1 y104.1 u.2, iv y104.2])) (fun u => SlF u.1 y104.1.length u.2) (fun u => [ow u.1 u.2 36 zL y104.1]) rfl (zn rfl zw) (fun _ => rfl) (wn rfl) rfl Tryz.call6 (zI rfl zX) (fun W hW hp hE => zKx N p1 Ql Qk (KU.ext (hW.zCA hp)) y104 hy104 hE) ?_
 intro u hu
 obtain ⟨zCR, zCP⟩ := u
 have gy104_0 := hu
 have zpR : SlF zCR y104.1.length zCP := gy104_0 --@phi
 show Tr _ _ (uf _ 25 (.tuple #[sL zCR y104.1 zCP, iv y104.2])) (up _ 3 (ow zCR zCP 36 zL y104.1)) _
 refine Tr.mv rfl rfl (Tr.va rfl (fun _ _ a c => VZ (a.ev rfl) rfl) ?_)
 refine Tr.va rfl (fun _ _ a c => VZ (a.ev rfl) rfl) ?_
 refine Tr.asg rfl rfl (Tr.asg rfl rfl (Tr.nil (Tr.zA (Tr.sr (Tr.mv rfl rfl ?_)))))
 obtain ⟨zDT, zaX, H⟩ := bnd H
 refine Tr.zCe [] [] (U := (Option Addr × Nat)) (fun u => (.tuple #[sL u.1 zDT.1 u.2, iv zDT.2])) (fun O W u => Sl O W zL u.1 u.2 zDT.1) (fun u => []) rfl zw (fun _ => rfl) (wn rfl) rfl Tryz.call7 (zI rfl zX) (fun W hW hp hE => zFy N p1 Ql Qk (KU.ext (hW.zCA hp)) zDT zaX hE) ?_
 intro w u zl8 hu
 obtain ⟨zK5, zKj⟩ := u
 have gy106_0 := hu
 replace leB := leB.trans zl8
 have zbP : Sl w.O w.W zL zK5 zKj zDT.1 := gy106_0 --@phi
 show Tr _ _ (uf _ 30 (.tuple #[sL zK5 zDT.1 zKj, iv zDT.2])) (_) _
 refine Tr.mv rfl rfl (Tr.va rfl (fun _ _ a c => VZ (a.ev rfl) rfl) ?_)
 refine Tr.va rfl (fun _ _ a c => VZ (a.ev rfl) rfl) ?_
 refine Tr.asg rfl rfl (Tr.asg rfl rfl (Tr.nil (Tr.zA (Tr.sr (Tr.mv rfl rfl (Tr.mv rfl rfl ?_))))))
 obtain ⟨zSv, zm9, H⟩ := bnd H
 refine Tr.KV (r := (bV zSv)) (wn rfl) rfl Tryz.call8 (zI rfl (zI rfl (zI rfl zX))) (fun W hW => zDA zN.1 zR zT (hW.zCo (k := 1) rfl) y102.1 zC1 zC0 (hW.zCo (k := 2) rfl) zSv zm9 (HF.start _)) ?_
 refine Tr.mv rfl rfl (Tr.zBy 4 [(9, sL zCR y104.1 zCP), (10, iv y104.2), (11, sL zK5 zDT.1 zKj), (12, iv zDT.2), (40, bV (zSv && (zN.2 == y102.2)))] [(1, ow zR zT 30 zS zN.1), (2, ow zC1 zC0 30 zS y102.1), (3, ow zCR zCP 36 zL y104.1)] ?_ ?_)
 ·cases zBk : zSv
  ·refine Tr.pass rfl rfl rfl rfl rfl (by decide) ?_
   refine Tr.pass rfl rfl rfl rfl rfl (by decide) ?_
   refine Tr.pass rfl rfl rfl rfl rfl (by decide) ?_
   refine Tr.va rfl (fun _ _ a c => zy (a.ev rfl) (a.ev rfl)) ?_
   exact Tr.nil (Tr.VW (.cons rfl (.cons rfl (.cons rfl (.cons rfl (.cons rfl .nil))))) (.cons rfl (.cons rfl (.cons rfl .nil))))
  ·refine Tr.val (wg rfl rfl rfl) rfl (fun _ _ a c => run_move (a.ev rfl)) ?_
   refine Tr.val (wg rfl rfl rfl) rfl (fun _ _ a c => run_move (a.ev rfl)) ?_
   refine Tr.val (wg rfl rfl rfl) rfl (fun _ _ a c => Vv (a.ev rfl) (a.ev rfl)) ?_
   refine Tr.va rfl (fun _ _ a c => zx (a.ev rfl) (a.ev rfl)) ?_
   exact Tr.nil (Tr.VW (.cons rfl (.cons rfl (.cons rfl (.cons rfl (.cons rfl .nil))))) (.cons rfl (.cons rfl (.cons rfl .nil))))
 ·show Tr _ _ (LF [(9, sL zCR y104.1 zCP), (10, iv y104.2), (11, sL zK5 zDT.1 zKj), (12, iv zDT.2), (40, bV (zSv && (zN.2 == y102.2)))]) (LE [(1, ow zR zT 30 zS zN.1), (2, ow zC1 zC0 30 zS y102.1), (3, ow zCR zCP 36 zL y104.1)]) _
  refine Tr.mv rfl rfl ?_
  obtain ⟨zT6, zFb, H⟩ := bnd H
  refine Tr.zBy 4 [(10, iv y104.2), (12, iv zDT.2), (45, bV zT6)] [(1, ow zR zT 30 zS zN.1), (2, ow zC1 zC0 30 zS y102.1), (3, ow zCR zCP 36 zL y104.1)] ?_ ?_
  ·cases zBk : (zSv && (zN.2 == y102.2))
   ·rw [zBk] at zFb
    rw [if_neg (by decide)] at zFb
    have H := zFb
    obtain rfl := oI H
    refine Tr.pass rfl rfl rfl rfl rfl (by decide) ?_
    refine Tr.pass rfl rfl rfl rfl rfl (by decide) ?_
    refine Tr.pass rfl rfl rfl rfl rfl (by decide) ?_
    refine Tr.va rfl (fun _ _ a c => zy (a.ev rfl) (a.ev rfl)) ?_
    exact Tr.nil (Tr.VW (.cons rfl (.cons rfl (.cons rfl .nil))) (.cons rfl (.cons rfl (.cons rfl .nil))))
   ·rw [zBk] at zFb
    rw [if_pos rfl] at zFb
    have H := zFb
    refine Tr.val (wg rfl rfl rfl) rfl (fun _ _ a c => run_move (a.ev rfl)) ?_
    refine Tr.val (wg rfl rfl rfl) rfl (fun _ _ a c => run_move (a.ev rfl)) ?_
    obtain ⟨zJZ, zaU, H⟩ := bnd H
    refine Tr.KV (r := (bV zJZ)) (wg rfl rfl rfl) rfl Tryz.call10 (zI rfl (zI rfl zX)) (fun W hW => zDs y104.1 zCR zCP (hW.zCo (k := 3) rfl) zDT.1 zK5 zKj (zbP.rl.ext hW.Ky) zJZ zaU (HF.start _)) ?_
    refine Tr.va rfl (fun _ _ a c => zx (a.ev rfl) (a.ev rfl)) ?_
    obtain rfl := oI H
    exact Tr.nil (Tr.VW (.cons rfl (.cons rfl (.cons rfl .nil))) (.cons rfl (.cons rfl (.cons rfl .nil))))
  ·show Tr _ _ (LF [(10, iv y104.2), (12, iv zDT.2), (45, bV zT6)]) (LE [(1, ow zR zT 30 zS zN.1), (2, ow zC1 zC0 30 zS y102.1), (3, ow zCR zCP 36 zL y104.1)]) _
   refine Tr.mv rfl rfl (Tr.zBy 4 [(50, bV (zT6 && (y104.2 == zDT.2)))] [(1, ow zR zT 30 zS zN.1), (2, ow zC1 zC0 30 zS y102.1), (3, ow zCR zCP 36 zL y104.1)] ?_ ?_)
   ·cases zBk : zT6
    ·refine Tr.pass rfl rfl rfl rfl rfl (by decide) ?_
     refine Tr.pass rfl rfl rfl rfl rfl (by decide) ?_
     refine Tr.pass rfl rfl rfl rfl rfl (by decide) ?_
     refine Tr.va rfl (fun _ _ a c => zy (a.ev rfl) (a.ev rfl)) ?_
     exact Tr.nil (Tr.VW (.cons rfl .nil) (.cons rfl (.cons rfl (.cons rfl .nil))))
    ·refine Tr.val (wg rfl rfl rfl) rfl (fun _ _ a c => run_move (a.ev rfl)) ?_
     refine Tr.val (wg rfl rfl rfl) rfl (fun _ _ a c => run_move (a.ev rfl)) ?_
     refine Tr.val (wg rfl rfl rfl) rfl (fun _ _ a c => Vv (a.ev rfl) (a.ev rfl)) ?_
     refine Tr.va rfl (fun _ _ a c => zx (a.ev rfl) (a.ev rfl)) ?_
     exact Tr.nil (Tr.VW (.cons rfl .nil) (.cons rfl (.cons rfl (.cons rfl .nil))))
   ·show Tr _ _ (LF [(50, bV (zT6 && (y104.2 == zDT.2)))]) (LE [(1, ow zR zT 30 zS zN.1), (2, ow zC1 zC0 30 zS y102.1), (3, ow zCR zCP 36 zL y104.1)]) _
    refine Tr.mv rfl rfl ?_
    obtain ⟨zSL, zGm, H⟩ := bnd H
    refine Tr.zBy 2 [(53, bV zSL)] [(1, ow zR zT 30 zS zN.1), (2, ow zC1 zC0 30 zS y102.1), (3, ow zCR zCP 36 zL y104.1)] ?_ ?_
    ·cases zBk : (zT6 && (y104.2 == zDT.2))
     ·rw [zBk] at zGm
      rw [if_neg (by decide)] at zGm
      have H := zGm
      obtain rfl := oI H
      refine Tr.pass rfl rfl rfl rfl rfl (by decide) ?_
      refine Tr.va rfl (fun _ _ a c => zy (a.ev rfl) (a.ev rfl)) ?_
      exact Tr.nil (Tr.VW (.cons rfl .nil) (.cons rfl (.cons rfl (.cons rfl .nil))))
     ·rw [zBk] at zGm
      rw [if_pos rfl] at zGm
      have H := zGm
      obtain ⟨y114, hy114, H⟩ := bnd H
      refine Tr.KV (r := (bV y114)) (wg rfl rfl rfl) rfl Tryz.call11 zX (fun W hW => zGT N y114 hy114 (HF.start _)) ?_
      refine Tr.va rfl (fun _ _ a c => zx (a.ev rfl) (a.ev rfl)) ?_
      obtain rfl := oI H
      exact Tr.nil (Tr.VW (.cons rfl .nil) (.cons rfl (.cons rfl (.cons rfl .nil))))
    ·show Tr _ _ (LF [(53, bV zSL)]) (LE [(1, ow zR zT 30 zS zN.1), (2, ow zC1 zC0 30 zS y102.1), (3, ow zCR zCP 36 zL y104.1)]) _
     refine Tr.asg rfl rfl (Tr.nil (Tr.zA (Tr.ret ?_)))
     obtain rfl := oI H
     exact Tr.out (m := [bV zSL]) [] (zU rfl zY) (fun W hW => ⟨rfl, hW.low leB⟩)

end Go.Proofs.YtacapjleiadkkaaGreat
