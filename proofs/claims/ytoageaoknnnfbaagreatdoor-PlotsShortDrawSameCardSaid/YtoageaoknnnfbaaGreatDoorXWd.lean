/- The walks: each function computes its plain function. -/
import Derived.Test.YtoageaoknnnfbaaGreatDoorXWc
namespace Go.Proofs.YtoageaoknnnfbaaGreatDoor
open Go.RowKit
set_option maxRecDepth 100000
set_option maxHeartbeats 1000000
theorem zIa (N : Nat) (rec : ByteArray → (List zC) → Option ByteArray) (hrec : ∀ {w : Bs} (p0 : ByteArray) (zF : Option Addr) (zG : Nat) (bp0 : Nat) (p1 : (List zC)) (za : Option Addr) (zb : Nat) (Qc : Sl w.R w.W zH za zb p1) (r : ByteArray) (H : rec p0 p1 = some r) (hE : HF w w.W (LEn [sb 95 5 bp0 zF zG p0])), Calls Tryz.prog 48 [pV bp0, sL za p1 zb].toArray w.W fun e W' => ∃ u : (Option Addr × Nat), e = .returned (.tuple #[]) ∧ (True) ∧ HF w W' (LEn [sb 95 5 bp0 u.1 u.2 r])) {w : Bs} (p0 : ByteArray) (zF : Option Addr) (zG : Nat) (bp0 : Nat) (p1 : (List zC)) (za : Option Addr) (zb : Nat) (Qc : Sl w.R w.W zH za zb p1) (r : ByteArray) (H : zDF N rec p0 p1 = some r) (hE : HF w w.W (LEn [sb 95 5 bp0 zF zG p0])) : Calls Tryz.prog 48 [pV bp0, sL za p1 zb].toArray w.W fun e W' => ∃ u : (Option Addr × Nat), e = .returned (.tuple #[]) ∧ (True) ∧ HF w W' (LEn [sb 95 5 bp0 u.1 u.2 r]) := by
 unfold zDF at H
 have leB := Bs.Le.refl w
 refine Tr.enter (n := 91) Tryz.func48 rfl rfl rfl hE (Tr.sr (Tr.mv rfl rfl (Tr.va rfl (fun _ _ a c => zy zB8 (a.ev rfl)) (Tr.mv rfl rfl (Tr.nil (Tr.zA (Tr.block (Tr.loop (σ := (List zC) × Nat × ByteArray × (Option Addr) × Nat) (fun m w s => m = s.1.length + 1 ∧ s.1 = List.drop s.2.1 p1 ∧ s.2.1 ≤ p1.length ∧ Qq rec s.1 s.2.1 s.2.2.1 = some r) (fun s => [(0, pV bp0), (6, sL za p1 zb), (7, iv (p1.length : Int)), (8, iv (s.2.1 : Int))]) (fun s => [(0, sb 95 5 bp0 s.2.2.2.1 s.2.2.2.2 s.2.2.1)]) (p1.length + 1) (p1, 0, p0, zF, zG) ⟨rfl, rfl, Nat.zero_le _, H⟩ (.cons rfl (.cons rfl (.cons rfl (.cons rfl .nil)))) (.cons rfl .nil) (fun _ _ h => absurd h.1 (by simp)) ?_))))))))
 intro w Qe m s hs
 obtain ⟨zV, iL1, m194, Am194, cm194⟩ := s
 obtain ⟨KS, QG, hiL1, H⟩ := hs
 replace QG : zV = List.drop iL1 p1 := QG
 replace H : Qq rec zV iL1 m194 = some r := H
 replace KS : m + 1 = zV.length + 1 := KS
 replace Qc := Qc.leR Qe
 replace leB := leB.trans Qe
 obtain rfl : m = zV.length := by omega
 clear KS
 dsimp only
 cases zV with
 | nil =>
  rw [Qq.eq_1] at H
  refine Tr.sr (Tr.va rfl (fun _ _ a c => QE (a.ev rfl) (a.ev rfl)) (Tr.nil (Tr.zA (Tr.seq (Tr.WY rfl (JB QG) (Tr.exit (Tr.zi (Tr.zi (Tr.QL (Tr.zZ4 ?_))))))))))
  obtain rfl := oI H
  exact Tr.out (m := []) [] zT (fun W hW => ⟨(Am194, cm194), rfl, trivial, HF.zK1 leB (hW.pick (ks := [0]) (by decide) (zR rfl zk)) ⟨zf6, trivial⟩⟩)
 | cons xL1 zV =>
  rw [Qq.eq_2] at H
  refine Tr.sr (Tr.va rfl (fun _ _ a c => QE (a.ev rfl) (a.ev rfl)) (Tr.nil (Tr.zA (Tr.seq (Tr.WX rfl (JX QG) (Tr.skip (Tr.zA (Tr.seq (Tr.block (Tr.sr ?_))))))))))
  obtain ⟨znu, hRu195, zdY, hcu195⟩ := (Qc).el (Js QG)
  obtain ⟨⟨zB7, zB1⟩, ⟨zB6, zB0⟩⟩ := znu
  obtain ⟨zMy, zMx⟩ := Kj.1 zdY
  replace zMy : Sl w.R w.W QD zB7 zB1 xL1.Points := zMy
  replace zMx : Sl w.R w.W zH zB6 zB0 xL1.Steps := zMx
  refine Tr.va rfl (fun _ _ a c => zK zEC (a.ev rfl) Qc.form (a.ev rfl) (Int.natCast_nonneg _) (QC QG)) (Tr.va rfl (fun _ _ a c => zX (cs := [iv xL1.Kind, sv xL1.Name, iv xL1.At.X, iv xL1.At.Y, sL zB7 xL1.Points zB1, iv xL1.NX, iv xL1.NY, sL zB6 xL1.Steps zB0]) zGP zA2 (a.ev rfl) (zO.take (rdR hRu195 hcu195 c) 8) rfl) (Tr.alloc 11 (wn rfl) rfl zIn fun zoy => (Tr.store 11 (cs := [iv xL1.Kind, sv xL1.Name, iv xL1.At.X, iv xL1.At.Y, sL zB7 xL1.Points zB1, iv xL1.NX, iv xL1.NY, sL zB6 xL1.Steps zB0]) [iv xL1.Kind, sv xL1.Name, iv xL1.At.X, iv xL1.At.Y, sL zB7 xL1.Points zB1, iv xL1.NX, iv xL1.NY, sL zB6 xL1.Steps zB0] (wn rfl) rfl rfl rfl rfl zA2 rfl rfl rfl (Tr.nil (Tr.zA (Tr.sr (Tr.va rfl (fun _ _ a c => zB zBF (a.ev rfl)) (Tr.va rfl (fun _ _ a c => zD QH (a.ev rfl) (rdb c (vs := [iv xL1.Kind, sv xL1.Name, iv xL1.At.X, iv xL1.At.Y, sL zB7 xL1.Points zB1, iv xL1.NX, iv xL1.NY, sL zB6 xL1.Steps zB0]) (k := 11) rfl 0) rfl) (Tr.nil (Tr.zA (Tr.block (Tr.sr (Tr.va rfl (fun _ _ a c => Qa (a.ev rfl) (a.ev rfl)) (Tr.asg rfl rfl (Tr.nil (Tr.zA (Tr.cond rfl H (fun H => ?_) (fun H => ?_))))))))))))))))))
  ·refine Tr.region (Tr.mv rfl rfl ?_)
   obtain ⟨zZW, zkx, H⟩ := bnd H
   refine Tr.WB [0] [sb 95 5 bp0 Am194 cm194 m194] (U := (Option Addr × Nat)) (fun u => (.tuple #[iv (((⟨#[100, 97, 114, 107, 10]⟩) : ByteArray).size : Int), .nilIface])) (fun u => True) (fun u => [sb 95 5 bp0 u.1 u.2 zZW]) rfl (zR rfl zk) (fun _ => rfl) (wn rfl) rfl Tryz.call45 (zI rfl (zI rfl zS)) (fun W hW hp hE => QM m194 Am194 cm194 bp0 (⟨#[100, 97, 114, 107, 10]⟩) zZW zkx hE) ?_
   intro u hu
   obtain ⟨zeh, zeN⟩ := u
   have gy197_0 := hu
   have zmV : True := gy197_0 --@phi
   dsimp only
   exact Tr.nil (Tr.zh (Tr.zh (Tr.zA (Tr.region (Tr.va rfl (fun _ _ a c => QA (a.ev rfl) (a.ev rfl)) (Tr.mv rfl rfl (Tr.nil (Tr.zf Qe (zV, (iL1 + 1), zZW, zeh, zeN) ⟨rfl, Ql QG, QC QG, H⟩ (.cons rfl (.cons rfl (.cons rfl (.cons (congrArg (fun z => some (Value.int .i64 z)) (Qk QG Qc.form)) .nil)))) (.cons rfl .nil)))))))))
  ·refine Tr.sr (Tr.va rfl (fun _ _ a c => Qa (a.ev rfl) (a.ev rfl)) (Tr.asg rfl rfl (Tr.nil (Tr.zA (Tr.cond rfl H (fun H => ?_) (fun H => ?_))))))
   ·refine Tr.region (Tr.mv rfl rfl ?_)
    obtain ⟨zZV, zkw, H⟩ := bnd H
    refine Tr.WB [0] [sb 95 5 bp0 Am194 cm194 m194] (U := (Option Addr × Nat)) (fun u => (.tuple #[iv (((⟨#[99, 108, 101, 97, 114, 10]⟩) : ByteArray).size : Int), .nilIface])) (fun u => True) (fun u => [sb 95 5 bp0 u.1 u.2 zZV]) rfl (zR rfl zk) (fun _ => rfl) (wn rfl) rfl Tryz.call45 (zI rfl (zI rfl zS)) (fun W hW hp hE => QM m194 Am194 cm194 bp0 (⟨#[99, 108, 101, 97, 114, 10]⟩) zZV zkw hE) ?_
    intro u hu
    obtain ⟨zeg, zeM⟩ := u
    have gy199_0 := hu
    have zmU : True := gy199_0 --@phi
    dsimp only
    exact Tr.nil (Tr.zh (Tr.zh (Tr.zA (Tr.region (Tr.va rfl (fun _ _ a c => QA (a.ev rfl) (a.ev rfl)) (Tr.mv rfl rfl (Tr.nil (Tr.zf Qe (zV, (iL1 + 1), zZV, zeg, zeM) ⟨rfl, Ql QG, QC QG, H⟩ (.cons rfl (.cons rfl (.cons rfl (.cons (congrArg (fun z => some (Value.int .i64 z)) (Qk QG Qc.form)) .nil)))) (.cons rfl .nil)))))))))
   ·refine Tr.sr (Tr.va rfl (fun _ _ a c => Qa (a.ev rfl) (a.ev rfl)) (Tr.asg rfl rfl (Tr.nil (Tr.zA (Tr.cond rfl H (fun H => ?_) (fun H => ?_))))))
    ·refine Tr.region (Tr.mv rfl rfl (Tr.va rfl (fun _ _ a c => zB zFn (a.ev rfl)) (Tr.va rfl (fun _ _ a c => zD zHF (a.ev rfl) (rdb c (vs := [iv xL1.Kind, sv xL1.Name, iv xL1.At.X, iv xL1.At.Y, sL zB7 xL1.Points zB1, iv xL1.NX, iv xL1.NY, sL zB6 xL1.Steps zB0]) (k := 11) rfl 1) rfl) ?_)))
     obtain ⟨t201, ht201, H⟩ := bnd H
     refine Tr.va rfl (fun _ _ a c => WP (a.ev rfl) (a.ev rfl) ht201) ?_
     obtain ⟨zc7, ht202, H⟩ := bnd H
     refine Tr.va rfl (fun _ _ a c => WP (a.ev rfl) (a.ev rfl) ht202) ?_
     obtain ⟨zZU, zkv, H⟩ := bnd H
     refine Tr.WB [0] [sb 95 5 bp0 Am194 cm194 m194] (U := (Option Addr × Nat)) (fun u => (.tuple #[iv ((zc7 : ByteArray).size : Int), .nilIface])) (fun u => True) (fun u => [sb 95 5 bp0 u.1 u.2 zZU]) rfl (zR rfl zk) (fun _ => rfl) (wn rfl) rfl Tryz.call45 (zI rfl (zI rfl zS)) (fun W hW hp hE => QM m194 Am194 cm194 bp0 zc7 zZU zkv hE) ?_
     intro u hu
     obtain ⟨zef, zeL⟩ := u
     have gy203_0 := hu
     have zmT : True := gy203_0 --@phi
     dsimp only
     exact Tr.nil (Tr.zh (Tr.zh (Tr.zA (Tr.region (Tr.va rfl (fun _ _ a c => QA (a.ev rfl) (a.ev rfl)) (Tr.mv rfl rfl (Tr.nil (Tr.zf Qe (zV, (iL1 + 1), zZU, zef, zeL) ⟨rfl, Ql QG, QC QG, H⟩ (.cons rfl (.cons rfl (.cons rfl (.cons (congrArg (fun z => some (Value.int .i64 z)) (Qk QG Qc.form)) .nil)))) (.cons rfl .nil)))))))))
    ·refine Tr.sr (Tr.va rfl (fun _ _ a c => Qa (a.ev rfl) (a.ev rfl)) (Tr.asg rfl rfl (Tr.nil (Tr.zA (Tr.cond rfl H (fun H => ?_) (fun H => ?_))))))
     ·refine Tr.region (Tr.mv rfl rfl (Tr.va rfl (fun _ _ a c => zB WK (a.ev rfl)) (Tr.va rfl (fun _ _ a c => zX (cs := [iv xL1.At.X, iv xL1.At.Y]) KT JL (a.ev rfl) (zO.take (rdb c (vs := [iv xL1.Kind, sv xL1.Name, iv xL1.At.X, iv xL1.At.Y, sL zB7 xL1.Points zB1, iv xL1.NX, iv xL1.NY, sL zB6 xL1.Steps zB0]) (k := 11) rfl 2) 2) rfl) (Tr.buildSlice 12 (e := 43) (vs := [(0, .agg #[iv xL1.At.X, iv xL1.At.Y])]) (cs := [iv xL1.At.X, iv xL1.At.Y]) (wn rfl) rfl (zl rfl Qf) (by kernel_rfl) fun zoa => (Tr.own 12 QD [xL1.At] (css := [[iv xL1.At.X, iv xL1.At.Y]]) rfl (.cons ⟨(), trivial, rfl⟩ .nil) rfl (by decide) (zCU rfl) ?_)))))
      obtain ⟨zco, zku, H⟩ := bnd H
      refine Tr.Qs (r := (sv zco)) (wn rfl) rfl Tryz.call47 (zI rfl zS) (fun W hW => zAm [xL1.At] (some ⟨zoa, 0, none⟩) 1 (hW.zBX (k := 12) rfl) zco zku (HF.start _)) ?_
      obtain ⟨zjn, ht207, H⟩ := bnd H
      refine Tr.va rfl (fun _ _ a c => WP (a.ev rfl) (a.ev rfl) ht207) ?_
      obtain ⟨t208, ht208, H⟩ := bnd H
      refine Tr.va rfl (fun _ _ a c => WP (a.ev rfl) (a.ev rfl) ht208) ?_
      obtain ⟨zOf, zal, H⟩ := bnd H
      refine Tr.WB [0] [sb 95 5 bp0 Am194 cm194 m194] (U := (Option Addr × Nat)) (fun u => (.tuple #[iv ((t208 : ByteArray).size : Int), .nilIface])) (fun u => True) (fun u => [sb 95 5 bp0 u.1 u.2 zOf]) rfl (zR rfl zk) (fun _ => rfl) (wn rfl) rfl Tryz.call45 (zI rfl (zI rfl zS)) (fun W hW hp hE => QM m194 Am194 cm194 bp0 t208 zOf zal hE) ?_
      intro u hu
      obtain ⟨zSn, zSR⟩ := u
      have gy209_0 := hu
      have zbX : True := gy209_0 --@phi
      dsimp only
      exact Tr.nil (Tr.zh (Tr.zh (Tr.zA (Tr.region (Tr.va rfl (fun _ _ a c => QA (a.ev rfl) (a.ev rfl)) (Tr.mv rfl rfl (Tr.nil (Tr.zf Qe (zV, (iL1 + 1), zOf, zSn, zSR) ⟨rfl, Ql QG, QC QG, H⟩ (.cons rfl (.cons rfl (.cons rfl (.cons (congrArg (fun z => some (Value.int .i64 z)) (Qk QG Qc.form)) .nil)))) (.cons rfl .nil)))))))))
     ·refine Tr.sr (Tr.va rfl (fun _ _ a c => Qa (a.ev rfl) (a.ev rfl)) (Tr.asg rfl rfl (Tr.nil (Tr.zA (Tr.cond rfl H (fun H => ?_) (fun H => ?_))))))
      ·refine Tr.region (Tr.mv rfl rfl (Tr.va rfl (fun _ _ a c => zB WK (a.ev rfl)) (Tr.va rfl (fun _ _ a c => zX (cs := [iv xL1.At.X, iv xL1.At.Y]) KT JL (a.ev rfl) (zO.take (rdb c (vs := [iv xL1.Kind, sv xL1.Name, iv xL1.At.X, iv xL1.At.Y, sL zB7 xL1.Points zB1, iv xL1.NX, iv xL1.NY, sL zB6 xL1.Steps zB0]) (k := 11) rfl 2) 2) rfl) (Tr.buildSlice 13 (e := 43) (vs := [(0, .agg #[iv xL1.At.X, iv xL1.At.Y])]) (cs := [iv xL1.At.X, iv xL1.At.Y]) (wn rfl) rfl (zl rfl Qf) (by kernel_rfl) fun zm9 => (Tr.own 13 QD [xL1.At] (css := [[iv xL1.At.X, iv xL1.At.Y]]) rfl (.cons ⟨(), trivial, rfl⟩ .nil) rfl (by decide) (zCU rfl) ?_)))))
       obtain ⟨zcn, zkt, H⟩ := bnd H
       refine Tr.Qs (r := (sv zcn)) (wn rfl) rfl Tryz.call47 (zI rfl zS) (fun W hW => zAm [xL1.At] (some ⟨zm9, 0, none⟩) 1 (hW.zBX (k := 13) rfl) zcn zkt (HF.start _)) ?_
       obtain ⟨t213, ht213, H⟩ := bnd H
       refine Tr.va rfl (fun _ _ a c => WP (a.ev rfl) (a.ev rfl) ht213) ?_
       obtain ⟨zc6, ht214, H⟩ := bnd H
       refine Tr.va rfl (fun _ _ a c => WP (a.ev rfl) (a.ev rfl) ht214) ?_
       obtain ⟨zZS, zkq, H⟩ := bnd H
       refine Tr.WB [0] [sb 95 5 bp0 Am194 cm194 m194] (U := (Option Addr × Nat)) (fun u => (.tuple #[iv ((zc6 : ByteArray).size : Int), .nilIface])) (fun u => True) (fun u => [sb 95 5 bp0 u.1 u.2 zZS]) rfl (zR rfl zk) (fun _ => rfl) (wn rfl) rfl Tryz.call45 (zI rfl (zI rfl zS)) (fun W hW hp hE => QM m194 Am194 cm194 bp0 zc6 zZS zkq hE) ?_
       intro u hu
       obtain ⟨zed, zeJ⟩ := u
       have gy215_0 := hu
       have zmR : True := gy215_0 --@phi
       dsimp only
       exact Tr.nil (Tr.zh (Tr.zh (Tr.zA (Tr.region (Tr.va rfl (fun _ _ a c => QA (a.ev rfl) (a.ev rfl)) (Tr.mv rfl rfl (Tr.nil (Tr.zf Qe (zV, (iL1 + 1), zZS, zed, zeJ) ⟨rfl, Ql QG, QC QG, H⟩ (.cons rfl (.cons rfl (.cons rfl (.cons (congrArg (fun z => some (Value.int .i64 z)) (Qk QG Qc.form)) .nil)))) (.cons rfl .nil)))))))))
      ·refine Tr.sr (Tr.va rfl (fun _ _ a c => Qa (a.ev rfl) (a.ev rfl)) (Tr.asg rfl rfl (Tr.nil (Tr.zA (Tr.cond rfl H (fun H => ?_) (fun H => ?_))))))
       ·refine Tr.region (Tr.mv rfl rfl (Tr.va rfl (fun _ _ a c => zB WK (a.ev rfl)) (Tr.va rfl (fun _ _ a c => zX (cs := [iv xL1.At.X, iv xL1.At.Y]) KT JL (a.ev rfl) (zO.take (rdb c (vs := [iv xL1.Kind, sv xL1.Name, iv xL1.At.X, iv xL1.At.Y, sL zB7 xL1.Points zB1, iv xL1.NX, iv xL1.NY, sL zB6 xL1.Steps zB0]) (k := 11) rfl 2) 2) rfl) (Tr.buildSlice 14 (e := 43) (vs := [(0, .agg #[iv xL1.At.X, iv xL1.At.Y])]) (cs := [iv xL1.At.X, iv xL1.At.Y]) (wn rfl) rfl (zl rfl Qf) (by kernel_rfl) fun zoY => (Tr.own 14 QD [xL1.At] (css := [[iv xL1.At.X, iv xL1.At.Y]]) rfl (.cons ⟨(), trivial, rfl⟩ .nil) rfl (by decide) (zCU rfl) ?_)))))
        obtain ⟨zCN, zTp, H⟩ := bnd H
        refine Tr.Qs (r := (sv zCN)) (wn rfl) rfl Tryz.call47 (zI rfl zS) (fun W hW => zAm [xL1.At] (some ⟨zoY, 0, none⟩) 1 (hW.zBX (k := 14) rfl) zCN zTp (HF.start _)) ?_
        obtain ⟨zjm, ht219, H⟩ := bnd H
        refine Tr.va rfl (fun _ _ a c => WP (a.ev rfl) (a.ev rfl) ht219) ?_
        obtain ⟨zc5, ht220, H⟩ := bnd H
        refine Tr.va rfl (fun _ _ a c => WP (a.ev rfl) (a.ev rfl) ht220) ?_
        obtain ⟨zZR, zkp, H⟩ := bnd H
        refine Tr.WB [0] [sb 95 5 bp0 Am194 cm194 m194] (U := (Option Addr × Nat)) (fun u => (.tuple #[iv ((zc5 : ByteArray).size : Int), .nilIface])) (fun u => True) (fun u => [sb 95 5 bp0 u.1 u.2 zZR]) rfl (zR rfl zk) (fun _ => rfl) (wn rfl) rfl Tryz.call45 (zI rfl (zI rfl zS)) (fun W hW hp hE => QM m194 Am194 cm194 bp0 zc5 zZR zkp hE) ?_
        intro u hu
        obtain ⟨zec, zeI⟩ := u
        have gy221_0 := hu
        have zmQ : True := gy221_0 --@phi
        dsimp only
        exact Tr.nil (Tr.zh (Tr.zh (Tr.zA (Tr.region (Tr.va rfl (fun _ _ a c => QA (a.ev rfl) (a.ev rfl)) (Tr.mv rfl rfl (Tr.nil (Tr.zf Qe (zV, (iL1 + 1), zZR, zec, zeI) ⟨rfl, Ql QG, QC QG, H⟩ (.cons rfl (.cons rfl (.cons rfl (.cons (congrArg (fun z => some (Value.int .i64 z)) (Qk QG Qc.form)) .nil)))) (.cons rfl .nil)))))))))
       ·refine Tr.sr (Tr.va rfl (fun _ _ a c => Qa (a.ev rfl) (a.ev rfl)) (Tr.asg rfl rfl (Tr.nil (Tr.zA (Tr.cond rfl H (fun H => ?_) (fun H => ?_))))))
        ·refine Tr.region (Tr.mv rfl rfl (Tr.va rfl (fun _ _ a c => zB zAu (a.ev rfl)) (Tr.va rfl (fun _ _ a c => zD zFI (a.ev rfl) (rdb c (vs := [iv xL1.Kind, sv xL1.Name, iv xL1.At.X, iv xL1.At.Y, sL zB7 xL1.Points zB1, iv xL1.NX, iv xL1.NY, sL zB6 xL1.Steps zB0]) (k := 11) rfl 4) rfl) ?_)))
         obtain ⟨zcm, zko, H⟩ := bnd H
         refine Tr.Qs (r := (sv zcm)) (wn rfl) rfl Tryz.call47 (zI rfl zS) (fun W hW => zAm xL1.Points zB7 zB1 (zMy.ext hW.Qd) zcm zko (HF.start _)) ?_
         obtain ⟨zjl, ht224, H⟩ := bnd H
         refine Tr.va rfl (fun _ _ a c => WP (a.ev rfl) (a.ev rfl) ht224) ?_
         obtain ⟨zc4, ht225, H⟩ := bnd H
         refine Tr.va rfl (fun _ _ a c => WP (a.ev rfl) (a.ev rfl) ht225) ?_
         obtain ⟨zZQ, zkn, H⟩ := bnd H
         refine Tr.WB [0] [sb 95 5 bp0 Am194 cm194 m194] (U := (Option Addr × Nat)) (fun u => (.tuple #[iv ((zc4 : ByteArray).size : Int), .nilIface])) (fun u => True) (fun u => [sb 95 5 bp0 u.1 u.2 zZQ]) rfl (zR rfl zk) (fun _ => rfl) (wn rfl) rfl Tryz.call45 (zI rfl (zI rfl zS)) (fun W hW hp hE => QM m194 Am194 cm194 bp0 zc4 zZQ zkn hE) ?_
         intro u hu
         obtain ⟨zeb, zeH⟩ := u
         have gy226_0 := hu
         have zmP : True := gy226_0 --@phi
         dsimp only
         exact Tr.nil (Tr.zh (Tr.zh (Tr.zA (Tr.region (Tr.va rfl (fun _ _ a c => QA (a.ev rfl) (a.ev rfl)) (Tr.mv rfl rfl (Tr.nil (Tr.zf Qe (zV, (iL1 + 1), zZQ, zeb, zeH) ⟨rfl, Ql QG, QC QG, H⟩ (.cons rfl (.cons rfl (.cons rfl (.cons (congrArg (fun z => some (Value.int .i64 z)) (Qk QG Qc.form)) .nil)))) (.cons rfl .nil)))))))))
        ·refine Tr.sr (Tr.va rfl (fun _ _ a c => Qa (a.ev rfl) (a.ev rfl)) (Tr.asg rfl rfl (Tr.nil (Tr.zA (Tr.cond rfl H (fun H => ?_) (fun H => ?_))))))
         ·refine Tr.sr (Tr.mv rfl rfl (Tr.va rfl (fun _ _ a c => zB zFm (a.ev rfl)) (Tr.va rfl (fun _ _ a c => zD QH (a.ev rfl) (rdb c (vs := [iv xL1.Kind, sv xL1.Name, iv xL1.At.X, iv xL1.At.Y, sL zB7 xL1.Points zB1, iv xL1.NX, iv xL1.NY, sL zB6 xL1.Steps zB0]) (k := 11) rfl 5) rfl) (Tr.va rfl (fun _ _ a c => zB zGu (a.ev rfl)) (Tr.va rfl (fun _ _ a c => zD QH (a.ev rfl) (rdb c (vs := [iv xL1.Kind, sv xL1.Name, iv xL1.At.X, iv xL1.At.Y, sL zB7 xL1.Points zB1, iv xL1.NX, iv xL1.NY, sL zB6 xL1.Steps zB0]) (k := 11) rfl 6) rfl) (Tr.build (vs := [(0, iv xL1.NX), (1, iv xL1.NY)]) (cs := [iv xL1.NX, iv xL1.NY]) (wn rfl) rfl (zl rfl (zl rfl Qf)) (by kernel_rfl) (Tr.va rfl (fun _ _ a c => zB WK (a.ev rfl)) (Tr.va rfl (fun _ _ a c => zX (cs := [iv xL1.At.X, iv xL1.At.Y]) KT JL (a.ev rfl) (zO.take (rdb c (vs := [iv xL1.Kind, sv xL1.Name, iv xL1.At.X, iv xL1.At.Y, sL zB7 xL1.Points zB1, iv xL1.NX, iv xL1.NY, sL zB6 xL1.Steps zB0]) (k := 11) rfl 2) 2) rfl) (Tr.buildSlice 15 (e := 43) (vs := [(0, .agg #[iv xL1.NX, iv xL1.NY]), (1, .agg #[iv xL1.At.X, iv xL1.At.Y])]) (cs := [iv xL1.NX, iv xL1.NY, iv xL1.At.X, iv xL1.At.Y]) (wn rfl) rfl (zl rfl (zl rfl Qf)) (by kernel_rfl) fun zoX => (Tr.own 15 QD [(zJ.mk xL1.NX xL1.NY), xL1.At] (css := [[iv xL1.NX, iv xL1.NY], [iv xL1.At.X, iv xL1.At.Y]]) rfl (.cons ⟨(), trivial, rfl⟩ (.cons ⟨(), trivial, rfl⟩ .nil)) rfl (by decide) (zCU rfl) ?_))))))))))
          obtain ⟨zcl, zkm, H⟩ := bnd H
          refine Tr.Qs (r := (sv zcl)) (wn rfl) rfl Tryz.call47 (zI rfl zS) (fun W hW => zAm [(zJ.mk xL1.NX xL1.NY), xL1.At] (some ⟨zoX, 0, none⟩) 2 (hW.zBX (k := 15) rfl) zcl zkm (HF.start _)) ?_
          obtain ⟨zjk, ht230, H⟩ := bnd H
          refine Tr.va rfl (fun _ _ a c => WP (a.ev rfl) (a.ev rfl) ht230) ?_
          obtain ⟨zc3, ht231, H⟩ := bnd H
          refine Tr.va rfl (fun _ _ a c => WP (a.ev rfl) (a.ev rfl) ht231) ?_
          obtain ⟨zYQ, zkl, H⟩ := bnd H
          refine Tr.WB [0] [sb 95 5 bp0 Am194 cm194 m194] (U := (Option Addr × Nat)) (fun u => (.tuple #[iv ((zc3 : ByteArray).size : Int), .nilIface])) (fun u => True) (fun u => [sb 95 5 bp0 u.1 u.2 zYQ]) rfl (zR rfl zk) (fun _ => rfl) (wn rfl) rfl Tryz.call45 (zI rfl (zI rfl zS)) (fun W hW hp hE => QM m194 Am194 cm194 bp0 zc3 zYQ zkl hE) ?_
          intro u hu
          obtain ⟨zYE, zXi⟩ := u
          have gy232_0 := hu
          have zmO : True := gy232_0 --@phi
          dsimp only
          refine Tr.nil (Tr.zA (Tr.sr (Tr.mv rfl rfl (Tr.va rfl (fun _ _ a c => zB zDW (a.ev rfl)) (Tr.va rfl (fun _ _ a c => zD zCn (a.ev rfl) (rdb c (vs := [iv xL1.Kind, sv xL1.Name, iv xL1.At.X, iv xL1.At.Y, sL zB7 xL1.Points zB1, iv xL1.NX, iv xL1.NY, sL zB6 xL1.Steps zB0]) (k := 11) rfl 7) rfl) ?_)))))
          obtain ⟨zYP, zkj, H⟩ := bnd H
          refine Tr.WB [0] [sb 95 5 bp0 zYE zXi zYQ] (U := (Option Addr × Nat)) (fun u => (.tuple #[])) (fun u => True) (fun u => [sb 95 5 bp0 u.1 u.2 zYP]) rfl (zR rfl zk) (fun _ => rfl) (wn rfl) rfl Tryz.call48 (zI rfl (zI rfl zS)) (fun W hW hp hE => hrec zYQ zYE zXi bp0 xL1.Steps zB6 zB0 (zMx.ext (hW.JH hp)) zYP zkj hE) ?_
          intro u hu
          obtain ⟨zYC, zXg⟩ := u
          have gy234_0 := hu
          have zmN : True := gy234_0 --@phi
          dsimp only
          refine Tr.nil (Tr.zA (Tr.region (Tr.mv rfl rfl ?_)))
          obtain ⟨zZP, zki, H⟩ := bnd H
          refine Tr.WB [0] [sb 95 5 bp0 zYC zXg zYP] (U := (Option Addr × Nat)) (fun u => (.tuple #[iv (((⟨#[100, 111, 110, 101, 10]⟩) : ByteArray).size : Int), .nilIface])) (fun u => True) (fun u => [sb 95 5 bp0 u.1 u.2 zZP]) rfl (zR rfl zk) (fun _ => rfl) (wn rfl) rfl Tryz.call45 (zI rfl (zI rfl zS)) (fun W hW hp hE => QM zYP zYC zXg bp0 (⟨#[100, 111, 110, 101, 10]⟩) zZP zki hE) ?_
          intro u hu
          obtain ⟨zea, zeG⟩ := u
          have gy236_0 := hu
          have zmM : True := gy236_0 --@phi
          dsimp only
          exact Tr.nil (Tr.zh (Tr.zh (Tr.zA (Tr.region (Tr.va rfl (fun _ _ a c => QA (a.ev rfl) (a.ev rfl)) (Tr.mv rfl rfl (Tr.nil (Tr.zf Qe (zV, (iL1 + 1), zZP, zea, zeG) ⟨rfl, Ql QG, QC QG, H⟩ (.cons rfl (.cons rfl (.cons rfl (.cons (congrArg (fun z => some (Value.int .i64 z)) (Qk QG Qc.form)) .nil)))) (.cons rfl .nil)))))))))
         ·exact Tr.skip (Tr.zh (Tr.zh (Tr.zA (Tr.region (Tr.va rfl (fun _ _ a c => QA (a.ev rfl) (a.ev rfl)) (Tr.mv rfl rfl (Tr.nil (Tr.zf Qe (zV, (iL1 + 1), m194, Am194, cm194) ⟨rfl, Ql QG, QC QG, H⟩ (.cons rfl (.cons rfl (.cons rfl (.cons (congrArg (fun z => some (Value.int .i64 z)) (Qk QG Qc.form)) .nil)))) (.cons rfl .nil)))))))))
theorem zFL : ∀ (N : Nat) {w : Bs} (p0 : ByteArray) (zF : Option Addr) (zG : Nat) (bp0 : Nat) (p1 : (List zC)) (za : Option Addr) (zb : Nat) (Qc : Sl w.R w.W zH za zb p1) (r : ByteArray) (H : zCY N p0 p1 = some r) (hE : HF w w.W (LEn [sb 95 5 bp0 zF zG p0])), Calls Tryz.prog 48 [pV bp0, sL za p1 zb].toArray w.W fun e W' => ∃ u : (Option Addr × Nat), e = .returned (.tuple #[]) ∧ (True) ∧ HF w W' (LEn [sb 95 5 bp0 u.1 u.2 r])
 | 0 => by intros; rename_i H _; cases H
 | N + 1 => zIa N (zCY N) (zFL N)

theorem zHH {w : Bs} (p0 : ByteArray) (zF : Option Addr) (zG : Nat) (bp0 : Nat) (r : (Int × ByteArray)) (H : sbL p0 = some r) (hE : HF w w.W (LEn [sb 95 5 bp0 zF zG p0])) : Calls Tryz.prog 49 [pV bp0].toArray w.W fun e W' => ∃ u : (Option Addr × Nat), e = .returned (iv r.1) ∧ (True) ∧ HF w W' (LEn [sb 95 5 bp0 u.1 u.2 r.2]) :=
 zf5 (ρ := Tryz.zRX) Tryz.zm6 H hE

end Go.Proofs.YtoageaoknnnfbaaGreatDoor
namespace Go.Proofs
open Go.Shelf
def Tryz.zNO : Go.Shelf.Ren := ⟨fun | 169 => 50 | n => n, fun | 5 => 5 | 37 => 93 | 70 => 92 | 72 => 95 | 127 => 132 | n => n, fun n => n⟩
theorem Tryz.zm5 : Go.Proofs.Lays.n169 Tryz.prog Tryz.zNO := {
 mixed := by kernel_rfl
 f169 := Tryz.func50.trans (congrArg some (by kernel_rfl))
 t0 := Tryz.underlying0
 a0 := Tryz.isAgg0
 z0 := Tryz.sizeOf0
 v0 := Tryz.zeroValue0
 t3 := Tryz.underlying3
 a3 := Tryz.isAgg3
 z3 := Tryz.sizeOf3
 v3 := Tryz.zeroValue3
 t9 := Tryz.underlying9
 a9 := Tryz.isAgg9
 z9 := Tryz.sizeOf9
 v9 := Tryz.zeroValue9
 t37 := Tryz.underlying93
 a37 := Tryz.isAgg93
 z37 := Tryz.sizeOf93
 v37 := Tryz.zeroValue93
 t70 := Tryz.underlying92
 a70 := Tryz.isAgg92
 z70 := Tryz.sizeOf92
 v70 := Tryz.zeroValue92
 t72 := Tryz.underlying95
 a72 := Tryz.isAgg95
 z72 := Tryz.sizeOf95
 v72 := Tryz.zeroValue95
 t127 := Tryz.underlying132
 a127 := Tryz.isAgg132
 z127 := Tryz.sizeOf132
 v127 := Tryz.zeroValue132
}
end Go.Proofs
namespace Go.Proofs.YtoageaoknnnfbaaGreatDoor
open Go.RowKit
theorem zoU : Builder.Extra Tryz.prog Tryz.zNO where
 sizeBuilder := by kernel_rfl
 liesBuilder := by kernel_rfl
 t5 := Tryz.underlying5
 a5 := Tryz.isAgg5
 z5 := Tryz.sizeOf5
 v5 := Tryz.zeroValue5
 infoByte := by kernel_rfl
 cellsByte := by kernel_rfl
 sizeByte := by kernel_rfl
 neB5 := by decide
theorem zFs {w : Bs} (p0 : ByteArray) (zF : Option Addr) (zG : Nat) (bp0 : Nat) (r : (ByteArray × ByteArray)) (H : sbS p0 = some r) (hE : HF w w.W (LEn [sb 95 5 bp0 zF zG p0])) : Calls Tryz.prog 50 [pV bp0].toArray w.W fun e W' => ∃ u : (Option Addr × Nat), e = .returned (sv r.1) ∧ (True) ∧ HF w W' (LEn [sb 95 5 bp0 u.1 u.2 r.2]) :=
 zYm (ρ := Tryz.zNO) Tryz.zm5 zoU H hE

theorem zP6 (N : Nat) {w : Bs} (p0 : QB) (zF : Option Addr) (zG : Nat) (zP : Sl w.R w.W zN zF zG p0.Tools) (zM : Option Addr) (zL : Nat) (QW : Sl w.R w.W zH zM zL p0.Steps) (r : (ByteArray × Int)) (H : zFO N p0 = some r) (hE : HF w w.W E0) : Calls Tryz.prog 25 [.agg #[iv p0.Unit, sL zF p0.Tools zG, sL zM p0.Steps zL]].toArray w.W fun e W' => e = .returned (.tuple #[sv r.1, iv r.2]) ∧ HF w W' E0 := by
 unfold zFO at H
 have leB := Bs.Le.refl w
 refine Tr.enter (n := 61) Tryz.func25 rfl rfl rfl hE (Tr.sr (Tr.box 1 (cs := [iv p0.Unit, sL zF p0.Tools zG, sL zM p0.Steps zL]) (wn rfl) rfl rfl rfl fun zt => (Tr.asg rfl rfl (Tr.asg rfl rfl (Tr.nil (Tr.zA (Tr.seq (Tr.sr (Tr.va rfl (fun _ _ a c => zX (cs := [iv p0.Unit, sL zF p0.Tools zG, sL zM p0.Steps zL]) zAJ VQ (a.ev rfl) (zO.take (rdb c (vs := [iv p0.Unit, sL zF p0.Tools zG, sL zM p0.Steps zL]) (k := 1) rfl 0) 3) rfl) ?_)))))))))
 obtain ⟨y101, hy101, H⟩ := bnd H
 refine Tr.Qs (r := (iv y101)) (wn rfl) rfl Tryz.call21 (zI rfl zS) (fun W hW => zAa N p0 zF zG (zP.ext hW.Qd) zM zL (QW.ext hW.Qd) y101 hy101 (HF.start _)) (Tr.asg rfl rfl (Tr.nil (Tr.zA (Tr.sr (Tr.mv rfl rfl (Tr.va rfl (fun _ _ a c => Jt (a.ev rfl) (a.ev rfl)) (Tr.nil (Tr.zA (Tr.cond rfl H (fun H => ?_) (fun H => ?_))))))))))
 ·refine Tr.sr (Tr.mv rfl rfl (Tr.asg rfl rfl (Tr.asg rfl rfl (Tr.nil (Tr.zA (Tr.ret (Tr.zg ?_)))))))
  obtain rfl := oI H
  exact Tr.out (m := [sv ByteArray.empty, iv y101]) [] (zU rfl (zU rfl zT)) (fun W hW => ⟨rfl, hW.low leB⟩)
 ·refine Tr.skip (Tr.zA (Tr.sr (Tr.zjz (e := 5) 2 (wn rfl) rfl zjZ fun zCE => (Tr.nil (Tr.zA (Tr.sr (Tr.va rfl (fun _ _ a c => zB zBH (a.ev rfl)) (Tr.va rfl (fun _ _ a c => zD QH (a.ev rfl) (rdb c (vs := [iv p0.Unit, sL zF p0.Tools zG, sL zM p0.Steps zL]) (k := 1) rfl 0) rfl) ?_))))))))
  obtain ⟨zm, zCi, H⟩ := bnd H
  refine Tr.Qs (r := (sv zm)) (wn rfl) rfl Tryz.call46 (zI rfl zS) (fun W hW => zEF p0.Unit zm zCi (HF.start _)) ?_
  obtain ⟨zjs, ht104, H⟩ := bnd H
  refine Tr.va rfl (fun _ _ a c => WP (a.ev rfl) (a.ev rfl) ht104) ?_
  obtain ⟨t105, ht105, H⟩ := bnd H
  refine Tr.va rfl (fun _ _ a c => WP (a.ev rfl) (a.ev rfl) ht105) ?_
  obtain ⟨Kc, zHT, H⟩ := bnd H
  refine Tr.WB [2] [sb 95 5 zCE none 0 ByteArray.empty] (U := (Option Addr × Nat)) (fun u => (.tuple #[iv ((t105 : ByteArray).size : Int), .nilIface])) (fun u => True) (fun u => [sb 95 5 zCE u.1 u.2 Kc]) rfl (zR rfl zk) (fun _ => rfl) (wn rfl) rfl Tryz.call45 (zI rfl (zI rfl zS)) (fun W hW hp hE => QM ByteArray.empty none 0 zCE t105 Kc zHT hE) ?_
  intro u hu
  obtain ⟨Ww, Wu⟩ := u
  have gy106_0 := hu
  have zJh : True := gy106_0 --@phi
  dsimp only
  refine Tr.nil (Tr.zA (Tr.seq (Tr.sr (Tr.va rfl (fun _ _ a c => zB zBy (a.ev rfl)) (Tr.va rfl (fun _ _ a c => zD zGQ (a.ev rfl) (rdb c (vs := [iv p0.Unit, sL zF p0.Tools zG, sL zM p0.Steps zL]) (k := 1) rfl 1) rfl) (Tr.va rfl (fun _ _ a c => zy zIo (a.ev rfl)) (Tr.mv rfl rfl (Tr.nil (Tr.zA (Tr.block (Tr.loop (σ := (List zZ) × Nat × ByteArray × (Option Addr) × Nat) (fun m w s => m = s.1.length + 1 ∧ s.1 = List.drop s.2.1 p0.Tools ∧ s.2.1 ≤ p0.Tools.length ∧ zAE N p0 s.1 s.2.1 s.2.2.1 = some r) (fun s => [(1, pV zt), (5, pV zCE), (22, sL zF p0.Tools zG), (23, iv (p0.Tools.length : Int)), (24, iv (s.2.1 : Int))]) (fun s => [(1, bx zt #[iv p0.Unit, sL zF p0.Tools zG, sL zM p0.Steps zL] 25), (2, sb 95 5 zCE s.2.2.2.1 s.2.2.2.2 s.2.2.1)]) (p0.Tools.length + 1) (p0.Tools, 0, Kc, Ww, Wu) ⟨rfl, rfl, Nat.zero_le _, H⟩ (.cons rfl (.cons rfl (.cons rfl (.cons rfl (.cons rfl .nil))))) (.cons rfl (.cons rfl .nil)) (fun _ _ h => absurd h.1 (by simp)) ?_)))))))))))
  intro w WL m s hs
  obtain ⟨Qz, iL3, m178, Am178, cm178⟩ := s
  obtain ⟨zIE, zAd, hiL3, H⟩ := hs
  replace zAd : Qz = List.drop iL3 p0.Tools := zAd
  replace H : zAE N p0 Qz iL3 m178 = some r := H
  replace zIE : m + 1 = Qz.length + 1 := zIE
  replace zP := zP.leR WL
  replace QW := QW.leR WL
  replace leB := leB.trans WL
  obtain rfl : m = Qz.length := by omega
  clear zIE
  dsimp only
  cases Qz with
  | nil =>
   rw [zAE.eq_1] at H
   refine Tr.sr (Tr.va rfl (fun _ _ a c => QE (a.ev rfl) (a.ev rfl)) (Tr.nil (Tr.zA (Tr.seq (Tr.WY rfl (JB zAd) (Tr.exit (Tr.zi (Tr.zi (Tr.QL (Tr.zA (Tr.sr (Tr.va rfl (fun _ _ a c => zB zC3 (a.ev rfl)) (Tr.va rfl (fun _ _ a c => zD zCn (a.ev rfl) (rdb c (vs := [iv p0.Unit, sL zF p0.Tools zG, sL zM p0.Steps zL]) (k := 1) rfl 2) rfl) ?_)))))))))))))
   obtain ⟨zYS, zk2, H⟩ := bnd H
   refine Tr.WB [2] [sb 95 5 zCE Am178 cm178 m178] (U := (Option Addr × Nat)) (fun u => (.tuple #[])) (fun u => True) (fun u => [sb 95 5 zCE u.1 u.2 zYS]) rfl (zR rfl zk) (fun _ => rfl) (wn rfl) rfl Tryz.call48 (zI rfl (zI rfl zS)) (fun W hW hp hE => zFL N m178 Am178 cm178 zCE p0.Steps zM zL (QW.ext (hW.JH hp)) zYS zk2 hE) ?_
   intro u hu
   obtain ⟨zYG, zXk⟩ := u
   have gy179_0 := hu
   have zmX : True := gy179_0 --@phi
   dsimp only
   refine Tr.nil (Tr.zA (Tr.seq (Tr.sr ?_)))
   obtain ⟨zSz, zk1, H⟩ := bnd H
   refine Tr.WB [2] [sb 95 5 zCE zYG zXk zYS] (U := (Option Addr × Nat)) (fun u => (iv zSz.1)) (fun u => True) (fun u => [sb 95 5 zCE u.1 u.2 zSz.2]) rfl (zR rfl zk) (fun _ => rfl) (wn rfl) rfl Tryz.call49 (zI rfl zS) (fun W hW hp hE => zHH zYS zYG zXk zCE zSz zk1 hE) ?_
   intro u hu
   obtain ⟨zYF, zXj⟩ := u
   have gy181_0 := hu
   have zmW : True := gy181_0 --@phi
   dsimp only
   refine Tr.va rfl (fun _ _ a c => WO (a.ev rfl) (a.ev rfl)) (Tr.nil (Tr.zA (Tr.cond rfl H (fun H => ?_) (fun H => ?_))))
   ·refine Tr.sr (Tr.asg rfl rfl (Tr.asg rfl rfl (Tr.nil (Tr.zA (Tr.ret (Tr.zg ?_))))))
    obtain rfl := oI H
    exact Tr.out (m := [sv ByteArray.empty, iv 2]) [] (zU rfl (zU rfl zT)) (fun W hW => ⟨rfl, hW.low leB⟩)
   ·refine Tr.skip (Tr.zA (Tr.sr ?_))
    obtain ⟨zHr, zam, H⟩ := bnd H
    refine Tr.WB [2] [sb 95 5 zCE zYF zXj zSz.2] (U := (Option Addr × Nat)) (fun u => (sv zHr.1)) (fun u => True) (fun u => [sb 95 5 zCE u.1 u.2 zHr.2]) rfl (zR rfl zk) (fun _ => rfl) (wn rfl) rfl Tryz.call50 (zI rfl zS) (fun W hW hp hE => zFs zSz.2 zYF zXj zCE zHr zam hE) ?_
    intro u hu
    obtain ⟨zIe, zII⟩ := u
    have gy183_0 := hu
    have zbY : True := gy183_0 --@phi
    dsimp only
    refine Tr.asg rfl rfl (Tr.asg rfl rfl (Tr.nil (Tr.zA (Tr.ret ?_))))
    obtain rfl := oI H
    exact Tr.out (m := [sv zHr.1, iv 0]) [] (zU rfl (zU rfl zT)) (fun W hW => ⟨rfl, hW.low leB⟩)
  | cons xL3 Qz =>
   rw [zAE.eq_2] at H
   refine Tr.sr (Tr.va rfl (fun _ _ a c => QE (a.ev rfl) (a.ev rfl)) (Tr.nil (Tr.zA (Tr.seq (Tr.WX rfl (JX zAd) (Tr.skip (Tr.zA (Tr.seq (Tr.block (Tr.sr ?_))))))))))
   obtain ⟨znv, hRu185, zdZ, hcu185⟩ := (zP).el (Js zAd)
   obtain ⟨zIi, zIM⟩ := znv
   have zEf := zdZ
   replace zEf : Sl w.R w.W zY zIi zIM xL3.Rects := zEf
   refine Tr.va rfl (fun _ _ a c => zK zFF (a.ev rfl) zP.form (a.ev rfl) (Int.natCast_nonneg _) (QC zAd)) (Tr.va rfl (fun _ _ a c => zX (cs := [sv xL3.Name, sL zIi xL3.Rects zIM]) zUj zLQ (a.ev rfl) (zO.take (rdR hRu185 hcu185 c) 2) rfl) (Tr.alloc 17 (wn rfl) rfl zZL fun zo2 => (Tr.store 17 (cs := [sv xL3.Name, sL zIi xL3.Rects zIM]) [sv xL3.Name, sL zIi xL3.Rects zIM] (wn rfl) rfl rfl rfl rfl zLQ rfl rfl rfl (Tr.nil (Tr.zA (Tr.sr (Tr.va rfl (fun _ _ a c => zB zIG (a.ev rfl)) (Tr.va rfl (fun _ _ a c => zD zHF (a.ev rfl) (rdb c (vs := [sv xL3.Name, sL zIi xL3.Rects zIM]) (k := 17) rfl 0) rfl) ?_))))))))
   obtain ⟨zc8, ht187, H⟩ := bnd H
   refine Tr.va rfl (fun _ _ a c => WP (a.ev rfl) (a.ev rfl) ht187) ?_
   obtain ⟨zAO, zTq, H⟩ := bnd H
   refine Tr.WB [2] [sb 95 5 zCE Am178 cm178 m178] (U := (Option Addr × Nat)) (fun u => (.tuple #[iv ((zc8 : ByteArray).size : Int), .nilIface])) (fun u => True) (fun u => [sb 95 5 zCE u.1 u.2 zAO]) rfl (zR rfl zk) (fun _ => rfl) (wn rfl) rfl Tryz.call45 (zI rfl (zI rfl zS)) (fun W hW hp hE => QM m178 Am178 cm178 zCE zc8 zAO zTq hE) ?_
   intro u hu
   obtain ⟨zDA, zC5⟩ := u
   have gy188_0 := hu
   have zHX : True := gy188_0 --@phi
   dsimp only
   refine Tr.nil (Tr.zA (Tr.seq (Tr.sr (Tr.va rfl (fun _ _ a c => zB zBx (a.ev rfl)) (Tr.va rfl (fun _ _ a c => zD zHh (a.ev rfl) (rdb c (vs := [sv xL3.Name, sL zIi xL3.Rects zIM]) (k := 17) rfl 1) rfl) (Tr.va rfl (fun _ _ a c => zy zBQ (a.ev rfl)) (Tr.mv rfl rfl (Tr.nil (Tr.zA (Tr.block (Tr.loop (σ := (List zQ) × Nat × ByteArray × (Option Addr) × Nat) (fun m w s => m = s.1.length + 1 ∧ s.1 = List.drop s.2.1 xL3.Rects ∧ s.2.1 ≤ xL3.Rects.length ∧ zBm (zAE N p0 Qz (iL3 + 1)) s.1 s.2.1 s.2.2.1 = some r) (fun s => [(1, pV zt), (5, pV zCE), (22, sL zF p0.Tools zG), (23, iv (p0.Tools.length : Int)), (24, iv (iL3 : Int)), (33, sL zIi xL3.Rects zIM), (34, iv (xL3.Rects.length : Int)), (35, iv (s.2.1 : Int))]) (fun s => [(1, bx zt #[iv p0.Unit, sL zF p0.Tools zG, sL zM p0.Steps zL] 25), (2, sb 95 5 zCE s.2.2.2.1 s.2.2.2.2 s.2.2.1)]) (xL3.Rects.length + 1) (xL3.Rects, 0, zAO, zDA, zC5) ⟨rfl, rfl, Nat.zero_le _, H⟩ (.cons rfl (.cons rfl (.cons rfl (.cons rfl (.cons rfl (.cons rfl (.cons rfl (.cons rfl .nil)))))))) (.cons rfl (.cons rfl .nil)) (fun _ _ h => absurd h.1 (by simp)) ?_)))))))))))
   intro w zDM m s hs
   obtain ⟨Ki, iL4, m208, Am208, cm208⟩ := s
   obtain ⟨zK5, zCj, hiL4, H⟩ := hs
   replace zCj : Ki = List.drop iL4 xL3.Rects := zCj
   replace H : zBm (zAE N p0 Qz (iL3 + 1)) Ki iL4 m208 = some r := H
   replace zK5 : m + 1 = Ki.length + 1 := zK5
   replace zP := zP.leR zDM
   replace zEf := zEf.leR zDM
   replace WL := WL.trans zDM
   obtain rfl : m = Ki.length := by omega
   clear zK5
   dsimp only
   cases Ki with
   | nil =>
    rw [zBm.eq_1] at H
    refine Tr.sr (Tr.va rfl (fun _ _ a c => QE (a.ev rfl) (a.ev rfl)) (Tr.nil (Tr.zA (Tr.seq (Tr.WY rfl (JB zCj) (Tr.exit (Tr.zi (Tr.zi (Tr.QL (Tr.zA (Tr.region ?_)))))))))))
    obtain ⟨zOf, zal, H⟩ := bnd H
    refine Tr.WB [2] [sb 95 5 zCE Am208 cm208 m208] (U := (Option Addr × Nat)) (fun u => (.tuple #[iv (((⟨#[10]⟩) : ByteArray).size : Int), .nilIface])) (fun u => True) (fun u => [sb 95 5 zCE u.1 u.2 zOf]) rfl (zR rfl zk) (fun _ => rfl) (wn rfl) rfl Tryz.call45 (zI rfl (zI rfl zS)) (fun W hW hp hE => QM m208 Am208 cm208 zCE (⟨#[10]⟩) zOf zal hE) ?_
    intro u hu
    obtain ⟨zSn, zSR⟩ := u
    have gy209_0 := hu
    have zbX : True := gy209_0 --@phi
    dsimp only
    exact Tr.nil (Tr.zh (Tr.zA (Tr.region (Tr.va rfl (fun _ _ a c => QA (a.ev rfl) (a.ev rfl)) (Tr.mv rfl rfl (Tr.nil (Tr.zf WL (Qz, (iL3 + 1), zOf, zSn, zSR) ⟨rfl, Ql zAd, QC zAd, H⟩ (.cons rfl (.cons rfl (.cons rfl (.cons rfl (.cons (congrArg (fun z => some (Value.int .i64 z)) (Qk zAd zP.form)) .nil))))) (.cons rfl (.cons rfl .nil)))))))))
   | cons xL4 Ki =>
    rw [zBm.eq_2] at H
    refine Tr.sr (Tr.va rfl (fun _ _ a c => QE (a.ev rfl) (a.ev rfl)) (Tr.nil (Tr.zA (Tr.seq (Tr.WX rfl (JX zCj) (Tr.skip (Tr.zA (Tr.seq (Tr.block (Tr.sr (Tr.va rfl (fun _ _ a c => zK zCl (a.ev rfl) zEf.form (a.ev rfl) (Int.natCast_nonneg _) (QC zCj)) (Tr.va rfl (fun _ _ a c => zX (cs := [iv xL4.X0, iv xL4.Y0, iv xL4.X1, iv xL4.Y1]) zBr VE (a.ev rfl) (zO.take (rdF WA zEf (Js zCj) c) 4) rfl) (Tr.alloc 22 (wn rfl) rfl zF5 fun zm9 => (Tr.store 22 (cs := [iv xL4.X0, iv xL4.Y0, iv xL4.X1, iv xL4.Y1]) [iv xL4.X0, iv xL4.Y0, iv xL4.X1, iv xL4.Y1] (wn rfl) rfl rfl rfl rfl VE rfl rfl rfl (Tr.nil (Tr.zA (Tr.region (Tr.va rfl (fun _ _ a c => zB zBG (a.ev rfl)) (Tr.va rfl (fun _ _ a c => zD QH (a.ev rfl) (rdb c (vs := [iv xL4.X0, iv xL4.Y0, iv xL4.X1, iv xL4.Y1]) (k := 22) rfl 0) rfl) (Tr.va rfl (fun _ _ a c => zB zDX (a.ev rfl)) (Tr.va rfl (fun _ _ a c => zD QH (a.ev rfl) (rdb c (vs := [iv xL4.X0, iv xL4.Y0, iv xL4.X1, iv xL4.Y1]) (k := 22) rfl 1) rfl) (Tr.build (vs := [(0, iv xL4.X0), (1, iv xL4.Y0)]) (cs := [iv xL4.X0, iv xL4.Y0]) (wn rfl) rfl (zl rfl (zl rfl Qf)) (by kernel_rfl) (Tr.va rfl (fun _ _ a c => zB zD9 (a.ev rfl)) (Tr.va rfl (fun _ _ a c => zD QH (a.ev rfl) (rdb c (vs := [iv xL4.X0, iv xL4.Y0, iv xL4.X1, iv xL4.Y1]) (k := 22) rfl 2) rfl) (Tr.va rfl (fun _ _ a c => zB zEp (a.ev rfl)) (Tr.va rfl (fun _ _ a c => zD QH (a.ev rfl) (rdb c (vs := [iv xL4.X0, iv xL4.Y0, iv xL4.X1, iv xL4.Y1]) (k := 22) rfl 3) rfl) (Tr.build (vs := [(0, iv xL4.X1), (1, iv xL4.Y1)]) (cs := [iv xL4.X1, iv xL4.Y1]) (wn rfl) rfl (zl rfl (zl rfl Qf)) (by kernel_rfl) (Tr.buildSlice 23 (e := 43) (vs := [(0, .agg #[iv xL4.X0, iv xL4.Y0]), (1, .agg #[iv xL4.X1, iv xL4.Y1])]) (cs := [iv xL4.X0, iv xL4.Y0, iv xL4.X1, iv xL4.Y1]) (wn rfl) rfl (zl rfl (zl rfl Qf)) (by kernel_rfl) fun zoZ => (Tr.own 23 QD [(zJ.mk xL4.X0 xL4.Y0), (zJ.mk xL4.X1 xL4.Y1)] (css := [[iv xL4.X0, iv xL4.Y0], [iv xL4.X1, iv xL4.Y1]]) rfl (.cons ⟨(), trivial, rfl⟩ (.cons ⟨(), trivial, rfl⟩ .nil)) rfl (by decide) (zCU rfl) ?_)))))))))))))))))))))))))))))
    obtain ⟨zYR, zks, H⟩ := bnd H
    refine Tr.Qs (r := (sv zYR)) (wn rfl) rfl Tryz.call47 (zI rfl zS) (fun W hW => zAm [(zJ.mk xL4.X0 xL4.Y0), (zJ.mk xL4.X1 xL4.Y1)] (some ⟨zoZ, 0, none⟩) 2 (hW.zBX (k := 23) rfl) zYR zks (HF.start _)) ?_
    obtain ⟨zZT, zkr, H⟩ := bnd H
    refine Tr.WB [2] [sb 95 5 zCE Am208 cm208 m208] (U := (Option Addr × Nat)) (fun u => (.tuple #[iv ((zYR : ByteArray).size : Int), .nilIface])) (fun u => True) (fun u => [sb 95 5 zCE u.1 u.2 zZT]) rfl (zR rfl zk) (fun _ => rfl) (wn rfl) rfl Tryz.call45 (zI rfl (zI rfl zS)) (fun W hW hp hE => QM m208 Am208 cm208 zCE zYR zZT zkr hE) ?_
    intro u hu
    obtain ⟨zee, zeK⟩ := u
    have gy214_0 := hu
    have zmS : True := gy214_0 --@phi
    dsimp only
    exact Tr.nil (Tr.zh (Tr.zA (Tr.region (Tr.va rfl (fun _ _ a c => QA (a.ev rfl) (a.ev rfl)) (Tr.mv rfl rfl (Tr.nil (Tr.zf zDM (Ki, (iL4 + 1), zZT, zee, zeK) ⟨rfl, Ql zCj, QC zCj, H⟩ (.cons rfl (.cons rfl (.cons rfl (.cons rfl (.cons rfl (.cons rfl (.cons rfl (.cons (congrArg (fun z => some (Value.int .i64 z)) (Qk zCj zEf.form)) .nil)))))))) (.cons rfl (.cons rfl .nil)))))))))

theorem zDU (N : Nat) {w : Bs}  (r : Bool) (H : Vl N = some r) (hE : HF w w.W E0) : Calls Tryz.prog 8 [].toArray w.W fun e W' => e = .returned (bV r) ∧ HF w W' E0 := by
 unfold Vl at H
 have leB := Bs.Le.refl w
 refine Tr.enter (n := 14) Tryz.func8 rfl rfl rfl hE (Tr.sr (Tr.asg rfl rfl (Tr.nil (Tr.zA (Tr.sr (Tr.build (vs := [(0, iv 7)]) (cs := [iv 7, .slice none 0 0, .slice none 0 0]) (wn rfl) rfl (zl rfl Qf) (by kernel_rfl) ?_))))))
 obtain ⟨QK, zBE, H⟩ := bnd H
 refine Tr.Qs (r := (.tuple #[sv QK.1, iv QK.2])) (wn rfl) rfl Tryz.call25 (zI rfl zS) (fun W hW => zP6 N (QB.mk 7 [] []) none 0 (Sl.nil _ _ _) none 0 (Sl.nil _ _ _) QK zBE (HF.start _)) (Tr.mv rfl rfl (Tr.va rfl (fun _ _ a c => JM (a.ev rfl) rfl) (Tr.va rfl (fun _ _ a c => JM (a.ev rfl) rfl) (Tr.asg rfl rfl (Tr.asg rfl rfl (Tr.nil (Tr.zA (Tr.sr (Tr.mv rfl rfl (Tr.va rfl (fun _ _ a c => Qa (a.ev rfl) (a.ev rfl)) (Tr.mv rfl rfl (Tr.VJ 3 [(13, bV ((QK.2 == 0) && (sEq QK.1 (⟨#[117, 110, 105, 116, 32, 55, 10]⟩))))] [] ?_ ?_))))))))))))
 ·cases zom : (QK.2 == 0)
  ·exact Tr.pass rfl rfl rfl rfl rfl (by decide) (Tr.pass rfl rfl rfl rfl rfl (by decide) (Tr.va rfl (fun _ _ a c => zo (a.ev rfl) (a.ev rfl)) (Tr.nil (Tr.Qi (.cons rfl .nil) .nil))))
  ·exact Tr.val (wg rfl rfl rfl) rfl (fun _ _ a c => run_move (a.ev rfl)) (Tr.val (wg rfl rfl rfl) rfl (fun _ _ a c => zLX (a.ev rfl) (a.ev rfl)) (Tr.va rfl (fun _ _ a c => zn (a.ev rfl) (a.ev rfl)) (Tr.nil (Tr.Qi (.cons rfl .nil) .nil))))
 ·show Tr _ _ (LF [(13, bV ((QK.2 == 0) && (sEq QK.1 (⟨#[117, 110, 105, 116, 32, 55, 10]⟩))))]) (LE []) _
  refine Tr.asg rfl rfl (Tr.nil (Tr.zA (Tr.ret ?_)))
  obtain rfl := oI H
  exact Tr.out (m := [bV ((QK.2 == 0) && (sEq QK.1 (⟨#[117, 110, 105, 116, 32, 55, 10]⟩)))]) [] (zU rfl zT) (fun W hW => ⟨rfl, hW.low leB⟩)

theorem zCo {w : Bs} (p0 : (List zZ)) (zF : Option Addr) (zG : Nat) (zP : Sl w.O w.W zN zF zG p0) (r : (List zZ)) (H : Jo p0 = some r) (hE : HF w w.W (LEn [emp])) : Calls Tryz.prog 92 [sL zF p0 zG].toArray w.W fun e W' => ∃ (w' : Bs) (u : (Option Addr × Nat)), w.Le w' ∧ e = .returned (sL u.1 r u.2) ∧ (SlF u.1 r.length u.2) ∧ HF w' W' (LEn [ow u.1 u.2 64 zN r]) := by
 unfold Jo at H
 have leB := Bs.Le.refl w
 refine Tr.enter (n := 8) Tryz.func92 rfl rfl rfl hE (Tr.sr (Tr.asg rfl rfl (Tr.JY 1 64 zN ?_)))
 show Tr _ _ (uf _ 2 (sL none (([] : List zZ)) 0)) _ _
 refine Tr.nil (Tr.zA (Tr.seq (Tr.sr (Tr.mv rfl rfl (Tr.va rfl (fun _ _ a c => zH1 zIo (a.ev rfl) (a.ev rfl)) (Tr.nil (Tr.zA ?_)))))))
 cases zF with
 | none =>
  have hl0 := zLS zP.form
  replace H : (some ([] : List zZ)) = some r := by simpa [apd, hl0] using H
  refine Tr.WX rfl rfl (Tr.sr (Tr.asg rfl rfl (Tr.JY 2 64 zN ?_)))
  show Tr _ _ (uf _ 2 (sL none (([] : List zZ)) 0)) _ _
  refine Tr.nil (Tr.zA (Tr.ret (Tr.zg ?_)))
  obtain rfl := oI H
  exact Tr.out (m := [sL none (([] : List zZ)) 0]) [] (zU rfl zT) (fun W hW => ⟨w, (none, 0), leB, rfl, VR, hW.pick (ks := [2]) (by decide) (zR rfl zk)⟩)
 | some a102 =>
  refine Tr.WY rfl rfl (Tr.skip (Tr.zA (Tr.sr (Tr.buildSlice 3 (e := 64) (vs := []) (cs := []) (wn rfl) rfl Qf (by kernel_rfl) fun zt => (Tr.mv rfl rfl (Tr.own 3 zN ([] : List zZ) (css := []) rfl .nil rfl (by decide) (zCU rfl) ?_))))))
  obtain ⟨Wq, zIt, H⟩ := bnd H
  refine Tr.zMI 3 (t := zN) (l := ([] : List zZ)) (l2 := p0) (wn rfl) rfl rfl rfl rfl (apO zP) zIo zLQ zjW (by decide) zm4 rfl zIt fun zJ1 zJq hAl101 => (Tr.asg rfl rfl (Tr.nil (Tr.zA (Tr.ret ?_))))
  obtain rfl := oI H
  exact Tr.out (m := [sL zJ1 Wq zJq]) [] (zU rfl zT) (fun W hW => ⟨w, (zJ1, zJq), leB, rfl, hAl101, hW.pick (ks := [3]) (by decide) (zR rfl zk)⟩)

theorem zLG (N : Nat) {w : Bs} (p0 : (List zZ)) (zF : Option Addr) (zG : Nat) (zP : Sl w.O w.W zN zF zG p0) (p1 : zQ → Option zQ) (fid1 : Nat) (cap1 : List Value) (hg1 : ∀ args W, (callFunc fid1 args).run Tryz.prog W = .ok (.enter fid1 args) W) (hf1 : ∀ (w' : Bs), w.Ext w' → ∀ (z0 : zQ), ∀ y, p1 z0 = some y → Calls Tryz.prog fid1 (([.agg #[iv z0.X0, iv z0.Y0, iv z0.X1, iv z0.Y1]] : List Value) ++ cap1).toArray w'.W fun e W'' => e = .returned (.agg #[iv y.X0, iv y.Y0, iv y.X1, iv y.Y1]) ∧ HF w' W'' E0) (r : (List zZ)) (H : zCF N p0 p1 = some r) (hE : HF w w.W (LEn [emp])) : Calls Tryz.prog 63 [sL zF p0 zG, .func (.func fid1) #[] cap1.toArray].toArray w.W fun e W' => ∃ (w' : Bs) (u : (Option Addr × Nat)), w.Le w' ∧ e = .returned (sL u.1 r u.2) ∧ (SlF u.1 r.length u.2) ∧ HF w' W' (LEn [ow u.1 u.2 64 zN r]) := by
 unfold zCF at H
 have leB := Bs.Le.refl w
 refine Tr.enter (n := 50) Tryz.func63 rfl rfl rfl hE (Tr.sr (Tr.asg rfl rfl (Tr.JY 1 64 zN ?_)))
 show Tr _ _ (uf _ 4 (sL none (([] : List zZ)) 0)) _ _
 refine Tr.nil (Tr.zA (Tr.sr (Tr.mv rfl rfl ?_)))
 obtain ⟨QK, zBE, H⟩ := bnd H
 refine Tr.VW [2] [emp] (U := (Option Addr × Nat)) (fun u => (sL u.1 QK u.2)) (fun O W u => SlF u.1 QK.length u.2) (fun u => [ow u.1 u.2 64 zN QK]) rfl (zR rfl zk) (fun _ => rfl) (wn rfl) rfl Tryz.call92 (zI rfl zS) (fun W hW hp hE => zCo p0 zF zG (zP.zAS (hW.JH hp)) QK zBE hE) ?_
 intro w u zER hu
 obtain ⟨JQ, JP⟩ := u
 have gy100_0 := hu
 replace hf1 := fun w' he => hf1 w' (zER.ext.trans he)
 replace leB := leB.trans zER
 have zBY : SlF JQ QK.length JP := gy100_0 --@phi
 dsimp only
 refine Tr.asg rfl rfl (Tr.nil (Tr.zA (Tr.seq (Tr.sr (Tr.mv rfl rfl (Tr.va rfl (fun _ _ a c => zy zIo (a.ev rfl)) (Tr.mv rfl rfl (Tr.nil (Tr.zA (Tr.block (Tr.loop (σ := (List zZ) × Int × (Option Addr) × Nat) (fun m w s => Jl p1 QK m s.1 s.2.1 = some r ∧ SlF s.2.2.1 s.1.length s.2.2.2) (fun s => [(1, .func (.func fid1) #[] cap1.toArray), (5, sL s.2.2.1 s.1 s.2.2.2), (12, iv (QK.length : Int)), (13, iv s.2.1)]) (fun s => [(2, ow s.2.2.1 s.2.2.2 64 zN s.1)]) N (QK, 0, JQ, JP) ⟨H, zBY⟩ (.cons rfl (.cons rfl (.cons rfl (.cons rfl .nil)))) (.cons rfl .nil) (fun _ _ h => zAQ (h.1)) ?_)))))))))))
 intro w WL mL3 s hs
 obtain ⟨Wp, Vb, zAF, zBf⟩ := s
 obtain ⟨H, zFC⟩ := hs
 replace H : Jl p1 QK (mL3 + 1) Wp Vb = some r := H
 replace hf1 := fun w' he => hf1 w' (WL.ext.trans he)
 replace leB := leB.trans WL
 replace zFC : SlF zAF Wp.length zBf := zFC
 rw [Jl.eq_2] at H
 dsimp only
 refine Tr.sr (Tr.va rfl (fun _ _ a c => QE (a.ev rfl) (a.ev rfl)) (Tr.nil (Tr.zA (Tr.seq (Tr.cond rfl H (fun H => ?_) (fun H => ?_))))))
 ·refine Tr.skip (Tr.zA (Tr.seq (Tr.block (Tr.sr (Tr.mv rfl rfl (Tr.asg rfl rfl (Tr.nil (Tr.zA (Tr.sr (Tr.mv rfl rfl (Tr.mv rfl rfl (Tr.mv rfl rfl (Tr.mv rfl rfl ?_)))))))))))))
  obtain ⟨zKs, za1, H⟩ := bnd H
  obtain ⟨zVy, zVx, zVw⟩ := zx za1
  refine Tr.va rfl (fun _ _ a c => zK zFF (a.ev rfl) zFC (a.ev rfl) zVy zVx) (Tr.va rfl (fun _ _ a c => zB zBx (a.ev rfl)) (Tr.zYf (U := (zN).Ad) (fun u => (zN).ok w.O w.W u zKs) (fun u => (sL u.1 zKs.Rects u.2)) (wn rfl) rfl (ldN (κ := 2) (t := zN) (V := fun u => (sL u.1 zKs.Rects u.2)) rfl zVw (fun _ _ u a hc => zD zHh (a.ev rfl) (hc.drop 1) rfl)) ?_))
  intro zfs zSB
  obtain ⟨zMX, zMD⟩ := zfs
  have zEe := zSB
  replace zEe : Sl w.O w.W zY zMX zMD zKs.Rects := zEe
  dsimp only
  obtain ⟨zAO, zTq, H⟩ := bnd H
  refine Tr.WB [11] [emp] (U := (Option Addr × Nat)) (fun u => (sL u.1 zAO u.2)) (fun u => SlF u.1 zAO.length u.2) (fun u => [ow u.1 u.2 36 zY zAO]) rfl (zR rfl zk) (fun _ => rfl) (wn rfl) rfl Tryz.call80 (zI rfl zS) (fun W hW hp hE => zB4 zKs.Rects zMX zMD (zEe.rl.ext (hW.JH hp)) zAO zTq hE) ?_
  intro u hu
  obtain ⟨zDA, zC5⟩ := u
  have gy188_0 := hu
  have zHX : SlF zDA zAO.length zC5 := gy188_0 --@phi
  dsimp only
  obtain ⟨zBW, za0, H⟩ := bnd H
  obtain ⟨zVv, zVu, zPR⟩ := zx za0
  refine Tr.va rfl (fun _ _ a c => zK zFF (a.ev rfl) zFC (a.ev rfl) zVv zVu) (Tr.va rfl (fun _ _ a c => zB zBx (a.ev rfl)) (Tr.zR0 2 rfl zPR ?_))
  intro zfr zSA
  obtain ⟨zSr, zSV⟩ := zfr
  have zYy := zSA
  show Tr _ _ _ (up _ 2 (ow zAF zBf 64 (mix zN) (zB9 Wp (Vb).toNat (raw zN [sv zBW.Name, sL zSr zBW.Rects zSV] rfl rfl)))) _
  refine Tr.zJS 2 (raw zN [sv zBW.Name, sL zDA zAO zC5] rfl rfl) (cs := [sL zDA zAO zC5]) (fo := 1) (wn rfl) rfl rfl rfl rfl rfl (List.getElem?_eq_some_iff.1 zPR).1 zep rfl rfl rfl ?_
  refine Tr.nil (Tr.zA (Tr.sr (Tr.mv rfl rfl (Tr.mv rfl rfl ?_))))
  obtain ⟨zfp, zaz, H⟩ := bnd H
  obtain ⟨zVt, zVs, zVr⟩ := zx zaz
  refine Tr.va rfl (fun _ _ a c => zK zFF (a.ev rfl) zFC (a.ev rfl) zVt zVs) (Tr.va rfl (fun _ _ a c => zB zBx (a.ev rfl)) (Tr.va rfl (fun _ _ a c => zD zHh (a.ev rfl) (zO.drop (rdm (cs := raw zN [sv zBW.Name, sL zDA zAO zC5] rfl rfl) c (κ := 2) rfl (List.getElem?_eq_some_iff.1 zVr).1) 1) rfl) ?_))
  refine Tr.va rfl (fun _ _ a c => zy zBQ (a.ev rfl)) (Tr.mv rfl rfl (Tr.nil (Tr.zA (Tr.block (Tr.loop (σ := (List zQ) × Nat × (List zQ) × (Option Addr) × Nat) (fun m w s => m = s.1.length + 1 ∧ s.1 = List.drop s.2.1 zAO ∧ s.2.1 ≤ zAO.length ∧ Kk p1 Wp Vb (Jl p1 QK mL3) zBW s.1 s.2.1 s.2.2.1 = some r ∧ SlF s.2.2.2.1 s.2.2.1.length s.2.2.2.2) (fun s => [(1, .func (.func fid1) #[] cap1.toArray), (5, sL zAF Wp zBf), (6, iv Vb), (12, iv (QK.length : Int)), (13, iv Vb), (30, sL s.2.2.2.1 s.2.2.1 s.2.2.2.2), (31, iv (zAO.length : Int)), (32, iv (s.2.1 : Int))]) (fun s => [(2, ow zAF zBf 64 (mix zN) (zB9 Wp (Vb).toNat (raw zN [sv zBW.Name, sL s.2.2.2.1 s.2.2.1 s.2.2.2.2] rfl rfl))), (11, ow s.2.2.2.1 s.2.2.2.2 36 zY s.2.2.1)]) (zAO.length + 1) (zAO, 0, zAO, zDA, zC5) ⟨rfl, rfl, Nat.zero_le _, H, zHX⟩ (.cons rfl (.cons rfl (.cons rfl (.cons rfl (.cons rfl (.cons rfl (.cons rfl (.cons rfl .nil)))))))) (.cons rfl (.cons rfl .nil)) (fun _ _ h => absurd h.1 (by simp)) ?_)))))
  intro w zDM m s hs
  obtain ⟨Ki, iL4, zCh, zDV, zDO⟩ := s
  obtain ⟨zK5, zCj, hiL4, H, zJd⟩ := hs
  replace zCj : Ki = List.drop iL4 zAO := zCj
  replace H : Kk p1 Wp Vb (Jl p1 QK mL3) zBW Ki iL4 zCh = some r := H
  replace zK5 : m + 1 = Ki.length + 1 := zK5
  replace hf1 := fun w' he => hf1 w' (zDM.ext.trans he)
  replace WL := WL.trans zDM
  replace zJd : SlF zDV zCh.length zDO := zJd
  obtain rfl : m = Ki.length := by omega
  clear zK5
  dsimp only
  cases Ki with
  | nil =>
   rw [Kk.eq_1] at H
   refine Tr.sr (Tr.va rfl (fun _ _ a c => QE (a.ev rfl) (a.ev rfl)) (Tr.nil (Tr.zA (Tr.seq (Tr.WY rfl (JB zCj) (Tr.exit (Tr.zi (Tr.zi (Tr.QL (Tr.zh (Tr.zA (Tr.region (Tr.va rfl (fun _ _ a c => QA (a.ev rfl) (a.ev rfl)) (Tr.mv rfl rfl (Tr.nil (Tr.freeze 11 rfl fun w zW5 zad => ?_))))))))))))))))
   replace hf1 := fun w' he => hf1 w' (zW5.ext.trans he)
   replace WL := WL.trans zW5
   refine Tr.zPC 2 rfl ((zDV, zDO)) (zZ.mk zBW.Name zCh) zad rfl ?_
   have zTz : ((Wp).set (Vb).toNat (zZ.mk zBW.Name zCh)).length = Wp.length := List.length_set
   have zSL : SlF zAF ((Wp).set (Vb).toNat (zZ.mk zBW.Name zCh)).length zBf := by rw [zTz]; exact zFC
   exact Tr.sel (lf := [(1, .func (.func fid1) #[] cap1.toArray), (5, sL zAF (((Wp).set (Vb).toNat (zZ.mk zBW.Name zCh))) zBf), (6, iv Vb), (12, iv (QK.length : Int)), (13, iv (w64 (Vb + 1))), (30, sL zDV zCh zDO), (31, iv (zAO.length : Int)), (32, iv (iL4 : Int)), (33, bV (decide ((iL4 : Int) < (zAO.length : Int)))), (48, iv (w64 (Vb + 1)))]) (le := [(2, ow zAF zBf 64 zN ((Wp).set (Vb).toNat (zZ.mk zBW.Name zCh)))]) (.cons rfl (.cons (KM rfl (by unfold sL; rw [zTz])) (.cons rfl (.cons rfl (.cons rfl (.cons rfl (.cons rfl (.cons rfl (.cons rfl (.cons rfl .nil)))))))))) (.cons rfl .nil) (Tr.zf WL (((Wp).set (Vb).toNat (zZ.mk zBW.Name zCh)), (w64 (Vb + 1)), zAF, zBf) ⟨H, zSL⟩ (.cons rfl (.cons rfl (.cons rfl (.cons rfl .nil)))) (.cons rfl .nil))
  | cons xL4 Ki =>
   rw [Kk.eq_2] at H
   refine Tr.sr (Tr.va rfl (fun _ _ a c => QE (a.ev rfl) (a.ev rfl)) (Tr.nil (Tr.zA (Tr.seq (Tr.WX rfl (JX zCj) (Tr.skip (Tr.zA (Tr.seq (Tr.block (Tr.sr (Tr.mv rfl rfl ?_)))))))))))
   obtain ⟨VH, zay, H⟩ := bnd H
   obtain ⟨zVq, zVp, zVo⟩ := zx zay
   refine Tr.va rfl (fun _ _ a c => zK zCl (a.ev rfl) zJd (a.ev rfl) zVq zVp) (Tr.va rfl (fun _ _ a c => zX (cs := [iv VH.X0, iv VH.Y0, iv VH.X1, iv VH.Y1]) zBr VE (a.ev rfl) (zO.take (rdo WA (k := 11) c rfl zVo) 4) rfl) (Tr.alloc 14 (wn rfl) rfl zF5 fun zcR => (Tr.asg rfl rfl (Tr.store 14 (cs := [iv VH.X0, iv VH.Y0, iv VH.X1, iv VH.Y1]) [iv VH.X0, iv VH.Y0, iv VH.X1, iv VH.Y1] (wn rfl) rfl rfl rfl rfl VE rfl rfl rfl (Tr.nil (Tr.zA (Tr.Wj 9 (by kernel_rfl) (by kernel_rfl) (Tq.mv rfl rfl (Tq.mv rfl rfl ?_)))))))))
   obtain ⟨zfo, zax, H⟩ := bnd H
   obtain ⟨zVn, zVm, zVl⟩ := zx zax
   refine Tq.va rfl (fun _ _ a c => zK zFF (a.ev rfl) zFC (a.ev rfl) zVn zVm) (Tq.va rfl (fun _ _ a c => zB zBx (a.ev rfl)) (Tq.va rfl (fun _ _ a c => zD zHh (a.ev rfl) (zO.drop (rdm (cs := raw zN [sv zBW.Name, sL zDV zCh zDO] rfl rfl) c (κ := 2) rfl (List.getElem?_eq_some_iff.1 zVl).1) 1) rfl) ?_))
   refine Tq.mv rfl rfl (Tq.mv rfl rfl (Tq.va rfl (fun _ _ a c => zX (cs := [iv VH.X0, iv VH.Y0, iv VH.X1, iv VH.Y1]) zBr VE (a.ev rfl) (zO.take (rdb c (vs := [iv VH.X0, iv VH.Y0, iv VH.X1, iv VH.Y1]) (k := 14) rfl 0) 4) rfl) ?_))
   obtain ⟨zCN, zTp, H⟩ := bnd H
   refine Tq.zEV (r := (.agg #[iv zCN.X0, iv zCN.Y0, iv zCN.X1, iv zCN.Y1])) (wn rfl) rfl rfl hg1 (zI rfl zS) (fun W hW => hf1 hW.all hW.Qd VH _ zTp) (Tq.nil ?_)
   obtain ⟨zfn, zaw, H⟩ := bnd H
   obtain ⟨zVk, zVj, zVi⟩ := zx zaw
   refine Tr.va rfl (fun _ _ a c => zK zCl (a.ev rfl) zJd (a.ev rfl) zVk zVj) ?_
   obtain ⟨zJY, zT4, H⟩ := bnd H
   have zID := zD5 zT4
   refine Tr.zEm 11 (t := zY) (l := zCh) (i := (iL4 : Int)) (fo := 0) (cs := [iv zCN.X0, iv zCN.Y0, iv zCN.X1, iv zCN.Y1]) zCN (wn rfl) rfl rfl rfl rfl rfl zVi VE rfl (fun u _ => ⟨u, trivial, rfl⟩) rfl zT4 ?_
   have zWI : SlF zDV zJY.length zDO := by rw [zID]; exact zJd
   exact Tr.sel (lf := [(1, .func (.func fid1) #[] cap1.toArray), (5, sL zAF Wp zBf), (6, iv Vb), (7, iv (iL4 : Int)), (8, pV zcR), (12, iv (QK.length : Int)), (13, iv Vb), (30, sL zDV zJY zDO), (31, iv (zAO.length : Int)), (32, iv (iL4 : Int)), (33, bV (decide ((iL4 : Int) < (zAO.length : Int)))), (34, iv (iL4 : Int)), (36, .agg #[iv VH.X0, iv VH.Y0, iv VH.X1, iv VH.Y1]), (37, sL zAF Wp zBf), (38, iv Vb), (39, .pointer (some ⟨adB zAF, adO zAF + (Vb).toNat * 2, none⟩)), (40, .pointer (some ⟨adB zAF, adO zAF + (Vb).toNat * 2 + 1, none⟩)), (41, sL zDV zJY zDO), (42, iv (iL4 : Int)), (43, .func (.func fid1) #[] cap1.toArray), (44, .agg #[iv VH.X0, iv VH.Y0, iv VH.X1, iv VH.Y1]), (45, .agg #[iv zCN.X0, iv zCN.Y0, iv zCN.X1, iv zCN.Y1])]) (le := [(2, ow zAF zBf 64 (mix zN) (zB9 Wp (Vb).toNat (raw zN [sv zBW.Name, sL zDV zJY zDO] rfl rfl))), (11, ow zDV zDO 36 zY zJY), (14, bx zcR #[iv VH.X0, iv VH.Y0, iv VH.X1, iv VH.Y1] 36)]) (.cons rfl (.cons rfl (.cons rfl (.cons rfl (.cons rfl (.cons rfl (.cons rfl (.cons (KM rfl (by unfold sL; rw [zID])) (.cons rfl (.cons rfl (.cons rfl (.cons rfl (.cons rfl (.cons rfl (.cons rfl (.cons rfl (.cons rfl (.cons (KM rfl (by unfold sL; rw [zID])) (.cons rfl (.cons rfl (.cons rfl (.cons rfl .nil)))))))))))))))))))))) (.cons (zeD rfl (by unfold sL; rw [zID])) (.cons rfl (.cons rfl .nil))) (Tr.nil (Tr.zh (Tr.zA (Tr.region (Tr.va rfl (fun _ _ a c => QA (a.ev rfl) (a.ev rfl)) (Tr.mv rfl rfl (Tr.nil (Tr.zf zDM (Ki, (iL4 + 1), zJY, zDV, zDO) ⟨rfl, Ql zCj, QC zCj, H, zWI⟩ (.cons rfl (.cons rfl (.cons rfl (.cons rfl (.cons rfl (.cons rfl (.cons rfl (.cons (congrArg (fun z => some (Value.int .i64 z)) (Qk zCj zHX)) .nil)))))))) (.cons rfl (.cons rfl .nil))))))))))
 ·refine Tr.exit (Tr.zi (Tr.zi (Tr.QL (Tr.zA (Tr.sr (Tr.mv rfl rfl (Tr.asg rfl rfl (Tr.nil (Tr.zA (Tr.ret ?_))))))))))
  obtain rfl := oI H
  exact Tr.out (m := [sL zAF Wp zBf]) [] (zU rfl zT) (fun W hW => ⟨w, (zAF, zBf), leB, rfl, zFC, hW.pick (ks := [2]) (by decide) (zR rfl zk)⟩)

theorem zNV {w : Bs} (p0 : zQ) (r : zQ) (H : zDT p0 = some r) (hE : HF w w.W E0) : Calls Tryz.prog 64 [.agg #[iv p0.X0, iv p0.Y0, iv p0.X1, iv p0.Y1]].toArray w.W fun e W' => e = .returned (.agg #[iv r.X0, iv r.Y0, iv r.X1, iv r.Y1]) ∧ HF w W' E0 := by
 unfold zDT at H
 have leB := Bs.Le.refl w
 refine Tr.enter (n := 4) Tryz.func64 rfl rfl rfl hE (Tr.sr (Tr.box 1 (cs := [iv p0.X0, iv p0.Y0, iv p0.X1, iv p0.Y1]) (wn rfl) rfl rfl rfl fun zt => (Tr.alloc 2 (wn rfl) rfl zF5 fun Qg => (Tr.nil (Tr.zA (Tr.sr (Tr.va rfl (fun _ _ a c => zX (cs := [iv p0.X0, iv p0.Y0, iv p0.X1, iv p0.Y1]) zBr VE (a.ev rfl) (zO.take (rdb c (vs := [iv p0.X0, iv p0.Y0, iv p0.X1, iv p0.Y1]) (k := 1) rfl 0) 4) rfl) (Tr.store 2 (cs := [iv p0.X0, iv p0.Y0, iv p0.X1, iv p0.Y1]) [iv p0.X0, iv p0.Y0, iv p0.X1, iv p0.Y1] (wn rfl) rfl rfl rfl rfl VE rfl rfl rfl (Tr.nil (Tr.zA (Tr.ret ?_)))))))))))
 obtain rfl := oI H
 exact Tr.out (m := [.agg #[iv p0.X0, iv p0.Y0, iv p0.X1, iv p0.Y1]]) [2] (WR rfl rfl zBr VE zT) (fun W hW => ⟨rfl, hW.low leB⟩)

theorem zDr {w : Bs} (p0 : (List zJ)) (zF : Option Addr) (zG : Nat) (zP : Sl w.R w.W QD zF zG p0) (r : (List zJ)) (H : Ke p0 = some r) (hE : HF w w.W (LEn [emp])) : Calls Tryz.prog 57 [sL zF p0 zG].toArray w.W fun e W' => ∃ u : (Option Addr × Nat), e = .returned (sL u.1 r u.2) ∧ (SlF u.1 r.length u.2) ∧ HF w W' (LEn [ow u.1 u.2 43 QD r]) := by
 unfold Ke at H
 have leB := Bs.Le.refl w
 refine Tr.enter (n := 8) Tryz.func57 rfl rfl rfl hE (Tr.sr (Tr.asg rfl rfl (Tr.JY 1 43 QD ?_)))
 show Tr _ _ (uf _ 2 (sL none (([] : List zJ)) 0)) _ _
 refine Tr.nil (Tr.zA (Tr.seq (Tr.sr (Tr.mv rfl rfl (Tr.va rfl (fun _ _ a c => zH1 zEQ (a.ev rfl) (a.ev rfl)) (Tr.nil (Tr.zA ?_)))))))
 cases zF with
 | none =>
  have hl0 := zLS zP.form
  replace H : (some ([] : List zJ)) = some r := by simpa [apd, hl0] using H
  refine Tr.WX rfl rfl (Tr.sr (Tr.asg rfl rfl (Tr.JY 2 43 QD ?_)))
  show Tr _ _ (uf _ 2 (sL none (([] : List zJ)) 0)) _ _
  refine Tr.nil (Tr.zA (Tr.ret (Tr.zg ?_)))
  obtain rfl := oI H
  exact Tr.out (m := [sL none (([] : List zJ)) 0]) [] (zU rfl zT) (fun W hW => ⟨(none, 0), rfl, VR, HF.zK1 leB (hW.pick (ks := [2]) (by decide) (zR rfl zk)) ⟨zGI _ _ _ _ zJ4, trivial⟩⟩)
 | some a102 =>
  refine Tr.WY rfl rfl (Tr.skip (Tr.zA (Tr.sr (Tr.buildSlice 3 (e := 43) (vs := []) (cs := []) (wn rfl) rfl Qf (by kernel_rfl) fun zt => (Tr.mv rfl rfl (Tr.own 3 QD ([] : List zJ) (css := []) rfl .nil rfl (by decide) (zCU rfl) ?_))))))
  obtain ⟨Wq, zIt, H⟩ := bnd H
  refine Tr.zMI 3 (t := QD) (l := ([] : List zJ)) (l2 := p0) (wn rfl) rfl rfl rfl rfl (apT zJ4 (fun W hW => (Sl.inB zP hW))) zEQ JL zej (by decide) zfX rfl zIt fun zJ1 zJq hAl101 => (Tr.asg rfl rfl (Tr.nil (Tr.zA (Tr.ret ?_))))
  obtain rfl := oI H
  exact Tr.out (m := [sL zJ1 Wq zJq]) [] (zU rfl zT) (fun W hW => ⟨(zJ1, zJq), rfl, hAl101, HF.zK1 leB (hW.pick (ks := [3]) (by decide) (zR rfl zk)) ⟨zGI _ _ _ _ zJ4, trivial⟩⟩)

theorem zNU (N : Nat) (rec : (List zC) → zJ → Option (List zC)) (hrec : ∀ {w : Bs} (p0 : (List zC)) (zF : Option Addr) (zG : Nat) (zP : Sl w.O w.W zH zF zG p0) (p1 : zJ) (r : (List zC)) (H : rec p0 p1 = some r) (hE : HF w w.W (LEn [emp])), Calls Tryz.prog 65 [sL zF p0 zG, .agg #[iv p1.X, iv p1.Y]].toArray w.W fun e W' => ∃ (w' : Bs) (u : (Option Addr × Nat)), w.Le w' ∧ e = .returned (sL u.1 r u.2) ∧ (SlF u.1 r.length u.2) ∧ HF w' W' (LEn [ow u.1 u.2 46 zH r])) {w : Bs} (p0 : (List zC)) (zF : Option Addr) (zG : Nat) (zP : Sl w.O w.W zH zF zG p0) (p1 : zJ) (r : (List zC)) (H : zDS N rec p0 p1 = some r) (hE : HF w w.W (LEn [emp])) : Calls Tryz.prog 65 [sL zF p0 zG, .agg #[iv p1.X, iv p1.Y]].toArray w.W fun e W' => ∃ (w' : Bs) (u : (Option Addr × Nat)), w.Le w' ∧ e = .returned (sL u.1 r u.2) ∧ (SlF u.1 r.length u.2) ∧ HF w' W' (LEn [ow u.1 u.2 46 zH r]) := by
 unfold zDS at H
 have leB := Bs.Le.refl w
 refine Tr.enter (n := 113) Tryz.func65 rfl rfl rfl hE (Tr.sr (Tr.box 1 (cs := [iv p1.X, iv p1.Y]) (wn rfl) rfl rfl rfl fun zt => (Tr.asg rfl rfl (Tr.JY 2 46 zH ?_))))
 show Tr _ _ (uf _ 4 (sL none (([] : List zC)) 0)) _ _
 refine Tr.nil (Tr.zA (Tr.sr (Tr.asg rfl rfl (Tr.JY 3 46 zH ?_))))
 show Tr _ _ (uf _ 5 (sL none (([] : List zC)) 0)) _ _
 refine Tr.nil (Tr.zA (Tr.seq (Tr.sr (Tr.mv rfl rfl (Tr.va rfl (fun _ _ a c => zy zB8 (a.ev rfl)) (Tr.mv rfl rfl (Tr.nil (Tr.zA (Tr.block (Tr.loop (σ := (List zC) × Nat × (List zC) × (Option Addr) × Nat) (fun m w s => m = s.1.length + 1 ∧ s.1 = List.drop s.2.1 p0 ∧ s.2.1 ≤ p0.length ∧ Qj N p1 rec s.1 s.2.1 s.2.2.1 = some r ∧ SlF s.2.2.2.1 s.2.2.1.length s.2.2.2.2) (fun s => [(3, pV zt), (5, sL s.2.2.2.1 s.2.2.1 s.2.2.2.2), (11, sL zF p0 zG), (12, iv (p0.length : Int)), (13, iv (s.2.1 : Int))]) (fun s => [(1, bx zt #[iv p1.X, iv p1.Y] 43), (3, ow s.2.2.2.1 s.2.2.2.2 46 zH s.2.2.1)]) (p0.length + 1) (p0, 0, ([] : List zC), none, 0) ⟨rfl, rfl, Nat.zero_le _, H, VR⟩ (.cons rfl (.cons rfl (.cons rfl (.cons rfl (.cons rfl .nil))))) (.cons rfl (.cons rfl .nil)) (fun _ _ h => absurd h.1 (by simp)) ?_))))))))))
 intro w zIq m s hs
 obtain ⟨zAG, zGJ, zEN, zI3, zIw⟩ := s
 obtain ⟨zbB, zIu, hiL21, H, zXD⟩ := hs
 replace zIu : zAG = List.drop zGJ p0 := zIu
 replace H : Qj N p1 rec zAG zGJ zEN = some r := H
 replace zbB : m + 1 = zAG.length + 1 := zbB
 replace zP := zP.le zIq
 replace leB := leB.trans zIq
 replace zXD : SlF zI3 zEN.length zIw := zXD
 obtain rfl : m = zAG.length := by omega
 clear zbB
 dsimp only
 cases zAG with
 | nil =>
  rw [Qj.eq_1] at H
  refine Tr.sr (Tr.va rfl (fun _ _ a c => QE (a.ev rfl) (a.ev rfl)) (Tr.nil (Tr.zA (Tr.seq (Tr.WY rfl (JB zIu) (Tr.exit (Tr.zi (Tr.zi (Tr.QL (Tr.zA (Tr.sr (Tr.mv rfl rfl (Tr.asg rfl rfl (Tr.nil (Tr.zA (Tr.ret ?_))))))))))))))))
  obtain rfl := oI H
  exact Tr.out (m := [sL zI3 zEN zIw]) [] (zU rfl zT) (fun W hW => ⟨w, (zI3, zIw), leB, rfl, zXD, hW.pick (ks := [3]) (by decide) (zR rfl zk)⟩)
 | cons zw zAG =>
  rw [Qj.eq_2] at H
  refine Tr.sr (Tr.va rfl (fun _ _ a c => QE (a.ev rfl) (a.ev rfl)) (Tr.nil (Tr.zA (Tr.seq (Tr.WX rfl (JX zIu) (Tr.skip (Tr.zA (Tr.seq (Tr.block (Tr.sr ?_))))))))))
  obtain ⟨znq, hRu498, zdU, hcu498⟩ := (zP).el (Js zIu)
  obtain ⟨⟨zAg, zAe⟩, ⟨KR, KP⟩⟩ := znq
  obtain ⟨zHU, zAI⟩ := Kj.1 zdU
  replace zHU : Sl w.O w.W QD zAg zAe zw.Points := zHU
  replace zAI : Sl w.O w.W zH KR KP zw.Steps := zAI
  replace hRu498 : w.R (adB zF) := Or.inl hRu498
  refine Tr.va rfl (fun _ _ a c => zK zEC (a.ev rfl) zP.form (a.ev rfl) (Int.natCast_nonneg _) (QC zIu)) (Tr.va rfl (fun _ _ a c => zX (cs := [iv zw.Kind, sv zw.Name, iv zw.At.X, iv zw.At.Y, sL zAg zw.Points zAe, iv zw.NX, iv zw.NY, sL KR zw.Steps KP]) zGP zA2 (a.ev rfl) (zO.take (rdR hRu498 hcu498 c) 8) rfl) (Tr.alloc 46 (wn rfl) rfl zIn fun zK9 => (Tr.store 46 (cs := [iv zw.Kind, sv zw.Name, iv zw.At.X, iv zw.At.Y, sL zAg zw.Points zAe, iv zw.NX, iv zw.NY, sL KR zw.Steps KP]) [iv zw.Kind, sv zw.Name, iv zw.At.X, iv zw.At.Y, sL zAg zw.Points zAe, iv zw.NX, iv zw.NY, sL KR zw.Steps KP] (wn rfl) rfl rfl rfl rfl zA2 rfl rfl rfl (Tr.nil (Tr.zA ?_)))))
  have leJ580 := Bs.Le.refl w
  refine Tr.zJD (σ := Int × Int) (fun w s => zAV N p1 zEN (Qj N p1 rec zAG (zGJ + 1)) zw s.1 s.2 = some r) (fun s => [(3, pV zt), (5, sL zI3 zEN zIw), (7, pV zK9), (11, sL zF p0 zG), (12, iv (p0.length : Int)), (13, iv (zGJ : Int))]) (fun s => [(1, bx zt #[iv p1.X, iv p1.Y] 43), (3, ow zI3 zIw 46 zH zEN), (46, bx zK9 #[iv zw.Kind, sv zw.Name, iv s.1, iv s.2, sL zAg zw.Points zAe, iv zw.NX, iv zw.NY, sL KR zw.Steps KP] 46)]) ?_ ?_
  ·refine Tr.block (Tr.sr (Tr.va rfl (fun _ _ a c => zB zBF (a.ev rfl)) (Tr.va rfl (fun _ _ a c => zD QH (a.ev rfl) (rdb c (vs := [iv zw.Kind, sv zw.Name, iv zw.At.X, iv zw.At.Y, sL zAg zw.Points zAe, iv zw.NX, iv zw.NY, sL KR zw.Steps KP]) (k := 46) rfl 0) rfl) (Tr.va rfl (fun _ _ a c => Qa (a.ev rfl) (a.ev rfl)) (Tr.asg rfl rfl (Tr.nil (Tr.zA (Tr.cond rfl H (fun H => ?_) (fun H => ?_)))))))))
   ·refine Tr.seq (Tr.sr (Tr.va rfl (fun _ _ a c => zB zGu (a.ev rfl)) (Tr.va rfl (fun _ _ a c => zD QH (a.ev rfl) (rdb c (vs := [iv zw.Kind, sv zw.Name, iv zw.At.X, iv zw.At.Y, sL zAg zw.Points zAe, iv zw.NX, iv zw.NY, sL KR zw.Steps KP]) (k := 46) rfl 6) rfl) (Tr.mv rfl rfl (Tr.nil (Tr.zA (Tr.block (Tr.loop (σ := (List zC) × Int × (Option Addr) × Nat) (fun m w s => Ko N p1 rec (Qj N p1 rec zAG (zGJ + 1)) zw m s.1 s.2.1 = some r ∧ SlF s.2.2.1 s.1.length s.2.2.2) (fun s => [(3, pV zt), (5, sL s.2.2.1 s.1 s.2.2.2), (7, pV zK9), (11, sL zF p0 zG), (12, iv (p0.length : Int)), (13, iv (zGJ : Int)), (22, iv zw.NY), (23, iv s.2.1)]) (fun s => [(1, bx zt #[iv p1.X, iv p1.Y] 43), (3, ow s.2.2.1 s.2.2.2 46 zH s.1), (46, bx zK9 #[iv zw.Kind, sv zw.Name, iv zw.At.X, iv zw.At.Y, sL zAg zw.Points zAe, iv zw.NX, iv zw.NY, sL KR zw.Steps KP] 46)]) N (zEN, 0, zI3, zIw) ⟨H, zXD⟩ (.cons rfl (.cons rfl (.cons rfl (.cons rfl (.cons rfl (.cons rfl (.cons rfl (.cons rfl .nil)))))))) (.cons rfl (.cons rfl (.cons rfl .nil))) (fun _ _ h => zAQ (h.1)) ?_))))))))
    intro w zQo zZ9 s hs
    obtain ⟨zVX, zKU, zcg, zcC⟩ := s
    obtain ⟨H, zXC⟩ := hs
    replace H : Ko N p1 rec (Qj N p1 rec zAG (zGJ + 1)) zw (zZ9 + 1) zVX zKU = some r := H
    replace zAI := zAI.le zQo
    replace zP := zP.le zQo
    replace zIq := zIq.trans zQo
    replace zXC : SlF zcg zVX.length zcC := zXC
    rw [Ko.eq_2] at H
    dsimp only
    refine Tr.sr (Tr.va rfl (fun _ _ a c => QE (a.ev rfl) (a.ev rfl)) (Tr.nil (Tr.zA (Tr.seq (Tr.cond rfl H (fun H => ?_) (fun H => ?_))))))
    ·refine Tr.skip (Tr.zA (Tr.seq (Tr.block (Tr.sr (Tr.mv rfl rfl (Tr.asg rfl rfl (Tr.nil (Tr.zA (Tr.sr (Tr.va rfl (fun _ _ a c => zB zFm (a.ev rfl)) (Tr.va rfl (fun _ _ a c => zD QH (a.ev rfl) (rdb c (vs := [iv zw.Kind, sv zw.Name, iv zw.At.X, iv zw.At.Y, sL zAg zw.Points zAe, iv zw.NX, iv zw.NY, sL KR zw.Steps KP]) (k := 46) rfl 5) rfl) (Tr.mv rfl rfl (Tr.nil (Tr.zA (Tr.block (Tr.loop (σ := (List zC) × Int × (Option Addr) × Nat) (fun m w s => WZ p1 rec zw zKU (Ko N p1 rec (Qj N p1 rec zAG (zGJ + 1)) zw zZ9) m s.1 s.2.1 = some r ∧ SlF s.2.2.1 s.1.length s.2.2.2) (fun s => [(3, pV zt), (5, sL s.2.2.1 s.1 s.2.2.2), (7, pV zK9), (8, iv zKU), (11, sL zF p0 zG), (12, iv (p0.length : Int)), (13, iv (zGJ : Int)), (22, iv zw.NY), (23, iv zKU), (27, iv zw.NX), (28, iv s.2.1)]) (fun s => [(1, bx zt #[iv p1.X, iv p1.Y] 43), (3, ow s.2.2.1 s.2.2.2 46 zH s.1), (46, bx zK9 #[iv zw.Kind, sv zw.Name, iv zw.At.X, iv zw.At.Y, sL zAg zw.Points zAe, iv zw.NX, iv zw.NY, sL KR zw.Steps KP] 46)]) N (zVX, 0, zcg, zcC) ⟨H, zXC⟩ (.cons rfl (.cons rfl (.cons rfl (.cons rfl (.cons rfl (.cons rfl (.cons rfl (.cons rfl (.cons rfl (.cons rfl (.cons rfl .nil))))))))))) (.cons rfl (.cons rfl (.cons rfl .nil))) (fun _ _ h => zAQ (h.1)) ?_))))))))))))))))
     intro w zPG zgB s hs
     obtain ⟨zVW, zRk, zfa, zfQ⟩ := s
     obtain ⟨H, zbC⟩ := hs
     replace H : WZ p1 rec zw zKU (Ko N p1 rec (Qj N p1 rec zAG (zGJ + 1)) zw zZ9) (zgB + 1) zVW zRk = some r := H
     replace zAI := zAI.le zPG
     replace zQo := zQo.trans zPG
     replace zbC : SlF zfa zVW.length zfQ := zbC
     rw [WZ.eq_2] at H
     dsimp only
     refine Tr.sr (Tr.va rfl (fun _ _ a c => QE (a.ev rfl) (a.ev rfl)) (Tr.nil (Tr.zA (Tr.seq (Tr.cond rfl H (fun H => ?_) (fun H => ?_))))))
     ·refine Tr.skip (Tr.zA (Tr.seq (Tr.block (Tr.sr (Tr.mv rfl rfl (Tr.asg rfl rfl (Tr.nil (Tr.zA (Tr.region (Tr.mv rfl rfl (Tr.va rfl (fun _ _ a c => zB zDW (a.ev rfl)) (Tr.va rfl (fun _ _ a c => zD zCn (a.ev rfl) (rdb c (vs := [iv zw.Kind, sv zw.Name, iv zw.At.X, iv zw.At.Y, sL zAg zw.Points zAe, iv zw.NX, iv zw.NY, sL KR zw.Steps KP]) (k := 46) rfl 7) rfl) (Tr.va rfl (fun _ _ a c => zB Kq (a.ev rfl)) (Tr.va rfl (fun _ _ a c => zD QH (a.ev rfl) (rdb c (vs := [iv p1.X, iv p1.Y]) (k := 1) rfl 0) rfl) (Tr.mv rfl rfl (Tr.va rfl (fun _ _ a c => zB WK (a.ev rfl)) (Tr.va rfl (fun _ _ a c => zB Kq (a.ev rfl)) (Tr.va rfl (fun _ _ a c => zD QH (a.ev rfl) (rdb c (vs := [iv zw.Kind, sv zw.Name, iv zw.At.X, iv zw.At.Y, sL zAg zw.Points zAe, iv zw.NX, iv zw.NY, sL KR zw.Steps KP]) (k := 46) rfl 2) rfl) (Tr.va rfl (fun _ _ a c => zCT (a.ev rfl) (a.ev rfl)) (Tr.va rfl (fun _ _ a c => QA (a.ev rfl) (a.ev rfl)) (Tr.va rfl (fun _ _ a c => zB KY (a.ev rfl)) (Tr.va rfl (fun _ _ a c => zD QH (a.ev rfl) (rdb c (vs := [iv p1.X, iv p1.Y]) (k := 1) rfl 1) rfl) (Tr.mv rfl rfl (Tr.va rfl (fun _ _ a c => zB WK (a.ev rfl)) (Tr.va rfl (fun _ _ a c => zB KY (a.ev rfl)) (Tr.va rfl (fun _ _ a c => zD QH (a.ev rfl) (rdb c (vs := [iv zw.Kind, sv zw.Name, iv zw.At.X, iv zw.At.Y, sL zAg zw.Points zAe, iv zw.NX, iv zw.NY, sL KR zw.Steps KP]) (k := 46) rfl 3) rfl) (Tr.va rfl (fun _ _ a c => zCT (a.ev rfl) (a.ev rfl)) (Tr.va rfl (fun _ _ a c => QA (a.ev rfl) (a.ev rfl)) (Tr.build (vs := [(0, iv (w64 (p1.X + (w64 (zRk * zw.At.X))))), (1, iv (w64 (p1.Y + (w64 (zKU * zw.At.Y)))))]) (cs := [iv (w64 (p1.X + (w64 (zRk * zw.At.X)))), iv (w64 (p1.Y + (w64 (zKU * zw.At.Y))))]) (wn rfl) rfl (zl rfl (zl rfl Qf)) (by kernel_rfl) ?_)))))))))))))))))))))))))))))
      obtain ⟨zSv, zkS, H⟩ := bnd H
      refine Tr.VW [66] [emp] (U := (Option Addr × Nat)) (fun u => (sL u.1 zSv u.2)) (fun O W u => SlF u.1 zSv.length u.2) (fun u => [ow u.1 u.2 46 zH zSv]) rfl (zR rfl zk) (fun _ => rfl) (wn rfl) rfl Tryz.call65 (zI rfl (zI rfl zS)) (fun W hW hp hE => hrec zw.Steps KR KP (zAI.zAS (hW.JH hp)) (zJ.mk (w64 (p1.X + (w64 (zRk * zw.At.X)))) (w64 (p1.Y + (w64 (zKU * zw.At.Y))))) zSv zkS hE) ?_
      intro w u zj9 hu
      obtain ⟨zeZ, zeF⟩ := u
      have gy686_0 := hu
      replace zPG := zPG.trans zj9
      have zmJ : SlF zeZ zSv.length zeF := gy686_0 --@phi
      dsimp only
      refine Tr.freeze 66 rfl fun w zj8 zkL => ?_
      replace zPG := zPG.trans zj8
      obtain ⟨zgE, zl5, H⟩ := bnd H
      exact Tr.zMI 3 (t := zH) (l := zVW) (l2 := zSv) (wn rfl) rfl rfl rfl rfl (apO zkL) zB8 zA2 zZJ (by decide) zcK rfl zl5 fun znB zmr hAl690 => (Tr.asg rfl rfl (Tr.nil (Tr.zh (Tr.zA (Tr.region (Tr.va rfl (fun _ _ a c => QA (a.ev rfl) (a.ev rfl)) (Tr.mv rfl rfl (Tr.nil (Tr.zf zPG (zgE, (w64 (zRk + 1)), znB, zmr) ⟨H, hAl690⟩ (.cons rfl (.cons rfl (.cons rfl (.cons rfl (.cons rfl (.cons rfl (.cons rfl (.cons rfl (.cons rfl (.cons rfl (.cons rfl .nil))))))))))) (.cons rfl (.cons rfl (.cons rfl .nil))))))))))))
     ·exact Tr.exit (Tr.zi (Tr.zi (Tr.QL (Tr.zh (Tr.zA (Tr.region (Tr.va rfl (fun _ _ a c => QA (a.ev rfl) (a.ev rfl)) (Tr.mv rfl rfl (Tr.nil (Tr.zf zQo (zVW, (w64 (zKU + 1)), zfa, zfQ) ⟨H, zbC⟩ (.cons rfl (.cons rfl (.cons rfl (.cons rfl (.cons rfl (.cons rfl (.cons rfl (.cons rfl .nil)))))))) (.cons rfl (.cons rfl (.cons rfl .nil)))))))))))))
    ·exact Tr.exit (Tr.zi (Tr.zi (Tr.QL (Tr.zA (Tr.exit (Tr.zb4 rfl (Tr.zi (Tr.QL (Tr.zA (Tr.region (Tr.va rfl (fun _ _ a c => QA (a.ev rfl) (a.ev rfl)) (Tr.mv rfl rfl (Tr.nil (Tr.zf zIq (zAG, (zGJ + 1), zVX, zcg, zcC) ⟨rfl, Ql zIu, QC zIu, H, zXC⟩ (.cons rfl (.cons rfl (.cons rfl (.cons rfl (.cons (congrArg (fun z => some (Value.int .i64 z)) (Qk zIu zP.form)) .nil))))) (.cons rfl (.cons rfl .nil))))))))))))))))
   ·refine Tr.sr (Tr.va rfl (fun _ _ a c => zB zBF (a.ev rfl)) (Tr.va rfl (fun _ _ a c => zD QH (a.ev rfl) (rdb c (vs := [iv zw.Kind, sv zw.Name, iv zw.At.X, iv zw.At.Y, sL zAg zw.Points zAe, iv zw.NX, iv zw.NY, sL KR zw.Steps KP]) (k := 46) rfl 0) rfl) ?_))
    obtain ⟨zUy, zkR, H⟩ := bnd H
    refine Tr.Qs (r := (.agg #[bV zUy.name, bV zUy.at_, bV zUy.points, bV zUy.repeat_])) (wn rfl) rfl Tryz.call93 (zI rfl zS) (fun W hW => zGX zw.Kind zUy zkR (HF.start _)) (Tr.va rfl (fun _ _ a c => zVO zb2 zNR (a.ev rfl) rfl) (Tr.asg rfl rfl (Tr.nil (Tr.zA (Tr.cond rfl H (fun H => ?_) (fun H => ?_))))))
    ·exact Tr.region (Tr.va rfl (fun _ _ a c => zB WK (a.ev rfl)) (Tr.va rfl (fun _ _ a c => zB Kq (a.ev rfl)) (Tr.va rfl (fun _ _ a c => zD QH (a.ev rfl) (rdb c (vs := [iv zw.Kind, sv zw.Name, iv zw.At.X, iv zw.At.Y, sL zAg zw.Points zAe, iv zw.NX, iv zw.NY, sL KR zw.Steps KP]) (k := 46) rfl 2) rfl) (Tr.va rfl (fun _ _ a c => zB Kq (a.ev rfl)) (Tr.va rfl (fun _ _ a c => zD QH (a.ev rfl) (rdb c (vs := [iv p1.X, iv p1.Y]) (k := 1) rfl 0) rfl) (Tr.va rfl (fun _ _ a c => QA (a.ev rfl) (a.ev rfl)) (Tr.va rfl (fun _ _ a c => zB WK (a.ev rfl)) (Tr.va rfl (fun _ _ a c => zB KY (a.ev rfl)) (Tr.va rfl (fun _ _ a c => zD QH (a.ev rfl) (rdb c (vs := [iv zw.Kind, sv zw.Name, iv zw.At.X, iv zw.At.Y, sL zAg zw.Points zAe, iv zw.NX, iv zw.NY, sL KR zw.Steps KP]) (k := 46) rfl 3) rfl) (Tr.va rfl (fun _ _ a c => zB KY (a.ev rfl)) (Tr.va rfl (fun _ _ a c => zD QH (a.ev rfl) (rdb c (vs := [iv p1.X, iv p1.Y]) (k := 1) rfl 1) rfl) (Tr.va rfl (fun _ _ a c => QA (a.ev rfl) (a.ev rfl)) (Tr.build (vs := [(0, iv (w64 (zw.At.X + p1.X))), (1, iv (w64 (zw.At.Y + p1.Y)))]) (cs := [iv (w64 (zw.At.X + p1.X)), iv (w64 (zw.At.Y + p1.Y))]) (wn rfl) rfl (zl rfl (zl rfl Qf)) (by kernel_rfl) (Tr.va rfl (fun _ _ a c => zB WK (a.ev rfl)) (Tr.store 46 (cs := [iv (w64 (zw.At.X + p1.X)), iv (w64 (zw.At.Y + p1.Y))]) [iv zw.Kind, sv zw.Name, iv (w64 (zw.At.X + p1.X)), iv (w64 (zw.At.Y + p1.Y)), sL zAg zw.Points zAe, iv zw.NX, iv zw.NY, sL KR zw.Steps KP] (wn rfl) rfl rfl rfl rfl JL rfl rfl rfl (Tr.nil (Tr.zh (Tr.zf leJ580 ((w64 (zw.At.X + p1.X)), (w64 (zw.At.Y + p1.Y))) H (.cons rfl (.cons rfl (.cons rfl (.cons rfl (.cons rfl (.cons rfl .nil)))))) (.cons rfl (.cons rfl (.cons rfl .nil)))))))))))))))))))))
    ·exact Tr.skip (Tr.zh (Tr.zf leJ580 (zw.At.X, zw.At.Y) H (.cons rfl (.cons rfl (.cons rfl (.cons rfl (.cons rfl (.cons rfl .nil)))))) (.cons rfl (.cons rfl (.cons rfl .nil)))))
  ·intro w s hlJ581 hs
   obtain ⟨zF7, zF6⟩ := s
   have H := hs
   replace H : zAV N p1 zEN (Qj N p1 rec zAG (zGJ + 1)) zw zF7 zF6 = some r := H
   replace zHU := zHU.le hlJ581
   replace zAI := zAI.le hlJ581
   replace zP := zP.le hlJ581
   replace zIq := zIq.trans hlJ581
   unfold zAV at H
   dsimp only
   refine Tr.sr (Tr.va rfl (fun _ _ a c => zB zAu (a.ev rfl)) (Tr.va rfl (fun _ _ a c => zD zFI (a.ev rfl) (rdb c (vs := [iv zw.Kind, sv zw.Name, iv zF7, iv zF6, sL zAg zw.Points zAe, iv zw.NX, iv zw.NY, sL KR zw.Steps KP]) (k := 46) rfl 4) rfl) ?_))
   obtain ⟨zGa, zkT, H⟩ := bnd H
   refine Tr.WB [56] [emp] (U := (Option Addr × Nat)) (fun u => (sL u.1 zGa u.2)) (fun u => SlF u.1 zGa.length u.2) (fun u => [ow u.1 u.2 43 QD zGa]) rfl (zR rfl zk) (fun _ => rfl) (wn rfl) rfl Tryz.call57 (zI rfl zS) (fun W hW hp hE => zDr zw.Points zAg zAe (zHU.rl.ext (hW.JH hp)) zGa zkT hE) ?_
   intro u hu
   obtain ⟨zMS, zL7⟩ := u
   have gy582_0 := hu
   have zbP : SlF zMS zGa.length zL7 := gy582_0 --@phi
   dsimp only
   refine Tr.va rfl (fun _ _ a c => zB zAu (a.ev rfl)) (Tr.store 46 (cs := [sL zMS zGa zL7]) [iv zw.Kind, sv zw.Name, iv zF7, iv zF6, sL zMS zGa zL7, iv zw.NX, iv zw.NY, sL KR zw.Steps KP] (wn rfl) rfl rfl rfl rfl zen rfl rfl rfl (Tr.nil (Tr.zA (Tr.seq (Tr.sr (Tr.va rfl (fun _ _ a c => zB zAu (a.ev rfl)) (Tr.va rfl (fun _ _ a c => zD zFI (a.ev rfl) (rdb c (vs := [iv zw.Kind, sv zw.Name, iv zF7, iv zF6, sL zMS zGa zL7, iv zw.NX, iv zw.NY, sL KR zw.Steps KP]) (k := 46) rfl 4) rfl) (Tr.va rfl (fun _ _ a c => zy zEQ (a.ev rfl)) (Tr.mv rfl rfl (Tr.nil (Tr.zA (Tr.block (Tr.loop (σ := (List zJ) × Int × (Option Addr) × Nat) (fun m w s => Wd p1 zEN (Qj N p1 rec zAG (zGJ + 1)) zw zF7 zF6 zGa m s.1 s.2.1 = some r ∧ SlF s.2.2.1 s.1.length s.2.2.2) (fun s => [(3, pV zt), (5, sL zI3 zEN zIw), (7, pV zK9), (11, sL zF p0 zG), (12, iv (p0.length : Int)), (13, iv (zGJ : Int)), (80, iv (zGa.length : Int)), (81, iv s.2.1)]) (fun s => [(1, bx zt #[iv p1.X, iv p1.Y] 43), (3, ow zI3 zIw 46 zH zEN), (46, bx zK9 #[iv zw.Kind, sv zw.Name, iv zF7, iv zF6, sL s.2.2.1 s.1 s.2.2.2, iv zw.NX, iv zw.NY, sL KR zw.Steps KP] 46), (56, ow s.2.2.1 s.2.2.2 43 QD s.1)]) N (zGa, 0, zMS, zL7) ⟨H, zbP⟩ (.cons rfl (.cons rfl (.cons rfl (.cons rfl (.cons rfl (.cons rfl (.cons rfl (.cons rfl .nil)))))))) (.cons rfl (.cons rfl (.cons rfl (.cons rfl .nil)))) (fun _ _ h => zAQ (h.1)) ?_)))))))))))))
   intro w zW2 zgC s hs
   obtain ⟨zKa, zFh, zDu, zDp⟩ := s
   obtain ⟨H, zT2⟩ := hs
   replace H : Wd p1 zEN (Qj N p1 rec zAG (zGJ + 1)) zw zF7 zF6 zGa (zgC + 1) zKa zFh = some r := H
   replace zAI := zAI.le zW2
   replace zP := zP.le zW2
   replace zIq := zIq.trans zW2
   replace zT2 : SlF zDu zKa.length zDp := zT2
   rw [Wd.eq_2] at H
   dsimp only
   refine Tr.sr (Tr.va rfl (fun _ _ a c => QE (a.ev rfl) (a.ev rfl)) (Tr.nil (Tr.zA (Tr.seq (Tr.cond rfl H (fun H => ?_) (fun H => ?_))))))
   ·refine Tr.skip (Tr.zA (Tr.seq (Tr.block (Tr.sr (Tr.mv rfl rfl (Tr.asg rfl rfl (Tr.nil (Tr.zA (Tr.seq (Tr.Wj 8 (by kernel_rfl) (by kernel_rfl) (Tq.va rfl (fun _ _ a c => zB zAu (a.ev rfl)) (Tq.va rfl (fun _ _ a c => zD zFI (a.ev rfl) (rdb c (vs := [iv zw.Kind, sv zw.Name, iv zF7, iv zF6, sL zDu zKa zDp, iv zw.NX, iv zw.NY, sL KR zw.Steps KP]) (k := 46) rfl 4) rfl) (Tq.mv rfl rfl ?_)))))))))))))
    obtain ⟨zS0, zlI, H⟩ := bnd H
    obtain ⟨zgm, zgl, zgk⟩ := zx zlI
    refine Tq.va rfl (fun _ _ a c => zK zGN (a.ev rfl) zT2 (a.ev rfl) zgm zgl) (Tq.va rfl (fun _ _ a c => zB Kq (a.ev rfl)) (Tq.va rfl (fun _ _ a c => zD QH (a.ev rfl) (zO.drop (rdo zAj (k := 56) c rfl zgk) 0) rfl) (Tq.va rfl (fun _ _ a c => zB Kq (a.ev rfl)) (Tq.va rfl (fun _ _ a c => zD QH (a.ev rfl) (rdb c (vs := [iv p1.X, iv p1.Y]) (k := 1) rfl 0) rfl) (Tq.nil (Tr.va rfl (fun _ _ a c => QA (a.ev rfl) (a.ev rfl)) ?_))))))
    obtain ⟨zfj, zlH, H⟩ := bnd H
    obtain ⟨zgj, zgi, zgh⟩ := zx zlH
    refine Tr.va rfl (fun _ _ a c => zK zGN (a.ev rfl) zT2 (a.ev rfl) zgj zgi) (Tr.va rfl (fun _ _ a c => zB Kq (a.ev rfl)) ?_)
    obtain ⟨zQS, ze9, H⟩ := bnd H
    have zWG := zD5 ze9
    refine Tr.zEm 56 (t := QD) (l := zKa) (i := zFh) (fo := 0) (cs := [iv (w64 (zS0.X + p1.X))]) (zJ.mk (w64 (zS0.X + p1.X)) zfj.Y) (wn rfl) rfl rfl rfl rfl rfl zgh zJB rfl (fun u _ => ⟨u, trivial, rfl⟩) rfl ze9 ?_
    have zWH : SlF zDu zQS.length zDp := by rw [zWG]; exact zT2
    refine Tr.sel (lf := [(3, pV zt), (5, sL zI3 zEN zIw), (7, pV zK9), (10, iv zFh), (11, sL zF p0 zG), (12, iv (p0.length : Int)), (13, iv (zGJ : Int)), (80, iv (zGa.length : Int)), (81, iv zFh), (82, bV (decide (zFh < (zGa.length : Int)))), (83, iv zFh), (84, .pointer (some ⟨zK9, 4, none⟩)), (85, sL zDu zQS zDp), (86, iv zFh), (89, iv zS0.X), (90, pV zt), (91, iv p1.X), (92, iv (w64 (zS0.X + p1.X)))]) (le := [(1, bx zt #[iv p1.X, iv p1.Y] 43), (3, ow zI3 zIw 46 zH zEN), (46, bx zK9 #[iv zw.Kind, sv zw.Name, iv zF7, iv zF6, sL zDu zQS zDp, iv zw.NX, iv zw.NY, sL KR zw.Steps KP] 46), (56, ow zDu zDp 43 QD zQS)]) (.cons rfl (.cons rfl (.cons rfl (.cons rfl (.cons rfl (.cons rfl (.cons rfl (.cons rfl (.cons rfl (.cons rfl (.cons rfl (.cons rfl (.cons (KM rfl (by unfold sL; rw [zWG])) (.cons rfl (.cons rfl (.cons rfl (.cons rfl (.cons rfl .nil)))))))))))))))))) (.cons rfl (.cons rfl (.cons (ebx rfl (by unfold sL; rw [zWG])) (.cons rfl .nil)))) (Tr.nil (Tr.zA (Tr.Wj 8 (by kernel_rfl) (by kernel_rfl) (Tq.va rfl (fun _ _ a c => zB zAu (a.ev rfl)) (Tq.va rfl (fun _ _ a c => zD zFI (a.ev rfl) (rdb c (vs := [iv zw.Kind, sv zw.Name, iv zF7, iv zF6, sL zDu zQS zDp, iv zw.NX, iv zw.NY, sL KR zw.Steps KP]) (k := 46) rfl 4) rfl) (Tq.mv rfl rfl ?_))))))
    obtain ⟨zYT, zlG, H⟩ := bnd H
    obtain ⟨zgg, zgf, zge⟩ := zx zlG
    refine Tq.va rfl (fun _ _ a c => zK zGN (a.ev rfl) zWH (a.ev rfl) zgg zgf) (Tq.va rfl (fun _ _ a c => zB KY (a.ev rfl)) (Tq.va rfl (fun _ _ a c => zD QH (a.ev rfl) (zO.drop (rdo zAj (k := 56) c rfl zge) 1) rfl) (Tq.va rfl (fun _ _ a c => zB KY (a.ev rfl)) (Tq.va rfl (fun _ _ a c => zD QH (a.ev rfl) (rdb c (vs := [iv p1.X, iv p1.Y]) (k := 1) rfl 1) rfl) (Tq.nil (Tr.va rfl (fun _ _ a c => QA (a.ev rfl) (a.ev rfl)) ?_))))))
    obtain ⟨zfi, zlF, H⟩ := bnd H
    obtain ⟨zgd, zgc, zgb⟩ := zx zlF
    refine Tr.va rfl (fun _ _ a c => zK zGN (a.ev rfl) zWH (a.ev rfl) zgd zgc) (Tr.va rfl (fun _ _ a c => zB KY (a.ev rfl)) ?_)
    obtain ⟨zTf, ze8, H⟩ := bnd H
    have zSH := zD5 ze8
    refine Tr.zEm 56 (t := QD) (l := zQS) (i := zFh) (fo := 1) (cs := [iv (w64 (zYT.Y + p1.Y))]) (zJ.mk zfi.X (w64 (zYT.Y + p1.Y))) (wn rfl) rfl rfl rfl rfl rfl zgb zJB rfl (fun u _ => ⟨u, trivial, rfl⟩) rfl ze8 ?_
    have zio : SlF zDu zTf.length zDp := by rw [zSH]; exact zWH
    exact Tr.sel (lf := [(3, pV zt), (5, sL zI3 zEN zIw), (7, pV zK9), (10, iv zFh), (11, sL zF p0 zG), (12, iv (p0.length : Int)), (13, iv (zGJ : Int)), (80, iv (zGa.length : Int)), (81, iv zFh), (82, bV (decide (zFh < (zGa.length : Int)))), (83, iv zFh), (84, .pointer (some ⟨zK9, 4, none⟩)), (85, sL zDu zTf zDp), (86, iv zFh), (89, iv zS0.X), (90, pV zt), (91, iv p1.X), (92, iv (w64 (zS0.X + p1.X))), (95, .pointer (some ⟨zK9, 4, none⟩)), (96, sL zDu zTf zDp), (97, iv zFh), (100, iv zYT.Y), (101, .pointer (some ⟨zt, 1, none⟩)), (102, iv p1.Y), (103, iv (w64 (zYT.Y + p1.Y)))]) (le := [(1, bx zt #[iv p1.X, iv p1.Y] 43), (3, ow zI3 zIw 46 zH zEN), (46, bx zK9 #[iv zw.Kind, sv zw.Name, iv zF7, iv zF6, sL zDu zTf zDp, iv zw.NX, iv zw.NY, sL KR zw.Steps KP] 46), (56, ow zDu zDp 43 QD zTf)]) (.cons rfl (.cons rfl (.cons rfl (.cons rfl (.cons rfl (.cons rfl (.cons rfl (.cons rfl (.cons rfl (.cons rfl (.cons rfl (.cons rfl (.cons (KM rfl (by unfold sL; rw [zSH])) (.cons rfl (.cons rfl (.cons rfl (.cons rfl (.cons rfl (.cons rfl (.cons (KM rfl (by unfold sL; rw [zSH])) (.cons rfl (.cons rfl (.cons rfl (.cons rfl (.cons rfl .nil))))))))))))))))))))))))) (.cons rfl (.cons rfl (.cons (ebx rfl (by unfold sL; rw [zSH])) (.cons rfl .nil)))) (Tr.nil (Tr.zh (Tr.zA (Tr.region (Tr.va rfl (fun _ _ a c => QA (a.ev rfl) (a.ev rfl)) (Tr.mv rfl rfl (Tr.nil (Tr.zf zW2 (zTf, (w64 (zFh + 1)), zDu, zDp) ⟨H, zio⟩ (.cons rfl (.cons rfl (.cons rfl (.cons rfl (.cons rfl (.cons rfl (.cons rfl (.cons rfl .nil)))))))) (.cons rfl (.cons rfl (.cons rfl (.cons rfl .nil))))))))))))
   ·refine Tr.exit (Tr.zi (Tr.zi (Tr.QL (Tr.zA (Tr.region (Tr.mv rfl rfl (Tr.va rfl (fun _ _ a c => zX (cs := [iv zw.Kind, sv zw.Name, iv zF7, iv zF6, sL zDu zKa zDp, iv zw.NX, iv zw.NY, sL KR zw.Steps KP]) zGP zA2 (a.ev rfl) (zO.take (rdb c (vs := [iv zw.Kind, sv zw.Name, iv zF7, iv zF6, sL zDu zKa zDp, iv zw.NX, iv zw.NY, sL KR zw.Steps KP]) (k := 46) rfl 0) 8) rfl) (Tr.freeze 56 rfl fun w zaM zkM => ?_))))))))
    replace zAI := zAI.le zaM
    replace zP := zP.le zaM
    replace zIq := zIq.trans zaM
    refine Tr.buildSlice 57 (e := 46) (vs := [(0, .agg #[iv zw.Kind, sv zw.Name, iv zF7, iv zF6, sL zDu zKa zDp, iv zw.NX, iv zw.NY, sL KR zw.Steps KP])]) (cs := [iv zw.Kind, sv zw.Name, iv zF7, iv zF6, sL zDu zKa zDp, iv zw.NX, iv zw.NY, sL KR zw.Steps KP]) (wn rfl) rfl (zl rfl Qf) (by kernel_rfl) fun zoo => ?_
    obtain ⟨zgF, zl6, H⟩ := bnd H
    exact Tr.append 3 (t := zH) (l := zEN) (l2 := [(zC.mk zw.Kind zw.Name (zJ.mk zF7 zF6) zKa zw.NX zw.NY zw.Steps)]) (wn rfl) rfl rfl rfl rfl (fun W hW => ⟨[[iv zw.Kind, sv zw.Name, iv zF7, iv zF6, sL zDu zKa zDp, iv zw.NX, iv zw.NY, sL KR zw.Steps KP]], (.cons ⟨((zDu, zDp), (KR, KP)), (Kj.2 ⟨zkM, zAI⟩), rfl⟩ .nil), rdb hW (vs := [iv zw.Kind, sv zw.Name, iv zF7, iv zF6, sL zDu zKa zDp, iv zw.NX, iv zw.NY, sL KR zw.Steps KP]) (k := 57) rfl 0⟩) zB8 zA2 zZJ (by decide) zcK rfl zl6 fun znC zms hAl613 => (Tr.asg rfl rfl (Tr.nil (Tr.zh (Tr.zA (Tr.region (Tr.va rfl (fun _ _ a c => QA (a.ev rfl) (a.ev rfl)) (Tr.mv rfl rfl (Tr.nil (Tr.zf zIq (zAG, (zGJ + 1), zgF, znC, zms) ⟨rfl, Ql zIu, QC zIu, H, hAl613⟩ (.cons rfl (.cons rfl (.cons rfl (.cons rfl (.cons (congrArg (fun z => some (Value.int .i64 z)) (Qk zIu zP.form)) .nil))))) (.cons rfl (.cons rfl .nil)))))))))))
theorem zJ0 : ∀ (N : Nat) {w : Bs} (p0 : (List zC)) (zF : Option Addr) (zG : Nat) (zP : Sl w.O w.W zH zF zG p0) (p1 : zJ) (r : (List zC)) (H : zDt N p0 p1 = some r) (hE : HF w w.W (LEn [emp])), Calls Tryz.prog 65 [sL zF p0 zG, .agg #[iv p1.X, iv p1.Y]].toArray w.W fun e W' => ∃ (w' : Bs) (u : (Option Addr × Nat)), w.Le w' ∧ e = .returned (sL u.1 r u.2) ∧ (SlF u.1 r.length u.2) ∧ HF w' W' (LEn [ow u.1 u.2 46 zH r])
 | 0 => by intros; rename_i H _; cases H
 | N + 1 => zNU N (zDt N) (zJ0 N)

theorem zLI (N : Nat) {w : Bs} (p0 : QB) (zF : Option Addr) (zG : Nat) (zP : Sl w.O w.W zN zF zG p0.Tools) (zM : Option Addr) (zL : Nat) (QW : Sl w.O w.W zH zM zL p0.Steps) (r : QB) (H : zDc N p0 = some r) (hE : HF w w.W (LEn [emp, emp])) : Calls Tryz.prog 37 [.agg #[iv p0.Unit, sL zF p0.Tools zG, sL zM p0.Steps zL]].toArray w.W fun e W' => ∃ (w' : Bs) (u : (Option Addr × Nat) × (Option Addr × Nat)), w.Le w' ∧ e = .returned (.agg #[iv r.Unit, sL u.1.1 r.Tools u.1.2, sL u.2.1 r.Steps u.2.2]) ∧ (SlF u.1.1 r.Tools.length u.1.2 ∧ SlF u.2.1 r.Steps.length u.2.2) ∧ HF w' W' (LEn [ow u.1.1 u.1.2 64 zN r.Tools, ow u.2.1 u.2.2 46 zH r.Steps]) := by
 unfold zDc at H
 have leB := Bs.Le.refl w
 refine Tr.enter (n := 13) Tryz.func37 rfl rfl rfl hE (Tr.sr (Tr.box 1 (cs := [iv p0.Unit, sL zF p0.Tools zG, sL zM p0.Steps zL]) (wn rfl) rfl rfl rfl fun zt => (Tr.alloc 2 (wn rfl) rfl zLK fun Qg => (Tr.nil (Tr.zA (Tr.seq (Tr.zPp 9 [] [] (by kernel_rfl) (by kernel_rfl) fun zoh zl4 znS => (Dr.quiet 0 [(3, pV zt)] (by kernel_rfl) rfl rfl (by kernel_rfl) ?_ rfl rfl ?_))))))))
 ·exact Tq.va rfl (fun _ _ a c => zB zBH (a.ev rfl)) (Tq.fin (.cons rfl .nil))
 refine Dr.quiet 1 [(4, iv p0.Unit)] (by kernel_rfl) rfl rfl (by kernel_rfl) ?_ rfl rfl ?_
 ·exact Tq.va rfl (fun _ _ a c => zD QH (a.ev rfl) (rdb c (vs := [iv p0.Unit, sL zF p0.Tools zG, sL zM p0.Steps zL]) (k := 1) rfl 0) rfl) (Tq.fin (.cons rfl .nil))
 refine Dr.quiet 2 [(5, .pointer (some ⟨zt, 1, none⟩))] (by kernel_rfl) rfl rfl (by kernel_rfl) ?_ rfl rfl ?_
 ·exact Tq.va rfl (fun _ _ a c => zB zBy (a.ev rfl)) (Tq.fin (.cons rfl .nil))
 refine Dr.quiet 3 [(6, sL zF p0.Tools zG)] (by kernel_rfl) rfl rfl (by kernel_rfl) ?_ rfl rfl ?_
 ·exact Tq.va rfl (fun _ _ a c => zD zGQ (a.ev rfl) (rdb c (vs := [iv p0.Unit, sL zF p0.Tools zG, sL zM p0.Steps zL]) (k := 1) rfl 1) rfl) (Tq.fin (.cons rfl .nil))
 refine Dr.quiet 5 [(8, .pointer (some ⟨zt, 2, none⟩))] (by kernel_rfl) rfl rfl (by kernel_rfl) ?_ rfl rfl ?_
 ·exact Tq.va rfl (fun _ _ a c => zB zC3 (a.ev rfl)) (Tq.fin (.cons rfl .nil))
 refine Dr.quiet 6 [(9, sL zM p0.Steps zL)] (by kernel_rfl) rfl rfl (by kernel_rfl) ?_ rfl rfl ?_
 ·exact Tq.va rfl (fun _ _ a c => zD zCn (a.ev rfl) (rdb c (vs := [iv p0.Unit, sL zF p0.Tools zG, sL zM p0.Steps zL]) (k := 1) rfl 2) rfl) (Tq.fin (.cons rfl .nil))
 refine Dr.quiet 7 [(10, .agg #[iv 0, iv 0])] (by kernel_rfl) rfl rfl (by kernel_rfl) ?_ rfl rfl ?_
 ·exact Tq.build (vs := []) (cs := [iv 0, iv 0]) (wn rfl) rfl Qf (by kernel_rfl) (Tq.fin (.cons rfl .nil))
 obtain ⟨zm, zCi, H⟩ := bnd H
 refine Dr.one 4 (by kernel_rfl) (St.VW 4 [3] [emp] (U := (Option Addr × Nat)) (fun u => (sL u.1 zm u.2)) (fun O W u => SlF u.1 zm.length u.2) (fun u => [ow u.1 u.2 64 zN zm]) rfl (zR rfl zk) (fun _ => rfl) (zLn rfl) rfl (wn rfl) rfl Tryz.call63 (zI rfl (zI rfl zS)) (fun W hW hp hE => zLG N p0.Tools zF zG (zP.zAS (hW.JH hp)) (fun z0 => zDT z0) 64 [] Tryz.call64 (fun w' he z0 y hy => zNV z0 y hy (HF.start _)) zm zCi hE) ?_)
 intro w u zKf hu zoQ
 obtain ⟨Kb, KZ⟩ := u
 have gy103_0 := hu
 replace QW := QW.le zKf
 replace leB := leB.trans zKf
 have zFD : SlF Kb zm.length KZ := gy103_0
 dsimp only
 obtain ⟨zCy, zPQ, H⟩ := bnd H
 refine Dr.one 8 (by kernel_rfl) (St.VW 8 [4] [emp] (U := (Option Addr × Nat)) (fun u => (sL u.1 zCy u.2)) (fun O W u => SlF u.1 zCy.length u.2) (fun u => [ow u.1 u.2 46 zH zCy]) rfl (zR rfl zk) (fun _ => rfl) (zLn rfl) rfl (wn rfl) rfl Tryz.call65 (zI rfl (zI rfl zS)) (fun W hW hp hE => zJ0 N p0.Steps zM zL (QW.zAS (hW.JH hp)) (zJ.mk 0 0) zCy zPQ hE) ?_)
 intro w u zaR hu zoP
 obtain ⟨zIf, zIJ⟩ := u
 have gy105_0 := hu
 replace leB := leB.trans zaR
 have zbk : SlF zIf zCy.length zIJ := gy105_0
 dsimp only
 refine Dr.tail (by kernel_rfl) (Tr.build (vs := [(0, iv p0.Unit), (1, sL Kb zm KZ), (2, sL zIf zCy zIJ)]) (cs := [iv p0.Unit, sL Kb zm KZ, sL zIf zCy zIJ]) (wn rfl) rfl (zl rfl (zl rfl (zl rfl Qf))) (by kernel_rfl) (Tr.store 2 (cs := [iv p0.Unit, sL Kb zm KZ, sL zIf zCy zIJ]) [iv p0.Unit, sL Kb zm KZ, sL zIf zCy zIJ] (wn rfl) rfl rfl rfl rfl VQ rfl rfl rfl (Tr.nil (Tr.zA (Tr.ret ?_)))))
 obtain rfl := oI H
 exact Tr.out (m := [.agg #[iv p0.Unit, sL Kb zm KZ, sL zIf zCy zIJ]]) [2] (WR rfl rfl zAJ VQ zT) (fun W hW => ⟨w, ((Kb, KZ), (zIf, zIJ)), leB, rfl, ⟨zFD, zbk⟩, hW.pick (ks := [3, 4]) (by decide) (zR rfl (zR rfl zk))⟩)

theorem zP5 (N : Nat) {w : Bs} (p0 : QB) (zF : Option Addr) (zG : Nat) (zP : Sl w.O w.W zN zF zG p0.Tools) (zM : Option Addr) (zL : Nat) (QW : Sl w.O w.W zH zM zL p0.Steps) (r : (QB × Int)) (H : zG3 N p0 = some r) (hE : HF w w.W (LEn [])) : Calls Tryz.prog 24 [.agg #[iv p0.Unit, sL zF p0.Tools zG, sL zM p0.Steps zL]].toArray w.W fun e W' => ∃ (w' : Bs) (u : (Option Addr × Nat) × (Option Addr × Nat)), w.Le w' ∧ e = .returned (.tuple #[.agg #[iv r.1.Unit, sL u.1.1 r.1.Tools u.1.2, sL u.2.1 r.1.Steps u.2.2], iv r.2]) ∧ (Sl w'.O w'.W zN u.1.1 u.1.2 r.1.Tools ∧ Sl w'.O w'.W zH u.2.1 u.2.2 r.1.Steps) ∧ HF w' W' (LEn []) := by
 unfold zG3 at H
 have leB := Bs.Le.refl w
 refine Tr.enter (n := 12) Tryz.func24 rfl rfl rfl hE (Tr.sr (Tr.box 1 (cs := [iv p0.Unit, sL zF p0.Tools zG, sL zM p0.Steps zL]) (wn rfl) rfl rfl rfl fun zt => (Tr.alloc 2 (wn rfl) rfl zLK fun Qg => (Tr.asg rfl rfl (Tr.nil (Tr.zA (Tr.seq (Tr.sr (Tr.va rfl (fun _ _ a c => zX (cs := [iv p0.Unit, sL zF p0.Tools zG, sL zM p0.Steps zL]) zAJ VQ (a.ev rfl) (zO.take (rdb c (vs := [iv p0.Unit, sL zF p0.Tools zG, sL zM p0.Steps zL]) (k := 1) rfl 0) 3) rfl) ?_)))))))))
 obtain ⟨y102, hy102, H⟩ := bnd H
 refine Tr.Qs (r := (iv y102)) (wn rfl) rfl Tryz.call21 (zI rfl zS) (fun W hW => zAa N p0 zF zG (zP.rl.ext hW.Qd) zM zL (QW.rl.ext hW.Qd) y102 hy102 (HF.start _)) (Tr.asg rfl rfl (Tr.nil (Tr.zA (Tr.sr (Tr.mv rfl rfl (Tr.va rfl (fun _ _ a c => Jt (a.ev rfl) (a.ev rfl)) (Tr.nil (Tr.zA (Tr.cond rfl H (fun H => ?_) (fun H => ?_))))))))))
 ·refine Tr.sr (Tr.build (vs := []) (cs := [iv 0, .slice none 0 0, .slice none 0 0]) (wn rfl) rfl Qf (by kernel_rfl) (Tr.mv rfl rfl (Tr.store 2 (cs := [iv 0, .slice none 0 0, .slice none 0 0]) [iv 0, .slice none 0 0, .slice none 0 0] (wn rfl) rfl rfl rfl rfl VQ rfl rfl rfl (Tr.asg rfl rfl (Tr.nil (Tr.zA (Tr.ret (Tr.zg ?_))))))))
  obtain rfl := oI H
  exact Tr.out (m := [.agg #[iv 0, .slice none 0 0, .slice none 0 0], iv y102]) [2] (WR rfl rfl zAJ VQ (zU rfl zT)) (fun W hW => ⟨w, ((none, 0), (none, 0)), leB, rfl, ⟨(Sl.nil _ _ _), (Sl.nil _ _ _)⟩, hW.pick (ks := []) (by decide) zk⟩)
 ·refine Tr.skip (Tr.zA (Tr.sr (Tr.va rfl (fun _ _ a c => zX (cs := [iv p0.Unit, sL zF p0.Tools zG, sL zM p0.Steps zL]) zAJ VQ (a.ev rfl) (zO.take (rdb c (vs := [iv p0.Unit, sL zF p0.Tools zG, sL zM p0.Steps zL]) (k := 1) rfl 0) 3) rfl) (Tr.store 2 (cs := [iv p0.Unit, sL zF p0.Tools zG, sL zM p0.Steps zL]) [iv p0.Unit, sL zF p0.Tools zG, sL zM p0.Steps zL] (wn rfl) rfl rfl rfl rfl VQ rfl rfl rfl (Tr.asg rfl rfl (Tr.nil (Tr.zA (Tr.ret ?_))))))))
  obtain rfl := oI H
  exact Tr.out (m := [.agg #[iv p0.Unit, sL zF p0.Tools zG, sL zM p0.Steps zL], iv 0]) [2] (WR rfl rfl zAJ VQ (zU rfl zT)) (fun W hW => ⟨w, ((zF, zG), (zM, zL)), leB, rfl, ⟨zP, QW⟩, hW.pick (ks := []) (by decide) zk⟩)

theorem zP7 (N : Nat) {w : Bs} (p0 : QB) (zF : Option Addr) (zG : Nat) (zP : Sl w.O w.W zN zF zG p0.Tools) (zM : Option Addr) (zL : Nat) (QW : Sl w.O w.W zH zM zL p0.Steps) (r : (QB × Int)) (H : zFP N p0 = some r) (hE : HF w w.W (LEn [])) : Calls Tryz.prog 19 [.agg #[iv p0.Unit, sL zF p0.Tools zG, sL zM p0.Steps zL]].toArray w.W fun e W' => ∃ (w' : Bs) (u : (Option Addr × Nat) × (Option Addr × Nat)), w.Le w' ∧ e = .returned (.tuple #[.agg #[iv r.1.Unit, sL u.1.1 r.1.Tools u.1.2, sL u.2.1 r.1.Steps u.2.2], iv r.2]) ∧ (Sl w'.O w'.W zN u.1.1 u.1.2 r.1.Tools ∧ Sl w'.O w'.W zH u.2.1 u.2.2 r.1.Steps) ∧ HF w' W' (LEn []) := by
 unfold zFP at H
 have leB := Bs.Le.refl w
 refine Tr.enter (n := 16) Tryz.func19 rfl rfl rfl hE (Tr.sr (Tr.box 1 (cs := [iv p0.Unit, sL zF p0.Tools zG, sL zM p0.Steps zL]) (wn rfl) rfl rfl rfl fun zt => (Tr.alloc 2 (wn rfl) rfl zLK fun Qg => (Tr.asg rfl rfl (Tr.nil (Tr.zA (Tr.seq (Tr.sr (Tr.va rfl (fun _ _ a c => zX (cs := [iv p0.Unit, sL zF p0.Tools zG, sL zM p0.Steps zL]) zAJ VQ (a.ev rfl) (zO.take (rdb c (vs := [iv p0.Unit, sL zF p0.Tools zG, sL zM p0.Steps zL]) (k := 1) rfl 0) 3) rfl) ?_)))))))))
 obtain ⟨y102, hy102, H⟩ := bnd H
 refine Tr.Qs (r := (iv y102)) (wn rfl) rfl Tryz.call21 (zI rfl zS) (fun W hW => zAa N p0 zF zG (zP.rl.ext hW.Qd) zM zL (QW.rl.ext hW.Qd) y102 hy102 (HF.start _)) (Tr.asg rfl rfl (Tr.nil (Tr.zA (Tr.sr (Tr.mv rfl rfl (Tr.va rfl (fun _ _ a c => Jt (a.ev rfl) (a.ev rfl)) (Tr.nil (Tr.zA (Tr.cond rfl H (fun H => ?_) (fun H => ?_))))))))))
 ·refine Tr.sr (Tr.build (vs := []) (cs := [iv 0, .slice none 0 0, .slice none 0 0]) (wn rfl) rfl Qf (by kernel_rfl) (Tr.mv rfl rfl (Tr.store 2 (cs := [iv 0, .slice none 0 0, .slice none 0 0]) [iv 0, .slice none 0 0, .slice none 0 0] (wn rfl) rfl rfl rfl rfl VQ rfl rfl rfl (Tr.asg rfl rfl (Tr.nil (Tr.zA (Tr.ret (Tr.zg ?_))))))))
  obtain rfl := oI H
  exact Tr.out (m := [.agg #[iv 0, .slice none 0 0, .slice none 0 0], iv y102]) [2] (WR rfl rfl zAJ VQ (zU rfl zT)) (fun W hW => ⟨w, ((none, 0), (none, 0)), leB, rfl, ⟨(Sl.nil _ _ _), (Sl.nil _ _ _)⟩, hW.pick (ks := []) (by decide) zk⟩)
 ·refine Tr.skip (Tr.zA (Tr.sr (Tr.va rfl (fun _ _ a c => zX (cs := [iv p0.Unit, sL zF p0.Tools zG, sL zM p0.Steps zL]) zAJ VQ (a.ev rfl) (zO.take (rdb c (vs := [iv p0.Unit, sL zF p0.Tools zG, sL zM p0.Steps zL]) (k := 1) rfl 0) 3) rfl) ?_)))
  obtain ⟨zm, zCi, H⟩ := bnd H
  refine Tr.VW [3, 4] [emp, emp] (U := (Option Addr × Nat) × (Option Addr × Nat)) (fun u => (.agg #[iv zm.Unit, sL u.1.1 zm.Tools u.1.2, sL u.2.1 zm.Steps u.2.2])) (fun O W u => SlF u.1.1 zm.Tools.length u.1.2 ∧ SlF u.2.1 zm.Steps.length u.2.2) (fun u => [ow u.1.1 u.1.2 64 zN zm.Tools, ow u.2.1 u.2.2 46 zH zm.Steps]) rfl (zR rfl (zR rfl zk)) (fun _ => rfl) (wn rfl) rfl Tryz.call37 (zI rfl zS) (fun W hW hp hE => zLI N p0 zF zG (zP.zAS (hW.JH hp)) zM zL (QW.zAS (hW.JH hp)) zm zCi hE) ?_
  intro w u zKf hu
  obtain ⟨⟨Kb, KZ⟩, ⟨zIh, zIL⟩⟩ := u
  obtain ⟨gy103_0, gy103_1⟩ := hu
  replace leB := leB.trans zKf
  have zFD : SlF Kb zm.Tools.length KZ := gy103_0 --@phi
  have zT9 : SlF zIh zm.Steps.length zIL := gy103_1 --@phi
  dsimp only
  refine Tr.freeze 3 rfl fun w zaR zTo => ?_
  replace leB := leB.trans zaR
  refine Tr.freeze 4 rfl fun w zNh zak => ?_
  replace zTo := zTo.le zNh
  replace leB := leB.trans zNh
  obtain ⟨zCx, zTv, H⟩ := bnd H
  refine Tr.VW [] [] (U := (Option Addr × Nat) × (Option Addr × Nat)) (fun u => (.tuple #[.agg #[iv zCx.1.Unit, sL u.1.1 zCx.1.Tools u.1.2, sL u.2.1 zCx.1.Steps u.2.2], iv zCx.2])) (fun O W u => Sl O W zN u.1.1 u.1.2 zCx.1.Tools ∧ Sl O W zH u.2.1 u.2.2 zCx.1.Steps) (fun u => []) rfl zk (fun _ => rfl) (wn rfl) rfl Tryz.call24 (zI rfl zS) (fun W hW hp hE => zP5 N zm Kb KZ (zTo.zAS (hW.JH hp)) zIh zIL (zak.zAS (hW.JH hp)) zCx zTv hE) ?_
  intro w u zLj hu
  obtain ⟨⟨zMU, zL9⟩, ⟨zMT, zL8⟩⟩ := u
  obtain ⟨gy109_0, gy109_1⟩ := hu
  replace zTo := zTo.le zLj
  replace zak := zak.le zLj
  replace leB := leB.trans zLj
  have zbi : Sl w.O w.W zN zMU zL9 zCx.1.Tools := gy109_0 --@phi
  have zbh : Sl w.O w.W zH zMT zL8 zCx.1.Steps := gy109_1 --@phi
  dsimp only
  refine Tr.va rfl (fun _ _ a c => JM (a.ev rfl) rfl) (Tr.va rfl (fun _ _ a c => JM (a.ev rfl) rfl) (Tr.store 2 (cs := [iv zCx.1.Unit, sL zMU zCx.1.Tools zL9, sL zMT zCx.1.Steps zL8]) [iv zCx.1.Unit, sL zMU zCx.1.Tools zL9, sL zMT zCx.1.Steps zL8] (wn rfl) rfl rfl rfl rfl VQ rfl rfl rfl (Tr.asg rfl rfl (Tr.nil (Tr.zA (Tr.ret ?_))))))
  obtain rfl := oI H
  exact Tr.out (m := [.agg #[iv zCx.1.Unit, sL zMU zCx.1.Tools zL9, sL zMT zCx.1.Steps zL8], iv zCx.2]) [2] (WR rfl rfl zAJ VQ (zU rfl zT)) (fun W hW => ⟨w, ((zMU, zL9), (zMT, zL8)), leB, rfl, ⟨zbi, zbh⟩, hW.pick (ks := []) (by decide) zk⟩)

theorem zEG {w : Bs} (p0 : (List zQ)) (zF : Option Addr) (zG : Nat) (zP : Sl w.R w.W zY zF zG p0) (p1 : (List zQ)) (za : Option Addr) (zb : Nat) (Qc : Sl w.R w.W zY za zb p1) (r : Bool) (H : VC p0 p1 = some r) (hE : HF w w.W E0) : Calls Tryz.prog 11 [sL zF p0 zG, sL za p1 zb].toArray w.W fun e W' => e = .returned (bV r) ∧ HF w W' E0 := by
 unfold VC at H
 have leB := Bs.Le.refl w
 refine Tr.enter (n := 26) Tryz.func11 rfl rfl rfl hE (Tr.sr (Tr.asg rfl rfl (Tr.nil (Tr.zA (Tr.seq (Tr.sr (Tr.mv rfl rfl (Tr.va rfl (fun _ _ a c => zy zBQ (a.ev rfl)) (Tr.mv rfl rfl (Tr.va rfl (fun _ _ a c => zy zBQ (a.ev rfl)) (Tr.va rfl (fun _ _ a c => Jt (a.ev rfl) (a.ev rfl)) (Tr.nil (Tr.zA (Tr.cond rfl H (fun H => ?_) (fun H => ?_)))))))))))))))
 ·refine Tr.sr (Tr.asg rfl rfl (Tr.nil (Tr.zA (Tr.ret (Tr.zg ?_)))))
  obtain rfl := oI H
  exact Tr.out (m := [bV false]) [] (zU rfl zT) (fun W hW => ⟨rfl, hW.low leB⟩)
 ·refine Tr.skip (Tr.zA (Tr.seq (Tr.sr (Tr.mv rfl rfl (Tr.va rfl (fun _ _ a c => zy zBQ (a.ev rfl)) (Tr.mv rfl rfl (Tr.nil (Tr.zA (Tr.block (Tr.loop (σ := (List zQ) × Nat) (fun m w s => m = s.1.length + 1 ∧ s.1 = List.drop s.2 p0 ∧ s.2 ≤ p0.length ∧ Jb p1 s.1 s.2 = some r) (fun s => [(0, sL zF p0 zG), (1, sL za p1 zb), (12, iv (p0.length : Int)), (13, iv (s.2 : Int))]) (fun s => []) (p0.length + 1) (p0, 0) ⟨rfl, rfl, Nat.zero_le _, H⟩ (.cons rfl (.cons rfl (.cons rfl (.cons rfl .nil)))) .nil (fun _ _ h => absurd h.1 (by simp)) ?_))))))))))
  intro w Qe m s hs
  obtain ⟨zV, iL1⟩ := s
  obtain ⟨KS, QG, hiL1, H⟩ := hs
  replace QG : zV = List.drop iL1 p0 := QG
  replace H : Jb p1 zV iL1 = some r := H
  replace KS : m + 1 = zV.length + 1 := KS
  replace zP := zP.leR Qe
  replace Qc := Qc.leR Qe
  replace leB := leB.trans Qe
  obtain rfl : m = zV.length := by omega
  clear KS
  dsimp only
  cases zV with
  | nil =>
   rw [Jb.eq_1] at H
   refine Tr.sr (Tr.va rfl (fun _ _ a c => QE (a.ev rfl) (a.ev rfl)) (Tr.nil (Tr.zA (Tr.seq (Tr.WY rfl (JB QG) (Tr.exit (Tr.zi (Tr.zi (Tr.QL (Tr.zA (Tr.sr (Tr.asg rfl rfl (Tr.nil (Tr.zA (Tr.ret ?_)))))))))))))))
   obtain rfl := oI H
   exact Tr.out (m := [bV true]) [] (zU rfl zT) (fun W hW => ⟨rfl, hW.low leB⟩)
  | cons xL1 zV =>
   rw [Jb.eq_2] at H
   refine Tr.sr (Tr.va rfl (fun _ _ a c => QE (a.ev rfl) (a.ev rfl)) (Tr.nil (Tr.zA (Tr.seq (Tr.WX rfl (JX QG) (Tr.skip (Tr.zA (Tr.seq (Tr.block (Tr.sr (Tr.mv rfl rfl (Tr.asg rfl rfl (Tr.nil (Tr.zA (Tr.seq (Tr.draw (by kernel_rfl) (by kernel_rfl) (Tq.mv rfl rfl (Tq.mv rfl rfl (Tq.va rfl (fun _ _ a c => zK zCl (a.ev rfl) zP.form (a.ev rfl) (Int.natCast_nonneg _) (QC QG)) (Tq.va rfl (fun _ _ a c => zX (cs := [iv xL1.X0, iv xL1.Y0, iv xL1.X1, iv xL1.Y1]) zBr VE (a.ev rfl) (zO.take (rdF WA zP (Js QG) c) 4) rfl) (Tq.mv rfl rfl (Tq.mv rfl rfl ?_))))))))))))))))))))))
   obtain ⟨x103, zTy, H⟩ := bnd H
   obtain ⟨zPa, zPZ, zPY⟩ := zx zTy
   refine Tq.va rfl (fun _ _ a c => zK zCl (a.ev rfl) Qc.form (a.ev rfl) zPa zPZ) (Tq.va rfl (fun _ _ a c => zX (cs := [iv x103.X0, iv x103.Y0, iv x103.X1, iv x103.Y1]) zBr VE (a.ev rfl) (zO.take (rdF WA Qc zPY c) 4) rfl) (Tq.va rfl (fun _ _ a c => zOz xL1 x103 (a.ev rfl) (a.ev rfl)) (Tq.nil (Tr.zA (Tr.cond rfl H (fun H => ?_) (fun H => ?_))))))
   ·refine Tr.sr (Tr.asg rfl rfl (Tr.nil (Tr.zA (Tr.ret (Tr.QI (Tr.zg (Tr.zg (Tr.QI (Tr.zg ?_)))))))))
    obtain rfl := oI H
    exact Tr.out (m := [bV false]) [] (zU rfl zT) (fun W hW => ⟨rfl, hW.low leB⟩)
   ·exact Tr.skip (Tr.zh (Tr.zA (Tr.region (Tr.va rfl (fun _ _ a c => QA (a.ev rfl) (a.ev rfl)) (Tr.mv rfl rfl (Tr.nil (Tr.zf Qe (zV, (iL1 + 1)) ⟨rfl, Ql QG, QC QG, H⟩ (.cons rfl (.cons rfl (.cons rfl (.cons (congrArg (fun z => some (Value.int .i64 z)) (Qk QG zP.form)) .nil)))) .nil)))))))

theorem zAM {w : Bs} (p0 : Int) (r : Int) (H : WT p0 = some r) (hE : HF w w.W E0) : Calls Tryz.prog 39 [iv p0].toArray w.W fun e W' => e = .returned (iv r) ∧ HF w W' E0 := by
 unfold WT at H
 have leB := Bs.Le.refl w
 refine Tr.enter (n := 4) Tryz.func39 rfl rfl rfl hE (Tr.sr (Tr.asg rfl rfl (Tr.nil (Tr.zA (Tr.sr (Tr.mv rfl rfl (Tr.asg rfl rfl (Tr.nil (Tr.zA (Tr.ret ?_))))))))))
 obtain rfl := oI H
 exact Tr.out (m := [iv p0]) [] (zU rfl zT) (fun W hW => ⟨rfl, hW.low leB⟩)

theorem zGU {w : Bs} (p0 : (List zC)) (zF : Option Addr) (zG : Nat) (zP : Sl w.O w.W zH zF zG p0) (r : (List zC)) (H : WE p0 = some r) (hE : HF w w.W (LEn [emp])) : Calls Tryz.prog 14 [sL zF p0 zG].toArray w.W fun e W' => ∃ (w' : Bs) (u : (Option Addr × Nat)), w.Le w' ∧ e = .returned (sL u.1 r u.2) ∧ (SlF u.1 r.length u.2) ∧ HF w' W' (LEn [ow u.1 u.2 46 zH r]) := by
 unfold WE at H
 have leB := Bs.Le.refl w
 refine Tr.enter (n := 8) Tryz.func14 rfl rfl rfl hE (Tr.sr (Tr.asg rfl rfl (Tr.JY 1 46 zH ?_)))
 show Tr _ _ (uf _ 2 (sL none (([] : List zC)) 0)) _ _
 refine Tr.nil (Tr.zA (Tr.seq (Tr.sr (Tr.mv rfl rfl (Tr.va rfl (fun _ _ a c => zH1 zB8 (a.ev rfl) (a.ev rfl)) (Tr.nil (Tr.zA ?_)))))))
 cases zF with
 | none =>
  have hl0 := zLS zP.form
  replace H : (some ([] : List zC)) = some r := by simpa [apd, hl0] using H
  refine Tr.WX rfl rfl (Tr.sr (Tr.asg rfl rfl (Tr.JY 2 46 zH ?_)))
  show Tr _ _ (uf _ 2 (sL none (([] : List zC)) 0)) _ _
  refine Tr.nil (Tr.zA (Tr.ret (Tr.zg ?_)))
  obtain rfl := oI H
  exact Tr.out (m := [sL none (([] : List zC)) 0]) [] (zU rfl zT) (fun W hW => ⟨w, (none, 0), leB, rfl, VR, hW.pick (ks := [2]) (by decide) (zR rfl zk)⟩)
 | some a102 =>
  refine Tr.WY rfl rfl (Tr.skip (Tr.zA (Tr.sr (Tr.buildSlice 3 (e := 46) (vs := []) (cs := []) (wn rfl) rfl Qf (by kernel_rfl) fun zt => (Tr.mv rfl rfl (Tr.own 3 zH ([] : List zC) (css := []) rfl .nil rfl (by decide) (zCU rfl) ?_))))))
  obtain ⟨Wq, zIt, H⟩ := bnd H
  refine Tr.zMI 3 (t := zH) (l := ([] : List zC)) (l2 := p0) (wn rfl) rfl rfl rfl rfl (apO zP) zB8 zA2 zZJ (by decide) zcK rfl zIt fun zJ1 zJq hAl101 => (Tr.asg rfl rfl (Tr.nil (Tr.zA (Tr.ret ?_))))
  obtain rfl := oI H
  exact Tr.out (m := [sL zJ1 Wq zJq]) [] (zU rfl zT) (fun W hW => ⟨w, (zJ1, zJq), leB, rfl, hAl101, hW.pick (ks := [3]) (by decide) (zR rfl zk)⟩)

theorem zJF {w : Bs} (p0 : (List Int)) (zF : Option Addr) (zG : Nat) (zP : Sl w.R w.W QO zF zG p0) (p1 : Int) (r : Int) (H : zB3 p0 p1 = some r) (hE : HF w w.W E0) : Calls Tryz.prog 149 [sL zF p0 zG, iv p1].toArray w.W fun e W' => e = .returned (iv r) ∧ HF w W' E0 := by
 unfold zB3 at H
 have leB := Bs.Le.refl w
 refine Tr.enter (n := 19) Tryz.func149 rfl rfl rfl hE (Tr.sr (Tr.asg rfl rfl (Tr.nil (Tr.zA (Tr.seq (Tr.sr (Tr.mv rfl rfl (Tr.va rfl (fun _ _ a c => zy zCc (a.ev rfl)) (Tr.mv rfl rfl (Tr.nil (Tr.zA (Tr.block (Tr.loop (σ := (List Int) × Nat) (fun m w s => m = s.1.length + 1 ∧ s.1 = List.drop s.2 p0 ∧ s.2 ≤ p0.length ∧ KN p1 s.1 s.2 = some r) (fun s => [(0, sL zF p0 zG), (1, iv p1), (7, iv (p0.length : Int)), (8, iv (s.2 : Int))]) (fun s => []) (p0.length + 1) (p0, 0) ⟨rfl, rfl, Nat.zero_le _, H⟩ (.cons rfl (.cons rfl (.cons rfl (.cons rfl .nil)))) .nil (fun _ _ h => absurd h.1 (by simp)) ?_)))))))))))))
 intro w Qe m s hs
 obtain ⟨zV, iL1⟩ := s
 obtain ⟨KS, QG, hiL1, H⟩ := hs
 replace QG : zV = List.drop iL1 p0 := QG
 replace H : KN p1 zV iL1 = some r := H
 replace KS : m + 1 = zV.length + 1 := KS
 replace zP := zP.leR Qe
 replace leB := leB.trans Qe
 obtain rfl : m = zV.length := by omega
 clear KS
 dsimp only
 cases zV with
 | nil =>
  rw [KN.eq_1] at H
  refine Tr.sr (Tr.va rfl (fun _ _ a c => QE (a.ev rfl) (a.ev rfl)) (Tr.nil (Tr.zA (Tr.seq (Tr.WY rfl (JB QG) (Tr.exit (Tr.zi (Tr.zi (Tr.QL (Tr.zA (Tr.sr (Tr.asg rfl rfl (Tr.nil (Tr.zA (Tr.ret ?_)))))))))))))))
  obtain rfl := oI H
  exact Tr.out (m := [iv (-1)]) [] (zU rfl zT) (fun W hW => ⟨rfl, hW.low leB⟩)
 | cons xL1 zV =>
  rw [KN.eq_2] at H
  refine Tr.sr (Tr.va rfl (fun _ _ a c => QE (a.ev rfl) (a.ev rfl)) (Tr.nil (Tr.zA (Tr.seq (Tr.WX rfl (JX QG) (Tr.skip (Tr.zA (Tr.seq (Tr.block (Tr.sr (Tr.mv rfl rfl (Tr.asg rfl rfl (Tr.nil (Tr.zA (Tr.sr (Tr.mv rfl rfl (Tr.mv rfl rfl (Tr.mv rfl rfl (Tr.va rfl (fun _ _ a c => zK zA3 (a.ev rfl) zP.form (a.ev rfl) (Int.natCast_nonneg _) (QC QG)) (Tr.va rfl (fun _ _ a c => zD QH (a.ev rfl) (rdF We zP (Js QG) c) rfl) (Tr.va rfl (fun _ _ a c => Qa (a.ev rfl) (a.ev rfl)) (Tr.nil (Tr.zA (Tr.cond rfl H (fun H => ?_) (fun H => ?_)))))))))))))))))))))))))
  ·refine Tr.sr (Tr.mv rfl rfl (Tr.asg rfl rfl (Tr.nil (Tr.zA (Tr.ret (Tr.QI (Tr.zg (Tr.zg (Tr.QI (Tr.zg ?_))))))))))
   obtain rfl := oI H
   exact Tr.out (m := [iv (iL1 : Int)]) [] (zU rfl zT) (fun W hW => ⟨rfl, hW.low leB⟩)
  ·exact Tr.skip (Tr.zh (Tr.zA (Tr.region (Tr.va rfl (fun _ _ a c => QA (a.ev rfl) (a.ev rfl)) (Tr.mv rfl rfl (Tr.nil (Tr.zf Qe (zV, (iL1 + 1)) ⟨rfl, Ql QG, QC QG, H⟩ (.cons rfl (.cons rfl (.cons rfl (.cons (congrArg (fun z => some (Value.int .i64 z)) (Qk QG zP.form)) .nil)))) .nil)))))))

theorem zHI {w : Bs} (p0 : (List Int)) (zF : Option Addr) (zG : Nat) (zP : Sl w.R w.W QO zF zG p0) (p1 : Int) (r : Bool) (H : Wl p0 p1 = some r) (hE : HF w w.W E0) : Calls Tryz.prog 115 [sL zF p0 zG, iv p1].toArray w.W fun e W' => e = .returned (bV r) ∧ HF w W' E0 := by
 unfold Wl at H
 have leB := Bs.Le.refl w
 refine Tr.enter (n := 9) Tryz.func115 rfl rfl rfl hE (Tr.sr (Tr.asg rfl rfl (Tr.nil (Tr.zA (Tr.sr (Tr.mv rfl rfl (Tr.mv rfl rfl ?_)))))))
 obtain ⟨QK, zBE, H⟩ := bnd H
 refine Tr.Qs (r := (iv QK)) (wn rfl) rfl Tryz.call149 (zI rfl (zI rfl zS)) (fun W hW => zJF p0 zF zG (zP.ext hW.Qd) p1 QK zBE (HF.start _)) (Tr.va rfl (fun _ _ a c => zEo (a.ev rfl) (a.ev rfl)) (Tr.asg rfl rfl (Tr.nil (Tr.zA (Tr.ret ?_)))))
 obtain rfl := oI H
 exact Tr.out (m := [bV (decide (0 ≤ QK))]) [] (zU rfl zT) (fun W hW => ⟨rfl, hW.low leB⟩)

theorem zGW {w : Bs} (p0 : (List zC)) (zF : Option Addr) (zG : Nat) (zP : Sl w.R w.W zH zF zG p0) (p1 : (List Int)) (za : Option Addr) (zb : Nat) (Qc : Sl w.R w.W QO za zb p1) (r : Int) (H : zDs p0 p1 = some r) (hE : HF w w.W E0) : Calls Tryz.prog 94 [sL zF p0 zG, sL za p1 zb].toArray w.W fun e W' => e = .returned (iv r) ∧ HF w W' E0 := by
 unfold zDs at H
 have leB := Bs.Le.refl w
 refine Tr.enter (n := 20) Tryz.func94 rfl rfl rfl hE (Tr.sr (Tr.asg rfl rfl (Tr.nil (Tr.zA (Tr.seq (Tr.sr (Tr.mv rfl rfl (Tr.va rfl (fun _ _ a c => zy zB8 (a.ev rfl)) (Tr.mv rfl rfl (Tr.nil (Tr.zA (Tr.block (Tr.loop (σ := (List zC) × Nat) (fun m w s => m = s.1.length + 1 ∧ s.1 = List.drop s.2 p0 ∧ s.2 ≤ p0.length ∧ zAB p1 s.1 s.2 = some r) (fun s => [(1, sL za p1 zb), (7, sL zF p0 zG), (8, iv (p0.length : Int)), (9, iv (s.2 : Int))]) (fun s => []) (p0.length + 1) (p0, 0) ⟨rfl, rfl, Nat.zero_le _, H⟩ (.cons rfl (.cons rfl (.cons rfl (.cons rfl .nil)))) .nil (fun _ _ h => absurd h.1 (by simp)) ?_)))))))))))))
 intro w Qe m s hs
 obtain ⟨zV, iL1⟩ := s
 obtain ⟨KS, QG, hiL1, H⟩ := hs
 replace QG : zV = List.drop iL1 p0 := QG
 replace H : zAB p1 zV iL1 = some r := H
 replace KS : m + 1 = zV.length + 1 := KS
 replace Qc := Qc.leR Qe
 replace zP := zP.leR Qe
 replace leB := leB.trans Qe
 obtain rfl : m = zV.length := by omega
 clear KS
 dsimp only
 cases zV with
 | nil =>
  rw [zAB.eq_1] at H
  refine Tr.sr (Tr.va rfl (fun _ _ a c => QE (a.ev rfl) (a.ev rfl)) (Tr.nil (Tr.zA (Tr.seq (Tr.WY rfl (JB QG) (Tr.exit (Tr.zi (Tr.zi (Tr.QL (Tr.zA (Tr.sr (Tr.asg rfl rfl (Tr.nil (Tr.zA (Tr.ret ?_)))))))))))))))
  obtain rfl := oI H
  exact Tr.out (m := [iv 0]) [] (zU rfl zT) (fun W hW => ⟨rfl, hW.low leB⟩)
 | cons xL1 zV =>
  rw [zAB.eq_2] at H
  refine Tr.sr (Tr.va rfl (fun _ _ a c => QE (a.ev rfl) (a.ev rfl)) (Tr.nil (Tr.zA (Tr.seq (Tr.WX rfl (JX QG) (Tr.skip (Tr.zA (Tr.seq (Tr.block (Tr.sr ?_))))))))))
  obtain ⟨u105, hRu105, zLq, hcu105⟩ := (zP).el (Js QG)
  obtain ⟨⟨zE4, zEw⟩, ⟨zMY, zME⟩⟩ := u105
  obtain ⟨zHV, zjR⟩ := Kj.1 zLq
  refine Tr.va rfl (fun _ _ a c => zK zEC (a.ev rfl) zP.form (a.ev rfl) (Int.natCast_nonneg _) (QC QG)) (Tr.va rfl (fun _ _ a c => zX (cs := [iv xL1.Kind, sv xL1.Name, iv xL1.At.X, iv xL1.At.Y, sL zE4 xL1.Points zEw, iv xL1.NX, iv xL1.NY, sL zMY xL1.Steps zME]) zGP zA2 (a.ev rfl) (zO.take (rdR hRu105 hcu105 c) 8) rfl) (Tr.alloc 2 (wn rfl) rfl zIn fun zoc => (Tr.store 2 (cs := [iv xL1.Kind, sv xL1.Name, iv xL1.At.X, iv xL1.At.Y, sL zE4 xL1.Points zEw, iv xL1.NX, iv xL1.NY, sL zMY xL1.Steps zME]) [iv xL1.Kind, sv xL1.Name, iv xL1.At.X, iv xL1.At.Y, sL zE4 xL1.Points zEw, iv xL1.NX, iv xL1.NY, sL zMY xL1.Steps zME] (wn rfl) rfl rfl rfl rfl zA2 rfl rfl rfl (Tr.nil (Tr.zA (Tr.sr (Tr.mv rfl rfl (Tr.va rfl (fun _ _ a c => zB zBF (a.ev rfl)) (Tr.va rfl (fun _ _ a c => zD QH (a.ev rfl) (rdb c (vs := [iv xL1.Kind, sv xL1.Name, iv xL1.At.X, iv xL1.At.Y, sL zE4 xL1.Points zEw, iv xL1.NX, iv xL1.NY, sL zMY xL1.Steps zME]) (k := 2) rfl 0) rfl) ?_)))))))))
  obtain ⟨zI9, zTw, H⟩ := bnd H
  refine Tr.Qs (r := (bV zI9)) (wn rfl) rfl Tryz.call115 (zI rfl (zI rfl zS)) (fun W hW => zHI p1 za zb (Qc.ext hW.Qd) xL1.Kind zI9 zTw (HF.start _)) (Tr.nil (Tr.zA (Tr.cond rfl H (fun H => ?_) (fun H => ?_))))
  ·refine Tr.sr (Tr.va rfl (fun _ _ a c => zB zBF (a.ev rfl)) (Tr.va rfl (fun _ _ a c => zD QH (a.ev rfl) (rdb c (vs := [iv xL1.Kind, sv xL1.Name, iv xL1.At.X, iv xL1.At.Y, sL zE4 xL1.Points zEw, iv xL1.NX, iv xL1.NY, sL zMY xL1.Steps zME]) (k := 2) rfl 0) rfl) (Tr.asg rfl rfl (Tr.nil (Tr.zA (Tr.ret (Tr.QI (Tr.zg (Tr.zg (Tr.QI (Tr.zg ?_)))))))))))
   obtain rfl := oI H
   exact Tr.out (m := [iv xL1.Kind]) [] (zU rfl zT) (fun W hW => ⟨rfl, hW.low leB⟩)
  ·exact Tr.skip (Tr.zh (Tr.zA (Tr.region (Tr.va rfl (fun _ _ a c => QA (a.ev rfl) (a.ev rfl)) (Tr.mv rfl rfl (Tr.nil (Tr.zf Qe (zV, (iL1 + 1)) ⟨rfl, Ql QG, QC QG, H⟩ (.cons rfl (.cons rfl (.cons rfl (.cons (congrArg (fun z => some (Value.int .i64 z)) (Qk QG zP.form)) .nil)))) .nil)))))))

theorem zI0 {w : Bs} (p0 : Int) (r : Bool) (H : zEL p0 = some r) (hE : HF w w.W E0) : Calls Tryz.prog 52 [iv p0].toArray w.W fun e W' => e = .returned (bV r) ∧ HF w W' E0 := by
 unfold zEL at H
 have leB := Bs.Le.refl w
 refine Tr.enter (n := 17) Tryz.func52 rfl rfl rfl hE (Tr.sr (Tr.asg rfl rfl (Tr.nil (Tr.zA (Tr.sr (Tr.mv rfl rfl (Tr.va rfl (fun _ _ a c => Qa (a.ev rfl) (a.ev rfl)) (Tr.mv rfl rfl (Tr.VJ 3 [(0, iv p0), (8, bV ((p0 == 5) || (p0 == 6)))] [] ?_ ?_)))))))))
 ·cases zY1 : (p0 == 5)
  ·exact Tr.val (wg rfl rfl rfl) rfl (fun _ _ a c => run_move (a.ev rfl)) (Tr.val (wg rfl rfl rfl) rfl (fun _ _ a c => Qa (a.ev rfl) (a.ev rfl)) (Tr.va rfl (fun _ _ a c => zo (a.ev rfl) (a.ev rfl)) (Tr.nil (Tr.Qi (.cons rfl (.cons rfl .nil)) .nil))))
  ·exact Tr.pass rfl rfl rfl rfl rfl (by decide) (Tr.pass rfl rfl rfl rfl rfl (by decide) (Tr.va rfl (fun _ _ a c => zn (a.ev rfl) (a.ev rfl)) (Tr.nil (Tr.Qi (.cons rfl (.cons rfl .nil)) .nil))))
 ·show Tr _ _ (LF [(0, iv p0), (8, bV ((p0 == 5) || (p0 == 6)))]) (LE []) _
  refine Tr.mv rfl rfl (Tr.VJ 3 [(0, iv p0), (12, bV (((p0 == 5) || (p0 == 6)) || (p0 == 7)))] [] ?_ ?_)
  ·cases zY1 : ((p0 == 5) || (p0 == 6))
   ·exact Tr.val (wg rfl rfl rfl) rfl (fun _ _ a c => run_move (a.ev rfl)) (Tr.val (wg rfl rfl rfl) rfl (fun _ _ a c => Qa (a.ev rfl) (a.ev rfl)) (Tr.va rfl (fun _ _ a c => zo (a.ev rfl) (a.ev rfl)) (Tr.nil (Tr.Qi (.cons rfl (.cons rfl .nil)) .nil))))
   ·exact Tr.pass rfl rfl rfl rfl rfl (by decide) (Tr.pass rfl rfl rfl rfl rfl (by decide) (Tr.va rfl (fun _ _ a c => zn (a.ev rfl) (a.ev rfl)) (Tr.nil (Tr.Qi (.cons rfl (.cons rfl .nil)) .nil))))
  ·show Tr _ _ (LF [(0, iv p0), (12, bV (((p0 == 5) || (p0 == 6)) || (p0 == 7)))]) (LE []) _
   refine Tr.mv rfl rfl (Tr.VJ 3 [(16, bV ((((p0 == 5) || (p0 == 6)) || (p0 == 7)) || (p0 == 8)))] [] ?_ ?_)
   ·cases zY1 : (((p0 == 5) || (p0 == 6)) || (p0 == 7))
    ·exact Tr.val (wg rfl rfl rfl) rfl (fun _ _ a c => run_move (a.ev rfl)) (Tr.val (wg rfl rfl rfl) rfl (fun _ _ a c => Qa (a.ev rfl) (a.ev rfl)) (Tr.va rfl (fun _ _ a c => zo (a.ev rfl) (a.ev rfl)) (Tr.nil (Tr.Qi (.cons rfl .nil) .nil))))
    ·exact Tr.pass rfl rfl rfl rfl rfl (by decide) (Tr.pass rfl rfl rfl rfl rfl (by decide) (Tr.va rfl (fun _ _ a c => zn (a.ev rfl) (a.ev rfl)) (Tr.nil (Tr.Qi (.cons rfl .nil) .nil))))
   ·show Tr _ _ (LF [(16, bV ((((p0 == 5) || (p0 == 6)) || (p0 == 7)) || (p0 == 8)))]) (LE []) _
    refine Tr.asg rfl rfl (Tr.nil (Tr.zA (Tr.ret ?_)))
    obtain rfl := oI H
    exact Tr.out (m := [bV ((((p0 == 5) || (p0 == 6)) || (p0 == 7)) || (p0 == 8))]) [] (zU rfl zT) (fun W hW => ⟨rfl, hW.low leB⟩)

theorem zLH {w : Bs} (p0 : zC) (zF : Option Addr) (zG : Nat) (zP : Sl w.R w.W QD zF zG p0.Points) (zM : Option Addr) (zL : Nat) (QW : Sl w.R w.W zH zM zL p0.Steps) (p1 : VK) (za : Option Addr) (zb : Nat) (Qc : Sl w.R w.W QD za zb p1.last.Points) (QS : Option Addr) (QR : Nat) (zIs : Sl w.R w.W zH QS QR p1.last.Steps) (p2 : (List zC)) (zP8 : Option Addr) (zPq : Nat) (zT0 : Sl w.R w.W zH zP8 zPq p2) (r : Bool) (H : zBB p0 p1 p2 = some r) (hE : HF w w.W E0) : Calls Tryz.prog 69 [.agg #[iv p0.Kind, sv p0.Name, iv p0.At.X, iv p0.At.Y, sL zF p0.Points zG, iv p0.NX, iv p0.NY, sL zM p0.Steps zL], .agg #[iv p1.dark, sv p1.tool, iv p1.place.X, iv p1.place.Y, bV p1.placed, iv p1.last.Kind, sv p1.last.Name, iv p1.last.At.X, iv p1.last.At.Y, sL za p1.last.Points zb, iv p1.last.NX, iv p1.last.NY, sL QS p1.last.Steps QR], sL zP8 p2 zPq].toArray w.W fun e W' => e = .returned (bV r) ∧ HF w W' E0 := by
 unfold zBB at H
 have leB := Bs.Le.refl w
 refine Tr.enter (n := 105) Tryz.func69 rfl rfl rfl hE (Tr.sr (Tr.box 1 (cs := [iv p0.Kind, sv p0.Name, iv p0.At.X, iv p0.At.Y, sL zF p0.Points zG, iv p0.NX, iv p0.NY, sL zM p0.Steps zL]) (wn rfl) rfl rfl rfl fun zt => (Tr.box 2 (cs := [iv p1.dark, sv p1.tool, iv p1.place.X, iv p1.place.Y, bV p1.placed, iv p1.last.Kind, sv p1.last.Name, iv p1.last.At.X, iv p1.last.At.Y, sL za p1.last.Points zb, iv p1.last.NX, iv p1.last.NY, sL QS p1.last.Steps QR]) (wn rfl) rfl rfl rfl fun Qg => (Tr.asg rfl rfl (Tr.nil (Tr.zA (Tr.seq (Tr.sr (Tr.va rfl (fun _ _ a c => zB zBF (a.ev rfl)) (Tr.va rfl (fun _ _ a c => zD QH (a.ev rfl) (rdb c (vs := [iv p0.Kind, sv p0.Name, iv p0.At.X, iv p0.At.Y, sL zF p0.Points zG, iv p0.NX, iv p0.NY, sL zM p0.Steps zL]) (k := 1) rfl 0) rfl) (Tr.nil (Tr.zA (Tr.block ?_)))))))))))))
 have leJ103 := Bs.Le.refl w
 refine Tr.zJD (σ := Bool) (fun w s => Kl p0 p1 p2 s = some r) (fun s => [(2, sL zP8 p2 zPq), (3, pV zt), (4, pV Qg), (11, iv p0.Kind), (12, bV s)]) (fun s => [(1, bx zt #[iv p0.Kind, sv p0.Name, iv p0.At.X, iv p0.At.Y, sL zF p0.Points zG, iv p0.NX, iv p0.NY, sL zM p0.Steps zL] 46), (2, bx Qg #[iv p1.dark, sv p1.tool, iv p1.place.X, iv p1.place.Y, bV p1.placed, iv p1.last.Kind, sv p1.last.Name, iv p1.last.At.X, iv p1.last.At.Y, sL za p1.last.Points zb, iv p1.last.NX, iv p1.last.NY, sL QS p1.last.Steps QR] 125)]) ?_ ?_
 ·refine Tr.sr (Tr.va rfl (fun _ _ a c => Qa (a.ev rfl) (a.ev rfl)) (Tr.asg rfl rfl (Tr.nil (Tr.zA (Tr.cond rfl H (fun H => ?_) (fun H => ?_))))))
  ·exact Tr.skip (Tr.zf leJ103 (p0.Kind == 1) H (.cons rfl (.cons rfl (.cons rfl (.cons rfl (.cons rfl .nil))))) (.cons rfl (.cons rfl .nil)))
  ·exact Tr.region (Tr.va rfl (fun _ _ a c => Qa (a.ev rfl) (a.ev rfl)) (Tr.asg rfl rfl (Tr.nil (Tr.zf leJ103 (p0.Kind == 2) H (.cons rfl (.cons rfl (.cons rfl (.cons rfl (.cons rfl .nil))))) (.cons rfl (.cons rfl .nil))))))
 ·intro w x102 hlJ104 hs
  have H := hs
  replace H : Kl p0 p1 p2 x102 = some r := H
  replace zT0 := zT0.leR hlJ104
  replace leB := leB.trans hlJ104
  unfold Kl at H
  show Tr _ _ (LF [(2, sL zP8 p2 zPq), (3, pV zt), (4, pV Qg), (11, iv p0.Kind), (12, bV x102)]) (LE [(1, bx zt #[iv p0.Kind, sv p0.Name, iv p0.At.X, iv p0.At.Y, sL zF p0.Points zG, iv p0.NX, iv p0.NY, sL zM p0.Steps zL] 46), (2, bx Qg #[iv p1.dark, sv p1.tool, iv p1.place.X, iv p1.place.Y, bV p1.placed, iv p1.last.Kind, sv p1.last.Name, iv p1.last.At.X, iv p1.last.At.Y, sL za p1.last.Points zb, iv p1.last.NX, iv p1.last.NY, sL QS p1.last.Steps QR] 125)]) _
  refine Tr.cond rfl H (fun H => ?_) (fun H => ?_)
  ·refine Tr.sr (Tr.mv rfl rfl (Tr.buildSlice 3 (e := 3) (vs := [(0, iv 1), (1, iv 2), (2, iv 5), (3, iv 6), (4, iv 7), (5, iv 8)]) (cs := [iv 1, iv 2, iv 5, iv 6, iv 7, iv 8]) (wn rfl) rfl (zl rfl (zl rfl (zl rfl (zl rfl (zl rfl (zl rfl Qf)))))) (by kernel_rfl) fun zZA => (Tr.own 3 QO [1, 2, 5, 6, 7, 8] (css := [[iv 1], [iv 2], [iv 5], [iv 6], [iv 7], [iv 8]]) rfl (.cons ⟨(), trivial, rfl⟩ (.cons ⟨(), trivial, rfl⟩ (.cons ⟨(), trivial, rfl⟩ (.cons ⟨(), trivial, rfl⟩ (.cons ⟨(), trivial, rfl⟩ (.cons ⟨(), trivial, rfl⟩ .nil)))))) rfl (by decide) (zCU rfl) ?_)))
   obtain ⟨Kc, zHT, H⟩ := bnd H
   refine Tr.Qs (r := (iv Kc)) (wn rfl) rfl Tryz.call94 (zI rfl (zI rfl zS)) (fun W hW => zGW p2 zP8 zPq (zT0.ext hW.Qd) [1, 2, 5, 6, 7, 8] (some ⟨zZA, 0, none⟩) 6 (hW.zBX (k := 3) rfl) Kc zHT (HF.start _)) (Tr.asg rfl rfl (Tr.nil (Tr.zA (Tr.sr (Tr.va rfl (fun _ _ a c => zB zBF (a.ev rfl)) (Tr.va rfl (fun _ _ a c => zD QH (a.ev rfl) (rdb c (vs := [iv p0.Kind, sv p0.Name, iv p0.At.X, iv p0.At.Y, sL zF p0.Points zG, iv p0.NX, iv p0.NY, sL zM p0.Steps zL]) (k := 1) rfl 0) rfl) (Tr.va rfl (fun _ _ a c => zB zJk (a.ev rfl)) (Tr.va rfl (fun _ _ a c => zD QH (a.ev rfl) (rdb c (vs := [iv p1.dark, sv p1.tool, iv p1.place.X, iv p1.place.Y, bV p1.placed, iv p1.last.Kind, sv p1.last.Name, iv p1.last.At.X, iv p1.last.At.Y, sL za p1.last.Points zb, iv p1.last.NX, iv p1.last.NY, sL QS p1.last.Steps QR]) (k := 2) rfl 0) rfl) (Tr.va rfl (fun _ _ a c => Qa (a.ev rfl) (a.ev rfl)) (Tr.mv rfl rfl ?_))))))))))
   obtain ⟨zbw, zRI, H⟩ := bnd H
   refine Tr.VJ 4 [(27, bV zbw)] [(1, bx zt #[iv p0.Kind, sv p0.Name, iv p0.At.X, iv p0.At.Y, sL zF p0.Points zG, iv p0.NX, iv p0.NY, sL zM p0.Steps zL] 46), (2, bx Qg #[iv p1.dark, sv p1.tool, iv p1.place.X, iv p1.place.Y, bV p1.placed, iv p1.last.Kind, sv p1.last.Name, iv p1.last.At.X, iv p1.last.At.Y, sL za p1.last.Points zb, iv p1.last.NX, iv p1.last.NY, sL QS p1.last.Steps QR] 125), (3, ow (some ⟨zZA, 0, none⟩) 6 3 QO [1, 2, 5, 6, 7, 8])] ?_ ?_
   ·cases zFf : (p0.Kind == p1.dark)
    ·rw [zFf] at zRI
     rw [if_neg (by decide)] at zRI
     have H := zRI
     refine Tr.val (wg rfl rfl rfl) rfl (fun _ _ a c => run_move (a.ev rfl)) ?_
     obtain ⟨zCx, zTv, H⟩ := bnd H
     refine Tr.Qs (r := (bV zCx)) (wg rfl rfl rfl) rfl Tryz.call52 (zI rfl zS) (fun W hW => zI0 Kc zCx zTv (HF.start _)) (Tr.val (wg rfl rfl rfl) rfl (fun _ _ a c => KI (a.ev rfl)) (Tr.va rfl (fun _ _ a c => zo (a.ev rfl) (a.ev rfl)) ?_))
     obtain rfl := oI H
     exact Tr.nil (Tr.Qi (.cons rfl .nil) (.cons rfl (.cons rfl (.cons rfl .nil))))
    ·rw [zFf] at zRI
     rw [if_pos rfl] at zRI
     have H := zRI
     obtain rfl := oI H
     exact Tr.pass rfl rfl rfl rfl rfl (by decide) (Tr.pass rfl rfl rfl rfl rfl (by decide) (Tr.pass rfl rfl rfl rfl rfl (by decide) (Tr.va rfl (fun _ _ a c => zn (a.ev rfl) (a.ev rfl)) (Tr.nil (Tr.Qi (.cons rfl .nil) (.cons rfl (.cons rfl (.cons rfl .nil))))))))
   ·show Tr _ _ (LF [(27, bV zbw)]) (LE [(1, bx zt #[iv p0.Kind, sv p0.Name, iv p0.At.X, iv p0.At.Y, sL zF p0.Points zG, iv p0.NX, iv p0.NY, sL zM p0.Steps zL] 46), (2, bx Qg #[iv p1.dark, sv p1.tool, iv p1.place.X, iv p1.place.Y, bV p1.placed, iv p1.last.Kind, sv p1.last.Name, iv p1.last.At.X, iv p1.last.At.Y, sL za p1.last.Points zb, iv p1.last.NX, iv p1.last.NY, sL QS p1.last.Steps QR] 125), (3, ow (some ⟨zZA, 0, none⟩) 6 3 QO [1, 2, 5, 6, 7, 8])]) _
    refine Tr.asg rfl rfl (Tr.nil (Tr.zA (Tr.ret (Tr.QI (Tr.zg ?_)))))
    obtain rfl := oI H
    exact Tr.out (m := [bV zbw]) [] (zU rfl zT) (fun W hW => ⟨rfl, hW.low leB⟩)
  ·refine Tr.sr (Tr.va rfl (fun _ _ a c => Qa (a.ev rfl) (a.ev rfl)) (Tr.asg rfl rfl (Tr.nil (Tr.zA (Tr.cond rfl H (fun H => ?_) (fun H => ?_))))))
   ·refine Tr.sr (Tr.mv rfl rfl (Tr.buildSlice 4 (e := 3) (vs := [(0, iv 3), (1, iv 5), (2, iv 6), (3, iv 8)]) (cs := [iv 3, iv 5, iv 6, iv 8]) (wn rfl) rfl (zl rfl (zl rfl (zl rfl (zl rfl Qf)))) (by kernel_rfl) fun zjA => (Tr.own 4 QO [3, 5, 6, 8] (css := [[iv 3], [iv 5], [iv 6], [iv 8]]) rfl (.cons ⟨(), trivial, rfl⟩ (.cons ⟨(), trivial, rfl⟩ (.cons ⟨(), trivial, rfl⟩ (.cons ⟨(), trivial, rfl⟩ .nil)))) rfl (by decide) (zCU rfl) ?_)))
    obtain ⟨zGc, zTu, H⟩ := bnd H
    refine Tr.Qs (r := (iv zGc)) (wn rfl) rfl Tryz.call94 (zI rfl (zI rfl zS)) (fun W hW => zGW p2 zP8 zPq (zT0.ext hW.Qd) [3, 5, 6, 8] (some ⟨zjA, 0, none⟩) 4 (hW.zBX (k := 4) rfl) zGc zTu (HF.start _)) (Tr.asg rfl rfl (Tr.nil (Tr.zA (Tr.sr (Tr.va rfl (fun _ _ a c => zB zFn (a.ev rfl)) (Tr.va rfl (fun _ _ a c => zD zHF (a.ev rfl) (rdb c (vs := [iv p0.Kind, sv p0.Name, iv p0.At.X, iv p0.At.Y, sL zF p0.Points zG, iv p0.NX, iv p0.NY, sL zM p0.Steps zL]) (k := 1) rfl 1) rfl) (Tr.va rfl (fun _ _ a c => zB zJj (a.ev rfl)) (Tr.va rfl (fun _ _ a c => zD zHF (a.ev rfl) (rdb c (vs := [iv p1.dark, sv p1.tool, iv p1.place.X, iv p1.place.Y, bV p1.placed, iv p1.last.Kind, sv p1.last.Name, iv p1.last.At.X, iv p1.last.At.Y, sL za p1.last.Points zb, iv p1.last.NX, iv p1.last.NY, sL QS p1.last.Steps QR]) (k := 2) rfl 1) rfl) (Tr.va rfl (fun _ _ a c => zLX (a.ev rfl) (a.ev rfl)) (Tr.mv rfl rfl ?_))))))))))
    obtain ⟨zQV, zHa, H⟩ := bnd H
    refine Tr.VJ 4 [(42, bV zQV)] [(1, bx zt #[iv p0.Kind, sv p0.Name, iv p0.At.X, iv p0.At.Y, sL zF p0.Points zG, iv p0.NX, iv p0.NY, sL zM p0.Steps zL] 46), (2, bx Qg #[iv p1.dark, sv p1.tool, iv p1.place.X, iv p1.place.Y, bV p1.placed, iv p1.last.Kind, sv p1.last.Name, iv p1.last.At.X, iv p1.last.At.Y, sL za p1.last.Points zb, iv p1.last.NX, iv p1.last.NY, sL QS p1.last.Steps QR] 125), (4, ow (some ⟨zjA, 0, none⟩) 4 3 QO [3, 5, 6, 8])] ?_ ?_
    ·cases zLy : (sEq p0.Name p1.tool)
     ·rw [zLy] at zHa
      rw [if_neg (by decide)] at zHa
      have H := zHa
      refine Tr.val (wg rfl rfl rfl) rfl (fun _ _ a c => run_move (a.ev rfl)) ?_
      obtain ⟨y114, hy114, H⟩ := bnd H
      refine Tr.Qs (r := (bV y114)) (wg rfl rfl rfl) rfl Tryz.call52 (zI rfl zS) (fun W hW => zI0 zGc y114 hy114 (HF.start _)) (Tr.val (wg rfl rfl rfl) rfl (fun _ _ a c => KI (a.ev rfl)) (Tr.va rfl (fun _ _ a c => zo (a.ev rfl) (a.ev rfl)) ?_))
      obtain rfl := oI H
      exact Tr.nil (Tr.Qi (.cons rfl .nil) (.cons rfl (.cons rfl (.cons rfl .nil))))
     ·rw [zLy] at zHa
      rw [if_pos rfl] at zHa
      have H := zHa
      obtain rfl := oI H
      exact Tr.pass rfl rfl rfl rfl rfl (by decide) (Tr.pass rfl rfl rfl rfl rfl (by decide) (Tr.pass rfl rfl rfl rfl rfl (by decide) (Tr.va rfl (fun _ _ a c => zn (a.ev rfl) (a.ev rfl)) (Tr.nil (Tr.Qi (.cons rfl .nil) (.cons rfl (.cons rfl (.cons rfl .nil))))))))
    ·show Tr _ _ (LF [(42, bV zQV)]) (LE [(1, bx zt #[iv p0.Kind, sv p0.Name, iv p0.At.X, iv p0.At.Y, sL zF p0.Points zG, iv p0.NX, iv p0.NY, sL zM p0.Steps zL] 46), (2, bx Qg #[iv p1.dark, sv p1.tool, iv p1.place.X, iv p1.place.Y, bV p1.placed, iv p1.last.Kind, sv p1.last.Name, iv p1.last.At.X, iv p1.last.At.Y, sL za p1.last.Points zb, iv p1.last.NX, iv p1.last.NY, sL QS p1.last.Steps QR] 125), (4, ow (some ⟨zjA, 0, none⟩) 4 3 QO [3, 5, 6, 8])]) _
     refine Tr.asg rfl rfl (Tr.nil (Tr.zA (Tr.ret (Tr.QI (Tr.zg ?_)))))
     obtain rfl := oI H
     exact Tr.out (m := [bV zQV]) [] (zU rfl zT) (fun W hW => ⟨rfl, hW.low leB⟩)
   ·refine Tr.sr (Tr.va rfl (fun _ _ a c => Qa (a.ev rfl) (a.ev rfl)) (Tr.asg rfl rfl (Tr.nil (Tr.zA (Tr.cond rfl H (fun H => ?_) (fun H => ?_))))))
    ·refine Tr.sr (Tr.mv rfl rfl (Tr.buildSlice 5 (e := 3) (vs := [(0, iv 4), (1, iv 5), (2, iv 6), (3, iv 8)]) (cs := [iv 4, iv 5, iv 6, iv 8]) (wn rfl) rfl (zl rfl (zl rfl (zl rfl (zl rfl Qf)))) (by kernel_rfl) fun zIT => (Tr.own 5 QO [4, 5, 6, 8] (css := [[iv 4], [iv 5], [iv 6], [iv 8]]) rfl (.cons ⟨(), trivial, rfl⟩ (.cons ⟨(), trivial, rfl⟩ (.cons ⟨(), trivial, rfl⟩ (.cons ⟨(), trivial, rfl⟩ .nil)))) rfl (by decide) (zCU rfl) ?_)))
     obtain ⟨Qp, zJc, H⟩ := bnd H
     refine Tr.Qs (r := (iv Qp)) (wn rfl) rfl Tryz.call94 (zI rfl (zI rfl zS)) (fun W hW => zGW p2 zP8 zPq (zT0.ext hW.Qd) [4, 5, 6, 8] (some ⟨zIT, 0, none⟩) 4 (hW.zBX (k := 5) rfl) Qp zJc (HF.start _)) (Tr.asg rfl rfl (Tr.nil (Tr.zA (Tr.sr (Tr.mv rfl rfl (Tr.va rfl (fun _ _ a c => Jt (a.ev rfl) (a.ev rfl)) (Tr.mv rfl rfl (Tr.VJ 3 [(53, bV ((Qp != 6) && (Qp != 8)))] [(1, bx zt #[iv p0.Kind, sv p0.Name, iv p0.At.X, iv p0.At.Y, sL zF p0.Points zG, iv p0.NX, iv p0.NY, sL zM p0.Steps zL] 46), (2, bx Qg #[iv p1.dark, sv p1.tool, iv p1.place.X, iv p1.place.Y, bV p1.placed, iv p1.last.Kind, sv p1.last.Name, iv p1.last.At.X, iv p1.last.At.Y, sL za p1.last.Points zb, iv p1.last.NX, iv p1.last.NY, sL QS p1.last.Steps QR] 125), (5, ow (some ⟨zIT, 0, none⟩) 4 3 QO [4, 5, 6, 8])] ?_ ?_))))))))
     ·cases zGt : (Qp != 6)
      ·exact Tr.pass rfl rfl rfl rfl rfl (by decide) (Tr.pass rfl rfl rfl rfl rfl (by decide) (Tr.va rfl (fun _ _ a c => zo (a.ev rfl) (a.ev rfl)) (Tr.nil (Tr.Qi (.cons rfl .nil) (.cons rfl (.cons rfl (.cons rfl .nil)))))))
      ·exact Tr.val (wg rfl rfl rfl) rfl (fun _ _ a c => run_move (a.ev rfl)) (Tr.val (wg rfl rfl rfl) rfl (fun _ _ a c => Jt (a.ev rfl) (a.ev rfl)) (Tr.va rfl (fun _ _ a c => zn (a.ev rfl) (a.ev rfl)) (Tr.nil (Tr.Qi (.cons rfl .nil) (.cons rfl (.cons rfl (.cons rfl .nil)))))))
     ·show Tr _ _ (LF [(53, bV ((Qp != 6) && (Qp != 8)))]) (LE [(1, bx zt #[iv p0.Kind, sv p0.Name, iv p0.At.X, iv p0.At.Y, sL zF p0.Points zG, iv p0.NX, iv p0.NY, sL zM p0.Steps zL] 46), (2, bx Qg #[iv p1.dark, sv p1.tool, iv p1.place.X, iv p1.place.Y, bV p1.placed, iv p1.last.Kind, sv p1.last.Name, iv p1.last.At.X, iv p1.last.At.Y, sL za p1.last.Points zb, iv p1.last.NX, iv p1.last.NY, sL QS p1.last.Steps QR] 125), (5, ow (some ⟨zIT, 0, none⟩) 4 3 QO [4, 5, 6, 8])]) _
      refine Tr.asg rfl rfl (Tr.nil (Tr.zA (Tr.ret (Tr.QI (Tr.zg ?_)))))
      obtain rfl := oI H
      exact Tr.out (m := [bV ((Qp != 6) && (Qp != 8))]) [] (zU rfl zT) (fun W hW => ⟨rfl, hW.low leB⟩)
    ·refine Tr.sr (Tr.va rfl (fun _ _ a c => Qa (a.ev rfl) (a.ev rfl)) (Tr.asg rfl rfl (Tr.nil (Tr.zA (Tr.cond rfl H (fun H => ?_) (fun H => ?_))))))
     ·refine Tr.sr (Tr.va rfl (fun _ _ a c => zB zPh (a.ev rfl)) (Tr.va rfl (fun _ _ a c => zD zNR (a.ev rfl) (rdb c (vs := [iv p1.dark, sv p1.tool, iv p1.place.X, iv p1.place.Y, bV p1.placed, iv p1.last.Kind, sv p1.last.Name, iv p1.last.At.X, iv p1.last.At.Y, sL za p1.last.Points zb, iv p1.last.NX, iv p1.last.NY, sL QS p1.last.Steps QR]) (k := 2) rfl 4) rfl) (Tr.mv rfl rfl (Tr.VJ 6 [(3, pV zt), (4, pV Qg), (64, bV (p1.placed && (QQ p1.place p0.At)))] [(1, bx zt #[iv p0.Kind, sv p0.Name, iv p0.At.X, iv p0.At.Y, sL zF p0.Points zG, iv p0.NX, iv p0.NY, sL zM p0.Steps zL] 46), (2, bx Qg #[iv p1.dark, sv p1.tool, iv p1.place.X, iv p1.place.Y, bV p1.placed, iv p1.last.Kind, sv p1.last.Name, iv p1.last.At.X, iv p1.last.At.Y, sL za p1.last.Points zb, iv p1.last.NX, iv p1.last.NY, sL QS p1.last.Steps QR] 125)] ?_ ?_))))
      ·cases zGt : p1.placed
       ·exact Tr.pass rfl rfl rfl rfl rfl (by decide) (Tr.pass rfl rfl rfl rfl rfl (by decide) (Tr.pass rfl rfl rfl rfl rfl (by decide) (Tr.pass rfl rfl rfl rfl rfl (by decide) (Tr.pass rfl rfl rfl rfl rfl (by decide) (Tr.va rfl (fun _ _ a c => zo (a.ev rfl) (a.ev rfl)) (Tr.nil (Tr.Qi (.cons rfl (.cons rfl (.cons rfl .nil))) (.cons rfl (.cons rfl .nil)))))))))
       ·exact Tr.val (wg rfl rfl rfl) rfl (fun _ _ a c => zB zPi (a.ev rfl)) (Tr.val (wg rfl rfl rfl) rfl (fun _ _ a c => zX (cs := [iv p1.place.X, iv p1.place.Y]) KT JL (a.ev rfl) (zO.take (rdb c (vs := [iv p1.dark, sv p1.tool, iv p1.place.X, iv p1.place.Y, bV true, iv p1.last.Kind, sv p1.last.Name, iv p1.last.At.X, iv p1.last.At.Y, sL za p1.last.Points zb, iv p1.last.NX, iv p1.last.NY, sL QS p1.last.Steps QR]) (k := 2) rfl 2) 2) rfl) (Tr.val (wg rfl rfl rfl) rfl (fun _ _ a c => zB WK (a.ev rfl)) (Tr.val (wg rfl rfl rfl) rfl (fun _ _ a c => zX (cs := [iv p0.At.X, iv p0.At.Y]) KT JL (a.ev rfl) (zO.take (rdb c (vs := [iv p0.Kind, sv p0.Name, iv p0.At.X, iv p0.At.Y, sL zF p0.Points zG, iv p0.NX, iv p0.NY, sL zM p0.Steps zL]) (k := 1) rfl 2) 2) rfl) (Tr.val (wg rfl rfl rfl) rfl (fun _ _ a c => zO1 p1.place p0.At (a.ev rfl) (a.ev rfl)) (Tr.va rfl (fun _ _ a c => zn (a.ev rfl) (a.ev rfl)) (Tr.nil (Tr.Qi (.cons rfl (.cons rfl (.cons rfl .nil))) (.cons rfl (.cons rfl .nil)))))))))
      ·show Tr _ _ (LF [(3, pV zt), (4, pV Qg), (64, bV (p1.placed && (QQ p1.place p0.At)))]) (LE [(1, bx zt #[iv p0.Kind, sv p0.Name, iv p0.At.X, iv p0.At.Y, sL zF p0.Points zG, iv p0.NX, iv p0.NY, sL zM p0.Steps zL] 46), (2, bx Qg #[iv p1.dark, sv p1.tool, iv p1.place.X, iv p1.place.Y, bV p1.placed, iv p1.last.Kind, sv p1.last.Name, iv p1.last.At.X, iv p1.last.At.Y, sL za p1.last.Points zb, iv p1.last.NX, iv p1.last.NY, sL QS p1.last.Steps QR] 125)]) _
       refine Tr.mv rfl rfl (Tr.VJ 5 [(3, pV zt), (4, pV Qg), (70, bV ((p1.placed && (QQ p1.place p0.At)) && (p1.last.Kind != 0)))] [(1, bx zt #[iv p0.Kind, sv p0.Name, iv p0.At.X, iv p0.At.Y, sL zF p0.Points zG, iv p0.NX, iv p0.NY, sL zM p0.Steps zL] 46), (2, bx Qg #[iv p1.dark, sv p1.tool, iv p1.place.X, iv p1.place.Y, bV p1.placed, iv p1.last.Kind, sv p1.last.Name, iv p1.last.At.X, iv p1.last.At.Y, sL za p1.last.Points zb, iv p1.last.NX, iv p1.last.NY, sL QS p1.last.Steps QR] 125)] ?_ ?_)
       ·cases zGt : (p1.placed && (QQ p1.place p0.At))
        ·exact Tr.pass rfl rfl rfl rfl rfl (by decide) (Tr.pass rfl rfl rfl rfl rfl (by decide) (Tr.pass rfl rfl rfl rfl rfl (by decide) (Tr.pass rfl rfl rfl rfl rfl (by decide) (Tr.va rfl (fun _ _ a c => zo (a.ev rfl) (a.ev rfl)) (Tr.nil (Tr.Qi (.cons rfl (.cons rfl (.cons rfl .nil))) (.cons rfl (.cons rfl .nil))))))))
        ·exact Tr.val (wg rfl rfl rfl) rfl (fun _ _ a c => zB zHc (a.ev rfl)) (Tr.val (wg rfl rfl rfl) rfl (fun _ _ a c => zB zBF (a.ev rfl)) (Tr.val (wg rfl rfl rfl) rfl (fun _ _ a c => zD QH (a.ev rfl) (rdb c (vs := [iv p1.dark, sv p1.tool, iv p1.place.X, iv p1.place.Y, bV p1.placed, iv p1.last.Kind, sv p1.last.Name, iv p1.last.At.X, iv p1.last.At.Y, sL za p1.last.Points zb, iv p1.last.NX, iv p1.last.NY, sL QS p1.last.Steps QR]) (k := 2) rfl 5) rfl) (Tr.val (wg rfl rfl rfl) rfl (fun _ _ a c => Jt (a.ev rfl) (a.ev rfl)) (Tr.va rfl (fun _ _ a c => zn (a.ev rfl) (a.ev rfl)) (Tr.nil (Tr.Qi (.cons rfl (.cons rfl (.cons rfl .nil))) (.cons rfl (.cons rfl .nil))))))))
       ·show Tr _ _ (LF [(3, pV zt), (4, pV Qg), (70, bV ((p1.placed && (QQ p1.place p0.At)) && (p1.last.Kind != 0)))]) (LE [(1, bx zt #[iv p0.Kind, sv p0.Name, iv p0.At.X, iv p0.At.Y, sL zF p0.Points zG, iv p0.NX, iv p0.NY, sL zM p0.Steps zL] 46), (2, bx Qg #[iv p1.dark, sv p1.tool, iv p1.place.X, iv p1.place.Y, bV p1.placed, iv p1.last.Kind, sv p1.last.Name, iv p1.last.At.X, iv p1.last.At.Y, sL za p1.last.Points zb, iv p1.last.NX, iv p1.last.NY, sL QS p1.last.Steps QR] 125)]) _
        refine Tr.mv rfl rfl (Tr.VJ 7 [(4, pV Qg), (78, bV (((p1.placed && (QQ p1.place p0.At)) && (p1.last.Kind != 0)) && (QQ p1.last.At p0.At)))] [(1, bx zt #[iv p0.Kind, sv p0.Name, iv p0.At.X, iv p0.At.Y, sL zF p0.Points zG, iv p0.NX, iv p0.NY, sL zM p0.Steps zL] 46), (2, bx Qg #[iv p1.dark, sv p1.tool, iv p1.place.X, iv p1.place.Y, bV p1.placed, iv p1.last.Kind, sv p1.last.Name, iv p1.last.At.X, iv p1.last.At.Y, sL za p1.last.Points zb, iv p1.last.NX, iv p1.last.NY, sL QS p1.last.Steps QR] 125)] ?_ ?_)
        ·cases zGt : ((p1.placed && (QQ p1.place p0.At)) && (p1.last.Kind != 0))
         ·exact Tr.pass rfl rfl rfl rfl rfl (by decide) (Tr.pass rfl rfl rfl rfl rfl (by decide) (Tr.pass rfl rfl rfl rfl rfl (by decide) (Tr.pass rfl rfl rfl rfl rfl (by decide) (Tr.pass rfl rfl rfl rfl rfl (by decide) (Tr.pass rfl rfl rfl rfl rfl (by decide) (Tr.va rfl (fun _ _ a c => zo (a.ev rfl) (a.ev rfl)) (Tr.nil (Tr.Qi (.cons rfl (.cons rfl .nil)) (.cons rfl (.cons rfl .nil))))))))))
         ·exact Tr.val (wg rfl rfl rfl) rfl (fun _ _ a c => zB zHc (a.ev rfl)) (Tr.val (wg rfl rfl rfl) rfl (fun _ _ a c => zB WK (a.ev rfl)) (Tr.val (wg rfl rfl rfl) rfl (fun _ _ a c => zX (cs := [iv p1.last.At.X, iv p1.last.At.Y]) KT JL (a.ev rfl) (zO.take (rdb c (vs := [iv p1.dark, sv p1.tool, iv p1.place.X, iv p1.place.Y, bV p1.placed, iv p1.last.Kind, sv p1.last.Name, iv p1.last.At.X, iv p1.last.At.Y, sL za p1.last.Points zb, iv p1.last.NX, iv p1.last.NY, sL QS p1.last.Steps QR]) (k := 2) rfl 7) 2) rfl) (Tr.val (wg rfl rfl rfl) rfl (fun _ _ a c => zB WK (a.ev rfl)) (Tr.val (wg rfl rfl rfl) rfl (fun _ _ a c => zX (cs := [iv p0.At.X, iv p0.At.Y]) KT JL (a.ev rfl) (zO.take (rdb c (vs := [iv p0.Kind, sv p0.Name, iv p0.At.X, iv p0.At.Y, sL zF p0.Points zG, iv p0.NX, iv p0.NY, sL zM p0.Steps zL]) (k := 1) rfl 2) 2) rfl) (Tr.val (wg rfl rfl rfl) rfl (fun _ _ a c => zO1 p1.last.At p0.At (a.ev rfl) (a.ev rfl)) (Tr.va rfl (fun _ _ a c => zn (a.ev rfl) (a.ev rfl)) (Tr.nil (Tr.Qi (.cons rfl (.cons rfl .nil)) (.cons rfl (.cons rfl .nil))))))))))
        ·show Tr _ _ (LF [(4, pV Qg), (78, bV (((p1.placed && (QQ p1.place p0.At)) && (p1.last.Kind != 0)) && (QQ p1.last.At p0.At)))]) (LE [(1, bx zt #[iv p0.Kind, sv p0.Name, iv p0.At.X, iv p0.At.Y, sL zF p0.Points zG, iv p0.NX, iv p0.NY, sL zM p0.Steps zL] 46), (2, bx Qg #[iv p1.dark, sv p1.tool, iv p1.place.X, iv p1.place.Y, bV p1.placed, iv p1.last.Kind, sv p1.last.Name, iv p1.last.At.X, iv p1.last.At.Y, sL za p1.last.Points zb, iv p1.last.NX, iv p1.last.NY, sL QS p1.last.Steps QR] 125)]) _
         refine Tr.mv rfl rfl (Tr.VJ 4 [(4, pV Qg), (83, bV ((((p1.placed && (QQ p1.place p0.At)) && (p1.last.Kind != 0)) && (QQ p1.last.At p0.At)) && (!sEq p1.tool ByteArray.empty)))] [(1, bx zt #[iv p0.Kind, sv p0.Name, iv p0.At.X, iv p0.At.Y, sL zF p0.Points zG, iv p0.NX, iv p0.NY, sL zM p0.Steps zL] 46), (2, bx Qg #[iv p1.dark, sv p1.tool, iv p1.place.X, iv p1.place.Y, bV p1.placed, iv p1.last.Kind, sv p1.last.Name, iv p1.last.At.X, iv p1.last.At.Y, sL za p1.last.Points zb, iv p1.last.NX, iv p1.last.NY, sL QS p1.last.Steps QR] 125)] ?_ ?_)
         ·cases zGt : (((p1.placed && (QQ p1.place p0.At)) && (p1.last.Kind != 0)) && (QQ p1.last.At p0.At))
          ·exact Tr.pass rfl rfl rfl rfl rfl (by decide) (Tr.pass rfl rfl rfl rfl rfl (by decide) (Tr.pass rfl rfl rfl rfl rfl (by decide) (Tr.va rfl (fun _ _ a c => zo (a.ev rfl) (a.ev rfl)) (Tr.nil (Tr.Qi (.cons rfl (.cons rfl .nil)) (.cons rfl (.cons rfl .nil)))))))
          ·exact Tr.val (wg rfl rfl rfl) rfl (fun _ _ a c => zB zJj (a.ev rfl)) (Tr.val (wg rfl rfl rfl) rfl (fun _ _ a c => zD zHF (a.ev rfl) (rdb c (vs := [iv p1.dark, sv p1.tool, iv p1.place.X, iv p1.place.Y, bV p1.placed, iv p1.last.Kind, sv p1.last.Name, iv p1.last.At.X, iv p1.last.At.Y, sL za p1.last.Points zb, iv p1.last.NX, iv p1.last.NY, sL QS p1.last.Steps QR]) (k := 2) rfl 1) rfl) (Tr.val (wg rfl rfl rfl) rfl (fun _ _ a c => zLW (a.ev rfl) (a.ev rfl)) (Tr.va rfl (fun _ _ a c => zn (a.ev rfl) (a.ev rfl)) (Tr.nil (Tr.Qi (.cons rfl (.cons rfl .nil)) (.cons rfl (.cons rfl .nil)))))))
         ·show Tr _ _ (LF [(4, pV Qg), (83, bV ((((p1.placed && (QQ p1.place p0.At)) && (p1.last.Kind != 0)) && (QQ p1.last.At p0.At)) && (!sEq p1.tool ByteArray.empty)))]) (LE [(1, bx zt #[iv p0.Kind, sv p0.Name, iv p0.At.X, iv p0.At.Y, sL zF p0.Points zG, iv p0.NX, iv p0.NY, sL zM p0.Steps zL] 46), (2, bx Qg #[iv p1.dark, sv p1.tool, iv p1.place.X, iv p1.place.Y, bV p1.placed, iv p1.last.Kind, sv p1.last.Name, iv p1.last.At.X, iv p1.last.At.Y, sL za p1.last.Points zb, iv p1.last.NX, iv p1.last.NY, sL QS p1.last.Steps QR] 125)]) _
          refine Tr.mv rfl rfl (Tr.VJ 7 [(4, pV Qg), (91, bV (((((p1.placed && (QQ p1.place p0.At)) && (p1.last.Kind != 0)) && (QQ p1.last.At p0.At)) && (!sEq p1.tool ByteArray.empty)) && (sEq p1.last.Name p1.tool)))] [(1, bx zt #[iv p0.Kind, sv p0.Name, iv p0.At.X, iv p0.At.Y, sL zF p0.Points zG, iv p0.NX, iv p0.NY, sL zM p0.Steps zL] 46), (2, bx Qg #[iv p1.dark, sv p1.tool, iv p1.place.X, iv p1.place.Y, bV p1.placed, iv p1.last.Kind, sv p1.last.Name, iv p1.last.At.X, iv p1.last.At.Y, sL za p1.last.Points zb, iv p1.last.NX, iv p1.last.NY, sL QS p1.last.Steps QR] 125)] ?_ ?_)
          ·cases zGt : ((((p1.placed && (QQ p1.place p0.At)) && (p1.last.Kind != 0)) && (QQ p1.last.At p0.At)) && (!sEq p1.tool ByteArray.empty))
           ·exact Tr.pass rfl rfl rfl rfl rfl (by decide) (Tr.pass rfl rfl rfl rfl rfl (by decide) (Tr.pass rfl rfl rfl rfl rfl (by decide) (Tr.pass rfl rfl rfl rfl rfl (by decide) (Tr.pass rfl rfl rfl rfl rfl (by decide) (Tr.pass rfl rfl rfl rfl rfl (by decide) (Tr.va rfl (fun _ _ a c => zo (a.ev rfl) (a.ev rfl)) (Tr.nil (Tr.Qi (.cons rfl (.cons rfl .nil)) (.cons rfl (.cons rfl .nil))))))))))
           ·exact Tr.val (wg rfl rfl rfl) rfl (fun _ _ a c => zB zHc (a.ev rfl)) (Tr.val (wg rfl rfl rfl) rfl (fun _ _ a c => zB zFn (a.ev rfl)) (Tr.val (wg rfl rfl rfl) rfl (fun _ _ a c => zD zHF (a.ev rfl) (rdb c (vs := [iv p1.dark, sv p1.tool, iv p1.place.X, iv p1.place.Y, bV p1.placed, iv p1.last.Kind, sv p1.last.Name, iv p1.last.At.X, iv p1.last.At.Y, sL za p1.last.Points zb, iv p1.last.NX, iv p1.last.NY, sL QS p1.last.Steps QR]) (k := 2) rfl 6) rfl) (Tr.val (wg rfl rfl rfl) rfl (fun _ _ a c => zB zJj (a.ev rfl)) (Tr.val (wg rfl rfl rfl) rfl (fun _ _ a c => zD zHF (a.ev rfl) (rdb c (vs := [iv p1.dark, sv p1.tool, iv p1.place.X, iv p1.place.Y, bV p1.placed, iv p1.last.Kind, sv p1.last.Name, iv p1.last.At.X, iv p1.last.At.Y, sL za p1.last.Points zb, iv p1.last.NX, iv p1.last.NY, sL QS p1.last.Steps QR]) (k := 2) rfl 1) rfl) (Tr.val (wg rfl rfl rfl) rfl (fun _ _ a c => zLX (a.ev rfl) (a.ev rfl)) (Tr.va rfl (fun _ _ a c => zn (a.ev rfl) (a.ev rfl)) (Tr.nil (Tr.Qi (.cons rfl (.cons rfl .nil)) (.cons rfl (.cons rfl .nil))))))))))
          ·show Tr _ _ (LF [(4, pV Qg), (91, bV (((((p1.placed && (QQ p1.place p0.At)) && (p1.last.Kind != 0)) && (QQ p1.last.At p0.At)) && (!sEq p1.tool ByteArray.empty)) && (sEq p1.last.Name p1.tool)))]) (LE [(1, bx zt #[iv p0.Kind, sv p0.Name, iv p0.At.X, iv p0.At.Y, sL zF p0.Points zG, iv p0.NX, iv p0.NY, sL zM p0.Steps zL] 46), (2, bx Qg #[iv p1.dark, sv p1.tool, iv p1.place.X, iv p1.place.Y, bV p1.placed, iv p1.last.Kind, sv p1.last.Name, iv p1.last.At.X, iv p1.last.At.Y, sL za p1.last.Points zb, iv p1.last.NX, iv p1.last.NY, sL QS p1.last.Steps QR] 125)]) _
           refine Tr.mv rfl rfl (Tr.VJ 4 [(4, pV Qg), (96, bV ((((((p1.placed && (QQ p1.place p0.At)) && (p1.last.Kind != 0)) && (QQ p1.last.At p0.At)) && (!sEq p1.tool ByteArray.empty)) && (sEq p1.last.Name p1.tool)) && (p1.dark != 0)))] [(1, bx zt #[iv p0.Kind, sv p0.Name, iv p0.At.X, iv p0.At.Y, sL zF p0.Points zG, iv p0.NX, iv p0.NY, sL zM p0.Steps zL] 46), (2, bx Qg #[iv p1.dark, sv p1.tool, iv p1.place.X, iv p1.place.Y, bV p1.placed, iv p1.last.Kind, sv p1.last.Name, iv p1.last.At.X, iv p1.last.At.Y, sL za p1.last.Points zb, iv p1.last.NX, iv p1.last.NY, sL QS p1.last.Steps QR] 125)] ?_ ?_)
           ·cases zGt : (((((p1.placed && (QQ p1.place p0.At)) && (p1.last.Kind != 0)) && (QQ p1.last.At p0.At)) && (!sEq p1.tool ByteArray.empty)) && (sEq p1.last.Name p1.tool))
            ·exact Tr.pass rfl rfl rfl rfl rfl (by decide) (Tr.pass rfl rfl rfl rfl rfl (by decide) (Tr.pass rfl rfl rfl rfl rfl (by decide) (Tr.va rfl (fun _ _ a c => zo (a.ev rfl) (a.ev rfl)) (Tr.nil (Tr.Qi (.cons rfl (.cons rfl .nil)) (.cons rfl (.cons rfl .nil)))))))
            ·exact Tr.val (wg rfl rfl rfl) rfl (fun _ _ a c => zB zJk (a.ev rfl)) (Tr.val (wg rfl rfl rfl) rfl (fun _ _ a c => zD QH (a.ev rfl) (rdb c (vs := [iv p1.dark, sv p1.tool, iv p1.place.X, iv p1.place.Y, bV p1.placed, iv p1.last.Kind, sv p1.last.Name, iv p1.last.At.X, iv p1.last.At.Y, sL za p1.last.Points zb, iv p1.last.NX, iv p1.last.NY, sL QS p1.last.Steps QR]) (k := 2) rfl 0) rfl) (Tr.val (wg rfl rfl rfl) rfl (fun _ _ a c => Jt (a.ev rfl) (a.ev rfl)) (Tr.va rfl (fun _ _ a c => zn (a.ev rfl) (a.ev rfl)) (Tr.nil (Tr.Qi (.cons rfl (.cons rfl .nil)) (.cons rfl (.cons rfl .nil)))))))
           ·show Tr _ _ (LF [(4, pV Qg), (96, bV ((((((p1.placed && (QQ p1.place p0.At)) && (p1.last.Kind != 0)) && (QQ p1.last.At p0.At)) && (!sEq p1.tool ByteArray.empty)) && (sEq p1.last.Name p1.tool)) && (p1.dark != 0)))]) (LE [(1, bx zt #[iv p0.Kind, sv p0.Name, iv p0.At.X, iv p0.At.Y, sL zF p0.Points zG, iv p0.NX, iv p0.NY, sL zM p0.Steps zL] 46), (2, bx Qg #[iv p1.dark, sv p1.tool, iv p1.place.X, iv p1.place.Y, bV p1.placed, iv p1.last.Kind, sv p1.last.Name, iv p1.last.At.X, iv p1.last.At.Y, sL za p1.last.Points zb, iv p1.last.NX, iv p1.last.NY, sL QS p1.last.Steps QR] 125)]) _
            refine Tr.mv rfl rfl (Tr.VJ 7 [(104, bV (((((((p1.placed && (QQ p1.place p0.At)) && (p1.last.Kind != 0)) && (QQ p1.last.At p0.At)) && (!sEq p1.tool ByteArray.empty)) && (sEq p1.last.Name p1.tool)) && (p1.dark != 0)) && (p1.last.NX == p1.dark)))] [(1, bx zt #[iv p0.Kind, sv p0.Name, iv p0.At.X, iv p0.At.Y, sL zF p0.Points zG, iv p0.NX, iv p0.NY, sL zM p0.Steps zL] 46), (2, bx Qg #[iv p1.dark, sv p1.tool, iv p1.place.X, iv p1.place.Y, bV p1.placed, iv p1.last.Kind, sv p1.last.Name, iv p1.last.At.X, iv p1.last.At.Y, sL za p1.last.Points zb, iv p1.last.NX, iv p1.last.NY, sL QS p1.last.Steps QR] 125)] ?_ ?_)
            ·cases zGt : ((((((p1.placed && (QQ p1.place p0.At)) && (p1.last.Kind != 0)) && (QQ p1.last.At p0.At)) && (!sEq p1.tool ByteArray.empty)) && (sEq p1.last.Name p1.tool)) && (p1.dark != 0))
             ·exact Tr.pass rfl rfl rfl rfl rfl (by decide) (Tr.pass rfl rfl rfl rfl rfl (by decide) (Tr.pass rfl rfl rfl rfl rfl (by decide) (Tr.pass rfl rfl rfl rfl rfl (by decide) (Tr.pass rfl rfl rfl rfl rfl (by decide) (Tr.pass rfl rfl rfl rfl rfl (by decide) (Tr.va rfl (fun _ _ a c => zo (a.ev rfl) (a.ev rfl)) (Tr.nil (Tr.Qi (.cons rfl .nil) (.cons rfl (.cons rfl .nil))))))))))
             ·exact Tr.val (wg rfl rfl rfl) rfl (fun _ _ a c => zB zHc (a.ev rfl)) (Tr.val (wg rfl rfl rfl) rfl (fun _ _ a c => zB zFm (a.ev rfl)) (Tr.val (wg rfl rfl rfl) rfl (fun _ _ a c => zD QH (a.ev rfl) (rdb c (vs := [iv p1.dark, sv p1.tool, iv p1.place.X, iv p1.place.Y, bV p1.placed, iv p1.last.Kind, sv p1.last.Name, iv p1.last.At.X, iv p1.last.At.Y, sL za p1.last.Points zb, iv p1.last.NX, iv p1.last.NY, sL QS p1.last.Steps QR]) (k := 2) rfl 10) rfl) (Tr.val (wg rfl rfl rfl) rfl (fun _ _ a c => zB zJk (a.ev rfl)) (Tr.val (wg rfl rfl rfl) rfl (fun _ _ a c => zD QH (a.ev rfl) (rdb c (vs := [iv p1.dark, sv p1.tool, iv p1.place.X, iv p1.place.Y, bV p1.placed, iv p1.last.Kind, sv p1.last.Name, iv p1.last.At.X, iv p1.last.At.Y, sL za p1.last.Points zb, iv p1.last.NX, iv p1.last.NY, sL QS p1.last.Steps QR]) (k := 2) rfl 0) rfl) (Tr.val (wg rfl rfl rfl) rfl (fun _ _ a c => Qa (a.ev rfl) (a.ev rfl)) (Tr.va rfl (fun _ _ a c => zn (a.ev rfl) (a.ev rfl)) (Tr.nil (Tr.Qi (.cons rfl .nil) (.cons rfl (.cons rfl .nil))))))))))
            ·show Tr _ _ (LF [(104, bV (((((((p1.placed && (QQ p1.place p0.At)) && (p1.last.Kind != 0)) && (QQ p1.last.At p0.At)) && (!sEq p1.tool ByteArray.empty)) && (sEq p1.last.Name p1.tool)) && (p1.dark != 0)) && (p1.last.NX == p1.dark)))]) (LE [(1, bx zt #[iv p0.Kind, sv p0.Name, iv p0.At.X, iv p0.At.Y, sL zF p0.Points zG, iv p0.NX, iv p0.NY, sL zM p0.Steps zL] 46), (2, bx Qg #[iv p1.dark, sv p1.tool, iv p1.place.X, iv p1.place.Y, bV p1.placed, iv p1.last.Kind, sv p1.last.Name, iv p1.last.At.X, iv p1.last.At.Y, sL za p1.last.Points zb, iv p1.last.NX, iv p1.last.NY, sL QS p1.last.Steps QR] 125)]) _
             refine Tr.asg rfl rfl (Tr.nil (Tr.zA (Tr.ret (Tr.QI (Tr.zg ?_)))))
             obtain rfl := oI H
             exact Tr.out (m := [bV (((((((p1.placed && (QQ p1.place p0.At)) && (p1.last.Kind != 0)) && (QQ p1.last.At p0.At)) && (!sEq p1.tool ByteArray.empty)) && (sEq p1.last.Name p1.tool)) && (p1.dark != 0)) && (p1.last.NX == p1.dark))]) [] (zU rfl zT) (fun W hW => ⟨rfl, hW.low leB⟩)
     ·refine Tr.skip (Tr.zh (Tr.zA (Tr.sr (Tr.asg rfl rfl (Tr.nil (Tr.zA (Tr.ret ?_)))))))
      obtain rfl := oI H
      exact Tr.out (m := [bV false]) [] (zU rfl zT) (fun W hW => ⟨rfl, hW.low leB⟩)

end Go.Proofs.YtoageaoknnnfbaaGreatDoor
