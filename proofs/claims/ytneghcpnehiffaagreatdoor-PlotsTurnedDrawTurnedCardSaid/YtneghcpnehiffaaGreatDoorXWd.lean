/- The walks: each function computes its plain function. -/
import Derived.Test.YtneghcpnehiffaaGreatDoorXWc
namespace Go.Proofs.YtneghcpnehiffaaGreatDoor
open Go.RowKit
set_option maxRecDepth 100000
set_option maxHeartbeats 1000000
theorem zHx (N : Nat) (rec : ByteArray → (List zC) → Option ByteArray) (hrec : ∀ {w : Bs} (p0 : ByteArray) (zF : Option Addr) (zG : Nat) (bp0 : Nat) (p1 : (List zC)) (QB : Option Addr) (QA : Nat) (Qt : Sl w.R w.W zJ QB QA p1) (r : ByteArray) (H : rec p0 p1 = some r) (hE : HF w w.W (LEn [sb 84 5 bp0 zF zG p0])), Calls Tryz.prog 35 [pV bp0, sL QB p1 QA].toArray w.W fun e W' => ∃ u : (Option Addr × Nat), e = .returned (.tuple #[]) ∧ (True) ∧ HF w W' (LEn [sb 84 5 bp0 u.1 u.2 r])) {w : Bs} (p0 : ByteArray) (zF : Option Addr) (zG : Nat) (bp0 : Nat) (p1 : (List zC)) (QB : Option Addr) (QA : Nat) (Qt : Sl w.R w.W zJ QB QA p1) (r : ByteArray) (H : zCl N rec p0 p1 = some r) (hE : HF w w.W (LEn [sb 84 5 bp0 zF zG p0])) : Calls Tryz.prog 35 [pV bp0, sL QB p1 QA].toArray w.W fun e W' => ∃ u : (Option Addr × Nat), e = .returned (.tuple #[]) ∧ (True) ∧ HF w W' (LEn [sb 84 5 bp0 u.1 u.2 r]) := by
 unfold zCl at H
 have leB := Bs.Le.refl w
 refine Tr.enter (n := 91) Tryz.func35 rfl rfl rfl hE (Tr.sr (Tr.mv rfl rfl (Tr.va rfl (fun _ _ a c => QF zF8 (a.ev rfl)) (Tr.mv rfl rfl (Tr.nil (Tr.zA (Tr.block (Tr.loop (σ := (List zC) × Nat × ByteArray × (Option Addr) × Nat) (fun m w s => m = s.1.length + 1 ∧ s.1 = List.drop s.2.1 p1 ∧ s.2.1 ≤ p1.length ∧ Qh rec s.1 s.2.1 s.2.2.1 = some r) (fun s => [(0, pV bp0), (6, sL QB p1 QA), (7, iv (p1.length : Int)), (8, iv (s.2.1 : Int))]) (fun s => [(0, sb 84 5 bp0 s.2.2.2.1 s.2.2.2.2 s.2.2.1)]) (p1.length + 1) (p1, 0, p0, zF, zG) ⟨rfl, rfl, Nat.zero_le _, H⟩ (.cons rfl (.cons rfl (.cons rfl (.cons rfl .nil)))) (.cons rfl .nil) (fun _ _ h => absurd h.1 (by simp)) ?_))))))))
 intro w Qc m s hs
 obtain ⟨zY, iL1, m194, Am194, cm194⟩ := s
 obtain ⟨Ki, QE, hiL1, H⟩ := hs
 replace QE : zY = List.drop iL1 p1 := QE
 replace H : Qh rec zY iL1 m194 = some r := H
 replace Ki : m + 1 = zY.length + 1 := Ki
 replace Qt := Qt.leR Qc
 replace leB := leB.trans Qc
 obtain rfl : m = zY.length := by omega
 clear Ki
 dsimp only
 cases zY with
 | nil =>
  rw [Qh.eq_1] at H
  refine Tr.sr (Tr.va rfl (fun _ _ a c => QD (a.ev rfl) (a.ev rfl)) (Tr.nil (Tr.zA (Tr.seq (Tr.Vy rfl (JA QE) (Tr.exit (Tr.ze (Tr.ze (Tr.QK (Tr.zZE ?_))))))))))
  obtain rfl := oI H
  exact Tr.out (m := []) [] zV (fun W hW => ⟨(Am194, cm194), rfl, trivial, HF.zGc leB (hW.pick (ks := [0]) (by decide) (zQ rfl za)) ⟨zfD, trivial⟩⟩)
 | cons xL1 zY =>
  rw [Qh.eq_2] at H
  refine Tr.sr (Tr.va rfl (fun _ _ a c => QD (a.ev rfl) (a.ev rfl)) (Tr.nil (Tr.zA (Tr.seq (Tr.Vx rfl (JU QE) (Tr.skip (Tr.zA (Tr.seq (Tr.block (Tr.sr ?_))))))))))
  obtain ⟨zn6, hRu195, zcb, hcu195⟩ := (Qt).el (KH QE)
  obtain ⟨⟨zBo, zBg⟩, ⟨zBn, zBf⟩⟩ := zn6
  obtain ⟨zMG, zMF⟩ := WI.1 zcb
  replace zMG : Sl w.R w.W zz zBo zBg xL1.Points := zMG
  replace zMF : Sl w.R w.W zJ zBn zBf xL1.Steps := zMF
  refine Tr.va rfl (fun _ _ a c => zL zIs (a.ev rfl) Qt.form (a.ev rfl) (Int.natCast_nonneg _) (QC QE)) (Tr.va rfl (fun _ _ a c => zX (cs := [iv xL1.Kind, sv xL1.Name, iv xL1.At.X, iv xL1.At.Y, sL zBo xL1.Points zBg, iv xL1.NX, iv xL1.NY, sL zBn xL1.Steps zBf]) zLb zET (a.ev rfl) (zO.take (rdR hRu195 hcu195 c) 8) rfl) (Tr.alloc 11 (wn rfl) rfl zSP fun zo8 => (Tr.store 11 (cs := [iv xL1.Kind, sv xL1.Name, iv xL1.At.X, iv xL1.At.Y, sL zBo xL1.Points zBg, iv xL1.NX, iv xL1.NY, sL zBn xL1.Steps zBf]) [iv xL1.Kind, sv xL1.Name, iv xL1.At.X, iv xL1.At.Y, sL zBo xL1.Points zBg, iv xL1.NX, iv xL1.NY, sL zBn xL1.Steps zBf] (wn rfl) rfl rfl rfl rfl zET rfl rfl rfl (Tr.nil (Tr.zA (Tr.sr (Tr.va rfl (fun _ _ a c => zB zEG (a.ev rfl)) (Tr.va rfl (fun _ _ a c => zD zm (a.ev rfl) (rdb c (vs := [iv xL1.Kind, sv xL1.Name, iv xL1.At.X, iv xL1.At.Y, sL zBo xL1.Points zBg, iv xL1.NX, iv xL1.NY, sL zBn xL1.Steps zBf]) (k := 11) rfl 0) rfl) (Tr.nil (Tr.zA (Tr.block (Tr.sr (Tr.va rfl (fun _ _ a c => Ql (a.ev rfl) (a.ev rfl)) ?_)))))))))))))
  refine Tr.asg rfl rfl (Tr.nil (Tr.zA (Tr.cond rfl H (fun H => ?_) (fun H => ?_))))
  ·refine Tr.region (Tr.mv rfl rfl ?_)
   obtain ⟨zYV, zkl, H⟩ := bnd H
   refine Tr.VB [0] [sb 84 5 bp0 Am194 cm194 m194] (U := (Option Addr × Nat)) (fun u => (.tuple #[iv (((⟨#[100, 97, 114, 107, 10]⟩) : ByteArray).size : Int), .nilIface])) (fun u => True) (fun u => [sb 84 5 bp0 u.1 u.2 zYV]) rfl (zQ rfl za) (fun _ => rfl) (wn rfl) rfl Tryz.call32 (zH rfl (zH rfl zP)) (fun W hW hp hE => QG m194 Am194 cm194 bp0 (⟨#[100, 97, 114, 107, 10]⟩) zYV zkl hE) ?_
   intro u hu
   obtain ⟨zdn, zdP⟩ := u
   have gy197_0 := hu
   have zmY : True := gy197_0 --@phi
   dsimp only
   exact Tr.nil (Tr.zh (Tr.zh (Tr.zA (Tr.region (Tr.va rfl (fun _ _ a c => zo (a.ev rfl) (a.ev rfl)) (Tr.mv rfl rfl (Tr.nil (Tr.zf Qc (zY, (iL1 + 1), zYV, zdn, zdP) ⟨rfl, Qe QE, QC QE, H⟩ (.cons rfl (.cons rfl (.cons rfl (.cons (congrArg (fun z => some (Value.int .i64 z)) (Qd QE Qt.form)) .nil)))) (.cons rfl .nil)))))))))
  ·refine Tr.sr (Tr.va rfl (fun _ _ a c => Ql (a.ev rfl) (a.ev rfl)) (Tr.asg rfl rfl (Tr.nil (Tr.zA (Tr.cond rfl H (fun H => ?_) (fun H => ?_))))))
   ·refine Tr.region (Tr.mv rfl rfl ?_)
    obtain ⟨zYU, zkj, H⟩ := bnd H
    refine Tr.VB [0] [sb 84 5 bp0 Am194 cm194 m194] (U := (Option Addr × Nat)) (fun u => (.tuple #[iv (((⟨#[99, 108, 101, 97, 114, 10]⟩) : ByteArray).size : Int), .nilIface])) (fun u => True) (fun u => [sb 84 5 bp0 u.1 u.2 zYU]) rfl (zQ rfl za) (fun _ => rfl) (wn rfl) rfl Tryz.call32 (zH rfl (zH rfl zP)) (fun W hW hp hE => QG m194 Am194 cm194 bp0 (⟨#[99, 108, 101, 97, 114, 10]⟩) zYU zkj hE) ?_
    intro u hu
    obtain ⟨zdm, zdO⟩ := u
    have gy199_0 := hu
    have zmX : True := gy199_0 --@phi
    dsimp only
    exact Tr.nil (Tr.zh (Tr.zh (Tr.zA (Tr.region (Tr.va rfl (fun _ _ a c => zo (a.ev rfl) (a.ev rfl)) (Tr.mv rfl rfl (Tr.nil (Tr.zf Qc (zY, (iL1 + 1), zYU, zdm, zdO) ⟨rfl, Qe QE, QC QE, H⟩ (.cons rfl (.cons rfl (.cons rfl (.cons (congrArg (fun z => some (Value.int .i64 z)) (Qd QE Qt.form)) .nil)))) (.cons rfl .nil)))))))))
   ·refine Tr.sr (Tr.va rfl (fun _ _ a c => Ql (a.ev rfl) (a.ev rfl)) (Tr.asg rfl rfl (Tr.nil (Tr.zA (Tr.cond rfl H (fun H => ?_) (fun H => ?_))))))
    ·refine Tr.region (Tr.mv rfl rfl (Tr.va rfl (fun _ _ a c => zB zNZ (a.ev rfl)) (Tr.va rfl (fun _ _ a c => zD zPv (a.ev rfl) (rdb c (vs := [iv xL1.Kind, sv xL1.Name, iv xL1.At.X, iv xL1.At.Y, sL zBo xL1.Points zBg, iv xL1.NX, iv xL1.NY, sL zBn xL1.Steps zBf]) (k := 11) rfl 1) rfl) ?_)))
     obtain ⟨t201, ht201, H⟩ := bnd H
     refine Tr.va rfl (fun _ _ a c => Vk (a.ev rfl) (a.ev rfl) ht201) ?_
     obtain ⟨zb6, ht202, H⟩ := bnd H
     refine Tr.va rfl (fun _ _ a c => Vk (a.ev rfl) (a.ev rfl) ht202) ?_
     obtain ⟨zYT, zki, H⟩ := bnd H
     refine Tr.VB [0] [sb 84 5 bp0 Am194 cm194 m194] (U := (Option Addr × Nat)) (fun u => (.tuple #[iv ((zb6 : ByteArray).size : Int), .nilIface])) (fun u => True) (fun u => [sb 84 5 bp0 u.1 u.2 zYT]) rfl (zQ rfl za) (fun _ => rfl) (wn rfl) rfl Tryz.call32 (zH rfl (zH rfl zP)) (fun W hW hp hE => QG m194 Am194 cm194 bp0 zb6 zYT zki hE) ?_
     intro u hu
     obtain ⟨zdl, zdN⟩ := u
     have gy203_0 := hu
     have zmW : True := gy203_0 --@phi
     dsimp only
     exact Tr.nil (Tr.zh (Tr.zh (Tr.zA (Tr.region (Tr.va rfl (fun _ _ a c => zo (a.ev rfl) (a.ev rfl)) (Tr.mv rfl rfl (Tr.nil (Tr.zf Qc (zY, (iL1 + 1), zYT, zdl, zdN) ⟨rfl, Qe QE, QC QE, H⟩ (.cons rfl (.cons rfl (.cons rfl (.cons (congrArg (fun z => some (Value.int .i64 z)) (Qd QE Qt.form)) .nil)))) (.cons rfl .nil)))))))))
    ·refine Tr.sr (Tr.va rfl (fun _ _ a c => Ql (a.ev rfl) (a.ev rfl)) (Tr.asg rfl rfl (Tr.nil (Tr.zA (Tr.cond rfl H (fun H => ?_) (fun H => ?_))))))
     ·refine Tr.region (Tr.mv rfl rfl (Tr.va rfl (fun _ _ a c => zB zAD (a.ev rfl)) (Tr.va rfl (fun _ _ a c => zX (cs := [iv xL1.At.X, iv xL1.At.Y]) Kk JG (a.ev rfl) (zO.take (rdb c (vs := [iv xL1.Kind, sv xL1.Name, iv xL1.At.X, iv xL1.At.Y, sL zBo xL1.Points zBg, iv xL1.NX, iv xL1.NY, sL zBn xL1.Steps zBf]) (k := 11) rfl 2) 2) rfl) (Tr.buildSlice 12 (e := 27) (vs := [(0, .agg #[iv xL1.At.X, iv xL1.At.Y])]) (cs := [iv xL1.At.X, iv xL1.At.Y]) (wn rfl) rfl (zi rfl QW) (by kernel_rfl) fun zol => (Tr.own 12 zz [xL1.At] (css := [[iv xL1.At.X, iv xL1.At.Y]]) rfl (.cons ⟨(), trivial, rfl⟩ .nil) rfl (by decide) (zDb rfl) ?_)))))
      obtain ⟨zbo, zkh, H⟩ := bnd H
      refine Tr.Qa (r := (sv zbo)) (wn rfl) rfl Tryz.call34 (zH rfl zP) (fun W hW => zAO [xL1.At] (some ⟨zol, 0, none⟩) 1 (hW.zCj (k := 12) rfl) zbo zkh (HF.start _)) ?_
      obtain ⟨zjV, ht207, H⟩ := bnd H
      refine Tr.va rfl (fun _ _ a c => Vk (a.ev rfl) (a.ev rfl) ht207) ?_
      obtain ⟨t208, ht208, H⟩ := bnd H
      refine Tr.va rfl (fun _ _ a c => Vk (a.ev rfl) (a.ev rfl) ht208) ?_
      obtain ⟨zN0, zZk, H⟩ := bnd H
      refine Tr.VB [0] [sb 84 5 bp0 Am194 cm194 m194] (U := (Option Addr × Nat)) (fun u => (.tuple #[iv ((t208 : ByteArray).size : Int), .nilIface])) (fun u => True) (fun u => [sb 84 5 bp0 u.1 u.2 zN0]) rfl (zQ rfl za) (fun _ => rfl) (wn rfl) rfl Tryz.call32 (zH rfl (zH rfl zP)) (fun W hW hp hE => QG m194 Am194 cm194 bp0 t208 zN0 zZk hE) ?_
      intro u hu
      obtain ⟨zSI, zR1⟩ := u
      have gy209_0 := hu
      have zaR : True := gy209_0 --@phi
      dsimp only
      exact Tr.nil (Tr.zh (Tr.zh (Tr.zA (Tr.region (Tr.va rfl (fun _ _ a c => zo (a.ev rfl) (a.ev rfl)) (Tr.mv rfl rfl (Tr.nil (Tr.zf Qc (zY, (iL1 + 1), zN0, zSI, zR1) ⟨rfl, Qe QE, QC QE, H⟩ (.cons rfl (.cons rfl (.cons rfl (.cons (congrArg (fun z => some (Value.int .i64 z)) (Qd QE Qt.form)) .nil)))) (.cons rfl .nil)))))))))
     ·refine Tr.sr (Tr.va rfl (fun _ _ a c => Ql (a.ev rfl) (a.ev rfl)) (Tr.asg rfl rfl (Tr.nil (Tr.zA (Tr.cond rfl H (fun H => ?_) (fun H => ?_))))))
      ·refine Tr.region (Tr.mv rfl rfl (Tr.va rfl (fun _ _ a c => zB zAD (a.ev rfl)) (Tr.va rfl (fun _ _ a c => zX (cs := [iv xL1.At.X, iv xL1.At.Y]) Kk JG (a.ev rfl) (zO.take (rdb c (vs := [iv xL1.Kind, sv xL1.Name, iv xL1.At.X, iv xL1.At.Y, sL zBo xL1.Points zBg, iv xL1.NX, iv xL1.NY, sL zBn xL1.Steps zBf]) (k := 11) rfl 2) 2) rfl) (Tr.buildSlice 13 (e := 27) (vs := [(0, .agg #[iv xL1.At.X, iv xL1.At.Y])]) (cs := [iv xL1.At.X, iv xL1.At.Y]) (wn rfl) rfl (zi rfl QW) (by kernel_rfl) fun znL => (Tr.own 13 zz [xL1.At] (css := [[iv xL1.At.X, iv xL1.At.Y]]) rfl (.cons ⟨(), trivial, rfl⟩ .nil) rfl (by decide) (zDb rfl) ?_)))))
       obtain ⟨zbn, zkg, H⟩ := bnd H
       refine Tr.Qa (r := (sv zbn)) (wn rfl) rfl Tryz.call34 (zH rfl zP) (fun W hW => zAO [xL1.At] (some ⟨znL, 0, none⟩) 1 (hW.zCj (k := 13) rfl) zbn zkg (HF.start _)) ?_
       obtain ⟨t213, ht213, H⟩ := bnd H
       refine Tr.va rfl (fun _ _ a c => Vk (a.ev rfl) (a.ev rfl) ht213) ?_
       obtain ⟨zb5, ht214, H⟩ := bnd H
       refine Tr.va rfl (fun _ _ a c => Vk (a.ev rfl) (a.ev rfl) ht214) ?_
       obtain ⟨zYR, zkd, H⟩ := bnd H
       refine Tr.VB [0] [sb 84 5 bp0 Am194 cm194 m194] (U := (Option Addr × Nat)) (fun u => (.tuple #[iv ((zb5 : ByteArray).size : Int), .nilIface])) (fun u => True) (fun u => [sb 84 5 bp0 u.1 u.2 zYR]) rfl (zQ rfl za) (fun _ => rfl) (wn rfl) rfl Tryz.call32 (zH rfl (zH rfl zP)) (fun W hW hp hE => QG m194 Am194 cm194 bp0 zb5 zYR zkd hE) ?_
       intro u hu
       obtain ⟨zdj, zdL⟩ := u
       have gy215_0 := hu
       have zmU : True := gy215_0 --@phi
       dsimp only
       exact Tr.nil (Tr.zh (Tr.zh (Tr.zA (Tr.region (Tr.va rfl (fun _ _ a c => zo (a.ev rfl) (a.ev rfl)) (Tr.mv rfl rfl (Tr.nil (Tr.zf Qc (zY, (iL1 + 1), zYR, zdj, zdL) ⟨rfl, Qe QE, QC QE, H⟩ (.cons rfl (.cons rfl (.cons rfl (.cons (congrArg (fun z => some (Value.int .i64 z)) (Qd QE Qt.form)) .nil)))) (.cons rfl .nil)))))))))
      ·refine Tr.sr (Tr.va rfl (fun _ _ a c => Ql (a.ev rfl) (a.ev rfl)) (Tr.asg rfl rfl (Tr.nil (Tr.zA (Tr.cond rfl H (fun H => ?_) (fun H => ?_))))))
       ·refine Tr.region (Tr.mv rfl rfl (Tr.va rfl (fun _ _ a c => zB zAD (a.ev rfl)) (Tr.va rfl (fun _ _ a c => zX (cs := [iv xL1.At.X, iv xL1.At.Y]) Kk JG (a.ev rfl) (zO.take (rdb c (vs := [iv xL1.Kind, sv xL1.Name, iv xL1.At.X, iv xL1.At.Y, sL zBo xL1.Points zBg, iv xL1.NX, iv xL1.NY, sL zBn xL1.Steps zBf]) (k := 11) rfl 2) 2) rfl) (Tr.buildSlice 14 (e := 27) (vs := [(0, .agg #[iv xL1.At.X, iv xL1.At.Y])]) (cs := [iv xL1.At.X, iv xL1.At.Y]) (wn rfl) rfl (zi rfl QW) (by kernel_rfl) fun zoj => (Tr.own 14 zz [xL1.At] (css := [[iv xL1.At.X, iv xL1.At.Y]]) rfl (.cons ⟨(), trivial, rfl⟩ .nil) rfl (by decide) (zDb rfl) ?_)))))
        obtain ⟨zGj, zZj, H⟩ := bnd H
        refine Tr.Qa (r := (sv zGj)) (wn rfl) rfl Tryz.call34 (zH rfl zP) (fun W hW => zAO [xL1.At] (some ⟨zoj, 0, none⟩) 1 (hW.zCj (k := 14) rfl) zGj zZj (HF.start _)) ?_
        obtain ⟨zjU, ht219, H⟩ := bnd H
        refine Tr.va rfl (fun _ _ a c => Vk (a.ev rfl) (a.ev rfl) ht219) ?_
        obtain ⟨zb4, ht220, H⟩ := bnd H
        refine Tr.va rfl (fun _ _ a c => Vk (a.ev rfl) (a.ev rfl) ht220) ?_
        obtain ⟨zYQ, zkc, H⟩ := bnd H
        refine Tr.VB [0] [sb 84 5 bp0 Am194 cm194 m194] (U := (Option Addr × Nat)) (fun u => (.tuple #[iv ((zb4 : ByteArray).size : Int), .nilIface])) (fun u => True) (fun u => [sb 84 5 bp0 u.1 u.2 zYQ]) rfl (zQ rfl za) (fun _ => rfl) (wn rfl) rfl Tryz.call32 (zH rfl (zH rfl zP)) (fun W hW hp hE => QG m194 Am194 cm194 bp0 zb4 zYQ zkc hE) ?_
        intro u hu
        obtain ⟨zdi, zdK⟩ := u
        have gy221_0 := hu
        have zmT : True := gy221_0 --@phi
        dsimp only
        exact Tr.nil (Tr.zh (Tr.zh (Tr.zA (Tr.region (Tr.va rfl (fun _ _ a c => zo (a.ev rfl) (a.ev rfl)) (Tr.mv rfl rfl (Tr.nil (Tr.zf Qc (zY, (iL1 + 1), zYQ, zdi, zdK) ⟨rfl, Qe QE, QC QE, H⟩ (.cons rfl (.cons rfl (.cons rfl (.cons (congrArg (fun z => some (Value.int .i64 z)) (Qd QE Qt.form)) .nil)))) (.cons rfl .nil)))))))))
       ·refine Tr.sr (Tr.va rfl (fun _ _ a c => Ql (a.ev rfl) (a.ev rfl)) (Tr.asg rfl rfl (Tr.nil (Tr.zA (Tr.cond rfl H (fun H => ?_) (fun H => ?_))))))
        ·refine Tr.region (Tr.mv rfl rfl (Tr.va rfl (fun _ _ a c => zB zAY (a.ev rfl)) (Tr.va rfl (fun _ _ a c => zD zEf (a.ev rfl) (rdb c (vs := [iv xL1.Kind, sv xL1.Name, iv xL1.At.X, iv xL1.At.Y, sL zBo xL1.Points zBg, iv xL1.NX, iv xL1.NY, sL zBn xL1.Steps zBf]) (k := 11) rfl 4) rfl) ?_)))
         obtain ⟨zbm, zkb, H⟩ := bnd H
         refine Tr.Qa (r := (sv zbm)) (wn rfl) rfl Tryz.call34 (zH rfl zP) (fun W hW => zAO xL1.Points zBo zBg (zMG.ext hW.Qr) zbm zkb (HF.start _)) ?_
         obtain ⟨zjT, ht224, H⟩ := bnd H
         refine Tr.va rfl (fun _ _ a c => Vk (a.ev rfl) (a.ev rfl) ht224) ?_
         obtain ⟨zb3, ht225, H⟩ := bnd H
         refine Tr.va rfl (fun _ _ a c => Vk (a.ev rfl) (a.ev rfl) ht225) ?_
         obtain ⟨zYP, zka, H⟩ := bnd H
         refine Tr.VB [0] [sb 84 5 bp0 Am194 cm194 m194] (U := (Option Addr × Nat)) (fun u => (.tuple #[iv ((zb3 : ByteArray).size : Int), .nilIface])) (fun u => True) (fun u => [sb 84 5 bp0 u.1 u.2 zYP]) rfl (zQ rfl za) (fun _ => rfl) (wn rfl) rfl Tryz.call32 (zH rfl (zH rfl zP)) (fun W hW hp hE => QG m194 Am194 cm194 bp0 zb3 zYP zka hE) ?_
         intro u hu
         obtain ⟨zdh, zdJ⟩ := u
         have gy226_0 := hu
         have zmS : True := gy226_0 --@phi
         dsimp only
         exact Tr.nil (Tr.zh (Tr.zh (Tr.zA (Tr.region (Tr.va rfl (fun _ _ a c => zo (a.ev rfl) (a.ev rfl)) (Tr.mv rfl rfl (Tr.nil (Tr.zf Qc (zY, (iL1 + 1), zYP, zdh, zdJ) ⟨rfl, Qe QE, QC QE, H⟩ (.cons rfl (.cons rfl (.cons rfl (.cons (congrArg (fun z => some (Value.int .i64 z)) (Qd QE Qt.form)) .nil)))) (.cons rfl .nil)))))))))
        ·refine Tr.sr (Tr.va rfl (fun _ _ a c => Ql (a.ev rfl) (a.ev rfl)) (Tr.asg rfl rfl (Tr.nil (Tr.zA (Tr.cond rfl H (fun H => ?_) (fun H => ?_))))))
         ·refine Tr.sr (Tr.mv rfl rfl (Tr.va rfl (fun _ _ a c => zB zJZ (a.ev rfl)) (Tr.va rfl (fun _ _ a c => zD zm (a.ev rfl) (rdb c (vs := [iv xL1.Kind, sv xL1.Name, iv xL1.At.X, iv xL1.At.Y, sL zBo xL1.Points zBg, iv xL1.NX, iv xL1.NY, sL zBn xL1.Steps zBf]) (k := 11) rfl 5) rfl) (Tr.va rfl (fun _ _ a c => zB zJY (a.ev rfl)) (Tr.va rfl (fun _ _ a c => zD zm (a.ev rfl) (rdb c (vs := [iv xL1.Kind, sv xL1.Name, iv xL1.At.X, iv xL1.At.Y, sL zBo xL1.Points zBg, iv xL1.NX, iv xL1.NY, sL zBn xL1.Steps zBf]) (k := 11) rfl 6) rfl) (Tr.build (vs := [(0, iv xL1.NX), (1, iv xL1.NY)]) (cs := [iv xL1.NX, iv xL1.NY]) (wn rfl) rfl (zi rfl (zi rfl QW)) (by kernel_rfl) (Tr.va rfl (fun _ _ a c => zB zAD (a.ev rfl)) (Tr.va rfl (fun _ _ a c => zX (cs := [iv xL1.At.X, iv xL1.At.Y]) Kk JG (a.ev rfl) (zO.take (rdb c (vs := [iv xL1.Kind, sv xL1.Name, iv xL1.At.X, iv xL1.At.Y, sL zBo xL1.Points zBg, iv xL1.NX, iv xL1.NY, sL zBn xL1.Steps zBf]) (k := 11) rfl 2) 2) rfl) ?_))))))))
          refine Tr.buildSlice 15 (e := 27) (vs := [(0, .agg #[iv xL1.NX, iv xL1.NY]), (1, .agg #[iv xL1.At.X, iv xL1.At.Y])]) (cs := [iv xL1.NX, iv xL1.NY, iv xL1.At.X, iv xL1.At.Y]) (wn rfl) rfl (zi rfl (zi rfl QW)) (by kernel_rfl) fun zoi => (Tr.own 15 zz [(zI.mk xL1.NX xL1.NY), xL1.At] (css := [[iv xL1.NX, iv xL1.NY], [iv xL1.At.X, iv xL1.At.Y]]) rfl (.cons ⟨(), trivial, rfl⟩ (.cons ⟨(), trivial, rfl⟩ .nil)) rfl (by decide) (zDb rfl) ?_)
          obtain ⟨zbl, zkY, H⟩ := bnd H
          refine Tr.Qa (r := (sv zbl)) (wn rfl) rfl Tryz.call34 (zH rfl zP) (fun W hW => zAO [(zI.mk xL1.NX xL1.NY), xL1.At] (some ⟨zoi, 0, none⟩) 2 (hW.zCj (k := 15) rfl) zbl zkY (HF.start _)) ?_
          obtain ⟨zjS, ht230, H⟩ := bnd H
          refine Tr.va rfl (fun _ _ a c => Vk (a.ev rfl) (a.ev rfl) ht230) ?_
          obtain ⟨zb2, ht231, H⟩ := bnd H
          refine Tr.va rfl (fun _ _ a c => Vk (a.ev rfl) (a.ev rfl) ht231) ?_
          obtain ⟨zHG, zZi, H⟩ := bnd H
          refine Tr.VB [0] [sb 84 5 bp0 Am194 cm194 m194] (U := (Option Addr × Nat)) (fun u => (.tuple #[iv ((zb2 : ByteArray).size : Int), .nilIface])) (fun u => True) (fun u => [sb 84 5 bp0 u.1 u.2 zHG]) rfl (zQ rfl za) (fun _ => rfl) (wn rfl) rfl Tryz.call32 (zH rfl (zH rfl zP)) (fun W hW hp hE => QG m194 Am194 cm194 bp0 zb2 zHG zZi hE) ?_
          intro u hu
          obtain ⟨zXO, zWp⟩ := u
          have gy232_0 := hu
          have zmR : True := gy232_0 --@phi
          dsimp only
          refine Tr.nil (Tr.zA (Tr.sr (Tr.mv rfl rfl (Tr.va rfl (fun _ _ a c => zB zEF (a.ev rfl)) (Tr.va rfl (fun _ _ a c => zD zEg (a.ev rfl) (rdb c (vs := [iv xL1.Kind, sv xL1.Name, iv xL1.At.X, iv xL1.At.Y, sL zBo xL1.Points zBg, iv xL1.NX, iv xL1.NY, sL zBn xL1.Steps zBf]) (k := 11) rfl 7) rfl) ?_)))))
          obtain ⟨zXb, zkV, H⟩ := bnd H
          refine Tr.VB [0] [sb 84 5 bp0 zXO zWp zHG] (U := (Option Addr × Nat)) (fun u => (.tuple #[])) (fun u => True) (fun u => [sb 84 5 bp0 u.1 u.2 zXb]) rfl (zQ rfl za) (fun _ => rfl) (wn rfl) rfl Tryz.call35 (zH rfl (zH rfl zP)) (fun W hW hp hE => hrec zHG zXO zWp bp0 xL1.Steps zBn zBf (zMF.ext (hW.JE hp)) zXb zkV hE) ?_
          intro u hu
          obtain ⟨zXM, zWn⟩ := u
          have gy234_0 := hu
          have zmQ : True := gy234_0 --@phi
          dsimp only
          refine Tr.nil (Tr.zA (Tr.region (Tr.mv rfl rfl ?_)))
          obtain ⟨zYO, zkU, H⟩ := bnd H
          refine Tr.VB [0] [sb 84 5 bp0 zXM zWn zXb] (U := (Option Addr × Nat)) (fun u => (.tuple #[iv (((⟨#[100, 111, 110, 101, 10]⟩) : ByteArray).size : Int), .nilIface])) (fun u => True) (fun u => [sb 84 5 bp0 u.1 u.2 zYO]) rfl (zQ rfl za) (fun _ => rfl) (wn rfl) rfl Tryz.call32 (zH rfl (zH rfl zP)) (fun W hW hp hE => QG zXb zXM zWn bp0 (⟨#[100, 111, 110, 101, 10]⟩) zYO zkU hE) ?_
          intro u hu
          obtain ⟨zdg, zdI⟩ := u
          have gy236_0 := hu
          have zmP : True := gy236_0 --@phi
          dsimp only
          exact Tr.nil (Tr.zh (Tr.zh (Tr.zA (Tr.region (Tr.va rfl (fun _ _ a c => zo (a.ev rfl) (a.ev rfl)) (Tr.mv rfl rfl (Tr.nil (Tr.zf Qc (zY, (iL1 + 1), zYO, zdg, zdI) ⟨rfl, Qe QE, QC QE, H⟩ (.cons rfl (.cons rfl (.cons rfl (.cons (congrArg (fun z => some (Value.int .i64 z)) (Qd QE Qt.form)) .nil)))) (.cons rfl .nil)))))))))
         ·exact Tr.skip (Tr.zh (Tr.zh (Tr.zA (Tr.region (Tr.va rfl (fun _ _ a c => zo (a.ev rfl) (a.ev rfl)) (Tr.mv rfl rfl (Tr.nil (Tr.zf Qc (zY, (iL1 + 1), m194, Am194, cm194) ⟨rfl, Qe QE, QC QE, H⟩ (.cons rfl (.cons rfl (.cons rfl (.cons (congrArg (fun z => some (Value.int .i64 z)) (Qd QE Qt.form)) .nil)))) (.cons rfl .nil)))))))))
theorem zEl : ∀ (N : Nat) {w : Bs} (p0 : ByteArray) (zF : Option Addr) (zG : Nat) (bp0 : Nat) (p1 : (List zC)) (QB : Option Addr) (QA : Nat) (Qt : Sl w.R w.W zJ QB QA p1) (r : ByteArray) (H : zCA N p0 p1 = some r) (hE : HF w w.W (LEn [sb 84 5 bp0 zF zG p0])), Calls Tryz.prog 35 [pV bp0, sL QB p1 QA].toArray w.W fun e W' => ∃ u : (Option Addr × Nat), e = .returned (.tuple #[]) ∧ (True) ∧ HF w W' (LEn [sb 84 5 bp0 u.1 u.2 r])
 | 0 => by intros; rename_i H _; cases H
 | N + 1 => zHx N (zCA N) (zEl N)

theorem zGf {w : Bs} (p0 : ByteArray) (zF : Option Addr) (zG : Nat) (bp0 : Nat) (r : (Int × ByteArray)) (H : sbL p0 = some r) (hE : HF w w.W (LEn [sb 84 5 bp0 zF zG p0])) : Calls Tryz.prog 36 [pV bp0].toArray w.W fun e W' => ∃ u : (Option Addr × Nat), e = .returned (iv r.1) ∧ (True) ∧ HF w W' (LEn [sb 84 5 bp0 u.1 u.2 r.2]) :=
 zfC (ρ := Tryz.zQ5) Tryz.znG H hE

end Go.Proofs.YtneghcpnehiffaaGreatDoor
namespace Go.Proofs
open Go.Shelf
def Tryz.zMb : Go.Shelf.Ren := ⟨fun | 169 => 37 | n => n, fun | 5 => 5 | 37 => 82 | 70 => 81 | 72 => 84 | 127 => 117 | n => n, fun n => n⟩
theorem Tryz.znF : Go.Proofs.Lays.n169 Tryz.prog Tryz.zMb := {
 mixed := by kernel_rfl
 f169 := Tryz.func37.trans (congrArg some (by kernel_rfl))
 t0 := Tryz.underlying0
 a0 := Tryz.isAgg0
 z0 := Tryz.sizeOf0
 v0 := Tryz.zeroValue0
 t3 := Tryz.underlying3
 a3 := Tryz.isAgg3
 z3 := Tryz.sizeOf3
 v3 := Tryz.zeroValue3
 t9 := Tryz.underlying9
 a9 := Tryz.isAgg9
 z9 := Tryz.sizeOf9
 v9 := Tryz.zeroValue9
 t37 := Tryz.underlying82
 a37 := Tryz.isAgg82
 z37 := Tryz.sizeOf82
 v37 := Tryz.zeroValue82
 t70 := Tryz.underlying81
 a70 := Tryz.isAgg81
 z70 := Tryz.sizeOf81
 v70 := Tryz.zeroValue81
 t72 := Tryz.underlying84
 a72 := Tryz.isAgg84
 z72 := Tryz.sizeOf84
 v72 := Tryz.zeroValue84
 t127 := Tryz.underlying117
 a127 := Tryz.isAgg117
 z127 := Tryz.sizeOf117
 v127 := Tryz.zeroValue117
}
end Go.Proofs
namespace Go.Proofs.YtneghcpnehiffaaGreatDoor
open Go.RowKit
theorem zof : Builder.Extra Tryz.prog Tryz.zMb where
 sizeBuilder := by kernel_rfl
 liesBuilder := by kernel_rfl
 t5 := Tryz.underlying5
 a5 := Tryz.isAgg5
 z5 := Tryz.sizeOf5
 v5 := Tryz.zeroValue5
 infoByte := by kernel_rfl
 cellsByte := by kernel_rfl
 sizeByte := by kernel_rfl
 neB5 := by decide
theorem zFL {w : Bs} (p0 : ByteArray) (zF : Option Addr) (zG : Nat) (bp0 : Nat) (r : (ByteArray × ByteArray)) (H : sbS p0 = some r) (hE : HF w w.W (LEn [sb 84 5 bp0 zF zG p0])) : Calls Tryz.prog 37 [pV bp0].toArray w.W fun e W' => ∃ u : (Option Addr × Nat), e = .returned (sv r.1) ∧ (True) ∧ HF w W' (LEn [sb 84 5 bp0 u.1 u.2 r.2]) :=
 zXz (ρ := Tryz.zMb) Tryz.znF zof H hE

theorem zPS (N : Nat) {w : Bs} (p0 : zt) (zF : Option Addr) (zG : Nat) (zT : Sl w.R w.W zW zF zG p0.Tools) (zN : Option Addr) (zM : Nat) (QV : Sl w.R w.W zJ zN zM p0.Steps) (r : (ByteArray × Int)) (H : zEo N p0 = some r) (hE : HF w w.W E0) : Calls Tryz.prog 12 [.agg #[iv p0.Unit, sL zF p0.Tools zG, sL zN p0.Steps zM]].toArray w.W fun e W' => e = .returned (.tuple #[sv r.1, iv r.2]) ∧ HF w W' E0 := by
 unfold zEo at H
 have leB := Bs.Le.refl w
 refine Tr.enter (n := 61) Tryz.func12 rfl rfl rfl hE (Tr.sr (Tr.box 1 (cs := [iv p0.Unit, sL zF p0.Tools zG, sL zN p0.Steps zM]) (wn rfl) rfl rfl rfl fun zw => (Tr.asg rfl rfl (Tr.asg rfl rfl (Tr.nil (Tr.zA (Tr.seq (Tr.sr (Tr.va rfl (fun _ _ a c => zX (cs := [iv p0.Unit, sL zF p0.Tools zG, sL zN p0.Steps zM]) Wt Kn (a.ev rfl) (zO.take (rdb c (vs := [iv p0.Unit, sL zF p0.Tools zG, sL zN p0.Steps zM]) (k := 1) rfl 0) 3) rfl) ?_)))))))))
 obtain ⟨y101, hy101, H⟩ := bnd H
 refine Tr.Qa (r := (iv y101)) (wn rfl) rfl Tryz.call13 (zH rfl zP) (fun W hW => Wz N p0 zF zG (zT.ext hW.Qr) zN zM (QV.ext hW.Qr) y101 hy101 (HF.start _)) (Tr.asg rfl rfl (Tr.nil (Tr.zA (Tr.sr (Tr.mv rfl rfl (Tr.va rfl (fun _ _ a c => Jm (a.ev rfl) (a.ev rfl)) (Tr.nil (Tr.zA (Tr.cond rfl H (fun H => ?_) (fun H => ?_))))))))))
 ·refine Tr.sr (Tr.mv rfl rfl (Tr.asg rfl rfl (Tr.asg rfl rfl (Tr.nil (Tr.zA (Tr.ret (Tr.zb ?_)))))))
  obtain rfl := oI H
  exact Tr.out (m := [sv ByteArray.empty, iv y101]) [] (zU rfl (zU rfl zV)) (fun W hW => ⟨rfl, hW.low leB⟩)
 ·refine Tr.skip (Tr.zA (Tr.sr (Tr.zjh (e := 5) 2 (wn rfl) rfl zjG fun KP => (Tr.nil (Tr.zA (Tr.sr (Tr.va rfl (fun _ _ a c => zB Vg (a.ev rfl)) (Tr.va rfl (fun _ _ a c => zD zm (a.ev rfl) (rdb c (vs := [iv p0.Unit, sL zF p0.Tools zG, sL zN p0.Steps zM]) (k := 1) rfl 0) rfl) ?_))))))))
  obtain ⟨zk, zCr, H⟩ := bnd H
  refine Tr.Qa (r := (sv zk)) (wn rfl) rfl Tryz.call33 (zH rfl zP) (fun W hW => zDj p0.Unit zk zCr (HF.start _)) ?_
  obtain ⟨zjZ, ht104, H⟩ := bnd H
  refine Tr.va rfl (fun _ _ a c => Vk (a.ev rfl) (a.ev rfl) ht104) ?_
  obtain ⟨t105, ht105, H⟩ := bnd H
  refine Tr.va rfl (fun _ _ a c => Vk (a.ev rfl) (a.ev rfl) ht105) ?_
  obtain ⟨zBE, zK7, H⟩ := bnd H
  refine Tr.VB [2] [sb 84 5 KP none 0 ByteArray.empty] (U := (Option Addr × Nat)) (fun u => (.tuple #[iv ((t105 : ByteArray).size : Int), .nilIface])) (fun u => True) (fun u => [sb 84 5 KP u.1 u.2 zBE]) rfl (zQ rfl za) (fun _ => rfl) (wn rfl) rfl Tryz.call32 (zH rfl (zH rfl zP)) (fun W hW hp hE => QG ByteArray.empty none 0 KP t105 zBE zK7 hE) ?_
  intro u hu
  obtain ⟨zGT, zGK⟩ := u
  have gy106_0 := hu
  have zTl : True := gy106_0 --@phi
  dsimp only
  refine Tr.nil (Tr.zA (Tr.seq (Tr.sr (Tr.va rfl (fun _ _ a c => zB zEH (a.ev rfl)) (Tr.va rfl (fun _ _ a c => zD zLc (a.ev rfl) (rdb c (vs := [iv p0.Unit, sL zF p0.Tools zG, sL zN p0.Steps zM]) (k := 1) rfl 1) rfl) (Tr.va rfl (fun _ _ a c => QF zMi (a.ev rfl)) (Tr.mv rfl rfl (Tr.nil (Tr.zA (Tr.block (Tr.loop (σ := (List zg) × Nat × ByteArray × (Option Addr) × Nat) (fun m w s => m = s.1.length + 1 ∧ s.1 = List.drop s.2.1 p0.Tools ∧ s.2.1 ≤ p0.Tools.length ∧ WS N p0 s.1 s.2.1 s.2.2.1 = some r) (fun s => [(1, pV zw), (5, pV KP), (22, sL zF p0.Tools zG), (23, iv (p0.Tools.length : Int)), (24, iv (s.2.1 : Int))]) (fun s => [(1, bx zw #[iv p0.Unit, sL zF p0.Tools zG, sL zN p0.Steps zM] 25), (2, sb 84 5 KP s.2.2.2.1 s.2.2.2.2 s.2.2.1)]) (p0.Tools.length + 1) (p0.Tools, 0, zBE, zGT, zGK) ⟨rfl, rfl, Nat.zero_le _, H⟩ (.cons rfl (.cons rfl (.cons rfl (.cons rfl (.cons rfl .nil))))) (.cons rfl (.cons rfl .nil)) (fun _ _ h => absurd h.1 (by simp)) ?_)))))))))))
  intro w WU m s hs
  obtain ⟨Qu, iL3, m178, Am178, cm178⟩ := s
  obtain ⟨zHd, zAC, hiL3, H⟩ := hs
  replace zAC : Qu = List.drop iL3 p0.Tools := zAC
  replace H : WS N p0 Qu iL3 m178 = some r := H
  replace zHd : m + 1 = Qu.length + 1 := zHd
  replace zT := zT.leR WU
  replace QV := QV.leR WU
  replace leB := leB.trans WU
  obtain rfl : m = Qu.length := by omega
  clear zHd
  dsimp only
  cases Qu with
  | nil =>
   rw [WS.eq_1] at H
   refine Tr.sr (Tr.va rfl (fun _ _ a c => QD (a.ev rfl) (a.ev rfl)) (Tr.nil (Tr.zA (Tr.seq (Tr.Vy rfl (JA zAC) (Tr.exit (Tr.ze (Tr.ze (Tr.QK (Tr.zA (Tr.sr (Tr.va rfl (fun _ _ a c => zB zGH (a.ev rfl)) (Tr.va rfl (fun _ _ a c => zD zEg (a.ev rfl) (rdb c (vs := [iv p0.Unit, sL zF p0.Tools zG, sL zN p0.Steps zM]) (k := 1) rfl 2) rfl) ?_)))))))))))))
   obtain ⟨zXd, zkq, H⟩ := bnd H
   refine Tr.VB [2] [sb 84 5 KP Am178 cm178 m178] (U := (Option Addr × Nat)) (fun u => (.tuple #[])) (fun u => True) (fun u => [sb 84 5 KP u.1 u.2 zXd]) rfl (zQ rfl za) (fun _ => rfl) (wn rfl) rfl Tryz.call35 (zH rfl (zH rfl zP)) (fun W hW hp hE => zEl N m178 Am178 cm178 KP p0.Steps zN zM (QV.ext (hW.JE hp)) zXd zkq hE) ?_
   intro u hu
   obtain ⟨zXQ, zWr⟩ := u
   have gy179_0 := hu
   have zma : True := gy179_0 --@phi
   dsimp only
   refine Tr.nil (Tr.zA (Tr.seq (Tr.sr ?_)))
   obtain ⟨zST, zkp, H⟩ := bnd H
   refine Tr.VB [2] [sb 84 5 KP zXQ zWr zXd] (U := (Option Addr × Nat)) (fun u => (iv zST.1)) (fun u => True) (fun u => [sb 84 5 KP u.1 u.2 zST.2]) rfl (zQ rfl za) (fun _ => rfl) (wn rfl) rfl Tryz.call36 (zH rfl zP) (fun W hW hp hE => zGf zXd zXQ zWr KP zST zkp hE) ?_
   intro u hu
   obtain ⟨zXP, zWq⟩ := u
   have gy181_0 := hu
   have zmZ : True := gy181_0 --@phi
   dsimp only
   refine Tr.va rfl (fun _ _ a c => VS (a.ev rfl) (a.ev rfl)) (Tr.nil (Tr.zA (Tr.cond rfl H (fun H => ?_) (fun H => ?_))))
   ·refine Tr.sr (Tr.asg rfl rfl (Tr.asg rfl rfl (Tr.nil (Tr.zA (Tr.ret (Tr.zb ?_))))))
    obtain rfl := oI H
    exact Tr.out (m := [sv ByteArray.empty, iv 2]) [] (zU rfl (zU rfl zV)) (fun W hW => ⟨rfl, hW.low leB⟩)
   ·refine Tr.skip (Tr.zA (Tr.sr ?_))
    obtain ⟨zHH, zZm, H⟩ := bnd H
    refine Tr.VB [2] [sb 84 5 KP zXP zWq zST.2] (U := (Option Addr × Nat)) (fun u => (sv zHH.1)) (fun u => True) (fun u => [sb 84 5 KP u.1 u.2 zHH.2]) rfl (zQ rfl za) (fun _ => rfl) (wn rfl) rfl Tryz.call37 (zH rfl zP) (fun W hW hp hE => zFL zST.2 zXP zWq KP zHH zZm hE) ?_
    intro u hu
    obtain ⟨zH3, zHi⟩ := u
    have gy183_0 := hu
    have zaU : True := gy183_0 --@phi
    dsimp only
    refine Tr.asg rfl rfl (Tr.asg rfl rfl (Tr.nil (Tr.zA (Tr.ret ?_))))
    obtain rfl := oI H
    exact Tr.out (m := [sv zHH.1, iv 0]) [] (zU rfl (zU rfl zV)) (fun W hW => ⟨rfl, hW.low leB⟩)
  | cons xL3 Qu =>
   rw [WS.eq_2] at H
   refine Tr.sr (Tr.va rfl (fun _ _ a c => QD (a.ev rfl) (a.ev rfl)) (Tr.nil (Tr.zA (Tr.seq (Tr.Vx rfl (JU zAC) (Tr.skip (Tr.zA (Tr.seq (Tr.block (Tr.sr ?_))))))))))
   obtain ⟨zn9, hRu185, zce, hcu185⟩ := (zT).el (KH zAC)
   obtain ⟨zH6, zHm⟩ := zn9
   have zD7 := zce
   replace zD7 : Sl w.R w.W zR zH6 zHm xL3.Rects := zD7
   refine Tr.va rfl (fun _ _ a c => zL zLL (a.ev rfl) zT.form (a.ev rfl) (Int.natCast_nonneg _) (QC zAC)) (Tr.va rfl (fun _ _ a c => zX (cs := [sv xL3.Name, sL zH6 xL3.Rects zHm]) zUG zKi (a.ev rfl) (zO.take (rdR hRu185 hcu185 c) 2) rfl) (Tr.alloc 17 (wn rfl) rfl zYL fun zpC => (Tr.store 17 (cs := [sv xL3.Name, sL zH6 xL3.Rects zHm]) [sv xL3.Name, sL zH6 xL3.Rects zHm] (wn rfl) rfl rfl rfl rfl zKi rfl rfl rfl (Tr.nil (Tr.zA (Tr.sr (Tr.va rfl (fun _ _ a c => zB zLE (a.ev rfl)) (Tr.va rfl (fun _ _ a c => zD zPv (a.ev rfl) (rdb c (vs := [sv xL3.Name, sL zH6 xL3.Rects zHm]) (k := 17) rfl 0) rfl) ?_))))))))
   obtain ⟨zb7, ht187, H⟩ := bnd H
   refine Tr.va rfl (fun _ _ a c => Vk (a.ev rfl) (a.ev rfl) ht187) ?_
   obtain ⟨zDs, zZl, H⟩ := bnd H
   refine Tr.VB [2] [sb 84 5 KP Am178 cm178 m178] (U := (Option Addr × Nat)) (fun u => (.tuple #[iv ((zb7 : ByteArray).size : Int), .nilIface])) (fun u => True) (fun u => [sb 84 5 KP u.1 u.2 zDs]) rfl (zQ rfl za) (fun _ => rfl) (wn rfl) rfl Tryz.call32 (zH rfl (zH rfl zP)) (fun W hW hp hE => QG m178 Am178 cm178 KP zb7 zDs zZl hE) ?_
   intro u hu
   obtain ⟨zH2, zHh⟩ := u
   have gy188_0 := hu
   have zOz : True := gy188_0 --@phi
   dsimp only
   refine Tr.nil (Tr.zA (Tr.seq (Tr.sr (Tr.va rfl (fun _ _ a c => zB zFE (a.ev rfl)) (Tr.va rfl (fun _ _ a c => zD zNC (a.ev rfl) (rdb c (vs := [sv xL3.Name, sL zH6 xL3.Rects zHm]) (k := 17) rfl 1) rfl) (Tr.va rfl (fun _ _ a c => QF zA7 (a.ev rfl)) (Tr.mv rfl rfl (Tr.nil (Tr.zA (Tr.block (Tr.loop (σ := (List zK) × Nat × ByteArray × (Option Addr) × Nat) (fun m w s => m = s.1.length + 1 ∧ s.1 = List.drop s.2.1 xL3.Rects ∧ s.2.1 ≤ xL3.Rects.length ∧ zBT (WS N p0 Qu (iL3 + 1)) s.1 s.2.1 s.2.2.1 = some r) (fun s => [(1, pV zw), (5, pV KP), (22, sL zF p0.Tools zG), (23, iv (p0.Tools.length : Int)), (24, iv (iL3 : Int)), (33, sL zH6 xL3.Rects zHm), (34, iv (xL3.Rects.length : Int)), (35, iv (s.2.1 : Int))]) (fun s => [(1, bx zw #[iv p0.Unit, sL zF p0.Tools zG, sL zN p0.Steps zM] 25), (2, sb 84 5 KP s.2.2.2.1 s.2.2.2.2 s.2.2.1)]) (xL3.Rects.length + 1) (xL3.Rects, 0, zDs, zH2, zHh) ⟨rfl, rfl, Nat.zero_le _, H⟩ (.cons rfl (.cons rfl (.cons rfl (.cons rfl (.cons rfl (.cons rfl (.cons rfl (.cons rfl .nil)))))))) (.cons rfl (.cons rfl .nil)) (fun _ _ h => absurd h.1 (by simp)) ?_)))))))))))
   intro w zD5 m s hs
   obtain ⟨Vl, iL4, m208, Am208, cm208⟩ := s
   obtain ⟨zOx, zD9, hiL4, H⟩ := hs
   replace zD9 : Vl = List.drop iL4 xL3.Rects := zD9
   replace H : zBT (WS N p0 Qu (iL3 + 1)) Vl iL4 m208 = some r := H
   replace zOx : m + 1 = Vl.length + 1 := zOx
   replace zT := zT.leR zD5
   replace zD7 := zD7.leR zD5
   replace WU := WU.trans zD5
   obtain rfl : m = Vl.length := by omega
   clear zOx
   dsimp only
   cases Vl with
   | nil =>
    rw [zBT.eq_1] at H
    refine Tr.sr (Tr.va rfl (fun _ _ a c => QD (a.ev rfl) (a.ev rfl)) (Tr.nil (Tr.zA (Tr.seq (Tr.Vy rfl (JA zD9) (Tr.exit (Tr.ze (Tr.ze (Tr.QK (Tr.zA (Tr.region ?_)))))))))))
    obtain ⟨zN0, zZk, H⟩ := bnd H
    refine Tr.VB [2] [sb 84 5 KP Am208 cm208 m208] (U := (Option Addr × Nat)) (fun u => (.tuple #[iv (((⟨#[10]⟩) : ByteArray).size : Int), .nilIface])) (fun u => True) (fun u => [sb 84 5 KP u.1 u.2 zN0]) rfl (zQ rfl za) (fun _ => rfl) (wn rfl) rfl Tryz.call32 (zH rfl (zH rfl zP)) (fun W hW hp hE => QG m208 Am208 cm208 KP (⟨#[10]⟩) zN0 zZk hE) ?_
    intro u hu
    obtain ⟨zSI, zR1⟩ := u
    have gy209_0 := hu
    have zaR : True := gy209_0 --@phi
    dsimp only
    exact Tr.nil (Tr.zh (Tr.zA (Tr.region (Tr.va rfl (fun _ _ a c => zo (a.ev rfl) (a.ev rfl)) (Tr.mv rfl rfl (Tr.nil (Tr.zf WU (Qu, (iL3 + 1), zN0, zSI, zR1) ⟨rfl, Qe zAC, QC zAC, H⟩ (.cons rfl (.cons rfl (.cons rfl (.cons rfl (.cons (congrArg (fun z => some (Value.int .i64 z)) (Qd zAC zT.form)) .nil))))) (.cons rfl (.cons rfl .nil)))))))))
   | cons xL4 Vl =>
    rw [zBT.eq_2] at H
    refine Tr.sr (Tr.va rfl (fun _ _ a c => QD (a.ev rfl) (a.ev rfl)) (Tr.nil (Tr.zA (Tr.seq (Tr.Vx rfl (JU zD9) (Tr.skip (Tr.zA (Tr.seq (Tr.block (Tr.sr (Tr.va rfl (fun _ _ a c => zL zB5 (a.ev rfl) zD7.form (a.ev rfl) (Int.natCast_nonneg _) (QC zD9)) (Tr.va rfl (fun _ _ a c => zX (cs := [iv xL4.X0, iv xL4.Y0, iv xL4.X1, iv xL4.Y1]) zAu KM (a.ev rfl) (zO.take (rdF VP zD7 (KH zD9) c) 4) rfl) (Tr.alloc 22 (wn rfl) rfl zDE fun znL => (Tr.store 22 (cs := [iv xL4.X0, iv xL4.Y0, iv xL4.X1, iv xL4.Y1]) [iv xL4.X0, iv xL4.Y0, iv xL4.X1, iv xL4.Y1] (wn rfl) rfl rfl rfl rfl KM rfl rfl rfl (Tr.nil (Tr.zA (Tr.region (Tr.va rfl (fun _ _ a c => zB WX (a.ev rfl)) ?_))))))))))))))))))
    refine Tr.va rfl (fun _ _ a c => zD zm (a.ev rfl) (rdb c (vs := [iv xL4.X0, iv xL4.Y0, iv xL4.X1, iv xL4.Y1]) (k := 22) rfl 0) rfl) (Tr.va rfl (fun _ _ a c => zB zAq (a.ev rfl)) (Tr.va rfl (fun _ _ a c => zD zm (a.ev rfl) (rdb c (vs := [iv xL4.X0, iv xL4.Y0, iv xL4.X1, iv xL4.Y1]) (k := 22) rfl 1) rfl) (Tr.build (vs := [(0, iv xL4.X0), (1, iv xL4.Y0)]) (cs := [iv xL4.X0, iv xL4.Y0]) (wn rfl) rfl (zi rfl (zi rfl QW)) (by kernel_rfl) (Tr.va rfl (fun _ _ a c => zB zC0 (a.ev rfl)) (Tr.va rfl (fun _ _ a c => zD zm (a.ev rfl) (rdb c (vs := [iv xL4.X0, iv xL4.Y0, iv xL4.X1, iv xL4.Y1]) (k := 22) rfl 2) rfl) (Tr.va rfl (fun _ _ a c => zB zDe (a.ev rfl)) ?_))))))
    refine Tr.va rfl (fun _ _ a c => zD zm (a.ev rfl) (rdb c (vs := [iv xL4.X0, iv xL4.Y0, iv xL4.X1, iv xL4.Y1]) (k := 22) rfl 3) rfl) (Tr.build (vs := [(0, iv xL4.X1), (1, iv xL4.Y1)]) (cs := [iv xL4.X1, iv xL4.Y1]) (wn rfl) rfl (zi rfl (zi rfl QW)) (by kernel_rfl) (Tr.buildSlice 23 (e := 27) (vs := [(0, .agg #[iv xL4.X0, iv xL4.Y0]), (1, .agg #[iv xL4.X1, iv xL4.Y1])]) (cs := [iv xL4.X0, iv xL4.Y0, iv xL4.X1, iv xL4.Y1]) (wn rfl) rfl (zi rfl (zi rfl QW)) (by kernel_rfl) fun zok => (Tr.own 23 zz [(zI.mk xL4.X0 xL4.Y0), (zI.mk xL4.X1 xL4.Y1)] (css := [[iv xL4.X0, iv xL4.Y0], [iv xL4.X1, iv xL4.Y1]]) rfl (.cons ⟨(), trivial, rfl⟩ (.cons ⟨(), trivial, rfl⟩ .nil)) rfl (by decide) (zDb rfl) ?_)))
    obtain ⟨zXc, zkf, H⟩ := bnd H
    refine Tr.Qa (r := (sv zXc)) (wn rfl) rfl Tryz.call34 (zH rfl zP) (fun W hW => zAO [(zI.mk xL4.X0 xL4.Y0), (zI.mk xL4.X1 xL4.Y1)] (some ⟨zok, 0, none⟩) 2 (hW.zCj (k := 23) rfl) zXc zkf (HF.start _)) ?_
    obtain ⟨zYS, zke, H⟩ := bnd H
    refine Tr.VB [2] [sb 84 5 KP Am208 cm208 m208] (U := (Option Addr × Nat)) (fun u => (.tuple #[iv ((zXc : ByteArray).size : Int), .nilIface])) (fun u => True) (fun u => [sb 84 5 KP u.1 u.2 zYS]) rfl (zQ rfl za) (fun _ => rfl) (wn rfl) rfl Tryz.call32 (zH rfl (zH rfl zP)) (fun W hW hp hE => QG m208 Am208 cm208 KP zXc zYS zke hE) ?_
    intro u hu
    obtain ⟨zdk, zdM⟩ := u
    have gy214_0 := hu
    have zmV : True := gy214_0 --@phi
    dsimp only
    exact Tr.nil (Tr.zh (Tr.zA (Tr.region (Tr.va rfl (fun _ _ a c => zo (a.ev rfl) (a.ev rfl)) (Tr.mv rfl rfl (Tr.nil (Tr.zf zD5 (Vl, (iL4 + 1), zYS, zdk, zdM) ⟨rfl, Qe zD9, QC zD9, H⟩ (.cons rfl (.cons rfl (.cons rfl (.cons rfl (.cons rfl (.cons rfl (.cons rfl (.cons (congrArg (fun z => some (Value.int .i64 z)) (Qd zD9 zD7.form)) .nil)))))))) (.cons rfl (.cons rfl .nil)))))))))

theorem WK (N : Nat) {w : Bs}  (r : Bool) (H : KI N = some r) (hE : HF w w.W E0) : Calls Tryz.prog 5 [].toArray w.W fun e W' => e = .returned (bV r) ∧ HF w W' E0 := by
 unfold KI at H
 have leB := Bs.Le.refl w
 refine Tr.enter (n := 14) Tryz.func5 rfl rfl rfl hE (Tr.sr (Tr.asg rfl rfl (Tr.nil (Tr.zA (Tr.sr (Tr.build (vs := [(0, iv 7)]) (cs := [iv 7, .slice none 0 0, .slice none 0 0]) (wn rfl) rfl (zi rfl QW) (by kernel_rfl) ?_))))))
 obtain ⟨QT, zBG, H⟩ := bnd H
 refine Tr.Qa (r := (.tuple #[sv QT.1, iv QT.2])) (wn rfl) rfl Tryz.call12 (zH rfl zP) (fun W hW => zPS N (zt.mk 7 [] []) none 0 (Sl.nil _ _ _) none 0 (Sl.nil _ _ _) QT zBG (HF.start _)) (Tr.mv rfl rfl (Tr.va rfl (fun _ _ a c => Qb (a.ev rfl) rfl) (Tr.va rfl (fun _ _ a c => Qb (a.ev rfl) rfl) (Tr.asg rfl rfl (Tr.asg rfl rfl (Tr.nil (Tr.zA (Tr.sr (Tr.mv rfl rfl (Tr.va rfl (fun _ _ a c => Ql (a.ev rfl) (a.ev rfl)) (Tr.mv rfl rfl (Tr.Vw 3 [(13, bV ((QT.2 == 0) && (sEq QT.1 (⟨#[117, 110, 105, 116, 32, 55, 10]⟩))))] [] ?_ ?_))))))))))))
 ·cases zow : (QT.2 == 0)
  ·exact Tr.pass rfl rfl rfl rfl rfl (by decide) (Tr.pass rfl rfl rfl rfl rfl (by decide) (Tr.va rfl (fun _ _ a c => zy (a.ev rfl) (a.ev rfl)) (Tr.nil (Tr.JD (.cons rfl .nil) .nil))))
  ·exact Tr.val (wg rfl rfl rfl) rfl (fun _ _ a c => run_move (a.ev rfl)) (Tr.val (wg rfl rfl rfl) rfl (fun _ _ a c => zSp (a.ev rfl) (a.ev rfl)) (Tr.va rfl (fun _ _ a c => zx (a.ev rfl) (a.ev rfl)) (Tr.nil (Tr.JD (.cons rfl .nil) .nil))))
 ·show Tr _ _ (LF [(13, bV ((QT.2 == 0) && (sEq QT.1 (⟨#[117, 110, 105, 116, 32, 55, 10]⟩))))]) (LE []) _
  refine Tr.asg rfl rfl (Tr.nil (Tr.zA (Tr.ret ?_)))
  obtain rfl := oI H
  exact Tr.out (m := [bV ((QT.2 == 0) && (sEq QT.1 (⟨#[117, 110, 105, 116, 32, 55, 10]⟩)))]) [] (zU rfl zV) (fun W hW => ⟨rfl, hW.low leB⟩)

theorem zLi {w : Bs} (p0 : zC) (zF : Option Addr) (zG : Nat) (zN : Option Addr) (zM : Nat) (QV : Sl w.R w.W zJ zN zM p0.Steps) (Ae0 : Option Addr) (ce0 : Nat) (le0 : List zC) (ie0 : Nat) (hi0 : ie0 < le0.length) (q0 : Int) (bq0 : Nat) (hb0 : w.R bq0) (hc0 : zO w.W bq0 0 [iv q0]) (q1 : Int) (bq1 : Nat) (hb1 : w.R bq1) (hc1 : zO w.W bq1 0 [iv q1]) (r : (Int × Int × (List zI))) (H : zCS p0 q0 q1 = some r) (hE : HF w w.W (LEn [ow Ae0 ce0 59 (mix zJ) (WT le0 ie0 (raw zJ [iv p0.Kind, sv p0.Name, iv p0.At.X, iv p0.At.Y, sL zF p0.Points zG, iv p0.NX, iv p0.NY, sL zN p0.Steps zM] rfl rfl)), ow zF zG 27 zz p0.Points])) : Calls Tryz.prog 16 [.pointer (some ⟨adB Ae0, adO Ae0 + ie0 * 8, none⟩), pV bq0, pV bq1].toArray w.W fun e W' => ∃ (w' : Bs) (u : Unit), w.Le w' ∧ e = .returned (.tuple #[]) ∧ (r.2.2.length = p0.Points.length) ∧ HF w' W' (LEn [ow Ae0 ce0 59 (mix zJ) (WT le0 ie0 (raw zJ [iv p0.Kind, sv p0.Name, iv r.1, iv r.2.1, sL zF r.2.2 zG, iv p0.NX, iv p0.NY, sL zN p0.Steps zM] rfl rfl)), ow zF zG 27 zz r.2.2]) := by
 unfold zCS at H
 have zCZ := (hE.sl (k := 1) rfl).form
 have leB := Bs.Le.refl w
 refine Tr.enter (n := 69) Tryz.func16 rfl rfl rfl hE ?_
 have leJ103 := Bs.Le.refl w
 refine Tr.zIu (σ := Int × Int) (fun w s => Vo p0 q0 q1 s.1 s.2 = some r) (fun s => [(0, .pointer (some ⟨adB Ae0, adO Ae0 + ie0 * 8, none⟩)), (1, pV bq0), (2, pV bq1)]) (fun s => [(0, ow Ae0 ce0 59 (mix zJ) (WT le0 ie0 (raw zJ [iv p0.Kind, sv p0.Name, iv s.1, iv s.2, sL zF p0.Points zG, iv p0.NX, iv p0.NY, sL zN p0.Steps zM] rfl rfl))), (1, ow zF zG 27 zz p0.Points)]) ?_ ?_
 ·refine Tr.sr (Tr.mv rfl rfl (Tr.va rfl (fun _ _ a c => zl (a.ev rfl)) (Tr.va rfl (fun _ _ a c => zB zEG (a.ev rfl)) (Tr.va rfl (fun _ _ a c => zD zm (a.ev rfl) (rdm (cs := raw zJ [iv p0.Kind, sv p0.Name, iv p0.At.X, iv p0.At.Y, sL zF p0.Points zG, iv p0.NX, iv p0.NY, sL zN p0.Steps zM] rfl rfl) c (κ := 0) rfl hi0) rfl) ?_))))
  obtain ⟨WL, zTS, H⟩ := bnd H
  refine Tr.Qa (r := (.agg #[bV WL.name, bV WL.at_, bV WL.points, bV WL.repeat_])) (wn rfl) rfl Tryz.call17 (zH rfl zP) (fun W hW => zBk p0.Kind WL zTS (HF.start _)) (Tr.va rfl (fun _ _ a c => zKD zRv zJr (a.ev rfl) rfl) (Tr.mv rfl rfl (Tr.Vw 6 [(0, .pointer (some ⟨adB Ae0, adO Ae0 + ie0 * 8, none⟩)), (1, pV bq0), (2, pV bq1), (17, bV (WL.at_ && (p0.Kind != 8)))] [(0, ow Ae0 ce0 59 (mix zJ) (WT le0 ie0 (raw zJ [iv p0.Kind, sv p0.Name, iv p0.At.X, iv p0.At.Y, sL zF p0.Points zG, iv p0.NX, iv p0.NY, sL zN p0.Steps zM] rfl rfl))), (1, ow zF zG 27 zz p0.Points)] ?_ ?_)))
  ·cases zou : WL.at_
   ·exact Tr.pass rfl rfl rfl rfl rfl (by decide) (Tr.pass rfl rfl rfl rfl rfl (by decide) (Tr.pass rfl rfl rfl rfl rfl (by decide) (Tr.pass rfl rfl rfl rfl rfl (by decide) (Tr.pass rfl rfl rfl rfl rfl (by decide) (Tr.va rfl (fun _ _ a c => zy (a.ev rfl) (a.ev rfl)) (Tr.nil (Tr.JD (.cons rfl (.cons rfl (.cons rfl (.cons rfl .nil)))) (.cons rfl (.cons rfl .nil)))))))))
   ·exact Tr.val (wg rfl rfl rfl) rfl (fun _ _ a c => run_move (a.ev rfl)) (Tr.val (wg rfl rfl rfl) rfl (fun _ _ a c => zl (a.ev rfl)) (Tr.val (wg rfl rfl rfl) rfl (fun _ _ a c => zB zEG (a.ev rfl)) (Tr.val (wg rfl rfl rfl) rfl (fun _ _ a c => zD zm (a.ev rfl) (rdm (cs := raw zJ [iv p0.Kind, sv p0.Name, iv p0.At.X, iv p0.At.Y, sL zF p0.Points zG, iv p0.NX, iv p0.NY, sL zN p0.Steps zM] rfl rfl) c (κ := 0) rfl hi0) rfl) (Tr.val (wg rfl rfl rfl) rfl (fun _ _ a c => Jm (a.ev rfl) (a.ev rfl)) (Tr.va rfl (fun _ _ a c => zx (a.ev rfl) (a.ev rfl)) (Tr.nil (Tr.JD (.cons rfl (.cons rfl (.cons rfl (.cons rfl .nil)))) (.cons rfl (.cons rfl .nil)))))))))
  ·show Tr _ _ (LF [(0, .pointer (some ⟨adB Ae0, adO Ae0 + ie0 * 8, none⟩)), (1, pV bq0), (2, pV bq1), (17, bV (WL.at_ && (p0.Kind != 8)))]) (LE [(0, ow Ae0 ce0 59 (mix zJ) (WT le0 ie0 (raw zJ [iv p0.Kind, sv p0.Name, iv p0.At.X, iv p0.At.Y, sL zF p0.Points zG, iv p0.NX, iv p0.NY, sL zN p0.Steps zM] rfl rfl))), (1, ow zF zG 27 zz p0.Points)]) _
   refine Tr.nil (Tr.zA (Tr.cond rfl H (fun H => ?_) (fun H => ?_)))
   ·refine Tr.Vm 16 (by kernel_rfl) (by kernel_rfl) (Tq.mv rfl rfl (Tq.mv rfl rfl (Tq.va rfl (fun _ _ a c => zl (a.ev rfl)) (Tq.va rfl (fun _ _ a c => zB zAD (a.ev rfl)) (Tq.va rfl (fun _ _ a c => zB Qy (a.ev rfl)) (Tq.va rfl (fun _ _ a c => zD zm (a.ev rfl) (zO.drop (rdm (cs := raw zJ [iv p0.Kind, sv p0.Name, iv p0.At.X, iv p0.At.Y, sL zF p0.Points zG, iv p0.NX, iv p0.NY, sL zN p0.Steps zM] rfl rfl) c (κ := 0) rfl hi0) 2) rfl) (Tq.va rfl (fun _ _ a c => zD zm (a.ev rfl) (rdR hb0 hc0 c) rfl) (Tq.va rfl (fun _ _ a c => zo (a.ev rfl) (a.ev rfl)) ?_))))))))
    refine Tq.mv rfl rfl (Tq.va rfl (fun _ _ a c => zl (a.ev rfl)) (Tq.va rfl (fun _ _ a c => zB zAD (a.ev rfl)) (Tq.va rfl (fun _ _ a c => zB Qx (a.ev rfl)) (Tq.va rfl (fun _ _ a c => zD zm (a.ev rfl) (zO.drop (rdm (cs := raw zJ [iv p0.Kind, sv p0.Name, iv p0.At.X, iv p0.At.Y, sL zF p0.Points zG, iv p0.NX, iv p0.NY, sL zN p0.Steps zM] rfl rfl) c (κ := 0) rfl hi0) 3) rfl) (Tq.va rfl (fun _ _ a c => zD zm (a.ev rfl) (rdR hb1 hc1 c) rfl) (Tq.va rfl (fun _ _ a c => zo (a.ev rfl) (a.ev rfl)) (Tq.build (vs := [(0, iv (w64 (p0.At.X + q0))), (1, iv (w64 (p0.At.Y + q1)))]) (cs := [iv (w64 (p0.At.X + q0)), iv (w64 (p0.At.Y + q1))]) (wn rfl) rfl (zi rfl (zi rfl QW)) (by kernel_rfl) ?_)))))))
    exact Tq.nil (Tr.va rfl (fun _ _ a c => zl (a.ev rfl)) (Tr.va rfl (fun _ _ a c => zB zAD (a.ev rfl)) (Tr.zGp 0 (raw zJ [iv p0.Kind, sv p0.Name, iv (w64 (p0.At.X + q0)), iv (w64 (p0.At.Y + q1)), sL zF p0.Points zG, iv p0.NX, iv p0.NY, sL zN p0.Steps zM] rfl rfl) (cs := [iv (w64 (p0.At.X + q0)), iv (w64 (p0.At.Y + q1))]) (fo := 2) (wn rfl) rfl rfl rfl rfl rfl hi0 JG rfl rfl rfl (Tr.nil (Tr.zf leJ103 ((w64 (p0.At.X + q0)), (w64 (p0.At.Y + q1))) H (.cons rfl (.cons rfl (.cons rfl .nil))) (.cons rfl (.cons rfl .nil)))))))
   ·exact Tr.skip (Tr.zf leJ103 (p0.At.X, p0.At.Y) H (.cons rfl (.cons rfl (.cons rfl .nil))) (.cons rfl (.cons rfl .nil)))
 ·intro w s hlJ104 hs
  obtain ⟨x101, x102⟩ := s
  have H := hs
  replace H : Vo p0 q0 q1 x101 x102 = some r := H
  replace hc0 := hlJ104.ext.cells hb0 hc0
  replace hb0 := hlJ104.r _ hb0
  replace hc1 := hlJ104.ext.cells hb1 hc1
  replace hb1 := hlJ104.r _ hb1
  replace leB := leB.trans hlJ104
  unfold Vo at H
  dsimp only
  refine Tr.sr (Tr.mv rfl rfl (Tr.va rfl (fun _ _ a c => zl (a.ev rfl)) (Tr.va rfl (fun _ _ a c => zB zAY (a.ev rfl)) (Tr.va rfl (fun _ _ a c => zD zEf (a.ev rfl) (zO.drop (rdm (cs := raw zJ [iv p0.Kind, sv p0.Name, iv x101, iv x102, sL zF p0.Points zG, iv p0.NX, iv p0.NY, sL zN p0.Steps zM] rfl rfl) c (κ := 0) rfl hi0) 4) rfl) (Tr.va rfl (fun _ _ a c => QF zEy (a.ev rfl)) (Tr.mv rfl rfl (Tr.nil (Tr.zA (Tr.block (Tr.loop (σ := (List zI) × Nat × (List zI)) (fun m w s => m = s.1.length + 1 ∧ s.1 = List.drop s.2.1 p0.Points ∧ s.2.1 ≤ p0.Points.length ∧ Kl q0 q1 x101 x102 s.1 s.2.1 s.2.2 = some r ∧ s.2.2.length = p0.Points.length) (fun s => [(0, .pointer (some ⟨adB Ae0, adO Ae0 + ie0 * 8, none⟩)), (1, pV bq0), (2, pV bq1), (40, iv (p0.Points.length : Int)), (41, iv (s.2.1 : Int))]) (fun s => [(0, ow Ae0 ce0 59 (mix zJ) (WT le0 ie0 (raw zJ [iv p0.Kind, sv p0.Name, iv x101, iv x102, sL zF s.2.2 zG, iv p0.NX, iv p0.NY, sL zN p0.Steps zM] rfl rfl))), (1, ow zF zG 27 zz s.2.2)]) (p0.Points.length + 1) (p0.Points, 0, p0.Points) ⟨rfl, rfl, Nat.zero_le _, H, rfl⟩ (.cons rfl (.cons rfl (.cons rfl (.cons rfl (.cons rfl .nil))))) (.cons rfl (.cons rfl .nil)) (fun _ _ h => absurd h.1 (by simp)) ?_))))))))))
  intro w Qc m s hs
  obtain ⟨zY, iL1, zOd⟩ := s
  obtain ⟨Ki, QE, hiL1, H, zTg⟩ := hs
  replace QE : zY = List.drop iL1 p0.Points := QE
  replace H : Kl q0 q1 x101 x102 zY iL1 zOd = some r := H
  replace Ki : m + 1 = zY.length + 1 := Ki
  replace hc0 := Qc.ext.cells hb0 hc0
  replace hb0 := Qc.r _ hb0
  replace hc1 := Qc.ext.cells hb1 hc1
  replace hb1 := Qc.r _ hb1
  replace leB := leB.trans Qc
  replace zTg : zOd.length = p0.Points.length := zTg
  have zVQ : SlF zF zOd.length zG := (by rw [zTg]; exact zCZ)
  obtain rfl : m = zY.length := by omega
  clear Ki
  dsimp only
  cases zY with
  | nil =>
   rw [Kl.eq_1] at H
   refine Tr.sr (Tr.va rfl (fun _ _ a c => QD (a.ev rfl) (a.ev rfl)) (Tr.nil (Tr.zA (Tr.seq (Tr.Vy rfl (JA QE) (Tr.exit (Tr.ze (Tr.ze (Tr.QK (Tr.zZE ?_))))))))))
   obtain rfl := oI H
   exact Tr.out (m := []) [] zV (fun W hW => ⟨w, (), leB, rfl, zTg, hW.pick (ks := [0, 1]) (by decide) (zQ rfl (zQ rfl za))⟩)
  | cons xL1 zY =>
   rw [Kl.eq_2] at H
   refine Tr.sr (Tr.va rfl (fun _ _ a c => QD (a.ev rfl) (a.ev rfl)) (Tr.nil (Tr.zA (Tr.seq (Tr.Vx rfl (JU QE) (Tr.skip (Tr.zA (Tr.seq (Tr.block (Tr.sr (Tr.mv rfl rfl (Tr.asg rfl rfl (Tr.nil (Tr.zA (Tr.seq (Tr.Vm 9 (by kernel_rfl) (by kernel_rfl) (Tq.mv rfl rfl (Tq.va rfl (fun _ _ a c => zl (a.ev rfl)) (Tq.va rfl (fun _ _ a c => zB zAY (a.ev rfl)) (Tq.va rfl (fun _ _ a c => zD zEf (a.ev rfl) (zO.drop (rdm (cs := raw zJ [iv p0.Kind, sv p0.Name, iv x101, iv x102, sL zF zOd zG, iv p0.NX, iv p0.NY, sL zN p0.Steps zM] rfl rfl) c (κ := 0) rfl hi0) 4) rfl) (Tq.mv rfl rfl ?_)))))))))))))))))))))
   obtain ⟨zSZ, zlo, H⟩ := bnd H
   obtain ⟨hx1240, hx1241, zh5⟩ := zq zlo
   refine Tq.va rfl (fun _ _ a c => zL zEc (a.ev rfl) zVQ (a.ev rfl) hx1240 hx1241) (Tq.va rfl (fun _ _ a c => zB Qy (a.ev rfl)) (Tq.va rfl (fun _ _ a c => zD zm (a.ev rfl) (zO.drop (rdo zAL (k := 1) c rfl zh5) 0) rfl) (Tq.va rfl (fun _ _ a c => zD zm (a.ev rfl) (rdR hb0 hc0 c) rfl) (Tq.nil (Tr.va rfl (fun _ _ a c => zo (a.ev rfl) (a.ev rfl)) ?_)))))
   obtain ⟨zex, zln, H⟩ := bnd H
   obtain ⟨zh4, zh3, zh2⟩ := zq zln
   refine Tr.va rfl (fun _ _ a c => zL zEc (a.ev rfl) zVQ (a.ev rfl) zh4 zh3) (Tr.va rfl (fun _ _ a c => zB Qy (a.ev rfl)) ?_)
   obtain ⟨zPn, zeQ, H⟩ := bnd H
   have zRn := zCG zeQ
   refine Tr.zCz 1 (t := zz) (l := zOd) (i := (iL1 : Int)) (fo := 0) (cs := [iv (w64 (zSZ.X + q0))]) (zI.mk (w64 (zSZ.X + q0)) zex.Y) (wn rfl) rfl rfl rfl rfl rfl zh2 zE8 rfl (fun u _ => ⟨u, trivial, rfl⟩) rfl zeQ ?_
   have zVP : SlF zF zPn.length zG := by rw [zRn]; exact zVQ
   have hsl126 := zRn.trans zTg
   refine Tr.sel (lf := [(0, .pointer (some ⟨adB Ae0, adO Ae0 + ie0 * 8, none⟩)), (1, pV bq0), (2, pV bq1), (4, iv (iL1 : Int)), (40, iv (p0.Points.length : Int)), (41, iv (iL1 : Int)), (42, bV (decide ((iL1 : Int) < (p0.Points.length : Int)))), (43, iv (iL1 : Int)), (44, .pointer (some ⟨adB Ae0, adO Ae0 + ie0 * 8, none⟩)), (45, .pointer (some ⟨adB Ae0, adO Ae0 + ie0 * 8, none⟩)), (46, .pointer (some ⟨adB Ae0, adO Ae0 + ie0 * 8 + 4, none⟩)), (47, sL zF zPn zG), (48, iv (iL1 : Int)), (51, iv zSZ.X), (52, iv q0), (53, iv (w64 (zSZ.X + q0)))]) (le := [(0, ow Ae0 ce0 59 (mix zJ) (WT le0 ie0 (raw zJ [iv p0.Kind, sv p0.Name, iv x101, iv x102, sL zF zPn zG, iv p0.NX, iv p0.NY, sL zN p0.Steps zM] rfl rfl))), (1, ow zF zG 27 zz zPn)]) (.cons rfl (.cons rfl (.cons rfl (.cons rfl (.cons rfl (.cons rfl (.cons rfl (.cons rfl (.cons rfl (.cons rfl (.cons rfl (.cons (Km rfl (by unfold sL; rw [zRn])) (.cons rfl (.cons rfl (.cons rfl (.cons rfl .nil)))))))))))))))) (.cons (za1 rfl (by unfold sL; rw [zRn])) (.cons rfl .nil)) (Tr.nil (Tr.zA (Tr.Vm 9 (by kernel_rfl) (by kernel_rfl) (Tq.mv rfl rfl (Tq.va rfl (fun _ _ a c => zl (a.ev rfl)) (Tq.va rfl (fun _ _ a c => zB zAY (a.ev rfl)) (Tq.va rfl (fun _ _ a c => zD zEf (a.ev rfl) (zO.drop (rdm (cs := raw zJ [iv p0.Kind, sv p0.Name, iv x101, iv x102, sL zF zPn zG, iv p0.NX, iv p0.NY, sL zN p0.Steps zM] rfl rfl) c (κ := 0) rfl hi0) 4) rfl) (Tq.mv rfl rfl ?_))))))))
   obtain ⟨zXq, zll, H⟩ := bnd H
   obtain ⟨zhy, zhx, zhw⟩ := zq zll
   refine Tq.va rfl (fun _ _ a c => zL zEc (a.ev rfl) zVP (a.ev rfl) zhy zhx) (Tq.va rfl (fun _ _ a c => zB Qx (a.ev rfl)) (Tq.va rfl (fun _ _ a c => zD zm (a.ev rfl) (zO.drop (rdo zAL (k := 1) c rfl zhw) 1) rfl) (Tq.va rfl (fun _ _ a c => zD zm (a.ev rfl) (rdR hb1 hc1 c) rfl) (Tq.nil (Tr.va rfl (fun _ _ a c => zo (a.ev rfl) (a.ev rfl)) ?_)))))
   obtain ⟨zew, hx128, H⟩ := bnd H
   obtain ⟨zhv, zhu, zht⟩ := zq hx128
   refine Tr.va rfl (fun _ _ a c => zL zEc (a.ev rfl) zVP (a.ev rfl) zhv zhu) (Tr.va rfl (fun _ _ a c => zB Qx (a.ev rfl)) ?_)
   obtain ⟨zNL, zQT, H⟩ := bnd H
   have zOw := zCG zQT
   refine Tr.zCz 1 (t := zz) (l := zPn) (i := (iL1 : Int)) (fo := 1) (cs := [iv (w64 (zXq.Y + q1))]) (zI.mk zew.X (w64 (zXq.Y + q1))) (wn rfl) rfl rfl rfl rfl rfl zht zE8 rfl (fun u _ => ⟨u, trivial, rfl⟩) rfl zQT ?_
   have zod : SlF zF zNL.length zG := by rw [zOw]; exact zVP
   have hsl129 := zOw.trans hsl126
   exact Tr.sel (lf := [(0, .pointer (some ⟨adB Ae0, adO Ae0 + ie0 * 8, none⟩)), (1, pV bq0), (2, pV bq1), (4, iv (iL1 : Int)), (40, iv (p0.Points.length : Int)), (41, iv (iL1 : Int)), (42, bV (decide ((iL1 : Int) < (p0.Points.length : Int)))), (43, iv (iL1 : Int)), (44, .pointer (some ⟨adB Ae0, adO Ae0 + ie0 * 8, none⟩)), (45, .pointer (some ⟨adB Ae0, adO Ae0 + ie0 * 8, none⟩)), (46, .pointer (some ⟨adB Ae0, adO Ae0 + ie0 * 8 + 4, none⟩)), (47, sL zF zNL zG), (48, iv (iL1 : Int)), (51, iv zSZ.X), (52, iv q0), (53, iv (w64 (zSZ.X + q0))), (56, .pointer (some ⟨adB Ae0, adO Ae0 + ie0 * 8, none⟩)), (57, .pointer (some ⟨adB Ae0, adO Ae0 + ie0 * 8, none⟩)), (58, .pointer (some ⟨adB Ae0, adO Ae0 + ie0 * 8 + 4, none⟩)), (59, sL zF zNL zG), (60, iv (iL1 : Int)), (63, iv zXq.Y), (64, iv q1), (65, iv (w64 (zXq.Y + q1)))]) (le := [(0, ow Ae0 ce0 59 (mix zJ) (WT le0 ie0 (raw zJ [iv p0.Kind, sv p0.Name, iv x101, iv x102, sL zF zNL zG, iv p0.NX, iv p0.NY, sL zN p0.Steps zM] rfl rfl))), (1, ow zF zG 27 zz zNL)]) (.cons rfl (.cons rfl (.cons rfl (.cons rfl (.cons rfl (.cons rfl (.cons rfl (.cons rfl (.cons rfl (.cons rfl (.cons rfl (.cons (Km rfl (by unfold sL; rw [zOw])) (.cons rfl (.cons rfl (.cons rfl (.cons rfl (.cons rfl (.cons rfl (.cons rfl (.cons (Km rfl (by unfold sL; rw [zOw])) (.cons rfl (.cons rfl (.cons rfl (.cons rfl .nil)))))))))))))))))))))))) (.cons (za1 rfl (by unfold sL; rw [zOw])) (.cons rfl .nil)) (Tr.nil (Tr.zh (Tr.zA (Tr.region (Tr.va rfl (fun _ _ a c => zo (a.ev rfl) (a.ev rfl)) (Tr.mv rfl rfl (Tr.nil (Tr.zf Qc (zY, (iL1 + 1), zNL) ⟨rfl, Qe QE, QC QE, H, hsl129⟩ (.cons rfl (.cons rfl (.cons rfl (.cons rfl (.cons (congrArg (fun z => some (Value.int .i64 z)) (Qd QE zCZ)) .nil))))) (.cons rfl (.cons rfl .nil))))))))))

theorem zFr {w : Bs} (p0 : (List zC)) (zF : Option Addr) (zG : Nat) (zT : Sl w.O w.W zJ zF zG p0) (r : (List zC)) (H : Va p0 = some r) (hE : HF w w.W (LEn [emp])) : Calls Tryz.prog 43 [sL zF p0 zG].toArray w.W fun e W' => ∃ (w' : Bs) (u : (Option Addr × Nat)), w.Le w' ∧ e = .returned (sL u.1 r u.2) ∧ (SlF u.1 r.length u.2) ∧ HF w' W' (LEn [ow u.1 u.2 59 zJ r]) := by
 unfold Va at H
 have leB := Bs.Le.refl w
 refine Tr.enter (n := 8) Tryz.func43 rfl rfl rfl hE (Tr.sr (Tr.asg rfl rfl (Tr.JI 1 59 zJ ?_)))
 show Tr _ _ (uf _ 2 (sL none (([] : List zC)) 0)) _ _
 refine Tr.nil (Tr.zA (Tr.seq (Tr.sr (Tr.mv rfl rfl (Tr.va rfl (fun _ _ a c => zHQ zF8 (a.ev rfl) (a.ev rfl)) (Tr.nil (Tr.zA ?_)))))))
 cases zF with
 | none =>
  have hl0 := zKl zT.form
  replace H : (some ([] : List zC)) = some r := by simpa [apd, hl0] using H
  refine Tr.Vx rfl rfl (Tr.sr (Tr.asg rfl rfl (Tr.JI 2 59 zJ ?_)))
  show Tr _ _ (uf _ 2 (sL none (([] : List zC)) 0)) _ _
  refine Tr.nil (Tr.zA (Tr.ret (Tr.zb ?_)))
  obtain rfl := oI H
  exact Tr.out (m := [sL none (([] : List zC)) 0]) [] (zU rfl zV) (fun W hW => ⟨w, (none, 0), leB, rfl, Kj, hW.pick (ks := [2]) (by decide) (zQ rfl za)⟩)
 | some a102 =>
  refine Tr.Vy rfl rfl (Tr.skip (Tr.zA (Tr.sr (Tr.buildSlice 3 (e := 59) (vs := []) (cs := []) (wn rfl) rfl QW (by kernel_rfl) fun zw => (Tr.mv rfl rfl (Tr.own 3 zJ ([] : List zC) (css := []) rfl .nil rfl (by decide) (zDb rfl) ?_))))))
  obtain ⟨zKJ, zOy, H⟩ := bnd H
  refine Tr.zLZ 3 (t := zJ) (l := ([] : List zC)) (l2 := p0) (wn rfl) rfl rfl rfl rfl (apO zT) zF8 zET zYJ (by decide) zbH rfl zOy fun zJA zIw hAl101 => (Tr.asg rfl rfl (Tr.nil (Tr.zA (Tr.ret ?_))))
  obtain rfl := oI H
  exact Tr.out (m := [sL zJA zKJ zIw]) [] (zU rfl zV) (fun W hW => ⟨w, (zJA, zIw), leB, rfl, hAl101, hW.pick (ks := [3]) (by decide) (zQ rfl za)⟩)

theorem zDN {w : Bs} (p0 : (List zI)) (zF : Option Addr) (zG : Nat) (zT : Sl w.R w.W zz zF zG p0) (r : (List zI)) (H : KX p0 = some r) (hE : HF w w.W (LEn [emp])) : Calls Tryz.prog 44 [sL zF p0 zG].toArray w.W fun e W' => ∃ u : (Option Addr × Nat), e = .returned (sL u.1 r u.2) ∧ (SlF u.1 r.length u.2) ∧ HF w W' (LEn [ow u.1 u.2 27 zz r]) := by
 unfold KX at H
 have leB := Bs.Le.refl w
 refine Tr.enter (n := 8) Tryz.func44 rfl rfl rfl hE (Tr.sr (Tr.asg rfl rfl (Tr.JI 1 27 zz ?_)))
 show Tr _ _ (uf _ 2 (sL none (([] : List zI)) 0)) _ _
 refine Tr.nil (Tr.zA (Tr.seq (Tr.sr (Tr.mv rfl rfl (Tr.va rfl (fun _ _ a c => zHQ zEy (a.ev rfl) (a.ev rfl)) (Tr.nil (Tr.zA ?_)))))))
 cases zF with
 | none =>
  have hl0 := zKl zT.form
  replace H : (some ([] : List zI)) = some r := by simpa [apd, hl0] using H
  refine Tr.Vx rfl rfl (Tr.sr (Tr.asg rfl rfl (Tr.JI 2 27 zz ?_)))
  show Tr _ _ (uf _ 2 (sL none (([] : List zI)) 0)) _ _
  refine Tr.nil (Tr.zA (Tr.ret (Tr.zb ?_)))
  obtain rfl := oI H
  exact Tr.out (m := [sL none (([] : List zI)) 0]) [] (zU rfl zV) (fun W hW => ⟨(none, 0), rfl, Kj, HF.zGc leB (hW.pick (ks := [2]) (by decide) (zQ rfl za)) ⟨zCJ _ _ _ _ zJD, trivial⟩⟩)
 | some a102 =>
  refine Tr.Vy rfl rfl (Tr.skip (Tr.zA (Tr.sr (Tr.buildSlice 3 (e := 27) (vs := []) (cs := []) (wn rfl) rfl QW (by kernel_rfl) fun zw => (Tr.mv rfl rfl (Tr.own 3 zz ([] : List zI) (css := []) rfl .nil rfl (by decide) (zDb rfl) ?_))))))
  obtain ⟨zKJ, zOy, H⟩ := bnd H
  refine Tr.zLZ 3 (t := zz) (l := ([] : List zI)) (l2 := p0) (wn rfl) rfl rfl rfl rfl (apT zJD (fun W hW => (Sl.inB zT hW))) zEy JG zdq (by decide) zeh rfl zOy fun zJA zIw hAl101 => (Tr.asg rfl rfl (Tr.nil (Tr.zA (Tr.ret ?_))))
  obtain rfl := oI H
  exact Tr.out (m := [sL zJA zKJ zIw]) [] (zU rfl zV) (fun W hW => ⟨(zJA, zIw), rfl, hAl101, HF.zGc leB (hW.pick (ks := [3]) (by decide) (zQ rfl za)) ⟨zCJ _ _ _ _ zJD, trivial⟩⟩)

theorem zFq {w : Bs} (p0 : (List zg)) (zF : Option Addr) (zG : Nat) (zT : Sl w.O w.W zW zF zG p0) (r : (List zg)) (H : VZ p0 = some r) (hE : HF w w.W (LEn [emp])) : Calls Tryz.prog 45 [sL zF p0 zG].toArray w.W fun e W' => ∃ (w' : Bs) (u : (Option Addr × Nat)), w.Le w' ∧ e = .returned (sL u.1 r u.2) ∧ (SlF u.1 r.length u.2) ∧ HF w' W' (LEn [ow u.1 u.2 91 zW r]) := by
 unfold VZ at H
 have leB := Bs.Le.refl w
 refine Tr.enter (n := 8) Tryz.func45 rfl rfl rfl hE (Tr.sr (Tr.asg rfl rfl (Tr.JI 1 91 zW ?_)))
 show Tr _ _ (uf _ 2 (sL none (([] : List zg)) 0)) _ _
 refine Tr.nil (Tr.zA (Tr.seq (Tr.sr (Tr.mv rfl rfl (Tr.va rfl (fun _ _ a c => zHQ zMi (a.ev rfl) (a.ev rfl)) (Tr.nil (Tr.zA ?_)))))))
 cases zF with
 | none =>
  have hl0 := zKl zT.form
  replace H : (some ([] : List zg)) = some r := by simpa [apd, hl0] using H
  refine Tr.Vx rfl rfl (Tr.sr (Tr.asg rfl rfl (Tr.JI 2 91 zW ?_)))
  show Tr _ _ (uf _ 2 (sL none (([] : List zg)) 0)) _ _
  refine Tr.nil (Tr.zA (Tr.ret (Tr.zb ?_)))
  obtain rfl := oI H
  exact Tr.out (m := [sL none (([] : List zg)) 0]) [] (zU rfl zV) (fun W hW => ⟨w, (none, 0), leB, rfl, Kj, hW.pick (ks := [2]) (by decide) (zQ rfl za)⟩)
 | some a102 =>
  refine Tr.Vy rfl rfl (Tr.skip (Tr.zA (Tr.sr (Tr.buildSlice 3 (e := 91) (vs := []) (cs := []) (wn rfl) rfl QW (by kernel_rfl) fun zw => (Tr.mv rfl rfl (Tr.own 3 zW ([] : List zg) (css := []) rfl .nil rfl (by decide) (zDb rfl) ?_))))))
  obtain ⟨zKJ, zOy, H⟩ := bnd H
  refine Tr.zLZ 3 (t := zW) (l := ([] : List zg)) (l2 := p0) (wn rfl) rfl rfl rfl rfl (apO zT) zMi zKi zjB (by decide) znC rfl zOy fun zJA zIw hAl101 => (Tr.asg rfl rfl (Tr.nil (Tr.zA (Tr.ret ?_))))
  obtain rfl := oI H
  exact Tr.out (m := [sL zJA zKJ zIw]) [] (zU rfl zV) (fun W hW => ⟨w, (zJA, zIw), leB, rfl, hAl101, hW.pick (ks := [3]) (by decide) (zQ rfl za)⟩)

theorem zDD (N : Nat) {w : Bs} (p0 : (List zg)) (zF : Option Addr) (zG : Nat) (zT : Sl w.O w.W zW zF zG p0) (p1 : zK → Option zK) (fid1 : Nat) (cap1 : List Value) (hg1 : ∀ args W, (callFunc fid1 args).run Tryz.prog W = .ok (.enter fid1 args) W) (hf1 : ∀ (w' : Bs), w.Ext w' → ∀ (z0 : zK), ∀ y, p1 z0 = some y → Calls Tryz.prog fid1 (([.agg #[iv z0.X0, iv z0.Y0, iv z0.X1, iv z0.Y1]] : List Value) ++ cap1).toArray w'.W fun e W'' => e = .returned (.agg #[iv y.X0, iv y.Y0, iv y.X1, iv y.Y1]) ∧ HF w' W'' E0) (r : (List zg)) (H : Wp N p0 p1 = some r) (hE : HF w w.W (LEn [emp])) : Calls Tryz.prog 19 [sL zF p0 zG, .func (.func fid1) #[] cap1.toArray].toArray w.W fun e W' => ∃ (w' : Bs) (u : (Option Addr × Nat)), w.Le w' ∧ e = .returned (sL u.1 r u.2) ∧ (SlF u.1 r.length u.2) ∧ HF w' W' (LEn [ow u.1 u.2 91 zW r]) := by
 unfold Wp at H
 have leB := Bs.Le.refl w
 refine Tr.enter (n := 50) Tryz.func19 rfl rfl rfl hE (Tr.sr (Tr.asg rfl rfl (Tr.JI 1 91 zW ?_)))
 show Tr _ _ (uf _ 4 (sL none (([] : List zg)) 0)) _ _
 refine Tr.nil (Tr.zA (Tr.sr (Tr.mv rfl rfl ?_)))
 obtain ⟨QT, zBG, H⟩ := bnd H
 refine Tr.VC [2] [emp] (U := (Option Addr × Nat)) (fun u => (sL u.1 QT u.2)) (fun O W u => SlF u.1 QT.length u.2) (fun u => [ow u.1 u.2 91 zW QT]) rfl (zQ rfl za) (fun _ => rfl) (wn rfl) rfl Tryz.call45 (zH rfl zP) (fun W hW hp hE => zFq p0 zF zG (zT.zAS (hW.JE hp)) QT zBG hE) ?_
 intro w u zGD hu
 obtain ⟨JO, JM⟩ := u
 have gy100_0 := hu
 replace hf1 := fun w' he => hf1 w' (zGD.ext.trans he)
 replace leB := leB.trans zGD
 have zCK : SlF JO QT.length JM := gy100_0 --@phi
 dsimp only
 refine Tr.asg rfl rfl (Tr.nil (Tr.zA (Tr.seq (Tr.sr (Tr.mv rfl rfl (Tr.va rfl (fun _ _ a c => QF zMi (a.ev rfl)) (Tr.mv rfl rfl (Tr.nil (Tr.zA (Tr.block (Tr.loop (σ := (List zg) × Int × (Option Addr) × Nat) (fun m w s => Jc p1 QT m s.1 s.2.1 = some r ∧ SlF s.2.2.1 s.1.length s.2.2.2) (fun s => [(1, .func (.func fid1) #[] cap1.toArray), (5, sL s.2.2.1 s.1 s.2.2.2), (12, iv (QT.length : Int)), (13, iv s.2.1)]) (fun s => [(2, ow s.2.2.1 s.2.2.2 91 zW s.1)]) N (QT, 0, JO, JM) ⟨H, zCK⟩ (.cons rfl (.cons rfl (.cons rfl (.cons rfl .nil)))) (.cons rfl .nil) (fun _ _ h => zAg (h.1)) ?_)))))))))))
 intro w WU mL3 s hs
 obtain ⟨zD6, zCi, zEr, zG7⟩ := s
 obtain ⟨H, zM4⟩ := hs
 replace H : Jc p1 QT (mL3 + 1) zD6 zCi = some r := H
 replace hf1 := fun w' he => hf1 w' (WU.ext.trans he)
 replace leB := leB.trans WU
 replace zM4 : SlF zEr zD6.length zG7 := zM4
 rw [Jc.eq_2] at H
 dsimp only
 refine Tr.sr (Tr.va rfl (fun _ _ a c => QD (a.ev rfl) (a.ev rfl)) (Tr.nil (Tr.zA (Tr.seq (Tr.cond rfl H (fun H => ?_) (fun H => ?_))))))
 ·refine Tr.skip (Tr.zA (Tr.seq (Tr.block (Tr.sr (Tr.mv rfl rfl (Tr.asg rfl rfl (Tr.nil (Tr.zA (Tr.sr (Tr.mv rfl rfl (Tr.mv rfl rfl (Tr.mv rfl rfl (Tr.mv rfl rfl ?_)))))))))))))
  obtain ⟨zUb, zlX, H⟩ := bnd H
  obtain ⟨zhA, zg9, zg8⟩ := zq zlX
  refine Tr.va rfl (fun _ _ a c => zL zLL (a.ev rfl) zM4 (a.ev rfl) zhA zg9) (Tr.va rfl (fun _ _ a c => zB zFE (a.ev rfl)) (Tr.zYg (U := (zW).Ad) (fun u => (zW).ok w.O w.W u zUb) (fun u => (sL u.1 zUb.Rects u.2)) (wn rfl) rfl (ldN (κ := 2) (t := zW) (V := fun u => (sL u.1 zUb.Rects u.2)) rfl zg8 (fun _ _ u a hc => zD zNC (a.ev rfl) (hc.drop 1) rfl)) ?_))
  intro zn8 zcd
  obtain ⟨zXZ, zW0⟩ := zn8
  have zMH := zcd
  replace zMH : Sl w.O w.W zR zXZ zW0 zUb.Rects := zMH
  dsimp only
  obtain ⟨zDs, zZl, H⟩ := bnd H
  refine Tr.VB [11] [emp] (U := (Option Addr × Nat)) (fun u => (sL u.1 zDs u.2)) (fun u => SlF u.1 zDs.length u.2) (fun u => [ow u.1 u.2 40 zR zDs]) rfl (zQ rfl za) (fun _ => rfl) (wn rfl) rfl Tryz.call46 (zH rfl zP) (fun W hW hp hE => zDk zUb.Rects zXZ zW0 (zMH.rl.ext (hW.JE hp)) zDs zZl hE) ?_
  intro u hu
  obtain ⟨zH2, zHh⟩ := u
  have gy188_0 := hu
  have zOz : SlF zH2 zDs.length zHh := gy188_0 --@phi
  dsimp only
  obtain ⟨zGk, zlW, H⟩ := bnd H
  obtain ⟨zg7, zg6, zZs⟩ := zq zlW
  refine Tr.va rfl (fun _ _ a c => zL zLL (a.ev rfl) zM4 (a.ev rfl) zg7 zg6) (Tr.va rfl (fun _ _ a c => zB zFE (a.ev rfl)) (Tr.zRX 2 rfl zZs ?_))
  intro zn7 zcc
  obtain ⟨zdo, zdQ⟩ := zn7
  have ziz := zcc
  show Tr _ _ _ (up _ 2 (ow zEr zG7 91 (mix zW) (WT zD6 (zCi).toNat (raw zW [sv zGk.Name, sL zdo zGk.Rects zdQ] rfl rfl)))) _
  refine Tr.zGp 2 (raw zW [sv zGk.Name, sL zH2 zDs zHh] rfl rfl) (cs := [sL zH2 zDs zHh]) (fo := 1) (wn rfl) rfl rfl rfl rfl rfl (List.getElem?_eq_some_iff.1 zZs).1 zjb rfl rfl rfl ?_
  refine Tr.nil (Tr.zA (Tr.sr (Tr.mv rfl rfl (Tr.mv rfl rfl ?_))))
  obtain ⟨znz, zlV, H⟩ := bnd H
  obtain ⟨zg5, zg4, zg3⟩ := zq zlV
  refine Tr.va rfl (fun _ _ a c => zL zLL (a.ev rfl) zM4 (a.ev rfl) zg5 zg4) (Tr.va rfl (fun _ _ a c => zB zFE (a.ev rfl)) (Tr.va rfl (fun _ _ a c => zD zNC (a.ev rfl) (zO.drop (rdm (cs := raw zW [sv zGk.Name, sL zH2 zDs zHh] rfl rfl) c (κ := 2) rfl (List.getElem?_eq_some_iff.1 zg3).1) 1) rfl) ?_))
  refine Tr.va rfl (fun _ _ a c => QF zA7 (a.ev rfl)) (Tr.mv rfl rfl (Tr.nil (Tr.zA (Tr.block (Tr.loop (σ := (List zK) × Nat × (List zK) × (Option Addr) × Nat) (fun m w s => m = s.1.length + 1 ∧ s.1 = List.drop s.2.1 zDs ∧ s.2.1 ≤ zDs.length ∧ Ka p1 zD6 zCi (Jc p1 QT mL3) zGk s.1 s.2.1 s.2.2.1 = some r ∧ SlF s.2.2.2.1 s.2.2.1.length s.2.2.2.2) (fun s => [(1, .func (.func fid1) #[] cap1.toArray), (5, sL zEr zD6 zG7), (6, iv zCi), (12, iv (QT.length : Int)), (13, iv zCi), (30, sL s.2.2.2.1 s.2.2.1 s.2.2.2.2), (31, iv (zDs.length : Int)), (32, iv (s.2.1 : Int))]) (fun s => [(2, ow zEr zG7 91 (mix zW) (WT zD6 (zCi).toNat (raw zW [sv zGk.Name, sL s.2.2.2.1 s.2.2.1 s.2.2.2.2] rfl rfl))), (11, ow s.2.2.2.1 s.2.2.2.2 40 zR s.2.2.1)]) (zDs.length + 1) (zDs, 0, zDs, zH2, zHh) ⟨rfl, rfl, Nat.zero_le _, H, zOz⟩ (.cons rfl (.cons rfl (.cons rfl (.cons rfl (.cons rfl (.cons rfl (.cons rfl (.cons rfl .nil)))))))) (.cons rfl (.cons rfl .nil)) (fun _ _ h => absurd h.1 (by simp)) ?_)))))
  intro w zD5 m s hs
  obtain ⟨Vl, iL4, zIh, zJ5, zJ0⟩ := s
  obtain ⟨zOx, zD9, hiL4, H, zTf⟩ := hs
  replace zD9 : Vl = List.drop iL4 zDs := zD9
  replace H : Ka p1 zD6 zCi (Jc p1 QT mL3) zGk Vl iL4 zIh = some r := H
  replace zOx : m + 1 = Vl.length + 1 := zOx
  replace hf1 := fun w' he => hf1 w' (zD5.ext.trans he)
  replace WU := WU.trans zD5
  replace zTf : SlF zJ5 zIh.length zJ0 := zTf
  obtain rfl : m = Vl.length := by omega
  clear zOx
  dsimp only
  cases Vl with
  | nil =>
   rw [Ka.eq_1] at H
   refine Tr.sr (Tr.va rfl (fun _ _ a c => QD (a.ev rfl) (a.ev rfl)) (Tr.nil (Tr.zA (Tr.seq (Tr.Vy rfl (JA zD9) (Tr.exit (Tr.ze (Tr.ze (Tr.QK (Tr.zh (Tr.zA (Tr.region (Tr.va rfl (fun _ _ a c => zo (a.ev rfl) (a.ev rfl)) (Tr.mv rfl rfl (Tr.nil (Tr.freeze 11 rfl fun w zd7 zj9 => ?_))))))))))))))))
   replace hf1 := fun w' he => hf1 w' (zd7.ext.trans he)
   replace WU := WU.trans zd7
   refine Tr.zOS 2 rfl ((zJ5, zJ0)) (zg.mk zGk.Name zIh) zj9 rfl ?_
   have zeF : ((zD6).set (zCi).toNat (zg.mk zGk.Name zIh)).length = zD6.length := List.length_set
   have zcw : SlF zEr ((zD6).set (zCi).toNat (zg.mk zGk.Name zIh)).length zG7 := by rw [zeF]; exact zM4
   exact Tr.sel (lf := [(1, .func (.func fid1) #[] cap1.toArray), (5, sL zEr (((zD6).set (zCi).toNat (zg.mk zGk.Name zIh))) zG7), (6, iv zCi), (12, iv (QT.length : Int)), (13, iv (w64 (zCi + 1))), (30, sL zJ5 zIh zJ0), (31, iv (zDs.length : Int)), (32, iv (iL4 : Int)), (33, bV (decide ((iL4 : Int) < (zDs.length : Int)))), (48, iv (w64 (zCi + 1)))]) (le := [(2, ow zEr zG7 91 zW ((zD6).set (zCi).toNat (zg.mk zGk.Name zIh)))]) (.cons rfl (.cons (Km rfl (by unfold sL; rw [zeF])) (.cons rfl (.cons rfl (.cons rfl (.cons rfl (.cons rfl (.cons rfl (.cons rfl (.cons rfl .nil)))))))))) (.cons rfl .nil) (Tr.zf WU (((zD6).set (zCi).toNat (zg.mk zGk.Name zIh)), (w64 (zCi + 1)), zEr, zG7) ⟨H, zcw⟩ (.cons rfl (.cons rfl (.cons rfl (.cons rfl .nil)))) (.cons rfl .nil))
  | cons xL4 Vl =>
   rw [Ka.eq_2] at H
   refine Tr.sr (Tr.va rfl (fun _ _ a c => QD (a.ev rfl) (a.ev rfl)) (Tr.nil (Tr.zA (Tr.seq (Tr.Vx rfl (JU zD9) (Tr.skip (Tr.zA (Tr.seq (Tr.block (Tr.sr (Tr.mv rfl rfl ?_)))))))))))
   obtain ⟨zCE, zlT, H⟩ := bnd H
   obtain ⟨zgz, zgy, zgx⟩ := zq zlT
   refine Tr.va rfl (fun _ _ a c => zL zB5 (a.ev rfl) zTf (a.ev rfl) zgz zgy) (Tr.va rfl (fun _ _ a c => zX (cs := [iv zCE.X0, iv zCE.Y0, iv zCE.X1, iv zCE.Y1]) zAu KM (a.ev rfl) (zO.take (rdo VP (k := 11) c rfl zgx) 4) rfl) (Tr.alloc 14 (wn rfl) rfl zDE fun znK => (Tr.asg rfl rfl (Tr.store 14 (cs := [iv zCE.X0, iv zCE.Y0, iv zCE.X1, iv zCE.Y1]) [iv zCE.X0, iv zCE.Y0, iv zCE.X1, iv zCE.Y1] (wn rfl) rfl rfl rfl rfl KM rfl rfl rfl (Tr.nil (Tr.zA (Tr.Vm 9 (by kernel_rfl) (by kernel_rfl) (Tq.mv rfl rfl (Tq.mv rfl rfl ?_)))))))))
   obtain ⟨zny, zlS, H⟩ := bnd H
   obtain ⟨zgw, zgv, zgu⟩ := zq zlS
   refine Tq.va rfl (fun _ _ a c => zL zLL (a.ev rfl) zM4 (a.ev rfl) zgw zgv) (Tq.va rfl (fun _ _ a c => zB zFE (a.ev rfl)) (Tq.va rfl (fun _ _ a c => zD zNC (a.ev rfl) (zO.drop (rdm (cs := raw zW [sv zGk.Name, sL zJ5 zIh zJ0] rfl rfl) c (κ := 2) rfl (List.getElem?_eq_some_iff.1 zgu).1) 1) rfl) ?_))
   refine Tq.mv rfl rfl (Tq.mv rfl rfl (Tq.va rfl (fun _ _ a c => zX (cs := [iv zCE.X0, iv zCE.Y0, iv zCE.X1, iv zCE.Y1]) zAu KM (a.ev rfl) (zO.take (rdb c (vs := [iv zCE.X0, iv zCE.Y0, iv zCE.X1, iv zCE.Y1]) (k := 14) rfl 0) 4) rfl) ?_))
   obtain ⟨zGj, zZj, H⟩ := bnd H
   refine Tq.zLY (r := (.agg #[iv zGj.X0, iv zGj.Y0, iv zGj.X1, iv zGj.Y1])) (wn rfl) rfl rfl hg1 (zH rfl zP) (fun W hW => hf1 hW.all hW.Qr zCE _ zZj) (Tq.nil ?_)
   obtain ⟨znx, zlR, H⟩ := bnd H
   obtain ⟨zgt, zgs, zgr⟩ := zq zlR
   refine Tr.va rfl (fun _ _ a c => zL zB5 (a.ev rfl) zTf (a.ev rfl) zgt zgs) ?_
   obtain ⟨zTJ, zeN, H⟩ := bnd H
   have zRl := zCG zeN
   refine Tr.zCz 11 (t := zR) (l := zIh) (i := (iL4 : Int)) (fo := 0) (cs := [iv zGj.X0, iv zGj.Y0, iv zGj.X1, iv zGj.Y1]) zGj (wn rfl) rfl rfl rfl rfl rfl zgr KM rfl (fun u _ => ⟨u, trivial, rfl⟩) rfl zeN ?_
   have ziW : SlF zJ5 zTJ.length zJ0 := by rw [zRl]; exact zTf
   exact Tr.sel (lf := [(1, .func (.func fid1) #[] cap1.toArray), (5, sL zEr zD6 zG7), (6, iv zCi), (7, iv (iL4 : Int)), (8, pV znK), (12, iv (QT.length : Int)), (13, iv zCi), (30, sL zJ5 zTJ zJ0), (31, iv (zDs.length : Int)), (32, iv (iL4 : Int)), (33, bV (decide ((iL4 : Int) < (zDs.length : Int)))), (34, iv (iL4 : Int)), (36, .agg #[iv zCE.X0, iv zCE.Y0, iv zCE.X1, iv zCE.Y1]), (37, sL zEr zD6 zG7), (38, iv zCi), (39, .pointer (some ⟨adB zEr, adO zEr + (zCi).toNat * 2, none⟩)), (40, .pointer (some ⟨adB zEr, adO zEr + (zCi).toNat * 2 + 1, none⟩)), (41, sL zJ5 zTJ zJ0), (42, iv (iL4 : Int)), (43, .func (.func fid1) #[] cap1.toArray), (44, .agg #[iv zCE.X0, iv zCE.Y0, iv zCE.X1, iv zCE.Y1]), (45, .agg #[iv zGj.X0, iv zGj.Y0, iv zGj.X1, iv zGj.Y1])]) (le := [(2, ow zEr zG7 91 (mix zW) (WT zD6 (zCi).toNat (raw zW [sv zGk.Name, sL zJ5 zTJ zJ0] rfl rfl))), (11, ow zJ5 zJ0 40 zR zTJ), (14, bx znK #[iv zCE.X0, iv zCE.Y0, iv zCE.X1, iv zCE.Y1] 40)]) (.cons rfl (.cons rfl (.cons rfl (.cons rfl (.cons rfl (.cons rfl (.cons rfl (.cons (Km rfl (by unfold sL; rw [zRl])) (.cons rfl (.cons rfl (.cons rfl (.cons rfl (.cons rfl (.cons rfl (.cons rfl (.cons rfl (.cons rfl (.cons (Km rfl (by unfold sL; rw [zRl])) (.cons rfl (.cons rfl (.cons rfl (.cons rfl .nil)))))))))))))))))))))) (.cons (za1 rfl (by unfold sL; rw [zRl])) (.cons rfl (.cons rfl .nil))) (Tr.nil (Tr.zh (Tr.zA (Tr.region (Tr.va rfl (fun _ _ a c => zo (a.ev rfl) (a.ev rfl)) (Tr.mv rfl rfl (Tr.nil (Tr.zf zD5 (Vl, (iL4 + 1), zTJ, zJ5, zJ0) ⟨rfl, Qe zD9, QC zD9, H, ziW⟩ (.cons rfl (.cons rfl (.cons rfl (.cons rfl (.cons rfl (.cons rfl (.cons rfl (.cons (congrArg (fun z => some (Value.int .i64 z)) (Qd zD9 zOz)) .nil)))))))) (.cons rfl (.cons rfl .nil))))))))))
 ·refine Tr.exit (Tr.ze (Tr.ze (Tr.QK (Tr.zA (Tr.sr (Tr.mv rfl rfl (Tr.asg rfl rfl (Tr.nil (Tr.zA (Tr.ret ?_))))))))))
  obtain rfl := oI H
  exact Tr.out (m := [sL zEr zD6 zG7]) [] (zU rfl zV) (fun W hW => ⟨w, (zEr, zG7), leB, rfl, zM4, hW.pick (ks := [2]) (by decide) (zQ rfl za)⟩)

theorem zHF {w : Bs} (p0 : zK) (r : zK) (H : zAK p0 = some r) (hE : HF w w.W E0) : Calls Tryz.prog 20 [.agg #[iv p0.X0, iv p0.Y0, iv p0.X1, iv p0.Y1]].toArray w.W fun e W' => e = .returned (.agg #[iv r.X0, iv r.Y0, iv r.X1, iv r.Y1]) ∧ HF w W' E0 := by
 unfold zAK at H
 have leB := Bs.Le.refl w
 refine Tr.enter (n := 4) Tryz.func20 rfl rfl rfl hE (Tr.sr (Tr.box 1 (cs := [iv p0.X0, iv p0.Y0, iv p0.X1, iv p0.Y1]) (wn rfl) rfl rfl rfl fun zw => (Tr.alloc 2 (wn rfl) rfl zDE fun Qw => (Tr.nil (Tr.zA (Tr.sr (Tr.va rfl (fun _ _ a c => zX (cs := [iv p0.X0, iv p0.Y0, iv p0.X1, iv p0.Y1]) zAu KM (a.ev rfl) (zO.take (rdb c (vs := [iv p0.X0, iv p0.Y0, iv p0.X1, iv p0.Y1]) (k := 1) rfl 0) 4) rfl) (Tr.store 2 (cs := [iv p0.X0, iv p0.Y0, iv p0.X1, iv p0.Y1]) [iv p0.X0, iv p0.Y0, iv p0.X1, iv p0.Y1] (wn rfl) rfl rfl rfl rfl KM rfl rfl rfl (Tr.nil (Tr.zA (Tr.ret ?_)))))))))))
 obtain rfl := oI H
 exact Tr.out (m := [.agg #[iv p0.X0, iv p0.Y0, iv p0.X1, iv p0.Y1]]) [2] (VI rfl rfl zAu KM zV) (fun W hW => ⟨rfl, hW.low leB⟩)

theorem zI6 (N : Nat) {w : Bs} (p0 : zt) (zF : Option Addr) (zG : Nat) (zT : Sl w.O w.W zW zF zG p0.Tools) (zN : Option Addr) (zM : Nat) (QV : Sl w.O w.W zJ zN zM p0.Steps) (r : (zt × Int)) (H : zAH N p0 = some r) (hE : HF w w.W (LEn [])) : Calls Tryz.prog 18 [.agg #[iv p0.Unit, sL zF p0.Tools zG, sL zN p0.Steps zM]].toArray w.W fun e W' => ∃ (w' : Bs) (u : (Option Addr × Nat) × (Option Addr × Nat)), w.Le w' ∧ e = .returned (.tuple #[.agg #[iv r.1.Unit, sL u.1.1 r.1.Tools u.1.2, sL u.2.1 r.1.Steps u.2.2], iv r.2]) ∧ (Sl w'.O w'.W zW u.1.1 u.1.2 r.1.Tools ∧ Sl w'.O w'.W zJ u.2.1 u.2.2 r.1.Steps) ∧ HF w' W' (LEn []) := by
 unfold zAH at H
 have leB := Bs.Le.refl w
 refine Tr.enter (n := 12) Tryz.func18 rfl rfl rfl hE (Tr.sr (Tr.box 1 (cs := [iv p0.Unit, sL zF p0.Tools zG, sL zN p0.Steps zM]) (wn rfl) rfl rfl rfl fun zw => (Tr.alloc 2 (wn rfl) rfl zNz fun Qw => (Tr.asg rfl rfl (Tr.nil (Tr.zA (Tr.seq (Tr.sr (Tr.va rfl (fun _ _ a c => zX (cs := [iv p0.Unit, sL zF p0.Tools zG, sL zN p0.Steps zM]) Wt Kn (a.ev rfl) (zO.take (rdb c (vs := [iv p0.Unit, sL zF p0.Tools zG, sL zN p0.Steps zM]) (k := 1) rfl 0) 3) rfl) ?_)))))))))
 obtain ⟨y102, hy102, H⟩ := bnd H
 refine Tr.Qa (r := (iv y102)) (wn rfl) rfl Tryz.call13 (zH rfl zP) (fun W hW => Wz N p0 zF zG (zT.rl.ext hW.Qr) zN zM (QV.rl.ext hW.Qr) y102 hy102 (HF.start _)) (Tr.asg rfl rfl (Tr.nil (Tr.zA (Tr.sr (Tr.mv rfl rfl (Tr.va rfl (fun _ _ a c => Jm (a.ev rfl) (a.ev rfl)) (Tr.nil (Tr.zA (Tr.cond rfl H (fun H => ?_) (fun H => ?_))))))))))
 ·refine Tr.sr (Tr.build (vs := []) (cs := [iv 0, .slice none 0 0, .slice none 0 0]) (wn rfl) rfl QW (by kernel_rfl) (Tr.mv rfl rfl (Tr.store 2 (cs := [iv 0, .slice none 0 0, .slice none 0 0]) [iv 0, .slice none 0 0, .slice none 0 0] (wn rfl) rfl rfl rfl rfl Kn rfl rfl rfl (Tr.asg rfl rfl (Tr.nil (Tr.zA (Tr.ret (Tr.zb ?_))))))))
  obtain rfl := oI H
  exact Tr.out (m := [.agg #[iv 0, .slice none 0 0, .slice none 0 0], iv y102]) [2] (VI rfl rfl Wt Kn (zU rfl zV)) (fun W hW => ⟨w, ((none, 0), (none, 0)), leB, rfl, ⟨(Sl.nil _ _ _), (Sl.nil _ _ _)⟩, hW.pick (ks := []) (by decide) za⟩)
 ·refine Tr.skip (Tr.zA (Tr.sr (Tr.va rfl (fun _ _ a c => zX (cs := [iv p0.Unit, sL zF p0.Tools zG, sL zN p0.Steps zM]) Wt Kn (a.ev rfl) (zO.take (rdb c (vs := [iv p0.Unit, sL zF p0.Tools zG, sL zN p0.Steps zM]) (k := 1) rfl 0) 3) rfl) (Tr.store 2 (cs := [iv p0.Unit, sL zF p0.Tools zG, sL zN p0.Steps zM]) [iv p0.Unit, sL zF p0.Tools zG, sL zN p0.Steps zM] (wn rfl) rfl rfl rfl rfl Kn rfl rfl rfl (Tr.asg rfl rfl (Tr.nil (Tr.zA (Tr.ret ?_))))))))
  obtain rfl := oI H
  exact Tr.out (m := [.agg #[iv p0.Unit, sL zF p0.Tools zG, sL zN p0.Steps zM], iv 0]) [2] (VI rfl rfl Wt Kn (zU rfl zV)) (fun W hW => ⟨w, ((zF, zG), (zN, zM)), leB, rfl, ⟨zT, QV⟩, hW.pick (ks := []) (by decide) za⟩)

theorem zGg (N : Nat) (rec : (List zC) → Int → Int → Option (List zC)) (hrec : ∀ {w : Bs} (p0 : (List zC)) (zF : Option Addr) (zG : Nat) (zT : Sl w.O w.W zJ zF zG p0) (q0 : Int) (bq0 : Nat) (hb0 : w.R bq0) (hc0 : zO w.W bq0 0 [iv q0]) (q1 : Int) (bq1 : Nat) (hb1 : w.R bq1) (hc1 : zO w.W bq1 0 [iv q1]) (r : (List zC)) (H : rec p0 q0 q1 = some r) (hE : HF w w.W (LEn [emp])), Calls Tryz.prog 15 [sL zF p0 zG, .func (.func 16) #[] #[pV bq0, pV bq1]].toArray w.W fun e W' => ∃ (w' : Bs) (u : (Option Addr × Nat)), w.Le w' ∧ e = .returned (sL u.1 r u.2) ∧ (SlF u.1 r.length u.2) ∧ HF w' W' (LEn [ow u.1 u.2 59 zJ r])) {w : Bs} (p0 : (List zC)) (zF : Option Addr) (zG : Nat) (zT : Sl w.O w.W zJ zF zG p0) (q0 : Int) (bq0 : Nat) (hb0 : w.R bq0) (hc0 : zO w.W bq0 0 [iv q0]) (q1 : Int) (bq1 : Nat) (hb1 : w.R bq1) (hc1 : zO w.W bq1 0 [iv q1]) (r : (List zC)) (H : WA N rec p0 q0 q1 = some r) (hE : HF w w.W (LEn [emp])) : Calls Tryz.prog 15 [sL zF p0 zG, .func (.func 16) #[] #[pV bq0, pV bq1]].toArray w.W fun e W' => ∃ (w' : Bs) (u : (Option Addr × Nat)), w.Le w' ∧ e = .returned (sL u.1 r u.2) ∧ (SlF u.1 r.length u.2) ∧ HF w' W' (LEn [ow u.1 u.2 59 zJ r]) := by
 unfold WA at H
 have leB := Bs.Le.refl w
 refine Tr.enter (n := 42) Tryz.func15 rfl rfl rfl hE (Tr.sr (Tr.asg rfl rfl (Tr.JI 1 59 zJ ?_)))
 show Tr _ _ (uf _ 4 (sL none (([] : List zC)) 0)) _ _
 refine Tr.nil (Tr.zA (Tr.sr (Tr.mv rfl rfl ?_)))
 obtain ⟨QT, zBG, H⟩ := bnd H
 refine Tr.VC [2] [emp] (U := (Option Addr × Nat)) (fun u => (sL u.1 QT u.2)) (fun O W u => SlF u.1 QT.length u.2) (fun u => [ow u.1 u.2 59 zJ QT]) rfl (zQ rfl za) (fun _ => rfl) (wn rfl) rfl Tryz.call43 (zH rfl zP) (fun W hW hp hE => zFr p0 zF zG (zT.zAS (hW.JE hp)) QT zBG hE) ?_
 intro w u zGD hu
 obtain ⟨JO, JM⟩ := u
 have gy100_0 := hu
 replace hc0 := zGD.ext.cells hb0 hc0
 replace hb0 := zGD.r _ hb0
 replace hc1 := zGD.ext.cells hb1 hc1
 replace hb1 := zGD.r _ hb1
 replace leB := leB.trans zGD
 have zCK : SlF JO QT.length JM := gy100_0 --@phi
 dsimp only
 refine Tr.asg rfl rfl (Tr.nil (Tr.zA (Tr.seq (Tr.sr (Tr.mv rfl rfl (Tr.va rfl (fun _ _ a c => QF zF8 (a.ev rfl)) (Tr.mv rfl rfl (Tr.nil (Tr.zA (Tr.block (Tr.loop (σ := (List zC) × Int × (Option Addr) × Nat) (fun m w s => Ju q0 q1 rec QT m s.1 s.2.1 = some r ∧ SlF s.2.2.1 s.1.length s.2.2.2) (fun s => [(1, .func (.func 16) #[] #[pV bq0, pV bq1]), (5, sL s.2.2.1 s.1 s.2.2.2), (10, iv (QT.length : Int)), (11, iv s.2.1)]) (fun s => [(2, ow s.2.2.1 s.2.2.2 59 zJ s.1)]) N (QT, 0, JO, JM) ⟨H, zCK⟩ (.cons rfl (.cons rfl (.cons rfl (.cons rfl .nil)))) (.cons rfl .nil) (fun _ _ h => zAg (h.1)) ?_)))))))))))
 intro w Qc mL1 s hs
 obtain ⟨zCY, Wm, Wj, zB8⟩ := s
 obtain ⟨H, zK8⟩ := hs
 replace H : Ju q0 q1 rec QT (mL1 + 1) zCY Wm = some r := H
 replace hc0 := Qc.ext.cells hb0 hc0
 replace hb0 := Qc.r _ hb0
 replace hc1 := Qc.ext.cells hb1 hc1
 replace hb1 := Qc.r _ hb1
 replace leB := leB.trans Qc
 replace zK8 : SlF Wj zCY.length zB8 := zK8
 rw [Ju.eq_2] at H
 dsimp only
 refine Tr.sr (Tr.va rfl (fun _ _ a c => QD (a.ev rfl) (a.ev rfl)) (Tr.nil (Tr.zA (Tr.seq (Tr.cond rfl H (fun H => ?_) (fun H => ?_))))))
 ·refine Tr.skip (Tr.zA (Tr.seq (Tr.block (Tr.sr (Tr.mv rfl rfl (Tr.asg rfl rfl (Tr.nil (Tr.zA (Tr.sr (Tr.mv rfl rfl (Tr.mv rfl rfl (Tr.mv rfl rfl (Tr.mv rfl rfl ?_)))))))))))))
  obtain ⟨zRH, zle, H⟩ := bnd H
  obtain ⟨zha, zhZ, zhY⟩ := zq zle
  refine Tr.va rfl (fun _ _ a c => zL zIs (a.ev rfl) zK8 (a.ev rfl) zha zhZ) (Tr.va rfl (fun _ _ a c => zB zAY (a.ev rfl)) (Tr.zYg (U := (zJ).Ad) (fun u => (zJ).ok w.O w.W u zRH) (fun u => (sL u.1.1 zRH.Points u.1.2)) (wn rfl) rfl (ldN (κ := 2) (t := zJ) (V := fun u => (sL u.1.1 zRH.Points u.1.2)) rfl zhY (fun _ _ u a hc => zD zEf (a.ev rfl) (hc.drop 4) rfl)) ?_))
  intro zoE zcj
  obtain ⟨⟨zNu, zNi⟩, ⟨znu, znk⟩⟩ := zoE
  obtain ⟨zMJ, zi4⟩ := WI.1 zcj
  replace zMJ : Sl w.O w.W zz zNu zNi zRH.Points := zMJ
  dsimp only
  obtain ⟨y158, hy158, H⟩ := bnd H
  refine Tr.VB [7] [emp] (U := (Option Addr × Nat)) (fun u => (sL u.1 y158 u.2)) (fun u => SlF u.1 y158.length u.2) (fun u => [ow u.1 u.2 27 zz y158]) rfl (zQ rfl za) (fun _ => rfl) (wn rfl) rfl Tryz.call44 (zH rfl zP) (fun W hW hp hE => zDN zRH.Points zNu zNi (zMJ.rl.ext (hW.JE hp)) y158 hy158 hE) ?_
  intro u hu
  obtain ⟨zAc, zAZ⟩ := u
  have gy158_0 := hu
  have zaV : SlF zAc y158.length zAZ := gy158_0 --@phi
  dsimp only
  obtain ⟨x160, hx160, H⟩ := bnd H
  obtain ⟨zhX, zhW, zZu⟩ := zq hx160
  refine Tr.va rfl (fun _ _ a c => zL zIs (a.ev rfl) zK8 (a.ev rfl) zhX zhW) (Tr.va rfl (fun _ _ a c => zB zAY (a.ev rfl)) (Tr.zRX 2 rfl zZu ?_))
  intro zoD zci
  obtain ⟨⟨zdp, zdR⟩, ⟨zH8, zHo⟩⟩ := zoD
  obtain ⟨zi3, zMI⟩ := WI.1 zci
  replace zMI : Sl w.O w.W zJ zH8 zHo x160.Steps := zMI
  show Tr _ _ _ (up _ 2 (ow Wj zB8 59 (mix zJ) (WT zCY (Wm).toNat (raw zJ [iv x160.Kind, sv x160.Name, iv x160.At.X, iv x160.At.Y, sL zdp x160.Points zdR, iv x160.NX, iv x160.NY, sL zH8 x160.Steps zHo] rfl rfl)))) _
  refine Tr.zGp 2 (raw zJ [iv x160.Kind, sv x160.Name, iv x160.At.X, iv x160.At.Y, sL zAc y158 zAZ, iv x160.NX, iv x160.NY, sL zH8 x160.Steps zHo] rfl rfl) (cs := [sL zAc y158 zAZ]) (fo := 4) (wn rfl) rfl rfl rfl rfl rfl (List.getElem?_eq_some_iff.1 zZu).1 zdy rfl rfl rfl ?_
  refine Tr.nil (Tr.zA (Tr.sr (Tr.mv rfl rfl (Tr.mv rfl rfl (Tr.mv rfl rfl (Tr.mv rfl rfl ?_))))))
  obtain ⟨zn1, zld, H⟩ := bnd H
  obtain ⟨zhV, zhU, zhT⟩ := zq zld
  refine Tr.va rfl (fun _ _ a c => zL zIs (a.ev rfl) zK8 (a.ev rfl) zhV zhU) (Tr.va rfl (fun _ _ a c => zB zEF (a.ev rfl)) (Tr.va rfl (fun _ _ a c => zD zEg (a.ev rfl) (zO.drop (rdm (cs := raw zJ [iv x160.Kind, sv x160.Name, iv x160.At.X, iv x160.At.Y, sL zAc y158 zAZ, iv x160.NX, iv x160.NY, sL zH8 x160.Steps zHo] rfl rfl) c (κ := 2) rfl (List.getElem?_eq_some_iff.1 zhT).1) 7) rfl) ?_))
  refine Tr.mv rfl rfl ?_
  obtain ⟨zDU, zkr, H⟩ := bnd H
  refine Tr.VC [8] [emp] (U := (Option Addr × Nat)) (fun u => (sL u.1 zDU u.2)) (fun O W u => SlF u.1 zDU.length u.2) (fun u => [ow u.1 u.2 59 zJ zDU]) rfl (zQ rfl za) (fun _ => rfl) (wn rfl) rfl Tryz.call15 (zH rfl (zH rfl zP)) (fun W hW hp hE => hrec x160.Steps zH8 zHo (zMI.zAS (hW.JE hp)) q0 bq0 ((hW.JE hp).r _ hb0) ((hW.JE hp).cells hb0 hc0) q1 bq1 ((hW.JE hp).r _ hb1) ((hW.JE hp).cells hb1 hc1) zDU zkr hE) ?_
  intro w u zTD hu
  obtain ⟨zC7, zC2⟩ := u
  have gy163_0 := hu
  replace hc0 := zTD.ext.cells hb0 hc0
  replace hb0 := zTD.r _ hb0
  replace hc1 := zTD.ext.cells hb1 hc1
  replace hb1 := zTD.r _ hb1
  replace Qc := Qc.trans zTD
  have zmb : SlF zC7 zDU.length zC2 := gy163_0 --@phi
  dsimp only
  obtain ⟨zn0, zlb, H⟩ := bnd H
  obtain ⟨zhP, zhO, zhN⟩ := zq zlb
  refine Tr.va rfl (fun _ _ a c => zL zIs (a.ev rfl) zK8 (a.ev rfl) zhP zhO) (Tr.va rfl (fun _ _ a c => zB zEF (a.ev rfl)) (Tr.zGp 2 (raw zJ [iv x160.Kind, sv x160.Name, iv x160.At.X, iv x160.At.Y, sL zAc y158 zAZ, iv x160.NX, iv x160.NY, sL zC7 zDU zC2] rfl rfl) (cs := [sL zC7 zDU zC2]) (fo := 7) (wn rfl) rfl rfl rfl rfl rfl (List.getElem?_eq_some_iff.1 zhN).1 zjc rfl rfl rfl ?_))
  refine Tr.nil (Tr.zA (Tr.region (Tr.mv rfl rfl (Tr.mv rfl rfl (Tr.mv rfl rfl ?_)))))
  obtain ⟨zYb, zZt, H⟩ := bnd H
  obtain ⟨zVE, zVD, zVC⟩ := zq zZt
  refine Tr.va rfl (fun _ _ a c => zL zIs (a.ev rfl) zK8 (a.ev rfl) zVE zVD) ?_
  obtain ⟨y167, hy167, H⟩ := bnd H
  refine Tr.zit [2, 7] [ow Wj zB8 59 (mix zJ) (WT zCY (Wm).toNat (raw zJ [iv x160.Kind, sv x160.Name, iv x160.At.X, iv x160.At.Y, sL zAc y158 zAZ, iv x160.NX, iv x160.NY, sL zC7 zDU zC2] rfl rfl)), ow zAc zAZ 27 zz y158] (U := Unit) (fun u => (.tuple #[])) (fun O W u => y167.2.2.length = y158.length) (fun u => [ow Wj zB8 59 (mix zJ) (WT zCY (Wm).toNat (raw zJ [iv x160.Kind, sv x160.Name, iv y167.1, iv y167.2.1, sL zAc y167.2.2 zAZ, iv x160.NX, iv x160.NY, sL zC7 zDU zC2] rfl rfl)), ow zAc zAZ 27 zz y167.2.2]) rfl (zQ rfl (zQ rfl za)) (fun _ => rfl) (wn rfl) rfl rfl Tryz.call16 (zH rfl zP) (fun W hW hp hE => zLi (zC.mk x160.Kind x160.Name x160.At y158 x160.NX x160.NY zDU) zAc zAZ zC7 zC2 (hW.slS (k := 8) rfl hp rfl) Wj zB8 zCY ((Wm).toNat) (List.getElem?_eq_some_iff.1 zVC).1 q0 bq0 ((hW.JE hp).r _ hb0) ((hW.JE hp).cells hb0 hc0) q1 bq1 ((hW.JE hp).r _ hb1) ((hW.JE hp).cells hb1 hc1) y167 hy167 hE) ?_
  intro w u zj0 hu
  have gky167_1 := hu
  replace Qc := Qc.trans zj0
  have zMT : y167.2.2.length = y158.length := gky167_1 --@phi
  have zi9 : SlF zAc y167.2.2.length zAZ := by rw [zMT]; exact zaV
  show Tr _ _ (uf _ 39 (.tuple #[])) (up (up _ 7 (ow zAc zAZ 27 zz y167.2.2)) 2 (ow Wj zB8 59 (mix zJ) (WT zCY (Wm).toNat (raw zJ [iv x160.Kind, sv x160.Name, iv y167.1, iv y167.2.1, sL zAc y167.2.2 zAZ, iv x160.NX, iv x160.NY, sL zC7 zDU zC2] rfl rfl)))) _
  refine Tr.sel (lf := [(1, .func (.func 16) #[] #[pV bq0, pV bq1]), (5, sL Wj zCY zB8), (6, iv Wm), (10, iv (QT.length : Int)), (11, iv Wm), (12, bV (decide (Wm < (QT.length : Int)))), (13, iv Wm), (14, sL Wj zCY zB8), (15, iv Wm), (16, sL Wj zCY zB8), (17, iv Wm), (20, sL zNu zRH.Points zNi), (21, sL zAc y167.2.2 zAZ), (24, sL Wj zCY zB8), (25, iv Wm), (26, sL Wj zCY zB8), (27, iv Wm), (28, .pointer (some ⟨adB Wj, adO Wj + (Wm).toNat * 8, none⟩)), (29, .pointer (some ⟨adB Wj, adO Wj + (Wm).toNat * 8 + 7, none⟩)), (30, sL zH8 x160.Steps zHo), (31, .func (.func 16) #[] #[pV bq0, pV bq1]), (32, sL zC7 zDU zC2), (33, .pointer (some ⟨adB Wj, adO Wj + (Wm).toNat * 8, none⟩)), (34, .pointer (some ⟨adB Wj, adO Wj + (Wm).toNat * 8 + 7, none⟩)), (35, .func (.func 16) #[] #[pV bq0, pV bq1]), (36, sL Wj zCY zB8), (37, iv Wm), (38, .pointer (some ⟨adB Wj, adO Wj + (Wm).toNat * 8, none⟩)), (39, (.tuple #[]))]) (le := [(2, ow Wj zB8 59 (mix zJ) (WT zCY (Wm).toNat (raw zJ [iv x160.Kind, sv x160.Name, iv y167.1, iv y167.2.1, sL zAc y167.2.2 zAZ, iv x160.NX, iv x160.NY, sL zC7 zDU zC2] rfl rfl))), (7, ow zAc zAZ 27 zz y167.2.2), (8, ow zC7 zC2 59 zJ zDU)]) (.cons rfl (.cons rfl (.cons rfl (.cons rfl (.cons rfl (.cons rfl (.cons rfl (.cons rfl (.cons rfl (.cons rfl (.cons rfl (.cons rfl (.cons (Km rfl (by unfold sL; rw [zMT])) (.cons rfl (.cons rfl (.cons rfl (.cons rfl (.cons rfl (.cons rfl (.cons rfl (.cons rfl (.cons rfl (.cons rfl (.cons rfl (.cons rfl (.cons rfl (.cons rfl (.cons rfl (.cons rfl .nil))))))))))))))))))))))))))))) (.cons (za1 rfl (by unfold sL; rw [zMT])) (.cons rfl (.cons rfl .nil))) (Tr.nil (Tr.zh (Tr.zA (Tr.region (Tr.va rfl (fun _ _ a c => zo (a.ev rfl) (a.ev rfl)) (Tr.mv rfl rfl (Tr.nil (Tr.freeze 7 rfl fun w zjz zZb => ?_))))))))
  replace Qc := Qc.trans zjz
  refine Tr.freeze 8 rfl fun w zeB zkB => ?_
  replace zZb := zZb.le zeB
  replace Qc := Qc.trans zeB
  refine Tr.zOS 2 rfl (((zAc, zAZ), (zC7, zC2))) (zC.mk x160.Kind x160.Name (zI.mk y167.1 y167.2.1) y167.2.2 x160.NX x160.NY zDU) (WI.2 ⟨zZb, zkB⟩) rfl ?_
  have zOu : ((zCY).set (Wm).toNat (zC.mk x160.Kind x160.Name (zI.mk y167.1 y167.2.1) y167.2.2 x160.NX x160.NY zDU)).length = zCY.length := List.length_set
  have zcx : SlF Wj ((zCY).set (Wm).toNat (zC.mk x160.Kind x160.Name (zI.mk y167.1 y167.2.1) y167.2.2 x160.NX x160.NY zDU)).length zB8 := by rw [zOu]; exact zK8
  exact Tr.sel (lf := [(1, .func (.func 16) #[] #[pV bq0, pV bq1]), (5, sL Wj (((zCY).set (Wm).toNat (zC.mk x160.Kind x160.Name (zI.mk y167.1 y167.2.1) y167.2.2 x160.NX x160.NY zDU))) zB8), (6, iv Wm), (10, iv (QT.length : Int)), (11, iv (w64 (Wm + 1))), (12, bV (decide (Wm < (QT.length : Int)))), (13, iv Wm), (14, sL Wj (((zCY).set (Wm).toNat (zC.mk x160.Kind x160.Name (zI.mk y167.1 y167.2.1) y167.2.2 x160.NX x160.NY zDU))) zB8), (15, iv Wm), (16, sL Wj (((zCY).set (Wm).toNat (zC.mk x160.Kind x160.Name (zI.mk y167.1 y167.2.1) y167.2.2 x160.NX x160.NY zDU))) zB8), (17, iv Wm), (20, sL zNu zRH.Points zNi), (21, sL zAc y167.2.2 zAZ), (24, sL Wj (((zCY).set (Wm).toNat (zC.mk x160.Kind x160.Name (zI.mk y167.1 y167.2.1) y167.2.2 x160.NX x160.NY zDU))) zB8), (25, iv Wm), (26, sL Wj (((zCY).set (Wm).toNat (zC.mk x160.Kind x160.Name (zI.mk y167.1 y167.2.1) y167.2.2 x160.NX x160.NY zDU))) zB8), (27, iv Wm), (30, sL zH8 x160.Steps zHo), (31, .func (.func 16) #[] #[pV bq0, pV bq1]), (32, sL zC7 zDU zC2), (35, .func (.func 16) #[] #[pV bq0, pV bq1]), (36, sL Wj (((zCY).set (Wm).toNat (zC.mk x160.Kind x160.Name (zI.mk y167.1 y167.2.1) y167.2.2 x160.NX x160.NY zDU))) zB8), (37, iv Wm), (39, (.tuple #[])), (40, iv (w64 (Wm + 1)))]) (le := [(2, ow Wj zB8 59 zJ ((zCY).set (Wm).toNat (zC.mk x160.Kind x160.Name (zI.mk y167.1 y167.2.1) y167.2.2 x160.NX x160.NY zDU)))]) (.cons rfl (.cons (Km rfl (by unfold sL; rw [zOu])) (.cons rfl (.cons rfl (.cons rfl (.cons rfl (.cons rfl (.cons (Km rfl (by unfold sL; rw [zOu])) (.cons rfl (.cons (Km rfl (by unfold sL; rw [zOu])) (.cons rfl (.cons rfl (.cons rfl (.cons (Km rfl (by unfold sL; rw [zOu])) (.cons rfl (.cons (Km rfl (by unfold sL; rw [zOu])) (.cons rfl (.cons rfl (.cons rfl (.cons rfl (.cons rfl (.cons (Km rfl (by unfold sL; rw [zOu])) (.cons rfl (.cons rfl (.cons rfl .nil))))))))))))))))))))))))) (.cons rfl .nil) (Tr.zf Qc (((zCY).set (Wm).toNat (zC.mk x160.Kind x160.Name (zI.mk y167.1 y167.2.1) y167.2.2 x160.NX x160.NY zDU)), (w64 (Wm + 1)), Wj, zB8) ⟨H, zcx⟩ (.cons rfl (.cons rfl (.cons rfl (.cons rfl .nil)))) (.cons rfl .nil))
 ·refine Tr.exit (Tr.ze (Tr.ze (Tr.QK (Tr.zA (Tr.sr (Tr.mv rfl rfl (Tr.asg rfl rfl (Tr.nil (Tr.zA (Tr.ret ?_))))))))))
  obtain rfl := oI H
  exact Tr.out (m := [sL Wj zCY zB8]) [] (zU rfl zV) (fun W hW => ⟨w, (Wj, zB8), leB, rfl, zK8, hW.pick (ks := [2]) (by decide) (zQ rfl za)⟩)
theorem zDn : ∀ (N : Nat) {w : Bs} (p0 : (List zC)) (zF : Option Addr) (zG : Nat) (zT : Sl w.O w.W zJ zF zG p0) (q0 : Int) (bq0 : Nat) (hb0 : w.R bq0) (hc0 : zO w.W bq0 0 [iv q0]) (q1 : Int) (bq1 : Nat) (hb1 : w.R bq1) (hc1 : zO w.W bq1 0 [iv q1]) (r : (List zC)) (H : Wy N p0 q0 q1 = some r) (hE : HF w w.W (LEn [emp])), Calls Tryz.prog 15 [sL zF p0 zG, .func (.func 16) #[] #[pV bq0, pV bq1]].toArray w.W fun e W' => ∃ (w' : Bs) (u : (Option Addr × Nat)), w.Le w' ∧ e = .returned (sL u.1 r u.2) ∧ (SlF u.1 r.length u.2) ∧ HF w' W' (LEn [ow u.1 u.2 59 zJ r])
 | 0 => by intros; rename_i H _; cases H
 | N + 1 => zGg N (Wy N) (zDn N)

theorem zNR (N : Nat) {w : Bs} (p0 : zt) (zF : Option Addr) (zG : Nat) (zT : Sl w.O w.W zW zF zG p0.Tools) (zN : Option Addr) (zM : Nat) (QV : Sl w.O w.W zJ zN zM p0.Steps) (p1 : zI) (r : (zt × Int)) (H : zDq N p0 p1 = some r) (hE : HF w w.W (LEn [])) : Calls Tryz.prog 6 [.agg #[iv p0.Unit, sL zF p0.Tools zG, sL zN p0.Steps zM], .agg #[iv p1.X, iv p1.Y]].toArray w.W fun e W' => ∃ (w' : Bs) (u : (Option Addr × Nat) × (Option Addr × Nat)), w.Le w' ∧ e = .returned (.tuple #[.agg #[iv r.1.Unit, sL u.1.1 r.1.Tools u.1.2, sL u.2.1 r.1.Steps u.2.2], iv r.2]) ∧ (Sl w'.O w'.W zW u.1.1 u.1.2 r.1.Tools ∧ Sl w'.O w'.W zJ u.2.1 u.2.2 r.1.Steps) ∧ HF w' W' (LEn []) := by
 unfold zDq at H
 have leB := Bs.Le.refl w
 refine Tr.enter (n := 59) Tryz.func6 rfl rfl rfl hE (Tr.sr (Tr.box 1 (cs := [iv p0.Unit, sL zF p0.Tools zG, sL zN p0.Steps zM]) (wn rfl) rfl rfl rfl fun zw => (Tr.box 2 (cs := [iv p1.X, iv p1.Y]) (wn rfl) rfl rfl rfl fun Qw => (Tr.alloc 3 (wn rfl) rfl zNz fun KP => (Tr.asg rfl rfl (Tr.nil (Tr.zA (Tr.seq (Tr.sr (Tr.va rfl (fun _ _ a c => zX (cs := [iv p0.Unit, sL zF p0.Tools zG, sL zN p0.Steps zM]) Wt Kn (a.ev rfl) (zO.take (rdb c (vs := [iv p0.Unit, sL zF p0.Tools zG, sL zN p0.Steps zM]) (k := 1) rfl 0) 3) rfl) ?_))))))))))
 obtain ⟨zk, zCr, H⟩ := bnd H
 refine Tr.Qa (r := (iv zk)) (wn rfl) rfl Tryz.call13 (zH rfl zP) (fun W hW => Wz N p0 zF zG (zT.rl.ext hW.Qr) zN zM (QV.rl.ext hW.Qr) zk zCr (HF.start _)) (Tr.asg rfl rfl (Tr.nil (Tr.zA (Tr.sr (Tr.mv rfl rfl (Tr.va rfl (fun _ _ a c => Jm (a.ev rfl) (a.ev rfl)) (Tr.nil (Tr.zA (Tr.cond rfl H (fun H => ?_) (fun H => ?_))))))))))
 ·refine Tr.sr (Tr.build (vs := []) (cs := [iv 0, .slice none 0 0, .slice none 0 0]) (wn rfl) rfl QW (by kernel_rfl) (Tr.mv rfl rfl (Tr.store 3 (cs := [iv 0, .slice none 0 0, .slice none 0 0]) [iv 0, .slice none 0 0, .slice none 0 0] (wn rfl) rfl rfl rfl rfl Kn rfl rfl rfl (Tr.asg rfl rfl (Tr.nil (Tr.zA (Tr.ret (Tr.zb ?_))))))))
  obtain rfl := oI H
  exact Tr.out (m := [.agg #[iv 0, .slice none 0 0, .slice none 0 0], iv zk]) [3] (VI rfl rfl Wt Kn (zU rfl zV)) (fun W hW => ⟨w, ((none, 0), (none, 0)), leB, rfl, ⟨(Sl.nil _ _ _), (Sl.nil _ _ _)⟩, hW.pick (ks := []) (by decide) za⟩)
 ·refine Tr.skip (Tr.zA (Tr.seq (Tr.sr (Tr.va rfl (fun _ _ a c => zX (cs := [iv p1.X, iv p1.Y]) Kk JG (a.ev rfl) (zO.take (rdb c (vs := [iv p1.X, iv p1.Y]) (k := 2) rfl 0) 2) rfl) ?_))))
  obtain ⟨y104, hy104, H⟩ := bnd H
  refine Tr.Qa (r := (bV y104)) (wn rfl) rfl Tryz.call14 (zH rfl zP) (fun W hW => zAV p1 y104 hy104 (HF.start _)) (Tr.va rfl (fun _ _ a c => KD (a.ev rfl)) (Tr.nil (Tr.zA (Tr.cond rfl H (fun H => ?_) (fun H => ?_)))))
  ·refine Tr.sr (Tr.build (vs := []) (cs := [iv 0, .slice none 0 0, .slice none 0 0]) (wn rfl) rfl QW (by kernel_rfl) (Tr.store 3 (cs := [iv 0, .slice none 0 0, .slice none 0 0]) [iv 0, .slice none 0 0, .slice none 0 0] (wn rfl) rfl rfl rfl rfl Kn rfl rfl rfl (Tr.asg rfl rfl (Tr.nil (Tr.zA (Tr.ret (Tr.zb ?_)))))))
   obtain rfl := oI H
   exact Tr.out (m := [.agg #[iv 0, .slice none 0 0, .slice none 0 0], iv 1]) [3] (VI rfl rfl Wt Kn (zU rfl zV)) (fun W hW => ⟨w, ((none, 0), (none, 0)), leB, rfl, ⟨(Sl.nil _ _ _), (Sl.nil _ _ _)⟩, hW.pick (ks := []) (by decide) za⟩)
  ·refine Tr.skip (Tr.zA (Tr.seq (Tr.sr (Tr.va rfl (fun _ _ a c => zB Qy (a.ev rfl)) (Tr.va rfl (fun _ _ a c => zD zm (a.ev rfl) (rdb c (vs := [iv p1.X, iv p1.Y]) (k := 2) rfl 0) rfl) (Tr.va rfl (fun _ _ a c => zB Vg (a.ev rfl)) (Tr.va rfl (fun _ _ a c => zD zm (a.ev rfl) (rdb c (vs := [iv p0.Unit, sL zF p0.Tools zG, sL zN p0.Steps zM]) (k := 1) rfl 0) rfl) ?_)))))))
   obtain ⟨q105, zZ0, H⟩ := bnd H
   refine Tr.va rfl (fun _ _ a c => zLz (a.ev rfl) (a.ev rfl) zZ0) (Tr.va rfl (fun _ _ a c => Jm (a.ev rfl) (a.ev rfl)) (Tr.mv rfl rfl ?_))
   obtain ⟨zKL, zCL, H⟩ := bnd H
   refine Tr.Vw 7 [(2, pV zw), (3, pV Qw), (4, pV KP), (33, bV zKL)] [(1, bx zw #[iv p0.Unit, sL zF p0.Tools zG, sL zN p0.Steps zM] 25), (2, bx Qw #[iv p1.X, iv p1.Y] 27), (3, bx KP #[iv 0, .slice none 0 0, .slice none 0 0] 25)] ?_ ?_
   ·cases zIE : (q105 != 0)
    ·rw [zIE] at zCL
     rw [if_neg (by decide)] at zCL
     have H := zCL
     refine Tr.val (wg rfl rfl rfl) rfl (fun _ _ a c => zB Qx (a.ev rfl)) (Tr.val (wg rfl rfl rfl) rfl (fun _ _ a c => zD zm (a.ev rfl) (rdb c (vs := [iv p1.X, iv p1.Y]) (k := 2) rfl 1) rfl) (Tr.val (wg rfl rfl rfl) rfl (fun _ _ a c => zB Vg (a.ev rfl)) (Tr.val (wg rfl rfl rfl) rfl (fun _ _ a c => zD zm (a.ev rfl) (rdb c (vs := [iv p0.Unit, sL zF p0.Tools zG, sL zN p0.Steps zM]) (k := 1) rfl 0) rfl) ?_)))
     obtain ⟨q108, zZz, H⟩ := bnd H
     refine Tr.val (wg rfl rfl rfl) rfl (fun _ _ a c => zLz (a.ev rfl) (a.ev rfl) zZz) (Tr.val (wg rfl rfl rfl) rfl (fun _ _ a c => Jm (a.ev rfl) (a.ev rfl)) (Tr.va rfl (fun _ _ a c => zy (a.ev rfl) (a.ev rfl)) ?_))
     obtain rfl := oI H
     exact Tr.nil (Tr.JD (.cons rfl (.cons rfl (.cons rfl (.cons rfl .nil)))) (.cons rfl (.cons rfl (.cons rfl .nil))))
    ·rw [zIE] at zCL
     rw [if_pos rfl] at zCL
     have H := zCL
     obtain rfl := oI H
     refine Tr.pass rfl rfl rfl rfl rfl (by decide) (Tr.pass rfl rfl rfl rfl rfl (by decide) (Tr.pass rfl rfl rfl rfl rfl (by decide) (Tr.pass rfl rfl rfl rfl rfl (by decide) (Tr.pass rfl rfl rfl rfl rfl (by decide) (Tr.pass rfl rfl rfl rfl rfl (by decide) (Tr.va rfl (fun _ _ a c => zx (a.ev rfl) (a.ev rfl)) ?_))))))
     exact Tr.nil (Tr.JD (.cons rfl (.cons rfl (.cons rfl (.cons rfl .nil)))) (.cons rfl (.cons rfl (.cons rfl .nil))))
   ·show Tr _ _ (LF [(2, pV zw), (3, pV Qw), (4, pV KP), (33, bV zKL)]) (LE [(1, bx zw #[iv p0.Unit, sL zF p0.Tools zG, sL zN p0.Steps zM] 25), (2, bx Qw #[iv p1.X, iv p1.Y] 27), (3, bx KP #[iv 0, .slice none 0 0, .slice none 0 0] 25)]) _
    refine Tr.nil (Tr.zA (Tr.cond rfl H (fun H => ?_) (fun H => ?_)))
    ·refine Tr.sr (Tr.build (vs := []) (cs := [iv 0, .slice none 0 0, .slice none 0 0]) (wn rfl) rfl QW (by kernel_rfl) (Tr.store 3 (cs := [iv 0, .slice none 0 0, .slice none 0 0]) [iv 0, .slice none 0 0, .slice none 0 0] (wn rfl) rfl rfl rfl rfl Kn rfl rfl rfl (Tr.asg rfl rfl (Tr.nil (Tr.zA (Tr.ret (Tr.zb ?_)))))))
     obtain rfl := oI H
     exact Tr.out (m := [.agg #[iv 0, .slice none 0 0, .slice none 0 0], iv 3]) [3] (VI rfl rfl Wt Kn (zU rfl zV)) (fun W hW => ⟨w, ((none, 0), (none, 0)), leB, rfl, ⟨(Sl.nil _ _ _), (Sl.nil _ _ _)⟩, hW.pick (ks := []) (by decide) za⟩)
    ·refine Tr.skip (Tr.zA (Tr.seq (Tr.zJy 13 [] [12] (by kernel_rfl) (by kernel_rfl) fun zSi zTd zWP => (Dr.quiet 0 [(35, pV Qw)] (by kernel_rfl) rfl rfl (by kernel_rfl) ?_ rfl rfl ?_))))
     ·exact Tq.va rfl (fun _ _ a c => zB Qy (a.ev rfl)) (Tq.fin (.cons rfl .nil))
     refine Dr.quiet 1 [(36, iv p1.X)] (by kernel_rfl) rfl rfl (by kernel_rfl) ?_ rfl rfl ?_
     ·exact Tq.va rfl (fun _ _ a c => zD zm (a.ev rfl) (rdb c (vs := [iv p1.X, iv p1.Y]) (k := 2) rfl 0) rfl) (Tq.fin (.cons rfl .nil))
     refine Dr.quiet 2 [(37, pV zw)] (by kernel_rfl) rfl rfl (by kernel_rfl) ?_ rfl rfl ?_
     ·exact Tq.va rfl (fun _ _ a c => zB Vg (a.ev rfl)) (Tq.fin (.cons rfl .nil))
     refine Dr.quiet 3 [(38, iv p0.Unit)] (by kernel_rfl) rfl rfl (by kernel_rfl) ?_ rfl rfl ?_
     ·exact Tq.va rfl (fun _ _ a c => zD zm (a.ev rfl) (rdb c (vs := [iv p0.Unit, sL zF p0.Tools zG, sL zN p0.Steps zM]) (k := 1) rfl 0) rfl) (Tq.fin (.cons rfl .nil))
     obtain ⟨q110, zl0, H⟩ := bnd H
     refine Dr.quiet 4 [(39, iv q110)] (by kernel_rfl) rfl rfl (by kernel_rfl) ?_ rfl rfl ?_
     ·exact Tq.va rfl (fun _ _ a c => zL1 (a.ev rfl) (a.ev rfl) zl0) (Tq.fin (.cons rfl .nil))
     refine Dr.zA6 5 (by kernel_rfl) rfl (wn rfl) rfl (by kernel_rfl) (fun _ _ a => zB Qx (a.ev rfl)) rfl (Dr.zD3 6 [(41, iv p1.Y)] [] true (by kernel_rfl) rfl rfl (by kernel_rfl) (fun W W' c hsW hk => HF.zIC (le := [(2, bx Qw #[iv p1.X, iv p1.Y] 27)]) (ks := []) (s0 := zSi) true c hk (fun _ => zTd) (.cons rfl .nil) (fun b hb => hb.elim (fun ⟨_, hp, _⟩ => nomatch hp) (fun hb => .inr ⟨rfl, hb.2, (List.forall_mem_cons.2 ⟨fun b hb => zWP 2 b hb, (fun _ h => nomatch h)⟩)⟩)) (fun _ h => nomatch h) rfl) ?_ rfl rfl ?_)
     ·exact Tq.va rfl (fun _ _ a c => zD zm (a.ev rfl) (rdb c (vs := [iv p1.X, iv p1.Y]) (k := 2) rfl 1) rfl) (Tq.fin (.cons rfl .nil))
     refine Dr.zA6 7 (by kernel_rfl) rfl (wn rfl) rfl (by kernel_rfl) (fun _ _ a => zB Vg (a.ev rfl)) rfl (Dr.zD3 8 [(43, iv p0.Unit)] [] true (by kernel_rfl) rfl rfl (by kernel_rfl) (fun W W' c hsW hk => HF.zIC (le := [(1, bx zw #[iv p0.Unit, sL zF p0.Tools zG, sL zN p0.Steps zM] 25)]) (ks := []) (s0 := zSi) true c hk (fun _ => zTd) (.cons rfl .nil) (fun b hb => hb.elim (fun ⟨_, hp, _⟩ => nomatch hp) (fun hb => .inr ⟨rfl, hb.2, (List.forall_mem_cons.2 ⟨fun b hb => zWP 1 b hb, (fun _ h => nomatch h)⟩)⟩)) (fun _ h => nomatch h) rfl) ?_ rfl rfl ?_)
     ·exact Tq.va rfl (fun _ _ a c => zD zm (a.ev rfl) (rdb c (vs := [iv p0.Unit, sL zF p0.Tools zG, sL zN p0.Steps zM]) (k := 1) rfl 0) rfl) (Tq.fin (.cons rfl .nil))
     obtain ⟨q111, zlz, H⟩ := bnd H
     refine Dr.zA6 9 (by kernel_rfl) rfl (wn rfl) rfl (by kernel_rfl) (fun _ _ a => zL1 (a.ev rfl) (a.ev rfl) zlz) rfl (Dr.cut (U := Nat × Nat) [10, 11] 1 (fun u => zSi ≤ u.1 ∧ zSi ≤ u.2) (fun u => [(2, pV zw), (3, pV Qw), (4, pV KP), (7, .pointer (some ⟨u.1, 0, none⟩)), (8, .pointer (some ⟨u.2, 0, none⟩)), (33, bV zKL), (35, pV Qw), (36, iv p1.X), (37, pV zw), (38, iv p0.Unit), (39, iv q110), (40, .pointer (some ⟨Qw, 1, none⟩)), (41, iv p1.Y), (42, pV zw), (43, iv p0.Unit), (44, iv q111)]) (fun u => [(1, bx zw #[iv p0.Unit, sL zF p0.Tools zG, sL zN p0.Steps zM] 25), (2, bx Qw #[iv p1.X, iv p1.Y] 27), (3, bx KP #[iv 0, .slice none 0 0, .slice none 0 0] 25), (4, bx u.1 #[iv 0] 3), (5, bx u.2 #[iv 0] 3)]) ?_ ?_)
     ·intro hC
      refine Dr.pair 10 11 (by kernel_rfl) ?_ ?_
      ·exact St.alloc 10 4 rfl (wn rfl) rfl zXa fun zPN zO3 => (Dr.one 11 (by kernel_rfl) (St.alloc 11 5 rfl (wn rfl) rfl zXa fun zVc zWO => ((hC ⟨zPN, zVc⟩ ⟨zO3, zWO⟩).use (by kernel_rfl) (.cons rfl (.cons rfl (.cons rfl (.cons rfl (.cons rfl (.cons rfl (.cons rfl (.cons rfl (.cons rfl (.cons rfl (.cons rfl (.cons rfl (.cons rfl (.cons rfl (.cons rfl (.cons rfl .nil)))))))))))))))) (.cons rfl (.cons rfl (.cons rfl (.cons rfl (.cons rfl .nil))))))))
      ·exact St.alloc 11 5 rfl (wn rfl) rfl zXa fun zVc zWO => (Dr.one 10 (by kernel_rfl) (St.alloc 10 4 rfl (wn rfl) rfl zXa fun zPN zO3 => ((hC ⟨zPN, zVc⟩ ⟨zO3, zWO⟩).use (by kernel_rfl) (.cons rfl (.cons rfl (.cons rfl (.cons rfl (.cons rfl (.cons rfl (.cons rfl (.cons rfl (.cons rfl (.cons rfl (.cons rfl (.cons rfl (.cons rfl (.cons rfl (.cons rfl (.cons rfl .nil)))))))))))))))) (.cons rfl (.cons rfl (.cons rfl (.cons rfl (.cons rfl .nil))))))))
     intro u hu
     obtain ⟨zPN, zVc⟩ := u
     obtain ⟨zO3, zWO⟩ := hu
     replace zO3 : zSi ≤ zPN := zO3
     dsimp only
     refine Dr.one 12 (by kernel_rfl) (St.store 12 4 (cs := [iv q110]) [iv q110] rfl (wn rfl) (.inr ⟨by simp, zO3⟩) rfl rfl rfl rfl zE8 rfl rfl rfl (Dr.tail (by kernel_rfl) (Tr.store 5 (cs := [iv q111]) [iv q111] (wn rfl) rfl rfl rfl rfl zE8 rfl rfl rfl (Tr.nil (Tr.zA (Tr.sr (Tr.va rfl (fun _ _ a c => zB zGH (a.ev rfl)) (Tr.va rfl (fun _ _ a c => zD zEg (a.ev rfl) (rdb c (vs := [iv p0.Unit, sL zF p0.Tools zG, sL zN p0.Steps zM]) (k := 1) rfl 2) rfl) (Tr.zFi (vs := [pV zPN, pV zVc]) (wn rfl) rfl (zH rfl (zH rfl zP)) ?_)))))))))
     obtain ⟨y114, hy114, H⟩ := bnd H
     refine Tr.VC [6] [emp] (U := (Option Addr × Nat)) (fun u => (sL u.1 y114 u.2)) (fun O W u => SlF u.1 y114.length u.2) (fun u => [ow u.1 u.2 59 zJ y114]) rfl (zQ rfl za) (fun _ => rfl) (wn rfl) rfl Tryz.call15 (zH rfl (zH rfl zP)) (fun W hW hp hE => zDn N p0.Steps zN zM (QV.zAS (hW.JE hp)) q110 zPN (hW.zUD (k := 4) rfl hp rfl) (hW.zbL (k := 4) rfl) q111 zVc (hW.zUD (k := 5) rfl hp rfl) (hW.zbL (k := 5) rfl) y114 hy114 hE) ?_
     intro w u zTF hu
     obtain ⟨zJh, zJc⟩ := u
     have gy114_0 := hu
     replace zT := zT.le zTF
     replace leB := leB.trans zTF
     have zmk : SlF zJh y114.length zJc := gy114_0 --@phi
     dsimp only
     refine Tr.asg rfl rfl (Tr.nil (Tr.zA (Tr.seq (Tr.zJy 10 [] [] (by kernel_rfl) (by kernel_rfl) fun zoo zl7 znb => (Dr.quiet 0 [(49, pV zw)] (by kernel_rfl) rfl rfl (by kernel_rfl) ?_ rfl rfl ?_)))))
     ·exact Tq.va rfl (fun _ _ a c => zB Vg (a.ev rfl)) (Tq.fin (.cons rfl .nil))
     refine Dr.quiet 1 [(50, iv p0.Unit)] (by kernel_rfl) rfl rfl (by kernel_rfl) ?_ rfl rfl ?_
     ·exact Tq.va rfl (fun _ _ a c => zD zm (a.ev rfl) (rdb c (vs := [iv p0.Unit, sL zF p0.Tools zG, sL zN p0.Steps zM]) (k := 1) rfl 0) rfl) (Tq.fin (.cons rfl .nil))
     refine Dr.quiet 2 [(51, .pointer (some ⟨zw, 1, none⟩))] (by kernel_rfl) rfl rfl (by kernel_rfl) ?_ rfl rfl ?_
     ·exact Tq.va rfl (fun _ _ a c => zB zEH (a.ev rfl)) (Tq.fin (.cons rfl .nil))
     refine Dr.quiet 3 [(52, sL zF p0.Tools zG)] (by kernel_rfl) rfl rfl (by kernel_rfl) ?_ rfl rfl ?_
     ·exact Tq.va rfl (fun _ _ a c => zD zLc (a.ev rfl) (rdb c (vs := [iv p0.Unit, sL zF p0.Tools zG, sL zN p0.Steps zM]) (k := 1) rfl 1) rfl) (Tq.fin (.cons rfl .nil))
     refine Dr.quiet 5 [(54, sL zJh y114 zJc)] (by kernel_rfl) rfl rfl (by kernel_rfl) ?_ rfl rfl ?_
     ·exact Tq.mv rfl rfl (Tq.fin (.cons rfl .nil))
     obtain ⟨zJj, zZo, H⟩ := bnd H
     refine Dr.one 4 (by kernel_rfl) (St.VC 4 [7] [emp] (U := (Option Addr × Nat)) (fun u => (sL u.1 zJj u.2)) (fun O W u => SlF u.1 zJj.length u.2) (fun u => [ow u.1 u.2 91 zW zJj]) rfl (zQ rfl za) (fun _ => rfl) (zGE rfl) rfl (wn rfl) rfl Tryz.call19 (zH rfl (zH rfl zP)) (fun W hW hp hE => zDD N p0.Tools zF zG (zT.zAS (hW.JE hp)) (fun z0 => zAK z0) 20 [] Tryz.call20 (fun w' he z0 y hy => zHF z0 y hy (HF.start _)) zJj zZo hE) ?_)
     intro w u zj4 hu zoW
     obtain ⟨zLq, zLR⟩ := u
     have gy117_0 := hu
     replace leB := leB.trans zj4
     have zmi : SlF zLq zJj.length zLR := gy117_0
     dsimp only
     refine Dr.quiet 6 [(55, .agg #[iv p0.Unit, sL zLq zJj zLR, sL zJh y114 zJc])] (by kernel_rfl) rfl rfl (by kernel_rfl) ?_ rfl rfl ?_
     ·exact Tq.build (vs := [(0, iv p0.Unit), (1, sL zLq zJj zLR), (2, sL zJh y114 zJc)]) (cs := [iv p0.Unit, sL zLq zJj zLR, sL zJh y114 zJc]) (wn rfl) rfl (zi rfl (zi rfl (zi rfl QW))) (by kernel_rfl) (Tq.fin (.cons rfl .nil))
     obtain ⟨Wl, zOj, H⟩ := bnd H
     refine Dr.one 7 (by kernel_rfl) (St.freeze 7 rfl fun w zj3 zTR => ?_)
     replace leB := leB.trans zj3
     refine St.freeze 6 rfl fun w zM1 zZd => ?_
     replace zTR := zTR.le zM1
     replace leB := leB.trans zM1
     refine St.VC 7 [] [] (U := (Option Addr × Nat) × (Option Addr × Nat)) (fun u => (.tuple #[.agg #[iv Wl.1.Unit, sL u.1.1 Wl.1.Tools u.1.2, sL u.2.1 Wl.1.Steps u.2.2], iv Wl.2])) (fun O W u => Sl O W zW u.1.1 u.1.2 Wl.1.Tools ∧ Sl O W zJ u.2.1 u.2.2 Wl.1.Steps) (fun u => []) rfl za (fun _ => rfl) (zGE rfl) rfl (wn rfl) rfl Tryz.call18 (zH rfl zP) (fun W hW hp hE => zI6 N (zt.mk p0.Unit zJj y114) zLq zLR (zTR.zAS (hW.JE hp)) zJh zJc (zZd.zAS (hW.JE hp)) Wl zOj hE) ?_
     intro w u zM0 hu zoV
     obtain ⟨⟨zCd, zCb⟩, ⟨zJg, zJb⟩⟩ := u
     obtain ⟨gy123_0, gy123_1⟩ := hu
     replace zZd := zZd.le zM0
     replace zTR := zTR.le zM0
     replace leB := leB.trans zM0
     have zLA : Sl w.O w.W zW zCd zCb Wl.1.Tools := gy123_0
     have zaZ : Sl w.O w.W zJ zJg zJb Wl.1.Steps := gy123_1
     dsimp only
     refine Dr.quiet 8 [(57, .agg #[iv Wl.1.Unit, sL zCd Wl.1.Tools zCb, sL zJg Wl.1.Steps zJb])] (by kernel_rfl) rfl rfl (by kernel_rfl) ?_ rfl rfl ?_
     ·exact Tq.va rfl (fun _ _ a c => Qb (a.ev rfl) rfl) (Tq.fin (.cons rfl .nil))
     refine Dr.quiet 9 [(58, iv Wl.2)] (by kernel_rfl) rfl rfl (by kernel_rfl) ?_ rfl rfl ?_
     ·exact Tq.va rfl (fun _ _ a c => Qb (a.ev rfl) rfl) (Tq.fin (.cons rfl .nil))
     refine Dr.tail (by kernel_rfl) (Tr.store 3 (cs := [iv Wl.1.Unit, sL zCd Wl.1.Tools zCb, sL zJg Wl.1.Steps zJb]) [iv Wl.1.Unit, sL zCd Wl.1.Tools zCb, sL zJg Wl.1.Steps zJb] (wn rfl) rfl rfl rfl rfl Kn rfl rfl rfl (Tr.asg rfl rfl (Tr.nil (Tr.zA (Tr.ret ?_)))))
     obtain rfl := oI H
     exact Tr.out (m := [.agg #[iv Wl.1.Unit, sL zCd Wl.1.Tools zCb, sL zJg Wl.1.Steps zJb], iv Wl.2]) [3] (VI rfl rfl Wt Kn (zU rfl zV)) (fun W hW => ⟨w, ((zCd, zCb), (zJg, zJb)), leB, rfl, ⟨zLA, zaZ⟩, hW.pick (ks := []) (by decide) za⟩)

theorem zIU {w : Bs} (p0 : (List zK)) (zF : Option Addr) (zG : Nat) (zT : Sl w.R w.W zR zF zG p0) (r : Int) (H : zAW p0 = some r) (hE : HF w w.W E0) : Calls Tryz.prog 47 [sL zF p0 zG].toArray w.W fun e W' => e = .returned (iv r) ∧ HF w W' E0 := by
 unfold zAW at H
 have leB := Bs.Le.refl w
 refine Tr.enter (n := 30) Tryz.func47 rfl rfl rfl hE (Tr.sr (Tr.asg rfl rfl (Tr.nil (Tr.zA (Tr.seq (Tr.sr (Tr.mv rfl rfl (Tr.va rfl (fun _ _ a c => QF zA7 (a.ev rfl)) (Tr.va rfl (fun _ _ a c => VS (a.ev rfl) (a.ev rfl)) (Tr.nil (Tr.zA (Tr.cond rfl H (fun H => ?_) (fun H => ?_)))))))))))))
 ·refine Tr.sr (Tr.asg rfl rfl (Tr.nil (Tr.zA (Tr.ret (Tr.zb ?_)))))
  obtain rfl := oI H
  exact Tr.out (m := [iv 2]) [] (zU rfl zV) (fun W hW => ⟨rfl, hW.low leB⟩)
 ·refine Tr.skip (Tr.zA (Tr.seq (Tr.sr (Tr.mv rfl rfl (Tr.va rfl (fun _ _ a c => QF zA7 (a.ev rfl)) (Tr.mv rfl rfl (Tr.nil (Tr.zA (Tr.block (Tr.loop (σ := (List zK) × Nat) (fun m w s => m = s.1.length + 1 ∧ s.1 = List.drop s.2 p0 ∧ s.2 ≤ p0.length ∧ Jf s.1 s.2 = some r) (fun s => [(8, sL zF p0 zG), (9, iv (p0.length : Int)), (10, iv (s.2 : Int))]) (fun s => []) (p0.length + 1) (p0, 0) ⟨rfl, rfl, Nat.zero_le _, H⟩ (.cons rfl (.cons rfl (.cons rfl .nil))) .nil (fun _ _ h => absurd h.1 (by simp)) ?_))))))))))
  intro w Qc m s hs
  obtain ⟨zY, iL1⟩ := s
  obtain ⟨Ki, QE, hiL1, H⟩ := hs
  replace QE : zY = List.drop iL1 p0 := QE
  replace H : Jf zY iL1 = some r := H
  replace Ki : m + 1 = zY.length + 1 := Ki
  replace zT := zT.leR Qc
  replace leB := leB.trans Qc
  obtain rfl : m = zY.length := by omega
  clear Ki
  dsimp only
  cases zY with
  | nil =>
   rw [Jf.eq_1] at H
   refine Tr.sr (Tr.va rfl (fun _ _ a c => QD (a.ev rfl) (a.ev rfl)) (Tr.nil (Tr.zA (Tr.seq (Tr.Vy rfl (JA QE) (Tr.exit (Tr.ze (Tr.ze (Tr.QK (Tr.zA (Tr.sr (Tr.asg rfl rfl (Tr.nil (Tr.zA (Tr.ret ?_)))))))))))))))
   obtain rfl := oI H
   exact Tr.out (m := [iv 0]) [] (zU rfl zV) (fun W hW => ⟨rfl, hW.low leB⟩)
  | cons xL1 zY =>
   rw [Jf.eq_2] at H
   refine Tr.sr (Tr.va rfl (fun _ _ a c => QD (a.ev rfl) (a.ev rfl)) (Tr.nil (Tr.zA (Tr.seq (Tr.Vx rfl (JU QE) (Tr.skip (Tr.zA (Tr.seq (Tr.block (Tr.sr (Tr.va rfl (fun _ _ a c => zL zB5 (a.ev rfl) zT.form (a.ev rfl) (Int.natCast_nonneg _) (QC QE)) (Tr.va rfl (fun _ _ a c => zX (cs := [iv xL1.X0, iv xL1.Y0, iv xL1.X1, iv xL1.Y1]) zAu KM (a.ev rfl) (zO.take (rdF VP zT (KH QE) c) 4) rfl) (Tr.alloc 2 (wn rfl) rfl zDE fun Vs => (Tr.store 2 (cs := [iv xL1.X0, iv xL1.Y0, iv xL1.X1, iv xL1.Y1]) [iv xL1.X0, iv xL1.Y0, iv xL1.X1, iv xL1.Y1] (wn rfl) rfl rfl rfl rfl KM rfl rfl rfl (Tr.nil (Tr.zA (Tr.seq (Tr.sr (Tr.va rfl (fun _ _ a c => zX (cs := [iv xL1.X0, iv xL1.Y0, iv xL1.X1, iv xL1.Y1]) zAu KM (a.ev rfl) (zO.take (rdb c (vs := [iv xL1.X0, iv xL1.Y0, iv xL1.X1, iv xL1.Y1]) (k := 2) rfl 0) 4) rfl) ?_)))))))))))))))))))
   obtain ⟨VD, zOk, H⟩ := bnd H
   refine Tr.Qa (r := (bV VD)) (wn rfl) rfl Tryz.call57 (zH rfl zP) (fun W hW => zGQ xL1 VD zOk (HF.start _)) (Tr.va rfl (fun _ _ a c => KD (a.ev rfl)) (Tr.nil (Tr.zA (Tr.cond rfl H (fun H => ?_) (fun H => ?_)))))
   ·refine Tr.sr (Tr.asg rfl rfl (Tr.nil (Tr.zA (Tr.ret (Tr.zb (Tr.QP (Tr.zb (Tr.zb (Tr.QP (Tr.zb ?_))))))))))
    obtain rfl := oI H
    exact Tr.out (m := [iv 1]) [] (zU rfl zV) (fun W hW => ⟨rfl, hW.low leB⟩)
   ·refine Tr.skip (Tr.zA (Tr.sr (Tr.va rfl (fun _ _ a c => zB zC0 (a.ev rfl)) (Tr.va rfl (fun _ _ a c => zD zm (a.ev rfl) (rdb c (vs := [iv xL1.X0, iv xL1.Y0, iv xL1.X1, iv xL1.Y1]) (k := 2) rfl 2) rfl) (Tr.va rfl (fun _ _ a c => zB WX (a.ev rfl)) (Tr.va rfl (fun _ _ a c => zD zm (a.ev rfl) (rdb c (vs := [iv xL1.X0, iv xL1.Y0, iv xL1.X1, iv xL1.Y1]) (k := 2) rfl 0) rfl) (Tr.va rfl (fun _ _ a c => zAX (a.ev rfl) (a.ev rfl)) (Tr.mv rfl rfl (Tr.Vw 6 [(8, sL zF p0 zG), (9, iv (p0.length : Int)), (10, iv (iL1 : Int)), (28, bV ((decide (xL1.X1 ≤ xL1.X0)) || (decide (xL1.Y1 ≤ xL1.Y0))))] [(2, bx Vs #[iv xL1.X0, iv xL1.Y0, iv xL1.X1, iv xL1.Y1] 40)] ?_ ?_)))))))))
    ·cases zov : (decide (xL1.X1 ≤ xL1.X0))
     ·exact Tr.val (wg rfl rfl rfl) rfl (fun _ _ a c => zB zDe (a.ev rfl)) (Tr.val (wg rfl rfl rfl) rfl (fun _ _ a c => zD zm (a.ev rfl) (rdb c (vs := [iv xL1.X0, iv xL1.Y0, iv xL1.X1, iv xL1.Y1]) (k := 2) rfl 3) rfl) (Tr.val (wg rfl rfl rfl) rfl (fun _ _ a c => zB zAq (a.ev rfl)) (Tr.val (wg rfl rfl rfl) rfl (fun _ _ a c => zD zm (a.ev rfl) (rdb c (vs := [iv xL1.X0, iv xL1.Y0, iv xL1.X1, iv xL1.Y1]) (k := 2) rfl 1) rfl) (Tr.val (wg rfl rfl rfl) rfl (fun _ _ a c => zAX (a.ev rfl) (a.ev rfl)) (Tr.va rfl (fun _ _ a c => zy (a.ev rfl) (a.ev rfl)) (Tr.nil (Tr.JD (.cons rfl (.cons rfl (.cons rfl (.cons rfl .nil)))) (.cons rfl .nil))))))))
     ·exact Tr.pass rfl rfl rfl rfl rfl (by decide) (Tr.pass rfl rfl rfl rfl rfl (by decide) (Tr.pass rfl rfl rfl rfl rfl (by decide) (Tr.pass rfl rfl rfl rfl rfl (by decide) (Tr.pass rfl rfl rfl rfl rfl (by decide) (Tr.va rfl (fun _ _ a c => zx (a.ev rfl) (a.ev rfl)) (Tr.nil (Tr.JD (.cons rfl (.cons rfl (.cons rfl (.cons rfl .nil)))) (.cons rfl .nil))))))))
    ·show Tr _ _ (LF [(8, sL zF p0 zG), (9, iv (p0.length : Int)), (10, iv (iL1 : Int)), (28, bV ((decide (xL1.X1 ≤ xL1.X0)) || (decide (xL1.Y1 ≤ xL1.Y0))))]) (LE [(2, bx Vs #[iv xL1.X0, iv xL1.Y0, iv xL1.X1, iv xL1.Y1] 40)]) _
     refine Tr.nil (Tr.zA (Tr.cond rfl H (fun H => ?_) (fun H => ?_)))
     ·refine Tr.sr (Tr.asg rfl rfl (Tr.nil (Tr.zA (Tr.ret (Tr.QP (Tr.zb (Tr.zb (Tr.QP (Tr.zb ?_)))))))))
      obtain rfl := oI H
      exact Tr.out (m := [iv 13]) [] (zU rfl zV) (fun W hW => ⟨rfl, hW.low leB⟩)
     ·exact Tr.skip (Tr.zh (Tr.zA (Tr.region (Tr.va rfl (fun _ _ a c => zo (a.ev rfl) (a.ev rfl)) (Tr.mv rfl rfl (Tr.nil (Tr.zf Qc (zY, (iL1 + 1)) ⟨rfl, Qe QE, QC QE, H⟩ (.cons rfl (.cons rfl (.cons (congrArg (fun z => some (Value.int .i64 z)) (Qd QE zT.form)) .nil))) .nil)))))))

theorem zBi {w : Bs} (p0 : (List zK)) (zF : Option Addr) (zG : Nat) (zT : Sl w.R w.W zR zF zG p0) (p1 : (List zK)) (QB : Option Addr) (QA : Nat) (Qt : Sl w.R w.W zR QB QA p1) (r : Bool) (H : KJ p0 p1 = some r) (hE : HF w w.W E0) : Calls Tryz.prog 8 [sL zF p0 zG, sL QB p1 QA].toArray w.W fun e W' => e = .returned (bV r) ∧ HF w W' E0 := by
 unfold KJ at H
 have leB := Bs.Le.refl w
 refine Tr.enter (n := 26) Tryz.func8 rfl rfl rfl hE (Tr.sr (Tr.asg rfl rfl (Tr.nil (Tr.zA (Tr.seq (Tr.sr (Tr.mv rfl rfl (Tr.va rfl (fun _ _ a c => QF zA7 (a.ev rfl)) (Tr.mv rfl rfl (Tr.va rfl (fun _ _ a c => QF zA7 (a.ev rfl)) (Tr.va rfl (fun _ _ a c => Jm (a.ev rfl) (a.ev rfl)) (Tr.nil (Tr.zA (Tr.cond rfl H (fun H => ?_) (fun H => ?_)))))))))))))))
 ·refine Tr.sr (Tr.asg rfl rfl (Tr.nil (Tr.zA (Tr.ret (Tr.zb ?_)))))
  obtain rfl := oI H
  exact Tr.out (m := [bV false]) [] (zU rfl zV) (fun W hW => ⟨rfl, hW.low leB⟩)
 ·refine Tr.skip (Tr.zA (Tr.seq (Tr.sr (Tr.mv rfl rfl (Tr.va rfl (fun _ _ a c => QF zA7 (a.ev rfl)) (Tr.mv rfl rfl (Tr.nil (Tr.zA (Tr.block (Tr.loop (σ := (List zK) × Nat) (fun m w s => m = s.1.length + 1 ∧ s.1 = List.drop s.2 p0 ∧ s.2 ≤ p0.length ∧ JR p1 s.1 s.2 = some r) (fun s => [(0, sL zF p0 zG), (1, sL QB p1 QA), (12, iv (p0.length : Int)), (13, iv (s.2 : Int))]) (fun s => []) (p0.length + 1) (p0, 0) ⟨rfl, rfl, Nat.zero_le _, H⟩ (.cons rfl (.cons rfl (.cons rfl (.cons rfl .nil)))) .nil (fun _ _ h => absurd h.1 (by simp)) ?_))))))))))
  intro w Qc m s hs
  obtain ⟨zY, iL1⟩ := s
  obtain ⟨Ki, QE, hiL1, H⟩ := hs
  replace QE : zY = List.drop iL1 p0 := QE
  replace H : JR p1 zY iL1 = some r := H
  replace Ki : m + 1 = zY.length + 1 := Ki
  replace zT := zT.leR Qc
  replace Qt := Qt.leR Qc
  replace leB := leB.trans Qc
  obtain rfl : m = zY.length := by omega
  clear Ki
  dsimp only
  cases zY with
  | nil =>
   rw [JR.eq_1] at H
   refine Tr.sr (Tr.va rfl (fun _ _ a c => QD (a.ev rfl) (a.ev rfl)) (Tr.nil (Tr.zA (Tr.seq (Tr.Vy rfl (JA QE) (Tr.exit (Tr.ze (Tr.ze (Tr.QK (Tr.zA (Tr.sr (Tr.asg rfl rfl (Tr.nil (Tr.zA (Tr.ret ?_)))))))))))))))
   obtain rfl := oI H
   exact Tr.out (m := [bV true]) [] (zU rfl zV) (fun W hW => ⟨rfl, hW.low leB⟩)
  | cons xL1 zY =>
   rw [JR.eq_2] at H
   refine Tr.sr (Tr.va rfl (fun _ _ a c => QD (a.ev rfl) (a.ev rfl)) (Tr.nil (Tr.zA (Tr.seq (Tr.Vx rfl (JU QE) (Tr.skip (Tr.zA (Tr.seq (Tr.block (Tr.sr (Tr.mv rfl rfl (Tr.asg rfl rfl (Tr.nil (Tr.zA (Tr.seq (Tr.draw (by kernel_rfl) (by kernel_rfl) (Tq.mv rfl rfl (Tq.mv rfl rfl (Tq.va rfl (fun _ _ a c => zL zB5 (a.ev rfl) zT.form (a.ev rfl) (Int.natCast_nonneg _) (QC QE)) (Tq.va rfl (fun _ _ a c => zX (cs := [iv xL1.X0, iv xL1.Y0, iv xL1.X1, iv xL1.Y1]) zAu KM (a.ev rfl) (zO.take (rdF VP zT (KH QE) c) 4) rfl) (Tq.mv rfl rfl (Tq.mv rfl rfl ?_))))))))))))))))))))))
   obtain ⟨x103, zTc, H⟩ := bnd H
   obtain ⟨zOt, zOs, zOr⟩ := zq zTc
   refine Tq.va rfl (fun _ _ a c => zL zB5 (a.ev rfl) Qt.form (a.ev rfl) zOt zOs) (Tq.va rfl (fun _ _ a c => zX (cs := [iv x103.X0, iv x103.Y0, iv x103.X1, iv x103.Y1]) zAu KM (a.ev rfl) (zO.take (rdF VP Qt zOr c) 4) rfl) (Tq.va rfl (fun _ _ a c => zUq xL1 x103 (a.ev rfl) (a.ev rfl)) (Tq.nil (Tr.zA (Tr.cond rfl H (fun H => ?_) (fun H => ?_))))))
   ·refine Tr.sr (Tr.asg rfl rfl (Tr.nil (Tr.zA (Tr.ret (Tr.QP (Tr.zb (Tr.zb (Tr.QP (Tr.zb ?_)))))))))
    obtain rfl := oI H
    exact Tr.out (m := [bV false]) [] (zU rfl zV) (fun W hW => ⟨rfl, hW.low leB⟩)
   ·exact Tr.skip (Tr.zh (Tr.zA (Tr.region (Tr.va rfl (fun _ _ a c => zo (a.ev rfl) (a.ev rfl)) (Tr.mv rfl rfl (Tr.nil (Tr.zf Qc (zY, (iL1 + 1)) ⟨rfl, Qe QE, QC QE, H⟩ (.cons rfl (.cons rfl (.cons rfl (.cons (congrArg (fun z => some (Value.int .i64 z)) (Qd QE zT.form)) .nil)))) .nil)))))))

theorem zHw (N : Nat) {w : Bs} (p0 : (List zK)) (zF : Option Addr) (zG : Nat) (zT : Sl w.R w.W zR zF zG p0) (r : Int) (H : Wx N p0 = some r) (hE : HF w w.W E0) : Calls Tryz.prog 21 [sL zF p0 zG].toArray w.W fun e W' => e = .returned (iv r) ∧ HF w W' E0 := by
 unfold Wx at H
 have leB := Bs.Le.refl w
 refine Tr.enter (n := 52) Tryz.func21 rfl rfl rfl hE (Tr.sr (Tr.asg rfl rfl (Tr.nil (Tr.zA (Tr.seq (Tr.sr (Tr.mv rfl rfl ?_)))))))
 obtain ⟨QT, zBG, H⟩ := bnd H
 refine Tr.Qa (r := (iv QT)) (wn rfl) rfl Tryz.call47 (zH rfl zP) (fun W hW => zIU p0 zF zG (zT.ext hW.Qr) QT zBG (HF.start _)) (Tr.asg rfl rfl (Tr.nil (Tr.zA (Tr.sr (Tr.mv rfl rfl (Tr.va rfl (fun _ _ a c => Jm (a.ev rfl) (a.ev rfl)) (Tr.nil (Tr.zA (Tr.cond rfl H (fun H => ?_) (fun H => ?_))))))))))
 ·refine Tr.sr (Tr.mv rfl rfl (Tr.asg rfl rfl (Tr.nil (Tr.zA (Tr.ret (Tr.zb ?_))))))
  obtain rfl := oI H
  exact Tr.out (m := [iv QT]) [] (zU rfl zV) (fun W hW => ⟨rfl, hW.low leB⟩)
 ·refine Tr.skip (Tr.zA (Tr.seq (Tr.sr (Tr.asg rfl rfl (Tr.nil (Tr.zA (Tr.block (Tr.loop (σ := Int) (fun m w s => Qn N p0 m s = some r) (fun s => [(0, sL zF p0 zG), (4, iv s)]) (fun s => []) N 1 H (.cons rfl (.cons rfl .nil)) .nil (fun _ _ h => zAg (h)) ?_))))))))
  intro w Qc mL1 zBF hs
  have H := hs
  replace H : Qn N p0 (mL1 + 1) zBF = some r := H
  replace zT := zT.leR Qc
  replace leB := leB.trans Qc
  rw [Qn.eq_2] at H
  show Tr _ _ (LF [(0, sL zF p0 zG), (4, iv zBF)]) (LE []) _
  refine Tr.seq (Tr.sr (Tr.mv rfl rfl (Tr.mv rfl rfl (Tr.va rfl (fun _ _ a c => QF zA7 (a.ev rfl)) (Tr.va rfl (fun _ _ a c => QD (a.ev rfl) (a.ev rfl)) (Tr.nil (Tr.zA (Tr.cond rfl H (fun H => ?_) (fun H => ?_)))))))))
  ·refine Tr.skip (Tr.zA (Tr.seq (Tr.block (Tr.seq (Tr.zJy 12 [] [11] (by kernel_rfl) (by kernel_rfl) fun zVo zZ4 zna => (Dr.quiet 0 [(18, sL zF p0 zG)] (by kernel_rfl) rfl rfl (by kernel_rfl) ?_ rfl rfl ?_))))))
   ·exact Tq.mv rfl rfl (Tq.fin (.cons rfl .nil))
   refine Dr.quiet 1 [(19, iv zBF)] (by kernel_rfl) rfl rfl (by kernel_rfl) ?_ rfl rfl ?_
   ·exact Tq.mv rfl rfl (Tq.fin (.cons rfl .nil))
   refine Dr.quiet 2 [(20, iv (w64 (zBF - 1)))] (by kernel_rfl) rfl rfl (by kernel_rfl) ?_ rfl rfl ?_
   ·exact Tq.va rfl (fun _ _ a c => zAA (a.ev rfl) (a.ev rfl)) (Tq.fin (.cons rfl .nil))
   obtain ⟨QY, zZx, H⟩ := bnd H
   obtain ⟨zVG, zVF, hx1182⟩ := zq zZx
   refine Dr.quiet 3 [(21, .pointer (some ⟨adB zF, adO zF + ((w64 (zBF - 1))).toNat * 4, none⟩))] (by kernel_rfl) rfl rfl (by kernel_rfl) ?_ rfl rfl ?_
   ·exact Tq.va rfl (fun _ _ a c => zL zB5 (a.ev rfl) zT.form (a.ev rfl) zVG zVF) (Tq.fin (.cons rfl .nil))
   refine Dr.quiet 4 [(22, .agg #[iv QY.X0, iv QY.Y0, iv QY.X1, iv QY.Y1])] (by kernel_rfl) rfl rfl (by kernel_rfl) ?_ rfl rfl ?_
   ·exact Tq.va rfl (fun _ _ a c => zX (cs := [iv QY.X0, iv QY.Y0, iv QY.X1, iv QY.Y1]) zAu KM (a.ev rfl) (zO.take (rdF VP zT hx1182 c) 4) rfl) (Tq.fin (.cons rfl .nil))
   refine Dr.zA6 5 (by kernel_rfl) rfl (wn rfl) rfl (by kernel_rfl) (fun _ _ a => run_move (a.ev rfl)) rfl (Dr.zA6 6 (by kernel_rfl) rfl (wn rfl) rfl (by kernel_rfl) (fun _ _ a => run_move (a.ev rfl)) rfl ?_)
   obtain ⟨Kz, zZw, H⟩ := bnd H
   obtain ⟨hx1190, hx1191, hx1192⟩ := zq zZw
   refine Dr.zA6 7 (by kernel_rfl) rfl (wn rfl) rfl (by kernel_rfl) (fun _ _ a => zL zB5 (a.ev rfl) zT.form (a.ev rfl) hx1190 hx1191) rfl (Dr.zD3 8 [(26, .agg #[iv Kz.X0, iv Kz.Y0, iv Kz.X1, iv Kz.Y1])] [] true (by kernel_rfl) rfl rfl (by kernel_rfl) (fun W W' c hsW hk => HF.zIC (le := []) (ks := []) (s0 := zVo) true c hk (fun _ => zZ4) .nil (fun b hb => hb.elim (fun ⟨_, hp, _⟩ => nomatch hp) (fun hb => .inr ⟨rfl, hb.2, (fun _ h => nomatch h)⟩)) (fun _ h => nomatch h) rfl) ?_ rfl rfl ?_)
   ·exact Tq.va rfl (fun _ _ a c => zX (cs := [iv Kz.X0, iv Kz.Y0, iv Kz.X1, iv Kz.Y1]) zAu KM (a.ev rfl) (zO.take (rdF VP zT hx1192 c) 4) rfl) (Tq.fin (.cons rfl .nil))
   refine Dr.cut (U := Nat × Nat) [9, 10] 1 (fun u => zVo ≤ u.1 ∧ zVo ≤ u.2) (fun u => [(0, sL zF p0 zG), (4, iv zBF), (5, .pointer (some ⟨u.1, 0, none⟩)), (6, .pointer (some ⟨u.2, 0, none⟩)), (12, iv zBF), (13, sL zF p0 zG), (14, iv (p0.length : Int)), (15, bV (decide (zBF < (p0.length : Int)))), (18, sL zF p0 zG), (19, iv zBF), (20, iv (w64 (zBF - 1))), (21, .pointer (some ⟨adB zF, adO zF + ((w64 (zBF - 1))).toNat * 4, none⟩)), (22, .agg #[iv QY.X0, iv QY.Y0, iv QY.X1, iv QY.Y1]), (23, sL zF p0 zG), (24, iv zBF), (25, .pointer (some ⟨adB zF, adO zF + (zBF).toNat * 4, none⟩)), (26, .agg #[iv Kz.X0, iv Kz.Y0, iv Kz.X1, iv Kz.Y1])]) (fun u => [(5, bx u.1 #[iv 0, iv 0, iv 0, iv 0] 40), (6, bx u.2 #[iv 0, iv 0, iv 0, iv 0] 40)]) ?_ ?_
   ·intro hC
    refine Dr.pair 9 10 (by kernel_rfl) ?_ ?_
    ·exact St.alloc 9 5 rfl (wn rfl) rfl zDE fun zPt zO2 => (Dr.one 10 (by kernel_rfl) (St.alloc 10 6 rfl (wn rfl) rfl zDE fun zVb zWN => ((hC ⟨zPt, zVb⟩ ⟨zO2, zWN⟩).use (by kernel_rfl) (.cons rfl (.cons rfl (.cons rfl (.cons rfl (.cons rfl (.cons rfl (.cons rfl (.cons rfl (.cons rfl (.cons rfl (.cons rfl (.cons rfl (.cons rfl (.cons rfl (.cons rfl (.cons rfl (.cons rfl .nil))))))))))))))))) (.cons rfl (.cons rfl .nil)))))
    ·exact St.alloc 10 6 rfl (wn rfl) rfl zDE fun zVb zWN => (Dr.one 9 (by kernel_rfl) (St.alloc 9 5 rfl (wn rfl) rfl zDE fun zPt zO2 => ((hC ⟨zPt, zVb⟩ ⟨zO2, zWN⟩).use (by kernel_rfl) (.cons rfl (.cons rfl (.cons rfl (.cons rfl (.cons rfl (.cons rfl (.cons rfl (.cons rfl (.cons rfl (.cons rfl (.cons rfl (.cons rfl (.cons rfl (.cons rfl (.cons rfl (.cons rfl (.cons rfl .nil))))))))))))))))) (.cons rfl (.cons rfl .nil)))))
   intro u hu
   obtain ⟨zPt, zVb⟩ := u
   obtain ⟨zO2, zWN⟩ := hu
   replace zO2 : zVo ≤ zPt := zO2
   dsimp only
   refine Dr.one 11 (by kernel_rfl) (St.store 11 5 (cs := [iv QY.X0, iv QY.Y0, iv QY.X1, iv QY.Y1]) [iv QY.X0, iv QY.Y0, iv QY.X1, iv QY.Y1] rfl (wn rfl) (.inr ⟨by simp, zO2⟩) rfl rfl rfl rfl KM rfl rfl rfl (Dr.tail (by kernel_rfl) (Tr.store 6 (cs := [iv Kz.X0, iv Kz.Y0, iv Kz.X1, iv Kz.Y1]) [iv Kz.X0, iv Kz.Y0, iv Kz.X1, iv Kz.Y1] (wn rfl) rfl rfl rfl rfl KM rfl rfl rfl (Tr.nil (Tr.zA (Tr.sr (Tr.va rfl (fun _ _ a c => zB zAq (a.ev rfl)) (Tr.va rfl (fun _ _ a c => zD zm (a.ev rfl) (rdb c (vs := [iv Kz.X0, iv Kz.Y0, iv Kz.X1, iv Kz.Y1]) (k := 6) rfl 1) rfl) (Tr.va rfl (fun _ _ a c => zB zAq (a.ev rfl)) ?_)))))))))
   refine Tr.va rfl (fun _ _ a c => zD zm (a.ev rfl) (rdb c (vs := [iv QY.X0, iv QY.Y0, iv QY.X1, iv QY.Y1]) (k := 5) rfl 1) rfl) (Tr.va rfl (fun _ _ a c => QD (a.ev rfl) (a.ev rfl)) (Tr.mv rfl rfl (Tr.Vw 13 [(0, sL zF p0 zG), (4, iv zBF), (45, bV ((decide (Kz.Y0 < QY.Y0)) || ((Kz.Y0 == QY.Y0) && (decide (Kz.X0 ≤ QY.X0)))))] [(5, bx zPt #[iv QY.X0, iv QY.Y0, iv QY.X1, iv QY.Y1] 40), (6, bx zVb #[iv Kz.X0, iv Kz.Y0, iv Kz.X1, iv Kz.Y1] 40)] ?_ ?_)))
   ·cases zAp : (decide (Kz.Y0 < QY.Y0))
    ·refine Tr.val (wg rfl rfl rfl) rfl (fun _ _ a c => zB zAq (a.ev rfl)) (Tr.val (wg rfl rfl rfl) rfl (fun _ _ a c => zD zm (a.ev rfl) (rdb c (vs := [iv Kz.X0, iv Kz.Y0, iv Kz.X1, iv Kz.Y1]) (k := 6) rfl 1) rfl) (Tr.val (wg rfl rfl rfl) rfl (fun _ _ a c => zB zAq (a.ev rfl)) (Tr.val (wg rfl rfl rfl) rfl (fun _ _ a c => zD zm (a.ev rfl) (rdb c (vs := [iv QY.X0, iv QY.Y0, iv QY.X1, iv QY.Y1]) (k := 5) rfl 1) rfl) (Tr.val (wg rfl rfl rfl) rfl (fun _ _ a c => Ql (a.ev rfl) (a.ev rfl)) (Tr.val (wg rfl rfl rfl) rfl (fun _ _ a c => run_move (a.ev rfl)) (Tr.Vw 6 [(0, sL zF p0 zG), (4, iv zBF), (32, bV false), (44, bV ((Kz.Y0 == QY.Y0) && (decide (Kz.X0 ≤ QY.X0))))] [(5, bx zPt #[iv QY.X0, iv QY.Y0, iv QY.X1, iv QY.Y1] 40), (6, bx zVb #[iv Kz.X0, iv Kz.Y0, iv Kz.X1, iv Kz.Y1] 40)] ?_ ?_))))))
     ·cases zAp : (Kz.Y0 == QY.Y0)
      ·exact Tr.pass rfl rfl rfl rfl rfl (by decide) (Tr.pass rfl rfl rfl rfl rfl (by decide) (Tr.pass rfl rfl rfl rfl rfl (by decide) (Tr.pass rfl rfl rfl rfl rfl (by decide) (Tr.pass rfl rfl rfl rfl rfl (by decide) (Tr.val (wg rfl rfl rfl) rfl (fun _ _ a c => zy (a.ev rfl) (a.ev rfl)) (Tr.nil (Tr.JD (.cons rfl (.cons rfl (.cons rfl (.cons rfl .nil)))) (.cons rfl (.cons rfl .nil)))))))))
      ·exact Tr.val (wg rfl rfl rfl) rfl (fun _ _ a c => zB WX (a.ev rfl)) (Tr.val (wg rfl rfl rfl) rfl (fun _ _ a c => zD zm (a.ev rfl) (rdb c (vs := [iv Kz.X0, iv Kz.Y0, iv Kz.X1, iv Kz.Y1]) (k := 6) rfl 0) rfl) (Tr.val (wg rfl rfl rfl) rfl (fun _ _ a c => zB WX (a.ev rfl)) (Tr.val (wg rfl rfl rfl) rfl (fun _ _ a c => zD zm (a.ev rfl) (rdb c (vs := [iv QY.X0, iv QY.Y0, iv QY.X1, iv QY.Y1]) (k := 5) rfl 0) rfl) (Tr.val (wg rfl rfl rfl) rfl (fun _ _ a c => zAX (a.ev rfl) (a.ev rfl)) (Tr.val (wg rfl rfl rfl) rfl (fun _ _ a c => zx (a.ev rfl) (a.ev rfl)) (Tr.nil (Tr.JD (.cons rfl (.cons rfl (.cons rfl (.cons rfl .nil)))) (.cons rfl (.cons rfl .nil)))))))))
     ·dsimp only
      exact Tr.va rfl (fun _ _ a c => zy (a.ev rfl) (a.ev rfl)) (Tr.nil (Tr.JD (.cons rfl (.cons rfl (.cons rfl .nil))) (.cons rfl (.cons rfl .nil))))
    ·refine Tr.pass rfl rfl rfl rfl rfl (by decide) (Tr.pass rfl rfl rfl rfl rfl (by decide) (Tr.pass rfl rfl rfl rfl rfl (by decide) (Tr.pass rfl rfl rfl rfl rfl (by decide) (Tr.pass rfl rfl rfl rfl rfl (by decide) (Tr.pass rfl rfl rfl rfl rfl (by decide) (Tr.VA rfl rfl rfl rfl (by decide) ?_))))))
     exact Tr.VA rfl rfl rfl rfl (by decide) (Tr.VA rfl rfl rfl rfl (by decide) (Tr.VA rfl rfl rfl rfl (by decide) (Tr.VA rfl rfl rfl rfl (by decide) (Tr.pass rfl rfl rfl rfl rfl (by decide) (Tr.va rfl (fun _ _ a c => zx (a.ev rfl) (a.ev rfl)) (Tr.nil (Tr.JD (.cons rfl (.cons rfl (.cons rfl .nil))) (.cons rfl (.cons rfl .nil)))))))))
   ·show Tr _ _ (LF [(0, sL zF p0 zG), (4, iv zBF), (45, bV ((decide (Kz.Y0 < QY.Y0)) || ((Kz.Y0 == QY.Y0) && (decide (Kz.X0 ≤ QY.X0)))))]) (LE [(5, bx zPt #[iv QY.X0, iv QY.Y0, iv QY.X1, iv QY.Y1] 40), (6, bx zVb #[iv Kz.X0, iv Kz.Y0, iv Kz.X1, iv Kz.Y1] 40)]) _
    refine Tr.nil (Tr.zA (Tr.cond rfl H (fun H => ?_) (fun H => ?_)))
    ·refine Tr.sr (Tr.asg rfl rfl (Tr.nil (Tr.zA (Tr.ret (Tr.QP (Tr.zb (Tr.zb (Tr.QP (Tr.zb ?_)))))))))
     obtain rfl := oI H
     exact Tr.out (m := [iv 8]) [] (zU rfl zV) (fun W hW => ⟨rfl, hW.low leB⟩)
    ·exact Tr.skip (Tr.zh (Tr.zA (Tr.region (Tr.mv rfl rfl (Tr.va rfl (fun _ _ a c => zo (a.ev rfl) (a.ev rfl)) (Tr.asg rfl rfl (Tr.nil (Tr.zf Qc (w64 (zBF + 1)) H (.cons rfl (.cons rfl .nil)) .nil))))))))
  ·refine Tr.exit (Tr.ze (Tr.ze (Tr.QK (Tr.zA (Tr.seq (Tr.sr (Tr.mv rfl rfl ?_)))))))
   obtain ⟨Wl, zOj, H⟩ := bnd H
   refine Tr.VC [7] [emp] (U := (Option Addr × Nat)) (fun u => (sL u.1 Wl u.2)) (fun O W u => SlF u.1 Wl.length u.2) (fun u => [ow u.1 u.2 80 zS Wl]) rfl (zQ rfl za) (fun _ => rfl) (wn rfl) rfl Tryz.call23 (zH rfl zP) (fun W hW hp hE => zBM N p0 zF zG (zT.ext (hW.JE hp)) Wl zOj hE) ?_
   intro w u zM0 hu
   obtain ⟨zCd, zCb⟩ := u
   have gy123_0 := hu
   replace zT := zT.leR zM0
   replace leB := leB.trans zM0
   have zLA : SlF zCd Wl.length zCb := gy123_0 --@phi
   dsimp only
   obtain ⟨zGZ, zTU, H⟩ := bnd H
   refine Tr.VB [8] [emp] (U := (Option Addr × Nat)) (fun u => (sL u.1 zGZ u.2)) (fun u => SlF u.1 zGZ.length u.2) (fun u => [ow u.1 u.2 40 zR zGZ]) rfl (zQ rfl za) (fun _ => rfl) (wn rfl) rfl Tryz.call11 (zH rfl zP) (fun W hW hp hE => Vz N Wl zCd zCb (hW.slS (k := 7) rfl hp rfl) zGZ zTU hE) ?_
   intro u hu
   obtain ⟨zXS, zWt⟩ := u
   have gy125_0 := hu
   have zmg : SlF zXS zGZ.length zWt := gy125_0 --@phi
   dsimp only
   refine Tr.mv rfl rfl ?_
   obtain ⟨zFy, zTT, H⟩ := bnd H
   refine Tr.Qa (r := (bV zFy)) (wn rfl) rfl Tryz.call8 (zH rfl (zH rfl zP)) (fun W hW => zBi zGZ zXS zWt (hW.zCj (k := 8) rfl) p0 zF zG (zT.ext hW.Qr) zFy zTT (HF.start _)) (Tr.va rfl (fun _ _ a c => KD (a.ev rfl)) (Tr.nil (Tr.zA (Tr.cond rfl H (fun H => ?_) (fun H => ?_)))))
   ·refine Tr.sr (Tr.asg rfl rfl (Tr.nil (Tr.zA (Tr.ret (Tr.zb ?_)))))
    obtain rfl := oI H
    exact Tr.out (m := [iv 3]) [] (zU rfl zV) (fun W hW => ⟨rfl, hW.low leB⟩)
   ·refine Tr.skip (Tr.zA (Tr.sr (Tr.asg rfl rfl (Tr.nil (Tr.zA (Tr.ret ?_))))))
    obtain rfl := oI H
    exact Tr.out (m := [iv 0]) [] (zU rfl zV) (fun W hW => ⟨rfl, hW.low leB⟩)

theorem zEk {w : Bs} (p0 : Qf) (r : Int) (H : Wi p0 = some r) (hE : HF w w.W E0) : Calls Tryz.prog 22 [.agg #[bV p0.Flip, iv p0.Quarters, iv p0.At.X, iv p0.At.Y]].toArray w.W fun e W' => e = .returned (iv r) ∧ HF w W' E0 := by
 unfold Wi at H
 have leB := Bs.Le.refl w
 refine Tr.enter (n := 13) Tryz.func22 rfl rfl rfl hE (Tr.sr (Tr.box 1 (cs := [bV p0.Flip, iv p0.Quarters, iv p0.At.X, iv p0.At.Y]) (wn rfl) rfl rfl rfl fun zw => (Tr.asg rfl rfl (Tr.nil (Tr.zA (Tr.seq (Tr.sr (Tr.va rfl (fun _ _ a c => zB zRt (a.ev rfl)) (Tr.va rfl (fun _ _ a c => zD zm (a.ev rfl) (rdb c (vs := [bV p0.Flip, iv p0.Quarters, iv p0.At.X, iv p0.At.Y]) (k := 1) rfl 1) rfl) ?_)))))))))
 obtain ⟨y101, hy101, H⟩ := bnd H
 refine Tr.Qa (r := (bV y101)) (wn rfl) rfl Tryz.call48 (zH rfl (zH rfl (zH rfl zP))) (fun W hW => zGP p0.Quarters 0 3 y101 hy101 (HF.start _)) (Tr.va rfl (fun _ _ a c => KD (a.ev rfl)) (Tr.mv rfl rfl ?_))
 obtain ⟨zF4, zBH, H⟩ := bnd H
 refine Tr.Vw 5 [(12, bV zF4)] [(1, bx zw #[bV p0.Flip, iv p0.Quarters, iv p0.At.X, iv p0.At.Y] 29)] ?_ ?_
 ·cases zIp : (!y101)
  ·rw [zIp] at zBH
   rw [if_neg (by decide)] at zBH
   have H := zBH
   refine Tr.val (wg rfl rfl rfl) rfl (fun _ _ a c => zB zGG (a.ev rfl)) (Tr.val (wg rfl rfl rfl) rfl (fun _ _ a c => zX (cs := [iv p0.At.X, iv p0.At.Y]) Kk JG (a.ev rfl) (zO.take (rdb c (vs := [bV p0.Flip, iv p0.Quarters, iv p0.At.X, iv p0.At.Y]) (k := 1) rfl 2) 2) rfl) ?_)
   obtain ⟨y104, hy104, H⟩ := bnd H
   refine Tr.Qa (r := (bV y104)) (wg rfl rfl rfl) rfl Tryz.call14 (zH rfl zP) (fun W hW => zAV p0.At y104 hy104 (HF.start _)) (Tr.val (wg rfl rfl rfl) rfl (fun _ _ a c => KD (a.ev rfl)) (Tr.va rfl (fun _ _ a c => zy (a.ev rfl) (a.ev rfl)) ?_))
   obtain rfl := oI H
   exact Tr.nil (Tr.JD (.cons rfl .nil) (.cons rfl .nil))
  ·rw [zIp] at zBH
   rw [if_pos rfl] at zBH
   have H := zBH
   obtain rfl := oI H
   exact Tr.pass rfl rfl rfl rfl rfl (by decide) (Tr.pass rfl rfl rfl rfl rfl (by decide) (Tr.pass rfl rfl rfl rfl rfl (by decide) (Tr.pass rfl rfl rfl rfl rfl (by decide) (Tr.va rfl (fun _ _ a c => zx (a.ev rfl) (a.ev rfl)) (Tr.nil (Tr.JD (.cons rfl .nil) (.cons rfl .nil)))))))
 ·show Tr _ _ (LF [(12, bV zF4)]) (LE [(1, bx zw #[bV p0.Flip, iv p0.Quarters, iv p0.At.X, iv p0.At.Y] 29)]) _
  refine Tr.nil (Tr.zA (Tr.cond rfl H (fun H => ?_) (fun H => ?_)))
  ·refine Tr.sr (Tr.asg rfl rfl (Tr.nil (Tr.zA (Tr.ret (Tr.zb ?_)))))
   obtain rfl := oI H
   exact Tr.out (m := [iv 1]) [] (zU rfl zV) (fun W hW => ⟨rfl, hW.low leB⟩)
  ·refine Tr.skip (Tr.zA (Tr.sr (Tr.asg rfl rfl (Tr.nil (Tr.zA (Tr.ret ?_))))))
   obtain rfl := oI H
   exact Tr.out (m := [iv 0]) [] (zU rfl zV) (fun W hW => ⟨rfl, hW.low leB⟩)

theorem zAw (N : Nat) {w : Bs} (p0 : zI) (p1 : Qf) (r : zI) (H : KS N p0 p1 = some r) (hE : HF w w.W E0) : Calls Tryz.prog 30 [.agg #[iv p0.X, iv p0.Y], .agg #[bV p1.Flip, iv p1.Quarters, iv p1.At.X, iv p1.At.Y]].toArray w.W fun e W' => e = .returned (.agg #[iv r.X, iv r.Y]) ∧ HF w W' E0 := by
 unfold KS at H
 have leB := Bs.Le.refl w
 refine Tr.enter (n := 36) Tryz.func30 rfl rfl rfl hE (Tr.sr (Tr.box 1 (cs := [iv p0.X, iv p0.Y]) (wn rfl) rfl rfl rfl fun zw => (Tr.box 2 (cs := [bV p1.Flip, iv p1.Quarters, iv p1.At.X, iv p1.At.Y]) (wn rfl) rfl rfl rfl fun Qw => (Tr.alloc 3 (wn rfl) rfl zF7 fun KP => (Tr.nil (Tr.zA ?_))))))
 have leJ104 := Bs.Le.refl w
 refine Tr.zIu (σ := Int) (fun w s => Kq N p0 p1 s = some r) (fun s => [(2, pV zw), (3, pV Qw), (4, pV KP)]) (fun s => [(1, bx zw #[iv s, iv p0.Y] 27), (2, bx Qw #[bV p1.Flip, iv p1.Quarters, iv p1.At.X, iv p1.At.Y] 29), (3, bx KP #[iv 0, iv 0] 27)]) ?_ ?_
 ·refine Tr.sr (Tr.va rfl (fun _ _ a c => zB zWW (a.ev rfl)) (Tr.va rfl (fun _ _ a c => zD zJr (a.ev rfl) (rdb c (vs := [bV p1.Flip, iv p1.Quarters, iv p1.At.X, iv p1.At.Y]) (k := 2) rfl 0) rfl) (Tr.nil (Tr.zA (Tr.cond rfl H (fun H => ?_) (fun H => ?_))))))
  ·exact Tr.region (Tr.va rfl (fun _ _ a c => zB Qy (a.ev rfl)) (Tr.va rfl (fun _ _ a c => zD zm (a.ev rfl) (rdb c (vs := [iv p0.X, iv p0.Y]) (k := 1) rfl 0) rfl) (Tr.va rfl (fun _ _ a c => zNS (a.ev rfl)) (Tr.va rfl (fun _ _ a c => zB Qy (a.ev rfl)) (Tr.store 1 (cs := [iv (w64 (0 - p0.X))]) [iv (w64 (0 - p0.X)), iv p0.Y] (wn rfl) rfl rfl rfl rfl zE8 rfl rfl rfl (Tr.nil (Tr.zf leJ104 (w64 (0 - p0.X)) H (.cons rfl (.cons rfl (.cons rfl .nil))) (.cons rfl (.cons rfl (.cons rfl .nil))))))))))
  ·exact Tr.skip (Tr.zf leJ104 p0.X H (.cons rfl (.cons rfl (.cons rfl .nil))) (.cons rfl (.cons rfl (.cons rfl .nil))))
 ·intro w x103 hlJ105 hs
  have H := hs
  replace H : Kq N p0 p1 x103 = some r := H
  replace leB := leB.trans hlJ105
  unfold Kq at H
  show Tr _ _ (LF [(2, pV zw), (3, pV Qw), (4, pV KP)]) (LE [(1, bx zw #[iv x103, iv p0.Y] 27), (2, bx Qw #[bV p1.Flip, iv p1.Quarters, iv p1.At.X, iv p1.At.Y] 29), (3, bx KP #[iv 0, iv 0] 27)]) _
  refine Tr.seq (Tr.sr (Tr.va rfl (fun _ _ a c => zB zRt (a.ev rfl)) (Tr.va rfl (fun _ _ a c => zD zm (a.ev rfl) (rdb c (vs := [bV p1.Flip, iv p1.Quarters, iv p1.At.X, iv p1.At.Y]) (k := 2) rfl 1) rfl) (Tr.mv rfl rfl (Tr.nil (Tr.zA (Tr.block (Tr.loop (σ := Int × Int × Int) (fun m w s => Ko p1 m s.1 s.2.1 s.2.2 = some r) (fun s => [(2, pV zw), (3, pV Qw), (4, pV KP), (12, iv p1.Quarters), (13, iv s.2.2)]) (fun s => [(1, bx zw #[iv s.1, iv s.2.1] 27), (2, bx Qw #[bV p1.Flip, iv p1.Quarters, iv p1.At.X, iv p1.At.Y] 29), (3, bx KP #[iv 0, iv 0] 27)]) N (x103, p0.Y, 0) H (.cons rfl (.cons rfl (.cons rfl (.cons rfl (.cons rfl .nil))))) (.cons rfl (.cons rfl (.cons rfl .nil))) (fun _ _ h => zAg (h)) ?_))))))))
  intro w Qc mL1 s hs
  obtain ⟨x115, zBF, zGn⟩ := s
  have H := hs
  replace H : Ko p1 (mL1 + 1) x115 zBF zGn = some r := H
  replace leB := leB.trans Qc
  rw [Ko.eq_2] at H
  dsimp only
  refine Tr.sr (Tr.va rfl (fun _ _ a c => QD (a.ev rfl) (a.ev rfl)) (Tr.nil (Tr.zA (Tr.seq (Tr.cond rfl H (fun H => ?_) (fun H => ?_))))))
  ·refine Tr.skip (Tr.zA (Tr.seq (Tr.block (Tr.region (Tr.va rfl (fun _ _ a c => zB Qx (a.ev rfl)) (Tr.va rfl (fun _ _ a c => zD zm (a.ev rfl) (rdb c (vs := [iv x115, iv zBF]) (k := 1) rfl 1) rfl) (Tr.va rfl (fun _ _ a c => zNS (a.ev rfl)) (Tr.va rfl (fun _ _ a c => zB Qy (a.ev rfl)) (Tr.va rfl (fun _ _ a c => zD zm (a.ev rfl) (rdb c (vs := [iv x115, iv zBF]) (k := 1) rfl 0) rfl) (Tr.va rfl (fun _ _ a c => zB Qy (a.ev rfl)) (Tr.store 1 (cs := [iv (w64 (0 - zBF))]) [iv (w64 (0 - zBF)), iv zBF] (wn rfl) rfl rfl rfl rfl zE8 rfl rfl rfl ?_)))))))))))
   exact Tr.va rfl (fun _ _ a c => zB Qx (a.ev rfl)) (Tr.store 1 (cs := [iv x115]) [iv (w64 (0 - zBF)), iv x115] (wn rfl) rfl rfl rfl rfl zE8 rfl rfl rfl (Tr.nil (Tr.zh (Tr.zA (Tr.region (Tr.va rfl (fun _ _ a c => zo (a.ev rfl) (a.ev rfl)) (Tr.mv rfl rfl (Tr.nil (Tr.zf Qc ((w64 (0 - zBF)), x115, (w64 (zGn + 1))) H (.cons rfl (.cons rfl (.cons rfl (.cons rfl (.cons rfl .nil))))) (.cons rfl (.cons rfl (.cons rfl .nil))))))))))))
  ·refine Tr.exit (Tr.ze (Tr.ze (Tr.QK (Tr.zA (Tr.sr (Tr.va rfl (fun _ _ a c => zB Qy (a.ev rfl)) (Tr.va rfl (fun _ _ a c => zD zm (a.ev rfl) (rdb c (vs := [iv x115, iv zBF]) (k := 1) rfl 0) rfl) (Tr.va rfl (fun _ _ a c => zB zGG (a.ev rfl)) (Tr.va rfl (fun _ _ a c => zB Qy (a.ev rfl)) (Tr.va rfl (fun _ _ a c => zD zm (a.ev rfl) (rdb c (vs := [bV p1.Flip, iv p1.Quarters, iv p1.At.X, iv p1.At.Y]) (k := 2) rfl 2) rfl) (Tr.va rfl (fun _ _ a c => zo (a.ev rfl) (a.ev rfl)) (Tr.va rfl (fun _ _ a c => zB Qx (a.ev rfl)) ?_))))))))))))
   refine Tr.va rfl (fun _ _ a c => zD zm (a.ev rfl) (rdb c (vs := [iv x115, iv zBF]) (k := 1) rfl 1) rfl) (Tr.va rfl (fun _ _ a c => zB zGG (a.ev rfl)) (Tr.va rfl (fun _ _ a c => zB Qx (a.ev rfl)) (Tr.va rfl (fun _ _ a c => zD zm (a.ev rfl) (rdb c (vs := [bV p1.Flip, iv p1.Quarters, iv p1.At.X, iv p1.At.Y]) (k := 2) rfl 3) rfl) (Tr.va rfl (fun _ _ a c => zo (a.ev rfl) (a.ev rfl)) (Tr.build (vs := [(0, iv (w64 (x115 + p1.At.X))), (1, iv (w64 (zBF + p1.At.Y)))]) (cs := [iv (w64 (x115 + p1.At.X)), iv (w64 (zBF + p1.At.Y))]) (wn rfl) rfl (zi rfl (zi rfl QW)) (by kernel_rfl) (Tr.store 3 (cs := [iv (w64 (x115 + p1.At.X)), iv (w64 (zBF + p1.At.Y))]) [iv (w64 (x115 + p1.At.X)), iv (w64 (zBF + p1.At.Y))] (wn rfl) rfl rfl rfl rfl JG rfl rfl rfl ?_))))))
   refine Tr.nil (Tr.zA (Tr.ret ?_))
   obtain rfl := oI H
   exact Tr.out (m := [.agg #[iv (w64 (x115 + p1.At.X)), iv (w64 (zBF + p1.At.Y))]]) [3] (VI rfl rfl Kk JG zV) (fun W hW => ⟨rfl, hW.low leB⟩)

theorem zE3 (N : Nat) {w : Bs} (p0 : zK) (p1 : Qf) (r : zK) (H : Vd N p0 p1 = some r) (hE : HF w w.W E0) : Calls Tryz.prog 29 [.agg #[iv p0.X0, iv p0.Y0, iv p0.X1, iv p0.Y1], .agg #[bV p1.Flip, iv p1.Quarters, iv p1.At.X, iv p1.At.Y]].toArray w.W fun e W' => e = .returned (.agg #[iv r.X0, iv r.Y0, iv r.X1, iv r.Y1]) ∧ HF w W' E0 := by
 unfold Vd at H
 have leB := Bs.Le.refl w
 refine Tr.enter (n := 42) Tryz.func29 rfl rfl rfl hE (Tr.sr (Tr.box 1 (cs := [iv p0.X0, iv p0.Y0, iv p0.X1, iv p0.Y1]) (wn rfl) rfl rfl rfl fun zw => (Tr.box 2 (cs := [bV p1.Flip, iv p1.Quarters, iv p1.At.X, iv p1.At.Y]) (wn rfl) rfl rfl rfl fun Qw => (Tr.alloc 3 (wn rfl) rfl zDE fun KP => (Tr.nil (Tr.zA (Tr.seq ?_)))))))
 obtain ⟨y104, hy104, H⟩ := bnd H
 obtain ⟨VD, zOk, H⟩ := bnd H
 refine Tr.zWe 16 [(14, .makeFunc (.func 0) #[] #[]), (15, .makeFunc (.func 0) #[] #[])] [(14, ⟨5, 4, .func (.func 0) #[] #[], fun b => pV b, fun b => bx b #[iv 0, iv 0] 27⟩), (15, ⟨6, 5, .func (.func 0) #[] #[], fun b => pV b, fun b => bx b #[iv 0, iv 0] 27⟩)] [(0, .agg #[iv p0.X0, iv p0.Y0, iv p0.X1, iv p0.Y1]), (1, .agg #[bV p1.Flip, iv p1.Quarters, iv p1.At.X, iv p1.At.Y]), (2, pV zw), (3, pV Qw), (4, pV KP), (5, .func (.func 0) #[] #[]), (6, .func (.func 0) #[] #[]), (7, pV zw), (8, iv p0.X0), (9, .pointer (some ⟨zw, 1, none⟩)), (10, iv p0.Y0), (11, .agg #[iv p0.X0, iv p0.Y0]), (12, .agg #[bV p1.Flip, iv p1.Quarters, iv p1.At.X, iv p1.At.Y]), (13, .agg #[iv y104.X, iv y104.Y]), (14, .pointer (some ⟨zw, 2, none⟩)), (15, iv p0.X1), (16, .pointer (some ⟨zw, 3, none⟩)), (17, iv p0.Y1), (18, .agg #[iv p0.X1, iv p0.Y1]), (19, .agg #[bV p1.Flip, iv p1.Quarters, iv p1.At.X, iv p1.At.Y]), (20, .agg #[iv VD.X, iv VD.Y])] (by kernel_rfl) (by kernel_rfl) (by kernel_rfl) (by kernel_rfl) (by kernel_rfl) (by kernel_rfl) (by kernel_rfl) (WE (zLD rfl rfl zF7) (WE (zLD rfl rfl zF7) zBp)) (WE rfl (WE rfl zBp)) (WE rfl (WE rfl zBp)) ?_ ?_
 ·refine Tq.va rfl (fun _ _ a c => zB WX (a.ev rfl)) (Tq.va rfl (fun _ _ a c => zD zm (a.ev rfl) (rdb c (vs := [iv p0.X0, iv p0.Y0, iv p0.X1, iv p0.Y1]) (k := 1) rfl 0) rfl) (Tq.va rfl (fun _ _ a c => zB zAq (a.ev rfl)) (Tq.va rfl (fun _ _ a c => zD zm (a.ev rfl) (rdb c (vs := [iv p0.X0, iv p0.Y0, iv p0.X1, iv p0.Y1]) (k := 1) rfl 1) rfl) (Tq.build (vs := [(0, iv p0.X0), (1, iv p0.Y0)]) (cs := [iv p0.X0, iv p0.Y0]) (wn rfl) rfl (zi rfl (zi rfl QW)) (by kernel_rfl) (Tq.va rfl (fun _ _ a c => zX (cs := [bV p1.Flip, iv p1.Quarters, iv p1.At.X, iv p1.At.Y]) zIz zIB (a.ev rfl) (zO.take (rdb c (vs := [bV p1.Flip, iv p1.Quarters, iv p1.At.X, iv p1.At.Y]) (k := 2) rfl 0) 4) rfl) (Tq.Qa (r := (.agg #[iv y104.X, iv y104.Y])) (wn rfl) rfl Tryz.call30 (zH rfl (zH rfl zP)) (fun W hW => zAw N (zI.mk p0.X0 p0.Y0) p1 y104 hy104 (HF.start _)) ?_))))))
  refine Tq.va rfl (fun _ _ a c => zB zC0 (a.ev rfl)) (Tq.va rfl (fun _ _ a c => zD zm (a.ev rfl) (rdb c (vs := [iv p0.X0, iv p0.Y0, iv p0.X1, iv p0.Y1]) (k := 1) rfl 2) rfl) (Tq.va rfl (fun _ _ a c => zB zDe (a.ev rfl)) (Tq.va rfl (fun _ _ a c => zD zm (a.ev rfl) (rdb c (vs := [iv p0.X0, iv p0.Y0, iv p0.X1, iv p0.Y1]) (k := 1) rfl 3) rfl) (Tq.build (vs := [(0, iv p0.X1), (1, iv p0.Y1)]) (cs := [iv p0.X1, iv p0.Y1]) (wn rfl) rfl (zi rfl (zi rfl QW)) (by kernel_rfl) (Tq.va rfl (fun _ _ a c => zX (cs := [bV p1.Flip, iv p1.Quarters, iv p1.At.X, iv p1.At.Y]) zIz zIB (a.ev rfl) (zO.take (rdb c (vs := [bV p1.Flip, iv p1.Quarters, iv p1.At.X, iv p1.At.Y]) (k := 2) rfl 0) 4) rfl) (Tq.Qa (r := (.agg #[iv VD.X, iv VD.Y])) (wn rfl) rfl Tryz.call30 (zH rfl (zH rfl zP)) (fun W hW => zAw N (zI.mk p0.X1 p0.Y1) p1 VD zOk (HF.start _)) ?_))))))
  exact Tq.zFi (vs := []) (wn rfl) rfl zP (Tq.zFi (vs := []) (wn rfl) rfl zP (Tq.fin (.cons rfl (.cons rfl (.cons rfl (.cons rfl (.cons rfl (.cons rfl (.cons rfl (.cons rfl (.cons rfl (.cons rfl (.cons rfl (.cons rfl (.cons rfl (.cons rfl (.cons rfl (.cons rfl (.cons rfl (.cons rfl (.cons rfl (.cons rfl (.cons rfl .nil)))))))))))))))))))))))
 ·intro bs103
  refine Tr.sel (lf := [(4, pV KP), (5, .pointer (some ⟨(bs103 14), 0, none⟩)), (6, .pointer (some ⟨(bs103 15), 0, none⟩)), (13, .agg #[iv y104.X, iv y104.Y]), (20, .agg #[iv VD.X, iv VD.Y])]) (le := [(1, bx zw #[iv p0.X0, iv p0.Y0, iv p0.X1, iv p0.Y1] 40), (2, bx Qw #[bV p1.Flip, iv p1.Quarters, iv p1.At.X, iv p1.At.Y] 29), (3, bx KP #[iv 0, iv 0, iv 0, iv 0] 40), (4, bx (bs103 14) #[iv 0, iv 0] 27), (5, bx (bs103 15) #[iv 0, iv 0] 27)]) (.cons rfl (.cons rfl (.cons rfl (.cons rfl (.cons rfl .nil))))) (.cons rfl (.cons rfl (.cons rfl (.cons rfl (.cons rfl .nil))))) (Tr.store 4 (cs := [iv y104.X, iv y104.Y]) [iv y104.X, iv y104.Y] (wn rfl) rfl rfl rfl rfl JG rfl rfl rfl (Tr.store 5 (cs := [iv VD.X, iv VD.Y]) [iv VD.X, iv VD.Y] (wn rfl) rfl rfl rfl rfl JG rfl rfl rfl (Tr.nil (Tr.zA (Tr.sr (Tr.va rfl (fun _ _ a c => zB Qy (a.ev rfl)) (Tr.va rfl (fun _ _ a c => zD zm (a.ev rfl) (rdb c (vs := [iv y104.X, iv y104.Y]) (k := 4) rfl 0) rfl) (Tr.va rfl (fun _ _ a c => zB Qy (a.ev rfl)) (Tr.va rfl (fun _ _ a c => zD zm (a.ev rfl) (rdb c (vs := [iv VD.X, iv VD.Y]) (k := 5) rfl 0) rfl) ?_)))))))))
  refine Tr.va rfl (fun _ _ a c => zEC (a.ev rfl) (a.ev rfl) _) (Tr.va rfl (fun _ _ a c => zB Qx (a.ev rfl)) (Tr.va rfl (fun _ _ a c => zD zm (a.ev rfl) (rdb c (vs := [iv y104.X, iv y104.Y]) (k := 4) rfl 1) rfl) (Tr.va rfl (fun _ _ a c => zB Qx (a.ev rfl)) (Tr.va rfl (fun _ _ a c => zD zm (a.ev rfl) (rdb c (vs := [iv VD.X, iv VD.Y]) (k := 5) rfl 1) rfl) (Tr.va rfl (fun _ _ a c => zEC (a.ev rfl) (a.ev rfl) _) (Tr.va rfl (fun _ _ a c => zB Qy (a.ev rfl)) ?_))))))
  refine Tr.va rfl (fun _ _ a c => zD zm (a.ev rfl) (rdb c (vs := [iv y104.X, iv y104.Y]) (k := 4) rfl 0) rfl) (Tr.va rfl (fun _ _ a c => zB Qy (a.ev rfl)) (Tr.va rfl (fun _ _ a c => zD zm (a.ev rfl) (rdb c (vs := [iv VD.X, iv VD.Y]) (k := 5) rfl 0) rfl) (Tr.va rfl (fun _ _ a c => zED (a.ev rfl) (a.ev rfl) _) (Tr.va rfl (fun _ _ a c => zB Qx (a.ev rfl)) (Tr.va rfl (fun _ _ a c => zD zm (a.ev rfl) (rdb c (vs := [iv y104.X, iv y104.Y]) (k := 4) rfl 1) rfl) (Tr.va rfl (fun _ _ a c => zB Qx (a.ev rfl)) ?_))))))
  refine Tr.va rfl (fun _ _ a c => zD zm (a.ev rfl) (rdb c (vs := [iv VD.X, iv VD.Y]) (k := 5) rfl 1) rfl) (Tr.va rfl (fun _ _ a c => zED (a.ev rfl) (a.ev rfl) _) (Tr.build (vs := [(0, iv (min y104.X VD.X)), (1, iv (min y104.Y VD.Y)), (2, iv (max y104.X VD.X)), (3, iv (max y104.Y VD.Y))]) (cs := [iv (min y104.X VD.X), iv (min y104.Y VD.Y), iv (max y104.X VD.X), iv (max y104.Y VD.Y)]) (wn rfl) rfl (zi rfl (zi rfl (zi rfl (zi rfl QW)))) (by kernel_rfl) (Tr.store 3 (cs := [iv (min y104.X VD.X), iv (min y104.Y VD.Y), iv (max y104.X VD.X), iv (max y104.Y VD.Y)]) [iv (min y104.X VD.X), iv (min y104.Y VD.Y), iv (max y104.X VD.X), iv (max y104.Y VD.Y)] (wn rfl) rfl rfl rfl rfl KM rfl rfl rfl (Tr.nil (Tr.zA (Tr.ret ?_))))))
  obtain rfl := oI H
  exact Tr.out (m := [.agg #[iv (min y104.X VD.X), iv (min y104.Y VD.Y), iv (max y104.X VD.X), iv (max y104.Y VD.Y)]]) [3] (VI rfl rfl zAu KM zV) (fun W hW => ⟨rfl, hW.low leB⟩)

theorem zG9 (N : Nat) {w : Bs} (p0 : (List zZ)) (zF : Option Addr) (zG : Nat) (zT : Sl w.R w.W zS zF zG p0) (p1 : Qf) (r : (List zZ)) (H : WP N p0 p1 = some r) (hE : HF w w.W (LEn [emp])) : Calls Tryz.prog 24 [sL zF p0 zG, .agg #[bV p1.Flip, iv p1.Quarters, iv p1.At.X, iv p1.At.Y]].toArray w.W fun e W' => ∃ (w' : Bs) (u : (Option Addr × Nat)), w.Le w' ∧ e = .returned (sL u.1 r u.2) ∧ (SlF u.1 r.length u.2) ∧ HF w' W' (LEn [ow u.1 u.2 80 zS r]) := by
 unfold WP at H
 have leB := Bs.Le.refl w
 refine Tr.enter (n := 26) Tryz.func24 rfl rfl rfl hE (Tr.sr (Tr.box 1 (cs := [bV p1.Flip, iv p1.Quarters, iv p1.At.X, iv p1.At.Y]) (wn rfl) rfl rfl rfl fun zw => (Tr.asg rfl rfl (Tr.JI 2 80 zS ?_))))
 show Tr _ _ (uf _ 4 (sL none (([] : List zZ)) 0)) _ _
 refine Tr.nil (Tr.zA (Tr.sr (Tr.mv rfl rfl ?_)))
 obtain ⟨y101, hy101, H⟩ := bnd H
 refine Tr.VB [3] [emp] (U := (Option Addr × Nat)) (fun u => (sL u.1 y101 u.2)) (fun u => SlF u.1 y101.length u.2) (fun u => [ow u.1 u.2 40 zR y101]) rfl (zQ rfl za) (fun _ => rfl) (wn rfl) rfl Tryz.call11 (zH rfl zP) (fun W hW hp hE => Vz N p0 zF zG (zT.ext (hW.JE hp)) y101 hy101 hE) ?_
 intro u hu
 obtain ⟨zBm, zBe⟩ := u
 have gy101_0 := hu
 have zDc : SlF zBm y101.length zBe := gy101_0 --@phi
 dsimp only
 refine Tr.asg rfl rfl (Tr.nil (Tr.zA (Tr.seq (Tr.sr (Tr.mv rfl rfl (Tr.va rfl (fun _ _ a c => QF zA7 (a.ev rfl)) (Tr.mv rfl rfl (Tr.nil (Tr.zA (Tr.block (Tr.loop (σ := (List zK) × Int × (Option Addr) × Nat) (fun m w s => Jg N p1 y101 m s.1 s.2.1 = some r ∧ SlF s.2.2.1 s.1.length s.2.2.2) (fun s => [(3, pV zw), (5, sL s.2.2.1 s.1 s.2.2.2), (10, iv (y101.length : Int)), (11, iv s.2.1)]) (fun s => [(1, bx zw #[bV p1.Flip, iv p1.Quarters, iv p1.At.X, iv p1.At.Y] 29), (3, ow s.2.2.1 s.2.2.2 40 zR s.1)]) N (y101, 0, zBm, zBe) ⟨H, zDc⟩ (.cons rfl (.cons rfl (.cons rfl (.cons rfl .nil)))) (.cons rfl (.cons rfl .nil)) (fun _ _ h => zAg (h.1)) ?_)))))))))))
 intro w Qc mL1 s hs
 obtain ⟨zFj, QY, zGY, zGO⟩ := s
 obtain ⟨H, zQV⟩ := hs
 replace H : Jg N p1 y101 (mL1 + 1) zFj QY = some r := H
 replace leB := leB.trans Qc
 replace zQV : SlF zGY zFj.length zGO := zQV
 rw [Jg.eq_2] at H
 dsimp only
 refine Tr.sr (Tr.va rfl (fun _ _ a c => QD (a.ev rfl) (a.ev rfl)) (Tr.nil (Tr.zA (Tr.seq (Tr.cond rfl H (fun H => ?_) (fun H => ?_))))))
 ·refine Tr.skip (Tr.zA (Tr.seq (Tr.block (Tr.sr (Tr.mv rfl rfl (Tr.asg rfl rfl (Tr.nil (Tr.zA (Tr.Vm 8 (by kernel_rfl) (by kernel_rfl) (Tq.mv rfl rfl (Tq.mv rfl rfl (Tq.mv rfl rfl (Tq.mv rfl rfl ?_)))))))))))))
  obtain ⟨Kz, zZw, H⟩ := bnd H
  obtain ⟨hx1190, hx1191, hx1192⟩ := zq zZw
  refine Tq.va rfl (fun _ _ a c => zL zB5 (a.ev rfl) zQV (a.ev rfl) hx1190 hx1191) (Tq.va rfl (fun _ _ a c => zX (cs := [iv Kz.X0, iv Kz.Y0, iv Kz.X1, iv Kz.Y1]) zAu KM (a.ev rfl) (zO.take (rdo VP (k := 3) c rfl hx1192) 4) rfl) (Tq.va rfl (fun _ _ a c => zX (cs := [bV p1.Flip, iv p1.Quarters, iv p1.At.X, iv p1.At.Y]) zIz zIB (a.ev rfl) (zO.take (rdb c (vs := [bV p1.Flip, iv p1.Quarters, iv p1.At.X, iv p1.At.Y]) (k := 1) rfl 0) 4) rfl) ?_))
  obtain ⟨zA8, zTX, H⟩ := bnd H
  refine Tq.Qa (r := (.agg #[iv zA8.X0, iv zA8.Y0, iv zA8.X1, iv zA8.Y1])) (wn rfl) rfl Tryz.call29 (zH rfl (zH rfl zP)) (fun W hW => zE3 N Kz p1 zA8 zTX (HF.start _)) (Tq.nil ?_)
  obtain ⟨zE6, zlq, H⟩ := bnd H
  obtain ⟨hx1210, hx1211, hx1212⟩ := zq zlq
  refine Tr.va rfl (fun _ _ a c => zL zB5 (a.ev rfl) zQV (a.ev rfl) hx1210 hx1211) ?_
  obtain ⟨zTL, zeR, H⟩ := bnd H
  have zRo := zCG zeR
  refine Tr.zCz 3 (t := zR) (l := zFj) (i := QY) (fo := 0) (cs := [iv zA8.X0, iv zA8.Y0, iv zA8.X1, iv zA8.Y1]) zA8 (wn rfl) rfl rfl rfl rfl rfl hx1212 KM rfl (fun u _ => ⟨u, trivial, rfl⟩) rfl zeR ?_
  have ziY : SlF zGY zTL.length zGO := by rw [zRo]; exact zQV
  exact Tr.sel (lf := [(3, pV zw), (5, sL zGY zTL zGO), (6, iv QY), (10, iv (y101.length : Int)), (11, iv QY), (12, bV (decide (QY < (y101.length : Int)))), (13, iv QY), (14, sL zGY zTL zGO), (15, iv QY), (16, sL zGY zTL zGO), (17, iv QY), (19, .agg #[iv Kz.X0, iv Kz.Y0, iv Kz.X1, iv Kz.Y1]), (20, .agg #[bV p1.Flip, iv p1.Quarters, iv p1.At.X, iv p1.At.Y]), (21, .agg #[iv zA8.X0, iv zA8.Y0, iv zA8.X1, iv zA8.Y1])]) (le := [(1, bx zw #[bV p1.Flip, iv p1.Quarters, iv p1.At.X, iv p1.At.Y] 29), (3, ow zGY zGO 40 zR zTL)]) (.cons rfl (.cons (Km rfl (by unfold sL; rw [zRo])) (.cons rfl (.cons rfl (.cons rfl (.cons rfl (.cons rfl (.cons (Km rfl (by unfold sL; rw [zRo])) (.cons rfl (.cons (Km rfl (by unfold sL; rw [zRo])) (.cons rfl (.cons rfl (.cons rfl (.cons rfl .nil)))))))))))))) (.cons rfl (.cons rfl .nil)) (Tr.nil (Tr.zh (Tr.zA (Tr.region (Tr.va rfl (fun _ _ a c => zo (a.ev rfl) (a.ev rfl)) (Tr.mv rfl rfl (Tr.nil (Tr.zf Qc (zTL, (w64 (QY + 1)), zGY, zGO) ⟨H, ziY⟩ (.cons rfl (.cons rfl (.cons rfl (.cons rfl .nil)))) (.cons rfl (.cons rfl .nil))))))))))
 ·refine Tr.exit (Tr.ze (Tr.ze (Tr.QK (Tr.zA (Tr.sr (Tr.mv rfl rfl ?_))))))
  obtain ⟨Wl, zOj, H⟩ := bnd H
  refine Tr.VC [4] [emp] (U := (Option Addr × Nat)) (fun u => (sL u.1 Wl u.2)) (fun O W u => SlF u.1 Wl.length u.2) (fun u => [ow u.1 u.2 80 zS Wl]) rfl (zQ rfl za) (fun _ => rfl) (wn rfl) rfl Tryz.call23 (zH rfl zP) (fun W hW hp hE => zBM N zFj zGY zGO (hW.slS (k := 3) rfl hp rfl) Wl zOj hE) ?_
  intro w u zM0 hu
  obtain ⟨zCd, zCb⟩ := u
  have gy123_0 := hu
  replace leB := leB.trans zM0
  have zLA : SlF zCd Wl.length zCb := gy123_0 --@phi
  dsimp only
  refine Tr.asg rfl rfl (Tr.nil (Tr.zA (Tr.ret ?_)))
  obtain rfl := oI H
  exact Tr.out (m := [sL zCd Wl zCb]) [] (zU rfl zV) (fun W hW => ⟨w, (zCd, zCb), leB, rfl, zLA, hW.pick (ks := [4]) (by decide) (zQ rfl za)⟩)

theorem zI3 (N : Nat) {w : Bs} (p0 : (List zZ)) (zF : Option Addr) (zG : Nat) (zT : Sl w.R w.W zS zF zG p0) (r : ((List zK) × Int)) (H : zAx N p0 = some r) (hE : HF w w.W (LEn [emp])) : Calls Tryz.prog 26 [sL zF p0 zG].toArray w.W fun e W' => ∃ u : (Option Addr × Nat), e = .returned (.tuple #[sL u.1 r.1 u.2, iv r.2]) ∧ (SlF u.1 r.1.length u.2) ∧ HF w W' (LEn [ow u.1 u.2 40 zR r.1]) := by
 unfold zAx at H
 have leB := Bs.Le.refl w
 refine Tr.enter (n := 9) Tryz.func26 rfl rfl rfl hE (Tr.sr (Tr.asg rfl rfl (Tr.JI 1 40 zR ?_)))
 show Tr _ _ (uf _ 2 (sL none (([] : List zK)) 0)) _ _
 refine Tr.asg rfl rfl (Tr.nil (Tr.zA (Tr.seq (Tr.sr (Tr.mv rfl rfl ?_)))))
 obtain ⟨QT, zBG, H⟩ := bnd H
 refine Tr.Qa (r := (iv QT)) (wn rfl) rfl Tryz.call59 (zH rfl zP) (fun W hW => zCQ p0 zF zG (zT.ext hW.Qr) QT zBG (HF.start _)) (Tr.va rfl (fun _ _ a c => VS (a.ev rfl) (a.ev rfl)) (Tr.nil (Tr.zA (Tr.cond rfl H (fun H => ?_) (fun H => ?_)))))
 ·refine Tr.sr (Tr.asg rfl rfl (Tr.JI 2 40 zR ?_))
  show Tr _ _ (uf _ 2 (sL none (([] : List zK)) 0)) _ _
  refine Tr.asg rfl rfl (Tr.nil (Tr.zA (Tr.ret (Tr.zb ?_))))
  obtain rfl := oI H
  exact Tr.out (m := [sL none (([] : List zK)) 0, iv 2]) [] (zU rfl (zU rfl zV)) (fun W hW => ⟨(none, 0), rfl, Kj, HF.zGc leB (hW.pick (ks := [2]) (by decide) (zQ rfl za)) ⟨zCJ _ _ _ _ WN, trivial⟩⟩)
 ·refine Tr.skip (Tr.zA (Tr.sr (Tr.mv rfl rfl ?_)))
  obtain ⟨y101, hy101, H⟩ := bnd H
  refine Tr.VB [3] [emp] (U := (Option Addr × Nat)) (fun u => (sL u.1 y101 u.2)) (fun u => SlF u.1 y101.length u.2) (fun u => [ow u.1 u.2 40 zR y101]) rfl (zQ rfl za) (fun _ => rfl) (wn rfl) rfl Tryz.call11 (zH rfl zP) (fun W hW hp hE => Vz N p0 zF zG (zT.ext (hW.JE hp)) y101 hy101 hE) ?_
  intro u hu
  obtain ⟨zBm, zBe⟩ := u
  have gy101_0 := hu
  have zDc : SlF zBm y101.length zBe := gy101_0 --@phi
  dsimp only
  refine Tr.asg rfl rfl (Tr.asg rfl rfl (Tr.nil (Tr.zA (Tr.ret ?_))))
  obtain rfl := oI H
  exact Tr.out (m := [sL zBm y101 zBe, iv 0]) [] (zU rfl (zU rfl zV)) (fun W hW => ⟨(zBm, zBe), rfl, zDc, HF.zGc leB (hW.pick (ks := [3]) (by decide) (zQ rfl za)) ⟨zCJ _ _ _ _ WN, trivial⟩⟩)

theorem zDO (N : Nat) {w : Bs} (p0 : (List zK)) (zF : Option Addr) (zG : Nat) (zT : Sl w.R w.W zR zF zG p0) (p1 : Qf) (r : ((List zK) × Int)) (H : Vb N p0 p1 = some r) (hE : HF w w.W (LEn [emp])) : Calls Tryz.prog 7 [sL zF p0 zG, .agg #[bV p1.Flip, iv p1.Quarters, iv p1.At.X, iv p1.At.Y]].toArray w.W fun e W' => ∃ u : (Option Addr × Nat), e = .returned (.tuple #[sL u.1 r.1 u.2, iv r.2]) ∧ (SlF u.1 r.1.length u.2) ∧ HF w W' (LEn [ow u.1 u.2 40 zR r.1]) := by
 unfold Vb at H
 have leB := Bs.Le.refl w
 refine Tr.enter (n := 30) Tryz.func7 rfl rfl rfl hE (Tr.sr (Tr.box 1 (cs := [bV p1.Flip, iv p1.Quarters, iv p1.At.X, iv p1.At.Y]) (wn rfl) rfl rfl rfl fun zw => (Tr.asg rfl rfl (Tr.JI 2 40 zR ?_))))
 show Tr _ _ (uf _ 4 (sL none (([] : List zK)) 0)) _ _
 refine Tr.asg rfl rfl (Tr.nil (Tr.zA (Tr.seq (Tr.sr (Tr.mv rfl rfl ?_)))))
 obtain ⟨y101, hy101, H⟩ := bnd H
 refine Tr.Qa (r := (iv y101)) (wn rfl) rfl Tryz.call21 (zH rfl zP) (fun W hW => zHw N p0 zF zG (zT.ext hW.Qr) y101 hy101 (HF.start _)) (Tr.asg rfl rfl (Tr.nil (Tr.zA (Tr.sr (Tr.mv rfl rfl (Tr.va rfl (fun _ _ a c => Jm (a.ev rfl) (a.ev rfl)) (Tr.nil (Tr.zA (Tr.cond rfl H (fun H => ?_) (fun H => ?_))))))))))
 ·refine Tr.sr (Tr.mv rfl rfl (Tr.asg rfl rfl (Tr.JI 3 40 zR ?_)))
  show Tr _ _ (uf _ 4 (sL none (([] : List zK)) 0)) _ _
  refine Tr.asg rfl rfl (Tr.nil (Tr.zA (Tr.ret (Tr.zb ?_))))
  obtain rfl := oI H
  exact Tr.out (m := [sL none (([] : List zK)) 0, iv y101]) [] (zU rfl (zU rfl zV)) (fun W hW => ⟨(none, 0), rfl, Kj, HF.zGc leB (hW.pick (ks := [3]) (by decide) (zQ rfl za)) ⟨zCJ _ _ _ _ WN, trivial⟩⟩)
 ·refine Tr.skip (Tr.zA (Tr.seq (Tr.sr (Tr.va rfl (fun _ _ a c => zX (cs := [bV p1.Flip, iv p1.Quarters, iv p1.At.X, iv p1.At.Y]) zIz zIB (a.ev rfl) (zO.take (rdb c (vs := [bV p1.Flip, iv p1.Quarters, iv p1.At.X, iv p1.At.Y]) (k := 1) rfl 0) 4) rfl) ?_))))
  obtain ⟨y102, hy102, H⟩ := bnd H
  refine Tr.Qa (r := (iv y102)) (wn rfl) rfl Tryz.call22 (zH rfl zP) (fun W hW => zEk p1 y102 hy102 (HF.start _)) (Tr.asg rfl rfl (Tr.nil (Tr.zA (Tr.sr (Tr.mv rfl rfl (Tr.va rfl (fun _ _ a c => Jm (a.ev rfl) (a.ev rfl)) (Tr.nil (Tr.zA (Tr.cond rfl H (fun H => ?_) (fun H => ?_))))))))))
  ·refine Tr.sr (Tr.mv rfl rfl (Tr.asg rfl rfl (Tr.JI 4 40 zR ?_)))
   show Tr _ _ (uf _ 4 (sL none (([] : List zK)) 0)) _ _
   refine Tr.asg rfl rfl (Tr.nil (Tr.zA (Tr.ret (Tr.zb ?_))))
   obtain rfl := oI H
   exact Tr.out (m := [sL none (([] : List zK)) 0, iv y102]) [] (zU rfl (zU rfl zV)) (fun W hW => ⟨(none, 0), rfl, Kj, HF.zGc leB (hW.pick (ks := [4]) (by decide) (zQ rfl za)) ⟨zCJ _ _ _ _ WN, trivial⟩⟩)
  ·refine Tr.skip (Tr.zA (Tr.seq (Tr.zJy 3 [] [] (by kernel_rfl) (by kernel_rfl) fun zje zZ5 zcy => (Dr.quiet 0 [(19, sL zF p0 zG)] (by kernel_rfl) rfl rfl (by kernel_rfl) ?_ rfl rfl ?_))))
   ·exact Tq.mv rfl rfl (Tq.fin (.cons rfl .nil))
   refine Dr.quiet 2 [(21, .agg #[bV p1.Flip, iv p1.Quarters, iv p1.At.X, iv p1.At.Y])] (by kernel_rfl) rfl rfl (by kernel_rfl) ?_ rfl rfl ?_
   ·exact Tq.va rfl (fun _ _ a c => zX (cs := [bV p1.Flip, iv p1.Quarters, iv p1.At.X, iv p1.At.Y]) zIz zIB (a.ev rfl) (zO.take (rdb c (vs := [bV p1.Flip, iv p1.Quarters, iv p1.At.X, iv p1.At.Y]) (k := 1) rfl 0) 4) rfl) (Tq.fin (.cons rfl .nil))
   obtain ⟨y104, hy104, H⟩ := bnd H
   refine Dr.one 1 (by kernel_rfl) (St.VC 1 [5] [emp] (U := (Option Addr × Nat)) (fun u => (sL u.1 y104 u.2)) (fun O W u => SlF u.1 y104.length u.2) (fun u => [ow u.1 u.2 80 zS y104]) rfl (zQ rfl za) (fun _ => rfl) (zGE rfl) rfl (wn rfl) rfl Tryz.call23 (zH rfl zP) (fun W hW hp hE => zBM N p0 zF zG (zT.ext (hW.JE hp)) y104 hy104 hE) ?_)
   intro w u zj7 hu zoa
   obtain ⟨zXW, zWx⟩ := u
   have gy104_0 := hu
   replace leB := leB.trans zj7
   have zmm : SlF zXW y104.length zWx := gy104_0
   dsimp only
   refine Dr.tail (by kernel_rfl) ?_
   obtain ⟨zBE, zK7, H⟩ := bnd H
   refine Tr.VC [6] [emp] (U := (Option Addr × Nat)) (fun u => (sL u.1 zBE u.2)) (fun O W u => SlF u.1 zBE.length u.2) (fun u => [ow u.1 u.2 80 zS zBE]) rfl (zQ rfl za) (fun _ => rfl) (wn rfl) rfl Tryz.call24 (zH rfl (zH rfl zP)) (fun W hW hp hE => zG9 N y104 zXW zWx (hW.slS (k := 5) rfl hp rfl) p1 zBE zK7 hE) ?_
   intro w u zOZ hu
   obtain ⟨zGT, zGK⟩ := u
   have gy106_0 := hu
   replace leB := leB.trans zOZ
   have zTl : SlF zGT zBE.length zGK := gy106_0 --@phi
   dsimp only
   refine Tr.asg rfl rfl (Tr.nil (Tr.zA (Tr.seq (Tr.sr (Tr.mv rfl rfl ?_)))))
   obtain ⟨zBb, zZq, H⟩ := bnd H
   refine Tr.Qa (r := (bV zBb)) (wn rfl) rfl Tryz.call25 (zH rfl zP) (fun W hW => zEj zBE zGT zGK (hW.zCj (k := 6) rfl) zBb zZq (HF.start _)) (Tr.va rfl (fun _ _ a c => KD (a.ev rfl)) (Tr.nil (Tr.zA (Tr.cond rfl H (fun H => ?_) (fun H => ?_)))))
   ·refine Tr.sr (Tr.asg rfl rfl (Tr.JI 7 40 zR ?_))
    show Tr _ _ (uf _ 4 (sL none (([] : List zK)) 0)) _ _
    refine Tr.asg rfl rfl (Tr.nil (Tr.zA (Tr.ret (Tr.zb ?_))))
    obtain rfl := oI H
    exact Tr.out (m := [sL none (([] : List zK)) 0, iv 1]) [] (zU rfl (zU rfl zV)) (fun W hW => ⟨(none, 0), rfl, Kj, HF.zGc leB (hW.pick (ks := [7]) (by decide) (zQ rfl za)) ⟨zCJ _ _ _ _ WN, trivial⟩⟩)
   ·refine Tr.skip (Tr.zA (Tr.sr (Tr.mv rfl rfl ?_)))
    obtain ⟨KW, zTZ, H⟩ := bnd H
    refine Tr.VB [8] [emp] (U := (Option Addr × Nat)) (fun u => (.tuple #[sL u.1 KW.1 u.2, iv KW.2])) (fun u => SlF u.1 KW.1.length u.2) (fun u => [ow u.1 u.2 40 zR KW.1]) rfl (zQ rfl za) (fun _ => rfl) (wn rfl) rfl Tryz.call26 (zH rfl zP) (fun W hW hp hE => zI3 N zBE zGT zGK (hW.slS (k := 6) rfl hp rfl) KW zTZ hE) ?_
    intro u hu
    obtain ⟨zFO, zFG⟩ := u
    have gy109_0 := hu
    have zTk : SlF zFO KW.1.length zFG := gy109_0 --@phi
    dsimp only
    refine Tr.va rfl (fun _ _ a c => Qb (a.ev rfl) rfl) (Tr.va rfl (fun _ _ a c => Qb (a.ev rfl) rfl) (Tr.asg rfl rfl (Tr.asg rfl rfl (Tr.nil (Tr.zA (Tr.ret ?_))))))
    obtain rfl := oI H
    exact Tr.out (m := [sL zFO KW.1 zFG, iv KW.2]) [] (zU rfl (zU rfl zV)) (fun W hW => ⟨(zFO, zFG), rfl, zTk, HF.zGc leB (hW.pick (ks := [8]) (by decide) (zQ rfl za)) ⟨zCJ _ _ _ _ WN, trivial⟩⟩)

end Go.Proofs.YtneghcpnehiffaaGreatDoor
