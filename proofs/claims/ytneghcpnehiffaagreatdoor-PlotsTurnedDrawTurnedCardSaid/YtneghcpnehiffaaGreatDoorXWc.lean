/- The walks: each function computes its plain function. -/
import Derived.Test.YtneghcpnehiffaaGreatDoorXWb
namespace Go.Proofs.YtneghcpnehiffaaGreatDoor
open Go.RowKit
set_option maxRecDepth 100000
set_option maxHeartbeats 1000000
theorem zBZ {w : Bs} (p0 : QM) (zF : Option Addr) (zG : Nat) (zT : Sl w.R w.W zW zF zG p0.p.Tools) (zN : Option Addr) (zM : Nat) (QV : Sl w.R w.W zJ zN zM p0.p.Steps) (QH : Option Addr) (QI : Nat) (Kb : Sl w.R w.W JJ QH QI p0.tools) (QN : Option Addr) (QL : Nat) (zeG : Sl w.R w.W zS QN QL p0.image) (bp0 : Nat) (p1 : zI) (r : (Int × Int × Int × Bool × Int)) (H : KN p0 p1 = some r) (hE : HF w w.W (LEn [bx bp0 #[iv p0.p.Unit, sL zF p0.p.Tools zG, sL zN p0.p.Steps zM, sL QH p0.tools QI, sL QN p0.image QL, bV p0.clear, iv p0.tool, iv p0.place.X, iv p0.place.Y, bV p0.placed, iv p0.off, iv p0.on] 77])) : Calls Tryz.prog 104 [pV bp0, .agg #[iv p1.X, iv p1.Y], .pointer (some ⟨bp0, 10, none⟩)].toArray w.W fun e W' => ∃ u : Unit, e = .returned (iv r.1) ∧ (True) ∧ HF w W' (LEn [bx bp0 #[iv p0.p.Unit, sL zF p0.p.Tools zG, sL zN p0.p.Steps zM, sL QH p0.tools QI, sL QN p0.image QL, bV p0.clear, iv p0.tool, iv r.2.1, iv r.2.2.1, bV r.2.2.2.1, iv r.2.2.2.2, iv p0.on] 77]) := by
 unfold KN at H
 have leB := Bs.Le.refl w
 refine Tr.enter (n := 32) Tryz.func104 rfl rfl rfl hE (Tr.sr (Tr.box 1 (cs := [iv p1.X, iv p1.Y]) (wn rfl) rfl rfl rfl fun zw => (Tr.asg rfl rfl (Tr.nil (Tr.zA (Tr.seq (Tr.sr (Tr.va rfl (fun _ _ a c => zX (cs := [iv p1.X, iv p1.Y]) Kk JG (a.ev rfl) (zO.take (rdb c (vs := [iv p1.X, iv p1.Y]) (k := 1) rfl 0) 2) rfl) ?_))))))))
 obtain ⟨y101, hy101, H⟩ := bnd H
 refine Tr.Qa (r := (bV y101)) (wn rfl) rfl Tryz.call14 (zH rfl zP) (fun W hW => zAV p1 y101 hy101 (HF.start _)) (Tr.va rfl (fun _ _ a c => KD (a.ev rfl)) (Tr.nil (Tr.zA (Tr.cond rfl H (fun H => ?_) (fun H => ?_)))))
 ·refine Tr.sr (Tr.asg rfl rfl (Tr.nil (Tr.zA (Tr.ret (Tr.zb ?_)))))
  obtain rfl := oI H
  exact Tr.out (m := [iv 1]) [] (zU rfl zV) (fun W hW => ⟨(), rfl, trivial, HF.zGc leB (hW.pick (ks := [0]) (by decide) (zQ rfl za)) ⟨zSB _ _ _, trivial⟩⟩)
 ·refine Tr.skip (Tr.zA ?_)
  have leJ104 := Bs.Le.refl w
  refine Tr.zIu (σ := Int) (fun w s => Ji p1 s = some r) (fun s => [(0, pV bp0), (4, pV zw)]) (fun s => [(0, bx bp0 #[iv p0.p.Unit, sL zF p0.p.Tools zG, sL zN p0.p.Steps zM, sL QH p0.tools QI, sL QN p0.image QL, bV p0.clear, iv p0.tool, iv p0.place.X, iv p0.place.Y, bV p0.placed, iv s, iv p0.on] 77), (1, bx zw #[iv p1.X, iv p1.Y] 27)]) ?_ ?_
  ·refine Tr.sr (Tr.mv rfl rfl (Tr.va rfl (fun _ _ a c => zl (a.ev rfl)) (Tr.va rfl (fun _ _ a c => zB zLF (a.ev rfl)) (Tr.va rfl (fun _ _ a c => zD zJr (a.ev rfl) (rdb c (vs := [iv p0.p.Unit, sL zF p0.p.Tools zG, sL zN p0.p.Steps zM, sL QH p0.tools QI, sL QN p0.image QL, bV p0.clear, iv p0.tool, iv p0.place.X, iv p0.place.Y, bV p0.placed, iv p0.off, iv p0.on]) (k := 0) rfl 9) rfl) (Tr.nil (Tr.zA (Tr.cond rfl H (fun H => ?_) (fun H => ?_))))))))
   ·refine Tr.Vm 9 (by kernel_rfl) (by kernel_rfl) (Tq.mv rfl rfl (Tq.va rfl (fun _ _ a c => zl (a.ev rfl)) (Tq.va rfl (fun _ _ a c => zD zm (a.ev rfl) (rdb c (vs := [iv p0.p.Unit, sL zF p0.p.Tools zG, sL zN p0.p.Steps zM, sL QH p0.tools QI, sL QN p0.image QL, bV p0.clear, iv p0.tool, iv p0.place.X, iv p0.place.Y, bV p0.placed, iv p0.off, iv p0.on]) (k := 0) rfl 10) rfl) (Tq.mv rfl rfl (Tq.va rfl (fun _ _ a c => zl (a.ev rfl)) (Tq.va rfl (fun _ _ a c => zB zHe (a.ev rfl)) (Tq.va rfl (fun _ _ a c => zX (cs := [iv p0.place.X, iv p0.place.Y]) Kk JG (a.ev rfl) (zO.take (rdb c (vs := [iv p0.p.Unit, sL zF p0.p.Tools zG, sL zN p0.p.Steps zM, sL QH p0.tools QI, sL QN p0.image QL, bV p0.clear, iv p0.tool, iv p0.place.X, iv p0.place.Y, bV p0.placed, iv p0.off, iv p0.on]) (k := 0) rfl 7) 2) rfl) (Tq.va rfl (fun _ _ a c => zX (cs := [iv p1.X, iv p1.Y]) Kk JG (a.ev rfl) (zO.take (rdb c (vs := [iv p1.X, iv p1.Y]) (k := 1) rfl 0) 2) rfl) ?_))))))))
    obtain ⟨zBE, zK7, H⟩ := bnd H
    exact Tq.Qa (r := (iv zBE)) (wn rfl) rfl Tryz.call124 (zH rfl (zH rfl zP)) (fun W hW => zJ3 p0.place p1 zBE zK7 (HF.start _)) (Tq.nil (Tr.va rfl (fun _ _ a c => zo (a.ev rfl) (a.ev rfl)) (Tr.va rfl (fun _ _ a c => zl (a.ev rfl)) (Tr.store 0 (cs := [iv (w64 (p0.off + zBE))]) [iv p0.p.Unit, sL zF p0.p.Tools zG, sL zN p0.p.Steps zM, sL QH p0.tools QI, sL QN p0.image QL, bV p0.clear, iv p0.tool, iv p0.place.X, iv p0.place.Y, bV p0.placed, iv (w64 (p0.off + zBE)), iv p0.on] (wn rfl) rfl rfl rfl rfl zE8 rfl rfl rfl (Tr.nil (Tr.zf leJ104 (w64 (p0.off + zBE)) H (.cons rfl (.cons rfl .nil)) (.cons rfl (.cons rfl .nil))))))))
   ·exact Tr.skip (Tr.zf leJ104 p0.off H (.cons rfl (.cons rfl .nil)) (.cons rfl (.cons rfl .nil)))
  ·intro w x103 hlJ105 hs
   have H := hs
   replace H : Ji p1 x103 = some r := H
   replace leB := leB.trans hlJ105
   unfold Ji at H
   show Tr _ _ (LF [(0, pV bp0), (4, pV zw)]) (LE [(0, bx bp0 #[iv p0.p.Unit, sL zF p0.p.Tools zG, sL zN p0.p.Steps zM, sL QH p0.tools QI, sL QN p0.image QL, bV p0.clear, iv p0.tool, iv p0.place.X, iv p0.place.Y, bV p0.placed, iv x103, iv p0.on] 77), (1, bx zw #[iv p1.X, iv p1.Y] 27)]) _
   refine Tr.sr (Tr.mv rfl rfl (Tr.mv rfl rfl (Tr.va rfl (fun _ _ a c => zX (cs := [iv p1.X, iv p1.Y]) Kk JG (a.ev rfl) (zO.take (rdb c (vs := [iv p1.X, iv p1.Y]) (k := 1) rfl 0) 2) rfl) (Tr.va rfl (fun _ _ a c => zl (a.ev rfl)) (Tr.va rfl (fun _ _ a c => zB zHe (a.ev rfl)) (Tr.store 0 (cs := [iv p1.X, iv p1.Y]) [iv p0.p.Unit, sL zF p0.p.Tools zG, sL zN p0.p.Steps zM, sL QH p0.tools QI, sL QN p0.image QL, bV p0.clear, iv p0.tool, iv p1.X, iv p1.Y, bV p0.placed, iv x103, iv p0.on] (wn rfl) rfl rfl rfl rfl JG rfl rfl rfl (Tr.va rfl (fun _ _ a c => zl (a.ev rfl)) (Tr.va rfl (fun _ _ a c => zB zLF (a.ev rfl)) (Tr.store 0 (cs := [bV true]) [iv p0.p.Unit, sL zF p0.p.Tools zG, sL zN p0.p.Steps zM, sL QH p0.tools QI, sL QN p0.image QL, bV p0.clear, iv p0.tool, iv p1.X, iv p1.Y, bV true, iv x103, iv p0.on] (wn rfl) rfl rfl rfl rfl ze7 rfl rfl rfl ?_)))))))))
   refine Tr.nil (Tr.zA (Tr.sr (Tr.asg rfl rfl (Tr.nil (Tr.zA (Tr.ret ?_))))))
   obtain rfl := oI H
   exact Tr.out (m := [iv 0]) [] (zU rfl zV) (fun W hW => ⟨(), rfl, trivial, HF.zGc leB (hW.pick (ks := [0]) (by decide) (zQ rfl za)) ⟨zSB _ _ _, trivial⟩⟩)

theorem zGi (N : Nat) {w : Bs} (p0 : QM) (zF : Option Addr) (zG : Nat) (zT : Sl w.R w.W zW zF zG p0.p.Tools) (zN : Option Addr) (zM : Nat) (QV : Sl w.R w.W zJ zN zM p0.p.Steps) (QH : Option Addr) (QI : Nat) (Kb : Sl w.R w.W JJ QH QI p0.tools) (QN : Option Addr) (QL : Nat) (bp0 : Nat) (p1 : zI) (r : (Int × Int × Int × Bool × Int × (List zZ))) (H : WC N p0 p1 = some r) (hE : HF w w.W (LEn [bx bp0 #[iv p0.p.Unit, sL zF p0.p.Tools zG, sL zN p0.p.Steps zM, sL QH p0.tools QI, sL QN p0.image QL, bV p0.clear, iv p0.tool, iv p0.place.X, iv p0.place.Y, bV p0.placed, iv p0.off, iv p0.on] 77, ow QN QL 80 zS p0.image])) : Calls Tryz.prog 105 [pV bp0, .agg #[iv p1.X, iv p1.Y]].toArray w.W fun e W' => ∃ (w' : Bs) (u : (Option Addr × Nat)), w.Le w' ∧ e = .returned (iv r.1) ∧ (SlF u.1 r.2.2.2.2.2.length u.2) ∧ HF w' W' (LEn [bx bp0 #[iv p0.p.Unit, sL zF p0.p.Tools zG, sL zN p0.p.Steps zM, sL QH p0.tools QI, sL u.1 r.2.2.2.2.2 u.2, bV p0.clear, iv p0.tool, iv r.2.1, iv r.2.2.1, bV r.2.2.2.1, iv r.2.2.2.2.1, iv p0.on] 77, ow u.1 u.2 80 zS r.2.2.2.2.2]) := by
 unfold WC at H
 have zAB := (hE.sl (k := 1) rfl).form
 have leB := Bs.Le.refl w
 refine Tr.enter (n := 35) Tryz.func105 rfl rfl rfl hE (Tr.sr (Tr.box 2 (cs := [iv p1.X, iv p1.Y]) (wn rfl) rfl rfl rfl fun zw => (Tr.asg rfl rfl (Tr.nil (Tr.zA (Tr.seq (Tr.sr (Tr.mv rfl rfl (Tr.va rfl (fun _ _ a c => zl (a.ev rfl)) (Tr.va rfl (fun _ _ a c => zB zLG (a.ev rfl)) (Tr.va rfl (fun _ _ a c => zD zm (a.ev rfl) (rdb c (vs := [iv p0.p.Unit, sL zF p0.p.Tools zG, sL zN p0.p.Steps zM, sL QH p0.tools QI, sL QN p0.image QL, bV p0.clear, iv p0.tool, iv p0.place.X, iv p0.place.Y, bV p0.placed, iv p0.off, iv p0.on]) (k := 0) rfl 6) rfl) (Tr.va rfl (fun _ _ a c => QD (a.ev rfl) (a.ev rfl)) (Tr.nil (Tr.zA (Tr.cond rfl H (fun H => ?_) (fun H => ?_))))))))))))))))
 ·refine Tr.sr (Tr.asg rfl rfl (Tr.nil (Tr.zA (Tr.ret (Tr.zb ?_)))))
  obtain rfl := oI H
  exact Tr.out (m := [iv 11]) [] (zU rfl zV) (fun W hW => ⟨w, (QN, QL), leB, rfl, zAB, hW.pick (ks := [0, 1]) (by decide) (zQ rfl (zQ rfl za))⟩)
 ·refine Tr.skip (Tr.zA (Tr.seq (Tr.seq (Tr.Vm 5 (by kernel_rfl) (by kernel_rfl) (Tq.mv rfl rfl (Tq.va rfl (fun _ _ a c => zX (cs := [iv p1.X, iv p1.Y]) Kk JG (a.ev rfl) (zO.take (rdb c (vs := [iv p1.X, iv p1.Y]) (k := 2) rfl 0) 2) rfl) (Tq.mv rfl rfl (Tq.va rfl (fun _ _ a c => zl (a.ev rfl)) (Tq.va rfl (fun _ _ a c => zB zWR (a.ev rfl)) (Tq.nil ?_))))))))))
  obtain ⟨y101, hy101, H⟩ := bnd H
  refine Tr.VB [0] [bx bp0 #[iv p0.p.Unit, sL zF p0.p.Tools zG, sL zN p0.p.Steps zM, sL QH p0.tools QI, sL QN p0.image QL, bV p0.clear, iv p0.tool, iv p0.place.X, iv p0.place.Y, bV p0.placed, iv p0.off, iv p0.on] 77] (U := Unit) (fun u => (iv y101.1)) (fun u => True) (fun u => [bx bp0 #[iv p0.p.Unit, sL zF p0.p.Tools zG, sL zN p0.p.Steps zM, sL QH p0.tools QI, sL QN p0.image QL, bV p0.clear, iv p0.tool, iv y101.2.1, iv y101.2.2.1, bV y101.2.2.2.1, iv y101.2.2.2.2, iv p0.on] 77]) rfl (zQ rfl za) (fun _ => rfl) (wn rfl) rfl Tryz.call104 (zH rfl (zH rfl (zH rfl zP))) (fun W hW hp hE => zBZ p0 zF zG (zT.ext (hW.JE hp)) zN zM (QV.ext (hW.JE hp)) QH QI (Kb.ext (hW.JE hp)) QN QL (hW.slS (k := 1) rfl hp rfl) bp0 p1 y101 hy101 hE) ?_
  intro u hu
  show Tr _ _ (uf _ 16 (iv y101.1)) (up _ 0 (bx bp0 #[iv p0.p.Unit, sL zF p0.p.Tools zG, sL zN p0.p.Steps zM, sL QH p0.tools QI, sL QN p0.image QL, bV p0.clear, iv p0.tool, iv y101.2.1, iv y101.2.2.1, bV y101.2.2.2.1, iv y101.2.2.2.2, iv p0.on] 77)) _
  refine Tr.asg rfl rfl (Tr.nil (Tr.zA (Tr.sr (Tr.mv rfl rfl (Tr.va rfl (fun _ _ a c => Jm (a.ev rfl) (a.ev rfl)) (Tr.nil (Tr.zA (Tr.cond rfl H (fun H => ?_) (fun H => ?_)))))))))
  ·refine Tr.sr (Tr.mv rfl rfl (Tr.asg rfl rfl (Tr.nil (Tr.zA (Tr.ret (Tr.zb ?_))))))
   obtain rfl := oI H
   exact Tr.out (m := [iv y101.1]) [] (zU rfl zV) (fun W hW => ⟨w, (QN, QL), leB, rfl, zAB, hW.pick (ks := [0, 1]) (by decide) (zQ rfl (zQ rfl za))⟩)
  ·refine Tr.skip (Tr.zA (Tr.seq (Tr.zJy 14 [] [] (by kernel_rfl) (by kernel_rfl) fun zje zZ5 zcy => (Dr.quiet 0 [(20, pV bp0)] (by kernel_rfl) rfl rfl (by kernel_rfl) ?_ rfl rfl ?_))))
   ·exact Tq.mv rfl rfl (Tq.fin (.cons rfl .nil))
   refine Dr.quiet 1 [(21, pV bp0)] (by kernel_rfl) rfl rfl (by kernel_rfl) ?_ rfl rfl ?_
   ·exact Tq.mv rfl rfl (Tq.fin (.cons rfl .nil))
   refine Dr.quiet 2 [(22, pV bp0)] (by kernel_rfl) rfl rfl (by kernel_rfl) ?_ rfl rfl ?_
   ·exact Tq.va rfl (fun _ _ a c => zl (a.ev rfl)) (Tq.fin (.cons rfl .nil))
   refine Dr.quiet 3 [(23, .pointer (some ⟨bp0, 3, none⟩))] (by kernel_rfl) rfl rfl (by kernel_rfl) ?_ rfl rfl ?_
   ·exact Tq.va rfl (fun _ _ a c => zB zNY (a.ev rfl)) (Tq.fin (.cons rfl .nil))
   refine Dr.quiet 4 [(24, sL QH p0.tools QI)] (by kernel_rfl) rfl rfl (by kernel_rfl) ?_ rfl rfl ?_
   ·exact Tq.va rfl (fun _ _ a c => zD zbX (a.ev rfl) (rdb c (vs := [iv p0.p.Unit, sL zF p0.p.Tools zG, sL zN p0.p.Steps zM, sL QH p0.tools QI, sL QN p0.image QL, bV p0.clear, iv p0.tool, iv y101.2.1, iv y101.2.2.1, bV y101.2.2.2.1, iv y101.2.2.2.2, iv p0.on]) (k := 0) rfl 3) rfl) (Tq.fin (.cons rfl .nil))
   refine Dr.quiet 5 [(25, pV bp0)] (by kernel_rfl) rfl rfl (by kernel_rfl) ?_ rfl rfl ?_
   ·exact Tq.mv rfl rfl (Tq.fin (.cons rfl .nil))
   refine Dr.quiet 6 [(26, pV bp0)] (by kernel_rfl) rfl rfl (by kernel_rfl) ?_ rfl rfl ?_
   ·exact Tq.va rfl (fun _ _ a c => zl (a.ev rfl)) (Tq.fin (.cons rfl .nil))
   refine Dr.quiet 7 [(27, .pointer (some ⟨bp0, 6, none⟩))] (by kernel_rfl) rfl rfl (by kernel_rfl) ?_ rfl rfl ?_
   ·exact Tq.va rfl (fun _ _ a c => zB zLG (a.ev rfl)) (Tq.fin (.cons rfl .nil))
   refine Dr.quiet 8 [(28, iv p0.tool)] (by kernel_rfl) rfl rfl (by kernel_rfl) ?_ rfl rfl ?_
   ·exact Tq.va rfl (fun _ _ a c => zD zm (a.ev rfl) (rdb c (vs := [iv p0.p.Unit, sL zF p0.p.Tools zG, sL zN p0.p.Steps zM, sL QH p0.tools QI, sL QN p0.image QL, bV p0.clear, iv p0.tool, iv y101.2.1, iv y101.2.2.1, bV y101.2.2.2.1, iv y101.2.2.2.2, iv p0.on]) (k := 0) rfl 6) rfl) (Tq.fin (.cons rfl .nil))
   obtain ⟨x104, hx104, H⟩ := bnd H
   obtain ⟨zOq, zOp, zOo⟩ := zq hx104
   obtain ⟨u105, hRu105, zRi, hcu105⟩ := (Kb).el zOo
   obtain ⟨zNy, zNm⟩ := u105
   have zJS := zRi
   replace zJS : Sl w.R w.W zS zNy zNm x104 := zJS
   refine Dr.quiet 9 [(29, .pointer (some ⟨adB QH, adO QH + (p0.tool).toNat * 1, none⟩))] (by kernel_rfl) rfl rfl (by kernel_rfl) ?_ rfl rfl ?_
   ·exact Tq.va rfl (fun _ _ a c => zL za2 (a.ev rfl) Kb.form (a.ev rfl) zOq zOp) (Tq.fin (.cons rfl .nil))
   refine Dr.quiet 10 [(30, sL zNy x104 zNm)] (by kernel_rfl) rfl rfl (by kernel_rfl) ?_ rfl rfl ?_
   ·exact Tq.va rfl (fun _ _ a c => zD zPO (a.ev rfl) (rdR hRu105 hcu105 c) rfl) (Tq.fin (.cons rfl .nil))
   refine Dr.quiet 11 [(31, .agg #[iv p1.X, iv p1.Y])] (by kernel_rfl) rfl rfl (by kernel_rfl) ?_ rfl rfl ?_
   ·exact Tq.va rfl (fun _ _ a c => zX (cs := [iv p1.X, iv p1.Y]) Kk JG (a.ev rfl) (zO.take (rdb c (vs := [iv p1.X, iv p1.Y]) (k := 2) rfl 0) 2) rfl) (Tq.fin (.cons rfl .nil))
   refine Dr.quiet 12 [(32, .agg #[iv p1.X, iv p1.Y])] (by kernel_rfl) rfl rfl (by kernel_rfl) ?_ rfl rfl ?_
   ·exact Tq.va rfl (fun _ _ a c => zX (cs := [iv p1.X, iv p1.Y]) Kk JG (a.ev rfl) (zO.take (rdb c (vs := [iv p1.X, iv p1.Y]) (k := 2) rfl 0) 2) rfl) (Tq.fin (.cons rfl .nil))
   obtain ⟨zBE, zK7, H⟩ := bnd H
   refine Dr.one 13 (by kernel_rfl) (St.VC 13 [3] [emp] (U := (Option Addr × Nat)) (fun u => (sL u.1 zBE u.2)) (fun O W u => SlF u.1 zBE.length u.2) (fun u => [ow u.1 u.2 80 zS zBE]) rfl (zQ rfl za) (fun _ => rfl) (zGE rfl) rfl (wn rfl) rfl Tryz.call126 (zH rfl (zH rfl (zH rfl zP))) (fun W hW hp hE => zIJ N x104 zNy zNm (zJS.ext (hW.JE hp)) p1 p1 zBE zK7 hE) ?_)
   intro w u zOZ hu zoY
   obtain ⟨zGT, zGK⟩ := u
   have gy106_0 := hu
   replace zT := zT.leR zOZ
   replace QV := QV.leR zOZ
   replace Kb := Kb.leR zOZ
   replace hRu105 := zOZ.r _ hRu105
   replace leB := leB.trans zOZ
   have zTl : SlF zGT zBE.length zGK := gy106_0
   dsimp only
   refine Dr.tail (by kernel_rfl) (Tr.freeze 3 rfl fun w zK2 zZh => ?_)
   replace zT := zT.leR zK2
   replace QV := QV.leR zK2
   replace Kb := Kb.leR zK2
   replace hRu105 := zK2.r _ hRu105
   replace leB := leB.trans zK2
   obtain ⟨zCn, zK6, H⟩ := bnd H
   refine Tr.VC [0, 1] [bx bp0 #[iv p0.p.Unit, sL zF p0.p.Tools zG, sL zN p0.p.Steps zM, sL QH p0.tools QI, sL QN p0.image QL, bV p0.clear, iv p0.tool, iv y101.2.1, iv y101.2.2.1, bV y101.2.2.2.1, iv y101.2.2.2.2, iv p0.on] 77, ow QN QL 80 zS p0.image] (U := (Option Addr × Nat)) (fun u => (iv zCn.1)) (fun O W u => SlF u.1 zCn.2.length u.2) (fun u => [bx bp0 #[iv p0.p.Unit, sL zF p0.p.Tools zG, sL zN p0.p.Steps zM, sL QH p0.tools QI, sL u.1 zCn.2 u.2, bV p0.clear, iv p0.tool, iv y101.2.1, iv y101.2.2.1, bV y101.2.2.2.1, iv y101.2.2.2.2, iv p0.on] 77, ow u.1 u.2 80 zS zCn.2]) rfl (zQ rfl (zQ rfl za)) (fun _ => rfl) (wn rfl) rfl Tryz.call125 (zH rfl (zH rfl zP)) (fun W hW hp hE => zBO N (QM.mk p0.p p0.tools p0.image p0.clear p0.tool (zI.mk y101.2.1 y101.2.2.1) y101.2.2.2.1 y101.2.2.2.2 p0.on) zF zG (zT.ext (hW.JE hp)) zN zM (QV.ext (hW.JE hp)) QH QI (Kb.ext (hW.JE hp)) QN QL bp0 zBE zGT zGK (zZh.zAS (hW.JE hp)) zCn zK6 hE) ?_
   intro w u zZQ hu
   obtain ⟨zXU, zWv⟩ := u
   have gy110_0 := hu
   replace hRu105 := zZQ.r _ hRu105
   replace zZh := zZh.le zZQ
   replace leB := leB.trans zZQ
   have zad : SlF zXU zCn.2.length zWv := gy110_0 --@phi
   dsimp only
   refine Tr.asg rfl rfl (Tr.nil (Tr.zA (Tr.ret ?_)))
   obtain rfl := oI H
   exact Tr.out (m := [iv zCn.1]) [] (zU rfl zV) (fun W hW => ⟨w, (zXU, zWv), leB, rfl, zad, hW.pick (ks := [0, 1]) (by decide) (zQ rfl (zQ rfl za))⟩)

theorem zEm {w : Bs} (p0 : QM) (zF : Option Addr) (zG : Nat) (zT : Sl w.R w.W zW zF zG p0.p.Tools) (zN : Option Addr) (zM : Nat) (QV : Sl w.R w.W zJ zN zM p0.p.Steps) (QH : Option Addr) (QI : Nat) (Kb : Sl w.R w.W JJ QH QI p0.tools) (QN : Option Addr) (QL : Nat) (zeG : Sl w.R w.W zS QN QL p0.image) (bp0 : Nat) (p1 : zI) (r : (Int × Int × Int × Bool × Int)) (H : Kr p0 p1 = some r) (hE : HF w w.W (LEn [bx bp0 #[iv p0.p.Unit, sL zF p0.p.Tools zG, sL zN p0.p.Steps zM, sL QH p0.tools QI, sL QN p0.image QL, bV p0.clear, iv p0.tool, iv p0.place.X, iv p0.place.Y, bV p0.placed, iv p0.off, iv p0.on] 77])) : Calls Tryz.prog 104 [pV bp0, .agg #[iv p1.X, iv p1.Y], .pointer (some ⟨bp0, 11, none⟩)].toArray w.W fun e W' => ∃ u : Unit, e = .returned (iv r.1) ∧ (True) ∧ HF w W' (LEn [bx bp0 #[iv p0.p.Unit, sL zF p0.p.Tools zG, sL zN p0.p.Steps zM, sL QH p0.tools QI, sL QN p0.image QL, bV p0.clear, iv p0.tool, iv r.2.1, iv r.2.2.1, bV r.2.2.2.1, iv p0.off, iv r.2.2.2.2] 77]) := by
 unfold Kr at H
 have leB := Bs.Le.refl w
 refine Tr.enter (n := 32) Tryz.func104 rfl rfl rfl hE (Tr.sr (Tr.box 1 (cs := [iv p1.X, iv p1.Y]) (wn rfl) rfl rfl rfl fun zw => (Tr.asg rfl rfl (Tr.nil (Tr.zA (Tr.seq (Tr.sr (Tr.va rfl (fun _ _ a c => zX (cs := [iv p1.X, iv p1.Y]) Kk JG (a.ev rfl) (zO.take (rdb c (vs := [iv p1.X, iv p1.Y]) (k := 1) rfl 0) 2) rfl) ?_))))))))
 obtain ⟨y101, hy101, H⟩ := bnd H
 refine Tr.Qa (r := (bV y101)) (wn rfl) rfl Tryz.call14 (zH rfl zP) (fun W hW => zAV p1 y101 hy101 (HF.start _)) (Tr.va rfl (fun _ _ a c => KD (a.ev rfl)) (Tr.nil (Tr.zA (Tr.cond rfl H (fun H => ?_) (fun H => ?_)))))
 ·refine Tr.sr (Tr.asg rfl rfl (Tr.nil (Tr.zA (Tr.ret (Tr.zb ?_)))))
  obtain rfl := oI H
  exact Tr.out (m := [iv 1]) [] (zU rfl zV) (fun W hW => ⟨(), rfl, trivial, HF.zGc leB (hW.pick (ks := [0]) (by decide) (zQ rfl za)) ⟨zSB _ _ _, trivial⟩⟩)
 ·refine Tr.skip (Tr.zA ?_)
  have leJ104 := Bs.Le.refl w
  refine Tr.zIu (σ := Int) (fun w s => Jh p1 s = some r) (fun s => [(0, pV bp0), (4, pV zw)]) (fun s => [(0, bx bp0 #[iv p0.p.Unit, sL zF p0.p.Tools zG, sL zN p0.p.Steps zM, sL QH p0.tools QI, sL QN p0.image QL, bV p0.clear, iv p0.tool, iv p0.place.X, iv p0.place.Y, bV p0.placed, iv p0.off, iv s] 77), (1, bx zw #[iv p1.X, iv p1.Y] 27)]) ?_ ?_
  ·refine Tr.sr (Tr.mv rfl rfl (Tr.va rfl (fun _ _ a c => zl (a.ev rfl)) (Tr.va rfl (fun _ _ a c => zB zLF (a.ev rfl)) (Tr.va rfl (fun _ _ a c => zD zJr (a.ev rfl) (rdb c (vs := [iv p0.p.Unit, sL zF p0.p.Tools zG, sL zN p0.p.Steps zM, sL QH p0.tools QI, sL QN p0.image QL, bV p0.clear, iv p0.tool, iv p0.place.X, iv p0.place.Y, bV p0.placed, iv p0.off, iv p0.on]) (k := 0) rfl 9) rfl) (Tr.nil (Tr.zA (Tr.cond rfl H (fun H => ?_) (fun H => ?_))))))))
   ·refine Tr.Vm 9 (by kernel_rfl) (by kernel_rfl) (Tq.mv rfl rfl (Tq.va rfl (fun _ _ a c => zl (a.ev rfl)) (Tq.va rfl (fun _ _ a c => zD zm (a.ev rfl) (rdb c (vs := [iv p0.p.Unit, sL zF p0.p.Tools zG, sL zN p0.p.Steps zM, sL QH p0.tools QI, sL QN p0.image QL, bV p0.clear, iv p0.tool, iv p0.place.X, iv p0.place.Y, bV p0.placed, iv p0.off, iv p0.on]) (k := 0) rfl 11) rfl) (Tq.mv rfl rfl (Tq.va rfl (fun _ _ a c => zl (a.ev rfl)) (Tq.va rfl (fun _ _ a c => zB zHe (a.ev rfl)) (Tq.va rfl (fun _ _ a c => zX (cs := [iv p0.place.X, iv p0.place.Y]) Kk JG (a.ev rfl) (zO.take (rdb c (vs := [iv p0.p.Unit, sL zF p0.p.Tools zG, sL zN p0.p.Steps zM, sL QH p0.tools QI, sL QN p0.image QL, bV p0.clear, iv p0.tool, iv p0.place.X, iv p0.place.Y, bV p0.placed, iv p0.off, iv p0.on]) (k := 0) rfl 7) 2) rfl) (Tq.va rfl (fun _ _ a c => zX (cs := [iv p1.X, iv p1.Y]) Kk JG (a.ev rfl) (zO.take (rdb c (vs := [iv p1.X, iv p1.Y]) (k := 1) rfl 0) 2) rfl) ?_))))))))
    obtain ⟨zBE, zK7, H⟩ := bnd H
    exact Tq.Qa (r := (iv zBE)) (wn rfl) rfl Tryz.call124 (zH rfl (zH rfl zP)) (fun W hW => zJ3 p0.place p1 zBE zK7 (HF.start _)) (Tq.nil (Tr.va rfl (fun _ _ a c => zo (a.ev rfl) (a.ev rfl)) (Tr.va rfl (fun _ _ a c => zl (a.ev rfl)) (Tr.store 0 (cs := [iv (w64 (p0.on + zBE))]) [iv p0.p.Unit, sL zF p0.p.Tools zG, sL zN p0.p.Steps zM, sL QH p0.tools QI, sL QN p0.image QL, bV p0.clear, iv p0.tool, iv p0.place.X, iv p0.place.Y, bV p0.placed, iv p0.off, iv (w64 (p0.on + zBE))] (wn rfl) rfl rfl rfl rfl zE8 rfl rfl rfl (Tr.nil (Tr.zf leJ104 (w64 (p0.on + zBE)) H (.cons rfl (.cons rfl .nil)) (.cons rfl (.cons rfl .nil))))))))
   ·exact Tr.skip (Tr.zf leJ104 p0.on H (.cons rfl (.cons rfl .nil)) (.cons rfl (.cons rfl .nil)))
  ·intro w x103 hlJ105 hs
   have H := hs
   replace H : Jh p1 x103 = some r := H
   replace leB := leB.trans hlJ105
   unfold Jh at H
   show Tr _ _ (LF [(0, pV bp0), (4, pV zw)]) (LE [(0, bx bp0 #[iv p0.p.Unit, sL zF p0.p.Tools zG, sL zN p0.p.Steps zM, sL QH p0.tools QI, sL QN p0.image QL, bV p0.clear, iv p0.tool, iv p0.place.X, iv p0.place.Y, bV p0.placed, iv p0.off, iv x103] 77), (1, bx zw #[iv p1.X, iv p1.Y] 27)]) _
   refine Tr.sr (Tr.mv rfl rfl (Tr.mv rfl rfl (Tr.va rfl (fun _ _ a c => zX (cs := [iv p1.X, iv p1.Y]) Kk JG (a.ev rfl) (zO.take (rdb c (vs := [iv p1.X, iv p1.Y]) (k := 1) rfl 0) 2) rfl) (Tr.va rfl (fun _ _ a c => zl (a.ev rfl)) (Tr.va rfl (fun _ _ a c => zB zHe (a.ev rfl)) (Tr.store 0 (cs := [iv p1.X, iv p1.Y]) [iv p0.p.Unit, sL zF p0.p.Tools zG, sL zN p0.p.Steps zM, sL QH p0.tools QI, sL QN p0.image QL, bV p0.clear, iv p0.tool, iv p1.X, iv p1.Y, bV p0.placed, iv p0.off, iv x103] (wn rfl) rfl rfl rfl rfl JG rfl rfl rfl (Tr.va rfl (fun _ _ a c => zl (a.ev rfl)) (Tr.va rfl (fun _ _ a c => zB zLF (a.ev rfl)) (Tr.store 0 (cs := [bV true]) [iv p0.p.Unit, sL zF p0.p.Tools zG, sL zN p0.p.Steps zM, sL QH p0.tools QI, sL QN p0.image QL, bV p0.clear, iv p0.tool, iv p1.X, iv p1.Y, bV true, iv p0.off, iv x103] (wn rfl) rfl rfl rfl rfl ze7 rfl rfl rfl ?_)))))))))
   refine Tr.nil (Tr.zA (Tr.sr (Tr.asg rfl rfl (Tr.nil (Tr.zA (Tr.ret ?_))))))
   obtain rfl := oI H
   exact Tr.out (m := [iv 0]) [] (zU rfl zV) (fun W hW => ⟨(), rfl, trivial, HF.zGc leB (hW.pick (ks := [0]) (by decide) (zQ rfl za)) ⟨zSB _ _ _, trivial⟩⟩)

theorem zHD (N : Nat) {w : Bs} (p0 : QM) (zF : Option Addr) (zG : Nat) (zT : Sl w.R w.W zW zF zG p0.p.Tools) (zN : Option Addr) (zM : Nat) (QV : Sl w.R w.W zJ zN zM p0.p.Steps) (QH : Option Addr) (QI : Nat) (Kb : Sl w.R w.W JJ QH QI p0.tools) (QN : Option Addr) (QL : Nat) (bp0 : Nat) (p1 : zI) (r : (Int × Int × Int × Bool × Int × (List zZ))) (H : WQ N p0 p1 = some r) (hE : HF w w.W (LEn [bx bp0 #[iv p0.p.Unit, sL zF p0.p.Tools zG, sL zN p0.p.Steps zM, sL QH p0.tools QI, sL QN p0.image QL, bV p0.clear, iv p0.tool, iv p0.place.X, iv p0.place.Y, bV p0.placed, iv p0.off, iv p0.on] 77, ow QN QL 80 zS p0.image])) : Calls Tryz.prog 106 [pV bp0, .agg #[iv p1.X, iv p1.Y]].toArray w.W fun e W' => ∃ (w' : Bs) (u : (Option Addr × Nat)), w.Le w' ∧ e = .returned (iv r.1) ∧ (SlF u.1 r.2.2.2.2.2.length u.2) ∧ HF w' W' (LEn [bx bp0 #[iv p0.p.Unit, sL zF p0.p.Tools zG, sL zN p0.p.Steps zM, sL QH p0.tools QI, sL u.1 r.2.2.2.2.2 u.2, bV p0.clear, iv p0.tool, iv r.2.1, iv r.2.2.1, bV r.2.2.2.1, iv p0.off, iv r.2.2.2.2.1] 77, ow u.1 u.2 80 zS r.2.2.2.2.2]) := by
 unfold WQ at H
 have zAB := (hE.sl (k := 1) rfl).form
 have leB := Bs.Le.refl w
 refine Tr.enter (n := 65) Tryz.func106 rfl rfl rfl hE (Tr.sr (Tr.box 2 (cs := [iv p1.X, iv p1.Y]) (wn rfl) rfl rfl rfl fun zw => (Tr.asg rfl rfl (Tr.nil (Tr.zA (Tr.seq (Tr.sr (Tr.mv rfl rfl (Tr.va rfl (fun _ _ a c => zl (a.ev rfl)) (Tr.va rfl (fun _ _ a c => zB zLG (a.ev rfl)) (Tr.va rfl (fun _ _ a c => zD zm (a.ev rfl) (rdb c (vs := [iv p0.p.Unit, sL zF p0.p.Tools zG, sL zN p0.p.Steps zM, sL QH p0.tools QI, sL QN p0.image QL, bV p0.clear, iv p0.tool, iv p0.place.X, iv p0.place.Y, bV p0.placed, iv p0.off, iv p0.on]) (k := 0) rfl 6) rfl) (Tr.va rfl (fun _ _ a c => QD (a.ev rfl) (a.ev rfl)) (Tr.mv rfl rfl (Tr.Vw 6 [(0, pV bp0), (3, pV zw), (18, bV ((decide (p0.tool < 0)) || (!p0.placed)))] [(0, bx bp0 #[iv p0.p.Unit, sL zF p0.p.Tools zG, sL zN p0.p.Steps zM, sL QH p0.tools QI, sL QN p0.image QL, bV p0.clear, iv p0.tool, iv p0.place.X, iv p0.place.Y, bV p0.placed, iv p0.off, iv p0.on] 77), (1, ow QN QL 80 zS p0.image), (2, bx zw #[iv p1.X, iv p1.Y] 27)] ?_ ?_))))))))))))))
 ·cases zms : (decide (p0.tool < 0))
  ·exact Tr.val (wg rfl rfl rfl) rfl (fun _ _ a c => run_move (a.ev rfl)) (Tr.val (wg rfl rfl rfl) rfl (fun _ _ a c => zl (a.ev rfl)) (Tr.val (wg rfl rfl rfl) rfl (fun _ _ a c => zB zLF (a.ev rfl)) (Tr.val (wg rfl rfl rfl) rfl (fun _ _ a c => zD zJr (a.ev rfl) (rdb c (vs := [iv p0.p.Unit, sL zF p0.p.Tools zG, sL zN p0.p.Steps zM, sL QH p0.tools QI, sL QN p0.image QL, bV p0.clear, iv p0.tool, iv p0.place.X, iv p0.place.Y, bV p0.placed, iv p0.off, iv p0.on]) (k := 0) rfl 9) rfl) (Tr.val (wg rfl rfl rfl) rfl (fun _ _ a c => KD (a.ev rfl)) (Tr.va rfl (fun _ _ a c => zy (a.ev rfl) (a.ev rfl)) (Tr.nil (Tr.JD (.cons rfl (.cons rfl (.cons rfl .nil))) (.cons rfl (.cons rfl (.cons rfl .nil))))))))))
  ·exact Tr.pass rfl rfl rfl rfl rfl (by decide) (Tr.pass rfl rfl rfl rfl rfl (by decide) (Tr.pass rfl rfl rfl rfl rfl (by decide) (Tr.pass rfl rfl rfl rfl rfl (by decide) (Tr.pass rfl rfl rfl rfl rfl (by decide) (Tr.va rfl (fun _ _ a c => zx (a.ev rfl) (a.ev rfl)) (Tr.nil (Tr.JD (.cons rfl (.cons rfl (.cons rfl .nil))) (.cons rfl (.cons rfl (.cons rfl .nil))))))))))
 ·show Tr _ _ (LF [(0, pV bp0), (3, pV zw), (18, bV ((decide (p0.tool < 0)) || (!p0.placed)))]) (LE [(0, bx bp0 #[iv p0.p.Unit, sL zF p0.p.Tools zG, sL zN p0.p.Steps zM, sL QH p0.tools QI, sL QN p0.image QL, bV p0.clear, iv p0.tool, iv p0.place.X, iv p0.place.Y, bV p0.placed, iv p0.off, iv p0.on] 77), (1, ow QN QL 80 zS p0.image), (2, bx zw #[iv p1.X, iv p1.Y] 27)]) _
  refine Tr.nil (Tr.zA (Tr.cond rfl H (fun H => ?_) (fun H => ?_)))
  ·refine Tr.sr (Tr.asg rfl rfl (Tr.nil (Tr.zA (Tr.ret (Tr.zb ?_)))))
   obtain rfl := oI H
   exact Tr.out (m := [iv 11]) [] (zU rfl zV) (fun W hW => ⟨w, (QN, QL), leB, rfl, zAB, hW.pick (ks := [0, 1]) (by decide) (zQ rfl (zQ rfl za))⟩)
  ·refine Tr.skip (Tr.zA (Tr.seq (Tr.seq (Tr.draw (by kernel_rfl) (by kernel_rfl) (Tq.va rfl (fun _ _ a c => zB Qy (a.ev rfl)) (Tq.va rfl (fun _ _ a c => zD zm (a.ev rfl) (rdb c (vs := [iv p1.X, iv p1.Y]) (k := 2) rfl 0) rfl) (Tq.mv rfl rfl (Tq.va rfl (fun _ _ a c => zl (a.ev rfl)) (Tq.va rfl (fun _ _ a c => zB zHe (a.ev rfl)) (Tq.va rfl (fun _ _ a c => zB Qy (a.ev rfl)) (Tq.va rfl (fun _ _ a c => zD zm (a.ev rfl) (rdb c (vs := [iv p0.p.Unit, sL zF p0.p.Tools zG, sL zN p0.p.Steps zM, sL QH p0.tools QI, sL QN p0.image QL, bV p0.clear, iv p0.tool, iv p0.place.X, iv p0.place.Y, bV p0.placed, iv p0.off, iv p0.on]) (k := 0) rfl 7) rfl) ?_)))))))))))
   refine Tq.va rfl (fun _ _ a c => Jm (a.ev rfl) (a.ev rfl)) (Tq.mv rfl rfl (Tq.mid 9 [(0, pV bp0), (3, pV zw), (36, bV ((p1.X != p0.place.X) && (p1.Y != p0.place.Y)))] ?_ ?_))
   ·cases zms : (p1.X != p0.place.X)
    ·refine Tq.pass rfl rfl rfl rfl rfl (by decide) (Tq.pass rfl rfl rfl rfl rfl (by decide) (Tq.pass rfl rfl rfl rfl rfl (by decide) (Tq.pass rfl rfl rfl rfl rfl (by decide) (Tq.pass rfl rfl rfl rfl rfl (by decide) (Tq.pass rfl rfl rfl rfl rfl (by decide) (Tq.pass rfl rfl rfl rfl rfl (by decide) ?_))))))
     exact Tq.pass rfl rfl rfl rfl rfl (by decide) (Tq.va rfl (fun _ _ a c => zy (a.ev rfl) (a.ev rfl)) (Tq.fin (.cons rfl (.cons rfl (.cons rfl .nil)))))
    ·refine Tq.val (wg rfl rfl rfl) rfl (fun _ _ a c => zB Qx (a.ev rfl)) (Tq.val (wg rfl rfl rfl) rfl (fun _ _ a c => zD zm (a.ev rfl) (rdb c (vs := [iv p1.X, iv p1.Y]) (k := 2) rfl 1) rfl) (Tq.val (wg rfl rfl rfl) rfl (fun _ _ a c => run_move (a.ev rfl)) (Tq.val (wg rfl rfl rfl) rfl (fun _ _ a c => zl (a.ev rfl)) (Tq.val (wg rfl rfl rfl) rfl (fun _ _ a c => zB zHe (a.ev rfl)) (Tq.val (wg rfl rfl rfl) rfl (fun _ _ a c => zB Qx (a.ev rfl)) (Tq.val (wg rfl rfl rfl) rfl (fun _ _ a c => zD zm (a.ev rfl) (rdb c (vs := [iv p0.p.Unit, sL zF p0.p.Tools zG, sL zN p0.p.Steps zM, sL QH p0.tools QI, sL QN p0.image QL, bV p0.clear, iv p0.tool, iv p0.place.X, iv p0.place.Y, bV p0.placed, iv p0.off, iv p0.on]) (k := 0) rfl 8) rfl) ?_))))))
     exact Tq.val (wg rfl rfl rfl) rfl (fun _ _ a c => Jm (a.ev rfl) (a.ev rfl)) (Tq.va rfl (fun _ _ a c => zx (a.ev rfl) (a.ev rfl)) (Tq.fin (.cons rfl (.cons rfl (.cons rfl .nil)))))
   ·refine Tq.nil (Tr.zA (Tr.cond rfl H (fun H => ?_) (fun H => ?_)))
    ·refine Tr.sr (Tr.asg rfl rfl (Tr.nil (Tr.zA (Tr.ret (Tr.zb ?_)))))
     obtain rfl := oI H
     exact Tr.out (m := [iv 3]) [] (zU rfl zV) (fun W hW => ⟨w, (QN, QL), leB, rfl, zAB, hW.pick (ks := [0, 1]) (by decide) (zQ rfl (zQ rfl za))⟩)
    ·refine Tr.skip (Tr.zA (Tr.sr (Tr.mv rfl rfl (Tr.va rfl (fun _ _ a c => zl (a.ev rfl)) (Tr.va rfl (fun _ _ a c => zB zHe (a.ev rfl)) (Tr.va rfl (fun _ _ a c => zX (cs := [iv p0.place.X, iv p0.place.Y]) Kk JG (a.ev rfl) (zO.take (rdb c (vs := [iv p0.p.Unit, sL zF p0.p.Tools zG, sL zN p0.p.Steps zM, sL QH p0.tools QI, sL QN p0.image QL, bV p0.clear, iv p0.tool, iv p0.place.X, iv p0.place.Y, bV p0.placed, iv p0.off, iv p0.on]) (k := 0) rfl 7) 2) rfl) (Tr.alloc 3 (wn rfl) rfl zF7 fun Qw => (Tr.store 3 (cs := [iv p0.place.X, iv p0.place.Y]) [iv p0.place.X, iv p0.place.Y] (wn rfl) rfl rfl rfl rfl JG rfl rfl rfl (Tr.nil (Tr.zA (Tr.seq (Tr.seq (Tr.Vm 5 (by kernel_rfl) (by kernel_rfl) (Tq.mv rfl rfl (Tq.va rfl (fun _ _ a c => zX (cs := [iv p1.X, iv p1.Y]) Kk JG (a.ev rfl) (zO.take (rdb c (vs := [iv p1.X, iv p1.Y]) (k := 2) rfl 0) 2) rfl) ?_)))))))))))))))
     refine Tq.mv rfl rfl (Tq.va rfl (fun _ _ a c => zl (a.ev rfl)) (Tq.va rfl (fun _ _ a c => zB zdA (a.ev rfl)) (Tq.nil ?_)))
     obtain ⟨y102, hy102, H⟩ := bnd H
     refine Tr.VB [0] [bx bp0 #[iv p0.p.Unit, sL zF p0.p.Tools zG, sL zN p0.p.Steps zM, sL QH p0.tools QI, sL QN p0.image QL, bV p0.clear, iv p0.tool, iv p0.place.X, iv p0.place.Y, bV p0.placed, iv p0.off, iv p0.on] 77] (U := Unit) (fun u => (iv y102.1)) (fun u => True) (fun u => [bx bp0 #[iv p0.p.Unit, sL zF p0.p.Tools zG, sL zN p0.p.Steps zM, sL QH p0.tools QI, sL QN p0.image QL, bV p0.clear, iv p0.tool, iv y102.2.1, iv y102.2.2.1, bV y102.2.2.2.1, iv p0.off, iv y102.2.2.2.2] 77]) rfl (zQ rfl za) (fun _ => rfl) (wn rfl) rfl Tryz.call104 (zH rfl (zH rfl (zH rfl zP))) (fun W hW hp hE => zEm p0 zF zG (zT.ext (hW.JE hp)) zN zM (QV.ext (hW.JE hp)) QH QI (Kb.ext (hW.JE hp)) QN QL (hW.slS (k := 1) rfl hp rfl) bp0 p1 y102 hy102 hE) ?_
     intro u hu
     show Tr _ _ (uf _ 46 (iv y102.1)) (up _ 0 (bx bp0 #[iv p0.p.Unit, sL zF p0.p.Tools zG, sL zN p0.p.Steps zM, sL QH p0.tools QI, sL QN p0.image QL, bV p0.clear, iv p0.tool, iv y102.2.1, iv y102.2.2.1, bV y102.2.2.2.1, iv p0.off, iv y102.2.2.2.2] 77)) _
     refine Tr.asg rfl rfl (Tr.nil (Tr.zA (Tr.sr (Tr.mv rfl rfl (Tr.va rfl (fun _ _ a c => Jm (a.ev rfl) (a.ev rfl)) (Tr.nil (Tr.zA (Tr.cond rfl H (fun H => ?_) (fun H => ?_)))))))))
     ·refine Tr.sr (Tr.mv rfl rfl (Tr.asg rfl rfl (Tr.nil (Tr.zA (Tr.ret (Tr.zb ?_))))))
      obtain rfl := oI H
      exact Tr.out (m := [iv y102.1]) [] (zU rfl zV) (fun W hW => ⟨w, (QN, QL), leB, rfl, zAB, hW.pick (ks := [0, 1]) (by decide) (zQ rfl (zQ rfl za))⟩)
     ·refine Tr.skip (Tr.zA (Tr.seq (Tr.zJy 14 [] [] (by kernel_rfl) (by kernel_rfl) fun zop zl8 znc => (Dr.quiet 0 [(50, pV bp0)] (by kernel_rfl) rfl rfl (by kernel_rfl) ?_ rfl rfl ?_))))
      ·exact Tq.mv rfl rfl (Tq.fin (.cons rfl .nil))
      refine Dr.quiet 1 [(51, pV bp0)] (by kernel_rfl) rfl rfl (by kernel_rfl) ?_ rfl rfl ?_
      ·exact Tq.mv rfl rfl (Tq.fin (.cons rfl .nil))
      refine Dr.quiet 2 [(52, pV bp0)] (by kernel_rfl) rfl rfl (by kernel_rfl) ?_ rfl rfl ?_
      ·exact Tq.va rfl (fun _ _ a c => zl (a.ev rfl)) (Tq.fin (.cons rfl .nil))
      refine Dr.quiet 3 [(53, .pointer (some ⟨bp0, 3, none⟩))] (by kernel_rfl) rfl rfl (by kernel_rfl) ?_ rfl rfl ?_
      ·exact Tq.va rfl (fun _ _ a c => zB zNY (a.ev rfl)) (Tq.fin (.cons rfl .nil))
      refine Dr.quiet 4 [(54, sL QH p0.tools QI)] (by kernel_rfl) rfl rfl (by kernel_rfl) ?_ rfl rfl ?_
      ·exact Tq.va rfl (fun _ _ a c => zD zbX (a.ev rfl) (rdb c (vs := [iv p0.p.Unit, sL zF p0.p.Tools zG, sL zN p0.p.Steps zM, sL QH p0.tools QI, sL QN p0.image QL, bV p0.clear, iv p0.tool, iv y102.2.1, iv y102.2.2.1, bV y102.2.2.2.1, iv p0.off, iv y102.2.2.2.2]) (k := 0) rfl 3) rfl) (Tq.fin (.cons rfl .nil))
      refine Dr.quiet 5 [(55, pV bp0)] (by kernel_rfl) rfl rfl (by kernel_rfl) ?_ rfl rfl ?_
      ·exact Tq.mv rfl rfl (Tq.fin (.cons rfl .nil))
      refine Dr.quiet 6 [(56, pV bp0)] (by kernel_rfl) rfl rfl (by kernel_rfl) ?_ rfl rfl ?_
      ·exact Tq.va rfl (fun _ _ a c => zl (a.ev rfl)) (Tq.fin (.cons rfl .nil))
      refine Dr.quiet 7 [(57, .pointer (some ⟨bp0, 6, none⟩))] (by kernel_rfl) rfl rfl (by kernel_rfl) ?_ rfl rfl ?_
      ·exact Tq.va rfl (fun _ _ a c => zB zLG (a.ev rfl)) (Tq.fin (.cons rfl .nil))
      refine Dr.quiet 8 [(58, iv p0.tool)] (by kernel_rfl) rfl rfl (by kernel_rfl) ?_ rfl rfl ?_
      ·exact Tq.va rfl (fun _ _ a c => zD zm (a.ev rfl) (rdb c (vs := [iv p0.p.Unit, sL zF p0.p.Tools zG, sL zN p0.p.Steps zM, sL QH p0.tools QI, sL QN p0.image QL, bV p0.clear, iv p0.tool, iv y102.2.1, iv y102.2.2.1, bV y102.2.2.2.1, iv p0.off, iv y102.2.2.2.2]) (k := 0) rfl 6) rfl) (Tq.fin (.cons rfl .nil))
      obtain ⟨x105, zZy, H⟩ := bnd H
      obtain ⟨zVJ, zVI, zVH⟩ := zq zZy
      obtain ⟨ze2, hRu106, zRh, hcu106⟩ := (Kb).el zVH
      obtain ⟨zNx, zNl⟩ := ze2
      have zJR := zRh
      replace zJR : Sl w.R w.W zS zNx zNl x105 := zJR
      refine Dr.quiet 9 [(59, .pointer (some ⟨adB QH, adO QH + (p0.tool).toNat * 1, none⟩))] (by kernel_rfl) rfl rfl (by kernel_rfl) ?_ rfl rfl ?_
      ·exact Tq.va rfl (fun _ _ a c => zL za2 (a.ev rfl) Kb.form (a.ev rfl) zVJ zVI) (Tq.fin (.cons rfl .nil))
      refine Dr.quiet 10 [(60, sL zNx x105 zNl)] (by kernel_rfl) rfl rfl (by kernel_rfl) ?_ rfl rfl ?_
      ·exact Tq.va rfl (fun _ _ a c => zD zPO (a.ev rfl) (rdR hRu106 hcu106 c) rfl) (Tq.fin (.cons rfl .nil))
      refine Dr.quiet 11 [(61, .agg #[iv p0.place.X, iv p0.place.Y])] (by kernel_rfl) rfl rfl (by kernel_rfl) ?_ rfl rfl ?_
      ·exact Tq.va rfl (fun _ _ a c => zX (cs := [iv p0.place.X, iv p0.place.Y]) Kk JG (a.ev rfl) (zO.take (rdb c (vs := [iv p0.place.X, iv p0.place.Y]) (k := 3) rfl 0) 2) rfl) (Tq.fin (.cons rfl .nil))
      refine Dr.quiet 12 [(62, .agg #[iv p1.X, iv p1.Y])] (by kernel_rfl) rfl rfl (by kernel_rfl) ?_ rfl rfl ?_
      ·exact Tq.va rfl (fun _ _ a c => zX (cs := [iv p1.X, iv p1.Y]) Kk JG (a.ev rfl) (zO.take (rdb c (vs := [iv p1.X, iv p1.Y]) (k := 2) rfl 0) 2) rfl) (Tq.fin (.cons rfl .nil))
      obtain ⟨zIP, zTa, H⟩ := bnd H
      refine Dr.one 13 (by kernel_rfl) (St.VC 13 [4] [emp] (U := (Option Addr × Nat)) (fun u => (sL u.1 zIP u.2)) (fun O W u => SlF u.1 zIP.length u.2) (fun u => [ow u.1 u.2 80 zS zIP]) rfl (zQ rfl za) (fun _ => rfl) (zGE rfl) rfl (wn rfl) rfl Tryz.call126 (zH rfl (zH rfl (zH rfl zP))) (fun W hW hp hE => zIJ N x105 zNx zNl (zJR.ext (hW.JE hp)) p0.place p1 zIP zTa hE) ?_)
      intro w u zTG hu zoX
      obtain ⟨zXV, zWw⟩ := u
      have gy107_0 := hu
      replace zT := zT.leR zTG
      replace QV := QV.leR zTG
      replace Kb := Kb.leR zTG
      replace hRu106 := zTG.r _ hRu106
      replace leB := leB.trans zTG
      have zml : SlF zXV zIP.length zWw := gy107_0
      dsimp only
      refine Dr.tail (by kernel_rfl) (Tr.freeze 4 rfl fun w zOY zZg => ?_)
      replace zT := zT.leR zOY
      replace QV := QV.leR zOY
      replace Kb := Kb.leR zOY
      replace hRu106 := zOY.r _ hRu106
      replace leB := leB.trans zOY
      obtain ⟨zJk, zZp, H⟩ := bnd H
      refine Tr.VC [0, 1] [bx bp0 #[iv p0.p.Unit, sL zF p0.p.Tools zG, sL zN p0.p.Steps zM, sL QH p0.tools QI, sL QN p0.image QL, bV p0.clear, iv p0.tool, iv y102.2.1, iv y102.2.2.1, bV y102.2.2.2.1, iv p0.off, iv y102.2.2.2.2] 77, ow QN QL 80 zS p0.image] (U := (Option Addr × Nat)) (fun u => (iv zJk.1)) (fun O W u => SlF u.1 zJk.2.length u.2) (fun u => [bx bp0 #[iv p0.p.Unit, sL zF p0.p.Tools zG, sL zN p0.p.Steps zM, sL QH p0.tools QI, sL u.1 zJk.2 u.2, bV p0.clear, iv p0.tool, iv y102.2.1, iv y102.2.2.1, bV y102.2.2.2.1, iv p0.off, iv y102.2.2.2.2] 77, ow u.1 u.2 80 zS zJk.2]) rfl (zQ rfl (zQ rfl za)) (fun _ => rfl) (wn rfl) rfl Tryz.call125 (zH rfl (zH rfl zP)) (fun W hW hp hE => zBO N (QM.mk p0.p p0.tools p0.image p0.clear p0.tool (zI.mk y102.2.1 y102.2.2.1) y102.2.2.2.1 p0.off y102.2.2.2.2) zF zG (zT.ext (hW.JE hp)) zN zM (QV.ext (hW.JE hp)) QH QI (Kb.ext (hW.JE hp)) QN QL bp0 zIP zXV zWw (zZg.zAS (hW.JE hp)) zJk zZp hE) ?_
      intro w u zZP hu
      obtain ⟨zXT, zWu⟩ := u
      have gy111_0 := hu
      replace hRu106 := zZP.r _ hRu106
      replace zZg := zZg.le zZP
      replace leB := leB.trans zZP
      have zac : SlF zXT zJk.2.length zWu := gy111_0 --@phi
      dsimp only
      refine Tr.asg rfl rfl (Tr.nil (Tr.zA (Tr.ret ?_)))
      obtain rfl := oI H
      exact Tr.out (m := [iv zJk.1]) [] (zU rfl zV) (fun W hW => ⟨w, (zXT, zWu), leB, rfl, zac, hW.pick (ks := [0, 1]) (by decide) (zQ rfl (zQ rfl za))⟩)

theorem zJs {w : Bs} (p0 : zK) (p1 : zK) (r : Int) (H : zAM p0 p1 = some r) (hE : HF w w.W E0) : Calls Tryz.prog 138 [.agg #[iv p0.X0, iv p0.Y0, iv p0.X1, iv p0.Y1], .agg #[iv p1.X0, iv p1.Y0, iv p1.X1, iv p1.Y1]].toArray w.W fun e W' => e = .returned (iv r) ∧ HF w W' E0 := by
 unfold zAM at H
 have leB := Bs.Le.refl w
 refine Tr.enter (n := 10) Tryz.func138 rfl rfl rfl hE (Tr.sr (Tr.box 1 (cs := [iv p0.X0, iv p0.Y0, iv p0.X1, iv p0.Y1]) (wn rfl) rfl rfl rfl fun zw => (Tr.box 2 (cs := [iv p1.X0, iv p1.Y0, iv p1.X1, iv p1.Y1]) (wn rfl) rfl rfl rfl fun Qw => (Tr.asg rfl rfl (Tr.nil (Tr.zA (Tr.sr (Tr.va rfl (fun _ _ a c => zB WX (a.ev rfl)) (Tr.va rfl (fun _ _ a c => zD zm (a.ev rfl) (rdb c (vs := [iv p0.X0, iv p0.Y0, iv p0.X1, iv p0.Y1]) (k := 1) rfl 0) rfl) (Tr.va rfl (fun _ _ a c => zB WX (a.ev rfl)) (Tr.va rfl (fun _ _ a c => zD zm (a.ev rfl) (rdb c (vs := [iv p1.X0, iv p1.Y0, iv p1.X1, iv p1.Y1]) (k := 2) rfl 0) rfl) ?_)))))))))))
 refine Tr.va rfl (fun _ _ a c => zAA (a.ev rfl) (a.ev rfl)) (Tr.asg rfl rfl (Tr.nil (Tr.zA (Tr.ret ?_))))
 obtain rfl := oI H
 exact Tr.out (m := [iv (w64 (p0.X0 - p1.X0))]) [] (zU rfl zV) (fun W hW => ⟨rfl, hW.low leB⟩)

theorem zLg (N : Nat) {w : Bs} (p0 : (List (List zI))) (zF : Option Addr) (zG : Nat) (zT : Sl w.R w.W zO7 zF zG p0) (r : (List zZ)) (H : zCR N p0 = some r) (hE : HF w w.W (LEn [emp])) : Calls Tryz.prog 127 [sL zF p0 zG].toArray w.W fun e W' => ∃ (w' : Bs) (u : (Option Addr × Nat)), w.Le w' ∧ e = .returned (sL u.1 r u.2) ∧ (SlF u.1 r.length u.2) ∧ HF w' W' (LEn [ow u.1 u.2 80 zS r]) := by
 unfold zCR at H
 have leB := Bs.Le.refl w
 refine Tr.enter (n := 138) Tryz.func127 rfl rfl rfl hE (Tr.sr (Tr.asg rfl rfl (Tr.JI 1 80 zS ?_)))
 show Tr _ _ (uf _ 2 (sL none (([] : List zZ)) 0)) _ _
 refine Tr.nil (Tr.zA (Tr.sr (Tr.asg rfl rfl (Tr.JI 2 3 QR ?_))))
 show Tr _ _ (uf _ 3 (sL none (([] : List Int)) 0)) _ _
 refine Tr.nil (Tr.zA (Tr.sr (Tr.asg rfl rfl (Tr.JI 3 40 zR ?_))))
 show Tr _ _ (uf _ 4 (sL none (([] : List zK)) 0)) _ _
 refine Tr.nil (Tr.zA (Tr.seq (Tr.sr (Tr.mv rfl rfl (Tr.va rfl (fun _ _ a c => QF zey (a.ev rfl)) (Tr.mv rfl rfl (Tr.nil (Tr.zA (Tr.block (Tr.loop (σ := (List (List zI)) × Nat × (List Int) × (List zK) × (Option Addr) × Nat × (Option Addr) × Nat) (fun m w s => m = s.1.length + 1 ∧ s.1 = List.drop s.2.1 p0 ∧ s.2.1 ≤ p0.length ∧ Jt N s.1 s.2.1 s.2.2.1 s.2.2.2.1 = some r ∧ SlF s.2.2.2.2.1 s.2.2.1.length s.2.2.2.2.2.1 ∧ SlF s.2.2.2.2.2.2.1 s.2.2.2.1.length s.2.2.2.2.2.2.2) (fun s => [(3, sL s.2.2.2.2.1 s.2.2.1 s.2.2.2.2.2.1), (4, sL s.2.2.2.2.2.2.1 s.2.2.2.1 s.2.2.2.2.2.2.2), (16, sL zF p0 zG), (17, iv (p0.length : Int)), (18, iv (s.2.1 : Int))]) (fun s => [(2, ow s.2.2.2.2.1 s.2.2.2.2.2.1 3 QR s.2.2.1), (3, ow s.2.2.2.2.2.2.1 s.2.2.2.2.2.2.2 40 zR s.2.2.2.1)]) (p0.length + 1) (p0, 0, ([] : List Int), ([] : List zK), none, 0, none, 0) ⟨rfl, rfl, Nat.zero_le _, H, Kj, Kj⟩ (.cons rfl (.cons rfl (.cons rfl (.cons rfl (.cons rfl .nil))))) (.cons rfl (.cons rfl .nil)) (fun _ _ h => absurd h.1 (by simp)) ?_))))))))))
 intro w WU m s hs
 obtain ⟨Qu, iL3, zOb, zHa, zIL, zIH, zBs, zBr⟩ := s
 obtain ⟨zHd, zAC, hiL3, H, zWL, zQS⟩ := hs
 replace zAC : Qu = List.drop iL3 p0 := zAC
 replace H : Jt N Qu iL3 zOb zHa = some r := H
 replace zHd : m + 1 = Qu.length + 1 := zHd
 replace zT := zT.leR WU
 replace leB := leB.trans WU
 replace zWL : SlF zIL zOb.length zIH := zWL
 replace zQS : SlF zBs zHa.length zBr := zQS
 obtain rfl : m = Qu.length := by omega
 clear zHd
 dsimp only
 cases Qu with
 | nil =>
  rw [Jt.eq_1] at H
  refine Tr.sr (Tr.va rfl (fun _ _ a c => QD (a.ev rfl) (a.ev rfl)) (Tr.nil (Tr.zA (Tr.seq (Tr.Vy rfl (JA zAC) (Tr.exit (Tr.ze (Tr.ze (Tr.QK (Tr.zA (Tr.sr (Tr.mv rfl rfl ?_))))))))))))
  obtain ⟨zLx, zko, H⟩ := bnd H
  refine Tr.VB [2] [ow zIL zIH 3 QR zOb] (U := Unit) (fun u => (.tuple #[])) (fun u => zLx.length = zOb.length) (fun u => [ow zIL zIH 3 QR zLx]) rfl (zQ rfl za) (fun _ => rfl) (wn rfl) rfl Tryz.call51 (zH rfl zP) (fun W hW hp hE => zEi zOb zIL zIH zLx zko hE) ?_
  intro u hu
  have gky189_0 := hu
  have zMS : zLx.length = zOb.length := gky189_0 --@phi
  have zi8 : SlF zIL zLx.length zIH := by rw [zMS]; exact zWL
  show Tr _ _ (uf _ 66 (.tuple #[])) (up _ 2 (ow zIL zIH 3 QR zLx)) _
  refine Tr.sel (lf := [(3, sL zIL zLx zIH), (4, sL zBs zHa zBr), (16, sL zF p0 zG), (17, iv (p0.length : Int)), (18, iv (iL3 : Int)), (19, bV (decide ((iL3 : Int) < (p0.length : Int)))), (65, sL zIL zLx zIH), (66, (.tuple #[]))]) (le := [(2, ow zIL zIH 3 QR zLx), (3, ow zBs zBr 40 zR zHa)]) (.cons (Km rfl (by unfold sL; rw [zMS])) (.cons rfl (.cons rfl (.cons rfl (.cons rfl (.cons rfl (.cons (Km rfl (by unfold sL; rw [zMS])) (.cons rfl .nil)))))))) (.cons rfl (.cons rfl .nil)) (Tr.nil (Tr.zA (Tr.sr (Tr.mv rfl rfl ?_))))
  obtain ⟨zCW, zkn, H⟩ := bnd H
  refine Tr.VB [2] [ow zIL zIH 3 QR zLx] (U := (Option Addr × Nat)) (fun u => (sL u.1 zCW u.2)) (fun u => SlF u.1 zCW.length u.2) (fun u => [ow u.1 u.2 3 QR zCW]) rfl (zQ rfl za) (fun _ => rfl) (wn rfl) rfl Tryz.call52 (zH rfl zP) (fun W hW hp hE => zDM zLx zIL zIH zCW zkn hE) ?_
  intro u hu
  obtain ⟨zEO, zEI⟩ := u
  have gy191_0 := hu
  have zK9 : SlF zEO zCW.length zEI := gy191_0 --@phi
  dsimp only
  refine Tr.asg rfl rfl (Tr.nil (Tr.zA (Tr.sr (Tr.mv rfl rfl ?_))))
  obtain ⟨zCD, zkm, H⟩ := bnd H
  refine Tr.VB [3] [ow zBs zBr 40 zR zHa] (U := Unit) (fun u => (.tuple #[])) (fun u => zCD.length = zHa.length) (fun u => [ow zBs zBr 40 zR zCD]) rfl (zQ rfl za) (fun _ => rfl) (wn rfl) rfl Tryz.call49 (zH rfl (zH rfl zP)) (fun W hW hp hE => zAT zHa zBs zBr (fun z0 z1 => zAM z0 z1) 138 [] Tryz.call138 (fun w' he z0 z1 y hy => zJs z0 z1 y hy (HF.start _)) zCD zkm hE) ?_
  intro u hu
  have gky193_0 := hu
  have zMR : zCD.length = zHa.length := gky193_0 --@phi
  have zJV : SlF zBs zCD.length zBr := by rw [zMR]; exact zQS
  show Tr _ _ (uf _ 70 (.tuple #[])) (up _ 3 (ow zBs zBr 40 zR zCD)) _
  refine Tr.sel (lf := [(3, sL zEO zCW zEI), (4, sL zBs zCD zBr), (16, sL zF p0 zG), (17, iv (p0.length : Int)), (18, iv (iL3 : Int)), (19, bV (decide ((iL3 : Int) < (p0.length : Int)))), (66, (.tuple #[])), (68, sL zEO zCW zEI), (69, sL zBs zCD zBr), (70, (.tuple #[]))]) (le := [(2, ow zEO zEI 3 QR zCW), (3, ow zBs zBr 40 zR zCD)]) (.cons rfl (.cons (Km rfl (by unfold sL; rw [zMR])) (.cons rfl (.cons rfl (.cons rfl (.cons rfl (.cons rfl (.cons rfl (.cons (Km rfl (by unfold sL; rw [zMR])) (.cons rfl .nil)))))))))) (.cons rfl (.cons rfl .nil)) (Tr.nil (Tr.zA (Tr.sr (Tr.asg rfl rfl (Tr.JI 28 80 zS ?_)))))
  show Tr _ _ (uf _ 10 (sL none (([] : List zZ)) 0)) _ _
  refine Tr.nil (Tr.zA (Tr.seq (Tr.sr (Tr.asg rfl rfl (Tr.nil (Tr.zA (Tr.block (Tr.loop (σ := (List zZ) × Int × (Option Addr) × Nat) (fun m w s => Js zCW zCD m s.1 s.2.1 = some r ∧ SlF s.2.2.1 s.1.length s.2.2.2) (fun s => [(3, sL zEO zCW zEI), (4, sL zBs zCD zBr), (10, sL s.2.2.1 s.1 s.2.2.2), (11, iv s.2.1)]) (fun s => [(2, ow zEO zEI 3 QR zCW), (3, ow zBs zBr 40 zR zCD), (28, ow s.2.2.1 s.2.2.2 80 zS s.1)]) N (([] : List zZ), 0, none, 0) ⟨H, Kj⟩ (.cons rfl (.cons rfl (.cons rfl (.cons rfl .nil)))) (.cons rfl (.cons rfl (.cons rfl .nil))) (fun _ _ h => zAg (h.1)) ?_))))))))
  intro w zNK mL6 s hs
  obtain ⟨zHY, zHJ, zLv, zLX⟩ := s
  obtain ⟨H, zZ9⟩ := hs
  replace H : Js zCW zCD (mL6 + 1) zHY zHJ = some r := H
  replace leB := leB.trans zNK
  replace zZ9 : SlF zLv zHY.length zLX := zZ9
  rw [Js.eq_2] at H
  dsimp only
  refine Tr.seq (Tr.sr (Tr.mv rfl rfl (Tr.va rfl (fun _ _ a c => zo (a.ev rfl) (a.ev rfl)) (Tr.mv rfl rfl (Tr.va rfl (fun _ _ a c => QF zCe (a.ev rfl)) (Tr.va rfl (fun _ _ a c => QD (a.ev rfl) (a.ev rfl)) (Tr.nil (Tr.zA (Tr.cond rfl H (fun H => ?_) (fun H => ?_))))))))))
  ·refine Tr.skip (Tr.zA (Tr.seq (Tr.block (Tr.sr (Tr.asg rfl rfl (Tr.JI 43 3 QR ?_))))))
   show Tr _ _ (uf _ 12 (sL none (([] : List Int)) 0)) _ _
   refine Tr.nil (Tr.zA (Tr.seq (Tr.sr (Tr.mv rfl rfl (Tr.va rfl (fun _ _ a c => QF zA7 (a.ev rfl)) (Tr.mv rfl rfl (Tr.nil (Tr.zA (Tr.block (Tr.loop (σ := (List zK) × Nat × (List Int) × (Option Addr) × Nat) (fun m w s => m = s.1.length + 1 ∧ s.1 = List.drop s.2.1 zCD ∧ s.2.1 ≤ zCD.length ∧ Jr zCW zHY zHJ (Js zCW zCD mL6) s.1 s.2.1 s.2.2.1 = some r ∧ SlF s.2.2.2.1 s.2.2.1.length s.2.2.2.2) (fun s => [(3, sL zEO zCW zEI), (4, sL zBs zCD zBr), (10, sL zLv zHY zLX), (11, iv zHJ), (12, sL s.2.2.2.1 s.2.2.1 s.2.2.2.2), (78, sL zBs zCD zBr), (79, iv (zCD.length : Int)), (80, iv (s.2.1 : Int))]) (fun s => [(2, ow zEO zEI 3 QR zCW), (3, ow zBs zBr 40 zR zCD), (28, ow zLv zLX 80 zS zHY), (43, ow s.2.2.2.1 s.2.2.2.2 3 QR s.2.2.1)]) (zCD.length + 1) (zCD, 0, ([] : List Int), none, 0) ⟨rfl, rfl, Nat.zero_le _, H, Kj⟩ (.cons rfl (.cons rfl (.cons rfl (.cons rfl (.cons rfl (.cons rfl (.cons rfl (.cons rfl .nil)))))))) (.cons rfl (.cons rfl (.cons rfl (.cons rfl .nil)))) (fun _ _ h => absurd h.1 (by simp)) ?_))))))))))
   intro w zKG m s hs
   obtain ⟨zD2, iL7, zGd, zNE, zM9⟩ := s
   obtain ⟨ziP, zKK, hiL7, H, zQQ⟩ := hs
   replace zKK : zD2 = List.drop iL7 zCD := zKK
   replace H : Jr zCW zHY zHJ (Js zCW zCD mL6) zD2 iL7 zGd = some r := H
   replace ziP : m + 1 = zD2.length + 1 := ziP
   replace zNK := zNK.trans zKG
   replace zQQ : SlF zNE zGd.length zM9 := zQQ
   obtain rfl : m = zD2.length := by omega
   clear ziP
   dsimp only
   cases zD2 with
   | nil =>
    rw [Jr.eq_1] at H
    refine Tr.sr (Tr.va rfl (fun _ _ a c => QD (a.ev rfl) (a.ev rfl)) (Tr.nil (Tr.zA (Tr.seq (Tr.Vy rfl (JA zKK) (Tr.exit (Tr.ze (Tr.ze (Tr.QK (Tr.zA (Tr.Vm 12 (by kernel_rfl) (by kernel_rfl) (Tq.mv rfl rfl (Tq.mv rfl rfl (Tq.mv rfl rfl ?_))))))))))))))
    obtain ⟨zYa, zlC, H⟩ := bnd H
    obtain ⟨zgA, zf9, zf8⟩ := zq zlC
    refine Tq.va rfl (fun _ _ a c => zL zAr (a.ev rfl) zK9 (a.ev rfl) zgA zf9) (Tq.va rfl (fun _ _ a c => zD zm (a.ev rfl) (rdo WF (k := 2) c rfl zf8) rfl) (Tq.mv rfl rfl (Tq.mv rfl rfl (Tq.va rfl (fun _ _ a c => zo (a.ev rfl) (a.ev rfl)) ?_))))
    obtain ⟨zYZ, zlB, H⟩ := bnd H
    obtain ⟨zf7, zf6, zf5⟩ := zq zlB
    refine Tq.va rfl (fun _ _ a c => zL zAr (a.ev rfl) zK9 (a.ev rfl) zf7 zf6) (Tq.va rfl (fun _ _ a c => zD zm (a.ev rfl) (rdo WF (k := 2) c rfl zf5) rfl) (Tq.mv rfl rfl (Tq.build (vs := [(0, iv zYa), (1, iv zYZ), (2, sL zNE zGd zM9)]) (cs := [iv zYa, iv zYZ, sL zNE zGd zM9]) (wn rfl) rfl (zi rfl (zi rfl (zi rfl QW))) (by kernel_rfl) (Tq.nil (Tr.freeze 43 rfl fun w zjt zZY => ?_)))))
    replace zNK := zNK.trans zjt
    obtain ⟨zSQ, zkL, H⟩ := bnd H
    refine Tr.VC [28] [ow zLv zLX 80 zS zHY] (U := (Option Addr × Nat)) (fun u => (sL u.1 zSQ u.2)) (fun O W u => SlF u.1 zSQ.length u.2) (fun u => [ow u.1 u.2 80 zS zSQ]) rfl (zQ rfl za) (fun _ => rfl) (wn rfl) rfl Tryz.call55 (zH rfl (zH rfl zP)) (fun W hW hp hE => zCP zHY zLv zLX (zZ.mk zYa zYZ zGd) zNE zM9 (zZY.zAS (hW.JE hp)) zSQ zkL hE) ?_
    intro w u zd5 hu
    obtain ⟨zXH, zWi⟩ := u
    have gy334_0 := hu
    replace zZY := zZY.le zd5
    replace zNK := zNK.trans zd5
    have zaL : SlF zXH zSQ.length zWi := gy334_0 --@phi
    dsimp only
    exact Tr.asg rfl rfl (Tr.nil (Tr.zh (Tr.zA (Tr.region (Tr.mv rfl rfl (Tr.va rfl (fun _ _ a c => zo (a.ev rfl) (a.ev rfl)) (Tr.asg rfl rfl (Tr.nil (Tr.zf zNK (zSQ, (w64 (zHJ + 1)), zXH, zWi) ⟨H, zaL⟩ (.cons rfl (.cons rfl (.cons rfl (.cons rfl .nil)))) (.cons rfl (.cons rfl (.cons rfl .nil))))))))))))
   | cons xL7 zD2 =>
    rw [Jr.eq_2] at H
    refine Tr.sr (Tr.va rfl (fun _ _ a c => QD (a.ev rfl) (a.ev rfl)) (Tr.nil (Tr.zA (Tr.seq (Tr.Vx rfl (JU zKK) (Tr.skip (Tr.zA (Tr.seq (Tr.block (Tr.sr (Tr.va rfl (fun _ _ a c => zL zB5 (a.ev rfl) zJV (a.ev rfl) (Int.natCast_nonneg _) (QC zKK)) (Tr.va rfl (fun _ _ a c => zX (cs := [iv xL7.X0, iv xL7.Y0, iv xL7.X1, iv xL7.Y1]) zAu KM (a.ev rfl) (zO.take (rdo VP (k := 3) c rfl (KH zKK)) 4) rfl) (Tr.alloc 48 (wn rfl) rfl zDE fun znI => (Tr.store 48 (cs := [iv xL7.X0, iv xL7.Y0, iv xL7.X1, iv xL7.Y1]) [iv xL7.X0, iv xL7.Y0, iv xL7.X1, iv xL7.Y1] (wn rfl) rfl rfl rfl rfl KM rfl rfl rfl (Tr.nil (Tr.zA (Tr.seq (Tr.seq (Tr.draw (by kernel_rfl) (by kernel_rfl) ?_)))))))))))))))))))
    refine Tq.va rfl (fun _ _ a c => zB zAq (a.ev rfl)) (Tq.va rfl (fun _ _ a c => zD zm (a.ev rfl) (rdb c (vs := [iv xL7.X0, iv xL7.Y0, iv xL7.X1, iv xL7.Y1]) (k := 48) rfl 1) rfl) (Tq.mv rfl rfl (Tq.mv rfl rfl ?_)))
    obtain ⟨zXm, zZr, H⟩ := bnd H
    obtain ⟨zVB, zVA, zU9⟩ := zq zZr
    refine Tq.va rfl (fun _ _ a c => zL zAr (a.ev rfl) zK9 (a.ev rfl) zVB zVA) (Tq.va rfl (fun _ _ a c => zD zm (a.ev rfl) (rdo WF (k := 2) c rfl zU9) rfl) (Tq.va rfl (fun _ _ a c => VS (a.ev rfl) (a.ev rfl)) (Tq.mv rfl rfl ?_)))
    obtain ⟨zic, zQX, H⟩ := bnd H
    refine Tq.mid 8 [(3, sL zEO zCW zEI), (4, sL zBs zCD zBr), (10, sL zLv zHY zLX), (11, iv zHJ), (12, sL zNE zGd zM9), (14, pV znI), (78, sL zBs zCD zBr), (79, iv (zCD.length : Int)), (80, iv (iL7 : Int)), (99, bV zic)] ?_ ?_
    ·cases zTp : (decide (zXm < xL7.Y0))
     ·rw [zTp] at zQX
      rw [if_neg (by decide)] at zQX
      have H := zQX
      refine Tq.val (wg rfl rfl rfl) rfl (fun _ _ a c => zB zDe (a.ev rfl)) (Tq.val (wg rfl rfl rfl) rfl (fun _ _ a c => zD zm (a.ev rfl) (rdb c (vs := [iv xL7.X0, iv xL7.Y0, iv xL7.X1, iv xL7.Y1]) (k := 48) rfl 3) rfl) (Tq.val (wg rfl rfl rfl) rfl (fun _ _ a c => run_move (a.ev rfl)) (Tq.val (wg rfl rfl rfl) rfl (fun _ _ a c => run_move (a.ev rfl)) ?_)))
      obtain ⟨zjI, zlA, H⟩ := bnd H
      obtain ⟨zf4, zf3, zf2⟩ := zq zlA
      refine Tq.val (wg rfl rfl rfl) rfl (fun _ _ a c => zL zAr (a.ev rfl) zK9 (a.ev rfl) zf4 zf3) (Tq.val (wg rfl rfl rfl) rfl (fun _ _ a c => zD zm (a.ev rfl) (rdo WF (k := 2) c rfl zf2) rfl) (Tq.val (wg rfl rfl rfl) rfl (fun _ _ a c => zAX (a.ev rfl) (a.ev rfl)) (Tq.va rfl (fun _ _ a c => zy (a.ev rfl) (a.ev rfl)) ?_)))
      obtain rfl := oI H
      exact Tq.fin (.cons rfl (.cons rfl (.cons rfl (.cons rfl (.cons rfl (.cons rfl (.cons rfl (.cons rfl (.cons rfl (.cons rfl .nil))))))))))
     ·rw [zTp] at zQX
      rw [if_pos rfl] at zQX
      have H := zQX
      obtain rfl := oI H
      refine Tq.pass rfl rfl rfl rfl rfl (by decide) (Tq.pass rfl rfl rfl rfl rfl (by decide) (Tq.pass rfl rfl rfl rfl rfl (by decide) (Tq.pass rfl rfl rfl rfl rfl (by decide) (Tq.pass rfl rfl rfl rfl rfl (by decide) (Tq.pass rfl rfl rfl rfl rfl (by decide) (Tq.pass rfl rfl rfl rfl rfl (by decide) ?_))))))
      exact Tq.va rfl (fun _ _ a c => zx (a.ev rfl) (a.ev rfl)) (Tq.fin (.cons rfl (.cons rfl (.cons rfl (.cons rfl (.cons rfl (.cons rfl (.cons rfl (.cons rfl (.cons rfl (.cons rfl .nil)))))))))))
    ·refine Tq.nil (Tr.zA (Tr.cond rfl H (fun H => ?_) (fun H => ?_)))
     ·exact Tr.exit (Tr.ze (Tr.QK (Tr.zA (Tr.region (Tr.va rfl (fun _ _ a c => zo (a.ev rfl) (a.ev rfl)) (Tr.mv rfl rfl (Tr.nil (Tr.zf zKG (zD2, (iL7 + 1), zGd, zNE, zM9) ⟨rfl, Qe zKK, QC zKK, H, zQQ⟩ (.cons rfl (.cons rfl (.cons rfl (.cons rfl (.cons rfl (.cons rfl (.cons rfl (.cons (congrArg (fun z => some (Value.int .i64 z)) (Qd zKK zJV)) .nil)))))))) (.cons rfl (.cons rfl (.cons rfl (.cons rfl .nil))))))))))))
     ·refine Tr.skip (Tr.zA (Tr.sr (Tr.mv rfl rfl (Tr.va rfl (fun _ _ a c => QF zCe (a.ev rfl)) (Tr.asg rfl rfl (Tr.nil (Tr.zA (Tr.seq (Tr.draw (by kernel_rfl) (by kernel_rfl) (Tq.mv rfl rfl (Tq.va rfl (fun _ _ a c => VS (a.ev rfl) (a.ev rfl)) (Tq.mv rfl rfl ?_))))))))))))
      obtain ⟨zib, zQW, H⟩ := bnd H
      refine Tq.mid 9 [(3, sL zEO zCW zEI), (4, sL zBs zCD zBr), (10, sL zLv zHY zLX), (11, iv zHJ), (12, sL zNE zGd zM9), (14, pV znI), (15, iv (zGd.length : Int)), (78, sL zBs zCD zBr), (79, iv (zCD.length : Int)), (80, iv (iL7 : Int)), (113, bV zib)] ?_ ?_
      ·cases zTp : (decide (0 < (zGd.length : Int)))
       ·rw [zTp] at zQW
        rw [if_neg (by decide)] at zQW
        have H := zQW
        obtain rfl := oI H
        refine Tq.pass rfl rfl rfl rfl rfl (by decide) (Tq.pass rfl rfl rfl rfl rfl (by decide) (Tq.pass rfl rfl rfl rfl rfl (by decide) (Tq.pass rfl rfl rfl rfl rfl (by decide) (Tq.pass rfl rfl rfl rfl rfl (by decide) (Tq.pass rfl rfl rfl rfl rfl (by decide) (Tq.pass rfl rfl rfl rfl rfl (by decide) ?_))))))
        exact Tq.pass rfl rfl rfl rfl rfl (by decide) (Tq.va rfl (fun _ _ a c => zy (a.ev rfl) (a.ev rfl)) (Tq.fin (.cons rfl (.cons rfl (.cons rfl (.cons rfl (.cons rfl (.cons rfl (.cons rfl (.cons rfl (.cons rfl (.cons rfl (.cons rfl .nil)))))))))))))
       ·rw [zTp] at zQW
        rw [if_pos rfl] at zQW
        have H := zQW
        refine Tq.val (wg rfl rfl rfl) rfl (fun _ _ a c => run_move (a.ev rfl)) (Tq.val (wg rfl rfl rfl) rfl (fun _ _ a c => run_move (a.ev rfl)) (Tq.val (wg rfl rfl rfl) rfl (fun _ _ a c => zAA (a.ev rfl) (a.ev rfl)) ?_))
        obtain ⟨zjH, zk9, H⟩ := bnd H
        obtain ⟨zf1, zf0, zfz⟩ := zq zk9
        refine Tq.val (wg rfl rfl rfl) rfl (fun _ _ a c => zL zAr (a.ev rfl) zQQ (a.ev rfl) zf1 zf0) (Tq.val (wg rfl rfl rfl) rfl (fun _ _ a c => zD zm (a.ev rfl) (rdo WF (k := 43) c rfl zfz) rfl) (Tq.val (wg rfl rfl rfl) rfl (fun _ _ a c => zB WX (a.ev rfl)) (Tq.val (wg rfl rfl rfl) rfl (fun _ _ a c => zD zm (a.ev rfl) (rdb c (vs := [iv xL7.X0, iv xL7.Y0, iv xL7.X1, iv xL7.Y1]) (k := 48) rfl 0) rfl) (Tq.val (wg rfl rfl rfl) rfl (fun _ _ a c => Ql (a.ev rfl) (a.ev rfl)) (Tq.va rfl (fun _ _ a c => zx (a.ev rfl) (a.ev rfl)) ?_)))))
        obtain rfl := oI H
        exact Tq.fin (.cons rfl (.cons rfl (.cons rfl (.cons rfl (.cons rfl (.cons rfl (.cons rfl (.cons rfl (.cons rfl (.cons rfl (.cons rfl .nil)))))))))))
      ·refine Tq.nil (Tr.zA (Tr.cond rfl H (fun H => ?_) (fun H => ?_)))
       ·refine Tr.region (Tr.mv rfl rfl (Tr.mv rfl rfl (Tr.va rfl (fun _ _ a c => zAA (a.ev rfl) (a.ev rfl)) ?_)))
        obtain ⟨zfT, zZ8, H⟩ := bnd H
        exact Tr.va rfl (fun _ _ a c => zVu zAr (a.ev rfl) zQQ (a.ev rfl) zZ8) (Tr.asg rfl rfl (Tr.nil (Tr.zh (Tr.zA (Tr.region (Tr.va rfl (fun _ _ a c => zo (a.ev rfl) (a.ev rfl)) (Tr.mv rfl rfl (Tr.nil (Tr.zVr 43 zZ8 rfl (Tr.zf zKG (zD2, (iL7 + 1), zfT, zNE, zM9) ⟨rfl, Qe zKK, QC zKK, H, (zON zQQ zZ8)⟩ (.cons rfl (.cons rfl (.cons rfl (.cons rfl (.cons rfl (.cons rfl (.cons rfl (.cons (congrArg (fun z => some (Value.int .i64 z)) (Qd zKK zJV)) .nil)))))))) (.cons rfl (.cons rfl (.cons rfl (.cons rfl .nil))))))))))))))
       ·refine Tr.region (Tr.mv rfl rfl (Tr.va rfl (fun _ _ a c => zB WX (a.ev rfl)) (Tr.va rfl (fun _ _ a c => zD zm (a.ev rfl) (rdb c (vs := [iv xL7.X0, iv xL7.Y0, iv xL7.X1, iv xL7.Y1]) (k := 48) rfl 0) rfl) (Tr.buildSlice 49 (e := 3) (vs := [(0, iv xL7.X0)]) (cs := [iv xL7.X0]) (wn rfl) rfl (zi rfl QW) (by kernel_rfl) fun zo3 => ?_))))
        obtain ⟨zfS, zmE, H⟩ := bnd H
        exact Tr.append 43 (t := QR) (l := zGd) (l2 := [xL7.X0]) (wn rfl) rfl rfl rfl rfl (fun W hW => ⟨[[iv xL7.X0]], (.cons ⟨(), trivial, rfl⟩ .nil), rdb hW (vs := [iv xL7.X0]) (k := 49) rfl 0⟩) zCe zE8 zYK (by decide) zbI rfl zmE fun znP zm4 hAl346 => (Tr.asg rfl rfl (Tr.nil (Tr.zh (Tr.zA (Tr.region (Tr.va rfl (fun _ _ a c => zo (a.ev rfl) (a.ev rfl)) (Tr.mv rfl rfl (Tr.nil (Tr.zf zKG (zD2, (iL7 + 1), zfS, znP, zm4) ⟨rfl, Qe zKK, QC zKK, H, hAl346⟩ (.cons rfl (.cons rfl (.cons rfl (.cons rfl (.cons rfl (.cons rfl (.cons rfl (.cons (congrArg (fun z => some (Value.int .i64 z)) (Qd zKK zJV)) .nil)))))))) (.cons rfl (.cons rfl (.cons rfl (.cons rfl .nil)))))))))))))
  ·refine Tr.exit (Tr.ze (Tr.ze (Tr.QK (Tr.zA (Tr.sr (Tr.mv rfl rfl (Tr.asg rfl rfl (Tr.nil (Tr.zA (Tr.ret ?_))))))))))
   obtain rfl := oI H
   exact Tr.out (m := [sL zLv zHY zLX]) [] (zU rfl zV) (fun W hW => ⟨w, (zLv, zLX), leB, rfl, zZ9, hW.pick (ks := [28]) (by decide) (zQ rfl za)⟩)
 | cons xL3 Qu =>
  rw [Jt.eq_2] at H
  refine Tr.sr (Tr.va rfl (fun _ _ a c => QD (a.ev rfl) (a.ev rfl)) (Tr.nil (Tr.zA (Tr.seq (Tr.Vx rfl (JU zAC) (Tr.skip (Tr.zA (Tr.seq (Tr.block (Tr.sr ?_))))))))))
  obtain ⟨zn3, hRu347, zcX, hcu347⟩ := (zT).el (KH zAC)
  obtain ⟨zSL, zR4⟩ := zn3
  have zBw := zcX
  replace zBw : Sl w.R w.W zz zSL zR4 xL3 := zBw
  refine Tr.va rfl (fun _ _ a c => zL zij (a.ev rfl) zT.form (a.ev rfl) (Int.natCast_nonneg _) (QC zAC)) (Tr.va rfl (fun _ _ a c => zD zEf (a.ev rfl) (rdR hRu347 hcu347 c) rfl) (Tr.asg rfl rfl (Tr.nil (Tr.zA (Tr.sr (Tr.mv rfl rfl (Tr.va rfl (fun _ _ a c => QF zEy (a.ev rfl)) (Tr.mv rfl rfl (Tr.nil (Tr.zA (Tr.block (Tr.loop (σ := (List zI) × Nat × (List Int) × (List zK) × (Option Addr) × Nat × (Option Addr) × Nat) (fun m w s => m = s.1.length + 1 ∧ s.1 = List.drop s.2.1 xL3 ∧ s.2.1 ≤ xL3.length ∧ KU (Jt N Qu (iL3 + 1)) xL3 s.1 s.2.1 s.2.2.1 s.2.2.2.1 = some r ∧ SlF s.2.2.2.2.1 s.2.2.1.length s.2.2.2.2.2.1 ∧ SlF s.2.2.2.2.2.2.1 s.2.2.2.1.length s.2.2.2.2.2.2.2) (fun s => [(3, sL s.2.2.2.2.1 s.2.2.1 s.2.2.2.2.2.1), (4, sL s.2.2.2.2.2.2.1 s.2.2.2.1 s.2.2.2.2.2.2.2), (6, sL zSL xL3 zR4), (16, sL zF p0 zG), (17, iv (p0.length : Int)), (18, iv (iL3 : Int)), (22, sL zSL xL3 zR4), (23, iv (xL3.length : Int)), (24, iv (s.2.1 : Int))]) (fun s => [(2, ow s.2.2.2.2.1 s.2.2.2.2.2.1 3 QR s.2.2.1), (3, ow s.2.2.2.2.2.2.1 s.2.2.2.2.2.2.2 40 zR s.2.2.2.1)]) (xL3.length + 1) (xL3, 0, zOb, zHa, zIL, zIH, zBs, zBr) ⟨rfl, rfl, Nat.zero_le _, H, zWL, zQS⟩ (.cons rfl (.cons rfl (.cons rfl (.cons rfl (.cons rfl (.cons rfl (.cons rfl (.cons rfl (.cons rfl .nil))))))))) (.cons rfl (.cons rfl .nil)) (fun _ _ h => absurd h.1 (by simp)) ?_))))))))))))
  intro w zZM m s hs
  obtain ⟨zFh, iL8, zTI, zPm, zem, zed, zbi, zbB⟩ := s
  obtain ⟨ziO, zNM, hiL8, H, zZ7, zWH⟩ := hs
  replace zNM : zFh = List.drop iL8 xL3 := zNM
  replace H : KU (Jt N Qu (iL3 + 1)) xL3 zFh iL8 zTI zPm = some r := H
  replace ziO : m + 1 = zFh.length + 1 := ziO
  replace zBw := zBw.leR zZM
  replace zT := zT.leR zZM
  replace WU := WU.trans zZM
  replace zZ7 : SlF zem zTI.length zed := zZ7
  replace zWH : SlF zbi zPm.length zbB := zWH
  obtain rfl : m = zFh.length := by omega
  clear ziO
  dsimp only
  cases zFh with
  | nil =>
   rw [KU.eq_1] at H
   exact Tr.sr (Tr.va rfl (fun _ _ a c => QD (a.ev rfl) (a.ev rfl)) (Tr.nil (Tr.zA (Tr.seq (Tr.Vy rfl (JA zNM) (Tr.exit (Tr.ze (Tr.ze (Tr.QK (Tr.zh (Tr.zA (Tr.region (Tr.va rfl (fun _ _ a c => zo (a.ev rfl) (a.ev rfl)) (Tr.mv rfl rfl (Tr.nil (Tr.zf WU (Qu, (iL3 + 1), zTI, zPm, zem, zed, zbi, zbB) ⟨rfl, Qe zAC, QC zAC, H, zZ7, zWH⟩ (.cons rfl (.cons rfl (.cons rfl (.cons rfl (.cons (congrArg (fun z => some (Value.int .i64 z)) (Qd zAC zT.form)) .nil))))) (.cons rfl (.cons rfl .nil))))))))))))))))))
  | cons xL8 zFh =>
   rw [KU.eq_2] at H
   refine Tr.sr (Tr.va rfl (fun _ _ a c => QD (a.ev rfl) (a.ev rfl)) (Tr.nil (Tr.zA (Tr.seq (Tr.Vx rfl (JU zNM) (Tr.skip (Tr.zA (Tr.seq (Tr.block (Tr.sr (Tr.mv rfl rfl (Tr.va rfl (fun _ _ a c => zL zEc (a.ev rfl) zBw.form (a.ev rfl) (Int.natCast_nonneg _) (QC zNM)) (Tr.va rfl (fun _ _ a c => zX (cs := [iv xL8.X, iv xL8.Y]) Kk JG (a.ev rfl) (zO.take (rdF zAL zBw (KH zNM) c) 2) rfl) (Tr.alloc 58 (wn rfl) rfl zF7 fun zo2 => (Tr.asg rfl rfl (Tr.store 58 (cs := [iv xL8.X, iv xL8.Y]) [iv xL8.X, iv xL8.Y] (wn rfl) rfl rfl rfl rfl JG rfl rfl rfl (Tr.nil (Tr.zA (Tr.sr (Tr.mv rfl rfl (Tr.mv rfl rfl (Tr.va rfl (fun _ _ a c => zo (a.ev rfl) (a.ev rfl)) ?_))))))))))))))))))))))
   refine Tr.mv rfl rfl (Tr.va rfl (fun _ _ a c => QF zEy (a.ev rfl)) ?_)
   obtain ⟨q378, zlw, H⟩ := bnd H
   refine Tr.va rfl (fun _ _ a c => zLz (a.ev rfl) (a.ev rfl) zlw) ?_
   obtain ⟨zDR, zk8, H⟩ := bnd H
   obtain ⟨zfy, zfx, zfw⟩ := zq zk8
   refine Tr.va rfl (fun _ _ a c => zL zEc (a.ev rfl) zBw.form (a.ev rfl) zfy zfx) (Tr.va rfl (fun _ _ a c => zX (cs := [iv zDR.X, iv zDR.Y]) Kk JG (a.ev rfl) (zO.take (rdF zAL zBw zfw c) 2) rfl) (Tr.alloc 59 (wn rfl) rfl zF7 fun zo1 => (Tr.store 59 (cs := [iv zDR.X, iv zDR.Y]) [iv zDR.X, iv zDR.Y] (wn rfl) rfl rfl rfl rfl JG rfl rfl rfl (Tr.nil (Tr.zA (Tr.sr (Tr.mv rfl rfl (Tr.va rfl (fun _ _ a c => zB Qx (a.ev rfl)) (Tr.va rfl (fun _ _ a c => zD zm (a.ev rfl) (rdb c (vs := [iv xL8.X, iv xL8.Y]) (k := 58) rfl 1) rfl) (Tr.buildSlice 60 (e := 3) (vs := [(0, iv xL8.Y)]) (cs := [iv xL8.Y]) (wn rfl) rfl (zi rfl QW) (by kernel_rfl) fun zo0 => ?_))))))))))
   obtain ⟨zZS, zmD, H⟩ := bnd H
   refine Tr.append 2 (t := QR) (l := zTI) (l2 := [xL8.Y]) (wn rfl) rfl rfl rfl rfl (fun W hW => ⟨[[iv xL8.Y]], (.cons ⟨(), trivial, rfl⟩ .nil), rdb hW (vs := [iv xL8.Y]) (k := 60) rfl 0⟩) zCe zE8 zYK (by decide) zbI rfl zmD fun zel zec hAl382 => (Tr.asg rfl rfl (Tr.nil (Tr.zA (Tr.sr (Tr.va rfl (fun _ _ a c => zB Qy (a.ev rfl)) (Tr.va rfl (fun _ _ a c => zD zm (a.ev rfl) (rdb c (vs := [iv xL8.X, iv xL8.Y]) (k := 58) rfl 0) rfl) (Tr.va rfl (fun _ _ a c => zB Qy (a.ev rfl)) (Tr.va rfl (fun _ _ a c => zD zm (a.ev rfl) (rdb c (vs := [iv zDR.X, iv zDR.Y]) (k := 59) rfl 0) rfl) (Tr.va rfl (fun _ _ a c => Ql (a.ev rfl) (a.ev rfl)) (Tr.nil (Tr.zA (Tr.cond rfl H (fun H => ?_) (fun H => ?_)))))))))))))
   ·refine Tr.region (Tr.mv rfl rfl (Tr.va rfl (fun _ _ a c => zB Qy (a.ev rfl)) (Tr.va rfl (fun _ _ a c => zD zm (a.ev rfl) (rdb c (vs := [iv xL8.X, iv xL8.Y]) (k := 58) rfl 0) rfl) (Tr.va rfl (fun _ _ a c => zB Qx (a.ev rfl)) (Tr.va rfl (fun _ _ a c => zD zm (a.ev rfl) (rdb c (vs := [iv xL8.X, iv xL8.Y]) (k := 58) rfl 1) rfl) (Tr.va rfl (fun _ _ a c => zB Qx (a.ev rfl)) (Tr.va rfl (fun _ _ a c => zD zm (a.ev rfl) (rdb c (vs := [iv zDR.X, iv zDR.Y]) (k := 59) rfl 1) rfl) (Tr.va rfl (fun _ _ a c => zEC (a.ev rfl) (a.ev rfl) _) ?_))))))))
    refine Tr.va rfl (fun _ _ a c => zB Qx (a.ev rfl)) (Tr.va rfl (fun _ _ a c => zD zm (a.ev rfl) (rdb c (vs := [iv xL8.X, iv xL8.Y]) (k := 58) rfl 1) rfl) (Tr.va rfl (fun _ _ a c => zB Qx (a.ev rfl)) (Tr.va rfl (fun _ _ a c => zD zm (a.ev rfl) (rdb c (vs := [iv zDR.X, iv zDR.Y]) (k := 59) rfl 1) rfl) (Tr.va rfl (fun _ _ a c => zED (a.ev rfl) (a.ev rfl) _) (Tr.build (vs := [(0, iv xL8.X), (1, iv (min xL8.Y zDR.Y)), (3, iv (max xL8.Y zDR.Y))]) (cs := [iv xL8.X, iv (min xL8.Y zDR.Y), iv 0, iv (max xL8.Y zDR.Y)]) (wn rfl) rfl (zi rfl (zi rfl (zi rfl QW))) (by kernel_rfl) (Tr.buildSlice 61 (e := 40) (vs := [(0, .agg #[iv xL8.X, iv (min xL8.Y zDR.Y), iv 0, iv (max xL8.Y zDR.Y)])]) (cs := [iv xL8.X, iv (min xL8.Y zDR.Y), iv 0, iv (max xL8.Y zDR.Y)]) (wn rfl) rfl (zi rfl QW) (by kernel_rfl) fun zoz => ?_))))))
    obtain ⟨zfR, zmC, H⟩ := bnd H
    exact Tr.append 3 (t := zR) (l := zPm) (l2 := [(zK.mk xL8.X (min xL8.Y zDR.Y) 0 (max xL8.Y zDR.Y))]) (wn rfl) rfl rfl rfl rfl (fun W hW => ⟨[[iv xL8.X, iv (min xL8.Y zDR.Y), iv 0, iv (max xL8.Y zDR.Y)]], (.cons ⟨(), trivial, rfl⟩ .nil), rdb hW (vs := [iv xL8.X, iv (min xL8.Y zDR.Y), iv 0, iv (max xL8.Y zDR.Y)]) (k := 61) rfl 0⟩) zA7 KM zSO (by decide) zUC rfl zmC fun znO zm3 hAl384 => (Tr.asg rfl rfl (Tr.nil (Tr.zh (Tr.zA (Tr.region (Tr.va rfl (fun _ _ a c => zo (a.ev rfl) (a.ev rfl)) (Tr.mv rfl rfl (Tr.nil (Tr.zf zZM (zFh, (iL8 + 1), zZS, zfR, zel, zec, znO, zm3) ⟨rfl, Qe zNM, QC zNM, H, hAl382, hAl384⟩ (.cons rfl (.cons rfl (.cons rfl (.cons rfl (.cons rfl (.cons rfl (.cons rfl (.cons rfl (.cons (congrArg (fun z => some (Value.int .i64 z)) (Qd zNM zBw.form)) .nil))))))))) (.cons rfl (.cons rfl .nil)))))))))))
   ·exact Tr.skip (Tr.zh (Tr.zA (Tr.region (Tr.va rfl (fun _ _ a c => zo (a.ev rfl) (a.ev rfl)) (Tr.mv rfl rfl (Tr.nil (Tr.zf zZM (zFh, (iL8 + 1), zZS, zPm, zel, zec, zbi, zbB) ⟨rfl, Qe zNM, QC zNM, H, hAl382, zWH⟩ (.cons rfl (.cons rfl (.cons rfl (.cons rfl (.cons rfl (.cons rfl (.cons rfl (.cons rfl (.cons (congrArg (fun z => some (Value.int .i64 z)) (Qd zNM zBw.form)) .nil))))))))) (.cons rfl (.cons rfl .nil)))))))))

theorem zF6 {w : Bs} (p0 : zI) (r : Bool) (H : Jw p0 = some r) (hE : HF w w.W E0) : Calls Tryz.prog 128 [.agg #[iv p0.X, iv p0.Y]].toArray w.W fun e W' => e = .returned (bV r) ∧ HF w W' E0 := by
 unfold Jw at H
 have leB := Bs.Le.refl w
 refine Tr.enter (n := 6) Tryz.func128 rfl rfl rfl hE (Tr.sr (Tr.box 1 (cs := [iv p0.X, iv p0.Y]) (wn rfl) rfl rfl rfl fun zw => (Tr.asg rfl rfl (Tr.nil (Tr.zA (Tr.sr (Tr.va rfl (fun _ _ a c => zX (cs := [iv p0.X, iv p0.Y]) Kk JG (a.ev rfl) (zO.take (rdb c (vs := [iv p0.X, iv p0.Y]) (k := 1) rfl 0) 2) rfl) ?_)))))))
 obtain ⟨y101, hy101, H⟩ := bnd H
 refine Tr.Qa (r := (bV y101)) (wn rfl) rfl Tryz.call14 (zH rfl zP) (fun W hW => zAV p0 y101 hy101 (HF.start _)) (Tr.va rfl (fun _ _ a c => KD (a.ev rfl)) (Tr.asg rfl rfl (Tr.nil (Tr.zA (Tr.ret ?_)))))
 obtain rfl := oI H
 exact Tr.out (m := [bV (!y101)]) [] (zU rfl zV) (fun W hW => ⟨rfl, hW.low leB⟩)

theorem zHE (N : Nat) {w : Bs} (p0 : QM) (zF : Option Addr) (zG : Nat) (zT : Sl w.R w.W zW zF zG p0.p.Tools) (zN : Option Addr) (zM : Nat) (QV : Sl w.R w.W zJ zN zM p0.p.Steps) (QH : Option Addr) (QI : Nat) (Kb : Sl w.R w.W JJ QH QI p0.tools) (QN : Option Addr) (QL : Nat) (bp0 : Nat) (p1 : (List zI)) (QB : Option Addr) (QA : Nat) (Qt : Sl w.R w.W zz QB QA p1) (p2 : zI) (r : (Int × (List zZ))) (H : WR N p0 p1 p2 = some r) (hE : HF w w.W (LEn [bx bp0 #[iv p0.p.Unit, sL zF p0.p.Tools zG, sL zN p0.p.Steps zM, sL QH p0.tools QI, sL QN p0.image QL, bV p0.clear, iv p0.tool, iv p0.place.X, iv p0.place.Y, bV p0.placed, iv p0.off, iv p0.on] 77, ow QN QL 80 zS p0.image])) : Calls Tryz.prog 107 [pV bp0, sL QB p1 QA, .agg #[iv p2.X, iv p2.Y]].toArray w.W fun e W' => ∃ (w' : Bs) (u : (Option Addr × Nat)), w.Le w' ∧ e = .returned (iv r.1) ∧ (SlF u.1 r.2.length u.2) ∧ HF w' W' (LEn [bx bp0 #[iv p0.p.Unit, sL zF p0.p.Tools zG, sL zN p0.p.Steps zM, sL QH p0.tools QI, sL u.1 r.2 u.2, bV p0.clear, iv p0.tool, iv p0.place.X, iv p0.place.Y, bV p0.placed, iv p0.off, iv p0.on] 77, ow u.1 u.2 80 zS r.2]) := by
 unfold WR at H
 have zAB := (hE.sl (k := 1) rfl).form
 have leB := Bs.Le.refl w
 refine Tr.enter (n := 36) Tryz.func107 rfl rfl rfl hE (Tr.sr (Tr.box 2 (cs := [iv p2.X, iv p2.Y]) (wn rfl) rfl rfl rfl fun zw => (Tr.asg rfl rfl (Tr.nil (Tr.zA (Tr.sr (Tr.asg rfl rfl (Tr.JI 3 27 zz ?_))))))))
 show Tr _ _ (uf _ 7 (sL none (([] : List zI)) 0)) _ _
 refine Tr.nil (Tr.zA (Tr.seq (Tr.sr (Tr.mv rfl rfl (Tr.va rfl (fun _ _ a c => QF zEy (a.ev rfl)) (Tr.mv rfl rfl (Tr.nil (Tr.zA (Tr.block (Tr.loop (σ := (List zI) × Nat × (List zI) × (Option Addr) × Nat) (fun m w s => m = s.1.length + 1 ∧ s.1 = List.drop s.2.1 p1 ∧ s.2.1 ≤ p1.length ∧ JC N p0 p2 s.1 s.2.1 s.2.2.1 = some r ∧ SlF s.2.2.2.1 s.2.2.1.length s.2.2.2.2) (fun s => [(0, pV bp0), (5, pV zw), (7, sL s.2.2.2.1 s.2.2.1 s.2.2.2.2), (11, sL QB p1 QA), (12, iv (p1.length : Int)), (13, iv (s.2.1 : Int))]) (fun s => [(0, bx bp0 #[iv p0.p.Unit, sL zF p0.p.Tools zG, sL zN p0.p.Steps zM, sL QH p0.tools QI, sL QN p0.image QL, bV p0.clear, iv p0.tool, iv p0.place.X, iv p0.place.Y, bV p0.placed, iv p0.off, iv p0.on] 77), (1, ow QN QL 80 zS p0.image), (2, bx zw #[iv p2.X, iv p2.Y] 27), (3, ow s.2.2.2.1 s.2.2.2.2 27 zz s.2.2.1)]) (p1.length + 1) (p1, 0, ([] : List zI), none, 0) ⟨rfl, rfl, Nat.zero_le _, H, Kj⟩ (.cons rfl (.cons rfl (.cons rfl (.cons rfl (.cons rfl (.cons rfl .nil)))))) (.cons rfl (.cons rfl (.cons rfl (.cons rfl .nil)))) (fun _ _ h => absurd h.1 (by simp)) ?_))))))))))
 intro w Qc m s hs
 obtain ⟨zY, iL1, zFj, zGY, zGO⟩ := s
 obtain ⟨Ki, QE, hiL1, H, zQV⟩ := hs
 replace QE : zY = List.drop iL1 p1 := QE
 replace H : JC N p0 p2 zY iL1 zFj = some r := H
 replace Ki : m + 1 = zY.length + 1 := Ki
 replace zT := zT.leR Qc
 replace QV := QV.leR Qc
 replace Kb := Kb.leR Qc
 replace Qt := Qt.leR Qc
 replace leB := leB.trans Qc
 obtain rfl : m = zY.length := by omega
 clear Ki
 dsimp only
 cases zY with
 | nil =>
  rw [JC.eq_1] at H
  refine Tr.sr (Tr.va rfl (fun _ _ a c => QD (a.ev rfl) (a.ev rfl)) (Tr.nil (Tr.zA (Tr.seq (Tr.Vy rfl (JA QE) (Tr.exit (Tr.ze (Tr.ze (Tr.QK (Tr.zA (Tr.sr (Tr.mv rfl rfl (Tr.freeze 3 rfl fun w zOX zID => ?_)))))))))))))
  replace zT := zT.leR zOX
  replace QV := QV.leR zOX
  replace Kb := Kb.leR zOX
  replace leB := leB.trans zOX
  refine Tr.buildSlice 8 (e := 57) (vs := [(0, sL zGY zFj zGO)]) (cs := [sL zGY zFj zGO]) (wn rfl) rfl (zi rfl QW) (by kernel_rfl) fun zPt => (Tr.own 8 zO7 [zFj] (css := [[sL zGY zFj zGO]]) rfl (.cons ⟨(zGY, zGO), zID, rfl⟩ .nil) rfl (by decide) (zDb rfl) ?_)
  obtain ⟨zJ7, zZn, H⟩ := bnd H
  refine Tr.VC [9] [emp] (U := (Option Addr × Nat)) (fun u => (sL u.1 zJ7 u.2)) (fun O W u => SlF u.1 zJ7.length u.2) (fun u => [ow u.1 u.2 80 zS zJ7]) rfl (zQ rfl za) (fun _ => rfl) (wn rfl) rfl Tryz.call127 (zH rfl zP) (fun W hW hp hE => zLg N [zFj] (some ⟨zPt, 0, none⟩) 1 (hW.slS (k := 8) rfl hp rfl) zJ7 zZn hE) ?_
  intro w u zM1 hu
  obtain ⟨zSK, zR3⟩ := u
  have gy121_0 := hu
  replace zT := zT.leR zM1
  replace QV := QV.leR zM1
  replace Kb := Kb.leR zM1
  replace zID := zID.le zM1
  replace leB := leB.trans zM1
  have zmh : SlF zSK zJ7.length zR3 := gy121_0 --@phi
  dsimp only
  refine Tr.asg rfl rfl (Tr.nil (Tr.zA (Tr.seq (Tr.sr (Tr.mv rfl rfl ?_)))))
  obtain ⟨Wl, zOj, H⟩ := bnd H
  refine Tr.Qa (r := (iv Wl)) (wn rfl) rfl Tryz.call59 (zH rfl zP) (fun W hW => zCQ zJ7 zSK zR3 (hW.zCj (k := 9) rfl) Wl zOj (HF.start _)) (Tr.va rfl (fun _ _ a c => VS (a.ev rfl) (a.ev rfl)) (Tr.nil (Tr.zA (Tr.cond rfl H (fun H => ?_) (fun H => ?_)))))
  ·refine Tr.sr (Tr.asg rfl rfl (Tr.nil (Tr.zA (Tr.ret (Tr.zb ?_)))))
   obtain rfl := oI H
   exact Tr.out (m := [iv 2]) [] (zU rfl zV) (fun W hW => ⟨w, (QN, QL), leB, rfl, zAB, hW.pick (ks := [0, 1]) (by decide) (zQ rfl (zQ rfl za))⟩)
  ·refine Tr.skip (Tr.zA (Tr.seq (Tr.sr (Tr.mv rfl rfl ?_))))
   obtain ⟨Ky, zTV, H⟩ := bnd H
   refine Tr.Qa (r := (bV Ky)) (wn rfl) rfl Tryz.call81 (zH rfl (zH rfl zP)) (fun W hW => zBK zFj zGY zGO (zID.rl.ext hW.Qr) (fun z0 => Jw z0) 128 [] Tryz.call128 (fun w' he z0 y hy => zF6 z0 y hy (HF.start _)) Ky zTV (HF.start _)) (Tr.nil (Tr.zA (Tr.cond rfl H (fun H => ?_) (fun H => ?_))))
   ·refine Tr.sr (Tr.asg rfl rfl (Tr.nil (Tr.zA (Tr.ret (Tr.zb ?_)))))
    obtain rfl := oI H
    exact Tr.out (m := [iv 1]) [] (zU rfl zV) (fun W hW => ⟨w, (QN, QL), leB, rfl, zAB, hW.pick (ks := [0, 1]) (by decide) (zQ rfl (zQ rfl za))⟩)
   ·refine Tr.skip (Tr.zA (Tr.sr (Tr.mv rfl rfl (Tr.mv rfl rfl (Tr.freeze 9 rfl fun w zTE zZc => ?_)))))
    replace zT := zT.leR zTE
    replace QV := QV.leR zTE
    replace Kb := Kb.leR zTE
    replace zID := zID.le zTE
    replace leB := leB.trans zTE
    obtain ⟨zFy, zTT, H⟩ := bnd H
    refine Tr.VC [0, 1] [bx bp0 #[iv p0.p.Unit, sL zF p0.p.Tools zG, sL zN p0.p.Steps zM, sL QH p0.tools QI, sL QN p0.image QL, bV p0.clear, iv p0.tool, iv p0.place.X, iv p0.place.Y, bV p0.placed, iv p0.off, iv p0.on] 77, ow QN QL 80 zS p0.image] (U := (Option Addr × Nat)) (fun u => (iv zFy.1)) (fun O W u => SlF u.1 zFy.2.length u.2) (fun u => [bx bp0 #[iv p0.p.Unit, sL zF p0.p.Tools zG, sL zN p0.p.Steps zM, sL QH p0.tools QI, sL u.1 zFy.2 u.2, bV p0.clear, iv p0.tool, iv p0.place.X, iv p0.place.Y, bV p0.placed, iv p0.off, iv p0.on] 77, ow u.1 u.2 80 zS zFy.2]) rfl (zQ rfl (zQ rfl za)) (fun _ => rfl) (wn rfl) rfl Tryz.call125 (zH rfl (zH rfl zP)) (fun W hW hp hE => zBO N p0 zF zG (zT.ext (hW.JE hp)) zN zM (QV.ext (hW.JE hp)) QH QI (Kb.ext (hW.JE hp)) QN QL bp0 zJ7 zSK zR3 (zZc.zAS (hW.JE hp)) zFy zTT hE) ?_
    intro w u zZO hu
    obtain ⟨zXR, zWs⟩ := u
    have gy127_0 := hu
    replace zID := zID.le zZO
    replace zZc := zZc.le zZO
    replace leB := leB.trans zZO
    have zaW : SlF zXR zFy.2.length zWs := gy127_0 --@phi
    dsimp only
    refine Tr.asg rfl rfl (Tr.nil (Tr.zA (Tr.ret ?_)))
    obtain rfl := oI H
    exact Tr.out (m := [iv zFy.1]) [] (zU rfl zV) (fun W hW => ⟨w, (zXR, zWs), leB, rfl, zaW, hW.pick (ks := [0, 1]) (by decide) (zQ rfl (zQ rfl za))⟩)
 | cons xL1 zY =>
  rw [JC.eq_2] at H
  refine Tr.sr (Tr.va rfl (fun _ _ a c => QD (a.ev rfl) (a.ev rfl)) (Tr.nil (Tr.zA (Tr.seq (Tr.Vx rfl (JU QE) (Tr.skip (Tr.zA (Tr.seq (Tr.block (Tr.sr (Tr.va rfl (fun _ _ a c => zL zEc (a.ev rfl) Qt.form (a.ev rfl) (Int.natCast_nonneg _) (QC QE)) (Tr.va rfl (fun _ _ a c => zX (cs := [iv xL1.X, iv xL1.Y]) Kk JG (a.ev rfl) (zO.take (rdF zAL Qt (KH QE) c) 2) rfl) (Tr.alloc 10 (wn rfl) rfl zF7 fun zbQ => (Tr.store 10 (cs := [iv xL1.X, iv xL1.Y]) [iv xL1.X, iv xL1.Y] (wn rfl) rfl rfl rfl rfl JG rfl rfl rfl (Tr.nil (Tr.zA (Tr.region (Tr.mv rfl rfl (Tr.mv rfl rfl (Tr.va rfl (fun _ _ a c => zX (cs := [iv xL1.X, iv xL1.Y]) Kk JG (a.ev rfl) (zO.take (rdb c (vs := [iv xL1.X, iv xL1.Y]) (k := 10) rfl 0) 2) rfl) ?_))))))))))))))))))))
  refine Tr.va rfl (fun _ _ a c => zX (cs := [iv p2.X, iv p2.Y]) Kk JG (a.ev rfl) (zO.take (rdb c (vs := [iv p2.X, iv p2.Y]) (k := 2) rfl 0) 2) rfl) ?_
  obtain ⟨WL, zTS, H⟩ := bnd H
  refine Tr.Qa (r := (.agg #[iv WL.X, iv WL.Y])) (wn rfl) rfl Tryz.call103 (zH rfl (zH rfl (zH rfl zP))) (fun W hW => zCw p0 zF zG (zT.ext hW.Qr) zN zM (QV.ext hW.Qr) QH QI (Kb.ext hW.Qr) QN QL (hW.zCj (k := 1) rfl) bp0 (hW.zbE (k := 0) rfl) (hW.zdU (k := 0) rfl) xL1 p2 WL zTS (HF.start _)) (Tr.buildSlice 11 (e := 27) (vs := [(0, .agg #[iv WL.X, iv WL.Y])]) (cs := [iv WL.X, iv WL.Y]) (wn rfl) rfl (zi rfl QW) (by kernel_rfl) fun zpF => ?_)
  obtain ⟨zfd, zmL, H⟩ := bnd H
  exact Tr.append 3 (t := zz) (l := zFj) (l2 := [WL]) (wn rfl) rfl rfl rfl rfl (fun W hW => ⟨[[iv WL.X, iv WL.Y]], (.cons ⟨(), trivial, rfl⟩ .nil), rdb hW (vs := [iv WL.X, iv WL.Y]) (k := 11) rfl 0⟩) zEy JG zdq (by decide) zeh rfl zmL fun znW znB hAl132 => (Tr.asg rfl rfl (Tr.nil (Tr.zh (Tr.zA (Tr.region (Tr.va rfl (fun _ _ a c => zo (a.ev rfl) (a.ev rfl)) (Tr.mv rfl rfl (Tr.nil (Tr.zf Qc (zY, (iL1 + 1), zfd, znW, znB) ⟨rfl, Qe QE, QC QE, H, hAl132⟩ (.cons rfl (.cons rfl (.cons rfl (.cons rfl (.cons rfl (.cons (congrArg (fun z => some (Value.int .i64 z)) (Qd QE Qt.form)) .nil)))))) (.cons rfl (.cons rfl (.cons rfl (.cons rfl .nil)))))))))))))

theorem zHC (rec : QM → (List zC) → zI → Option (Int × Bool × Int × Int × Int × Bool × Int × Int × (List zZ))) (hrec : ∀ {w : Bs} (p0 : QM) (zF : Option Addr) (zG : Nat) (zT : Sl w.R w.W zW zF zG p0.p.Tools) (zN : Option Addr) (zM : Nat) (QV : Sl w.R w.W zJ zN zM p0.p.Steps) (QH : Option Addr) (QI : Nat) (Kb : Sl w.R w.W JJ QH QI p0.tools) (QN : Option Addr) (QL : Nat) (bp0 : Nat) (p1 : (List zC)) (QB : Option Addr) (QA : Nat) (Qt : Sl w.R w.W zJ QB QA p1) (p2 : zI) (r : (Int × Bool × Int × Int × Int × Bool × Int × Int × (List zZ))) (H : rec p0 p1 p2 = some r) (hE : HF w w.W (LEn [bx bp0 #[iv p0.p.Unit, sL zF p0.p.Tools zG, sL zN p0.p.Steps zM, sL QH p0.tools QI, sL QN p0.image QL, bV p0.clear, iv p0.tool, iv p0.place.X, iv p0.place.Y, bV p0.placed, iv p0.off, iv p0.on] 77, ow QN QL 80 zS p0.image])), Calls Tryz.prog 62 [pV bp0, sL QB p1 QA, .agg #[iv p2.X, iv p2.Y]].toArray w.W fun e W' => ∃ (w' : Bs) (u : (Option Addr × Nat)), w.Le w' ∧ e = .returned (iv r.1) ∧ (SlF u.1 r.2.2.2.2.2.2.2.2.length u.2) ∧ HF w' W' (LEn [bx bp0 #[iv p0.p.Unit, sL zF p0.p.Tools zG, sL zN p0.p.Steps zM, sL QH p0.tools QI, sL u.1 r.2.2.2.2.2.2.2.2 u.2, bV r.2.1, iv r.2.2.1, iv r.2.2.2.1, iv r.2.2.2.2.1, bV r.2.2.2.2.2.1, iv r.2.2.2.2.2.2.1, iv r.2.2.2.2.2.2.2.1] 77, ow u.1 u.2 80 zS r.2.2.2.2.2.2.2.2])) (N : Nat) {w : Bs} (p0 : QM) (zF : Option Addr) (zG : Nat) (zT : Sl w.R w.W zW zF zG p0.p.Tools) (zN : Option Addr) (zM : Nat) (QV : Sl w.R w.W zJ zN zM p0.p.Steps) (QH : Option Addr) (QI : Nat) (Kb : Sl w.R w.W JJ QH QI p0.tools) (QN : Option Addr) (QL : Nat) (bp0 : Nat) (p1 : zC) (QB : Option Addr) (QA : Nat) (Qt : Sl w.R w.W zz QB QA p1.Points) (Jz : Option Addr) (Jn : Nat) (zM3 : Sl w.R w.W zJ Jz Jn p1.Steps) (p2 : zI) (r : (Int × Bool × Int × Int × Int × Bool × Int × Int × (List zZ))) (H : KY rec N p0 p1 p2 = some r) (hE : HF w w.W (LEn [bx bp0 #[iv p0.p.Unit, sL zF p0.p.Tools zG, sL zN p0.p.Steps zM, sL QH p0.tools QI, sL QN p0.image QL, bV p0.clear, iv p0.tool, iv p0.place.X, iv p0.place.Y, bV p0.placed, iv p0.off, iv p0.on] 77, ow QN QL 80 zS p0.image])) : Calls Tryz.prog 75 [pV bp0, .agg #[iv p1.Kind, sv p1.Name, iv p1.At.X, iv p1.At.Y, sL QB p1.Points QA, iv p1.NX, iv p1.NY, sL Jz p1.Steps Jn], .agg #[iv p2.X, iv p2.Y]].toArray w.W fun e W' => ∃ (w' : Bs) (u : (Option Addr × Nat)), w.Le w' ∧ e = .returned (iv r.1) ∧ (SlF u.1 r.2.2.2.2.2.2.2.2.length u.2) ∧ HF w' W' (LEn [bx bp0 #[iv p0.p.Unit, sL zF p0.p.Tools zG, sL zN p0.p.Steps zM, sL QH p0.tools QI, sL u.1 r.2.2.2.2.2.2.2.2 u.2, bV r.2.1, iv r.2.2.1, iv r.2.2.2.1, iv r.2.2.2.2.1, bV r.2.2.2.2.2.1, iv r.2.2.2.2.2.2.1, iv r.2.2.2.2.2.2.2.1] 77, ow u.1 u.2 80 zS r.2.2.2.2.2.2.2.2]) := by
 unfold KY at H
 have zAB := (hE.sl (k := 1) rfl).form
 have leB := Bs.Le.refl w
 refine Tr.enter (n := 116) Tryz.func75 rfl rfl rfl hE (Tr.sr (Tr.box 2 (cs := [iv p1.Kind, sv p1.Name, iv p1.At.X, iv p1.At.Y, sL QB p1.Points QA, iv p1.NX, iv p1.NY, sL Jz p1.Steps Jn]) (wn rfl) rfl rfl rfl fun zw => (Tr.box 3 (cs := [iv p2.X, iv p2.Y]) (wn rfl) rfl rfl rfl fun Qw => (Tr.asg rfl rfl (Tr.nil (Tr.zA (Tr.sr (Tr.mv rfl rfl (Tr.va rfl (fun _ _ a c => zB zAD (a.ev rfl)) (Tr.va rfl (fun _ _ a c => zX (cs := [iv p1.At.X, iv p1.At.Y]) Kk JG (a.ev rfl) (zO.take (rdb c (vs := [iv p1.Kind, sv p1.Name, iv p1.At.X, iv p1.At.Y, sL QB p1.Points QA, iv p1.NX, iv p1.NY, sL Jz p1.Steps Jn]) (k := 2) rfl 2) 2) rfl) (Tr.va rfl (fun _ _ a c => zX (cs := [iv p2.X, iv p2.Y]) Kk JG (a.ev rfl) (zO.take (rdb c (vs := [iv p2.X, iv p2.Y]) (k := 3) rfl 0) 2) rfl) ?_)))))))))))
 obtain ⟨y102, hy102, H⟩ := bnd H
 refine Tr.Qa (r := (.agg #[iv y102.X, iv y102.Y])) (wn rfl) rfl Tryz.call103 (zH rfl (zH rfl (zH rfl zP))) (fun W hW => zCw p0 zF zG (zT.ext hW.Qr) zN zM (QV.ext hW.Qr) QH QI (Kb.ext hW.Qr) QN QL (hW.zCj (k := 1) rfl) bp0 (hW.zbE (k := 0) rfl) (hW.zdU (k := 0) rfl) p1.At p2 y102 hy102 (HF.start _)) (Tr.alloc 4 (wn rfl) rfl zF7 fun zdZ => (Tr.store 4 (cs := [iv y102.X, iv y102.Y]) [iv y102.X, iv y102.Y] (wn rfl) rfl rfl rfl rfl JG rfl rfl rfl (Tr.nil (Tr.zA ?_))))
 have leJ295 := Bs.Le.refl w
 refine Tr.zIu (σ := (List zZ) × Bool × Int × Int × Int × Bool × Int × Int × (Option Addr) × Nat) (fun w s => JB s.1 s.2.1 s.2.2.1 s.2.2.2.1 s.2.2.2.2.1 s.2.2.2.2.2.1 s.2.2.2.2.2.2.1 s.2.2.2.2.2.2.2.1 = some r ∧ SlF s.2.2.2.2.2.2.2.2.1 s.1.length s.2.2.2.2.2.2.2.2.2) (fun s => []) (fun s => [(0, bx bp0 #[iv p0.p.Unit, sL zF p0.p.Tools zG, sL zN p0.p.Steps zM, sL QH p0.tools QI, sL s.2.2.2.2.2.2.2.2.1 s.1 s.2.2.2.2.2.2.2.2.2, bV s.2.1, iv s.2.2.1, iv s.2.2.2.1, iv s.2.2.2.2.1, bV s.2.2.2.2.2.1, iv s.2.2.2.2.2.2.1, iv s.2.2.2.2.2.2.2.1] 77), (1, ow s.2.2.2.2.2.2.2.2.1 s.2.2.2.2.2.2.2.2.2 80 zS s.1)]) ?_ ?_
 ·refine Tr.sr (Tr.va rfl (fun _ _ a c => zB zEG (a.ev rfl)) (Tr.va rfl (fun _ _ a c => zD zm (a.ev rfl) (rdb c (vs := [iv p1.Kind, sv p1.Name, iv p1.At.X, iv p1.At.Y, sL QB p1.Points QA, iv p1.NX, iv p1.NY, sL Jz p1.Steps Jn]) (k := 2) rfl 0) rfl) (Tr.nil (Tr.zA (Tr.block ?_)))))
  have leJ298 := Bs.Le.refl w
  refine Tr.zIu (σ := Bool) (fun w s => JX N p0 p1 p2 rec y102 s = some r) (fun s => [(0, pV bp0), (4, pV zw), (5, pV Qw), (7, pV zdZ), (18, iv p1.Kind), (19, bV s)]) (fun s => [(0, bx bp0 #[iv p0.p.Unit, sL zF p0.p.Tools zG, sL zN p0.p.Steps zM, sL QH p0.tools QI, sL QN p0.image QL, bV p0.clear, iv p0.tool, iv p0.place.X, iv p0.place.Y, bV p0.placed, iv p0.off, iv p0.on] 77), (1, ow QN QL 80 zS p0.image), (2, bx zw #[iv p1.Kind, sv p1.Name, iv p1.At.X, iv p1.At.Y, sL QB p1.Points QA, iv p1.NX, iv p1.NY, sL Jz p1.Steps Jn] 59), (3, bx Qw #[iv p2.X, iv p2.Y] 27), (4, bx zdZ #[iv y102.X, iv y102.Y] 27)]) ?_ ?_
  ·refine Tr.sr (Tr.va rfl (fun _ _ a c => Ql (a.ev rfl) (a.ev rfl)) (Tr.asg rfl rfl (Tr.nil (Tr.zA (Tr.cond rfl H (fun H => ?_) (fun H => ?_))))))
   ·exact Tr.skip (Tr.zf leJ298 (p1.Kind == 1) H (.cons rfl (.cons rfl (.cons rfl (.cons rfl (.cons rfl (.cons rfl .nil)))))) (.cons rfl (.cons rfl (.cons rfl (.cons rfl (.cons rfl .nil))))))
   ·exact Tr.region (Tr.va rfl (fun _ _ a c => Ql (a.ev rfl) (a.ev rfl)) (Tr.asg rfl rfl (Tr.nil (Tr.zf leJ298 (p1.Kind == 2) H (.cons rfl (.cons rfl (.cons rfl (.cons rfl (.cons rfl (.cons rfl .nil)))))) (.cons rfl (.cons rfl (.cons rfl (.cons rfl (.cons rfl .nil)))))))))
  ·intro w zbu hlJ299 hs
   have H := hs
   replace H : JX N p0 p1 p2 rec y102 zbu = some r := H
   replace zT := zT.leR hlJ299
   replace QV := QV.leR hlJ299
   replace Kb := Kb.leR hlJ299
   replace Qt := Qt.leR hlJ299
   replace zM3 := zM3.leR hlJ299
   replace leB := leB.trans hlJ299
   replace leJ295 := leJ295.trans hlJ299
   unfold JX at H
   show Tr _ _ (LF [(0, pV bp0), (4, pV zw), (5, pV Qw), (7, pV zdZ), (18, iv p1.Kind), (19, bV zbu)]) (LE [(0, bx bp0 #[iv p0.p.Unit, sL zF p0.p.Tools zG, sL zN p0.p.Steps zM, sL QH p0.tools QI, sL QN p0.image QL, bV p0.clear, iv p0.tool, iv p0.place.X, iv p0.place.Y, bV p0.placed, iv p0.off, iv p0.on] 77), (1, ow QN QL 80 zS p0.image), (2, bx zw #[iv p1.Kind, sv p1.Name, iv p1.At.X, iv p1.At.Y, sL QB p1.Points QA, iv p1.NX, iv p1.NY, sL Jz p1.Steps Jn] 59), (3, bx Qw #[iv p2.X, iv p2.Y] 27), (4, bx zdZ #[iv y102.X, iv y102.Y] 27)]) _
   refine Tr.cond rfl H (fun H => ?_) (fun H => ?_)
   ·exact Tr.region (Tr.mv rfl rfl (Tr.va rfl (fun _ _ a c => zB zEG (a.ev rfl)) (Tr.va rfl (fun _ _ a c => zD zm (a.ev rfl) (rdb c (vs := [iv p1.Kind, sv p1.Name, iv p1.At.X, iv p1.At.Y, sL QB p1.Points QA, iv p1.NX, iv p1.NY, sL Jz p1.Steps Jn]) (k := 2) rfl 0) rfl) (Tr.va rfl (fun _ _ a c => Ql (a.ev rfl) (a.ev rfl)) (Tr.va rfl (fun _ _ a c => zl (a.ev rfl)) (Tr.va rfl (fun _ _ a c => zB zWS (a.ev rfl)) (Tr.store 0 (cs := [bV (p1.Kind == 2)]) [iv p0.p.Unit, sL zF p0.p.Tools zG, sL zN p0.p.Steps zM, sL QH p0.tools QI, sL QN p0.image QL, bV (p1.Kind == 2), iv p0.tool, iv p0.place.X, iv p0.place.Y, bV p0.placed, iv p0.off, iv p0.on] (wn rfl) rfl rfl rfl rfl ze7 rfl rfl rfl (Tr.nil (Tr.zh (Tr.zf leJ295 (p0.image, (p1.Kind == 2), p0.tool, p0.place.X, p0.place.Y, p0.placed, p0.off, p0.on, QN, QL) ⟨H, zAB⟩ .nil (.cons rfl (.cons rfl .nil))))))))))))
   ·refine Tr.sr (Tr.va rfl (fun _ _ a c => Ql (a.ev rfl) (a.ev rfl)) (Tr.asg rfl rfl (Tr.nil (Tr.zA (Tr.cond rfl H (fun H => ?_) (fun H => ?_))))))
    ·refine Tr.Vm 8 (by kernel_rfl) (by kernel_rfl) (Tq.mv rfl rfl (Tq.mv rfl rfl (Tq.va rfl (fun _ _ a c => zl (a.ev rfl)) (Tq.va rfl (fun _ _ a c => zB zLH (a.ev rfl)) (Tq.va rfl (fun _ _ a c => zX (cs := [iv p0.p.Unit, sL zF p0.p.Tools zG, sL zN p0.p.Steps zM]) Wt Kn (a.ev rfl) (zO.take (rdb c (vs := [iv p0.p.Unit, sL zF p0.p.Tools zG, sL zN p0.p.Steps zM, sL QH p0.tools QI, sL QN p0.image QL, bV p0.clear, iv p0.tool, iv p0.place.X, iv p0.place.Y, bV p0.placed, iv p0.off, iv p0.on]) (k := 0) rfl 0) 3) rfl) (Tq.va rfl (fun _ _ a c => zB zNZ (a.ev rfl)) (Tq.va rfl (fun _ _ a c => zD zPv (a.ev rfl) (rdb c (vs := [iv p1.Kind, sv p1.Name, iv p1.At.X, iv p1.At.Y, sL QB p1.Points QA, iv p1.NX, iv p1.NY, sL Jz p1.Steps Jn]) (k := 2) rfl 1) rfl) ?_)))))))
     obtain ⟨zUW, zkQ, H⟩ := bnd H
     exact Tq.Qa (r := (iv zUW)) (wn rfl) rfl Tryz.call79 (zH rfl (zH rfl zP)) (fun W hW => zHB p0.p zF zG (zT.ext hW.Qr) zN zM (QV.ext hW.Qr) p1.Name zUW zkQ (HF.start _)) (Tq.nil (Tr.va rfl (fun _ _ a c => zl (a.ev rfl)) (Tr.va rfl (fun _ _ a c => zB zLG (a.ev rfl)) (Tr.store 0 (cs := [iv zUW]) [iv p0.p.Unit, sL zF p0.p.Tools zG, sL zN p0.p.Steps zM, sL QH p0.tools QI, sL QN p0.image QL, bV p0.clear, iv zUW, iv p0.place.X, iv p0.place.Y, bV p0.placed, iv p0.off, iv p0.on] (wn rfl) rfl rfl rfl rfl zE8 rfl rfl rfl (Tr.nil (Tr.zh (Tr.zf leJ295 (p0.image, p0.clear, zUW, p0.place.X, p0.place.Y, p0.placed, p0.off, p0.on, QN, QL) ⟨H, zAB⟩ .nil (.cons rfl (.cons rfl .nil)))))))))
    ·refine Tr.sr (Tr.va rfl (fun _ _ a c => Ql (a.ev rfl) (a.ev rfl)) (Tr.asg rfl rfl (Tr.nil (Tr.zA (Tr.cond rfl H (fun H => ?_) (fun H => ?_))))))
     ·refine Tr.seq (Tr.Vm 5 (by kernel_rfl) (by kernel_rfl) (Tq.mv rfl rfl (Tq.va rfl (fun _ _ a c => zX (cs := [iv y102.X, iv y102.Y]) Kk JG (a.ev rfl) (zO.take (rdb c (vs := [iv y102.X, iv y102.Y]) (k := 4) rfl 0) 2) rfl) (Tq.mv rfl rfl (Tq.va rfl (fun _ _ a c => zl (a.ev rfl)) (Tq.va rfl (fun _ _ a c => zB zWR (a.ev rfl)) (Tq.nil ?_)))))))
      obtain ⟨zIO, zkP, H⟩ := bnd H
      refine Tr.VB [0] [bx bp0 #[iv p0.p.Unit, sL zF p0.p.Tools zG, sL zN p0.p.Steps zM, sL QH p0.tools QI, sL QN p0.image QL, bV p0.clear, iv p0.tool, iv p0.place.X, iv p0.place.Y, bV p0.placed, iv p0.off, iv p0.on] 77] (U := Unit) (fun u => (iv zIO.1)) (fun u => True) (fun u => [bx bp0 #[iv p0.p.Unit, sL zF p0.p.Tools zG, sL zN p0.p.Steps zM, sL QH p0.tools QI, sL QN p0.image QL, bV p0.clear, iv p0.tool, iv zIO.2.1, iv zIO.2.2.1, bV zIO.2.2.2.1, iv zIO.2.2.2.2, iv p0.on] 77]) rfl (zQ rfl za) (fun _ => rfl) (wn rfl) rfl Tryz.call104 (zH rfl (zH rfl (zH rfl zP))) (fun W hW hp hE => zBZ p0 zF zG (zT.ext (hW.JE hp)) zN zM (QV.ext (hW.JE hp)) QH QI (Kb.ext (hW.JE hp)) QN QL (hW.slS (k := 1) rfl hp rfl) bp0 y102 zIO zkP hE) ?_
      intro u hu
      show Tr _ _ (uf _ 47 (iv zIO.1)) (up _ 0 (bx bp0 #[iv p0.p.Unit, sL zF p0.p.Tools zG, sL zN p0.p.Steps zM, sL QH p0.tools QI, sL QN p0.image QL, bV p0.clear, iv p0.tool, iv zIO.2.1, iv zIO.2.2.1, bV zIO.2.2.2.1, iv zIO.2.2.2.2, iv p0.on] 77)) _
      refine Tr.asg rfl rfl (Tr.nil (Tr.zA (Tr.ret (Tr.QP (Tr.zb ?_)))))
      obtain rfl := oI H
      exact Tr.out (m := [iv zIO.1]) [] (zU rfl zV) (fun W hW => ⟨w, (QN, QL), leB, rfl, zAB, hW.pick (ks := [0, 1]) (by decide) (zQ rfl (zQ rfl za))⟩)
     ·refine Tr.sr (Tr.va rfl (fun _ _ a c => Ql (a.ev rfl) (a.ev rfl)) (Tr.asg rfl rfl (Tr.nil (Tr.zA (Tr.cond rfl H (fun H => ?_) (fun H => ?_))))))
      ·refine Tr.sr (Tr.mv rfl rfl (Tr.va rfl (fun _ _ a c => zX (cs := [iv y102.X, iv y102.Y]) Kk JG (a.ev rfl) (zO.take (rdb c (vs := [iv y102.X, iv y102.Y]) (k := 4) rfl 0) 2) rfl) ?_))
       obtain ⟨zIN, zkO, H⟩ := bnd H
       refine Tr.VC [0, 1] [bx bp0 #[iv p0.p.Unit, sL zF p0.p.Tools zG, sL zN p0.p.Steps zM, sL QH p0.tools QI, sL QN p0.image QL, bV p0.clear, iv p0.tool, iv p0.place.X, iv p0.place.Y, bV p0.placed, iv p0.off, iv p0.on] 77, ow QN QL 80 zS p0.image] (U := (Option Addr × Nat)) (fun u => (iv zIN.1)) (fun O W u => SlF u.1 zIN.2.2.2.2.2.length u.2) (fun u => [bx bp0 #[iv p0.p.Unit, sL zF p0.p.Tools zG, sL zN p0.p.Steps zM, sL QH p0.tools QI, sL u.1 zIN.2.2.2.2.2 u.2, bV p0.clear, iv p0.tool, iv zIN.2.1, iv zIN.2.2.1, bV zIN.2.2.2.1, iv zIN.2.2.2.2.1, iv p0.on] 77, ow u.1 u.2 80 zS zIN.2.2.2.2.2]) rfl (zQ rfl (zQ rfl za)) (fun _ => rfl) (wn rfl) rfl Tryz.call105 (zH rfl (zH rfl zP)) (fun W hW hp hE => zGi N p0 zF zG (zT.ext (hW.JE hp)) zN zM (QV.ext (hW.JE hp)) QH QI (Kb.ext (hW.JE hp)) QN QL bp0 y102 zIN zkO hE) ?_
       intro w u zjw hu
       obtain ⟨zXK, zWl⟩ := u
       have gy303_0 := hu
       replace leB := leB.trans zjw
       have zaO : SlF zXK zIN.2.2.2.2.2.length zWl := gy303_0 --@phi
       dsimp only
       refine Tr.asg rfl rfl (Tr.nil (Tr.zA (Tr.ret (Tr.QP (Tr.zb ?_)))))
       obtain rfl := oI H
       exact Tr.out (m := [iv zIN.1]) [] (zU rfl zV) (fun W hW => ⟨w, (zXK, zWl), leB, rfl, zaO, hW.pick (ks := [0, 1]) (by decide) (zQ rfl (zQ rfl za))⟩)
      ·refine Tr.sr (Tr.va rfl (fun _ _ a c => Ql (a.ev rfl) (a.ev rfl)) (Tr.asg rfl rfl (Tr.nil (Tr.zA (Tr.cond rfl H (fun H => ?_) (fun H => ?_))))))
       ·refine Tr.sr (Tr.mv rfl rfl (Tr.va rfl (fun _ _ a c => zX (cs := [iv y102.X, iv y102.Y]) Kk JG (a.ev rfl) (zO.take (rdb c (vs := [iv y102.X, iv y102.Y]) (k := 4) rfl 0) 2) rfl) ?_))
        obtain ⟨zIM, zkN, H⟩ := bnd H
        refine Tr.VC [0, 1] [bx bp0 #[iv p0.p.Unit, sL zF p0.p.Tools zG, sL zN p0.p.Steps zM, sL QH p0.tools QI, sL QN p0.image QL, bV p0.clear, iv p0.tool, iv p0.place.X, iv p0.place.Y, bV p0.placed, iv p0.off, iv p0.on] 77, ow QN QL 80 zS p0.image] (U := (Option Addr × Nat)) (fun u => (iv zIM.1)) (fun O W u => SlF u.1 zIM.2.2.2.2.2.length u.2) (fun u => [bx bp0 #[iv p0.p.Unit, sL zF p0.p.Tools zG, sL zN p0.p.Steps zM, sL QH p0.tools QI, sL u.1 zIM.2.2.2.2.2 u.2, bV p0.clear, iv p0.tool, iv zIM.2.1, iv zIM.2.2.1, bV zIM.2.2.2.1, iv p0.off, iv zIM.2.2.2.2.1] 77, ow u.1 u.2 80 zS zIM.2.2.2.2.2]) rfl (zQ rfl (zQ rfl za)) (fun _ => rfl) (wn rfl) rfl Tryz.call106 (zH rfl (zH rfl zP)) (fun W hW hp hE => zHD N p0 zF zG (zT.ext (hW.JE hp)) zN zM (QV.ext (hW.JE hp)) QH QI (Kb.ext (hW.JE hp)) QN QL bp0 y102 zIM zkN hE) ?_
        intro w u zjv hu
        obtain ⟨zXJ, zWk⟩ := u
        have gy305_0 := hu
        replace leB := leB.trans zjv
        have zaN : SlF zXJ zIM.2.2.2.2.2.length zWk := gy305_0 --@phi
        dsimp only
        refine Tr.asg rfl rfl (Tr.nil (Tr.zA (Tr.ret (Tr.QP (Tr.zb ?_)))))
        obtain rfl := oI H
        exact Tr.out (m := [iv zIM.1]) [] (zU rfl zV) (fun W hW => ⟨w, (zXJ, zWk), leB, rfl, zaN, hW.pick (ks := [0, 1]) (by decide) (zQ rfl (zQ rfl za))⟩)
       ·refine Tr.sr (Tr.va rfl (fun _ _ a c => Ql (a.ev rfl) (a.ev rfl)) (Tr.asg rfl rfl (Tr.nil (Tr.zA (Tr.cond rfl H (fun H => ?_) (fun H => ?_))))))
        ·refine Tr.sr (Tr.mv rfl rfl (Tr.va rfl (fun _ _ a c => zB zAY (a.ev rfl)) (Tr.va rfl (fun _ _ a c => zD zEf (a.ev rfl) (rdb c (vs := [iv p1.Kind, sv p1.Name, iv p1.At.X, iv p1.At.Y, sL QB p1.Points QA, iv p1.NX, iv p1.NY, sL Jz p1.Steps Jn]) (k := 2) rfl 4) rfl) (Tr.va rfl (fun _ _ a c => zX (cs := [iv p2.X, iv p2.Y]) Kk JG (a.ev rfl) (zO.take (rdb c (vs := [iv p2.X, iv p2.Y]) (k := 3) rfl 0) 2) rfl) ?_))))
         obtain ⟨zPY, zkM, H⟩ := bnd H
         refine Tr.VC [0, 1] [bx bp0 #[iv p0.p.Unit, sL zF p0.p.Tools zG, sL zN p0.p.Steps zM, sL QH p0.tools QI, sL QN p0.image QL, bV p0.clear, iv p0.tool, iv p0.place.X, iv p0.place.Y, bV p0.placed, iv p0.off, iv p0.on] 77, ow QN QL 80 zS p0.image] (U := (Option Addr × Nat)) (fun u => (iv zPY.1)) (fun O W u => SlF u.1 zPY.2.length u.2) (fun u => [bx bp0 #[iv p0.p.Unit, sL zF p0.p.Tools zG, sL zN p0.p.Steps zM, sL QH p0.tools QI, sL u.1 zPY.2 u.2, bV p0.clear, iv p0.tool, iv p0.place.X, iv p0.place.Y, bV p0.placed, iv p0.off, iv p0.on] 77, ow u.1 u.2 80 zS zPY.2]) rfl (zQ rfl (zQ rfl za)) (fun _ => rfl) (wn rfl) rfl Tryz.call107 (zH rfl (zH rfl (zH rfl zP))) (fun W hW hp hE => zHE N p0 zF zG (zT.ext (hW.JE hp)) zN zM (QV.ext (hW.JE hp)) QH QI (Kb.ext (hW.JE hp)) QN QL bp0 p1.Points QB QA (Qt.ext (hW.JE hp)) p2 zPY zkM hE) ?_
         intro w u zju hu
         obtain ⟨zXI, zWj⟩ := u
         have gy307_0 := hu
         replace leB := leB.trans zju
         have zaM : SlF zXI zPY.2.length zWj := gy307_0 --@phi
         dsimp only
         refine Tr.asg rfl rfl (Tr.nil (Tr.zA (Tr.ret (Tr.QP (Tr.zb ?_)))))
         obtain rfl := oI H
         exact Tr.out (m := [iv zPY.1]) [] (zU rfl zV) (fun W hW => ⟨w, (zXI, zWj), leB, rfl, zaM, hW.pick (ks := [0, 1]) (by decide) (zQ rfl (zQ rfl za))⟩)
        ·refine Tr.sr (Tr.va rfl (fun _ _ a c => Ql (a.ev rfl) (a.ev rfl)) (Tr.asg rfl rfl (Tr.nil (Tr.zA (Tr.cond rfl H (fun H => ?_) (fun H => ?_))))))
         ·refine Tr.sr (Tr.va rfl (fun _ _ a c => zB zJY (a.ev rfl)) (Tr.va rfl (fun _ _ a c => zD zm (a.ev rfl) (rdb c (vs := [iv p1.Kind, sv p1.Name, iv p1.At.X, iv p1.At.Y, sL QB p1.Points QA, iv p1.NX, iv p1.NY, sL Jz p1.Steps Jn]) (k := 2) rfl 6) rfl) (Tr.mv rfl rfl (Tr.nil (Tr.zA (Tr.block (Tr.loop (σ := (List zZ) × Bool × Int × Int × Int × Bool × Int × Int × Int × (Option Addr) × Nat) (fun m w s => Qp N p0 p1 p2 rec m s.1 s.2.1 s.2.2.1 s.2.2.2.1 s.2.2.2.2.1 s.2.2.2.2.2.1 s.2.2.2.2.2.2.1 s.2.2.2.2.2.2.2.1 s.2.2.2.2.2.2.2.2.1 = some r ∧ SlF s.2.2.2.2.2.2.2.2.2.1 s.1.length s.2.2.2.2.2.2.2.2.2.2) (fun s => [(0, pV bp0), (4, pV zw), (5, pV Qw), (68, iv p1.NY), (69, iv s.2.2.2.2.2.2.2.2.1)]) (fun s => [(0, bx bp0 #[iv p0.p.Unit, sL zF p0.p.Tools zG, sL zN p0.p.Steps zM, sL QH p0.tools QI, sL s.2.2.2.2.2.2.2.2.2.1 s.1 s.2.2.2.2.2.2.2.2.2.2, bV s.2.1, iv s.2.2.1, iv s.2.2.2.1, iv s.2.2.2.2.1, bV s.2.2.2.2.2.1, iv s.2.2.2.2.2.2.1, iv s.2.2.2.2.2.2.2.1] 77), (1, ow s.2.2.2.2.2.2.2.2.2.1 s.2.2.2.2.2.2.2.2.2.2 80 zS s.1), (2, bx zw #[iv p1.Kind, sv p1.Name, iv p1.At.X, iv p1.At.Y, sL QB p1.Points QA, iv p1.NX, iv p1.NY, sL Jz p1.Steps Jn] 59), (3, bx Qw #[iv p2.X, iv p2.Y] 27)]) N (p0.image, p0.clear, p0.tool, p0.place.X, p0.place.Y, p0.placed, p0.off, p0.on, 0, QN, QL) ⟨H, zAB⟩ (.cons rfl (.cons rfl (.cons rfl (.cons rfl (.cons rfl .nil))))) (.cons rfl (.cons rfl (.cons rfl (.cons rfl .nil)))) (fun _ _ h => zAg (h.1)) ?_)))))))
          intro w zEv mL9 s hs
          obtain ⟨zU3, zXl, zXk, zXj, zXi, zXh, zXg, zXf, zDQ, zbh, zbA⟩ := s
          obtain ⟨H, zWG⟩ := hs
          replace H : Qp N p0 p1 p2 rec (mL9 + 1) zU3 zXl zXk zXj zXi zXh zXg zXf zDQ = some r := H
          replace zT := zT.leR zEv
          replace QV := QV.leR zEv
          replace Kb := Kb.leR zEv
          replace zM3 := zM3.leR zEv
          replace leB := leB.trans zEv
          replace leJ295 := leJ295.trans zEv
          replace zWG : SlF zbh zU3.length zbA := zWG
          rw [Qp.eq_2] at H
          dsimp only
          refine Tr.sr (Tr.va rfl (fun _ _ a c => QD (a.ev rfl) (a.ev rfl)) (Tr.nil (Tr.zA (Tr.seq (Tr.cond rfl H (fun H => ?_) (fun H => ?_))))))
          ·refine Tr.skip (Tr.zA (Tr.seq (Tr.block (Tr.sr (Tr.mv rfl rfl (Tr.asg rfl rfl (Tr.nil (Tr.zA (Tr.sr (Tr.va rfl (fun _ _ a c => zB zJZ (a.ev rfl)) (Tr.va rfl (fun _ _ a c => zD zm (a.ev rfl) (rdb c (vs := [iv p1.Kind, sv p1.Name, iv p1.At.X, iv p1.At.Y, sL QB p1.Points QA, iv p1.NX, iv p1.NY, sL Jz p1.Steps Jn]) (k := 2) rfl 5) rfl) (Tr.mv rfl rfl (Tr.nil (Tr.zA (Tr.block (Tr.loop (σ := (List zZ) × Bool × Int × Int × Int × Bool × Int × Int × Int × (Option Addr) × Nat) (fun m w s => JW p0 p1 p2 rec zDQ (Qp N p0 p1 p2 rec mL9) m s.1 s.2.1 s.2.2.1 s.2.2.2.1 s.2.2.2.2.1 s.2.2.2.2.2.1 s.2.2.2.2.2.2.1 s.2.2.2.2.2.2.2.1 s.2.2.2.2.2.2.2.2.1 = some r ∧ SlF s.2.2.2.2.2.2.2.2.2.1 s.1.length s.2.2.2.2.2.2.2.2.2.2) (fun s => [(0, pV bp0), (4, pV zw), (5, pV Qw), (8, iv zDQ), (68, iv p1.NY), (69, iv zDQ), (73, iv p1.NX), (74, iv s.2.2.2.2.2.2.2.2.1)]) (fun s => [(0, bx bp0 #[iv p0.p.Unit, sL zF p0.p.Tools zG, sL zN p0.p.Steps zM, sL QH p0.tools QI, sL s.2.2.2.2.2.2.2.2.2.1 s.1 s.2.2.2.2.2.2.2.2.2.2, bV s.2.1, iv s.2.2.1, iv s.2.2.2.1, iv s.2.2.2.2.1, bV s.2.2.2.2.2.1, iv s.2.2.2.2.2.2.1, iv s.2.2.2.2.2.2.2.1] 77), (1, ow s.2.2.2.2.2.2.2.2.2.1 s.2.2.2.2.2.2.2.2.2.2 80 zS s.1), (2, bx zw #[iv p1.Kind, sv p1.Name, iv p1.At.X, iv p1.At.Y, sL QB p1.Points QA, iv p1.NX, iv p1.NY, sL Jz p1.Steps Jn] 59), (3, bx Qw #[iv p2.X, iv p2.Y] 27)]) N (zU3, zXl, zXk, zXj, zXi, zXh, zXg, zXf, 0, zbh, zbA) ⟨H, zWG⟩ (.cons rfl (.cons rfl (.cons rfl (.cons rfl (.cons rfl (.cons rfl (.cons rfl (.cons rfl .nil)))))))) (.cons rfl (.cons rfl (.cons rfl (.cons rfl .nil)))) (fun _ _ h => zAg (h.1)) ?_))))))))))))))))
           intro w zGC zU0 s hs
           obtain ⟨zMC, zPg, zPf, zPe, zPd, zPc, zPb, zPa, zE5, zLu, zLW⟩ := s
           obtain ⟨H, zZ6⟩ := hs
           replace H : JW p0 p1 p2 rec zDQ (Qp N p0 p1 p2 rec mL9) (zU0 + 1) zMC zPg zPf zPe zPd zPc zPb zPa zE5 = some r := H
           replace zT := zT.leR zGC
           replace QV := QV.leR zGC
           replace Kb := Kb.leR zGC
           replace zM3 := zM3.leR zGC
           replace leB := leB.trans zGC
           replace zEv := zEv.trans zGC
           replace zZ6 : SlF zLu zMC.length zLW := zZ6
           rw [JW.eq_2] at H
           dsimp only
           refine Tr.sr (Tr.va rfl (fun _ _ a c => QD (a.ev rfl) (a.ev rfl)) (Tr.nil (Tr.zA (Tr.seq (Tr.cond rfl H (fun H => ?_) (fun H => ?_))))))
           ·refine Tr.skip (Tr.zA (Tr.seq (Tr.block (Tr.sr (Tr.mv rfl rfl (Tr.asg rfl rfl (Tr.nil (Tr.zA (Tr.seq (Tr.zWe 30 [(29, .makeFunc (.func 0) #[] #[])] [(29, ⟨10, 22, .func (.func 0) #[] #[], fun b => pV b, fun b => bx b #[iv 0, iv 0] 27⟩)] [(0, pV bp0), (4, pV zw), (5, pV Qw), (8, iv zDQ), (9, iv zE5), (10, .func (.func 0) #[] #[]), (68, iv p1.NY), (69, iv zDQ), (73, iv p1.NX), (74, iv zE5), (75, bV (decide (zE5 < p1.NX))), (76, iv zE5), (77, pV Qw), (78, iv p2.X), (79, iv zE5), (80, .pointer (some ⟨zw, 2, none⟩)), (81, .pointer (some ⟨zw, 2, none⟩)), (82, iv p1.At.X), (83, iv (w64 (zE5 * p1.At.X))), (84, pV bp0), (85, pV bp0), (86, pV bp0), (87, pV bp0), (88, iv p0.p.Unit), (89, iv (w64 ((w64 (zE5 * p1.At.X)) * p0.p.Unit))), (90, iv (w64 (p2.X + (w64 ((w64 (zE5 * p1.At.X)) * p0.p.Unit))))), (91, .pointer (some ⟨Qw, 1, none⟩)), (92, iv p2.Y), (93, iv zDQ), (94, .pointer (some ⟨zw, 2, none⟩)), (95, .pointer (some ⟨zw, 3, none⟩)), (96, iv p1.At.Y), (97, iv (w64 (zDQ * p1.At.Y))), (98, pV bp0), (99, pV bp0), (100, pV bp0), (101, pV bp0), (102, iv p0.p.Unit), (103, iv (w64 ((w64 (zDQ * p1.At.Y)) * p0.p.Unit))), (104, iv (w64 (p2.Y + (w64 ((w64 (zDQ * p1.At.Y)) * p0.p.Unit))))), (105, .agg #[iv (w64 (p2.X + (w64 ((w64 (zE5 * p1.At.X)) * p0.p.Unit)))), iv (w64 (p2.Y + (w64 ((w64 (zDQ * p1.At.Y)) * p0.p.Unit))))])] (by kernel_rfl) (by kernel_rfl) (by kernel_rfl) (by kernel_rfl) (by kernel_rfl) (by kernel_rfl) (by kernel_rfl) (WE (zLD rfl rfl zF7) zBp) (WE rfl zBp) (WE rfl zBp) ?_ ?_))))))))))
            ·refine Tq.va rfl (fun _ _ a c => zB Qy (a.ev rfl)) (Tq.va rfl (fun _ _ a c => zD zm (a.ev rfl) (rdb c (vs := [iv p2.X, iv p2.Y]) (k := 3) rfl 0) rfl) (Tq.mv rfl rfl (Tq.va rfl (fun _ _ a c => zB zAD (a.ev rfl)) (Tq.va rfl (fun _ _ a c => zB Qy (a.ev rfl)) (Tq.va rfl (fun _ _ a c => zD zm (a.ev rfl) (rdb c (vs := [iv p1.Kind, sv p1.Name, iv p1.At.X, iv p1.At.Y, sL QB p1.Points QA, iv p1.NX, iv p1.NY, sL Jz p1.Steps Jn]) (k := 2) rfl 2) rfl) (Tq.va rfl (fun _ _ a c => zB4 (a.ev rfl) (a.ev rfl)) (Tq.mv rfl rfl (Tq.va rfl (fun _ _ a c => zl (a.ev rfl)) ?_))))))))
             refine Tq.va rfl (fun _ _ a c => zB zLH (a.ev rfl)) (Tq.va rfl (fun _ _ a c => zB Vg (a.ev rfl)) (Tq.va rfl (fun _ _ a c => zD zm (a.ev rfl) (rdb c (vs := [iv p0.p.Unit, sL zF p0.p.Tools zG, sL zN p0.p.Steps zM, sL QH p0.tools QI, sL zLu zMC zLW, bV zPg, iv zPf, iv zPe, iv zPd, bV zPc, iv zPb, iv zPa]) (k := 0) rfl 0) rfl) (Tq.va rfl (fun _ _ a c => zB4 (a.ev rfl) (a.ev rfl)) (Tq.va rfl (fun _ _ a c => zo (a.ev rfl) (a.ev rfl)) (Tq.va rfl (fun _ _ a c => zB Qx (a.ev rfl)) (Tq.va rfl (fun _ _ a c => zD zm (a.ev rfl) (rdb c (vs := [iv p2.X, iv p2.Y]) (k := 3) rfl 1) rfl) ?_))))))
             refine Tq.mv rfl rfl (Tq.va rfl (fun _ _ a c => zB zAD (a.ev rfl)) (Tq.va rfl (fun _ _ a c => zB Qx (a.ev rfl)) (Tq.va rfl (fun _ _ a c => zD zm (a.ev rfl) (rdb c (vs := [iv p1.Kind, sv p1.Name, iv p1.At.X, iv p1.At.Y, sL QB p1.Points QA, iv p1.NX, iv p1.NY, sL Jz p1.Steps Jn]) (k := 2) rfl 3) rfl) (Tq.va rfl (fun _ _ a c => zB4 (a.ev rfl) (a.ev rfl)) (Tq.mv rfl rfl (Tq.va rfl (fun _ _ a c => zl (a.ev rfl)) (Tq.va rfl (fun _ _ a c => zB zLH (a.ev rfl)) (Tq.va rfl (fun _ _ a c => zB Vg (a.ev rfl)) ?_))))))))
             exact Tq.va rfl (fun _ _ a c => zD zm (a.ev rfl) (rdb c (vs := [iv p0.p.Unit, sL zF p0.p.Tools zG, sL zN p0.p.Steps zM, sL QH p0.tools QI, sL zLu zMC zLW, bV zPg, iv zPf, iv zPe, iv zPd, bV zPc, iv zPb, iv zPa]) (k := 0) rfl 0) rfl) (Tq.va rfl (fun _ _ a c => zB4 (a.ev rfl) (a.ev rfl)) (Tq.va rfl (fun _ _ a c => zo (a.ev rfl) (a.ev rfl)) (Tq.build (vs := [(0, iv (w64 (p2.X + (w64 ((w64 (zE5 * p1.At.X)) * p0.p.Unit))))), (1, iv (w64 (p2.Y + (w64 ((w64 (zDQ * p1.At.Y)) * p0.p.Unit)))))]) (cs := [iv (w64 (p2.X + (w64 ((w64 (zE5 * p1.At.X)) * p0.p.Unit)))), iv (w64 (p2.Y + (w64 ((w64 (zDQ * p1.At.Y)) * p0.p.Unit))))]) (wn rfl) rfl (zi rfl (zi rfl QW)) (by kernel_rfl) (Tq.zFi (vs := []) (wn rfl) rfl zP (Tq.fin (.cons rfl (.cons rfl (.cons rfl (.cons rfl (.cons rfl (.cons rfl (.cons rfl (.cons rfl (.cons rfl (.cons rfl (.cons rfl (.cons rfl (.cons rfl (.cons rfl (.cons rfl (.cons rfl (.cons rfl (.cons rfl (.cons rfl (.cons rfl (.cons rfl (.cons rfl (.cons rfl (.cons rfl (.cons rfl (.cons rfl (.cons rfl (.cons rfl (.cons rfl (.cons rfl (.cons rfl (.cons rfl (.cons rfl (.cons rfl (.cons rfl (.cons rfl (.cons rfl (.cons rfl (.cons rfl (.cons rfl (.cons rfl .nil))))))))))))))))))))))))))))))))))))))))))))))
            ·intro bs477
             refine Tr.sel (lf := [(0, pV bp0), (4, pV zw), (5, pV Qw), (8, iv zDQ), (10, .pointer (some ⟨(bs477 29), 0, none⟩)), (68, iv p1.NY), (69, iv zDQ), (73, iv p1.NX), (74, iv zE5), (105, .agg #[iv (w64 (p2.X + (w64 ((w64 (zE5 * p1.At.X)) * p0.p.Unit)))), iv (w64 (p2.Y + (w64 ((w64 (zDQ * p1.At.Y)) * p0.p.Unit))))])]) (le := [(0, bx bp0 #[iv p0.p.Unit, sL zF p0.p.Tools zG, sL zN p0.p.Steps zM, sL QH p0.tools QI, sL zLu zMC zLW, bV zPg, iv zPf, iv zPe, iv zPd, bV zPc, iv zPb, iv zPa] 77), (1, ow zLu zLW 80 zS zMC), (2, bx zw #[iv p1.Kind, sv p1.Name, iv p1.At.X, iv p1.At.Y, sL QB p1.Points QA, iv p1.NX, iv p1.NY, sL Jz p1.Steps Jn] 59), (3, bx Qw #[iv p2.X, iv p2.Y] 27), (22, bx (bs477 29) #[iv 0, iv 0] 27)]) (.cons rfl (.cons rfl (.cons rfl (.cons rfl (.cons rfl (.cons rfl (.cons rfl (.cons rfl (.cons rfl (.cons rfl .nil)))))))))) (.cons rfl (.cons rfl (.cons rfl (.cons rfl (.cons rfl .nil))))) (Tr.store 22 (cs := [iv (w64 (p2.X + (w64 ((w64 (zE5 * p1.At.X)) * p0.p.Unit)))), iv (w64 (p2.Y + (w64 ((w64 (zDQ * p1.At.Y)) * p0.p.Unit))))]) [iv (w64 (p2.X + (w64 ((w64 (zE5 * p1.At.X)) * p0.p.Unit)))), iv (w64 (p2.Y + (w64 ((w64 (zDQ * p1.At.Y)) * p0.p.Unit))))] (wn rfl) rfl rfl rfl rfl JG rfl rfl rfl (Tr.nil (Tr.zA (Tr.sr (Tr.mv rfl rfl (Tr.va rfl (fun _ _ a c => zB zEF (a.ev rfl)) (Tr.va rfl (fun _ _ a c => zD zEg (a.ev rfl) (rdb c (vs := [iv p1.Kind, sv p1.Name, iv p1.At.X, iv p1.At.Y, sL QB p1.Points QA, iv p1.NX, iv p1.NY, sL Jz p1.Steps Jn]) (k := 2) rfl 7) rfl) (Tr.va rfl (fun _ _ a c => zX (cs := [iv (w64 (p2.X + (w64 ((w64 (zE5 * p1.At.X)) * p0.p.Unit)))), iv (w64 (p2.Y + (w64 ((w64 (zDQ * p1.At.Y)) * p0.p.Unit))))]) Kk JG (a.ev rfl) (zO.take (rdb c (vs := [iv (w64 (p2.X + (w64 ((w64 (zE5 * p1.At.X)) * p0.p.Unit)))), iv (w64 (p2.Y + (w64 ((w64 (zDQ * p1.At.Y)) * p0.p.Unit))))]) (k := 22) rfl 0) 2) rfl) ?_))))))))
             obtain ⟨zBC, zkG, H⟩ := bnd H
             refine Tr.VC [0, 1] [bx bp0 #[iv p0.p.Unit, sL zF p0.p.Tools zG, sL zN p0.p.Steps zM, sL QH p0.tools QI, sL zLu zMC zLW, bV zPg, iv zPf, iv zPe, iv zPd, bV zPc, iv zPb, iv zPa] 77, ow zLu zLW 80 zS zMC] (U := (Option Addr × Nat)) (fun u => (iv zBC.1)) (fun O W u => SlF u.1 zBC.2.2.2.2.2.2.2.2.length u.2) (fun u => [bx bp0 #[iv p0.p.Unit, sL zF p0.p.Tools zG, sL zN p0.p.Steps zM, sL QH p0.tools QI, sL u.1 zBC.2.2.2.2.2.2.2.2 u.2, bV zBC.2.1, iv zBC.2.2.1, iv zBC.2.2.2.1, iv zBC.2.2.2.2.1, bV zBC.2.2.2.2.2.1, iv zBC.2.2.2.2.2.2.1, iv zBC.2.2.2.2.2.2.2.1] 77, ow u.1 u.2 80 zS zBC.2.2.2.2.2.2.2.2]) rfl (zQ rfl (zQ rfl za)) (fun _ => rfl) (wn rfl) rfl Tryz.call62 (zH rfl (zH rfl (zH rfl zP))) (fun W hW hp hE => hrec (QM.mk p0.p p0.tools zMC zPg zPf (zI.mk zPe zPd) zPc zPb zPa) zF zG (zT.ext (hW.JE hp)) zN zM (QV.ext (hW.JE hp)) QH QI (Kb.ext (hW.JE hp)) zLu zLW bp0 p1.Steps Jz Jn (zM3.ext (hW.JE hp)) (zI.mk (w64 (p2.X + (w64 ((w64 (zE5 * p1.At.X)) * p0.p.Unit)))) (w64 (p2.Y + (w64 ((w64 (zDQ * p1.At.Y)) * p0.p.Unit))))) zBC zkG hE) ?_
             intro w u zd4 hu
             obtain ⟨zSH, zR0⟩ := u
             have gy478_0 := hu
             replace leB := leB.trans zd4
             replace zGC := zGC.trans zd4
             have zTi : SlF zSH zBC.2.2.2.2.2.2.2.2.length zR0 := gy478_0 --@phi
             dsimp only
             refine Tr.asg rfl rfl (Tr.nil (Tr.zA (Tr.sr (Tr.mv rfl rfl (Tr.va rfl (fun _ _ a c => Jm (a.ev rfl) (a.ev rfl)) (Tr.nil (Tr.zA (Tr.cond rfl H (fun H => ?_) (fun H => ?_)))))))))
             ·refine Tr.sr (Tr.mv rfl rfl (Tr.asg rfl rfl (Tr.nil (Tr.zA (Tr.ret (Tr.QP (Tr.zb (Tr.zb (Tr.QP (Tr.QP (Tr.zb (Tr.zb (Tr.QP (Tr.QP (Tr.zb ?_)))))))))))))))
              obtain rfl := oI H
              exact Tr.out (m := [iv zBC.1]) [] (zU rfl zV) (fun W hW => ⟨w, (zSH, zR0), leB, rfl, zTi, hW.pick (ks := [0, 1]) (by decide) (zQ rfl (zQ rfl za))⟩)
             ·exact Tr.skip (Tr.zh (Tr.zA (Tr.region (Tr.va rfl (fun _ _ a c => zo (a.ev rfl) (a.ev rfl)) (Tr.mv rfl rfl (Tr.nil (Tr.zf zGC (zBC.2.2.2.2.2.2.2.2, zBC.2.1, zBC.2.2.1, zBC.2.2.2.1, zBC.2.2.2.2.1, zBC.2.2.2.2.2.1, zBC.2.2.2.2.2.2.1, zBC.2.2.2.2.2.2.2.1, (w64 (zE5 + 1)), zSH, zR0) ⟨H, zTi⟩ (.cons rfl (.cons rfl (.cons rfl (.cons rfl (.cons rfl (.cons rfl (.cons rfl (.cons rfl .nil)))))))) (.cons rfl (.cons rfl (.cons rfl (.cons rfl .nil)))))))))))
           ·exact Tr.exit (Tr.ze (Tr.ze (Tr.QK (Tr.zh (Tr.zA (Tr.region (Tr.va rfl (fun _ _ a c => zo (a.ev rfl) (a.ev rfl)) (Tr.mv rfl rfl (Tr.nil (Tr.zf zEv (zMC, zPg, zPf, zPe, zPd, zPc, zPb, zPa, (w64 (zDQ + 1)), zLu, zLW) ⟨H, zZ6⟩ (.cons rfl (.cons rfl (.cons rfl (.cons rfl (.cons rfl .nil))))) (.cons rfl (.cons rfl (.cons rfl (.cons rfl .nil))))))))))))))
          ·exact Tr.exit (Tr.ze (Tr.ze (Tr.QK (Tr.zh (Tr.zf leJ295 (zU3, zXl, zXk, zXj, zXi, zXh, zXg, zXf, zbh, zbA) ⟨H, zWG⟩ .nil (.cons rfl (.cons rfl .nil)))))))
         ·exact Tr.skip (Tr.zh (Tr.zf leJ295 (p0.image, p0.clear, p0.tool, p0.place.X, p0.place.Y, p0.placed, p0.off, p0.on, QN, QL) ⟨H, zAB⟩ .nil (.cons rfl (.cons rfl .nil))))
 ·intro w s hlJ296 hs
  obtain ⟨zcS, zXo, zXn, zUa, zUZ, zeu, zet, zes, zeo, zef⟩ := s
  obtain ⟨H, zaC⟩ := hs
  replace H : JB zcS zXo zXn zUa zUZ zeu zet zes = some r := H
  replace leB := leB.trans hlJ296
  replace zaC : SlF zeo zcS.length zef := zaC
  unfold JB at H
  dsimp only
  refine Tr.sr (Tr.asg rfl rfl (Tr.nil (Tr.zA (Tr.ret ?_))))
  obtain rfl := oI H
  exact Tr.out (m := [iv 0]) [] (zU rfl zV) (fun W hW => ⟨w, (zeo, zef), leB, rfl, zaC, hW.pick (ks := [0, 1]) (by decide) (zQ rfl (zQ rfl za))⟩)
theorem zGh (N : Nat) (rec : QM → (List zC) → zI → Option (Int × Bool × Int × Int × Int × Bool × Int × Int × (List zZ))) (hrec : ∀ {w : Bs} (p0 : QM) (zF : Option Addr) (zG : Nat) (zT : Sl w.R w.W zW zF zG p0.p.Tools) (zN : Option Addr) (zM : Nat) (QV : Sl w.R w.W zJ zN zM p0.p.Steps) (QH : Option Addr) (QI : Nat) (Kb : Sl w.R w.W JJ QH QI p0.tools) (QN : Option Addr) (QL : Nat) (bp0 : Nat) (p1 : (List zC)) (QB : Option Addr) (QA : Nat) (Qt : Sl w.R w.W zJ QB QA p1) (p2 : zI) (r : (Int × Bool × Int × Int × Int × Bool × Int × Int × (List zZ))) (H : rec p0 p1 p2 = some r) (hE : HF w w.W (LEn [bx bp0 #[iv p0.p.Unit, sL zF p0.p.Tools zG, sL zN p0.p.Steps zM, sL QH p0.tools QI, sL QN p0.image QL, bV p0.clear, iv p0.tool, iv p0.place.X, iv p0.place.Y, bV p0.placed, iv p0.off, iv p0.on] 77, ow QN QL 80 zS p0.image])), Calls Tryz.prog 62 [pV bp0, sL QB p1 QA, .agg #[iv p2.X, iv p2.Y]].toArray w.W fun e W' => ∃ (w' : Bs) (u : (Option Addr × Nat)), w.Le w' ∧ e = .returned (iv r.1) ∧ (SlF u.1 r.2.2.2.2.2.2.2.2.length u.2) ∧ HF w' W' (LEn [bx bp0 #[iv p0.p.Unit, sL zF p0.p.Tools zG, sL zN p0.p.Steps zM, sL QH p0.tools QI, sL u.1 r.2.2.2.2.2.2.2.2 u.2, bV r.2.1, iv r.2.2.1, iv r.2.2.2.1, iv r.2.2.2.2.1, bV r.2.2.2.2.2.1, iv r.2.2.2.2.2.2.1, iv r.2.2.2.2.2.2.2.1] 77, ow u.1 u.2 80 zS r.2.2.2.2.2.2.2.2])) {w : Bs} (p0 : QM) (zF : Option Addr) (zG : Nat) (zT : Sl w.R w.W zW zF zG p0.p.Tools) (zN : Option Addr) (zM : Nat) (QV : Sl w.R w.W zJ zN zM p0.p.Steps) (QH : Option Addr) (QI : Nat) (Kb : Sl w.R w.W JJ QH QI p0.tools) (QN : Option Addr) (QL : Nat) (bp0 : Nat) (p1 : (List zC)) (QB : Option Addr) (QA : Nat) (Qt : Sl w.R w.W zJ QB QA p1) (p2 : zI) (r : (Int × Bool × Int × Int × Int × Bool × Int × Int × (List zZ))) (H : zB2 N rec p0 p1 p2 = some r) (hE : HF w w.W (LEn [bx bp0 #[iv p0.p.Unit, sL zF p0.p.Tools zG, sL zN p0.p.Steps zM, sL QH p0.tools QI, sL QN p0.image QL, bV p0.clear, iv p0.tool, iv p0.place.X, iv p0.place.Y, bV p0.placed, iv p0.off, iv p0.on] 77, ow QN QL 80 zS p0.image])) : Calls Tryz.prog 62 [pV bp0, sL QB p1 QA, .agg #[iv p2.X, iv p2.Y]].toArray w.W fun e W' => ∃ (w' : Bs) (u : (Option Addr × Nat)), w.Le w' ∧ e = .returned (iv r.1) ∧ (SlF u.1 r.2.2.2.2.2.2.2.2.length u.2) ∧ HF w' W' (LEn [bx bp0 #[iv p0.p.Unit, sL zF p0.p.Tools zG, sL zN p0.p.Steps zM, sL QH p0.tools QI, sL u.1 r.2.2.2.2.2.2.2.2 u.2, bV r.2.1, iv r.2.2.1, iv r.2.2.2.1, iv r.2.2.2.2.1, bV r.2.2.2.2.2.1, iv r.2.2.2.2.2.2.1, iv r.2.2.2.2.2.2.2.1] 77, ow u.1 u.2 80 zS r.2.2.2.2.2.2.2.2]) := by
 unfold zB2 at H
 have zAB := (hE.sl (k := 1) rfl).form
 have leB := Bs.Le.refl w
 refine Tr.enter (n := 24) Tryz.func62 rfl rfl rfl hE (Tr.sr (Tr.box 2 (cs := [iv p2.X, iv p2.Y]) (wn rfl) rfl rfl rfl fun zw => (Tr.asg rfl rfl (Tr.nil (Tr.zA (Tr.seq (Tr.sr (Tr.mv rfl rfl (Tr.va rfl (fun _ _ a c => QF zF8 (a.ev rfl)) (Tr.mv rfl rfl (Tr.nil (Tr.zA (Tr.block (Tr.loop (σ := (List zC) × Nat × (List zZ) × Bool × Int × Int × Int × Bool × Int × Int × (Option Addr) × Nat) (fun m w s => m = s.1.length + 1 ∧ s.1 = List.drop s.2.1 p1 ∧ s.2.1 ≤ p1.length ∧ JS N p0 p2 rec s.1 s.2.1 s.2.2.1 s.2.2.2.1 s.2.2.2.2.1 s.2.2.2.2.2.1 s.2.2.2.2.2.2.1 s.2.2.2.2.2.2.2.1 s.2.2.2.2.2.2.2.2.1 s.2.2.2.2.2.2.2.2.2.1 = some r ∧ SlF s.2.2.2.2.2.2.2.2.2.2.1 s.2.2.1.length s.2.2.2.2.2.2.2.2.2.2.2) (fun s => [(0, pV bp0), (5, pV zw), (10, sL QB p1 QA), (11, iv (p1.length : Int)), (12, iv (s.2.1 : Int))]) (fun s => [(0, bx bp0 #[iv p0.p.Unit, sL zF p0.p.Tools zG, sL zN p0.p.Steps zM, sL QH p0.tools QI, sL s.2.2.2.2.2.2.2.2.2.2.1 s.2.2.1 s.2.2.2.2.2.2.2.2.2.2.2, bV s.2.2.2.1, iv s.2.2.2.2.1, iv s.2.2.2.2.2.1, iv s.2.2.2.2.2.2.1, bV s.2.2.2.2.2.2.2.1, iv s.2.2.2.2.2.2.2.2.1, iv s.2.2.2.2.2.2.2.2.2.1] 77), (1, ow s.2.2.2.2.2.2.2.2.2.2.1 s.2.2.2.2.2.2.2.2.2.2.2 80 zS s.2.2.1), (2, bx zw #[iv p2.X, iv p2.Y] 27)]) (p1.length + 1) (p1, 0, p0.image, p0.clear, p0.tool, p0.place.X, p0.place.Y, p0.placed, p0.off, p0.on, QN, QL) ⟨rfl, rfl, Nat.zero_le _, H, zAB⟩ (.cons rfl (.cons rfl (.cons rfl (.cons rfl (.cons rfl .nil))))) (.cons rfl (.cons rfl (.cons rfl .nil))) (fun _ _ h => absurd h.1 (by simp)) ?_))))))))))))))
 intro w Qc m s hs
 obtain ⟨zY, iL1, zRa, zKf, zUh, zUg, zUf, zUe, zUd, zUc, zUS, zT9⟩ := s
 obtain ⟨Ki, QE, hiL1, H, zaG⟩ := hs
 replace QE : zY = List.drop iL1 p1 := QE
 replace H : JS N p0 p2 rec zY iL1 zRa zKf zUh zUg zUf zUe zUd zUc = some r := H
 replace Ki : m + 1 = zY.length + 1 := Ki
 replace zT := zT.leR Qc
 replace QV := QV.leR Qc
 replace Kb := Kb.leR Qc
 replace Qt := Qt.leR Qc
 replace leB := leB.trans Qc
 replace zaG : SlF zUS zRa.length zT9 := zaG
 obtain rfl : m = zY.length := by omega
 clear Ki
 dsimp only
 cases zY with
 | nil =>
  rw [JS.eq_1] at H
  refine Tr.sr (Tr.va rfl (fun _ _ a c => QD (a.ev rfl) (a.ev rfl)) (Tr.nil (Tr.zA (Tr.seq (Tr.Vy rfl (JA QE) (Tr.exit (Tr.ze (Tr.ze (Tr.QK (Tr.zA (Tr.sr (Tr.asg rfl rfl (Tr.nil (Tr.zA (Tr.ret ?_)))))))))))))))
  obtain rfl := oI H
  exact Tr.out (m := [iv 0]) [] (zU rfl zV) (fun W hW => ⟨w, (zUS, zT9), leB, rfl, zaG, hW.pick (ks := [0, 1]) (by decide) (zQ rfl (zQ rfl za))⟩)
 | cons xL1 zY =>
  rw [JS.eq_2] at H
  refine Tr.sr (Tr.va rfl (fun _ _ a c => QD (a.ev rfl) (a.ev rfl)) (Tr.nil (Tr.zA (Tr.seq (Tr.Vx rfl (JU QE) (Tr.skip (Tr.zA (Tr.seq (Tr.block (Tr.sr ?_))))))))))
  obtain ⟨zoH, hRu146, zcm, hcu146⟩ := (Qt).el (KH QE)
  obtain ⟨⟨zIA, zHq⟩, ⟨zH9, zHp⟩⟩ := zoH
  obtain ⟨zML, zMK⟩ := WI.1 zcm
  replace zML : Sl w.R w.W zz zIA zHq xL1.Points := zML
  replace zMK : Sl w.R w.W zJ zH9 zHp xL1.Steps := zMK
  refine Tr.va rfl (fun _ _ a c => zL zIs (a.ev rfl) Qt.form (a.ev rfl) (Int.natCast_nonneg _) (QC QE)) (Tr.va rfl (fun _ _ a c => zX (cs := [iv xL1.Kind, sv xL1.Name, iv xL1.At.X, iv xL1.At.Y, sL zIA xL1.Points zHq, iv xL1.NX, iv xL1.NY, sL zH9 xL1.Steps zHp]) zLb zET (a.ev rfl) (zO.take (rdR hRu146 hcu146 c) 8) rfl) (Tr.alloc 5 (wn rfl) rfl zSP fun zpE => (Tr.store 5 (cs := [iv xL1.Kind, sv xL1.Name, iv xL1.At.X, iv xL1.At.Y, sL zIA xL1.Points zHq, iv xL1.NX, iv xL1.NY, sL zH9 xL1.Steps zHp]) [iv xL1.Kind, sv xL1.Name, iv xL1.At.X, iv xL1.At.Y, sL zIA xL1.Points zHq, iv xL1.NX, iv xL1.NY, sL zH9 xL1.Steps zHp] (wn rfl) rfl rfl rfl rfl zET rfl rfl rfl (Tr.nil (Tr.zA (Tr.sr (Tr.mv rfl rfl (Tr.va rfl (fun _ _ a c => zX (cs := [iv xL1.Kind, sv xL1.Name, iv xL1.At.X, iv xL1.At.Y, sL zIA xL1.Points zHq, iv xL1.NX, iv xL1.NY, sL zH9 xL1.Steps zHp]) zLb zET (a.ev rfl) (zO.take (rdb c (vs := [iv xL1.Kind, sv xL1.Name, iv xL1.At.X, iv xL1.At.Y, sL zIA xL1.Points zHq, iv xL1.NX, iv xL1.NY, sL zH9 xL1.Steps zHp]) (k := 5) rfl 0) 8) rfl) (Tr.va rfl (fun _ _ a c => zX (cs := [iv p2.X, iv p2.Y]) Kk JG (a.ev rfl) (zO.take (rdb c (vs := [iv p2.X, iv p2.Y]) (k := 2) rfl 0) 2) rfl) ?_)))))))))
  obtain ⟨zBD, zks, H⟩ := bnd H
  refine Tr.VC [0, 1] [bx bp0 #[iv p0.p.Unit, sL zF p0.p.Tools zG, sL zN p0.p.Steps zM, sL QH p0.tools QI, sL zUS zRa zT9, bV zKf, iv zUh, iv zUg, iv zUf, bV zUe, iv zUd, iv zUc] 77, ow zUS zT9 80 zS zRa] (U := (Option Addr × Nat)) (fun u => (iv zBD.1)) (fun O W u => SlF u.1 zBD.2.2.2.2.2.2.2.2.length u.2) (fun u => [bx bp0 #[iv p0.p.Unit, sL zF p0.p.Tools zG, sL zN p0.p.Steps zM, sL QH p0.tools QI, sL u.1 zBD.2.2.2.2.2.2.2.2 u.2, bV zBD.2.1, iv zBD.2.2.1, iv zBD.2.2.2.1, iv zBD.2.2.2.2.1, bV zBD.2.2.2.2.2.1, iv zBD.2.2.2.2.2.2.1, iv zBD.2.2.2.2.2.2.2.1] 77, ow u.1 u.2 80 zS zBD.2.2.2.2.2.2.2.2]) rfl (zQ rfl (zQ rfl za)) (fun _ => rfl) (wn rfl) rfl Tryz.call75 (zH rfl (zH rfl (zH rfl zP))) (fun W hW hp hE => zHC rec hrec N (QM.mk p0.p p0.tools zRa zKf zUh (zI.mk zUg zUf) zUe zUd zUc) zF zG (zT.ext (hW.JE hp)) zN zM (QV.ext (hW.JE hp)) QH QI (Kb.ext (hW.JE hp)) zUS zT9 bp0 xL1 zIA zHq (zML.ext (hW.JE hp)) zH9 zHp (zMK.ext (hW.JE hp)) p2 zBD zks hE) ?_
  intro w u zWC hu
  obtain ⟨zSJ, zR2⟩ := u
  have gy148_0 := hu
  replace Qt := Qt.leR zWC
  replace hRu146 := zWC.r _ hRu146
  replace leB := leB.trans zWC
  replace Qc := Qc.trans zWC
  have zTj : SlF zSJ zBD.2.2.2.2.2.2.2.2.length zR2 := gy148_0 --@phi
  dsimp only
  refine Tr.asg rfl rfl (Tr.nil (Tr.zA (Tr.sr (Tr.mv rfl rfl (Tr.va rfl (fun _ _ a c => Jm (a.ev rfl) (a.ev rfl)) (Tr.nil (Tr.zA (Tr.cond rfl H (fun H => ?_) (fun H => ?_)))))))))
  ·refine Tr.sr (Tr.mv rfl rfl (Tr.asg rfl rfl (Tr.nil (Tr.zA (Tr.ret (Tr.QP (Tr.zb (Tr.zb (Tr.QP (Tr.zb ?_))))))))))
   obtain rfl := oI H
   exact Tr.out (m := [iv zBD.1]) [] (zU rfl zV) (fun W hW => ⟨w, (zSJ, zR2), leB, rfl, zTj, hW.pick (ks := [0, 1]) (by decide) (zQ rfl (zQ rfl za))⟩)
  ·exact Tr.skip (Tr.zh (Tr.zA (Tr.region (Tr.va rfl (fun _ _ a c => zo (a.ev rfl) (a.ev rfl)) (Tr.mv rfl rfl (Tr.nil (Tr.zf Qc (zY, (iL1 + 1), zBD.2.2.2.2.2.2.2.2, zBD.2.1, zBD.2.2.1, zBD.2.2.2.1, zBD.2.2.2.2.1, zBD.2.2.2.2.2.1, zBD.2.2.2.2.2.2.1, zBD.2.2.2.2.2.2.2.1, zSJ, zR2) ⟨rfl, Qe QE, QC QE, H, zTj⟩ (.cons rfl (.cons rfl (.cons rfl (.cons rfl (.cons (congrArg (fun z => some (Value.int .i64 z)) (Qd QE Qt.form)) .nil))))) (.cons rfl (.cons rfl (.cons rfl .nil))))))))))
theorem zDo : ∀ (N : Nat) {w : Bs} (p0 : QM) (zF : Option Addr) (zG : Nat) (zT : Sl w.R w.W zW zF zG p0.p.Tools) (zN : Option Addr) (zM : Nat) (QV : Sl w.R w.W zJ zN zM p0.p.Steps) (QH : Option Addr) (QI : Nat) (Kb : Sl w.R w.W JJ QH QI p0.tools) (QN : Option Addr) (QL : Nat) (bp0 : Nat) (p1 : (List zC)) (QB : Option Addr) (QA : Nat) (Qt : Sl w.R w.W zJ QB QA p1) (p2 : zI) (r : (Int × Bool × Int × Int × Int × Bool × Int × Int × (List zZ))) (H : Vq N p0 p1 p2 = some r) (hE : HF w w.W (LEn [bx bp0 #[iv p0.p.Unit, sL zF p0.p.Tools zG, sL zN p0.p.Steps zM, sL QH p0.tools QI, sL QN p0.image QL, bV p0.clear, iv p0.tool, iv p0.place.X, iv p0.place.Y, bV p0.placed, iv p0.off, iv p0.on] 77, ow QN QL 80 zS p0.image])), Calls Tryz.prog 62 [pV bp0, sL QB p1 QA, .agg #[iv p2.X, iv p2.Y]].toArray w.W fun e W' => ∃ (w' : Bs) (u : (Option Addr × Nat)), w.Le w' ∧ e = .returned (iv r.1) ∧ (SlF u.1 r.2.2.2.2.2.2.2.2.length u.2) ∧ HF w' W' (LEn [bx bp0 #[iv p0.p.Unit, sL zF p0.p.Tools zG, sL zN p0.p.Steps zM, sL QH p0.tools QI, sL u.1 r.2.2.2.2.2.2.2.2 u.2, bV r.2.1, iv r.2.2.1, iv r.2.2.2.1, iv r.2.2.2.2.1, bV r.2.2.2.2.2.1, iv r.2.2.2.2.2.2.1, iv r.2.2.2.2.2.2.2.1] 77, ow u.1 u.2 80 zS r.2.2.2.2.2.2.2.2])
 | 0 => by intros; rename_i H _; cases H
 | N + 1 => zGh N (Vq N) (zDo N)

theorem zNQ (N : Nat) {w : Bs} (p0 : zt) (zF : Option Addr) (zG : Nat) (zT : Sl w.O w.W zW zF zG p0.Tools) (zN : Option Addr) (zM : Nat) (QV : Sl w.O w.W zJ zN zM p0.Steps) (r : (QM × Int)) (H : zDp N p0 = some r) (hE : HF w w.W (LEn [emp, emp, emp])) : Calls Tryz.prog 31 [.agg #[iv p0.Unit, sL zF p0.Tools zG, sL zN p0.Steps zM]].toArray w.W fun e W' => ∃ (w' : Bs) (u : (Option Addr × Nat) × (Option Addr × Nat) × (Option Addr × Nat) × (Option Addr × Nat) × (Option Addr × Nat)), w.Le w' ∧ e = .returned (.tuple #[.pointer (some ⟨u.2.2.2.2.2, 0, none⟩), iv r.2]) ∧ (Sl w'.O w'.W zW u.1.1 u.1.2 r.1.p.Tools ∧ Sl w'.O w'.W zJ u.2.1.1 u.2.1.2 r.1.p.Steps ∧ SlF u.2.2.1.1 r.1.tools.length u.2.2.1.2 ∧ SlF u.2.2.2.1.1 r.1.image.length u.2.2.2.1.2 ∧ True) ∧ HF w' W' (LEn [ow u.2.2.1.1 u.2.2.1.2 44 JJ r.1.tools, ow u.2.2.2.1.1 u.2.2.2.1.2 80 zS r.1.image, bx u.2.2.2.2.2 #[iv r.1.p.Unit, sL u.1.1 r.1.p.Tools u.1.2, sL u.2.1.1 r.1.p.Steps u.2.1.2, sL u.2.2.1.1 r.1.tools u.2.2.1.2, sL u.2.2.2.1.1 r.1.image u.2.2.2.1.2, bV r.1.clear, iv r.1.tool, iv r.1.place.X, iv r.1.place.Y, bV r.1.placed, iv r.1.off, iv r.1.on] 77]) := by
 unfold zDp at H
 have leB := Bs.Le.refl w
 refine Tr.enter (n := 13) Tryz.func31 rfl rfl rfl hE (Tr.sr (Tr.box 1 (cs := [iv p0.Unit, sL zF p0.Tools zG, sL zN p0.Steps zM]) (wn rfl) rfl rfl rfl fun zw => (Tr.asg rfl rfl (Tr.asg rfl rfl (Tr.nil (Tr.zA (Tr.sr (Tr.va rfl (fun _ _ a c => zX (cs := [iv p0.Unit, sL zF p0.Tools zG, sL zN p0.Steps zM]) Wt Kn (a.ev rfl) (zO.take (rdb c (vs := [iv p0.Unit, sL zF p0.Tools zG, sL zN p0.Steps zM]) (k := 1) rfl 0) 3) rfl) ?_))))))))
 obtain ⟨y101, hy101, H⟩ := bnd H
 refine Tr.VC [2, 3, 4] [emp, emp, emp] (U := (Option Addr × Nat) × (Option Addr × Nat) × (Option Addr × Nat) × (Option Addr × Nat) × (Option Addr × Nat)) (fun u => (.pointer (some ⟨u.2.2.2.2.2, 0, none⟩))) (fun O W u => Sl O W zW u.1.1 u.1.2 y101.p.Tools ∧ Sl O W zJ u.2.1.1 u.2.1.2 y101.p.Steps ∧ SlF u.2.2.1.1 y101.tools.length u.2.2.1.2 ∧ SlF u.2.2.2.1.1 y101.image.length u.2.2.2.1.2 ∧ True) (fun u => [ow u.2.2.1.1 u.2.2.1.2 44 JJ y101.tools, ow u.2.2.2.1.1 u.2.2.2.1.2 80 zS y101.image, bx u.2.2.2.2.2 #[iv y101.p.Unit, sL u.1.1 y101.p.Tools u.1.2, sL u.2.1.1 y101.p.Steps u.2.1.2, sL u.2.2.1.1 y101.tools u.2.2.1.2, sL u.2.2.2.1.1 y101.image u.2.2.2.1.2, bV y101.clear, iv y101.tool, iv y101.place.X, iv y101.place.Y, bV y101.placed, iv y101.off, iv y101.on] 77]) rfl (zQ rfl (zQ rfl (zQ rfl za))) (fun _ => rfl) (wn rfl) rfl Tryz.call61 (zH rfl zP) (fun W hW hp hE => zI7 N p0 zF zG (zT.zAS (hW.JE hp)) zN zM (QV.zAS (hW.JE hp)) y101 hy101 hE) ?_
 intro w u zWD hu
 obtain ⟨⟨zBm, zBe⟩, ⟨zLs, zLU⟩, ⟨zLr, zLT⟩, ⟨zNt, zNh⟩, ⟨zno, zLS⟩⟩ := u
 obtain ⟨gy101_0, gy101_1, gy101_2, gy101_3, gy101_4⟩ := hu
 replace QV := QV.le zWD
 replace leB := leB.trans zWD
 have zDc : Sl w.O w.W zW zBm zBe y101.p.Tools := gy101_0 --@phi
 have zLB : Sl w.O w.W zJ zLs zLU y101.p.Steps := gy101_1 --@phi
 have zai : SlF zLr y101.tools.length zLT := gy101_2 --@phi
 have zmr : SlF zNt y101.image.length zNh := gy101_3 --@phi
 have zmq : True := gy101_4 --@phi
 dsimp only
 refine Tr.asg rfl rfl (Tr.nil (Tr.zA (Tr.sr (Tr.mv rfl rfl (Tr.mv rfl rfl (Tr.va rfl (fun _ _ a c => zB zGH (a.ev rfl)) (Tr.va rfl (fun _ _ a c => zD zEg (a.ev rfl) (rdb c (vs := [iv p0.Unit, sL zF p0.Tools zG, sL zN p0.Steps zM]) (k := 1) rfl 2) rfl) (Tr.build (vs := []) (cs := [iv 0, iv 0]) (wn rfl) rfl QW (by kernel_rfl) ?_))))))))
 obtain ⟨zk, zCr, H⟩ := bnd H
 refine Tr.VC [4, 3] [bx zLS #[iv y101.p.Unit, sL zBm y101.p.Tools zBe, sL zLs y101.p.Steps zLU, sL zLr y101.tools zLT, sL zNt y101.image zNh, bV y101.clear, iv y101.tool, iv y101.place.X, iv y101.place.Y, bV y101.placed, iv y101.off, iv y101.on] 77, ow zNt zNh 80 zS y101.image] (U := (Option Addr × Nat)) (fun u => (iv zk.1)) (fun O W u => SlF u.1 zk.2.2.2.2.2.2.2.2.length u.2) (fun u => [bx zLS #[iv y101.p.Unit, sL zBm y101.p.Tools zBe, sL zLs y101.p.Steps zLU, sL zLr y101.tools zLT, sL u.1 zk.2.2.2.2.2.2.2.2 u.2, bV zk.2.1, iv zk.2.2.1, iv zk.2.2.2.1, iv zk.2.2.2.2.1, bV zk.2.2.2.2.2.1, iv zk.2.2.2.2.2.2.1, iv zk.2.2.2.2.2.2.2.1] 77, ow u.1 u.2 80 zS zk.2.2.2.2.2.2.2.2]) rfl (zQ rfl (zQ rfl za)) (fun _ => rfl) (wn rfl) rfl Tryz.call62 (zH rfl (zH rfl (zH rfl zP))) (fun W hW hp hE => zDo N y101 zBm zBe (zDc.rl.ext (hW.JE hp)) zLs zLU (zLB.rl.ext (hW.JE hp)) zLr zLT (hW.slS (k := 2) rfl hp rfl) zNt zNh zLS p0.Steps zN zM (QV.rl.ext (hW.JE hp)) (zI.mk 0 0) zk zCr hE) ?_
 intro w u zQK hu
 obtain ⟨JN, JL⟩ := u
 have gy103_0 := hu
 replace zDc := zDc.le zQK
 replace zLB := zLB.le zQK
 replace leB := leB.trans zQK
 have zG0 : SlF JN zk.2.2.2.2.2.2.2.2.length JL := gy103_0 --@phi
 dsimp only
 refine Tr.asg rfl rfl (Tr.asg rfl rfl (Tr.nil (Tr.zA (Tr.ret ?_))))
 obtain rfl := oI H
 exact Tr.out (m := [pV zLS, iv zk.1]) [] (zU rfl (zU rfl zV)) (fun W hW => ⟨w, ((zBm, zBe), (zLs, zLU), (zLr, zLT), (JN, JL), (none, zLS)), leB, rfl, ⟨zDc, zLB, zai, zG0, trivial⟩, hW.pick (ks := [2, 3, 4]) (by decide) (zQ rfl (zQ rfl (zQ rfl za)))⟩)

theorem zLj (N : Nat) {w : Bs} (p0 : zt) (zF : Option Addr) (zG : Nat) (zT : Sl w.O w.W zW zF zG p0.Tools) (zN : Option Addr) (zM : Nat) (QV : Sl w.O w.W zJ zN zM p0.Steps) (r : ((List zZ) × Int)) (H : zCT N p0 = some r) (hE : HF w w.W (LEn [emp])) : Calls Tryz.prog 10 [.agg #[iv p0.Unit, sL zF p0.Tools zG, sL zN p0.Steps zM]].toArray w.W fun e W' => ∃ (w' : Bs) (u : (Option Addr × Nat)), w.Le w' ∧ e = .returned (.tuple #[sL u.1 r.1 u.2, iv r.2]) ∧ (SlF u.1 r.1.length u.2) ∧ HF w' W' (LEn [ow u.1 u.2 80 zS r.1]) := by
 unfold zCT at H
 have leB := Bs.Le.refl w
 refine Tr.enter (n := 24) Tryz.func10 rfl rfl rfl hE (Tr.sr (Tr.box 1 (cs := [iv p0.Unit, sL zF p0.Tools zG, sL zN p0.Steps zM]) (wn rfl) rfl rfl rfl fun zw => (Tr.asg rfl rfl (Tr.JI 2 80 zS ?_))))
 show Tr _ _ (uf _ 2 (sL none (([] : List zZ)) 0)) _ _
 refine Tr.asg rfl rfl (Tr.nil (Tr.zA (Tr.seq (Tr.sr (Tr.va rfl (fun _ _ a c => zX (cs := [iv p0.Unit, sL zF p0.Tools zG, sL zN p0.Steps zM]) Wt Kn (a.ev rfl) (zO.take (rdb c (vs := [iv p0.Unit, sL zF p0.Tools zG, sL zN p0.Steps zM]) (k := 1) rfl 0) 3) rfl) ?_)))))
 obtain ⟨y101, hy101, H⟩ := bnd H
 refine Tr.Qa (r := (iv y101)) (wn rfl) rfl Tryz.call13 (zH rfl zP) (fun W hW => Wz N p0 zF zG (zT.rl.ext hW.Qr) zN zM (QV.rl.ext hW.Qr) y101 hy101 (HF.start _)) (Tr.asg rfl rfl (Tr.nil (Tr.zA (Tr.sr (Tr.mv rfl rfl (Tr.va rfl (fun _ _ a c => Jm (a.ev rfl) (a.ev rfl)) (Tr.nil (Tr.zA (Tr.cond rfl H (fun H => ?_) (fun H => ?_))))))))))
 ·refine Tr.sr (Tr.mv rfl rfl (Tr.asg rfl rfl (Tr.JI 3 80 zS ?_)))
  show Tr _ _ (uf _ 2 (sL none (([] : List zZ)) 0)) _ _
  refine Tr.asg rfl rfl (Tr.nil (Tr.zA (Tr.ret (Tr.zb ?_))))
  obtain rfl := oI H
  exact Tr.out (m := [sL none (([] : List zZ)) 0, iv y101]) [] (zU rfl (zU rfl zV)) (fun W hW => ⟨w, (none, 0), leB, rfl, Kj, hW.pick (ks := [3]) (by decide) (zQ rfl za)⟩)
 ·refine Tr.skip (Tr.zA (Tr.sr (Tr.va rfl (fun _ _ a c => zX (cs := [iv p0.Unit, sL zF p0.Tools zG, sL zN p0.Steps zM]) Wt Kn (a.ev rfl) (zO.take (rdb c (vs := [iv p0.Unit, sL zF p0.Tools zG, sL zN p0.Steps zM]) (k := 1) rfl 0) 3) rfl) ?_)))
  obtain ⟨y102, hy102, H⟩ := bnd H
  refine Tr.VC [4, 5, 6] [emp, emp, emp] (U := (Option Addr × Nat) × (Option Addr × Nat) × (Option Addr × Nat) × (Option Addr × Nat) × (Option Addr × Nat)) (fun u => (.tuple #[.pointer (some ⟨u.2.2.2.2.2, 0, none⟩), iv y102.2])) (fun O W u => Sl O W zW u.1.1 u.1.2 y102.1.p.Tools ∧ Sl O W zJ u.2.1.1 u.2.1.2 y102.1.p.Steps ∧ SlF u.2.2.1.1 y102.1.tools.length u.2.2.1.2 ∧ SlF u.2.2.2.1.1 y102.1.image.length u.2.2.2.1.2 ∧ True) (fun u => [ow u.2.2.1.1 u.2.2.1.2 44 JJ y102.1.tools, ow u.2.2.2.1.1 u.2.2.2.1.2 80 zS y102.1.image, bx u.2.2.2.2.2 #[iv y102.1.p.Unit, sL u.1.1 y102.1.p.Tools u.1.2, sL u.2.1.1 y102.1.p.Steps u.2.1.2, sL u.2.2.1.1 y102.1.tools u.2.2.1.2, sL u.2.2.2.1.1 y102.1.image u.2.2.2.1.2, bV y102.1.clear, iv y102.1.tool, iv y102.1.place.X, iv y102.1.place.Y, bV y102.1.placed, iv y102.1.off, iv y102.1.on] 77]) rfl (zQ rfl (zQ rfl (zQ rfl za))) (fun _ => rfl) (wn rfl) rfl Tryz.call31 (zH rfl zP) (fun W hW hp hE => zNQ N p0 zF zG (zT.zAS (hW.JE hp)) zN zM (QV.zAS (hW.JE hp)) y102 hy102 hE) ?_
  intro w u zZR hu
  obtain ⟨⟨zJi, zJd⟩, ⟨zXY, zWz⟩, ⟨zXX, zWy⟩, ⟨zNs, zNg⟩, ⟨znn, zne⟩⟩ := u
  obtain ⟨gy102_0, gy102_1, gy102_2, gy102_3, gy102_4⟩ := hu
  replace leB := leB.trans zZR
  have zTn : Sl w.O w.W zW zJi zJd y102.1.p.Tools := gy102_0 --@phi
  have zmp : Sl w.O w.W zJ zXY zWz y102.1.p.Steps := gy102_1 --@phi
  have zmo : SlF zXX y102.1.tools.length zWy := gy102_2 --@phi
  have zah : SlF zNs y102.1.image.length zNg := gy102_3 --@phi
  have zmn : True := gy102_4 --@phi
  dsimp only
  refine Tr.mv rfl rfl (Tr.va rfl (fun _ _ a c => Qb (a.ev rfl) rfl) (Tr.va rfl (fun _ _ a c => Qb (a.ev rfl) rfl) (Tr.asg rfl rfl (Tr.asg rfl rfl (Tr.nil (Tr.zA (Tr.seq (Tr.sr (Tr.mv rfl rfl (Tr.va rfl (fun _ _ a c => Jm (a.ev rfl) (a.ev rfl)) (Tr.nil (Tr.zA (Tr.cond rfl H (fun H => ?_) (fun H => ?_))))))))))))))
  ·refine Tr.sr (Tr.mv rfl rfl (Tr.asg rfl rfl (Tr.JI 7 80 zS ?_)))
   show Tr _ _ (uf _ 2 (sL none (([] : List zZ)) 0)) _ _
   refine Tr.asg rfl rfl (Tr.nil (Tr.zA (Tr.ret (Tr.zb ?_))))
   obtain rfl := oI H
   exact Tr.out (m := [sL none (([] : List zZ)) 0, iv y102.2]) [] (zU rfl (zU rfl zV)) (fun W hW => ⟨w, (none, 0), leB, rfl, Kj, hW.pick (ks := [7]) (by decide) (zQ rfl za)⟩)
  ·refine Tr.skip (Tr.zA (Tr.sr (Tr.mv rfl rfl (Tr.va rfl (fun _ _ a c => zl (a.ev rfl)) (Tr.va rfl (fun _ _ a c => zB zJX (a.ev rfl)) (Tr.va rfl (fun _ _ a c => zD zPO (a.ev rfl) (rdb c (vs := [iv y102.1.p.Unit, sL zJi y102.1.p.Tools zJd, sL zXY y102.1.p.Steps zWz, sL zXX y102.1.tools zWy, sL zNs y102.1.image zNg, bV y102.1.clear, iv y102.1.tool, iv y102.1.place.X, iv y102.1.place.Y, bV y102.1.placed, iv y102.1.off, iv y102.1.on]) (k := 6) rfl 4) rfl) (Tr.asg rfl rfl (Tr.asg rfl rfl (Tr.nil (Tr.zA (Tr.ret ?_)))))))))))
   obtain rfl := oI H
   exact Tr.out (m := [sL zNs y102.1.image zNg, iv 0]) [] (zU rfl (zU rfl zV)) (fun W hW => ⟨w, (zNs, zNg), leB, rfl, zah, hW.pick (ks := [5]) (by decide) (zQ rfl za)⟩)

theorem zEx (N : Nat) {w : Bs} (p0 : zt) (zF : Option Addr) (zG : Nat) (zT : Sl w.O w.W zW zF zG p0.Tools) (zN : Option Addr) (zM : Nat) (QV : Sl w.O w.W zJ zN zM p0.Steps) (r : ((List zK) × Int)) (H : zAF N p0 = some r) (hE : HF w w.W (LEn [emp])) : Calls Tryz.prog 4 [.agg #[iv p0.Unit, sL zF p0.Tools zG, sL zN p0.Steps zM]].toArray w.W fun e W' => ∃ u : (Option Addr × Nat), e = .returned (.tuple #[sL u.1 r.1 u.2, iv r.2]) ∧ (SlF u.1 r.1.length u.2) ∧ HF w W' (LEn [ow u.1 u.2 40 zR r.1]) := by
 unfold zAF at H
 have leB := Bs.Le.refl w
 refine Tr.enter (n := 14) Tryz.func4 rfl rfl rfl hE (Tr.sr (Tr.box 1 (cs := [iv p0.Unit, sL zF p0.Tools zG, sL zN p0.Steps zM]) (wn rfl) rfl rfl rfl fun zw => (Tr.asg rfl rfl (Tr.JI 2 40 zR ?_))))
 show Tr _ _ (uf _ 2 (sL none (([] : List zK)) 0)) _ _
 refine Tr.asg rfl rfl (Tr.nil (Tr.zA (Tr.sr (Tr.va rfl (fun _ _ a c => zX (cs := [iv p0.Unit, sL zF p0.Tools zG, sL zN p0.Steps zM]) Wt Kn (a.ev rfl) (zO.take (rdb c (vs := [iv p0.Unit, sL zF p0.Tools zG, sL zN p0.Steps zM]) (k := 1) rfl 0) 3) rfl) ?_))))
 obtain ⟨y101, hy101, H⟩ := bnd H
 refine Tr.VC [3] [emp] (U := (Option Addr × Nat)) (fun u => (.tuple #[sL u.1 y101.1 u.2, iv y101.2])) (fun O W u => SlF u.1 y101.1.length u.2) (fun u => [ow u.1 u.2 80 zS y101.1]) rfl (zQ rfl za) (fun _ => rfl) (wn rfl) rfl Tryz.call10 (zH rfl zP) (fun W hW hp hE => zLj N p0 zF zG (zT.zAS (hW.JE hp)) zN zM (QV.zAS (hW.JE hp)) y101 hy101 hE) ?_
 intro w u zWD hu
 obtain ⟨zBm, zBe⟩ := u
 have gy101_0 := hu
 replace leB := leB.trans zWD
 have zDc : SlF zBm y101.1.length zBe := gy101_0 --@phi
 dsimp only
 refine Tr.mv rfl rfl (Tr.va rfl (fun _ _ a c => Qb (a.ev rfl) rfl) (Tr.va rfl (fun _ _ a c => Qb (a.ev rfl) rfl) (Tr.asg rfl rfl (Tr.asg rfl rfl (Tr.nil (Tr.zA (Tr.sr (Tr.mv rfl rfl ?_))))))))
 obtain ⟨zk, zCr, H⟩ := bnd H
 refine Tr.VB [4] [emp] (U := (Option Addr × Nat)) (fun u => (sL u.1 zk u.2)) (fun u => SlF u.1 zk.length u.2) (fun u => [ow u.1 u.2 40 zR zk]) rfl (zQ rfl za) (fun _ => rfl) (wn rfl) rfl Tryz.call11 (zH rfl zP) (fun W hW hp hE => Vz N y101.1 zBm zBe (hW.slS (k := 3) rfl hp rfl) zk zCr hE) ?_
 intro u hu
 obtain ⟨JN, JL⟩ := u
 have gy103_0 := hu
 have zG0 : SlF JN zk.length JL := gy103_0 --@phi
 dsimp only
 refine Tr.mv rfl rfl (Tr.asg rfl rfl (Tr.asg rfl rfl (Tr.nil (Tr.zA (Tr.ret ?_)))))
 obtain rfl := oI H
 exact Tr.out (m := [sL JN zk JL, iv y101.2]) [] (zU rfl (zU rfl zV)) (fun W hW => ⟨(JN, JL), rfl, zG0, HF.zGc leB (hW.pick (ks := [4]) (by decide) (zQ rfl za)) ⟨zCJ _ _ _ _ WN, trivial⟩⟩)

theorem zDj {w : Bs} (p0 : Int) (r : ByteArray) (H : zK4 p0 = some r) (hE : HF w w.W E0) : Calls Tryz.prog 33 [iv p0].toArray w.W fun e W' => e = .returned (sv r) ∧ HF w W' E0 :=
 zU8 (ρ := Tryz.zOh) Tryz.zfg H hE

end Go.Proofs.YtneghcpnehiffaaGreatDoor
namespace Go.Proofs
open Go.Shelf
def Tryz.zMc : Go.Shelf.Ren := ⟨fun | 166 => 32 | 240 => 63 | 276 => 76 | n => n, fun | 5 => 5 | 37 => 82 | 70 => 81 | 72 => 84 | 75 => 86 | 80 => 95 | 164 => 129 | n => n, fun n => n⟩
theorem Tryz.znH : Go.Proofs.Lays.n166 Tryz.prog Tryz.zMc := {
 mixed := by kernel_rfl
 f166 := Tryz.func32.trans (congrArg some (by kernel_rfl))
 f240 := Tryz.func63.trans (congrArg some (by kernel_rfl))
 f276 := Tryz.func76.trans (congrArg some (by kernel_rfl))
 t0 := Tryz.underlying0
 a0 := Tryz.isAgg0
 z0 := Tryz.sizeOf0
 v0 := Tryz.zeroValue0
 t3 := Tryz.underlying3
 a3 := Tryz.isAgg3
 z3 := Tryz.sizeOf3
 v3 := Tryz.zeroValue3
 t4 := Tryz.underlying4
 a4 := Tryz.isAgg4
 z4 := Tryz.sizeOf4
 v4 := Tryz.zeroValue4
 t9 := Tryz.underlying9
 a9 := Tryz.isAgg9
 z9 := Tryz.sizeOf9
 v9 := Tryz.zeroValue9
 t20 := Tryz.underlying20
 a20 := Tryz.isAgg20
 z20 := Tryz.sizeOf20
 v20 := Tryz.zeroValue20
 t37 := Tryz.underlying82
 a37 := Tryz.isAgg82
 z37 := Tryz.sizeOf82
 v37 := Tryz.zeroValue82
 t70 := Tryz.underlying81
 a70 := Tryz.isAgg81
 z70 := Tryz.sizeOf81
 v70 := Tryz.zeroValue81
 t72 := Tryz.underlying84
 a72 := Tryz.isAgg84
 z72 := Tryz.sizeOf84
 v72 := Tryz.zeroValue84
 t75 := Tryz.underlying86
 a75 := Tryz.isAgg86
 z75 := Tryz.sizeOf86
 v75 := Tryz.zeroValue86
 t164 := Tryz.underlying129
 a164 := Tryz.isAgg129
 z164 := Tryz.sizeOf129
 v164 := Tryz.zeroValue129
}
end Go.Proofs
namespace Go.Proofs.YtneghcpnehiffaaGreatDoor
open Go.RowKit
theorem zog : Builder.Extra Tryz.prog Tryz.zMc where
 sizeBuilder := by kernel_rfl
 liesBuilder := by kernel_rfl
 t5 := Tryz.underlying5
 a5 := Tryz.isAgg5
 z5 := Tryz.sizeOf5
 v5 := Tryz.zeroValue5
 infoByte := by kernel_rfl
 cellsByte := by kernel_rfl
 sizeByte := by kernel_rfl
 neB5 := by decide
theorem QG {w : Bs} (p0 : ByteArray) (zF : Option Addr) (zG : Nat) (bp0 : Nat) (p1 : ByteArray) (r : ByteArray) (H : sbW p0 p1 = some r) (hE : HF w w.W (LEn [sb 84 5 bp0 zF zG p0])) : Calls Tryz.prog 32 [pV bp0, .string p1].toArray w.W fun e W' => ∃ u : (Option Addr × Nat), e = .returned (.tuple #[.int .i64 p1.size, .nilIface]) ∧ (True) ∧ HF w W' (LEn [sb 84 5 bp0 u.1 u.2 r]) :=
 zY0 (ρ := Tryz.zMc) Tryz.znH zog H hE

theorem zAO {w : Bs} (p0 : (List zI)) (zF : Option Addr) (zG : Nat) (zT : Sl w.R w.W zz zF zG p0) (r : ByteArray) (H : zAI p0 = some r) (hE : HF w w.W E0) : Calls Tryz.prog 34 [sL zF p0 zG].toArray w.W fun e W' => e = .returned (sv r) ∧ HF w W' E0 := by
 unfold zAI at H
 have leB := Bs.Le.refl w
 refine Tr.enter (n := 25) Tryz.func34 rfl rfl rfl hE (Tr.sr (Tr.asg rfl rfl (Tr.nil (Tr.zA (Tr.sr (Tr.asg rfl rfl (Tr.nil (Tr.zA (Tr.seq (Tr.sr (Tr.mv rfl rfl (Tr.va rfl (fun _ _ a c => QF zEy (a.ev rfl)) (Tr.mv rfl rfl (Tr.nil (Tr.zA (Tr.block (Tr.loop (σ := (List zI) × Nat × ByteArray) (fun m w s => m = s.1.length + 1 ∧ s.1 = List.drop s.2.1 p0 ∧ s.2.1 ≤ p0.length ∧ zAP s.1 s.2.1 s.2.2 = some r) (fun s => [(3, sv s.2.2), (6, sL zF p0 zG), (7, iv (p0.length : Int)), (8, iv (s.2.1 : Int))]) (fun s => []) (p0.length + 1) (p0, 0, ByteArray.empty) ⟨rfl, rfl, Nat.zero_le _, H⟩ (.cons rfl (.cons rfl (.cons rfl (.cons rfl .nil)))) .nil (fun _ _ h => absurd h.1 (by simp)) ?_)))))))))))))))))
 intro w Qc m s hs
 obtain ⟨zY, iL1, zF1⟩ := s
 obtain ⟨Ki, QE, hiL1, H⟩ := hs
 replace QE : zY = List.drop iL1 p0 := QE
 replace H : zAP zY iL1 zF1 = some r := H
 replace Ki : m + 1 = zY.length + 1 := Ki
 replace zT := zT.leR Qc
 replace leB := leB.trans Qc
 obtain rfl : m = zY.length := by omega
 clear Ki
 dsimp only
 cases zY with
 | nil =>
  rw [zAP.eq_1] at H
  refine Tr.sr (Tr.va rfl (fun _ _ a c => QD (a.ev rfl) (a.ev rfl)) (Tr.nil (Tr.zA (Tr.seq (Tr.Vy rfl (JA QE) (Tr.exit (Tr.ze (Tr.ze (Tr.QK (Tr.zA (Tr.sr (Tr.mv rfl rfl (Tr.asg rfl rfl (Tr.nil (Tr.zA (Tr.ret ?_))))))))))))))))
  obtain rfl := oI H
  exact Tr.out (m := [sv zF1]) [] (zU rfl zV) (fun W hW => ⟨rfl, hW.low leB⟩)
 | cons xL1 zY =>
  rw [zAP.eq_2] at H
  refine Tr.sr (Tr.va rfl (fun _ _ a c => QD (a.ev rfl) (a.ev rfl)) (Tr.nil (Tr.zA (Tr.seq (Tr.Vx rfl (JU QE) (Tr.skip (Tr.zA (Tr.seq (Tr.block (Tr.sr (Tr.va rfl (fun _ _ a c => zL zEc (a.ev rfl) zT.form (a.ev rfl) (Int.natCast_nonneg _) (QC QE)) (Tr.va rfl (fun _ _ a c => zX (cs := [iv xL1.X, iv xL1.Y]) Kk JG (a.ev rfl) (zO.take (rdF zAL zT (KH QE) c) 2) rfl) (Tr.alloc 3 (wn rfl) rfl zF7 fun zpH => (Tr.store 3 (cs := [iv xL1.X, iv xL1.Y]) [iv xL1.X, iv xL1.Y] (wn rfl) rfl rfl rfl rfl JG rfl rfl rfl (Tr.nil (Tr.zA (Tr.draw (by kernel_rfl) (by kernel_rfl) ?_)))))))))))))))))
  refine Tq.mv rfl rfl (Tq.va rfl (fun _ _ a c => zB Qy (a.ev rfl)) (Tq.va rfl (fun _ _ a c => zD zm (a.ev rfl) (rdb c (vs := [iv xL1.X, iv xL1.Y]) (k := 3) rfl 0) rfl) ?_))
  obtain ⟨Ky, zTV, H⟩ := bnd H
  refine Tq.Qa (r := (sv Ky)) (wn rfl) rfl Tryz.call33 (zH rfl zP) (fun W hW => zDj xL1.X Ky zTV (HF.start _)) ?_
  obtain ⟨zjY, ht125, H⟩ := bnd H
  refine Tq.va rfl (fun _ _ a c => Vk (a.ev rfl) (a.ev rfl) ht125) ?_
  obtain ⟨zjX, ht126, H⟩ := bnd H
  refine Tq.va rfl (fun _ _ a c => Vk (a.ev rfl) (a.ev rfl) ht126) (Tq.va rfl (fun _ _ a c => zB Qx (a.ev rfl)) (Tq.va rfl (fun _ _ a c => zD zm (a.ev rfl) (rdb c (vs := [iv xL1.X, iv xL1.Y]) (k := 3) rfl 1) rfl) ?_))
  obtain ⟨zFy, zTT, H⟩ := bnd H
  refine Tq.Qa (r := (sv zFy)) (wn rfl) rfl Tryz.call33 (zH rfl zP) (fun W hW => zDj xL1.Y zFy zTT (HF.start _)) ?_
  obtain ⟨zjW, ht128, H⟩ := bnd H
  refine Tq.va rfl (fun _ _ a c => Vk (a.ev rfl) (a.ev rfl) ht128) ?_
  obtain ⟨ze6, ht129, H⟩ := bnd H
  exact Tq.va rfl (fun _ _ a c => Vk (a.ev rfl) (a.ev rfl) ht129) (Tq.asg rfl rfl (Tq.nil (Tr.zh (Tr.zA (Tr.region (Tr.va rfl (fun _ _ a c => zo (a.ev rfl) (a.ev rfl)) (Tr.mv rfl rfl (Tr.nil (Tr.zf Qc (zY, (iL1 + 1), ze6) ⟨rfl, Qe QE, QC QE, H⟩ (.cons rfl (.cons rfl (.cons rfl (.cons (congrArg (fun z => some (Value.int .i64 z)) (Qd QE zT.form)) .nil)))) .nil)))))))))

end Go.Proofs.YtneghcpnehiffaaGreatDoor
