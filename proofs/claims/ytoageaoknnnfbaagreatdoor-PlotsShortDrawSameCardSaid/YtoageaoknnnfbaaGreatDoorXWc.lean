/- The walks: each function computes its plain function. -/
import Derived.Test.YtoageaoknnnfbaaGreatDoorXWb
namespace Go.Proofs.YtoageaoknnnfbaaGreatDoor
open Go.RowKit
set_option maxRecDepth 100000
set_option maxHeartbeats 1000000
theorem zBs {w : Bs} (p0 : QU) (zF : Option Addr) (zG : Nat) (zP : Sl w.R w.W zN zF zG p0.p.Tools) (zM : Option Addr) (zL : Nat) (QW : Sl w.R w.W zH zM zL p0.p.Steps) (QN : Option Addr) (QP : Nat) (Kn : Sl w.R w.W JU QN QP p0.tools) (QV : Option Addr) (QT : Nat) (ze7 : Sl w.R w.W zW QV QT p0.image) (bp0 : Nat) (p1 : zJ) (r : (Int × Int × Int × Bool × Int)) (H : KU p0 p1 = some r) (hE : HF w w.W (LEn [bx bp0 #[iv p0.p.Unit, sL zF p0.p.Tools zG, sL zM p0.p.Steps zL, sL QN p0.tools QP, sL QV p0.image QT, bV p0.clear, iv p0.tool, iv p0.place.X, iv p0.place.Y, bV p0.placed, iv p0.off, iv p0.on] 77])) : Calls Tryz.prog 104 [pV bp0, .agg #[iv p1.X, iv p1.Y], .pointer (some ⟨bp0, 10, none⟩)].toArray w.W fun e W' => ∃ u : Unit, e = .returned (iv r.1) ∧ (True) ∧ HF w W' (LEn [bx bp0 #[iv p0.p.Unit, sL zF p0.p.Tools zG, sL zM p0.p.Steps zL, sL QN p0.tools QP, sL QV p0.image QT, bV p0.clear, iv p0.tool, iv r.2.1, iv r.2.2.1, bV r.2.2.2.1, iv r.2.2.2.2, iv p0.on] 77]) := by
 unfold KU at H
 have leB := Bs.Le.refl w
 refine Tr.enter (n := 32) Tryz.func104 rfl rfl rfl hE (Tr.sr (Tr.box 1 (cs := [iv p1.X, iv p1.Y]) (wn rfl) rfl rfl rfl fun zt => (Tr.asg rfl rfl (Tr.nil (Tr.zA (Tr.seq (Tr.sr (Tr.va rfl (fun _ _ a c => zX (cs := [iv p1.X, iv p1.Y]) KT JL (a.ev rfl) (zO.take (rdb c (vs := [iv p1.X, iv p1.Y]) (k := 1) rfl 0) 2) rfl) ?_))))))))
 obtain ⟨y101, hy101, H⟩ := bnd H
 refine Tr.Qs (r := (bV y101)) (wn rfl) rfl Tryz.call123 (zI rfl zS) (fun W hW => zDi p1 y101 hy101 (HF.start _)) (Tr.va rfl (fun _ _ a c => KI (a.ev rfl)) (Tr.nil (Tr.zA (Tr.cond rfl H (fun H => ?_) (fun H => ?_)))))
 ·refine Tr.sr (Tr.asg rfl rfl (Tr.nil (Tr.zA (Tr.ret (Tr.zg ?_)))))
  obtain rfl := oI H
  exact Tr.out (m := [iv 1]) [] (zU rfl zT) (fun W hW => ⟨(), rfl, trivial, HF.zK1 leB (hW.pick (ks := [0]) (by decide) (zR rfl zk)) ⟨zSe _ _ _, trivial⟩⟩)
 ·refine Tr.skip (Tr.zA ?_)
  have leJ104 := Bs.Le.refl w
  refine Tr.zJD (σ := Int) (fun w s => Jq p1 s = some r) (fun s => [(0, pV bp0), (4, pV zt)]) (fun s => [(0, bx bp0 #[iv p0.p.Unit, sL zF p0.p.Tools zG, sL zM p0.p.Steps zL, sL QN p0.tools QP, sL QV p0.image QT, bV p0.clear, iv p0.tool, iv p0.place.X, iv p0.place.Y, bV p0.placed, iv s, iv p0.on] 77), (1, bx zt #[iv p1.X, iv p1.Y] 43)]) ?_ ?_
  ·refine Tr.sr (Tr.mv rfl rfl (Tr.va rfl (fun _ _ a c => QF (a.ev rfl)) (Tr.va rfl (fun _ _ a c => zB zLz (a.ev rfl)) (Tr.va rfl (fun _ _ a c => zD zNR (a.ev rfl) (rdb c (vs := [iv p0.p.Unit, sL zF p0.p.Tools zG, sL zM p0.p.Steps zL, sL QN p0.tools QP, sL QV p0.image QT, bV p0.clear, iv p0.tool, iv p0.place.X, iv p0.place.Y, bV p0.placed, iv p0.off, iv p0.on]) (k := 0) rfl 9) rfl) (Tr.nil (Tr.zA (Tr.cond rfl H (fun H => ?_) (fun H => ?_))))))))
   ·refine Tr.Wj 9 (by kernel_rfl) (by kernel_rfl) (Tq.mv rfl rfl (Tq.va rfl (fun _ _ a c => QF (a.ev rfl)) (Tq.va rfl (fun _ _ a c => zD QH (a.ev rfl) (rdb c (vs := [iv p0.p.Unit, sL zF p0.p.Tools zG, sL zM p0.p.Steps zL, sL QN p0.tools QP, sL QV p0.image QT, bV p0.clear, iv p0.tool, iv p0.place.X, iv p0.place.Y, bV p0.placed, iv p0.off, iv p0.on]) (k := 0) rfl 10) rfl) (Tq.mv rfl rfl (Tq.va rfl (fun _ _ a c => QF (a.ev rfl)) (Tq.va rfl (fun _ _ a c => zB zIF (a.ev rfl)) (Tq.va rfl (fun _ _ a c => zX (cs := [iv p0.place.X, iv p0.place.Y]) KT JL (a.ev rfl) (zO.take (rdb c (vs := [iv p0.p.Unit, sL zF p0.p.Tools zG, sL zM p0.p.Steps zL, sL QN p0.tools QP, sL QV p0.image QT, bV p0.clear, iv p0.tool, iv p0.place.X, iv p0.place.Y, bV p0.placed, iv p0.off, iv p0.on]) (k := 0) rfl 7) 2) rfl) (Tq.va rfl (fun _ _ a c => zX (cs := [iv p1.X, iv p1.Y]) KT JL (a.ev rfl) (zO.take (rdb c (vs := [iv p1.X, iv p1.Y]) (k := 1) rfl 0) 2) rfl) ?_))))))))
    obtain ⟨Kc, zHT, H⟩ := bnd H
    exact Tq.Qs (r := (iv Kc)) (wn rfl) rfl Tryz.call124 (zI rfl (zI rfl zS)) (fun W hW => zKn p0.place p1 Kc zHT (HF.start _)) (Tq.nil (Tr.va rfl (fun _ _ a c => QA (a.ev rfl) (a.ev rfl)) (Tr.va rfl (fun _ _ a c => QF (a.ev rfl)) (Tr.store 0 (cs := [iv (w64 (p0.off + Kc))]) [iv p0.p.Unit, sL zF p0.p.Tools zG, sL zM p0.p.Steps zL, sL QN p0.tools QP, sL QV p0.image QT, bV p0.clear, iv p0.tool, iv p0.place.X, iv p0.place.Y, bV p0.placed, iv (w64 (p0.off + Kc)), iv p0.on] (wn rfl) rfl rfl rfl rfl zJB rfl rfl rfl (Tr.nil (Tr.zf leJ104 (w64 (p0.off + Kc)) H (.cons rfl (.cons rfl .nil)) (.cons rfl (.cons rfl .nil))))))))
   ·exact Tr.skip (Tr.zf leJ104 p0.off H (.cons rfl (.cons rfl .nil)) (.cons rfl (.cons rfl .nil)))
  ·intro w x103 hlJ105 hs
   have H := hs
   replace H : Jq p1 x103 = some r := H
   replace leB := leB.trans hlJ105
   unfold Jq at H
   show Tr _ _ (LF [(0, pV bp0), (4, pV zt)]) (LE [(0, bx bp0 #[iv p0.p.Unit, sL zF p0.p.Tools zG, sL zM p0.p.Steps zL, sL QN p0.tools QP, sL QV p0.image QT, bV p0.clear, iv p0.tool, iv p0.place.X, iv p0.place.Y, bV p0.placed, iv x103, iv p0.on] 77), (1, bx zt #[iv p1.X, iv p1.Y] 43)]) _
   refine Tr.sr (Tr.mv rfl rfl (Tr.mv rfl rfl (Tr.va rfl (fun _ _ a c => zX (cs := [iv p1.X, iv p1.Y]) KT JL (a.ev rfl) (zO.take (rdb c (vs := [iv p1.X, iv p1.Y]) (k := 1) rfl 0) 2) rfl) (Tr.va rfl (fun _ _ a c => QF (a.ev rfl)) (Tr.va rfl (fun _ _ a c => zB zIF (a.ev rfl)) (Tr.store 0 (cs := [iv p1.X, iv p1.Y]) [iv p0.p.Unit, sL zF p0.p.Tools zG, sL zM p0.p.Steps zL, sL QN p0.tools QP, sL QV p0.image QT, bV p0.clear, iv p0.tool, iv p1.X, iv p1.Y, bV p0.placed, iv x103, iv p0.on] (wn rfl) rfl rfl rfl rfl JL rfl rfl rfl (Tr.va rfl (fun _ _ a c => QF (a.ev rfl)) (Tr.va rfl (fun _ _ a c => zB zLz (a.ev rfl)) (Tr.store 0 (cs := [bV true]) [iv p0.p.Unit, sL zF p0.p.Tools zG, sL zM p0.p.Steps zL, sL QN p0.tools QP, sL QV p0.image QT, bV p0.clear, iv p0.tool, iv p1.X, iv p1.Y, bV true, iv x103, iv p0.on] (wn rfl) rfl rfl rfl rfl zZi rfl rfl rfl (Tr.nil (Tr.zA (Tr.sr (Tr.asg rfl rfl (Tr.nil (Tr.zA (Tr.ret ?_))))))))))))))))
   obtain rfl := oI H
   exact Tr.out (m := [iv 0]) [] (zU rfl zT) (fun W hW => ⟨(), rfl, trivial, HF.zK1 leB (hW.pick (ks := [0]) (by decide) (zR rfl zk)) ⟨zSe _ _ _, trivial⟩⟩)

theorem zHK (N : Nat) {w : Bs} (p0 : QU) (zF : Option Addr) (zG : Nat) (zP : Sl w.R w.W zN zF zG p0.p.Tools) (zM : Option Addr) (zL : Nat) (QW : Sl w.R w.W zH zM zL p0.p.Steps) (QN : Option Addr) (QP : Nat) (Kn : Sl w.R w.W JU QN QP p0.tools) (QV : Option Addr) (QT : Nat) (bp0 : Nat) (p1 : zJ) (r : (Int × Int × Int × Bool × Int × (List ze))) (H : Wo N p0 p1 = some r) (hE : HF w w.W (LEn [bx bp0 #[iv p0.p.Unit, sL zF p0.p.Tools zG, sL zM p0.p.Steps zL, sL QN p0.tools QP, sL QV p0.image QT, bV p0.clear, iv p0.tool, iv p0.place.X, iv p0.place.Y, bV p0.placed, iv p0.off, iv p0.on] 77, ow QV QT 107 zW p0.image])) : Calls Tryz.prog 105 [pV bp0, .agg #[iv p1.X, iv p1.Y]].toArray w.W fun e W' => ∃ (w' : Bs) (u : (Option Addr × Nat)), w.Le w' ∧ e = .returned (iv r.1) ∧ (SlF u.1 r.2.2.2.2.2.length u.2) ∧ HF w' W' (LEn [bx bp0 #[iv p0.p.Unit, sL zF p0.p.Tools zG, sL zM p0.p.Steps zL, sL QN p0.tools QP, sL u.1 r.2.2.2.2.2 u.2, bV p0.clear, iv p0.tool, iv r.2.1, iv r.2.2.1, bV r.2.2.2.1, iv r.2.2.2.2.1, iv p0.on] 77, ow u.1 u.2 107 zW r.2.2.2.2.2]) := by
 unfold Wo at H
 have zAb := (hE.sl (k := 1) rfl).form
 have leB := Bs.Le.refl w
 refine Tr.enter (n := 35) Tryz.func105 rfl rfl rfl hE (Tr.sr (Tr.box 2 (cs := [iv p1.X, iv p1.Y]) (wn rfl) rfl rfl rfl fun zt => (Tr.asg rfl rfl (Tr.nil (Tr.zA (Tr.seq (Tr.sr (Tr.mv rfl rfl (Tr.va rfl (fun _ _ a c => QF (a.ev rfl)) (Tr.va rfl (fun _ _ a c => zB zL0 (a.ev rfl)) (Tr.va rfl (fun _ _ a c => zD QH (a.ev rfl) (rdb c (vs := [iv p0.p.Unit, sL zF p0.p.Tools zG, sL zM p0.p.Steps zL, sL QN p0.tools QP, sL QV p0.image QT, bV p0.clear, iv p0.tool, iv p0.place.X, iv p0.place.Y, bV p0.placed, iv p0.off, iv p0.on]) (k := 0) rfl 6) rfl) (Tr.va rfl (fun _ _ a c => QE (a.ev rfl) (a.ev rfl)) (Tr.nil (Tr.zA (Tr.cond rfl H (fun H => ?_) (fun H => ?_))))))))))))))))
 ·refine Tr.sr (Tr.asg rfl rfl (Tr.nil (Tr.zA (Tr.ret (Tr.zg ?_)))))
  obtain rfl := oI H
  exact Tr.out (m := [iv 11]) [] (zU rfl zT) (fun W hW => ⟨w, (QV, QT), leB, rfl, zAb, hW.pick (ks := [0, 1]) (by decide) (zR rfl (zR rfl zk))⟩)
 ·refine Tr.skip (Tr.zA (Tr.seq (Tr.seq (Tr.Wj 5 (by kernel_rfl) (by kernel_rfl) (Tq.mv rfl rfl (Tq.va rfl (fun _ _ a c => zX (cs := [iv p1.X, iv p1.Y]) KT JL (a.ev rfl) (zO.take (rdb c (vs := [iv p1.X, iv p1.Y]) (k := 2) rfl 0) 2) rfl) (Tq.mv rfl rfl (Tq.va rfl (fun _ _ a c => QF (a.ev rfl)) (Tq.va rfl (fun _ _ a c => zB zXP (a.ev rfl)) (Tq.nil ?_))))))))))
  obtain ⟨y101, hy101, H⟩ := bnd H
  refine Tr.WB [0] [bx bp0 #[iv p0.p.Unit, sL zF p0.p.Tools zG, sL zM p0.p.Steps zL, sL QN p0.tools QP, sL QV p0.image QT, bV p0.clear, iv p0.tool, iv p0.place.X, iv p0.place.Y, bV p0.placed, iv p0.off, iv p0.on] 77] (U := Unit) (fun u => (iv y101.1)) (fun u => True) (fun u => [bx bp0 #[iv p0.p.Unit, sL zF p0.p.Tools zG, sL zM p0.p.Steps zL, sL QN p0.tools QP, sL QV p0.image QT, bV p0.clear, iv p0.tool, iv y101.2.1, iv y101.2.2.1, bV y101.2.2.2.1, iv y101.2.2.2.2, iv p0.on] 77]) rfl (zR rfl zk) (fun _ => rfl) (wn rfl) rfl Tryz.call104 (zI rfl (zI rfl (zI rfl zS))) (fun W hW hp hE => zBs p0 zF zG (zP.ext (hW.JH hp)) zM zL (QW.ext (hW.JH hp)) QN QP (Kn.ext (hW.JH hp)) QV QT (hW.slS (k := 1) rfl hp rfl) bp0 p1 y101 hy101 hE) ?_
  intro u hu
  show Tr _ _ (uf _ 16 (iv y101.1)) (up _ 0 (bx bp0 #[iv p0.p.Unit, sL zF p0.p.Tools zG, sL zM p0.p.Steps zL, sL QN p0.tools QP, sL QV p0.image QT, bV p0.clear, iv p0.tool, iv y101.2.1, iv y101.2.2.1, bV y101.2.2.2.1, iv y101.2.2.2.2, iv p0.on] 77)) _
  refine Tr.asg rfl rfl (Tr.nil (Tr.zA (Tr.sr (Tr.mv rfl rfl (Tr.va rfl (fun _ _ a c => Jt (a.ev rfl) (a.ev rfl)) (Tr.nil (Tr.zA (Tr.cond rfl H (fun H => ?_) (fun H => ?_)))))))))
  ·refine Tr.sr (Tr.mv rfl rfl (Tr.asg rfl rfl (Tr.nil (Tr.zA (Tr.ret (Tr.zg ?_))))))
   obtain rfl := oI H
   exact Tr.out (m := [iv y101.1]) [] (zU rfl zT) (fun W hW => ⟨w, (QV, QT), leB, rfl, zAb, hW.pick (ks := [0, 1]) (by decide) (zR rfl (zR rfl zk))⟩)
  ·refine Tr.skip (Tr.zA (Tr.seq (Tr.zPp 14 [] [] (by kernel_rfl) (by kernel_rfl) fun zog zl3 znR => (Dr.quiet 0 [(20, pV bp0)] (by kernel_rfl) rfl rfl (by kernel_rfl) ?_ rfl rfl ?_))))
   ·exact Tq.mv rfl rfl (Tq.fin (.cons rfl .nil))
   refine Dr.quiet 1 [(21, pV bp0)] (by kernel_rfl) rfl rfl (by kernel_rfl) ?_ rfl rfl ?_
   ·exact Tq.mv rfl rfl (Tq.fin (.cons rfl .nil))
   refine Dr.quiet 2 [(22, pV bp0)] (by kernel_rfl) rfl rfl (by kernel_rfl) ?_ rfl rfl ?_
   ·exact Tq.va rfl (fun _ _ a c => QF (a.ev rfl)) (Tq.fin (.cons rfl .nil))
   refine Dr.quiet 3 [(23, .pointer (some ⟨bp0, 3, none⟩))] (by kernel_rfl) rfl rfl (by kernel_rfl) ?_ rfl rfl ?_
   ·exact Tq.va rfl (fun _ _ a c => zB zOE (a.ev rfl)) (Tq.fin (.cons rfl .nil))
   refine Dr.quiet 4 [(24, sL QN p0.tools QP)] (by kernel_rfl) rfl rfl (by kernel_rfl) ?_ rfl rfl ?_
   ·exact Tq.va rfl (fun _ _ a c => zD zcX (a.ev rfl) (rdb c (vs := [iv p0.p.Unit, sL zF p0.p.Tools zG, sL zM p0.p.Steps zL, sL QN p0.tools QP, sL QV p0.image QT, bV p0.clear, iv p0.tool, iv y101.2.1, iv y101.2.2.1, bV y101.2.2.2.1, iv y101.2.2.2.2, iv p0.on]) (k := 0) rfl 3) rfl) (Tq.fin (.cons rfl .nil))
   refine Dr.quiet 5 [(25, pV bp0)] (by kernel_rfl) rfl rfl (by kernel_rfl) ?_ rfl rfl ?_
   ·exact Tq.mv rfl rfl (Tq.fin (.cons rfl .nil))
   refine Dr.quiet 6 [(26, pV bp0)] (by kernel_rfl) rfl rfl (by kernel_rfl) ?_ rfl rfl ?_
   ·exact Tq.va rfl (fun _ _ a c => QF (a.ev rfl)) (Tq.fin (.cons rfl .nil))
   refine Dr.quiet 7 [(27, .pointer (some ⟨bp0, 6, none⟩))] (by kernel_rfl) rfl rfl (by kernel_rfl) ?_ rfl rfl ?_
   ·exact Tq.va rfl (fun _ _ a c => zB zL0 (a.ev rfl)) (Tq.fin (.cons rfl .nil))
   refine Dr.quiet 8 [(28, iv p0.tool)] (by kernel_rfl) rfl rfl (by kernel_rfl) ?_ rfl rfl ?_
   ·exact Tq.va rfl (fun _ _ a c => zD QH (a.ev rfl) (rdb c (vs := [iv p0.p.Unit, sL zF p0.p.Tools zG, sL zM p0.p.Steps zL, sL QN p0.tools QP, sL QV p0.image QT, bV p0.clear, iv p0.tool, iv y101.2.1, iv y101.2.2.1, bV y101.2.2.2.1, iv y101.2.2.2.2, iv p0.on]) (k := 0) rfl 6) rfl) (Tq.fin (.cons rfl .nil))
   obtain ⟨x104, hx104, H⟩ := bnd H
   obtain ⟨zPX, zPW, zPV⟩ := zx hx104
   obtain ⟨u105, hRu105, zLq, hcu105⟩ := (Kn).el zPV
   obtain ⟨zE4, zEw⟩ := u105
   have zHV := zLq
   refine Dr.quiet 9 [(29, .pointer (some ⟨adB QN, adO QN + (p0.tool).toNat * 1, none⟩))] (by kernel_rfl) rfl rfl (by kernel_rfl) ?_ rfl rfl ?_
   ·replace zHV : Sl w.R w.W zW zE4 zEw x104 := zHV
    exact Tq.va rfl (fun _ _ a c => zK zb7 (a.ev rfl) Kn.form (a.ev rfl) zPX zPW) (Tq.fin (.cons rfl .nil))
   refine Dr.quiet 10 [(30, sL zE4 x104 zEw)] (by kernel_rfl) rfl rfl (by kernel_rfl) ?_ rfl rfl ?_
   ·exact Tq.va rfl (fun _ _ a c => zD zP2 (a.ev rfl) (rdR hRu105 hcu105 c) rfl) (Tq.fin (.cons rfl .nil))
   refine Dr.quiet 11 [(31, .agg #[iv p1.X, iv p1.Y])] (by kernel_rfl) rfl rfl (by kernel_rfl) ?_ rfl rfl ?_
   ·exact Tq.va rfl (fun _ _ a c => zX (cs := [iv p1.X, iv p1.Y]) KT JL (a.ev rfl) (zO.take (rdb c (vs := [iv p1.X, iv p1.Y]) (k := 2) rfl 0) 2) rfl) (Tq.fin (.cons rfl .nil))
   refine Dr.quiet 12 [(32, .agg #[iv p1.X, iv p1.Y])] (by kernel_rfl) rfl rfl (by kernel_rfl) ?_ rfl rfl ?_
   ·exact Tq.va rfl (fun _ _ a c => zX (cs := [iv p1.X, iv p1.Y]) KT JL (a.ev rfl) (zO.take (rdb c (vs := [iv p1.X, iv p1.Y]) (k := 2) rfl 0) 2) rfl) (Tq.fin (.cons rfl .nil))
   obtain ⟨Kc, zHT, H⟩ := bnd H
   refine Dr.one 13 (by kernel_rfl) (St.VW 13 [3] [emp] (U := (Option Addr × Nat)) (fun u => (sL u.1 Kc u.2)) (fun O W u => SlF u.1 Kc.length u.2) (fun u => [ow u.1 u.2 107 zW Kc]) rfl (zR rfl zk) (fun _ => rfl) (zLn rfl) rfl (wn rfl) rfl Tryz.call126 (zI rfl (zI rfl (zI rfl zS))) (fun W hW hp hE => zIz N x104 zE4 zEw (zHV.ext (hW.JH hp)) p1 p1 Kc zHT hE) ?_)
   intro w u zJX hu zoO
   obtain ⟨Ww, Wu⟩ := u
   have gy106_0 := hu
   replace zP := zP.leR zJX
   replace QW := QW.leR zJX
   replace Kn := Kn.leR zJX
   replace hRu105 := zJX.r _ hRu105
   replace leB := leB.trans zJX
   have zJh : SlF Ww Kc.length Wu := gy106_0
   dsimp only
   refine Dr.tail (by kernel_rfl) (Tr.freeze 3 rfl fun w zTe zaj => ?_)
   replace zP := zP.leR zTe
   replace QW := QW.leR zTe
   replace Kn := Kn.leR zTe
   replace hRu105 := zTe.r _ hRu105
   replace leB := leB.trans zTe
   obtain ⟨zDI, zLo, H⟩ := bnd H
   refine Tr.VW [0, 1] [bx bp0 #[iv p0.p.Unit, sL zF p0.p.Tools zG, sL zM p0.p.Steps zL, sL QN p0.tools QP, sL QV p0.image QT, bV p0.clear, iv p0.tool, iv y101.2.1, iv y101.2.2.1, bV y101.2.2.2.1, iv y101.2.2.2.2, iv p0.on] 77, ow QV QT 107 zW p0.image] (U := (Option Addr × Nat)) (fun u => (iv zDI.1)) (fun O W u => SlF u.1 zDI.2.length u.2) (fun u => [bx bp0 #[iv p0.p.Unit, sL zF p0.p.Tools zG, sL zM p0.p.Steps zL, sL QN p0.tools QP, sL u.1 zDI.2 u.2, bV p0.clear, iv p0.tool, iv y101.2.1, iv y101.2.2.1, bV y101.2.2.2.1, iv y101.2.2.2.2, iv p0.on] 77, ow u.1 u.2 107 zW zDI.2]) rfl (zR rfl (zR rfl zk)) (fun _ => rfl) (wn rfl) rfl Tryz.call125 (zI rfl (zI rfl zS)) (fun W hW hp hE => zBh N (QU.mk p0.p p0.tools p0.image p0.clear p0.tool (zJ.mk y101.2.1 y101.2.2.1) y101.2.2.2.1 y101.2.2.2.2 p0.on) zF zG (zP.ext (hW.JH hp)) zM zL (QW.ext (hW.JH hp)) QN QP (Kn.ext (hW.JH hp)) QV QT bp0 Kc Ww Wu (zaj.zAS (hW.JH hp)) zDI zLo hE) ?_
   intro w u zaQ hu
   obtain ⟨zYJ, zXn⟩ := u
   have gy110_0 := hu
   replace hRu105 := zaQ.r _ hRu105
   replace zaj := zaj.le zaQ
   replace leB := leB.trans zaQ
   have zbg : SlF zYJ zDI.2.length zXn := gy110_0 --@phi
   dsimp only
   refine Tr.asg rfl rfl (Tr.nil (Tr.zA (Tr.ret ?_)))
   obtain rfl := oI H
   exact Tr.out (m := [iv zDI.1]) [] (zU rfl zT) (fun W hW => ⟨w, (zYJ, zXn), leB, rfl, zbg, hW.pick (ks := [0, 1]) (by decide) (zR rfl (zR rfl zk))⟩)

theorem zFM {w : Bs} (p0 : QU) (zF : Option Addr) (zG : Nat) (zP : Sl w.R w.W zN zF zG p0.p.Tools) (zM : Option Addr) (zL : Nat) (QW : Sl w.R w.W zH zM zL p0.p.Steps) (QN : Option Addr) (QP : Nat) (Kn : Sl w.R w.W JU QN QP p0.tools) (QV : Option Addr) (QT : Nat) (ze7 : Sl w.R w.W zW QV QT p0.image) (bp0 : Nat) (p1 : zJ) (r : (Int × Int × Int × Bool × Int)) (H : VL p0 p1 = some r) (hE : HF w w.W (LEn [bx bp0 #[iv p0.p.Unit, sL zF p0.p.Tools zG, sL zM p0.p.Steps zL, sL QN p0.tools QP, sL QV p0.image QT, bV p0.clear, iv p0.tool, iv p0.place.X, iv p0.place.Y, bV p0.placed, iv p0.off, iv p0.on] 77])) : Calls Tryz.prog 104 [pV bp0, .agg #[iv p1.X, iv p1.Y], .pointer (some ⟨bp0, 11, none⟩)].toArray w.W fun e W' => ∃ u : Unit, e = .returned (iv r.1) ∧ (True) ∧ HF w W' (LEn [bx bp0 #[iv p0.p.Unit, sL zF p0.p.Tools zG, sL zM p0.p.Steps zL, sL QN p0.tools QP, sL QV p0.image QT, bV p0.clear, iv p0.tool, iv r.2.1, iv r.2.2.1, bV r.2.2.2.1, iv p0.off, iv r.2.2.2.2] 77]) := by
 unfold VL at H
 have leB := Bs.Le.refl w
 refine Tr.enter (n := 32) Tryz.func104 rfl rfl rfl hE (Tr.sr (Tr.box 1 (cs := [iv p1.X, iv p1.Y]) (wn rfl) rfl rfl rfl fun zt => (Tr.asg rfl rfl (Tr.nil (Tr.zA (Tr.seq (Tr.sr (Tr.va rfl (fun _ _ a c => zX (cs := [iv p1.X, iv p1.Y]) KT JL (a.ev rfl) (zO.take (rdb c (vs := [iv p1.X, iv p1.Y]) (k := 1) rfl 0) 2) rfl) ?_))))))))
 obtain ⟨y101, hy101, H⟩ := bnd H
 refine Tr.Qs (r := (bV y101)) (wn rfl) rfl Tryz.call123 (zI rfl zS) (fun W hW => zDi p1 y101 hy101 (HF.start _)) (Tr.va rfl (fun _ _ a c => KI (a.ev rfl)) (Tr.nil (Tr.zA (Tr.cond rfl H (fun H => ?_) (fun H => ?_)))))
 ·refine Tr.sr (Tr.asg rfl rfl (Tr.nil (Tr.zA (Tr.ret (Tr.zg ?_)))))
  obtain rfl := oI H
  exact Tr.out (m := [iv 1]) [] (zU rfl zT) (fun W hW => ⟨(), rfl, trivial, HF.zK1 leB (hW.pick (ks := [0]) (by decide) (zR rfl zk)) ⟨zSe _ _ _, trivial⟩⟩)
 ·refine Tr.skip (Tr.zA ?_)
  have leJ104 := Bs.Le.refl w
  refine Tr.zJD (σ := Int) (fun w s => Jp p1 s = some r) (fun s => [(0, pV bp0), (4, pV zt)]) (fun s => [(0, bx bp0 #[iv p0.p.Unit, sL zF p0.p.Tools zG, sL zM p0.p.Steps zL, sL QN p0.tools QP, sL QV p0.image QT, bV p0.clear, iv p0.tool, iv p0.place.X, iv p0.place.Y, bV p0.placed, iv p0.off, iv s] 77), (1, bx zt #[iv p1.X, iv p1.Y] 43)]) ?_ ?_
  ·refine Tr.sr (Tr.mv rfl rfl (Tr.va rfl (fun _ _ a c => QF (a.ev rfl)) (Tr.va rfl (fun _ _ a c => zB zLz (a.ev rfl)) (Tr.va rfl (fun _ _ a c => zD zNR (a.ev rfl) (rdb c (vs := [iv p0.p.Unit, sL zF p0.p.Tools zG, sL zM p0.p.Steps zL, sL QN p0.tools QP, sL QV p0.image QT, bV p0.clear, iv p0.tool, iv p0.place.X, iv p0.place.Y, bV p0.placed, iv p0.off, iv p0.on]) (k := 0) rfl 9) rfl) (Tr.nil (Tr.zA (Tr.cond rfl H (fun H => ?_) (fun H => ?_))))))))
   ·refine Tr.Wj 9 (by kernel_rfl) (by kernel_rfl) (Tq.mv rfl rfl (Tq.va rfl (fun _ _ a c => QF (a.ev rfl)) (Tq.va rfl (fun _ _ a c => zD QH (a.ev rfl) (rdb c (vs := [iv p0.p.Unit, sL zF p0.p.Tools zG, sL zM p0.p.Steps zL, sL QN p0.tools QP, sL QV p0.image QT, bV p0.clear, iv p0.tool, iv p0.place.X, iv p0.place.Y, bV p0.placed, iv p0.off, iv p0.on]) (k := 0) rfl 11) rfl) (Tq.mv rfl rfl (Tq.va rfl (fun _ _ a c => QF (a.ev rfl)) (Tq.va rfl (fun _ _ a c => zB zIF (a.ev rfl)) (Tq.va rfl (fun _ _ a c => zX (cs := [iv p0.place.X, iv p0.place.Y]) KT JL (a.ev rfl) (zO.take (rdb c (vs := [iv p0.p.Unit, sL zF p0.p.Tools zG, sL zM p0.p.Steps zL, sL QN p0.tools QP, sL QV p0.image QT, bV p0.clear, iv p0.tool, iv p0.place.X, iv p0.place.Y, bV p0.placed, iv p0.off, iv p0.on]) (k := 0) rfl 7) 2) rfl) (Tq.va rfl (fun _ _ a c => zX (cs := [iv p1.X, iv p1.Y]) KT JL (a.ev rfl) (zO.take (rdb c (vs := [iv p1.X, iv p1.Y]) (k := 1) rfl 0) 2) rfl) ?_))))))))
    obtain ⟨Kc, zHT, H⟩ := bnd H
    exact Tq.Qs (r := (iv Kc)) (wn rfl) rfl Tryz.call124 (zI rfl (zI rfl zS)) (fun W hW => zKn p0.place p1 Kc zHT (HF.start _)) (Tq.nil (Tr.va rfl (fun _ _ a c => QA (a.ev rfl) (a.ev rfl)) (Tr.va rfl (fun _ _ a c => QF (a.ev rfl)) (Tr.store 0 (cs := [iv (w64 (p0.on + Kc))]) [iv p0.p.Unit, sL zF p0.p.Tools zG, sL zM p0.p.Steps zL, sL QN p0.tools QP, sL QV p0.image QT, bV p0.clear, iv p0.tool, iv p0.place.X, iv p0.place.Y, bV p0.placed, iv p0.off, iv (w64 (p0.on + Kc))] (wn rfl) rfl rfl rfl rfl zJB rfl rfl rfl (Tr.nil (Tr.zf leJ104 (w64 (p0.on + Kc)) H (.cons rfl (.cons rfl .nil)) (.cons rfl (.cons rfl .nil))))))))
   ·exact Tr.skip (Tr.zf leJ104 p0.on H (.cons rfl (.cons rfl .nil)) (.cons rfl (.cons rfl .nil)))
  ·intro w x103 hlJ105 hs
   have H := hs
   replace H : Jp p1 x103 = some r := H
   replace leB := leB.trans hlJ105
   unfold Jp at H
   show Tr _ _ (LF [(0, pV bp0), (4, pV zt)]) (LE [(0, bx bp0 #[iv p0.p.Unit, sL zF p0.p.Tools zG, sL zM p0.p.Steps zL, sL QN p0.tools QP, sL QV p0.image QT, bV p0.clear, iv p0.tool, iv p0.place.X, iv p0.place.Y, bV p0.placed, iv p0.off, iv x103] 77), (1, bx zt #[iv p1.X, iv p1.Y] 43)]) _
   refine Tr.sr (Tr.mv rfl rfl (Tr.mv rfl rfl (Tr.va rfl (fun _ _ a c => zX (cs := [iv p1.X, iv p1.Y]) KT JL (a.ev rfl) (zO.take (rdb c (vs := [iv p1.X, iv p1.Y]) (k := 1) rfl 0) 2) rfl) (Tr.va rfl (fun _ _ a c => QF (a.ev rfl)) (Tr.va rfl (fun _ _ a c => zB zIF (a.ev rfl)) (Tr.store 0 (cs := [iv p1.X, iv p1.Y]) [iv p0.p.Unit, sL zF p0.p.Tools zG, sL zM p0.p.Steps zL, sL QN p0.tools QP, sL QV p0.image QT, bV p0.clear, iv p0.tool, iv p1.X, iv p1.Y, bV p0.placed, iv p0.off, iv x103] (wn rfl) rfl rfl rfl rfl JL rfl rfl rfl (Tr.va rfl (fun _ _ a c => QF (a.ev rfl)) (Tr.va rfl (fun _ _ a c => zB zLz (a.ev rfl)) (Tr.store 0 (cs := [bV true]) [iv p0.p.Unit, sL zF p0.p.Tools zG, sL zM p0.p.Steps zL, sL QN p0.tools QP, sL QV p0.image QT, bV p0.clear, iv p0.tool, iv p1.X, iv p1.Y, bV true, iv p0.off, iv x103] (wn rfl) rfl rfl rfl rfl zZi rfl rfl rfl (Tr.nil (Tr.zA (Tr.sr (Tr.asg rfl rfl (Tr.nil (Tr.zA (Tr.ret ?_))))))))))))))))
   obtain rfl := oI H
   exact Tr.out (m := [iv 0]) [] (zU rfl zT) (fun W hW => ⟨(), rfl, trivial, HF.zK1 leB (hW.pick (ks := [0]) (by decide) (zR rfl zk)) ⟨zSe _ _ _, trivial⟩⟩)

theorem zHo (N : Nat) {w : Bs} (p0 : QU) (zF : Option Addr) (zG : Nat) (zP : Sl w.R w.W zN zF zG p0.p.Tools) (zM : Option Addr) (zL : Nat) (QW : Sl w.R w.W zH zM zL p0.p.Steps) (QN : Option Addr) (QP : Nat) (Kn : Sl w.R w.W JU QN QP p0.tools) (QV : Option Addr) (QT : Nat) (bp0 : Nat) (p1 : zJ) (r : (Int × Int × Int × Bool × Int × (List ze))) (H : zAC N p0 p1 = some r) (hE : HF w w.W (LEn [bx bp0 #[iv p0.p.Unit, sL zF p0.p.Tools zG, sL zM p0.p.Steps zL, sL QN p0.tools QP, sL QV p0.image QT, bV p0.clear, iv p0.tool, iv p0.place.X, iv p0.place.Y, bV p0.placed, iv p0.off, iv p0.on] 77, ow QV QT 107 zW p0.image])) : Calls Tryz.prog 106 [pV bp0, .agg #[iv p1.X, iv p1.Y]].toArray w.W fun e W' => ∃ (w' : Bs) (u : (Option Addr × Nat)), w.Le w' ∧ e = .returned (iv r.1) ∧ (SlF u.1 r.2.2.2.2.2.length u.2) ∧ HF w' W' (LEn [bx bp0 #[iv p0.p.Unit, sL zF p0.p.Tools zG, sL zM p0.p.Steps zL, sL QN p0.tools QP, sL u.1 r.2.2.2.2.2 u.2, bV p0.clear, iv p0.tool, iv r.2.1, iv r.2.2.1, bV r.2.2.2.1, iv p0.off, iv r.2.2.2.2.1] 77, ow u.1 u.2 107 zW r.2.2.2.2.2]) := by
 unfold zAC at H
 have zAb := (hE.sl (k := 1) rfl).form
 have leB := Bs.Le.refl w
 refine Tr.enter (n := 65) Tryz.func106 rfl rfl rfl hE (Tr.sr (Tr.box 2 (cs := [iv p1.X, iv p1.Y]) (wn rfl) rfl rfl rfl fun zt => (Tr.asg rfl rfl (Tr.nil (Tr.zA (Tr.seq (Tr.sr (Tr.mv rfl rfl (Tr.va rfl (fun _ _ a c => QF (a.ev rfl)) (Tr.va rfl (fun _ _ a c => zB zL0 (a.ev rfl)) (Tr.va rfl (fun _ _ a c => zD QH (a.ev rfl) (rdb c (vs := [iv p0.p.Unit, sL zF p0.p.Tools zG, sL zM p0.p.Steps zL, sL QN p0.tools QP, sL QV p0.image QT, bV p0.clear, iv p0.tool, iv p0.place.X, iv p0.place.Y, bV p0.placed, iv p0.off, iv p0.on]) (k := 0) rfl 6) rfl) (Tr.va rfl (fun _ _ a c => QE (a.ev rfl) (a.ev rfl)) (Tr.mv rfl rfl (Tr.VJ 6 [(0, pV bp0), (3, pV zt), (18, bV ((decide (p0.tool < 0)) || (!p0.placed)))] [(0, bx bp0 #[iv p0.p.Unit, sL zF p0.p.Tools zG, sL zM p0.p.Steps zL, sL QN p0.tools QP, sL QV p0.image QT, bV p0.clear, iv p0.tool, iv p0.place.X, iv p0.place.Y, bV p0.placed, iv p0.off, iv p0.on] 77), (1, ow QV QT 107 zW p0.image), (2, bx zt #[iv p1.X, iv p1.Y] 43)] ?_ ?_))))))))))))))
 ·cases zml : (decide (p0.tool < 0))
  ·exact Tr.val (wg rfl rfl rfl) rfl (fun _ _ a c => run_move (a.ev rfl)) (Tr.val (wg rfl rfl rfl) rfl (fun _ _ a c => QF (a.ev rfl)) (Tr.val (wg rfl rfl rfl) rfl (fun _ _ a c => zB zLz (a.ev rfl)) (Tr.val (wg rfl rfl rfl) rfl (fun _ _ a c => zD zNR (a.ev rfl) (rdb c (vs := [iv p0.p.Unit, sL zF p0.p.Tools zG, sL zM p0.p.Steps zL, sL QN p0.tools QP, sL QV p0.image QT, bV p0.clear, iv p0.tool, iv p0.place.X, iv p0.place.Y, bV p0.placed, iv p0.off, iv p0.on]) (k := 0) rfl 9) rfl) (Tr.val (wg rfl rfl rfl) rfl (fun _ _ a c => KI (a.ev rfl)) (Tr.va rfl (fun _ _ a c => zo (a.ev rfl) (a.ev rfl)) (Tr.nil (Tr.Qi (.cons rfl (.cons rfl (.cons rfl .nil))) (.cons rfl (.cons rfl (.cons rfl .nil))))))))))
  ·exact Tr.pass rfl rfl rfl rfl rfl (by decide) (Tr.pass rfl rfl rfl rfl rfl (by decide) (Tr.pass rfl rfl rfl rfl rfl (by decide) (Tr.pass rfl rfl rfl rfl rfl (by decide) (Tr.pass rfl rfl rfl rfl rfl (by decide) (Tr.va rfl (fun _ _ a c => zn (a.ev rfl) (a.ev rfl)) (Tr.nil (Tr.Qi (.cons rfl (.cons rfl (.cons rfl .nil))) (.cons rfl (.cons rfl (.cons rfl .nil))))))))))
 ·show Tr _ _ (LF [(0, pV bp0), (3, pV zt), (18, bV ((decide (p0.tool < 0)) || (!p0.placed)))]) (LE [(0, bx bp0 #[iv p0.p.Unit, sL zF p0.p.Tools zG, sL zM p0.p.Steps zL, sL QN p0.tools QP, sL QV p0.image QT, bV p0.clear, iv p0.tool, iv p0.place.X, iv p0.place.Y, bV p0.placed, iv p0.off, iv p0.on] 77), (1, ow QV QT 107 zW p0.image), (2, bx zt #[iv p1.X, iv p1.Y] 43)]) _
  refine Tr.nil (Tr.zA (Tr.cond rfl H (fun H => ?_) (fun H => ?_)))
  ·refine Tr.sr (Tr.asg rfl rfl (Tr.nil (Tr.zA (Tr.ret (Tr.zg ?_)))))
   obtain rfl := oI H
   exact Tr.out (m := [iv 11]) [] (zU rfl zT) (fun W hW => ⟨w, (QV, QT), leB, rfl, zAb, hW.pick (ks := [0, 1]) (by decide) (zR rfl (zR rfl zk))⟩)
  ·refine Tr.skip (Tr.zA (Tr.seq (Tr.seq (Tr.draw (by kernel_rfl) (by kernel_rfl) (Tq.va rfl (fun _ _ a c => zB Kq (a.ev rfl)) (Tq.va rfl (fun _ _ a c => zD QH (a.ev rfl) (rdb c (vs := [iv p1.X, iv p1.Y]) (k := 2) rfl 0) rfl) (Tq.mv rfl rfl (Tq.va rfl (fun _ _ a c => QF (a.ev rfl)) (Tq.va rfl (fun _ _ a c => zB zIF (a.ev rfl)) (Tq.va rfl (fun _ _ a c => zB Kq (a.ev rfl)) (Tq.va rfl (fun _ _ a c => zD QH (a.ev rfl) (rdb c (vs := [iv p0.p.Unit, sL zF p0.p.Tools zG, sL zM p0.p.Steps zL, sL QN p0.tools QP, sL QV p0.image QT, bV p0.clear, iv p0.tool, iv p0.place.X, iv p0.place.Y, bV p0.placed, iv p0.off, iv p0.on]) (k := 0) rfl 7) rfl) (Tq.va rfl (fun _ _ a c => Jt (a.ev rfl) (a.ev rfl)) (Tq.mv rfl rfl (Tq.mid 9 [(0, pV bp0), (3, pV zt), (36, bV ((p1.X != p0.place.X) && (p1.Y != p0.place.Y)))] ?_ ?_))))))))))))))
   ·cases zml : (p1.X != p0.place.X)
    ·exact Tq.pass rfl rfl rfl rfl rfl (by decide) (Tq.pass rfl rfl rfl rfl rfl (by decide) (Tq.pass rfl rfl rfl rfl rfl (by decide) (Tq.pass rfl rfl rfl rfl rfl (by decide) (Tq.pass rfl rfl rfl rfl rfl (by decide) (Tq.pass rfl rfl rfl rfl rfl (by decide) (Tq.pass rfl rfl rfl rfl rfl (by decide) (Tq.pass rfl rfl rfl rfl rfl (by decide) (Tq.va rfl (fun _ _ a c => zo (a.ev rfl) (a.ev rfl)) (Tq.fin (.cons rfl (.cons rfl (.cons rfl .nil))))))))))))
    ·exact Tq.val (wg rfl rfl rfl) rfl (fun _ _ a c => zB KY (a.ev rfl)) (Tq.val (wg rfl rfl rfl) rfl (fun _ _ a c => zD QH (a.ev rfl) (rdb c (vs := [iv p1.X, iv p1.Y]) (k := 2) rfl 1) rfl) (Tq.val (wg rfl rfl rfl) rfl (fun _ _ a c => run_move (a.ev rfl)) (Tq.val (wg rfl rfl rfl) rfl (fun _ _ a c => QF (a.ev rfl)) (Tq.val (wg rfl rfl rfl) rfl (fun _ _ a c => zB zIF (a.ev rfl)) (Tq.val (wg rfl rfl rfl) rfl (fun _ _ a c => zB KY (a.ev rfl)) (Tq.val (wg rfl rfl rfl) rfl (fun _ _ a c => zD QH (a.ev rfl) (rdb c (vs := [iv p0.p.Unit, sL zF p0.p.Tools zG, sL zM p0.p.Steps zL, sL QN p0.tools QP, sL QV p0.image QT, bV p0.clear, iv p0.tool, iv p0.place.X, iv p0.place.Y, bV p0.placed, iv p0.off, iv p0.on]) (k := 0) rfl 8) rfl) (Tq.val (wg rfl rfl rfl) rfl (fun _ _ a c => Jt (a.ev rfl) (a.ev rfl)) (Tq.va rfl (fun _ _ a c => zn (a.ev rfl) (a.ev rfl)) (Tq.fin (.cons rfl (.cons rfl (.cons rfl .nil))))))))))))
   ·refine Tq.nil (Tr.zA (Tr.cond rfl H (fun H => ?_) (fun H => ?_)))
    ·refine Tr.sr (Tr.asg rfl rfl (Tr.nil (Tr.zA (Tr.ret (Tr.zg ?_)))))
     obtain rfl := oI H
     exact Tr.out (m := [iv 3]) [] (zU rfl zT) (fun W hW => ⟨w, (QV, QT), leB, rfl, zAb, hW.pick (ks := [0, 1]) (by decide) (zR rfl (zR rfl zk))⟩)
    ·refine Tr.skip (Tr.zA (Tr.sr (Tr.mv rfl rfl (Tr.va rfl (fun _ _ a c => QF (a.ev rfl)) (Tr.va rfl (fun _ _ a c => zB zIF (a.ev rfl)) (Tr.va rfl (fun _ _ a c => zX (cs := [iv p0.place.X, iv p0.place.Y]) KT JL (a.ev rfl) (zO.take (rdb c (vs := [iv p0.p.Unit, sL zF p0.p.Tools zG, sL zM p0.p.Steps zL, sL QN p0.tools QP, sL QV p0.image QT, bV p0.clear, iv p0.tool, iv p0.place.X, iv p0.place.Y, bV p0.placed, iv p0.off, iv p0.on]) (k := 0) rfl 7) 2) rfl) (Tr.alloc 3 (wn rfl) rfl zJJ fun Qg => (Tr.store 3 (cs := [iv p0.place.X, iv p0.place.Y]) [iv p0.place.X, iv p0.place.Y] (wn rfl) rfl rfl rfl rfl JL rfl rfl rfl (Tr.nil (Tr.zA (Tr.seq (Tr.seq (Tr.Wj 5 (by kernel_rfl) (by kernel_rfl) (Tq.mv rfl rfl (Tq.va rfl (fun _ _ a c => zX (cs := [iv p1.X, iv p1.Y]) KT JL (a.ev rfl) (zO.take (rdb c (vs := [iv p1.X, iv p1.Y]) (k := 2) rfl 0) 2) rfl) (Tq.mv rfl rfl (Tq.va rfl (fun _ _ a c => QF (a.ev rfl)) (Tq.va rfl (fun _ _ a c => zB zd9 (a.ev rfl)) (Tq.nil ?_)))))))))))))))))))
     obtain ⟨y102, hy102, H⟩ := bnd H
     refine Tr.WB [0] [bx bp0 #[iv p0.p.Unit, sL zF p0.p.Tools zG, sL zM p0.p.Steps zL, sL QN p0.tools QP, sL QV p0.image QT, bV p0.clear, iv p0.tool, iv p0.place.X, iv p0.place.Y, bV p0.placed, iv p0.off, iv p0.on] 77] (U := Unit) (fun u => (iv y102.1)) (fun u => True) (fun u => [bx bp0 #[iv p0.p.Unit, sL zF p0.p.Tools zG, sL zM p0.p.Steps zL, sL QN p0.tools QP, sL QV p0.image QT, bV p0.clear, iv p0.tool, iv y102.2.1, iv y102.2.2.1, bV y102.2.2.2.1, iv p0.off, iv y102.2.2.2.2] 77]) rfl (zR rfl zk) (fun _ => rfl) (wn rfl) rfl Tryz.call104 (zI rfl (zI rfl (zI rfl zS))) (fun W hW hp hE => zFM p0 zF zG (zP.ext (hW.JH hp)) zM zL (QW.ext (hW.JH hp)) QN QP (Kn.ext (hW.JH hp)) QV QT (hW.slS (k := 1) rfl hp rfl) bp0 p1 y102 hy102 hE) ?_
     intro u hu
     show Tr _ _ (uf _ 46 (iv y102.1)) (up _ 0 (bx bp0 #[iv p0.p.Unit, sL zF p0.p.Tools zG, sL zM p0.p.Steps zL, sL QN p0.tools QP, sL QV p0.image QT, bV p0.clear, iv p0.tool, iv y102.2.1, iv y102.2.2.1, bV y102.2.2.2.1, iv p0.off, iv y102.2.2.2.2] 77)) _
     refine Tr.asg rfl rfl (Tr.nil (Tr.zA (Tr.sr (Tr.mv rfl rfl (Tr.va rfl (fun _ _ a c => Jt (a.ev rfl) (a.ev rfl)) (Tr.nil (Tr.zA (Tr.cond rfl H (fun H => ?_) (fun H => ?_)))))))))
     ·refine Tr.sr (Tr.mv rfl rfl (Tr.asg rfl rfl (Tr.nil (Tr.zA (Tr.ret (Tr.zg ?_))))))
      obtain rfl := oI H
      exact Tr.out (m := [iv y102.1]) [] (zU rfl zT) (fun W hW => ⟨w, (QV, QT), leB, rfl, zAb, hW.pick (ks := [0, 1]) (by decide) (zR rfl (zR rfl zk))⟩)
     ·refine Tr.skip (Tr.zA (Tr.seq (Tr.zPp 14 [] [] (by kernel_rfl) (by kernel_rfl) fun zof zl2 znQ => (Dr.quiet 0 [(50, pV bp0)] (by kernel_rfl) rfl rfl (by kernel_rfl) ?_ rfl rfl ?_))))
      ·exact Tq.mv rfl rfl (Tq.fin (.cons rfl .nil))
      refine Dr.quiet 1 [(51, pV bp0)] (by kernel_rfl) rfl rfl (by kernel_rfl) ?_ rfl rfl ?_
      ·exact Tq.mv rfl rfl (Tq.fin (.cons rfl .nil))
      refine Dr.quiet 2 [(52, pV bp0)] (by kernel_rfl) rfl rfl (by kernel_rfl) ?_ rfl rfl ?_
      ·exact Tq.va rfl (fun _ _ a c => QF (a.ev rfl)) (Tq.fin (.cons rfl .nil))
      refine Dr.quiet 3 [(53, .pointer (some ⟨bp0, 3, none⟩))] (by kernel_rfl) rfl rfl (by kernel_rfl) ?_ rfl rfl ?_
      ·exact Tq.va rfl (fun _ _ a c => zB zOE (a.ev rfl)) (Tq.fin (.cons rfl .nil))
      refine Dr.quiet 4 [(54, sL QN p0.tools QP)] (by kernel_rfl) rfl rfl (by kernel_rfl) ?_ rfl rfl ?_
      ·exact Tq.va rfl (fun _ _ a c => zD zcX (a.ev rfl) (rdb c (vs := [iv p0.p.Unit, sL zF p0.p.Tools zG, sL zM p0.p.Steps zL, sL QN p0.tools QP, sL QV p0.image QT, bV p0.clear, iv p0.tool, iv y102.2.1, iv y102.2.2.1, bV y102.2.2.2.1, iv p0.off, iv y102.2.2.2.2]) (k := 0) rfl 3) rfl) (Tq.fin (.cons rfl .nil))
      refine Dr.quiet 5 [(55, pV bp0)] (by kernel_rfl) rfl rfl (by kernel_rfl) ?_ rfl rfl ?_
      ·exact Tq.mv rfl rfl (Tq.fin (.cons rfl .nil))
      refine Dr.quiet 6 [(56, pV bp0)] (by kernel_rfl) rfl rfl (by kernel_rfl) ?_ rfl rfl ?_
      ·exact Tq.va rfl (fun _ _ a c => QF (a.ev rfl)) (Tq.fin (.cons rfl .nil))
      refine Dr.quiet 7 [(57, .pointer (some ⟨bp0, 6, none⟩))] (by kernel_rfl) rfl rfl (by kernel_rfl) ?_ rfl rfl ?_
      ·exact Tq.va rfl (fun _ _ a c => zB zL0 (a.ev rfl)) (Tq.fin (.cons rfl .nil))
      refine Dr.quiet 8 [(58, iv p0.tool)] (by kernel_rfl) rfl rfl (by kernel_rfl) ?_ rfl rfl ?_
      ·exact Tq.va rfl (fun _ _ a c => zD QH (a.ev rfl) (rdb c (vs := [iv p0.p.Unit, sL zF p0.p.Tools zG, sL zM p0.p.Steps zL, sL QN p0.tools QP, sL QV p0.image QT, bV p0.clear, iv p0.tool, iv y102.2.1, iv y102.2.2.1, bV y102.2.2.2.1, iv p0.off, iv y102.2.2.2.2]) (k := 0) rfl 6) rfl) (Tq.fin (.cons rfl .nil))
      obtain ⟨x105, za8, H⟩ := bnd H
      obtain ⟨zWC, zWB, zWA⟩ := zx za8
      obtain ⟨zfw, hRu106, zSF, hcu106⟩ := (Kn).el zWA
      obtain ⟨zOe, zOQ⟩ := zfw
      have zKL := zSF
      refine Dr.quiet 9 [(59, .pointer (some ⟨adB QN, adO QN + (p0.tool).toNat * 1, none⟩))] (by kernel_rfl) rfl rfl (by kernel_rfl) ?_ rfl rfl ?_
      ·replace zKL : Sl w.R w.W zW zOe zOQ x105 := zKL
       exact Tq.va rfl (fun _ _ a c => zK zb7 (a.ev rfl) Kn.form (a.ev rfl) zWC zWB) (Tq.fin (.cons rfl .nil))
      refine Dr.quiet 10 [(60, sL zOe x105 zOQ)] (by kernel_rfl) rfl rfl (by kernel_rfl) ?_ rfl rfl ?_
      ·exact Tq.va rfl (fun _ _ a c => zD zP2 (a.ev rfl) (rdR hRu106 hcu106 c) rfl) (Tq.fin (.cons rfl .nil))
      refine Dr.quiet 11 [(61, .agg #[iv p0.place.X, iv p0.place.Y])] (by kernel_rfl) rfl rfl (by kernel_rfl) ?_ rfl rfl ?_
      ·exact Tq.va rfl (fun _ _ a c => zX (cs := [iv p0.place.X, iv p0.place.Y]) KT JL (a.ev rfl) (zO.take (rdb c (vs := [iv p0.place.X, iv p0.place.Y]) (k := 3) rfl 0) 2) rfl) (Tq.fin (.cons rfl .nil))
      refine Dr.quiet 12 [(62, .agg #[iv p1.X, iv p1.Y])] (by kernel_rfl) rfl rfl (by kernel_rfl) ?_ rfl rfl ?_
      ·exact Tq.va rfl (fun _ _ a c => zX (cs := [iv p1.X, iv p1.Y]) KT JL (a.ev rfl) (zO.take (rdb c (vs := [iv p1.X, iv p1.Y]) (k := 2) rfl 0) 2) rfl) (Tq.fin (.cons rfl .nil))
      obtain ⟨zI9, zTw, H⟩ := bnd H
      refine Dr.one 13 (by kernel_rfl) (St.VW 13 [4] [emp] (U := (Option Addr × Nat)) (fun u => (sL u.1 zI9 u.2)) (fun O W u => SlF u.1 zI9.length u.2) (fun u => [ow u.1 u.2 107 zW zI9]) rfl (zR rfl zk) (fun _ => rfl) (zLn rfl) rfl (wn rfl) rfl Tryz.call126 (zI rfl (zI rfl (zI rfl zS))) (fun W hW hp hE => zIz N x105 zOe zOQ (zKL.ext (hW.JH hp)) p0.place p1 zI9 zTw hE) ?_)
      intro w u zNh hu zoN
      obtain ⟨zYK, zXo⟩ := u
      have gy107_0 := hu
      replace zP := zP.leR zNh
      replace QW := QW.leR zNh
      replace Kn := Kn.leR zNh
      replace hRu106 := zNh.r _ hRu106
      replace leB := leB.trans zNh
      have zmf : SlF zYK zI9.length zXo := gy107_0
      dsimp only
      refine Dr.tail (by kernel_rfl) (Tr.freeze 4 rfl fun w zLj zai => ?_)
      replace zP := zP.leR zLj
      replace QW := QW.leR zLj
      replace Kn := Kn.leR zLj
      replace hRu106 := zLj.r _ hRu106
      replace leB := leB.trans zLj
      obtain ⟨zGc, zTu, H⟩ := bnd H
      refine Tr.VW [0, 1] [bx bp0 #[iv p0.p.Unit, sL zF p0.p.Tools zG, sL zM p0.p.Steps zL, sL QN p0.tools QP, sL QV p0.image QT, bV p0.clear, iv p0.tool, iv y102.2.1, iv y102.2.2.1, bV y102.2.2.2.1, iv p0.off, iv y102.2.2.2.2] 77, ow QV QT 107 zW p0.image] (U := (Option Addr × Nat)) (fun u => (iv zGc.1)) (fun O W u => SlF u.1 zGc.2.length u.2) (fun u => [bx bp0 #[iv p0.p.Unit, sL zF p0.p.Tools zG, sL zM p0.p.Steps zL, sL QN p0.tools QP, sL u.1 zGc.2 u.2, bV p0.clear, iv p0.tool, iv y102.2.1, iv y102.2.2.1, bV y102.2.2.2.1, iv p0.off, iv y102.2.2.2.2] 77, ow u.1 u.2 107 zW zGc.2]) rfl (zR rfl (zR rfl zk)) (fun _ => rfl) (wn rfl) rfl Tryz.call125 (zI rfl (zI rfl zS)) (fun W hW hp hE => zBh N (QU.mk p0.p p0.tools p0.image p0.clear p0.tool (zJ.mk y102.2.1 y102.2.2.1) y102.2.2.2.1 p0.off y102.2.2.2.2) zF zG (zP.ext (hW.JH hp)) zM zL (QW.ext (hW.JH hp)) QN QP (Kn.ext (hW.JH hp)) QV QT bp0 zI9 zYK zXo (zai.zAS (hW.JH hp)) zGc zTu hE) ?_
      intro w u zaP hu
      obtain ⟨zYI, zXm⟩ := u
      have gy111_0 := hu
      replace hRu106 := zaP.r _ hRu106
      replace zai := zai.le zaP
      replace leB := leB.trans zaP
      have zbf : SlF zYI zGc.2.length zXm := gy111_0 --@phi
      dsimp only
      refine Tr.asg rfl rfl (Tr.nil (Tr.zA (Tr.ret ?_)))
      obtain rfl := oI H
      exact Tr.out (m := [iv zGc.1]) [] (zU rfl zT) (fun W hW => ⟨w, (zYI, zXm), leB, rfl, zbf, hW.pick (ks := [0, 1]) (by decide) (zR rfl (zR rfl zk))⟩)

theorem zKc {w : Bs} (p0 : zQ) (p1 : zQ) (r : Int) (H : zAk p0 p1 = some r) (hE : HF w w.W E0) : Calls Tryz.prog 157 [.agg #[iv p0.X0, iv p0.Y0, iv p0.X1, iv p0.Y1], .agg #[iv p1.X0, iv p1.Y0, iv p1.X1, iv p1.Y1]].toArray w.W fun e W' => e = .returned (iv r) ∧ HF w W' E0 := by
 unfold zAk at H
 have leB := Bs.Le.refl w
 refine Tr.enter (n := 10) Tryz.func157 rfl rfl rfl hE (Tr.sr (Tr.box 1 (cs := [iv p0.X0, iv p0.Y0, iv p0.X1, iv p0.Y1]) (wn rfl) rfl rfl rfl fun zt => (Tr.box 2 (cs := [iv p1.X0, iv p1.Y0, iv p1.X1, iv p1.Y1]) (wn rfl) rfl rfl rfl fun Qg => (Tr.asg rfl rfl (Tr.nil (Tr.zA (Tr.sr (Tr.va rfl (fun _ _ a c => zB zBG (a.ev rfl)) (Tr.va rfl (fun _ _ a c => zD QH (a.ev rfl) (rdb c (vs := [iv p0.X0, iv p0.Y0, iv p0.X1, iv p0.Y1]) (k := 1) rfl 0) rfl) (Tr.va rfl (fun _ _ a c => zB zBG (a.ev rfl)) (Tr.va rfl (fun _ _ a c => zD QH (a.ev rfl) (rdb c (vs := [iv p1.X0, iv p1.Y0, iv p1.X1, iv p1.Y1]) (k := 2) rfl 0) rfl) (Tr.va rfl (fun _ _ a c => zAt (a.ev rfl) (a.ev rfl)) (Tr.asg rfl rfl (Tr.nil (Tr.zA (Tr.ret ?_))))))))))))))))
 obtain rfl := oI H
 exact Tr.out (m := [iv (w64 (p0.X0 - p1.X0))]) [] (zU rfl zT) (fun W hW => ⟨rfl, hW.low leB⟩)

theorem zMN (N : Nat) {w : Bs} (p0 : (List (List zJ))) (zF : Option Addr) (zG : Nat) (zP : Sl w.R w.W zPk zF zG p0) (r : (List ze)) (H : zCs N p0 = some r) (hE : HF w w.W (LEn [emp])) : Calls Tryz.prog 127 [sL zF p0 zG].toArray w.W fun e W' => ∃ (w' : Bs) (u : (Option Addr × Nat)), w.Le w' ∧ e = .returned (sL u.1 r u.2) ∧ (SlF u.1 r.length u.2) ∧ HF w' W' (LEn [ow u.1 u.2 107 zW r]) := by
 unfold zCs at H
 have leB := Bs.Le.refl w
 refine Tr.enter (n := 138) Tryz.func127 rfl rfl rfl hE (Tr.sr (Tr.asg rfl rfl (Tr.JY 1 107 zW ?_)))
 show Tr _ _ (uf _ 2 (sL none (([] : List ze)) 0)) _ _
 refine Tr.nil (Tr.zA (Tr.sr (Tr.asg rfl rfl (Tr.JY 2 3 QO ?_))))
 show Tr _ _ (uf _ 3 (sL none (([] : List Int)) 0)) _ _
 refine Tr.nil (Tr.zA (Tr.sr (Tr.asg rfl rfl (Tr.JY 3 36 zY ?_))))
 show Tr _ _ (uf _ 4 (sL none (([] : List zQ)) 0)) _ _
 refine Tr.nil (Tr.zA (Tr.seq (Tr.sr (Tr.mv rfl rfl (Tr.va rfl (fun _ _ a c => zy zfq (a.ev rfl)) (Tr.mv rfl rfl (Tr.nil (Tr.zA (Tr.block (Tr.loop (σ := (List (List zJ)) × Nat × (List Int) × (List zQ) × (Option Addr) × Nat × (Option Addr) × Nat) (fun m w s => m = s.1.length + 1 ∧ s.1 = List.drop s.2.1 p0 ∧ s.2.1 ≤ p0.length ∧ KE N s.1 s.2.1 s.2.2.1 s.2.2.2.1 = some r ∧ SlF s.2.2.2.2.1 s.2.2.1.length s.2.2.2.2.2.1 ∧ SlF s.2.2.2.2.2.2.1 s.2.2.2.1.length s.2.2.2.2.2.2.2) (fun s => [(3, sL s.2.2.2.2.1 s.2.2.1 s.2.2.2.2.2.1), (4, sL s.2.2.2.2.2.2.1 s.2.2.2.1 s.2.2.2.2.2.2.2), (16, sL zF p0 zG), (17, iv (p0.length : Int)), (18, iv (s.2.1 : Int))]) (fun s => [(2, ow s.2.2.2.2.1 s.2.2.2.2.2.1 3 QO s.2.2.1), (3, ow s.2.2.2.2.2.2.1 s.2.2.2.2.2.2.2 36 zY s.2.2.2.1)]) (p0.length + 1) (p0, 0, ([] : List Int), ([] : List zQ), none, 0, none, 0) ⟨rfl, rfl, Nat.zero_le _, H, VR, VR⟩ (.cons rfl (.cons rfl (.cons rfl (.cons rfl (.cons rfl .nil))))) (.cons rfl (.cons rfl .nil)) (fun _ _ h => absurd h.1 (by simp)) ?_))))))))))
 intro w WL m s hs
 obtain ⟨Qz, iL3, zPJ, zH8, zI4, zIx, zCI, zCD⟩ := s
 obtain ⟨zIE, zAd, hiL3, H, zXI, zQv⟩ := hs
 replace zAd : Qz = List.drop iL3 p0 := zAd
 replace H : KE N Qz iL3 zPJ zH8 = some r := H
 replace zIE : m + 1 = Qz.length + 1 := zIE
 replace zP := zP.leR WL
 replace leB := leB.trans WL
 replace zXI : SlF zI4 zPJ.length zIx := zXI
 replace zQv : SlF zCI zH8.length zCD := zQv
 obtain rfl : m = Qz.length := by omega
 clear zIE
 dsimp only
 cases Qz with
 | nil =>
  rw [KE.eq_1] at H
  refine Tr.sr (Tr.va rfl (fun _ _ a c => QE (a.ev rfl) (a.ev rfl)) (Tr.nil (Tr.zA (Tr.seq (Tr.WY rfl (JB zAd) (Tr.exit (Tr.zi (Tr.zi (Tr.QL (Tr.zA (Tr.sr (Tr.mv rfl rfl ?_))))))))))))
  obtain ⟨zMd, zk0, H⟩ := bnd H
  refine Tr.WB [2] [ow zI4 zIx 3 QO zPJ] (U := Unit) (fun u => (.tuple #[])) (fun u => zMd.length = zPJ.length) (fun u => [ow zI4 zIx 3 QO zMd]) rfl (zR rfl zk) (fun _ => rfl) (wn rfl) rfl Tryz.call83 (zI rfl zS) (fun W hW hp hE => zFJ zPJ zI4 zIx zMd zk0 hE) ?_
  intro u hu
  have gky189_0 := hu
  have zND : zMd.length = zPJ.length := gky189_0 --@phi
  have zjS : SlF zI4 zMd.length zIx := by rw [zND]; exact zXI
  show Tr _ _ (uf _ 66 (.tuple #[])) (up _ 2 (ow zI4 zIx 3 QO zMd)) _
  refine Tr.sel (lf := [(3, sL zI4 zMd zIx), (4, sL zCI zH8 zCD), (16, sL zF p0 zG), (17, iv (p0.length : Int)), (18, iv (iL3 : Int)), (19, bV (decide ((iL3 : Int) < (p0.length : Int)))), (65, sL zI4 zMd zIx), (66, (.tuple #[]))]) (le := [(2, ow zI4 zIx 3 QO zMd), (3, ow zCI zCD 36 zY zH8)]) (.cons (KM rfl (by unfold sL; rw [zND])) (.cons rfl (.cons rfl (.cons rfl (.cons rfl (.cons rfl (.cons (KM rfl (by unfold sL; rw [zND])) (.cons rfl .nil)))))))) (.cons rfl (.cons rfl .nil)) (Tr.nil (Tr.zA (Tr.sr (Tr.mv rfl rfl ?_))))
  obtain ⟨zCw, zkz, H⟩ := bnd H
  refine Tr.WB [2] [ow zI4 zIx 3 QO zMd] (U := (Option Addr × Nat)) (fun u => (sL u.1 zCw u.2)) (fun u => SlF u.1 zCw.length u.2) (fun u => [ow u.1 u.2 3 QO zCw]) rfl (zR rfl zk) (fun _ => rfl) (wn rfl) rfl Tryz.call84 (zI rfl zS) (fun W hW hp hE => zDq zMd zI4 zIx zCw zkz hE) ?_
  intro u hu
  obtain ⟨zE0, zEr⟩ := u
  have gy191_0 := hu
  have zLt : SlF zE0 zCw.length zEr := gy191_0 --@phi
  dsimp only
  refine Tr.asg rfl rfl (Tr.nil (Tr.zA (Tr.sr (Tr.mv rfl rfl ?_))))
  obtain ⟨zCb, zky, H⟩ := bnd H
  refine Tr.WB [3] [ow zCI zCD 36 zY zH8] (U := Unit) (fun u => (.tuple #[])) (fun u => zCb.length = zH8.length) (fun u => [ow zCI zCD 36 zY zCb]) rfl (zR rfl zk) (fun _ => rfl) (wn rfl) rfl Tryz.call81 (zI rfl (zI rfl zS)) (fun W hW hp hE => zAq zH8 zCI zCD (fun z0 z1 => zAk z0 z1) 157 [] Tryz.call157 (fun w' he z0 z1 y hy => zKc z0 z1 y hy (HF.start _)) zCb zky hE) ?_
  intro u hu
  have gky193_0 := hu
  have zNC : zCb.length = zH8.length := gky193_0 --@phi
  have zKO : SlF zCI zCb.length zCD := by rw [zNC]; exact zQv
  show Tr _ _ (uf _ 70 (.tuple #[])) (up _ 3 (ow zCI zCD 36 zY zCb)) _
  refine Tr.sel (lf := [(3, sL zE0 zCw zEr), (4, sL zCI zCb zCD), (16, sL zF p0 zG), (17, iv (p0.length : Int)), (18, iv (iL3 : Int)), (19, bV (decide ((iL3 : Int) < (p0.length : Int)))), (66, (.tuple #[])), (68, sL zE0 zCw zEr), (69, sL zCI zCb zCD), (70, (.tuple #[]))]) (le := [(2, ow zE0 zEr 3 QO zCw), (3, ow zCI zCD 36 zY zCb)]) (.cons rfl (.cons (KM rfl (by unfold sL; rw [zNC])) (.cons rfl (.cons rfl (.cons rfl (.cons rfl (.cons rfl (.cons rfl (.cons (KM rfl (by unfold sL; rw [zNC])) (.cons rfl .nil)))))))))) (.cons rfl (.cons rfl .nil)) (Tr.nil (Tr.zA (Tr.sr (Tr.asg rfl rfl (Tr.JY 28 107 zW ?_)))))
  show Tr _ _ (uf _ 10 (sL none (([] : List ze)) 0)) _ _
  refine Tr.nil (Tr.zA (Tr.seq (Tr.sr (Tr.asg rfl rfl (Tr.nil (Tr.zA (Tr.block (Tr.loop (σ := (List ze) × Int × (Option Addr) × Nat) (fun m w s => KD zCw zCb m s.1 s.2.1 = some r ∧ SlF s.2.2.1 s.1.length s.2.2.2) (fun s => [(3, sL zE0 zCw zEr), (4, sL zCI zCb zCD), (10, sL s.2.2.1 s.1 s.2.2.2), (11, iv s.2.1)]) (fun s => [(2, ow zE0 zEr 3 QO zCw), (3, ow zCI zCD 36 zY zCb), (28, ow s.2.2.1 s.2.2.2 107 zW s.1)]) N (([] : List ze), 0, none, 0) ⟨H, VR⟩ (.cons rfl (.cons rfl (.cons rfl (.cons rfl .nil)))) (.cons rfl (.cons rfl (.cons rfl .nil))) (fun _ _ h => zAQ (h.1)) ?_))))))))
  intro w zTb mL6 s hs
  obtain ⟨zH6, zHt, zMb, zMH⟩ := s
  obtain ⟨H, zbG⟩ := hs
  replace H : KD zCw zCb (mL6 + 1) zH6 zHt = some r := H
  replace leB := leB.trans zTb
  replace zbG : SlF zMb zH6.length zMH := zbG
  rw [KD.eq_2] at H
  dsimp only
  refine Tr.seq (Tr.sr (Tr.mv rfl rfl (Tr.va rfl (fun _ _ a c => QA (a.ev rfl) (a.ev rfl)) (Tr.mv rfl rfl (Tr.va rfl (fun _ _ a c => zy zCc (a.ev rfl)) (Tr.va rfl (fun _ _ a c => QE (a.ev rfl) (a.ev rfl)) (Tr.nil (Tr.zA (Tr.cond rfl H (fun H => ?_) (fun H => ?_))))))))))
  ·refine Tr.skip (Tr.zA (Tr.seq (Tr.block (Tr.sr (Tr.asg rfl rfl (Tr.JY 43 3 QO ?_))))))
   show Tr _ _ (uf _ 12 (sL none (([] : List Int)) 0)) _ _
   refine Tr.nil (Tr.zA (Tr.seq (Tr.sr (Tr.mv rfl rfl (Tr.va rfl (fun _ _ a c => zy zBQ (a.ev rfl)) (Tr.mv rfl rfl (Tr.nil (Tr.zA (Tr.block (Tr.loop (σ := (List zQ) × Nat × (List Int) × (Option Addr) × Nat) (fun m w s => m = s.1.length + 1 ∧ s.1 = List.drop s.2.1 zCb ∧ s.2.1 ≤ zCb.length ∧ KC zCw zH6 zHt (KD zCw zCb mL6) s.1 s.2.1 s.2.2.1 = some r ∧ SlF s.2.2.2.1 s.2.2.1.length s.2.2.2.2) (fun s => [(3, sL zE0 zCw zEr), (4, sL zCI zCb zCD), (10, sL zMb zH6 zMH), (11, iv zHt), (12, sL s.2.2.2.1 s.2.2.1 s.2.2.2.2), (78, sL zCI zCb zCD), (79, iv (zCb.length : Int)), (80, iv (s.2.1 : Int))]) (fun s => [(2, ow zE0 zEr 3 QO zCw), (3, ow zCI zCD 36 zY zCb), (28, ow zMb zMH 107 zW zH6), (43, ow s.2.2.2.1 s.2.2.2.2 3 QO s.2.2.1)]) (zCb.length + 1) (zCb, 0, ([] : List Int), none, 0) ⟨rfl, rfl, Nat.zero_le _, H, VR⟩ (.cons rfl (.cons rfl (.cons rfl (.cons rfl (.cons rfl (.cons rfl (.cons rfl (.cons rfl .nil)))))))) (.cons rfl (.cons rfl (.cons rfl (.cons rfl .nil)))) (fun _ _ h => absurd h.1 (by simp)) ?_))))))))))
   intro w zK3 m s hs
   obtain ⟨zEc, iL7, zHE, zNv, zNq⟩ := s
   obtain ⟨zin, zK6, hiL7, H, zQt⟩ := hs
   replace zK6 : zEc = List.drop iL7 zCb := zK6
   replace H : KC zCw zH6 zHt (KD zCw zCb mL6) zEc iL7 zHE = some r := H
   replace zin : m + 1 = zEc.length + 1 := zin
   replace zTb := zTb.trans zK3
   replace zQt : SlF zNv zHE.length zNq := zQt
   obtain rfl : m = zEc.length := by omega
   clear zin
   dsimp only
   cases zEc with
   | nil =>
    rw [KC.eq_1] at H
    refine Tr.sr (Tr.va rfl (fun _ _ a c => QE (a.ev rfl) (a.ev rfl)) (Tr.nil (Tr.zA (Tr.seq (Tr.WY rfl (JB zK6) (Tr.exit (Tr.zi (Tr.zi (Tr.QL (Tr.zA (Tr.Wj 12 (by kernel_rfl) (by kernel_rfl) (Tq.mv rfl rfl (Tq.mv rfl rfl (Tq.mv rfl rfl ?_))))))))))))))
    obtain ⟨zZb, zlN, H⟩ := bnd H
    obtain ⟨zg1, zg0, zgz⟩ := zx zlN
    refine Tq.va rfl (fun _ _ a c => zK zA3 (a.ev rfl) zLt (a.ev rfl) zg1 zg0) (Tq.va rfl (fun _ _ a c => zD QH (a.ev rfl) (rdo We (k := 2) c rfl zgz) rfl) (Tq.mv rfl rfl (Tq.mv rfl rfl (Tq.va rfl (fun _ _ a c => QA (a.ev rfl) (a.ev rfl)) ?_))))
    obtain ⟨zZa, zlM, H⟩ := bnd H
    obtain ⟨zgy, zgx, zgw⟩ := zx zlM
    refine Tq.va rfl (fun _ _ a c => zK zA3 (a.ev rfl) zLt (a.ev rfl) zgy zgx) (Tq.va rfl (fun _ _ a c => zD QH (a.ev rfl) (rdo We (k := 2) c rfl zgw) rfl) (Tq.mv rfl rfl (Tq.build (vs := [(0, iv zZb), (1, iv zZa), (2, sL zNv zHE zNq)]) (cs := [iv zZb, iv zZa, sL zNv zHE zNq]) (wn rfl) rfl (zl rfl (zl rfl (zl rfl Qf))) (by kernel_rfl) (Tq.nil (Tr.freeze 43 rfl fun w zkA zab => ?_)))))
    replace zTb := zTb.trans zkA
    obtain ⟨zSw, zkZ, H⟩ := bnd H
    refine Tr.VW [28] [ow zMb zMH 107 zW zH6] (U := (Option Addr × Nat)) (fun u => (sL u.1 zSw u.2)) (fun O W u => SlF u.1 zSw.length u.2) (fun u => [ow u.1 u.2 107 zW zSw]) rfl (zR rfl zk) (fun _ => rfl) (wn rfl) rfl Tryz.call87 (zI rfl (zI rfl zS)) (fun W hW hp hE => zCr zH6 zMb zMH (ze.mk zZb zZa zHE) zNv zNq (zab.zAS (hW.JH hp)) zSw zkZ hE) ?_
    intro w u zez hu
    obtain ⟨zX7, zXb⟩ := u
    have gy334_0 := hu
    replace zab := zab.le zez
    replace zTb := zTb.trans zez
    have zbR : SlF zX7 zSw.length zXb := gy334_0 --@phi
    dsimp only
    exact Tr.asg rfl rfl (Tr.nil (Tr.zh (Tr.zA (Tr.region (Tr.mv rfl rfl (Tr.va rfl (fun _ _ a c => QA (a.ev rfl) (a.ev rfl)) (Tr.asg rfl rfl (Tr.nil (Tr.zf zTb (zSw, (w64 (zHt + 1)), zX7, zXb) ⟨H, zbR⟩ (.cons rfl (.cons rfl (.cons rfl (.cons rfl .nil)))) (.cons rfl (.cons rfl (.cons rfl .nil))))))))))))
   | cons xL7 zEc =>
    rw [KC.eq_2] at H
    refine Tr.sr (Tr.va rfl (fun _ _ a c => QE (a.ev rfl) (a.ev rfl)) (Tr.nil (Tr.zA (Tr.seq (Tr.WX rfl (JX zK6) (Tr.skip (Tr.zA (Tr.seq (Tr.block (Tr.sr (Tr.va rfl (fun _ _ a c => zK zCl (a.ev rfl) zKO (a.ev rfl) (Int.natCast_nonneg _) (QC zK6)) (Tr.va rfl (fun _ _ a c => zX (cs := [iv xL7.X0, iv xL7.Y0, iv xL7.X1, iv xL7.Y1]) zBr VE (a.ev rfl) (zO.take (rdo WA (k := 3) c rfl (Js zK6)) 4) rfl) (Tr.alloc 48 (wn rfl) rfl zF5 fun zm8 => (Tr.store 48 (cs := [iv xL7.X0, iv xL7.Y0, iv xL7.X1, iv xL7.Y1]) [iv xL7.X0, iv xL7.Y0, iv xL7.X1, iv xL7.Y1] (wn rfl) rfl rfl rfl rfl VE rfl rfl rfl (Tr.nil (Tr.zA (Tr.seq (Tr.seq (Tr.draw (by kernel_rfl) (by kernel_rfl) (Tq.va rfl (fun _ _ a c => zB zDX (a.ev rfl)) (Tq.va rfl (fun _ _ a c => zD QH (a.ev rfl) (rdb c (vs := [iv xL7.X0, iv xL7.Y0, iv xL7.X1, iv xL7.Y1]) (k := 48) rfl 1) rfl) (Tq.mv rfl rfl (Tq.mv rfl rfl ?_)))))))))))))))))))))))
    obtain ⟨zYb, zav, H⟩ := bnd H
    obtain ⟨zVh, zVg, zVf⟩ := zx zav
    refine Tq.va rfl (fun _ _ a c => zK zA3 (a.ev rfl) zLt (a.ev rfl) zVh zVg) (Tq.va rfl (fun _ _ a c => zD QH (a.ev rfl) (rdo We (k := 2) c rfl zVf) rfl) (Tq.va rfl (fun _ _ a c => WO (a.ev rfl) (a.ev rfl)) (Tq.mv rfl rfl ?_)))
    obtain ⟨ziu, zQ0, H⟩ := bnd H
    refine Tq.mid 8 [(3, sL zE0 zCw zEr), (4, sL zCI zCb zCD), (10, sL zMb zH6 zMH), (11, iv zHt), (12, sL zNv zHE zNq), (14, pV zm8), (78, sL zCI zCb zCD), (79, iv (zCb.length : Int)), (80, iv (iL7 : Int)), (99, bV ziu)] ?_ ?_
    ·cases zUC : (decide (zYb < xL7.Y0))
     ·rw [zUC] at zQ0
      rw [if_neg (by decide)] at zQ0
      have H := zQ0
      refine Tq.val (wg rfl rfl rfl) rfl (fun _ _ a c => zB zEp (a.ev rfl)) (Tq.val (wg rfl rfl rfl) rfl (fun _ _ a c => zD QH (a.ev rfl) (rdb c (vs := [iv xL7.X0, iv xL7.Y0, iv xL7.X1, iv xL7.Y1]) (k := 48) rfl 3) rfl) (Tq.val (wg rfl rfl rfl) rfl (fun _ _ a c => run_move (a.ev rfl)) (Tq.val (wg rfl rfl rfl) rfl (fun _ _ a c => run_move (a.ev rfl)) ?_)))
      obtain ⟨zjb, zlL, H⟩ := bnd H
      obtain ⟨zgv, zgu, zgt⟩ := zx zlL
      refine Tq.val (wg rfl rfl rfl) rfl (fun _ _ a c => zK zA3 (a.ev rfl) zLt (a.ev rfl) zgv zgu) (Tq.val (wg rfl rfl rfl) rfl (fun _ _ a c => zD QH (a.ev rfl) (rdo We (k := 2) c rfl zgt) rfl) (Tq.val (wg rfl rfl rfl) rfl (fun _ _ a c => zBR (a.ev rfl) (a.ev rfl)) (Tq.va rfl (fun _ _ a c => zo (a.ev rfl) (a.ev rfl)) ?_)))
      obtain rfl := oI H
      exact Tq.fin (.cons rfl (.cons rfl (.cons rfl (.cons rfl (.cons rfl (.cons rfl (.cons rfl (.cons rfl (.cons rfl (.cons rfl .nil))))))))))
     ·rw [zUC] at zQ0
      rw [if_pos rfl] at zQ0
      have H := zQ0
      obtain rfl := oI H
      exact Tq.pass rfl rfl rfl rfl rfl (by decide) (Tq.pass rfl rfl rfl rfl rfl (by decide) (Tq.pass rfl rfl rfl rfl rfl (by decide) (Tq.pass rfl rfl rfl rfl rfl (by decide) (Tq.pass rfl rfl rfl rfl rfl (by decide) (Tq.pass rfl rfl rfl rfl rfl (by decide) (Tq.pass rfl rfl rfl rfl rfl (by decide) (Tq.va rfl (fun _ _ a c => zn (a.ev rfl) (a.ev rfl)) (Tq.fin (.cons rfl (.cons rfl (.cons rfl (.cons rfl (.cons rfl (.cons rfl (.cons rfl (.cons rfl (.cons rfl (.cons rfl .nil))))))))))))))))))
    ·refine Tq.nil (Tr.zA (Tr.cond rfl H (fun H => ?_) (fun H => ?_)))
     ·exact Tr.exit (Tr.zi (Tr.QL (Tr.zA (Tr.region (Tr.va rfl (fun _ _ a c => QA (a.ev rfl) (a.ev rfl)) (Tr.mv rfl rfl (Tr.nil (Tr.zf zK3 (zEc, (iL7 + 1), zHE, zNv, zNq) ⟨rfl, Ql zK6, QC zK6, H, zQt⟩ (.cons rfl (.cons rfl (.cons rfl (.cons rfl (.cons rfl (.cons rfl (.cons rfl (.cons (congrArg (fun z => some (Value.int .i64 z)) (Qk zK6 zKO)) .nil)))))))) (.cons rfl (.cons rfl (.cons rfl (.cons rfl .nil))))))))))))
     ·refine Tr.skip (Tr.zA (Tr.sr (Tr.mv rfl rfl (Tr.va rfl (fun _ _ a c => zy zCc (a.ev rfl)) (Tr.asg rfl rfl (Tr.nil (Tr.zA (Tr.seq (Tr.draw (by kernel_rfl) (by kernel_rfl) (Tq.mv rfl rfl (Tq.va rfl (fun _ _ a c => WO (a.ev rfl) (a.ev rfl)) (Tq.mv rfl rfl ?_))))))))))))
      obtain ⟨zit, zQz, H⟩ := bnd H
      refine Tq.mid 9 [(3, sL zE0 zCw zEr), (4, sL zCI zCb zCD), (10, sL zMb zH6 zMH), (11, iv zHt), (12, sL zNv zHE zNq), (14, pV zm8), (15, iv (zHE.length : Int)), (78, sL zCI zCb zCD), (79, iv (zCb.length : Int)), (80, iv (iL7 : Int)), (113, bV zit)] ?_ ?_
      ·cases zUC : (decide (0 < (zHE.length : Int)))
       ·rw [zUC] at zQz
        rw [if_neg (by decide)] at zQz
        have H := zQz
        obtain rfl := oI H
        exact Tq.pass rfl rfl rfl rfl rfl (by decide) (Tq.pass rfl rfl rfl rfl rfl (by decide) (Tq.pass rfl rfl rfl rfl rfl (by decide) (Tq.pass rfl rfl rfl rfl rfl (by decide) (Tq.pass rfl rfl rfl rfl rfl (by decide) (Tq.pass rfl rfl rfl rfl rfl (by decide) (Tq.pass rfl rfl rfl rfl rfl (by decide) (Tq.pass rfl rfl rfl rfl rfl (by decide) (Tq.va rfl (fun _ _ a c => zo (a.ev rfl) (a.ev rfl)) (Tq.fin (.cons rfl (.cons rfl (.cons rfl (.cons rfl (.cons rfl (.cons rfl (.cons rfl (.cons rfl (.cons rfl (.cons rfl (.cons rfl .nil))))))))))))))))))))
       ·rw [zUC] at zQz
        rw [if_pos rfl] at zQz
        have H := zQz
        refine Tq.val (wg rfl rfl rfl) rfl (fun _ _ a c => run_move (a.ev rfl)) (Tq.val (wg rfl rfl rfl) rfl (fun _ _ a c => run_move (a.ev rfl)) (Tq.val (wg rfl rfl rfl) rfl (fun _ _ a c => zAt (a.ev rfl) (a.ev rfl)) ?_))
        obtain ⟨zja, zlK, H⟩ := bnd H
        obtain ⟨zgs, zgr, zgq⟩ := zx zlK
        refine Tq.val (wg rfl rfl rfl) rfl (fun _ _ a c => zK zA3 (a.ev rfl) zQt (a.ev rfl) zgs zgr) (Tq.val (wg rfl rfl rfl) rfl (fun _ _ a c => zD QH (a.ev rfl) (rdo We (k := 43) c rfl zgq) rfl) (Tq.val (wg rfl rfl rfl) rfl (fun _ _ a c => zB zBG (a.ev rfl)) (Tq.val (wg rfl rfl rfl) rfl (fun _ _ a c => zD QH (a.ev rfl) (rdb c (vs := [iv xL7.X0, iv xL7.Y0, iv xL7.X1, iv xL7.Y1]) (k := 48) rfl 0) rfl) (Tq.val (wg rfl rfl rfl) rfl (fun _ _ a c => Qa (a.ev rfl) (a.ev rfl)) (Tq.va rfl (fun _ _ a c => zn (a.ev rfl) (a.ev rfl)) ?_)))))
        obtain rfl := oI H
        exact Tq.fin (.cons rfl (.cons rfl (.cons rfl (.cons rfl (.cons rfl (.cons rfl (.cons rfl (.cons rfl (.cons rfl (.cons rfl (.cons rfl .nil)))))))))))
      ·refine Tq.nil (Tr.zA (Tr.cond rfl H (fun H => ?_) (fun H => ?_)))
       ·refine Tr.region (Tr.mv rfl rfl (Tr.mv rfl rfl (Tr.va rfl (fun _ _ a c => zAt (a.ev rfl) (a.ev rfl)) ?_)))
        obtain ⟨zgI, zbF, H⟩ := bnd H
        exact Tr.va rfl (fun _ _ a c => zRu zA3 (a.ev rfl) zQt (a.ev rfl) zbF) (Tr.asg rfl rfl (Tr.nil (Tr.zh (Tr.zA (Tr.region (Tr.va rfl (fun _ _ a c => QA (a.ev rfl) (a.ev rfl)) (Tr.mv rfl rfl (Tr.nil (Tr.zRt 43 zbF rfl (Tr.zf zK3 (zEc, (iL7 + 1), zgI, zNv, zNq) ⟨rfl, Ql zK6, QC zK6, H, (zLe zQt zbF)⟩ (.cons rfl (.cons rfl (.cons rfl (.cons rfl (.cons rfl (.cons rfl (.cons rfl (.cons (congrArg (fun z => some (Value.int .i64 z)) (Qk zK6 zKO)) .nil)))))))) (.cons rfl (.cons rfl (.cons rfl (.cons rfl .nil))))))))))))))
       ·refine Tr.region (Tr.mv rfl rfl (Tr.va rfl (fun _ _ a c => zB zBG (a.ev rfl)) (Tr.va rfl (fun _ _ a c => zD QH (a.ev rfl) (rdb c (vs := [iv xL7.X0, iv xL7.Y0, iv xL7.X1, iv xL7.Y1]) (k := 48) rfl 0) rfl) (Tr.buildSlice 49 (e := 3) (vs := [(0, iv xL7.X0)]) (cs := [iv xL7.X0]) (wn rfl) rfl (zl rfl Qf) (by kernel_rfl) fun zot => ?_))))
        obtain ⟨zgH, zl9, H⟩ := bnd H
        exact Tr.append 43 (t := QO) (l := zHE) (l2 := [xL7.X0]) (wn rfl) rfl rfl rfl rfl (fun W hW => ⟨[[iv xL7.X0]], (.cons ⟨(), trivial, rfl⟩ .nil), rdb hW (vs := [iv xL7.X0]) (k := 49) rfl 0⟩) zCc zJB zZK (by decide) zcL rfl zl9 fun znE zmu hAl346 => (Tr.asg rfl rfl (Tr.nil (Tr.zh (Tr.zA (Tr.region (Tr.va rfl (fun _ _ a c => QA (a.ev rfl) (a.ev rfl)) (Tr.mv rfl rfl (Tr.nil (Tr.zf zK3 (zEc, (iL7 + 1), zgH, znE, zmu) ⟨rfl, Ql zK6, QC zK6, H, hAl346⟩ (.cons rfl (.cons rfl (.cons rfl (.cons rfl (.cons rfl (.cons rfl (.cons rfl (.cons (congrArg (fun z => some (Value.int .i64 z)) (Qk zK6 zKO)) .nil)))))))) (.cons rfl (.cons rfl (.cons rfl (.cons rfl .nil)))))))))))))
  ·refine Tr.exit (Tr.zi (Tr.zi (Tr.QL (Tr.zA (Tr.sr (Tr.mv rfl rfl (Tr.asg rfl rfl (Tr.nil (Tr.zA (Tr.ret ?_))))))))))
   obtain rfl := oI H
   exact Tr.out (m := [sL zMb zH6 zMH]) [] (zU rfl zT) (fun W hW => ⟨w, (zMb, zMH), leB, rfl, zbG, hW.pick (ks := [28]) (by decide) (zR rfl zk)⟩)
 | cons xL3 Qz =>
  rw [KE.eq_2] at H
  refine Tr.sr (Tr.va rfl (fun _ _ a c => QE (a.ev rfl) (a.ev rfl)) (Tr.nil (Tr.zA (Tr.seq (Tr.WX rfl (JX zAd) (Tr.skip (Tr.zA (Tr.seq (Tr.block (Tr.sr ?_))))))))))
  obtain ⟨znr, hRu347, zdV, hcu347⟩ := (zP).el (Js zAd)
  obtain ⟨zSq, zSU⟩ := znr
  have zCJ := zdV
  replace zCJ : Sl w.R w.W QD zSq zSU xL3 := zCJ
  refine Tr.va rfl (fun _ _ a c => zK zi1 (a.ev rfl) zP.form (a.ev rfl) (Int.natCast_nonneg _) (QC zAd)) (Tr.va rfl (fun _ _ a c => zD zFI (a.ev rfl) (rdR hRu347 hcu347 c) rfl) (Tr.asg rfl rfl (Tr.nil (Tr.zA (Tr.sr (Tr.mv rfl rfl (Tr.va rfl (fun _ _ a c => zy zEQ (a.ev rfl)) (Tr.mv rfl rfl (Tr.nil (Tr.zA (Tr.block (Tr.loop (σ := (List zJ) × Nat × (List Int) × (List zQ) × (Option Addr) × Nat × (Option Addr) × Nat) (fun m w s => m = s.1.length + 1 ∧ s.1 = List.drop s.2.1 xL3 ∧ s.2.1 ≤ xL3.length ∧ Ka (KE N Qz (iL3 + 1)) xL3 s.1 s.2.1 s.2.2.1 s.2.2.2.1 = some r ∧ SlF s.2.2.2.2.1 s.2.2.1.length s.2.2.2.2.2.1 ∧ SlF s.2.2.2.2.2.2.1 s.2.2.2.1.length s.2.2.2.2.2.2.2) (fun s => [(3, sL s.2.2.2.2.1 s.2.2.1 s.2.2.2.2.2.1), (4, sL s.2.2.2.2.2.2.1 s.2.2.2.1 s.2.2.2.2.2.2.2), (6, sL zSq xL3 zSU), (16, sL zF p0 zG), (17, iv (p0.length : Int)), (18, iv (iL3 : Int)), (22, sL zSq xL3 zSU), (23, iv (xL3.length : Int)), (24, iv (s.2.1 : Int))]) (fun s => [(2, ow s.2.2.2.2.1 s.2.2.2.2.2.1 3 QO s.2.2.1), (3, ow s.2.2.2.2.2.2.1 s.2.2.2.2.2.2.2 36 zY s.2.2.2.1)]) (xL3.length + 1) (xL3, 0, zPJ, zH8, zI4, zIx, zCI, zCD) ⟨rfl, rfl, Nat.zero_le _, H, zXI, zQv⟩ (.cons rfl (.cons rfl (.cons rfl (.cons rfl (.cons rfl (.cons rfl (.cons rfl (.cons rfl (.cons rfl .nil))))))))) (.cons rfl (.cons rfl .nil)) (fun _ _ h => absurd h.1 (by simp)) ?_))))))))))))
  intro w zaL m s hs
  obtain ⟨zGG, iL8, zTg, zQT, zfc, zfS, zci, zcE⟩ := s
  obtain ⟨zim, zN3, hiL8, H, zbE, zXF⟩ := hs
  replace zN3 : zGG = List.drop iL8 xL3 := zN3
  replace H : Ka (KE N Qz (iL3 + 1)) xL3 zGG iL8 zTg zQT = some r := H
  replace zim : m + 1 = zGG.length + 1 := zim
  replace zCJ := zCJ.leR zaL
  replace zP := zP.leR zaL
  replace WL := WL.trans zaL
  replace zbE : SlF zfc zTg.length zfS := zbE
  replace zXF : SlF zci zQT.length zcE := zXF
  obtain rfl : m = zGG.length := by omega
  clear zim
  dsimp only
  cases zGG with
  | nil =>
   rw [Ka.eq_1] at H
   exact Tr.sr (Tr.va rfl (fun _ _ a c => QE (a.ev rfl) (a.ev rfl)) (Tr.nil (Tr.zA (Tr.seq (Tr.WY rfl (JB zN3) (Tr.exit (Tr.zi (Tr.zi (Tr.QL (Tr.zh (Tr.zA (Tr.region (Tr.va rfl (fun _ _ a c => QA (a.ev rfl) (a.ev rfl)) (Tr.mv rfl rfl (Tr.nil (Tr.zf WL (Qz, (iL3 + 1), zTg, zQT, zfc, zfS, zci, zcE) ⟨rfl, Ql zAd, QC zAd, H, zbE, zXF⟩ (.cons rfl (.cons rfl (.cons rfl (.cons rfl (.cons (congrArg (fun z => some (Value.int .i64 z)) (Qk zAd zP.form)) .nil))))) (.cons rfl (.cons rfl .nil))))))))))))))))))
  | cons xL8 zGG =>
   rw [Ka.eq_2] at H
   refine Tr.sr (Tr.va rfl (fun _ _ a c => QE (a.ev rfl) (a.ev rfl)) (Tr.nil (Tr.zA (Tr.seq (Tr.WX rfl (JX zN3) (Tr.skip (Tr.zA (Tr.seq (Tr.block (Tr.sr (Tr.mv rfl rfl (Tr.va rfl (fun _ _ a c => zK zGN (a.ev rfl) zCJ.form (a.ev rfl) (Int.natCast_nonneg _) (QC zN3)) (Tr.va rfl (fun _ _ a c => zX (cs := [iv xL8.X, iv xL8.Y]) KT JL (a.ev rfl) (zO.take (rdF zAj zCJ (Js zN3) c) 2) rfl) (Tr.alloc 58 (wn rfl) rfl zJJ fun zos => (Tr.asg rfl rfl (Tr.store 58 (cs := [iv xL8.X, iv xL8.Y]) [iv xL8.X, iv xL8.Y] (wn rfl) rfl rfl rfl rfl JL rfl rfl rfl (Tr.nil (Tr.zA (Tr.sr (Tr.mv rfl rfl (Tr.mv rfl rfl (Tr.va rfl (fun _ _ a c => QA (a.ev rfl) (a.ev rfl)) (Tr.mv rfl rfl (Tr.va rfl (fun _ _ a c => zy zEQ (a.ev rfl)) ?_))))))))))))))))))))))))
   obtain ⟨q378, zlv, H⟩ := bnd H
   refine Tr.va rfl (fun _ _ a c => zZt (a.ev rfl) (a.ev rfl) zlv) ?_
   obtain ⟨zDw, zlJ, H⟩ := bnd H
   obtain ⟨zgp, zgo, zgn⟩ := zx zlJ
   refine Tr.va rfl (fun _ _ a c => zK zGN (a.ev rfl) zCJ.form (a.ev rfl) zgp zgo) (Tr.va rfl (fun _ _ a c => zX (cs := [iv zDw.X, iv zDw.Y]) KT JL (a.ev rfl) (zO.take (rdF zAj zCJ zgn c) 2) rfl) (Tr.alloc 59 (wn rfl) rfl zJJ fun zor => (Tr.store 59 (cs := [iv zDw.X, iv zDw.Y]) [iv zDw.X, iv zDw.Y] (wn rfl) rfl rfl rfl rfl JL rfl rfl rfl (Tr.nil (Tr.zA (Tr.sr (Tr.mv rfl rfl (Tr.va rfl (fun _ _ a c => zB KY (a.ev rfl)) (Tr.va rfl (fun _ _ a c => zD QH (a.ev rfl) (rdb c (vs := [iv xL8.X, iv xL8.Y]) (k := 58) rfl 1) rfl) (Tr.buildSlice 60 (e := 3) (vs := [(0, iv xL8.Y)]) (cs := [iv xL8.Y]) (wn rfl) rfl (zl rfl Qf) (by kernel_rfl) fun zoq => ?_))))))))))
   obtain ⟨zaU, zl8, H⟩ := bnd H
   refine Tr.append 2 (t := QO) (l := zTg) (l2 := [xL8.Y]) (wn rfl) rfl rfl rfl rfl (fun W hW => ⟨[[iv xL8.Y]], (.cons ⟨(), trivial, rfl⟩ .nil), rdb hW (vs := [iv xL8.Y]) (k := 60) rfl 0⟩) zCc zJB zZK (by decide) zcL rfl zl8 fun zfb zfR hAl382 => (Tr.asg rfl rfl (Tr.nil (Tr.zA (Tr.sr (Tr.va rfl (fun _ _ a c => zB Kq (a.ev rfl)) (Tr.va rfl (fun _ _ a c => zD QH (a.ev rfl) (rdb c (vs := [iv xL8.X, iv xL8.Y]) (k := 58) rfl 0) rfl) (Tr.va rfl (fun _ _ a c => zB Kq (a.ev rfl)) (Tr.va rfl (fun _ _ a c => zD QH (a.ev rfl) (rdb c (vs := [iv zDw.X, iv zDw.Y]) (k := 59) rfl 0) rfl) (Tr.va rfl (fun _ _ a c => Qa (a.ev rfl) (a.ev rfl)) (Tr.nil (Tr.zA (Tr.cond rfl H (fun H => ?_) (fun H => ?_)))))))))))))
   ·refine Tr.region (Tr.mv rfl rfl (Tr.va rfl (fun _ _ a c => zB Kq (a.ev rfl)) (Tr.va rfl (fun _ _ a c => zD QH (a.ev rfl) (rdb c (vs := [iv xL8.X, iv xL8.Y]) (k := 58) rfl 0) rfl) (Tr.va rfl (fun _ _ a c => zB KY (a.ev rfl)) (Tr.va rfl (fun _ _ a c => zD QH (a.ev rfl) (rdb c (vs := [iv xL8.X, iv xL8.Y]) (k := 58) rfl 1) rfl) (Tr.va rfl (fun _ _ a c => zB KY (a.ev rfl)) (Tr.va rfl (fun _ _ a c => zD QH (a.ev rfl) (rdb c (vs := [iv zDw.X, iv zDw.Y]) (k := 59) rfl 1) rfl) (Tr.va rfl (fun _ _ a c => zGm (a.ev rfl) (a.ev rfl) _) (Tr.va rfl (fun _ _ a c => zB KY (a.ev rfl)) (Tr.va rfl (fun _ _ a c => zD QH (a.ev rfl) (rdb c (vs := [iv xL8.X, iv xL8.Y]) (k := 58) rfl 1) rfl) (Tr.va rfl (fun _ _ a c => zB KY (a.ev rfl)) (Tr.va rfl (fun _ _ a c => zD QH (a.ev rfl) (rdb c (vs := [iv zDw.X, iv zDw.Y]) (k := 59) rfl 1) rfl) (Tr.va rfl (fun _ _ a c => zGn (a.ev rfl) (a.ev rfl) _) (Tr.build (vs := [(0, iv xL8.X), (1, iv (min xL8.Y zDw.Y)), (3, iv (max xL8.Y zDw.Y))]) (cs := [iv xL8.X, iv (min xL8.Y zDw.Y), iv 0, iv (max xL8.Y zDw.Y)]) (wn rfl) rfl (zl rfl (zl rfl (zl rfl Qf))) (by kernel_rfl) (Tr.buildSlice 61 (e := 36) (vs := [(0, .agg #[iv xL8.X, iv (min xL8.Y zDw.Y), iv 0, iv (max xL8.Y zDw.Y)])]) (cs := [iv xL8.X, iv (min xL8.Y zDw.Y), iv 0, iv (max xL8.Y zDw.Y)]) (wn rfl) rfl (zl rfl Qf) (by kernel_rfl) fun zop => ?_)))))))))))))))
    obtain ⟨zgG, zl7, H⟩ := bnd H
    exact Tr.append 3 (t := zY) (l := zQT) (l2 := [(zQ.mk xL8.X (min xL8.Y zDw.Y) 0 (max xL8.Y zDw.Y))]) (wn rfl) rfl rfl rfl rfl (fun W hW => ⟨[[iv xL8.X, iv (min xL8.Y zDw.Y), iv 0, iv (max xL8.Y zDw.Y)]], (.cons ⟨(), trivial, rfl⟩ .nil), rdb hW (vs := [iv xL8.X, iv (min xL8.Y zDw.Y), iv 0, iv (max xL8.Y zDw.Y)]) (k := 61) rfl 0⟩) zBQ VE zSu (by decide) zUf rfl zl7 fun znD zmt hAl384 => (Tr.asg rfl rfl (Tr.nil (Tr.zh (Tr.zA (Tr.region (Tr.va rfl (fun _ _ a c => QA (a.ev rfl) (a.ev rfl)) (Tr.mv rfl rfl (Tr.nil (Tr.zf zaL (zGG, (iL8 + 1), zaU, zgG, zfb, zfR, znD, zmt) ⟨rfl, Ql zN3, QC zN3, H, hAl382, hAl384⟩ (.cons rfl (.cons rfl (.cons rfl (.cons rfl (.cons rfl (.cons rfl (.cons rfl (.cons rfl (.cons (congrArg (fun z => some (Value.int .i64 z)) (Qk zN3 zCJ.form)) .nil))))))))) (.cons rfl (.cons rfl .nil)))))))))))
   ·exact Tr.skip (Tr.zh (Tr.zA (Tr.region (Tr.va rfl (fun _ _ a c => QA (a.ev rfl) (a.ev rfl)) (Tr.mv rfl rfl (Tr.nil (Tr.zf zaL (zGG, (iL8 + 1), zaU, zQT, zfb, zfR, zci, zcE) ⟨rfl, Ql zN3, QC zN3, H, hAl382, zXF⟩ (.cons rfl (.cons rfl (.cons rfl (.cons rfl (.cons rfl (.cons rfl (.cons rfl (.cons rfl (.cons (congrArg (fun z => some (Value.int .i64 z)) (Qk zN3 zCJ.form)) .nil))))))))) (.cons rfl (.cons rfl .nil)))))))))

theorem zGk {w : Bs} (p0 : zJ) (r : Bool) (H : KG p0 = some r) (hE : HF w w.W E0) : Calls Tryz.prog 128 [.agg #[iv p0.X, iv p0.Y]].toArray w.W fun e W' => e = .returned (bV r) ∧ HF w W' E0 := by
 unfold KG at H
 have leB := Bs.Le.refl w
 refine Tr.enter (n := 6) Tryz.func128 rfl rfl rfl hE (Tr.sr (Tr.box 1 (cs := [iv p0.X, iv p0.Y]) (wn rfl) rfl rfl rfl fun zt => (Tr.asg rfl rfl (Tr.nil (Tr.zA (Tr.sr (Tr.va rfl (fun _ _ a c => zX (cs := [iv p0.X, iv p0.Y]) KT JL (a.ev rfl) (zO.take (rdb c (vs := [iv p0.X, iv p0.Y]) (k := 1) rfl 0) 2) rfl) ?_)))))))
 obtain ⟨y101, hy101, H⟩ := bnd H
 refine Tr.Qs (r := (bV y101)) (wn rfl) rfl Tryz.call123 (zI rfl zS) (fun W hW => zDi p0 y101 hy101 (HF.start _)) (Tr.va rfl (fun _ _ a c => KI (a.ev rfl)) (Tr.asg rfl rfl (Tr.nil (Tr.zA (Tr.ret ?_)))))
 obtain rfl := oI H
 exact Tr.out (m := [bV (!y101)]) [] (zU rfl zT) (fun W hW => ⟨rfl, hW.low leB⟩)

theorem zHp (N : Nat) {w : Bs} (p0 : QU) (zF : Option Addr) (zG : Nat) (zP : Sl w.R w.W zN zF zG p0.p.Tools) (zM : Option Addr) (zL : Nat) (QW : Sl w.R w.W zH zM zL p0.p.Steps) (QN : Option Addr) (QP : Nat) (Kn : Sl w.R w.W JU QN QP p0.tools) (QV : Option Addr) (QT : Nat) (bp0 : Nat) (p1 : (List zJ)) (za : Option Addr) (zb : Nat) (Qc : Sl w.R w.W QD za zb p1) (p2 : zJ) (r : (Int × (List ze))) (H : zAD N p0 p1 p2 = some r) (hE : HF w w.W (LEn [bx bp0 #[iv p0.p.Unit, sL zF p0.p.Tools zG, sL zM p0.p.Steps zL, sL QN p0.tools QP, sL QV p0.image QT, bV p0.clear, iv p0.tool, iv p0.place.X, iv p0.place.Y, bV p0.placed, iv p0.off, iv p0.on] 77, ow QV QT 107 zW p0.image])) : Calls Tryz.prog 107 [pV bp0, sL za p1 zb, .agg #[iv p2.X, iv p2.Y]].toArray w.W fun e W' => ∃ (w' : Bs) (u : (Option Addr × Nat)), w.Le w' ∧ e = .returned (iv r.1) ∧ (SlF u.1 r.2.length u.2) ∧ HF w' W' (LEn [bx bp0 #[iv p0.p.Unit, sL zF p0.p.Tools zG, sL zM p0.p.Steps zL, sL QN p0.tools QP, sL u.1 r.2 u.2, bV p0.clear, iv p0.tool, iv p0.place.X, iv p0.place.Y, bV p0.placed, iv p0.off, iv p0.on] 77, ow u.1 u.2 107 zW r.2]) := by
 unfold zAD at H
 have zAb := (hE.sl (k := 1) rfl).form
 have leB := Bs.Le.refl w
 refine Tr.enter (n := 36) Tryz.func107 rfl rfl rfl hE (Tr.sr (Tr.box 2 (cs := [iv p2.X, iv p2.Y]) (wn rfl) rfl rfl rfl fun zt => (Tr.asg rfl rfl (Tr.nil (Tr.zA (Tr.sr (Tr.asg rfl rfl (Tr.JY 3 43 QD ?_))))))))
 show Tr _ _ (uf _ 7 (sL none (([] : List zJ)) 0)) _ _
 refine Tr.nil (Tr.zA (Tr.seq (Tr.sr (Tr.mv rfl rfl (Tr.va rfl (fun _ _ a c => zy zEQ (a.ev rfl)) (Tr.mv rfl rfl (Tr.nil (Tr.zA (Tr.block (Tr.loop (σ := (List zJ) × Nat × (List zJ) × (Option Addr) × Nat) (fun m w s => m = s.1.length + 1 ∧ s.1 = List.drop s.2.1 p1 ∧ s.2.1 ≤ p1.length ∧ JJ N p0 p2 s.1 s.2.1 s.2.2.1 = some r ∧ SlF s.2.2.2.1 s.2.2.1.length s.2.2.2.2) (fun s => [(0, pV bp0), (5, pV zt), (7, sL s.2.2.2.1 s.2.2.1 s.2.2.2.2), (11, sL za p1 zb), (12, iv (p1.length : Int)), (13, iv (s.2.1 : Int))]) (fun s => [(0, bx bp0 #[iv p0.p.Unit, sL zF p0.p.Tools zG, sL zM p0.p.Steps zL, sL QN p0.tools QP, sL QV p0.image QT, bV p0.clear, iv p0.tool, iv p0.place.X, iv p0.place.Y, bV p0.placed, iv p0.off, iv p0.on] 77), (1, ow QV QT 107 zW p0.image), (2, bx zt #[iv p2.X, iv p2.Y] 43), (3, ow s.2.2.2.1 s.2.2.2.2 43 QD s.2.2.1)]) (p1.length + 1) (p1, 0, ([] : List zJ), none, 0) ⟨rfl, rfl, Nat.zero_le _, H, VR⟩ (.cons rfl (.cons rfl (.cons rfl (.cons rfl (.cons rfl (.cons rfl .nil)))))) (.cons rfl (.cons rfl (.cons rfl (.cons rfl .nil)))) (fun _ _ h => absurd h.1 (by simp)) ?_))))))))))
 intro w Qe m s hs
 obtain ⟨zV, iL1, zMv, zUu, zUc⟩ := s
 obtain ⟨KS, QG, hiL1, H, zok⟩ := hs
 replace QG : zV = List.drop iL1 p1 := QG
 replace H : JJ N p0 p2 zV iL1 zMv = some r := H
 replace KS : m + 1 = zV.length + 1 := KS
 replace zP := zP.leR Qe
 replace QW := QW.leR Qe
 replace Kn := Kn.leR Qe
 replace Qc := Qc.leR Qe
 replace leB := leB.trans Qe
 obtain rfl : m = zV.length := by omega
 clear KS
 dsimp only
 cases zV with
 | nil =>
  rw [JJ.eq_1] at H
  refine Tr.sr (Tr.va rfl (fun _ _ a c => QE (a.ev rfl) (a.ev rfl)) (Tr.nil (Tr.zA (Tr.seq (Tr.WY rfl (JB QG) (Tr.exit (Tr.zi (Tr.zi (Tr.QL (Tr.zA (Tr.sr (Tr.mv rfl rfl (Tr.freeze 3 rfl fun w zPI zIr => ?_)))))))))))))
  replace zP := zP.leR zPI
  replace QW := QW.leR zPI
  replace Kn := Kn.leR zPI
  replace leB := leB.trans zPI
  refine Tr.buildSlice 8 (e := 44) (vs := [(0, sL zUu zMv zUc)]) (cs := [sL zUu zMv zUc]) (wn rfl) rfl (zl rfl Qf) (by kernel_rfl) fun zob => (Tr.own 8 zPk [zMv] (css := [[sL zUu zMv zUc]]) rfl (.cons ⟨(zUu, zUc), zIr, rfl⟩ .nil) rfl (by decide) (zCU rfl) ?_)
  obtain ⟨zKr, zat, H⟩ := bnd H
  refine Tr.VW [9] [emp] (U := (Option Addr × Nat)) (fun u => (sL u.1 zKr u.2)) (fun O W u => SlF u.1 zKr.length u.2) (fun u => [ow u.1 u.2 107 zW zKr]) rfl (zR rfl zk) (fun _ => rfl) (wn rfl) rfl Tryz.call127 (zI rfl zS) (fun W hW hp hE => zMN N [zMv] (some ⟨zob, 0, none⟩) 1 (hW.slS (k := 8) rfl hp rfl) zKr zat hE) ?_
  intro w u zNg hu
  obtain ⟨zSp, zST⟩ := u
  have gy121_0 := hu
  replace zP := zP.leR zNg
  replace QW := QW.leR zNg
  replace Kn := Kn.leR zNg
  replace zIr := zIr.le zNg
  replace leB := leB.trans zNg
  have zmd : SlF zSp zKr.length zST := gy121_0 --@phi
  dsimp only
  refine Tr.asg rfl rfl (Tr.nil (Tr.zA (Tr.seq (Tr.sr (Tr.mv rfl rfl ?_)))))
  obtain ⟨zDH, zas, H⟩ := bnd H
  refine Tr.Qs (r := (iv zDH)) (wn rfl) rfl Tryz.call89 (zI rfl zS) (fun W hW => zFK zKr zSp zST (hW.zBX (k := 9) rfl) zDH zas (HF.start _)) (Tr.va rfl (fun _ _ a c => WO (a.ev rfl) (a.ev rfl)) (Tr.nil (Tr.zA (Tr.cond rfl H (fun H => ?_) (fun H => ?_)))))
  ·refine Tr.sr (Tr.asg rfl rfl (Tr.nil (Tr.zA (Tr.ret (Tr.zg ?_)))))
   obtain rfl := oI H
   exact Tr.out (m := [iv 2]) [] (zU rfl zT) (fun W hW => ⟨w, (QV, QT), leB, rfl, zAb, hW.pick (ks := [0, 1]) (by decide) (zR rfl (zR rfl zk))⟩)
  ·refine Tr.skip (Tr.zA (Tr.seq (Tr.sr (Tr.mv rfl rfl ?_))))
   obtain ⟨zRj, zar, H⟩ := bnd H
   refine Tr.Qs (r := (bV zRj)) (wn rfl) rfl Tryz.call98 (zI rfl (zI rfl zS)) (fun W hW => zBg zMv zUu zUc (zIr.rl.ext hW.Qd) (fun z0 => KG z0) 128 [] Tryz.call128 (fun w' he z0 y hy => zGk z0 y hy (HF.start _)) zRj zar (HF.start _)) (Tr.nil (Tr.zA (Tr.cond rfl H (fun H => ?_) (fun H => ?_))))
   ·refine Tr.sr (Tr.asg rfl rfl (Tr.nil (Tr.zA (Tr.ret (Tr.zg ?_)))))
    obtain rfl := oI H
    exact Tr.out (m := [iv 1]) [] (zU rfl zT) (fun W hW => ⟨w, (QV, QT), leB, rfl, zAb, hW.pick (ks := [0, 1]) (by decide) (zR rfl (zR rfl zk))⟩)
   ·refine Tr.skip (Tr.zA (Tr.sr (Tr.mv rfl rfl (Tr.mv rfl rfl (Tr.freeze 9 rfl fun w zLi zaf => ?_)))))
    replace zP := zP.leR zLi
    replace QW := QW.leR zLi
    replace Kn := Kn.leR zLi
    replace zIr := zIr.le zLi
    replace leB := leB.trans zLi
    obtain ⟨zKq, zaq, H⟩ := bnd H
    refine Tr.VW [0, 1] [bx bp0 #[iv p0.p.Unit, sL zF p0.p.Tools zG, sL zM p0.p.Steps zL, sL QN p0.tools QP, sL QV p0.image QT, bV p0.clear, iv p0.tool, iv p0.place.X, iv p0.place.Y, bV p0.placed, iv p0.off, iv p0.on] 77, ow QV QT 107 zW p0.image] (U := (Option Addr × Nat)) (fun u => (iv zKq.1)) (fun O W u => SlF u.1 zKq.2.length u.2) (fun u => [bx bp0 #[iv p0.p.Unit, sL zF p0.p.Tools zG, sL zM p0.p.Steps zL, sL QN p0.tools QP, sL u.1 zKq.2 u.2, bV p0.clear, iv p0.tool, iv p0.place.X, iv p0.place.Y, bV p0.placed, iv p0.off, iv p0.on] 77, ow u.1 u.2 107 zW zKq.2]) rfl (zR rfl (zR rfl zk)) (fun _ => rfl) (wn rfl) rfl Tryz.call125 (zI rfl (zI rfl zS)) (fun W hW hp hE => zBh N p0 zF zG (zP.ext (hW.JH hp)) zM zL (QW.ext (hW.JH hp)) QN QP (Kn.ext (hW.JH hp)) QV QT bp0 zKr zSp zST (zaf.zAS (hW.JH hp)) zKq zaq hE) ?_
    intro w u zaO hu
    obtain ⟨zYH, zXl⟩ := u
    have gy127_0 := hu
    replace zIr := zIr.le zaO
    replace zaf := zaf.le zaO
    replace leB := leB.trans zaO
    have zbc : SlF zYH zKq.2.length zXl := gy127_0 --@phi
    dsimp only
    refine Tr.asg rfl rfl (Tr.nil (Tr.zA (Tr.ret ?_)))
    obtain rfl := oI H
    exact Tr.out (m := [iv zKq.1]) [] (zU rfl zT) (fun W hW => ⟨w, (zYH, zXl), leB, rfl, zbc, hW.pick (ks := [0, 1]) (by decide) (zR rfl (zR rfl zk))⟩)
 | cons xL1 zV =>
  rw [JJ.eq_2] at H
  refine Tr.sr (Tr.va rfl (fun _ _ a c => QE (a.ev rfl) (a.ev rfl)) (Tr.nil (Tr.zA (Tr.seq (Tr.WX rfl (JX QG) (Tr.skip (Tr.zA (Tr.seq (Tr.block (Tr.sr (Tr.va rfl (fun _ _ a c => zK zGN (a.ev rfl) Qc.form (a.ev rfl) (Int.natCast_nonneg _) (QC QG)) (Tr.va rfl (fun _ _ a c => zX (cs := [iv xL1.X, iv xL1.Y]) KT JL (a.ev rfl) (zO.take (rdF zAj Qc (Js QG) c) 2) rfl) (Tr.alloc 10 (wn rfl) rfl zJJ fun zcS => (Tr.store 10 (cs := [iv xL1.X, iv xL1.Y]) [iv xL1.X, iv xL1.Y] (wn rfl) rfl rfl rfl rfl JL rfl rfl rfl (Tr.nil (Tr.zA (Tr.region (Tr.mv rfl rfl (Tr.mv rfl rfl (Tr.va rfl (fun _ _ a c => zX (cs := [iv xL1.X, iv xL1.Y]) KT JL (a.ev rfl) (zO.take (rdb c (vs := [iv xL1.X, iv xL1.Y]) (k := 10) rfl 0) 2) rfl) (Tr.va rfl (fun _ _ a c => zX (cs := [iv p2.X, iv p2.Y]) KT JL (a.ev rfl) (zO.take (rdb c (vs := [iv p2.X, iv p2.Y]) (k := 2) rfl 0) 2) rfl) ?_)))))))))))))))))))))
  obtain ⟨zHs, zao, H⟩ := bnd H
  refine Tr.Qs (r := (.agg #[iv zHs.X, iv zHs.Y])) (wn rfl) rfl Tryz.call103 (zI rfl (zI rfl (zI rfl zS))) (fun W hW => zDR p0 zF zG (zP.ext hW.Qd) zM zL (QW.ext hW.Qd) QN QP (Kn.ext hW.Qd) QV QT (hW.zBX (k := 1) rfl) bp0 (hW.zcH (k := 0) rfl) (hW.zeP (k := 0) rfl) xL1 p2 zHs zao (HF.start _)) (Tr.buildSlice 11 (e := 43) (vs := [(0, .agg #[iv zHs.X, iv zHs.Y])]) (cs := [iv zHs.X, iv zHs.Y]) (wn rfl) rfl (zl rfl Qf) (by kernel_rfl) fun zo6 => ?_)
  obtain ⟨zgT, zmG, H⟩ := bnd H
  exact Tr.append 3 (t := QD) (l := zMv) (l2 := [zHs]) (wn rfl) rfl rfl rfl rfl (fun W hW => ⟨[[iv zHs.X, iv zHs.Y]], (.cons ⟨(), trivial, rfl⟩ .nil), rdb hW (vs := [iv zHs.X, iv zHs.Y]) (k := 11) rfl 0⟩) zEQ JL zej (by decide) zfX rfl zmG fun znL zm1 hAl132 => (Tr.asg rfl rfl (Tr.nil (Tr.zh (Tr.zA (Tr.region (Tr.va rfl (fun _ _ a c => QA (a.ev rfl) (a.ev rfl)) (Tr.mv rfl rfl (Tr.nil (Tr.zf Qe (zV, (iL1 + 1), zgT, znL, zm1) ⟨rfl, Ql QG, QC QG, H, hAl132⟩ (.cons rfl (.cons rfl (.cons rfl (.cons rfl (.cons rfl (.cons (congrArg (fun z => some (Value.int .i64 z)) (Qk QG Qc.form)) .nil)))))) (.cons rfl (.cons rfl (.cons rfl (.cons rfl .nil)))))))))))))

theorem zHn (rec : QU → (List zC) → zJ → Option (Int × Bool × Int × Int × Int × Bool × Int × Int × (List ze))) (hrec : ∀ {w : Bs} (p0 : QU) (zF : Option Addr) (zG : Nat) (zP : Sl w.R w.W zN zF zG p0.p.Tools) (zM : Option Addr) (zL : Nat) (QW : Sl w.R w.W zH zM zL p0.p.Steps) (QN : Option Addr) (QP : Nat) (Kn : Sl w.R w.W JU QN QP p0.tools) (QV : Option Addr) (QT : Nat) (bp0 : Nat) (p1 : (List zC)) (za : Option Addr) (zb : Nat) (Qc : Sl w.R w.W zH za zb p1) (p2 : zJ) (r : (Int × Bool × Int × Int × Int × Bool × Int × Int × (List ze))) (H : rec p0 p1 p2 = some r) (hE : HF w w.W (LEn [bx bp0 #[iv p0.p.Unit, sL zF p0.p.Tools zG, sL zM p0.p.Steps zL, sL QN p0.tools QP, sL QV p0.image QT, bV p0.clear, iv p0.tool, iv p0.place.X, iv p0.place.Y, bV p0.placed, iv p0.off, iv p0.on] 77, ow QV QT 107 zW p0.image])), Calls Tryz.prog 56 [pV bp0, sL za p1 zb, .agg #[iv p2.X, iv p2.Y]].toArray w.W fun e W' => ∃ (w' : Bs) (u : (Option Addr × Nat)), w.Le w' ∧ e = .returned (iv r.1) ∧ (SlF u.1 r.2.2.2.2.2.2.2.2.length u.2) ∧ HF w' W' (LEn [bx bp0 #[iv p0.p.Unit, sL zF p0.p.Tools zG, sL zM p0.p.Steps zL, sL QN p0.tools QP, sL u.1 r.2.2.2.2.2.2.2.2 u.2, bV r.2.1, iv r.2.2.1, iv r.2.2.2.1, iv r.2.2.2.2.1, bV r.2.2.2.2.2.1, iv r.2.2.2.2.2.2.1, iv r.2.2.2.2.2.2.2.1] 77, ow u.1 u.2 107 zW r.2.2.2.2.2.2.2.2])) (N : Nat) {w : Bs} (p0 : QU) (zF : Option Addr) (zG : Nat) (zP : Sl w.R w.W zN zF zG p0.p.Tools) (zM : Option Addr) (zL : Nat) (QW : Sl w.R w.W zH zM zL p0.p.Steps) (QN : Option Addr) (QP : Nat) (Kn : Sl w.R w.W JU QN QP p0.tools) (QV : Option Addr) (QT : Nat) (bp0 : Nat) (p1 : zC) (za : Option Addr) (zb : Nat) (Qc : Sl w.R w.W QD za zb p1.Points) (QS : Option Addr) (QR : Nat) (zIs : Sl w.R w.W zH QS QR p1.Steps) (p2 : zJ) (r : (Int × Bool × Int × Int × Int × Bool × Int × Int × (List ze))) (H : Kg rec N p0 p1 p2 = some r) (hE : HF w w.W (LEn [bx bp0 #[iv p0.p.Unit, sL zF p0.p.Tools zG, sL zM p0.p.Steps zL, sL QN p0.tools QP, sL QV p0.image QT, bV p0.clear, iv p0.tool, iv p0.place.X, iv p0.place.Y, bV p0.placed, iv p0.off, iv p0.on] 77, ow QV QT 107 zW p0.image])) : Calls Tryz.prog 78 [pV bp0, .agg #[iv p1.Kind, sv p1.Name, iv p1.At.X, iv p1.At.Y, sL za p1.Points zb, iv p1.NX, iv p1.NY, sL QS p1.Steps QR], .agg #[iv p2.X, iv p2.Y]].toArray w.W fun e W' => ∃ (w' : Bs) (u : (Option Addr × Nat)), w.Le w' ∧ e = .returned (iv r.1) ∧ (SlF u.1 r.2.2.2.2.2.2.2.2.length u.2) ∧ HF w' W' (LEn [bx bp0 #[iv p0.p.Unit, sL zF p0.p.Tools zG, sL zM p0.p.Steps zL, sL QN p0.tools QP, sL u.1 r.2.2.2.2.2.2.2.2 u.2, bV r.2.1, iv r.2.2.1, iv r.2.2.2.1, iv r.2.2.2.2.1, bV r.2.2.2.2.2.1, iv r.2.2.2.2.2.2.1, iv r.2.2.2.2.2.2.2.1] 77, ow u.1 u.2 107 zW r.2.2.2.2.2.2.2.2]) := by
 unfold Kg at H
 have zAb := (hE.sl (k := 1) rfl).form
 have leB := Bs.Le.refl w
 refine Tr.enter (n := 116) Tryz.func78 rfl rfl rfl hE (Tr.sr (Tr.box 2 (cs := [iv p1.Kind, sv p1.Name, iv p1.At.X, iv p1.At.Y, sL za p1.Points zb, iv p1.NX, iv p1.NY, sL QS p1.Steps QR]) (wn rfl) rfl rfl rfl fun zt => (Tr.box 3 (cs := [iv p2.X, iv p2.Y]) (wn rfl) rfl rfl rfl fun Qg => (Tr.asg rfl rfl (Tr.nil (Tr.zA (Tr.sr (Tr.mv rfl rfl (Tr.va rfl (fun _ _ a c => zB WK (a.ev rfl)) (Tr.va rfl (fun _ _ a c => zX (cs := [iv p1.At.X, iv p1.At.Y]) KT JL (a.ev rfl) (zO.take (rdb c (vs := [iv p1.Kind, sv p1.Name, iv p1.At.X, iv p1.At.Y, sL za p1.Points zb, iv p1.NX, iv p1.NY, sL QS p1.Steps QR]) (k := 2) rfl 2) 2) rfl) (Tr.va rfl (fun _ _ a c => zX (cs := [iv p2.X, iv p2.Y]) KT JL (a.ev rfl) (zO.take (rdb c (vs := [iv p2.X, iv p2.Y]) (k := 3) rfl 0) 2) rfl) ?_)))))))))))
 obtain ⟨y102, hy102, H⟩ := bnd H
 refine Tr.Qs (r := (.agg #[iv y102.X, iv y102.Y])) (wn rfl) rfl Tryz.call103 (zI rfl (zI rfl (zI rfl zS))) (fun W hW => zDR p0 zF zG (zP.ext hW.Qd) zM zL (QW.ext hW.Qd) QN QP (Kn.ext hW.Qd) QV QT (hW.zBX (k := 1) rfl) bp0 (hW.zcH (k := 0) rfl) (hW.zeP (k := 0) rfl) p1.At p2 y102 hy102 (HF.start _)) (Tr.alloc 4 (wn rfl) rfl zJJ fun zWW => (Tr.store 4 (cs := [iv y102.X, iv y102.Y]) [iv y102.X, iv y102.Y] (wn rfl) rfl rfl rfl rfl JL rfl rfl rfl (Tr.nil (Tr.zA ?_))))
 have leJ295 := Bs.Le.refl w
 refine Tr.zJD (σ := (List ze) × Bool × Int × Int × Int × Bool × Int × Int × (Option Addr) × Nat) (fun w s => JI s.1 s.2.1 s.2.2.1 s.2.2.2.1 s.2.2.2.2.1 s.2.2.2.2.2.1 s.2.2.2.2.2.2.1 s.2.2.2.2.2.2.2.1 = some r ∧ SlF s.2.2.2.2.2.2.2.2.1 s.1.length s.2.2.2.2.2.2.2.2.2) (fun s => []) (fun s => [(0, bx bp0 #[iv p0.p.Unit, sL zF p0.p.Tools zG, sL zM p0.p.Steps zL, sL QN p0.tools QP, sL s.2.2.2.2.2.2.2.2.1 s.1 s.2.2.2.2.2.2.2.2.2, bV s.2.1, iv s.2.2.1, iv s.2.2.2.1, iv s.2.2.2.2.1, bV s.2.2.2.2.2.1, iv s.2.2.2.2.2.2.1, iv s.2.2.2.2.2.2.2.1] 77), (1, ow s.2.2.2.2.2.2.2.2.1 s.2.2.2.2.2.2.2.2.2 107 zW s.1)]) ?_ ?_
 ·refine Tr.sr (Tr.va rfl (fun _ _ a c => zB zBF (a.ev rfl)) (Tr.va rfl (fun _ _ a c => zD QH (a.ev rfl) (rdb c (vs := [iv p1.Kind, sv p1.Name, iv p1.At.X, iv p1.At.Y, sL za p1.Points zb, iv p1.NX, iv p1.NY, sL QS p1.Steps QR]) (k := 2) rfl 0) rfl) (Tr.nil (Tr.zA (Tr.block ?_)))))
  have leJ298 := Bs.Le.refl w
  refine Tr.zJD (σ := Bool) (fun w s => Jg N p0 p1 p2 rec y102 s = some r) (fun s => [(0, pV bp0), (4, pV zt), (5, pV Qg), (7, pV zWW), (18, iv p1.Kind), (19, bV s)]) (fun s => [(0, bx bp0 #[iv p0.p.Unit, sL zF p0.p.Tools zG, sL zM p0.p.Steps zL, sL QN p0.tools QP, sL QV p0.image QT, bV p0.clear, iv p0.tool, iv p0.place.X, iv p0.place.Y, bV p0.placed, iv p0.off, iv p0.on] 77), (1, ow QV QT 107 zW p0.image), (2, bx zt #[iv p1.Kind, sv p1.Name, iv p1.At.X, iv p1.At.Y, sL za p1.Points zb, iv p1.NX, iv p1.NY, sL QS p1.Steps QR] 46), (3, bx Qg #[iv p2.X, iv p2.Y] 43), (4, bx zWW #[iv y102.X, iv y102.Y] 43)]) ?_ ?_
  ·refine Tr.sr (Tr.va rfl (fun _ _ a c => Qa (a.ev rfl) (a.ev rfl)) (Tr.asg rfl rfl (Tr.nil (Tr.zA (Tr.cond rfl H (fun H => ?_) (fun H => ?_))))))
   ·exact Tr.skip (Tr.zf leJ298 (p1.Kind == 1) H (.cons rfl (.cons rfl (.cons rfl (.cons rfl (.cons rfl (.cons rfl .nil)))))) (.cons rfl (.cons rfl (.cons rfl (.cons rfl (.cons rfl .nil))))))
   ·exact Tr.region (Tr.va rfl (fun _ _ a c => Qa (a.ev rfl) (a.ev rfl)) (Tr.asg rfl rfl (Tr.nil (Tr.zf leJ298 (p1.Kind == 2) H (.cons rfl (.cons rfl (.cons rfl (.cons rfl (.cons rfl (.cons rfl .nil)))))) (.cons rfl (.cons rfl (.cons rfl (.cons rfl (.cons rfl .nil)))))))))
  ·intro w zcu hlJ299 hs
   have H := hs
   replace H : Jg N p0 p1 p2 rec y102 zcu = some r := H
   replace zP := zP.leR hlJ299
   replace QW := QW.leR hlJ299
   replace Kn := Kn.leR hlJ299
   replace Qc := Qc.leR hlJ299
   replace zIs := zIs.leR hlJ299
   replace leB := leB.trans hlJ299
   replace leJ295 := leJ295.trans hlJ299
   unfold Jg at H
   show Tr _ _ (LF [(0, pV bp0), (4, pV zt), (5, pV Qg), (7, pV zWW), (18, iv p1.Kind), (19, bV zcu)]) (LE [(0, bx bp0 #[iv p0.p.Unit, sL zF p0.p.Tools zG, sL zM p0.p.Steps zL, sL QN p0.tools QP, sL QV p0.image QT, bV p0.clear, iv p0.tool, iv p0.place.X, iv p0.place.Y, bV p0.placed, iv p0.off, iv p0.on] 77), (1, ow QV QT 107 zW p0.image), (2, bx zt #[iv p1.Kind, sv p1.Name, iv p1.At.X, iv p1.At.Y, sL za p1.Points zb, iv p1.NX, iv p1.NY, sL QS p1.Steps QR] 46), (3, bx Qg #[iv p2.X, iv p2.Y] 43), (4, bx zWW #[iv y102.X, iv y102.Y] 43)]) _
   refine Tr.cond rfl H (fun H => ?_) (fun H => ?_)
   ·exact Tr.region (Tr.mv rfl rfl (Tr.va rfl (fun _ _ a c => zB zBF (a.ev rfl)) (Tr.va rfl (fun _ _ a c => zD QH (a.ev rfl) (rdb c (vs := [iv p1.Kind, sv p1.Name, iv p1.At.X, iv p1.At.Y, sL za p1.Points zb, iv p1.NX, iv p1.NY, sL QS p1.Steps QR]) (k := 2) rfl 0) rfl) (Tr.va rfl (fun _ _ a c => Qa (a.ev rfl) (a.ev rfl)) (Tr.va rfl (fun _ _ a c => QF (a.ev rfl)) (Tr.va rfl (fun _ _ a c => zB zXQ (a.ev rfl)) (Tr.store 0 (cs := [bV (p1.Kind == 2)]) [iv p0.p.Unit, sL zF p0.p.Tools zG, sL zM p0.p.Steps zL, sL QN p0.tools QP, sL QV p0.image QT, bV (p1.Kind == 2), iv p0.tool, iv p0.place.X, iv p0.place.Y, bV p0.placed, iv p0.off, iv p0.on] (wn rfl) rfl rfl rfl rfl zZi rfl rfl rfl (Tr.nil (Tr.zh (Tr.zf leJ295 (p0.image, (p1.Kind == 2), p0.tool, p0.place.X, p0.place.Y, p0.placed, p0.off, p0.on, QV, QT) ⟨H, zAb⟩ .nil (.cons rfl (.cons rfl .nil))))))))))))
   ·refine Tr.sr (Tr.va rfl (fun _ _ a c => Qa (a.ev rfl) (a.ev rfl)) (Tr.asg rfl rfl (Tr.nil (Tr.zA (Tr.cond rfl H (fun H => ?_) (fun H => ?_))))))
    ·refine Tr.Wj 8 (by kernel_rfl) (by kernel_rfl) (Tq.mv rfl rfl (Tq.mv rfl rfl (Tq.va rfl (fun _ _ a c => QF (a.ev rfl)) (Tq.va rfl (fun _ _ a c => zB zL1 (a.ev rfl)) (Tq.va rfl (fun _ _ a c => zX (cs := [iv p0.p.Unit, sL zF p0.p.Tools zG, sL zM p0.p.Steps zL]) zAJ VQ (a.ev rfl) (zO.take (rdb c (vs := [iv p0.p.Unit, sL zF p0.p.Tools zG, sL zM p0.p.Steps zL, sL QN p0.tools QP, sL QV p0.image QT, bV p0.clear, iv p0.tool, iv p0.place.X, iv p0.place.Y, bV p0.placed, iv p0.off, iv p0.on]) (k := 0) rfl 0) 3) rfl) (Tq.va rfl (fun _ _ a c => zB zFn (a.ev rfl)) (Tq.va rfl (fun _ _ a c => zD zHF (a.ev rfl) (rdb c (vs := [iv p1.Kind, sv p1.Name, iv p1.At.X, iv p1.At.Y, sL za p1.Points zb, iv p1.NX, iv p1.NY, sL QS p1.Steps QR]) (k := 2) rfl 1) rfl) ?_)))))))
     obtain ⟨zUz, zke, H⟩ := bnd H
     exact Tq.Qs (r := (iv zUz)) (wn rfl) rfl Tryz.call96 (zI rfl (zI rfl zS)) (fun W hW => zHm p0.p zF zG (zP.ext hW.Qd) zM zL (QW.ext hW.Qd) p1.Name zUz zke (HF.start _)) (Tq.nil (Tr.va rfl (fun _ _ a c => QF (a.ev rfl)) (Tr.va rfl (fun _ _ a c => zB zL0 (a.ev rfl)) (Tr.store 0 (cs := [iv zUz]) [iv p0.p.Unit, sL zF p0.p.Tools zG, sL zM p0.p.Steps zL, sL QN p0.tools QP, sL QV p0.image QT, bV p0.clear, iv zUz, iv p0.place.X, iv p0.place.Y, bV p0.placed, iv p0.off, iv p0.on] (wn rfl) rfl rfl rfl rfl zJB rfl rfl rfl (Tr.nil (Tr.zh (Tr.zf leJ295 (p0.image, p0.clear, zUz, p0.place.X, p0.place.Y, p0.placed, p0.off, p0.on, QV, QT) ⟨H, zAb⟩ .nil (.cons rfl (.cons rfl .nil)))))))))
    ·refine Tr.sr (Tr.va rfl (fun _ _ a c => Qa (a.ev rfl) (a.ev rfl)) (Tr.asg rfl rfl (Tr.nil (Tr.zA (Tr.cond rfl H (fun H => ?_) (fun H => ?_))))))
     ·refine Tr.seq (Tr.Wj 5 (by kernel_rfl) (by kernel_rfl) (Tq.mv rfl rfl (Tq.va rfl (fun _ _ a c => zX (cs := [iv y102.X, iv y102.Y]) KT JL (a.ev rfl) (zO.take (rdb c (vs := [iv y102.X, iv y102.Y]) (k := 4) rfl 0) 2) rfl) (Tq.mv rfl rfl (Tq.va rfl (fun _ _ a c => QF (a.ev rfl)) (Tq.va rfl (fun _ _ a c => zB zXP (a.ev rfl)) (Tq.nil ?_)))))))
      obtain ⟨zI8, zkd, H⟩ := bnd H
      refine Tr.WB [0] [bx bp0 #[iv p0.p.Unit, sL zF p0.p.Tools zG, sL zM p0.p.Steps zL, sL QN p0.tools QP, sL QV p0.image QT, bV p0.clear, iv p0.tool, iv p0.place.X, iv p0.place.Y, bV p0.placed, iv p0.off, iv p0.on] 77] (U := Unit) (fun u => (iv zI8.1)) (fun u => True) (fun u => [bx bp0 #[iv p0.p.Unit, sL zF p0.p.Tools zG, sL zM p0.p.Steps zL, sL QN p0.tools QP, sL QV p0.image QT, bV p0.clear, iv p0.tool, iv zI8.2.1, iv zI8.2.2.1, bV zI8.2.2.2.1, iv zI8.2.2.2.2, iv p0.on] 77]) rfl (zR rfl zk) (fun _ => rfl) (wn rfl) rfl Tryz.call104 (zI rfl (zI rfl (zI rfl zS))) (fun W hW hp hE => zBs p0 zF zG (zP.ext (hW.JH hp)) zM zL (QW.ext (hW.JH hp)) QN QP (Kn.ext (hW.JH hp)) QV QT (hW.slS (k := 1) rfl hp rfl) bp0 y102 zI8 zkd hE) ?_
      intro u hu
      show Tr _ _ (uf _ 47 (iv zI8.1)) (up _ 0 (bx bp0 #[iv p0.p.Unit, sL zF p0.p.Tools zG, sL zM p0.p.Steps zL, sL QN p0.tools QP, sL QV p0.image QT, bV p0.clear, iv p0.tool, iv zI8.2.1, iv zI8.2.2.1, bV zI8.2.2.2.1, iv zI8.2.2.2.2, iv p0.on] 77)) _
      refine Tr.asg rfl rfl (Tr.nil (Tr.zA (Tr.ret (Tr.QI (Tr.zg ?_)))))
      obtain rfl := oI H
      exact Tr.out (m := [iv zI8.1]) [] (zU rfl zT) (fun W hW => ⟨w, (QV, QT), leB, rfl, zAb, hW.pick (ks := [0, 1]) (by decide) (zR rfl (zR rfl zk))⟩)
     ·refine Tr.sr (Tr.va rfl (fun _ _ a c => Qa (a.ev rfl) (a.ev rfl)) (Tr.asg rfl rfl (Tr.nil (Tr.zA (Tr.cond rfl H (fun H => ?_) (fun H => ?_))))))
      ·refine Tr.sr (Tr.mv rfl rfl (Tr.va rfl (fun _ _ a c => zX (cs := [iv y102.X, iv y102.Y]) KT JL (a.ev rfl) (zO.take (rdb c (vs := [iv y102.X, iv y102.Y]) (k := 4) rfl 0) 2) rfl) ?_))
       obtain ⟨zI7, zkc, H⟩ := bnd H
       refine Tr.VW [0, 1] [bx bp0 #[iv p0.p.Unit, sL zF p0.p.Tools zG, sL zM p0.p.Steps zL, sL QN p0.tools QP, sL QV p0.image QT, bV p0.clear, iv p0.tool, iv p0.place.X, iv p0.place.Y, bV p0.placed, iv p0.off, iv p0.on] 77, ow QV QT 107 zW p0.image] (U := (Option Addr × Nat)) (fun u => (iv zI7.1)) (fun O W u => SlF u.1 zI7.2.2.2.2.2.length u.2) (fun u => [bx bp0 #[iv p0.p.Unit, sL zF p0.p.Tools zG, sL zM p0.p.Steps zL, sL QN p0.tools QP, sL u.1 zI7.2.2.2.2.2 u.2, bV p0.clear, iv p0.tool, iv zI7.2.1, iv zI7.2.2.1, bV zI7.2.2.2.1, iv zI7.2.2.2.2.1, iv p0.on] 77, ow u.1 u.2 107 zW zI7.2.2.2.2.2]) rfl (zR rfl (zR rfl zk)) (fun _ => rfl) (wn rfl) rfl Tryz.call105 (zI rfl (zI rfl zS)) (fun W hW hp hE => zHK N p0 zF zG (zP.ext (hW.JH hp)) zM zL (QW.ext (hW.JH hp)) QN QP (Kn.ext (hW.JH hp)) QV QT bp0 y102 zI7 zkc hE) ?_
       intro w u zkD hu
       obtain ⟨zYA, zXe⟩ := u
       have gy303_0 := hu
       replace leB := leB.trans zkD
       have zbU : SlF zYA zI7.2.2.2.2.2.length zXe := gy303_0 --@phi
       dsimp only
       refine Tr.asg rfl rfl (Tr.nil (Tr.zA (Tr.ret (Tr.QI (Tr.zg ?_)))))
       obtain rfl := oI H
       exact Tr.out (m := [iv zI7.1]) [] (zU rfl zT) (fun W hW => ⟨w, (zYA, zXe), leB, rfl, zbU, hW.pick (ks := [0, 1]) (by decide) (zR rfl (zR rfl zk))⟩)
      ·refine Tr.sr (Tr.va rfl (fun _ _ a c => Qa (a.ev rfl) (a.ev rfl)) (Tr.asg rfl rfl (Tr.nil (Tr.zA (Tr.cond rfl H (fun H => ?_) (fun H => ?_))))))
       ·refine Tr.sr (Tr.mv rfl rfl (Tr.va rfl (fun _ _ a c => zX (cs := [iv y102.X, iv y102.Y]) KT JL (a.ev rfl) (zO.take (rdb c (vs := [iv y102.X, iv y102.Y]) (k := 4) rfl 0) 2) rfl) ?_))
        obtain ⟨zI6, zkb, H⟩ := bnd H
        refine Tr.VW [0, 1] [bx bp0 #[iv p0.p.Unit, sL zF p0.p.Tools zG, sL zM p0.p.Steps zL, sL QN p0.tools QP, sL QV p0.image QT, bV p0.clear, iv p0.tool, iv p0.place.X, iv p0.place.Y, bV p0.placed, iv p0.off, iv p0.on] 77, ow QV QT 107 zW p0.image] (U := (Option Addr × Nat)) (fun u => (iv zI6.1)) (fun O W u => SlF u.1 zI6.2.2.2.2.2.length u.2) (fun u => [bx bp0 #[iv p0.p.Unit, sL zF p0.p.Tools zG, sL zM p0.p.Steps zL, sL QN p0.tools QP, sL u.1 zI6.2.2.2.2.2 u.2, bV p0.clear, iv p0.tool, iv zI6.2.1, iv zI6.2.2.1, bV zI6.2.2.2.1, iv p0.off, iv zI6.2.2.2.2.1] 77, ow u.1 u.2 107 zW zI6.2.2.2.2.2]) rfl (zR rfl (zR rfl zk)) (fun _ => rfl) (wn rfl) rfl Tryz.call106 (zI rfl (zI rfl zS)) (fun W hW hp hE => zHo N p0 zF zG (zP.ext (hW.JH hp)) zM zL (QW.ext (hW.JH hp)) QN QP (Kn.ext (hW.JH hp)) QV QT bp0 y102 zI6 zkb hE) ?_
        intro w u zkC hu
        obtain ⟨zX9, zXd⟩ := u
        have gy305_0 := hu
        replace leB := leB.trans zkC
        have zbT : SlF zX9 zI6.2.2.2.2.2.length zXd := gy305_0 --@phi
        dsimp only
        refine Tr.asg rfl rfl (Tr.nil (Tr.zA (Tr.ret (Tr.QI (Tr.zg ?_)))))
        obtain rfl := oI H
        exact Tr.out (m := [iv zI6.1]) [] (zU rfl zT) (fun W hW => ⟨w, (zX9, zXd), leB, rfl, zbT, hW.pick (ks := [0, 1]) (by decide) (zR rfl (zR rfl zk))⟩)
       ·refine Tr.sr (Tr.va rfl (fun _ _ a c => Qa (a.ev rfl) (a.ev rfl)) (Tr.asg rfl rfl (Tr.nil (Tr.zA (Tr.cond rfl H (fun H => ?_) (fun H => ?_))))))
        ·refine Tr.sr (Tr.mv rfl rfl (Tr.va rfl (fun _ _ a c => zB zAu (a.ev rfl)) (Tr.va rfl (fun _ _ a c => zD zFI (a.ev rfl) (rdb c (vs := [iv p1.Kind, sv p1.Name, iv p1.At.X, iv p1.At.Y, sL za p1.Points zb, iv p1.NX, iv p1.NY, sL QS p1.Steps QR]) (k := 2) rfl 4) rfl) (Tr.va rfl (fun _ _ a c => zX (cs := [iv p2.X, iv p2.Y]) KT JL (a.ev rfl) (zO.take (rdb c (vs := [iv p2.X, iv p2.Y]) (k := 3) rfl 0) 2) rfl) ?_))))
         obtain ⟨zQF, zka, H⟩ := bnd H
         refine Tr.VW [0, 1] [bx bp0 #[iv p0.p.Unit, sL zF p0.p.Tools zG, sL zM p0.p.Steps zL, sL QN p0.tools QP, sL QV p0.image QT, bV p0.clear, iv p0.tool, iv p0.place.X, iv p0.place.Y, bV p0.placed, iv p0.off, iv p0.on] 77, ow QV QT 107 zW p0.image] (U := (Option Addr × Nat)) (fun u => (iv zQF.1)) (fun O W u => SlF u.1 zQF.2.length u.2) (fun u => [bx bp0 #[iv p0.p.Unit, sL zF p0.p.Tools zG, sL zM p0.p.Steps zL, sL QN p0.tools QP, sL u.1 zQF.2 u.2, bV p0.clear, iv p0.tool, iv p0.place.X, iv p0.place.Y, bV p0.placed, iv p0.off, iv p0.on] 77, ow u.1 u.2 107 zW zQF.2]) rfl (zR rfl (zR rfl zk)) (fun _ => rfl) (wn rfl) rfl Tryz.call107 (zI rfl (zI rfl (zI rfl zS))) (fun W hW hp hE => zHp N p0 zF zG (zP.ext (hW.JH hp)) zM zL (QW.ext (hW.JH hp)) QN QP (Kn.ext (hW.JH hp)) QV QT bp0 p1.Points za zb (Qc.ext (hW.JH hp)) p2 zQF zka hE) ?_
         intro w u zkB hu
         obtain ⟨zX8, zXc⟩ := u
         have gy307_0 := hu
         replace leB := leB.trans zkB
         have zbS : SlF zX8 zQF.2.length zXc := gy307_0 --@phi
         dsimp only
         refine Tr.asg rfl rfl (Tr.nil (Tr.zA (Tr.ret (Tr.QI (Tr.zg ?_)))))
         obtain rfl := oI H
         exact Tr.out (m := [iv zQF.1]) [] (zU rfl zT) (fun W hW => ⟨w, (zX8, zXc), leB, rfl, zbS, hW.pick (ks := [0, 1]) (by decide) (zR rfl (zR rfl zk))⟩)
        ·refine Tr.sr (Tr.va rfl (fun _ _ a c => Qa (a.ev rfl) (a.ev rfl)) (Tr.asg rfl rfl (Tr.nil (Tr.zA (Tr.cond rfl H (fun H => ?_) (fun H => ?_))))))
         ·refine Tr.sr (Tr.va rfl (fun _ _ a c => zB zGu (a.ev rfl)) (Tr.va rfl (fun _ _ a c => zD QH (a.ev rfl) (rdb c (vs := [iv p1.Kind, sv p1.Name, iv p1.At.X, iv p1.At.Y, sL za p1.Points zb, iv p1.NX, iv p1.NY, sL QS p1.Steps QR]) (k := 2) rfl 6) rfl) (Tr.mv rfl rfl (Tr.nil (Tr.zA (Tr.block (Tr.loop (σ := (List ze) × Bool × Int × Int × Int × Bool × Int × Int × Int × (Option Addr) × Nat) (fun m w s => Qv N p0 p1 p2 rec m s.1 s.2.1 s.2.2.1 s.2.2.2.1 s.2.2.2.2.1 s.2.2.2.2.2.1 s.2.2.2.2.2.2.1 s.2.2.2.2.2.2.2.1 s.2.2.2.2.2.2.2.2.1 = some r ∧ SlF s.2.2.2.2.2.2.2.2.2.1 s.1.length s.2.2.2.2.2.2.2.2.2.2) (fun s => [(0, pV bp0), (4, pV zt), (5, pV Qg), (68, iv p1.NY), (69, iv s.2.2.2.2.2.2.2.2.1)]) (fun s => [(0, bx bp0 #[iv p0.p.Unit, sL zF p0.p.Tools zG, sL zM p0.p.Steps zL, sL QN p0.tools QP, sL s.2.2.2.2.2.2.2.2.2.1 s.1 s.2.2.2.2.2.2.2.2.2.2, bV s.2.1, iv s.2.2.1, iv s.2.2.2.1, iv s.2.2.2.2.1, bV s.2.2.2.2.2.1, iv s.2.2.2.2.2.2.1, iv s.2.2.2.2.2.2.2.1] 77), (1, ow s.2.2.2.2.2.2.2.2.2.1 s.2.2.2.2.2.2.2.2.2.2 107 zW s.1), (2, bx zt #[iv p1.Kind, sv p1.Name, iv p1.At.X, iv p1.At.Y, sL za p1.Points zb, iv p1.NX, iv p1.NY, sL QS p1.Steps QR] 46), (3, bx Qg #[iv p2.X, iv p2.Y] 43)]) N (p0.image, p0.clear, p0.tool, p0.place.X, p0.place.Y, p0.placed, p0.off, p0.on, 0, QV, QT) ⟨H, zAb⟩ (.cons rfl (.cons rfl (.cons rfl (.cons rfl (.cons rfl .nil))))) (.cons rfl (.cons rfl (.cons rfl (.cons rfl .nil)))) (fun _ _ h => zAQ (h.1)) ?_)))))))
          intro w zFW mL9 s hs
          obtain ⟨zVY, zYa, zYZ, zYY, zYX, zYW, zYV, zYU, zDv, zch, zcD⟩ := s
          obtain ⟨H, zXE⟩ := hs
          replace H : Qv N p0 p1 p2 rec (mL9 + 1) zVY zYa zYZ zYY zYX zYW zYV zYU zDv = some r := H
          replace zP := zP.leR zFW
          replace QW := QW.leR zFW
          replace Kn := Kn.leR zFW
          replace zIs := zIs.leR zFW
          replace leB := leB.trans zFW
          replace leJ295 := leJ295.trans zFW
          replace zXE : SlF zch zVY.length zcD := zXE
          rw [Qv.eq_2] at H
          dsimp only
          refine Tr.sr (Tr.va rfl (fun _ _ a c => QE (a.ev rfl) (a.ev rfl)) (Tr.nil (Tr.zA (Tr.seq (Tr.cond rfl H (fun H => ?_) (fun H => ?_))))))
          ·refine Tr.skip (Tr.zA (Tr.seq (Tr.block (Tr.sr (Tr.mv rfl rfl (Tr.asg rfl rfl (Tr.nil (Tr.zA (Tr.sr (Tr.va rfl (fun _ _ a c => zB zFm (a.ev rfl)) (Tr.va rfl (fun _ _ a c => zD QH (a.ev rfl) (rdb c (vs := [iv p1.Kind, sv p1.Name, iv p1.At.X, iv p1.At.Y, sL za p1.Points zb, iv p1.NX, iv p1.NY, sL QS p1.Steps QR]) (k := 2) rfl 5) rfl) (Tr.mv rfl rfl (Tr.nil (Tr.zA (Tr.block (Tr.loop (σ := (List ze) × Bool × Int × Int × Int × Bool × Int × Int × Int × (Option Addr) × Nat) (fun m w s => Jf p0 p1 p2 rec zDv (Qv N p0 p1 p2 rec mL9) m s.1 s.2.1 s.2.2.1 s.2.2.2.1 s.2.2.2.2.1 s.2.2.2.2.2.1 s.2.2.2.2.2.2.1 s.2.2.2.2.2.2.2.1 s.2.2.2.2.2.2.2.2.1 = some r ∧ SlF s.2.2.2.2.2.2.2.2.2.1 s.1.length s.2.2.2.2.2.2.2.2.2.2) (fun s => [(0, pV bp0), (4, pV zt), (5, pV Qg), (8, iv zDv), (68, iv p1.NY), (69, iv zDv), (73, iv p1.NX), (74, iv s.2.2.2.2.2.2.2.2.1)]) (fun s => [(0, bx bp0 #[iv p0.p.Unit, sL zF p0.p.Tools zG, sL zM p0.p.Steps zL, sL QN p0.tools QP, sL s.2.2.2.2.2.2.2.2.2.1 s.1 s.2.2.2.2.2.2.2.2.2.2, bV s.2.1, iv s.2.2.1, iv s.2.2.2.1, iv s.2.2.2.2.1, bV s.2.2.2.2.2.1, iv s.2.2.2.2.2.2.1, iv s.2.2.2.2.2.2.2.1] 77), (1, ow s.2.2.2.2.2.2.2.2.2.1 s.2.2.2.2.2.2.2.2.2.2 107 zW s.1), (2, bx zt #[iv p1.Kind, sv p1.Name, iv p1.At.X, iv p1.At.Y, sL za p1.Points zb, iv p1.NX, iv p1.NY, sL QS p1.Steps QR] 46), (3, bx Qg #[iv p2.X, iv p2.Y] 43)]) N (zVY, zYa, zYZ, zYY, zYX, zYW, zYV, zYU, 0, zch, zcD) ⟨H, zXE⟩ (.cons rfl (.cons rfl (.cons rfl (.cons rfl (.cons rfl (.cons rfl (.cons rfl (.cons rfl .nil)))))))) (.cons rfl (.cons rfl (.cons rfl (.cons rfl .nil)))) (fun _ _ h => zAQ (h.1)) ?_))))))))))))))))
           intro w zGs zVU s hs
           obtain ⟨zMt, zQM, zQL, zQK, zQJ, zQI, zQH, zQG, zFi, zMa, zMG⟩ := s
           obtain ⟨H, zbD⟩ := hs
           replace H : Jf p0 p1 p2 rec zDv (Qv N p0 p1 p2 rec mL9) (zVU + 1) zMt zQM zQL zQK zQJ zQI zQH zQG zFi = some r := H
           replace zP := zP.leR zGs
           replace QW := QW.leR zGs
           replace Kn := Kn.leR zGs
           replace zIs := zIs.leR zGs
           replace leB := leB.trans zGs
           replace zFW := zFW.trans zGs
           replace zbD : SlF zMa zMt.length zMG := zbD
           rw [Jf.eq_2] at H
           dsimp only
           refine Tr.sr (Tr.va rfl (fun _ _ a c => QE (a.ev rfl) (a.ev rfl)) (Tr.nil (Tr.zA (Tr.seq (Tr.cond rfl H (fun H => ?_) (fun H => ?_))))))
           ·refine Tr.skip (Tr.zA (Tr.seq (Tr.block (Tr.sr (Tr.mv rfl rfl (Tr.asg rfl rfl (Tr.nil (Tr.zA (Tr.seq (Tr.zb9 30 [(29, .makeFunc (.func 0) #[] #[])] [(29, ⟨10, 22, .func (.func 0) #[] #[], fun b => pV b, fun b => bx b #[iv 0, iv 0] 43⟩)] [(0, pV bp0), (4, pV zt), (5, pV Qg), (8, iv zDv), (9, iv zFi), (10, .func (.func 0) #[] #[]), (68, iv p1.NY), (69, iv zDv), (73, iv p1.NX), (74, iv zFi), (75, bV (decide (zFi < p1.NX))), (76, iv zFi), (77, pV Qg), (78, iv p2.X), (79, iv zFi), (80, .pointer (some ⟨zt, 2, none⟩)), (81, .pointer (some ⟨zt, 2, none⟩)), (82, iv p1.At.X), (83, iv (w64 (zFi * p1.At.X))), (84, pV bp0), (85, pV bp0), (86, pV bp0), (87, pV bp0), (88, iv p0.p.Unit), (89, iv (w64 ((w64 (zFi * p1.At.X)) * p0.p.Unit))), (90, iv (w64 (p2.X + (w64 ((w64 (zFi * p1.At.X)) * p0.p.Unit))))), (91, .pointer (some ⟨Qg, 1, none⟩)), (92, iv p2.Y), (93, iv zDv), (94, .pointer (some ⟨zt, 2, none⟩)), (95, .pointer (some ⟨zt, 3, none⟩)), (96, iv p1.At.Y), (97, iv (w64 (zDv * p1.At.Y))), (98, pV bp0), (99, pV bp0), (100, pV bp0), (101, pV bp0), (102, iv p0.p.Unit), (103, iv (w64 ((w64 (zDv * p1.At.Y)) * p0.p.Unit))), (104, iv (w64 (p2.Y + (w64 ((w64 (zDv * p1.At.Y)) * p0.p.Unit))))), (105, .agg #[iv (w64 (p2.X + (w64 ((w64 (zFi * p1.At.X)) * p0.p.Unit)))), iv (w64 (p2.Y + (w64 ((w64 (zDv * p1.At.Y)) * p0.p.Unit))))])] (by kernel_rfl) (by kernel_rfl) (by kernel_rfl) (by kernel_rfl) (by kernel_rfl) (by kernel_rfl) (by kernel_rfl) (zC4 (zUI rfl rfl zJJ) zEB) (zC4 rfl zEB) (zC4 rfl zEB) ?_ ?_))))))))))
            ·exact Tq.va rfl (fun _ _ a c => zB Kq (a.ev rfl)) (Tq.va rfl (fun _ _ a c => zD QH (a.ev rfl) (rdb c (vs := [iv p2.X, iv p2.Y]) (k := 3) rfl 0) rfl) (Tq.mv rfl rfl (Tq.va rfl (fun _ _ a c => zB WK (a.ev rfl)) (Tq.va rfl (fun _ _ a c => zB Kq (a.ev rfl)) (Tq.va rfl (fun _ _ a c => zD QH (a.ev rfl) (rdb c (vs := [iv p1.Kind, sv p1.Name, iv p1.At.X, iv p1.At.Y, sL za p1.Points zb, iv p1.NX, iv p1.NY, sL QS p1.Steps QR]) (k := 2) rfl 2) rfl) (Tq.va rfl (fun _ _ a c => zCT (a.ev rfl) (a.ev rfl)) (Tq.mv rfl rfl (Tq.va rfl (fun _ _ a c => QF (a.ev rfl)) (Tq.va rfl (fun _ _ a c => zB zL1 (a.ev rfl)) (Tq.va rfl (fun _ _ a c => zB zBH (a.ev rfl)) (Tq.va rfl (fun _ _ a c => zD QH (a.ev rfl) (rdb c (vs := [iv p0.p.Unit, sL zF p0.p.Tools zG, sL zM p0.p.Steps zL, sL QN p0.tools QP, sL zMa zMt zMG, bV zQM, iv zQL, iv zQK, iv zQJ, bV zQI, iv zQH, iv zQG]) (k := 0) rfl 0) rfl) (Tq.va rfl (fun _ _ a c => zCT (a.ev rfl) (a.ev rfl)) (Tq.va rfl (fun _ _ a c => QA (a.ev rfl) (a.ev rfl)) (Tq.va rfl (fun _ _ a c => zB KY (a.ev rfl)) (Tq.va rfl (fun _ _ a c => zD QH (a.ev rfl) (rdb c (vs := [iv p2.X, iv p2.Y]) (k := 3) rfl 1) rfl) (Tq.mv rfl rfl (Tq.va rfl (fun _ _ a c => zB WK (a.ev rfl)) (Tq.va rfl (fun _ _ a c => zB KY (a.ev rfl)) (Tq.va rfl (fun _ _ a c => zD QH (a.ev rfl) (rdb c (vs := [iv p1.Kind, sv p1.Name, iv p1.At.X, iv p1.At.Y, sL za p1.Points zb, iv p1.NX, iv p1.NY, sL QS p1.Steps QR]) (k := 2) rfl 3) rfl) (Tq.va rfl (fun _ _ a c => zCT (a.ev rfl) (a.ev rfl)) (Tq.mv rfl rfl (Tq.va rfl (fun _ _ a c => QF (a.ev rfl)) (Tq.va rfl (fun _ _ a c => zB zL1 (a.ev rfl)) (Tq.va rfl (fun _ _ a c => zB zBH (a.ev rfl)) (Tq.va rfl (fun _ _ a c => zD QH (a.ev rfl) (rdb c (vs := [iv p0.p.Unit, sL zF p0.p.Tools zG, sL zM p0.p.Steps zL, sL QN p0.tools QP, sL zMa zMt zMG, bV zQM, iv zQL, iv zQK, iv zQJ, bV zQI, iv zQH, iv zQG]) (k := 0) rfl 0) rfl) (Tq.va rfl (fun _ _ a c => zCT (a.ev rfl) (a.ev rfl)) (Tq.va rfl (fun _ _ a c => QA (a.ev rfl) (a.ev rfl)) (Tq.build (vs := [(0, iv (w64 (p2.X + (w64 ((w64 (zFi * p1.At.X)) * p0.p.Unit))))), (1, iv (w64 (p2.Y + (w64 ((w64 (zDv * p1.At.Y)) * p0.p.Unit)))))]) (cs := [iv (w64 (p2.X + (w64 ((w64 (zFi * p1.At.X)) * p0.p.Unit)))), iv (w64 (p2.Y + (w64 ((w64 (zDv * p1.At.Y)) * p0.p.Unit))))]) (wn rfl) rfl (zl rfl (zl rfl Qf)) (by kernel_rfl) (Tq.zHD (vs := []) (wn rfl) rfl zS (Tq.fin (.cons rfl (.cons rfl (.cons rfl (.cons rfl (.cons rfl (.cons rfl (.cons rfl (.cons rfl (.cons rfl (.cons rfl (.cons rfl (.cons rfl (.cons rfl (.cons rfl (.cons rfl (.cons rfl (.cons rfl (.cons rfl (.cons rfl (.cons rfl (.cons rfl (.cons rfl (.cons rfl (.cons rfl (.cons rfl (.cons rfl (.cons rfl (.cons rfl (.cons rfl (.cons rfl (.cons rfl (.cons rfl (.cons rfl (.cons rfl (.cons rfl (.cons rfl (.cons rfl (.cons rfl (.cons rfl (.cons rfl (.cons rfl .nil)))))))))))))))))))))))))))))))))))))))))))))))))))))))))))))))))))))))
            ·intro bs477
             refine Tr.sel (lf := [(0, pV bp0), (4, pV zt), (5, pV Qg), (8, iv zDv), (10, .pointer (some ⟨(bs477 29), 0, none⟩)), (68, iv p1.NY), (69, iv zDv), (73, iv p1.NX), (74, iv zFi), (105, .agg #[iv (w64 (p2.X + (w64 ((w64 (zFi * p1.At.X)) * p0.p.Unit)))), iv (w64 (p2.Y + (w64 ((w64 (zDv * p1.At.Y)) * p0.p.Unit))))])]) (le := [(0, bx bp0 #[iv p0.p.Unit, sL zF p0.p.Tools zG, sL zM p0.p.Steps zL, sL QN p0.tools QP, sL zMa zMt zMG, bV zQM, iv zQL, iv zQK, iv zQJ, bV zQI, iv zQH, iv zQG] 77), (1, ow zMa zMG 107 zW zMt), (2, bx zt #[iv p1.Kind, sv p1.Name, iv p1.At.X, iv p1.At.Y, sL za p1.Points zb, iv p1.NX, iv p1.NY, sL QS p1.Steps QR] 46), (3, bx Qg #[iv p2.X, iv p2.Y] 43), (22, bx (bs477 29) #[iv 0, iv 0] 43)]) (.cons rfl (.cons rfl (.cons rfl (.cons rfl (.cons rfl (.cons rfl (.cons rfl (.cons rfl (.cons rfl (.cons rfl .nil)))))))))) (.cons rfl (.cons rfl (.cons rfl (.cons rfl (.cons rfl .nil))))) (Tr.store 22 (cs := [iv (w64 (p2.X + (w64 ((w64 (zFi * p1.At.X)) * p0.p.Unit)))), iv (w64 (p2.Y + (w64 ((w64 (zDv * p1.At.Y)) * p0.p.Unit))))]) [iv (w64 (p2.X + (w64 ((w64 (zFi * p1.At.X)) * p0.p.Unit)))), iv (w64 (p2.Y + (w64 ((w64 (zDv * p1.At.Y)) * p0.p.Unit))))] (wn rfl) rfl rfl rfl rfl JL rfl rfl rfl (Tr.nil (Tr.zA (Tr.sr (Tr.mv rfl rfl (Tr.va rfl (fun _ _ a c => zB zDW (a.ev rfl)) (Tr.va rfl (fun _ _ a c => zD zCn (a.ev rfl) (rdb c (vs := [iv p1.Kind, sv p1.Name, iv p1.At.X, iv p1.At.Y, sL za p1.Points zb, iv p1.NX, iv p1.NY, sL QS p1.Steps QR]) (k := 2) rfl 7) rfl) (Tr.va rfl (fun _ _ a c => zX (cs := [iv (w64 (p2.X + (w64 ((w64 (zFi * p1.At.X)) * p0.p.Unit)))), iv (w64 (p2.Y + (w64 ((w64 (zDv * p1.At.Y)) * p0.p.Unit))))]) KT JL (a.ev rfl) (zO.take (rdb c (vs := [iv (w64 (p2.X + (w64 ((w64 (zFi * p1.At.X)) * p0.p.Unit)))), iv (w64 (p2.Y + (w64 ((w64 (zDv * p1.At.Y)) * p0.p.Unit))))]) (k := 22) rfl 0) 2) rfl) ?_))))))))
             obtain ⟨zBU, zkU, H⟩ := bnd H
             refine Tr.VW [0, 1] [bx bp0 #[iv p0.p.Unit, sL zF p0.p.Tools zG, sL zM p0.p.Steps zL, sL QN p0.tools QP, sL zMa zMt zMG, bV zQM, iv zQL, iv zQK, iv zQJ, bV zQI, iv zQH, iv zQG] 77, ow zMa zMG 107 zW zMt] (U := (Option Addr × Nat)) (fun u => (iv zBU.1)) (fun O W u => SlF u.1 zBU.2.2.2.2.2.2.2.2.length u.2) (fun u => [bx bp0 #[iv p0.p.Unit, sL zF p0.p.Tools zG, sL zM p0.p.Steps zL, sL QN p0.tools QP, sL u.1 zBU.2.2.2.2.2.2.2.2 u.2, bV zBU.2.1, iv zBU.2.2.1, iv zBU.2.2.2.1, iv zBU.2.2.2.2.1, bV zBU.2.2.2.2.2.1, iv zBU.2.2.2.2.2.2.1, iv zBU.2.2.2.2.2.2.2.1] 77, ow u.1 u.2 107 zW zBU.2.2.2.2.2.2.2.2]) rfl (zR rfl (zR rfl zk)) (fun _ => rfl) (wn rfl) rfl Tryz.call56 (zI rfl (zI rfl (zI rfl zS))) (fun W hW hp hE => hrec (QU.mk p0.p p0.tools zMt zQM zQL (zJ.mk zQK zQJ) zQI zQH zQG) zF zG (zP.ext (hW.JH hp)) zM zL (QW.ext (hW.JH hp)) QN QP (Kn.ext (hW.JH hp)) zMa zMG bp0 p1.Steps QS QR (zIs.ext (hW.JH hp)) (zJ.mk (w64 (p2.X + (w64 ((w64 (zFi * p1.At.X)) * p0.p.Unit)))) (w64 (p2.Y + (w64 ((w64 (zDv * p1.At.Y)) * p0.p.Unit))))) zBU zkU hE) ?_
             intro w u zey hu
             obtain ⟨zSm, zSQ⟩ := u
             have gy478_0 := hu
             replace leB := leB.trans zey
             replace zGs := zGs.trans zey
             have zT6 : SlF zSm zBU.2.2.2.2.2.2.2.2.length zSQ := gy478_0 --@phi
             dsimp only
             refine Tr.asg rfl rfl (Tr.nil (Tr.zA (Tr.sr (Tr.mv rfl rfl (Tr.va rfl (fun _ _ a c => Jt (a.ev rfl) (a.ev rfl)) (Tr.nil (Tr.zA (Tr.cond rfl H (fun H => ?_) (fun H => ?_)))))))))
             ·refine Tr.sr (Tr.mv rfl rfl (Tr.asg rfl rfl (Tr.nil (Tr.zA (Tr.ret (Tr.QI (Tr.zg (Tr.zg (Tr.QI (Tr.QI (Tr.zg (Tr.zg (Tr.QI (Tr.QI (Tr.zg ?_)))))))))))))))
              obtain rfl := oI H
              exact Tr.out (m := [iv zBU.1]) [] (zU rfl zT) (fun W hW => ⟨w, (zSm, zSQ), leB, rfl, zT6, hW.pick (ks := [0, 1]) (by decide) (zR rfl (zR rfl zk))⟩)
             ·exact Tr.skip (Tr.zh (Tr.zA (Tr.region (Tr.va rfl (fun _ _ a c => QA (a.ev rfl) (a.ev rfl)) (Tr.mv rfl rfl (Tr.nil (Tr.zf zGs (zBU.2.2.2.2.2.2.2.2, zBU.2.1, zBU.2.2.1, zBU.2.2.2.1, zBU.2.2.2.2.1, zBU.2.2.2.2.2.1, zBU.2.2.2.2.2.2.1, zBU.2.2.2.2.2.2.2.1, (w64 (zFi + 1)), zSm, zSQ) ⟨H, zT6⟩ (.cons rfl (.cons rfl (.cons rfl (.cons rfl (.cons rfl (.cons rfl (.cons rfl (.cons rfl .nil)))))))) (.cons rfl (.cons rfl (.cons rfl (.cons rfl .nil)))))))))))
           ·exact Tr.exit (Tr.zi (Tr.zi (Tr.QL (Tr.zh (Tr.zA (Tr.region (Tr.va rfl (fun _ _ a c => QA (a.ev rfl) (a.ev rfl)) (Tr.mv rfl rfl (Tr.nil (Tr.zf zFW (zMt, zQM, zQL, zQK, zQJ, zQI, zQH, zQG, (w64 (zDv + 1)), zMa, zMG) ⟨H, zbD⟩ (.cons rfl (.cons rfl (.cons rfl (.cons rfl (.cons rfl .nil))))) (.cons rfl (.cons rfl (.cons rfl (.cons rfl .nil))))))))))))))
          ·exact Tr.exit (Tr.zi (Tr.zi (Tr.QL (Tr.zh (Tr.zf leJ295 (zVY, zYa, zYZ, zYY, zYX, zYW, zYV, zYU, zch, zcD) ⟨H, zXE⟩ .nil (.cons rfl (.cons rfl .nil)))))))
         ·exact Tr.skip (Tr.zh (Tr.zf leJ295 (p0.image, p0.clear, p0.tool, p0.place.X, p0.place.Y, p0.placed, p0.off, p0.on, QV, QT) ⟨H, zAb⟩ .nil (.cons rfl (.cons rfl .nil))))
 ·intro w s hlJ296 hs
  obtain ⟨zdS, zYd, zYc, zU2, zU1, zfm, zfl, zfk, zfe, zfU⟩ := s
  obtain ⟨H, zbJ⟩ := hs
  replace H : JI zdS zYd zYc zU2 zU1 zfm zfl zfk = some r := H
  replace leB := leB.trans hlJ296
  replace zbJ : SlF zfe zdS.length zfU := zbJ
  unfold JI at H
  dsimp only
  refine Tr.sr (Tr.asg rfl rfl (Tr.nil (Tr.zA (Tr.ret ?_))))
  obtain rfl := oI H
  exact Tr.out (m := [iv 0]) [] (zU rfl zT) (fun W hW => ⟨w, (zfe, zfU), leB, rfl, zbJ, hW.pick (ks := [0, 1]) (by decide) (zR rfl (zR rfl zk))⟩)
theorem zHJ (N : Nat) (rec : QU → (List zC) → zJ → Option (Int × Bool × Int × Int × Int × Bool × Int × Int × (List ze))) (hrec : ∀ {w : Bs} (p0 : QU) (zF : Option Addr) (zG : Nat) (zP : Sl w.R w.W zN zF zG p0.p.Tools) (zM : Option Addr) (zL : Nat) (QW : Sl w.R w.W zH zM zL p0.p.Steps) (QN : Option Addr) (QP : Nat) (Kn : Sl w.R w.W JU QN QP p0.tools) (QV : Option Addr) (QT : Nat) (bp0 : Nat) (p1 : (List zC)) (za : Option Addr) (zb : Nat) (Qc : Sl w.R w.W zH za zb p1) (p2 : zJ) (r : (Int × Bool × Int × Int × Int × Bool × Int × Int × (List ze))) (H : rec p0 p1 p2 = some r) (hE : HF w w.W (LEn [bx bp0 #[iv p0.p.Unit, sL zF p0.p.Tools zG, sL zM p0.p.Steps zL, sL QN p0.tools QP, sL QV p0.image QT, bV p0.clear, iv p0.tool, iv p0.place.X, iv p0.place.Y, bV p0.placed, iv p0.off, iv p0.on] 77, ow QV QT 107 zW p0.image])), Calls Tryz.prog 56 [pV bp0, sL za p1 zb, .agg #[iv p2.X, iv p2.Y]].toArray w.W fun e W' => ∃ (w' : Bs) (u : (Option Addr × Nat)), w.Le w' ∧ e = .returned (iv r.1) ∧ (SlF u.1 r.2.2.2.2.2.2.2.2.length u.2) ∧ HF w' W' (LEn [bx bp0 #[iv p0.p.Unit, sL zF p0.p.Tools zG, sL zM p0.p.Steps zL, sL QN p0.tools QP, sL u.1 r.2.2.2.2.2.2.2.2 u.2, bV r.2.1, iv r.2.2.1, iv r.2.2.2.1, iv r.2.2.2.2.1, bV r.2.2.2.2.2.1, iv r.2.2.2.2.2.2.1, iv r.2.2.2.2.2.2.2.1] 77, ow u.1 u.2 107 zW r.2.2.2.2.2.2.2.2])) {w : Bs} (p0 : QU) (zF : Option Addr) (zG : Nat) (zP : Sl w.R w.W zN zF zG p0.p.Tools) (zM : Option Addr) (zL : Nat) (QW : Sl w.R w.W zH zM zL p0.p.Steps) (QN : Option Addr) (QP : Nat) (Kn : Sl w.R w.W JU QN QP p0.tools) (QV : Option Addr) (QT : Nat) (bp0 : Nat) (p1 : (List zC)) (za : Option Addr) (zb : Nat) (Qc : Sl w.R w.W zH za zb p1) (p2 : zJ) (r : (Int × Bool × Int × Int × Int × Bool × Int × Int × (List ze))) (H : zCS N rec p0 p1 p2 = some r) (hE : HF w w.W (LEn [bx bp0 #[iv p0.p.Unit, sL zF p0.p.Tools zG, sL zM p0.p.Steps zL, sL QN p0.tools QP, sL QV p0.image QT, bV p0.clear, iv p0.tool, iv p0.place.X, iv p0.place.Y, bV p0.placed, iv p0.off, iv p0.on] 77, ow QV QT 107 zW p0.image])) : Calls Tryz.prog 56 [pV bp0, sL za p1 zb, .agg #[iv p2.X, iv p2.Y]].toArray w.W fun e W' => ∃ (w' : Bs) (u : (Option Addr × Nat)), w.Le w' ∧ e = .returned (iv r.1) ∧ (SlF u.1 r.2.2.2.2.2.2.2.2.length u.2) ∧ HF w' W' (LEn [bx bp0 #[iv p0.p.Unit, sL zF p0.p.Tools zG, sL zM p0.p.Steps zL, sL QN p0.tools QP, sL u.1 r.2.2.2.2.2.2.2.2 u.2, bV r.2.1, iv r.2.2.1, iv r.2.2.2.1, iv r.2.2.2.2.1, bV r.2.2.2.2.2.1, iv r.2.2.2.2.2.2.1, iv r.2.2.2.2.2.2.2.1] 77, ow u.1 u.2 107 zW r.2.2.2.2.2.2.2.2]) := by
 unfold zCS at H
 have zAb := (hE.sl (k := 1) rfl).form
 have leB := Bs.Le.refl w
 refine Tr.enter (n := 24) Tryz.func56 rfl rfl rfl hE (Tr.sr (Tr.box 2 (cs := [iv p2.X, iv p2.Y]) (wn rfl) rfl rfl rfl fun zt => (Tr.asg rfl rfl (Tr.nil (Tr.zA (Tr.seq (Tr.sr (Tr.mv rfl rfl (Tr.va rfl (fun _ _ a c => zy zB8 (a.ev rfl)) (Tr.mv rfl rfl (Tr.nil (Tr.zA (Tr.block (Tr.loop (σ := (List zC) × Nat × (List ze) × Bool × Int × Int × Int × Bool × Int × Int × (Option Addr) × Nat) (fun m w s => m = s.1.length + 1 ∧ s.1 = List.drop s.2.1 p1 ∧ s.2.1 ≤ p1.length ∧ Jc N p0 p2 rec s.1 s.2.1 s.2.2.1 s.2.2.2.1 s.2.2.2.2.1 s.2.2.2.2.2.1 s.2.2.2.2.2.2.1 s.2.2.2.2.2.2.2.1 s.2.2.2.2.2.2.2.2.1 s.2.2.2.2.2.2.2.2.2.1 = some r ∧ SlF s.2.2.2.2.2.2.2.2.2.2.1 s.2.2.1.length s.2.2.2.2.2.2.2.2.2.2.2) (fun s => [(0, pV bp0), (5, pV zt), (10, sL za p1 zb), (11, iv (p1.length : Int)), (12, iv (s.2.1 : Int))]) (fun s => [(0, bx bp0 #[iv p0.p.Unit, sL zF p0.p.Tools zG, sL zM p0.p.Steps zL, sL QN p0.tools QP, sL s.2.2.2.2.2.2.2.2.2.2.1 s.2.2.1 s.2.2.2.2.2.2.2.2.2.2.2, bV s.2.2.2.1, iv s.2.2.2.2.1, iv s.2.2.2.2.2.1, iv s.2.2.2.2.2.2.1, bV s.2.2.2.2.2.2.2.1, iv s.2.2.2.2.2.2.2.2.1, iv s.2.2.2.2.2.2.2.2.2.1] 77), (1, ow s.2.2.2.2.2.2.2.2.2.2.1 s.2.2.2.2.2.2.2.2.2.2.2 107 zW s.2.2.1), (2, bx zt #[iv p2.X, iv p2.Y] 43)]) (p1.length + 1) (p1, 0, p0.image, p0.clear, p0.tool, p0.place.X, p0.place.Y, p0.placed, p0.off, p0.on, QV, QT) ⟨rfl, rfl, Nat.zero_le _, H, zAb⟩ (.cons rfl (.cons rfl (.cons rfl (.cons rfl (.cons rfl .nil))))) (.cons rfl (.cons rfl (.cons rfl .nil))) (fun _ _ h => absurd h.1 (by simp)) ?_))))))))))))))
 intro w Qe m s hs
 obtain ⟨zV, iL1, zR4, zJA, zU7, zOh, zU6, zU5, zU4, zU3, zUt, zUb⟩ := s
 obtain ⟨KS, QG, hiL1, H, zbM⟩ := hs
 replace QG : zV = List.drop iL1 p1 := QG
 replace H : Jc N p0 p2 rec zV iL1 zR4 zJA zU7 zOh zU6 zU5 zU4 zU3 = some r := H
 replace KS : m + 1 = zV.length + 1 := KS
 replace zP := zP.leR Qe
 replace QW := QW.leR Qe
 replace Kn := Kn.leR Qe
 replace Qc := Qc.leR Qe
 replace leB := leB.trans Qe
 replace zbM : SlF zUt zR4.length zUb := zbM
 obtain rfl : m = zV.length := by omega
 clear KS
 dsimp only
 cases zV with
 | nil =>
  rw [Jc.eq_1] at H
  refine Tr.sr (Tr.va rfl (fun _ _ a c => QE (a.ev rfl) (a.ev rfl)) (Tr.nil (Tr.zA (Tr.seq (Tr.WY rfl (JB QG) (Tr.exit (Tr.zi (Tr.zi (Tr.QL (Tr.zA (Tr.sr (Tr.asg rfl rfl (Tr.nil (Tr.zA (Tr.ret ?_)))))))))))))))
  obtain rfl := oI H
  exact Tr.out (m := [iv 0]) [] (zU rfl zT) (fun W hW => ⟨w, (zUt, zUb), leB, rfl, zbM, hW.pick (ks := [0, 1]) (by decide) (zR rfl (zR rfl zk))⟩)
 | cons xL1 zV =>
  rw [Jc.eq_2] at H
  refine Tr.sr (Tr.va rfl (fun _ _ a c => QE (a.ev rfl) (a.ev rfl)) (Tr.nil (Tr.zA (Tr.seq (Tr.WX rfl (JX QG) (Tr.skip (Tr.zA (Tr.seq (Tr.block (Tr.sr ?_))))))))))
  obtain ⟨zn5, hRu146, zdk, hcu146⟩ := (Qc).el (Js QG)
  obtain ⟨⟨zIm, zIQ⟩, ⟨zIl, zIP⟩⟩ := zn5
  obtain ⟨zM4, zM3⟩ := Kj.1 zdk
  replace zM4 : Sl w.R w.W QD zIm zIQ xL1.Points := zM4
  replace zM3 : Sl w.R w.W zH zIl zIP xL1.Steps := zM3
  refine Tr.va rfl (fun _ _ a c => zK zEC (a.ev rfl) Qc.form (a.ev rfl) (Int.natCast_nonneg _) (QC QG)) (Tr.va rfl (fun _ _ a c => zX (cs := [iv xL1.Kind, sv xL1.Name, iv xL1.At.X, iv xL1.At.Y, sL zIm xL1.Points zIQ, iv xL1.NX, iv xL1.NY, sL zIl xL1.Steps zIP]) zGP zA2 (a.ev rfl) (zO.take (rdR hRu146 hcu146 c) 8) rfl) (Tr.alloc 5 (wn rfl) rfl zIn fun zo5 => (Tr.store 5 (cs := [iv xL1.Kind, sv xL1.Name, iv xL1.At.X, iv xL1.At.Y, sL zIm xL1.Points zIQ, iv xL1.NX, iv xL1.NY, sL zIl xL1.Steps zIP]) [iv xL1.Kind, sv xL1.Name, iv xL1.At.X, iv xL1.At.Y, sL zIm xL1.Points zIQ, iv xL1.NX, iv xL1.NY, sL zIl xL1.Steps zIP] (wn rfl) rfl rfl rfl rfl zA2 rfl rfl rfl (Tr.nil (Tr.zA (Tr.sr (Tr.mv rfl rfl (Tr.va rfl (fun _ _ a c => zX (cs := [iv xL1.Kind, sv xL1.Name, iv xL1.At.X, iv xL1.At.Y, sL zIm xL1.Points zIQ, iv xL1.NX, iv xL1.NY, sL zIl xL1.Steps zIP]) zGP zA2 (a.ev rfl) (zO.take (rdb c (vs := [iv xL1.Kind, sv xL1.Name, iv xL1.At.X, iv xL1.At.Y, sL zIm xL1.Points zIQ, iv xL1.NX, iv xL1.NY, sL zIl xL1.Steps zIP]) (k := 5) rfl 0) 8) rfl) (Tr.va rfl (fun _ _ a c => zX (cs := [iv p2.X, iv p2.Y]) KT JL (a.ev rfl) (zO.take (rdb c (vs := [iv p2.X, iv p2.Y]) (k := 2) rfl 0) 2) rfl) ?_)))))))))
  obtain ⟨zBV, zk6, H⟩ := bnd H
  refine Tr.VW [0, 1] [bx bp0 #[iv p0.p.Unit, sL zF p0.p.Tools zG, sL zM p0.p.Steps zL, sL QN p0.tools QP, sL zUt zR4 zUb, bV zJA, iv zU7, iv zOh, iv zU6, bV zU5, iv zU4, iv zU3] 77, ow zUt zUb 107 zW zR4] (U := (Option Addr × Nat)) (fun u => (iv zBV.1)) (fun O W u => SlF u.1 zBV.2.2.2.2.2.2.2.2.length u.2) (fun u => [bx bp0 #[iv p0.p.Unit, sL zF p0.p.Tools zG, sL zM p0.p.Steps zL, sL QN p0.tools QP, sL u.1 zBV.2.2.2.2.2.2.2.2 u.2, bV zBV.2.1, iv zBV.2.2.1, iv zBV.2.2.2.1, iv zBV.2.2.2.2.1, bV zBV.2.2.2.2.2.1, iv zBV.2.2.2.2.2.2.1, iv zBV.2.2.2.2.2.2.2.1] 77, ow u.1 u.2 107 zW zBV.2.2.2.2.2.2.2.2]) rfl (zR rfl (zR rfl zk)) (fun _ => rfl) (wn rfl) rfl Tryz.call78 (zI rfl (zI rfl (zI rfl zS))) (fun W hW hp hE => zHn rec hrec N (QU.mk p0.p p0.tools zR4 zJA zU7 (zJ.mk zOh zU6) zU5 zU4 zU3) zF zG (zP.ext (hW.JH hp)) zM zL (QW.ext (hW.JH hp)) QN QP (Kn.ext (hW.JH hp)) zUt zUb bp0 xL1 zIm zIQ (zM4.ext (hW.JH hp)) zIl zIP (zM3.ext (hW.JH hp)) p2 zBV zk6 hE) ?_
  intro w u zW6 hu
  obtain ⟨zSo, zSS⟩ := u
  have gy148_0 := hu
  replace Qc := Qc.leR zW6
  replace hRu146 := zW6.r _ hRu146
  replace leB := leB.trans zW6
  replace Qe := Qe.trans zW6
  have zT7 : SlF zSo zBV.2.2.2.2.2.2.2.2.length zSS := gy148_0 --@phi
  dsimp only
  refine Tr.asg rfl rfl (Tr.nil (Tr.zA (Tr.sr (Tr.mv rfl rfl (Tr.va rfl (fun _ _ a c => Jt (a.ev rfl) (a.ev rfl)) (Tr.nil (Tr.zA (Tr.cond rfl H (fun H => ?_) (fun H => ?_)))))))))
  ·refine Tr.sr (Tr.mv rfl rfl (Tr.asg rfl rfl (Tr.nil (Tr.zA (Tr.ret (Tr.QI (Tr.zg (Tr.zg (Tr.QI (Tr.zg ?_))))))))))
   obtain rfl := oI H
   exact Tr.out (m := [iv zBV.1]) [] (zU rfl zT) (fun W hW => ⟨w, (zSo, zSS), leB, rfl, zT7, hW.pick (ks := [0, 1]) (by decide) (zR rfl (zR rfl zk))⟩)
  ·exact Tr.skip (Tr.zh (Tr.zA (Tr.region (Tr.va rfl (fun _ _ a c => QA (a.ev rfl) (a.ev rfl)) (Tr.mv rfl rfl (Tr.nil (Tr.zf Qe (zV, (iL1 + 1), zBV.2.2.2.2.2.2.2.2, zBV.2.1, zBV.2.2.1, zBV.2.2.2.1, zBV.2.2.2.2.1, zBV.2.2.2.2.2.1, zBV.2.2.2.2.2.2.1, zBV.2.2.2.2.2.2.2.1, zSo, zSS) ⟨rfl, Ql QG, QC QG, H, zT7⟩ (.cons rfl (.cons rfl (.cons rfl (.cons rfl (.cons (congrArg (fun z => some (Value.int .i64 z)) (Qk QG Qc.form)) .nil))))) (.cons rfl (.cons rfl (.cons rfl .nil))))))))))
theorem zEK : ∀ (N : Nat) {w : Bs} (p0 : QU) (zF : Option Addr) (zG : Nat) (zP : Sl w.R w.W zN zF zG p0.p.Tools) (zM : Option Addr) (zL : Nat) (QW : Sl w.R w.W zH zM zL p0.p.Steps) (QN : Option Addr) (QP : Nat) (Kn : Sl w.R w.W JU QN QP p0.tools) (QV : Option Addr) (QT : Nat) (bp0 : Nat) (p1 : (List zC)) (za : Option Addr) (zb : Nat) (Qc : Sl w.R w.W zH za zb p1) (p2 : zJ) (r : (Int × Bool × Int × Int × Int × Bool × Int × Int × (List ze))) (H : WW N p0 p1 p2 = some r) (hE : HF w w.W (LEn [bx bp0 #[iv p0.p.Unit, sL zF p0.p.Tools zG, sL zM p0.p.Steps zL, sL QN p0.tools QP, sL QV p0.image QT, bV p0.clear, iv p0.tool, iv p0.place.X, iv p0.place.Y, bV p0.placed, iv p0.off, iv p0.on] 77, ow QV QT 107 zW p0.image])), Calls Tryz.prog 56 [pV bp0, sL za p1 zb, .agg #[iv p2.X, iv p2.Y]].toArray w.W fun e W' => ∃ (w' : Bs) (u : (Option Addr × Nat)), w.Le w' ∧ e = .returned (iv r.1) ∧ (SlF u.1 r.2.2.2.2.2.2.2.2.length u.2) ∧ HF w' W' (LEn [bx bp0 #[iv p0.p.Unit, sL zF p0.p.Tools zG, sL zM p0.p.Steps zL, sL QN p0.tools QP, sL u.1 r.2.2.2.2.2.2.2.2 u.2, bV r.2.1, iv r.2.2.1, iv r.2.2.2.1, iv r.2.2.2.2.1, bV r.2.2.2.2.2.1, iv r.2.2.2.2.2.2.1, iv r.2.2.2.2.2.2.2.1] 77, ow u.1 u.2 107 zW r.2.2.2.2.2.2.2.2])
 | 0 => by intros; rename_i H _; cases H
 | N + 1 => zHJ N (WW N) (zEK N)

theorem zN6 (N : Nat) {w : Bs} (p0 : QB) (zF : Option Addr) (zG : Nat) (zP : Sl w.O w.W zN zF zG p0.Tools) (zM : Option Addr) (zL : Nat) (QW : Sl w.O w.W zH zM zL p0.Steps) (r : (QU × Int)) (H : zEM N p0 = some r) (hE : HF w w.W (LEn [emp, emp, emp])) : Calls Tryz.prog 32 [.agg #[iv p0.Unit, sL zF p0.Tools zG, sL zM p0.Steps zL]].toArray w.W fun e W' => ∃ (w' : Bs) (u : (Option Addr × Nat) × (Option Addr × Nat) × (Option Addr × Nat) × (Option Addr × Nat) × (Option Addr × Nat)), w.Le w' ∧ e = .returned (.tuple #[.pointer (some ⟨u.2.2.2.2.2, 0, none⟩), iv r.2]) ∧ (Sl w'.O w'.W zN u.1.1 u.1.2 r.1.p.Tools ∧ Sl w'.O w'.W zH u.2.1.1 u.2.1.2 r.1.p.Steps ∧ SlF u.2.2.1.1 r.1.tools.length u.2.2.1.2 ∧ SlF u.2.2.2.1.1 r.1.image.length u.2.2.2.1.2 ∧ True) ∧ HF w' W' (LEn [ow u.2.2.1.1 u.2.2.1.2 66 JU r.1.tools, ow u.2.2.2.1.1 u.2.2.2.1.2 107 zW r.1.image, bx u.2.2.2.2.2 #[iv r.1.p.Unit, sL u.1.1 r.1.p.Tools u.1.2, sL u.2.1.1 r.1.p.Steps u.2.1.2, sL u.2.2.1.1 r.1.tools u.2.2.1.2, sL u.2.2.2.1.1 r.1.image u.2.2.2.1.2, bV r.1.clear, iv r.1.tool, iv r.1.place.X, iv r.1.place.Y, bV r.1.placed, iv r.1.off, iv r.1.on] 77]) := by
 unfold zEM at H
 have leB := Bs.Le.refl w
 refine Tr.enter (n := 13) Tryz.func32 rfl rfl rfl hE (Tr.sr (Tr.box 1 (cs := [iv p0.Unit, sL zF p0.Tools zG, sL zM p0.Steps zL]) (wn rfl) rfl rfl rfl fun zt => (Tr.asg rfl rfl (Tr.asg rfl rfl (Tr.nil (Tr.zA (Tr.sr (Tr.va rfl (fun _ _ a c => zX (cs := [iv p0.Unit, sL zF p0.Tools zG, sL zM p0.Steps zL]) zAJ VQ (a.ev rfl) (zO.take (rdb c (vs := [iv p0.Unit, sL zF p0.Tools zG, sL zM p0.Steps zL]) (k := 1) rfl 0) 3) rfl) ?_))))))))
 obtain ⟨y101, hy101, H⟩ := bnd H
 refine Tr.VW [2, 3, 4] [emp, emp, emp] (U := (Option Addr × Nat) × (Option Addr × Nat) × (Option Addr × Nat) × (Option Addr × Nat) × (Option Addr × Nat)) (fun u => (.pointer (some ⟨u.2.2.2.2.2, 0, none⟩))) (fun O W u => Sl O W zN u.1.1 u.1.2 y101.p.Tools ∧ Sl O W zH u.2.1.1 u.2.1.2 y101.p.Steps ∧ SlF u.2.2.1.1 y101.tools.length u.2.2.1.2 ∧ SlF u.2.2.2.1.1 y101.image.length u.2.2.2.1.2 ∧ True) (fun u => [ow u.2.2.1.1 u.2.2.1.2 66 JU y101.tools, ow u.2.2.2.1.1 u.2.2.2.1.2 107 zW y101.image, bx u.2.2.2.2.2 #[iv y101.p.Unit, sL u.1.1 y101.p.Tools u.1.2, sL u.2.1.1 y101.p.Steps u.2.1.2, sL u.2.2.1.1 y101.tools u.2.2.1.2, sL u.2.2.2.1.1 y101.image u.2.2.2.1.2, bV y101.clear, iv y101.tool, iv y101.place.X, iv y101.place.Y, bV y101.placed, iv y101.off, iv y101.on] 77]) rfl (zR rfl (zR rfl (zR rfl zk))) (fun _ => rfl) (wn rfl) rfl Tryz.call55 (zI rfl zS) (fun W hW hp hE => zJz N p0 zF zG (zP.zAS (hW.JH hp)) zM zL (QW.zAS (hW.JH hp)) y101 hy101 hE) ?_
 intro w u zW8 hu
 obtain ⟨⟨Jv, Ju⟩, ⟨zMW, zMC⟩, ⟨zMV, zMB⟩, ⟨zOa, zOM⟩, ⟨znf, zMA⟩⟩ := u
 obtain ⟨gy101_0, gy101_1, gy101_2, gy101_3, gy101_4⟩ := hu
 replace QW := QW.le zW8
 replace leB := leB.trans zW8
 have zHY : Sl w.O w.W zN Jv Ju y101.p.Tools := gy101_0 --@phi
 have zLu : Sl w.O w.W zH zMW zMC y101.p.Steps := gy101_1 --@phi
 have zbn : SlF zMV y101.tools.length zMB := gy101_2 --@phi
 have zmk : SlF zOa y101.image.length zOM := gy101_3 --@phi
 have zmj : True := gy101_4 --@phi
 dsimp only
 refine Tr.asg rfl rfl (Tr.nil (Tr.zA (Tr.sr (Tr.mv rfl rfl (Tr.mv rfl rfl (Tr.va rfl (fun _ _ a c => zB zC3 (a.ev rfl)) (Tr.va rfl (fun _ _ a c => zD zCn (a.ev rfl) (rdb c (vs := [iv p0.Unit, sL zF p0.Tools zG, sL zM p0.Steps zL]) (k := 1) rfl 2) rfl) (Tr.build (vs := []) (cs := [iv 0, iv 0]) (wn rfl) rfl Qf (by kernel_rfl) ?_))))))))
 obtain ⟨zm, zCi, H⟩ := bnd H
 refine Tr.VW [4, 3] [bx zMA #[iv y101.p.Unit, sL Jv y101.p.Tools Ju, sL zMW y101.p.Steps zMC, sL zMV y101.tools zMB, sL zOa y101.image zOM, bV y101.clear, iv y101.tool, iv y101.place.X, iv y101.place.Y, bV y101.placed, iv y101.off, iv y101.on] 77, ow zOa zOM 107 zW y101.image] (U := (Option Addr × Nat)) (fun u => (iv zm.1)) (fun O W u => SlF u.1 zm.2.2.2.2.2.2.2.2.length u.2) (fun u => [bx zMA #[iv y101.p.Unit, sL Jv y101.p.Tools Ju, sL zMW y101.p.Steps zMC, sL zMV y101.tools zMB, sL u.1 zm.2.2.2.2.2.2.2.2 u.2, bV zm.2.1, iv zm.2.2.1, iv zm.2.2.2.1, iv zm.2.2.2.2.1, bV zm.2.2.2.2.2.1, iv zm.2.2.2.2.2.2.1, iv zm.2.2.2.2.2.2.2.1] 77, ow u.1 u.2 107 zW zm.2.2.2.2.2.2.2.2]) rfl (zR rfl (zR rfl zk)) (fun _ => rfl) (wn rfl) rfl Tryz.call56 (zI rfl (zI rfl (zI rfl zS))) (fun W hW hp hE => zEK N y101 Jv Ju (zHY.rl.ext (hW.JH hp)) zMW zMC (zLu.rl.ext (hW.JH hp)) zMV zMB (hW.slS (k := 2) rfl hp rfl) zOa zOM zMA p0.Steps zM zL (QW.rl.ext (hW.JH hp)) (zJ.mk 0 0) zm zCi hE) ?_
 intro w u zKf hu
 obtain ⟨Kb, KZ⟩ := u
 have gy103_0 := hu
 replace zHY := zHY.le zKf
 replace zLu := zLu.le zKf
 replace leB := leB.trans zKf
 have zFD : SlF Kb zm.2.2.2.2.2.2.2.2.length KZ := gy103_0 --@phi
 dsimp only
 refine Tr.asg rfl rfl (Tr.asg rfl rfl (Tr.nil (Tr.zA (Tr.ret ?_))))
 obtain rfl := oI H
 exact Tr.out (m := [pV zMA, iv zm.1]) [] (zU rfl (zU rfl zT)) (fun W hW => ⟨w, ((Jv, Ju), (zMW, zMC), (zMV, zMB), (Kb, KZ), (none, zMA)), leB, rfl, ⟨zHY, zLu, zbn, zFD, trivial⟩, hW.pick (ks := [2, 3, 4]) (by decide) (zR rfl (zR rfl (zR rfl zk)))⟩)

theorem zMQ (N : Nat) {w : Bs} (p0 : QB) (zF : Option Addr) (zG : Nat) (zP : Sl w.O w.W zN zF zG p0.Tools) (zM : Option Addr) (zL : Nat) (QW : Sl w.O w.W zH zM zL p0.Steps) (r : ((List ze) × Int)) (H : zCu N p0 = some r) (hE : HF w w.W (LEn [emp])) : Calls Tryz.prog 28 [.agg #[iv p0.Unit, sL zF p0.Tools zG, sL zM p0.Steps zL]].toArray w.W fun e W' => ∃ (w' : Bs) (u : (Option Addr × Nat)), w.Le w' ∧ e = .returned (.tuple #[sL u.1 r.1 u.2, iv r.2]) ∧ (SlF u.1 r.1.length u.2) ∧ HF w' W' (LEn [ow u.1 u.2 107 zW r.1]) := by
 unfold zCu at H
 have leB := Bs.Le.refl w
 refine Tr.enter (n := 24) Tryz.func28 rfl rfl rfl hE (Tr.sr (Tr.box 1 (cs := [iv p0.Unit, sL zF p0.Tools zG, sL zM p0.Steps zL]) (wn rfl) rfl rfl rfl fun zt => (Tr.asg rfl rfl (Tr.JY 2 107 zW ?_))))
 show Tr _ _ (uf _ 2 (sL none (([] : List ze)) 0)) _ _
 refine Tr.asg rfl rfl (Tr.nil (Tr.zA (Tr.seq (Tr.sr (Tr.va rfl (fun _ _ a c => zX (cs := [iv p0.Unit, sL zF p0.Tools zG, sL zM p0.Steps zL]) zAJ VQ (a.ev rfl) (zO.take (rdb c (vs := [iv p0.Unit, sL zF p0.Tools zG, sL zM p0.Steps zL]) (k := 1) rfl 0) 3) rfl) ?_)))))
 obtain ⟨y101, hy101, H⟩ := bnd H
 refine Tr.Qs (r := (iv y101)) (wn rfl) rfl Tryz.call21 (zI rfl zS) (fun W hW => zAa N p0 zF zG (zP.rl.ext hW.Qd) zM zL (QW.rl.ext hW.Qd) y101 hy101 (HF.start _)) (Tr.asg rfl rfl (Tr.nil (Tr.zA (Tr.sr (Tr.mv rfl rfl (Tr.va rfl (fun _ _ a c => Jt (a.ev rfl) (a.ev rfl)) (Tr.nil (Tr.zA (Tr.cond rfl H (fun H => ?_) (fun H => ?_))))))))))
 ·refine Tr.sr (Tr.mv rfl rfl (Tr.asg rfl rfl (Tr.JY 3 107 zW ?_)))
  show Tr _ _ (uf _ 2 (sL none (([] : List ze)) 0)) _ _
  refine Tr.asg rfl rfl (Tr.nil (Tr.zA (Tr.ret (Tr.zg ?_))))
  obtain rfl := oI H
  exact Tr.out (m := [sL none (([] : List ze)) 0, iv y101]) [] (zU rfl (zU rfl zT)) (fun W hW => ⟨w, (none, 0), leB, rfl, VR, hW.pick (ks := [3]) (by decide) (zR rfl zk)⟩)
 ·refine Tr.skip (Tr.zA (Tr.sr (Tr.va rfl (fun _ _ a c => zX (cs := [iv p0.Unit, sL zF p0.Tools zG, sL zM p0.Steps zL]) zAJ VQ (a.ev rfl) (zO.take (rdb c (vs := [iv p0.Unit, sL zF p0.Tools zG, sL zM p0.Steps zL]) (k := 1) rfl 0) 3) rfl) ?_)))
  obtain ⟨y102, hy102, H⟩ := bnd H
  refine Tr.VW [4, 5, 6] [emp, emp, emp] (U := (Option Addr × Nat) × (Option Addr × Nat) × (Option Addr × Nat) × (Option Addr × Nat) × (Option Addr × Nat)) (fun u => (.tuple #[.pointer (some ⟨u.2.2.2.2.2, 0, none⟩), iv y102.2])) (fun O W u => Sl O W zN u.1.1 u.1.2 y102.1.p.Tools ∧ Sl O W zH u.2.1.1 u.2.1.2 y102.1.p.Steps ∧ SlF u.2.2.1.1 y102.1.tools.length u.2.2.1.2 ∧ SlF u.2.2.2.1.1 y102.1.image.length u.2.2.2.1.2 ∧ True) (fun u => [ow u.2.2.1.1 u.2.2.1.2 66 JU y102.1.tools, ow u.2.2.2.1.1 u.2.2.2.1.2 107 zW y102.1.image, bx u.2.2.2.2.2 #[iv y102.1.p.Unit, sL u.1.1 y102.1.p.Tools u.1.2, sL u.2.1.1 y102.1.p.Steps u.2.1.2, sL u.2.2.1.1 y102.1.tools u.2.2.1.2, sL u.2.2.2.1.1 y102.1.image u.2.2.2.1.2, bV y102.1.clear, iv y102.1.tool, iv y102.1.place.X, iv y102.1.place.Y, bV y102.1.placed, iv y102.1.off, iv y102.1.on] 77]) rfl (zR rfl (zR rfl (zR rfl zk))) (fun _ => rfl) (wn rfl) rfl Tryz.call32 (zI rfl zS) (fun W hW hp hE => zN6 N p0 zF zG (zP.zAS (hW.JH hp)) zM zL (QW.zAS (hW.JH hp)) y102 hy102 hE) ?_
  intro w u zaS hu
  obtain ⟨⟨zKT, zKR⟩, ⟨zYM, zXq⟩, ⟨zYL, zXp⟩, ⟨zOZ, zOL⟩, ⟨zne, znT⟩⟩ := u
  obtain ⟨gy102_0, gy102_1, gy102_2, gy102_3, gy102_4⟩ := hu
  replace leB := leB.trans zaS
  have zUA : Sl w.O w.W zN zKT zKR y102.1.p.Tools := gy102_0 --@phi
  have zmi : Sl w.O w.W zH zYM zXq y102.1.p.Steps := gy102_1 --@phi
  have zmh : SlF zYL y102.1.tools.length zXp := gy102_2 --@phi
  have zbm : SlF zOZ y102.1.image.length zOL := gy102_3 --@phi
  have zmg : True := gy102_4 --@phi
  dsimp only
  refine Tr.mv rfl rfl (Tr.va rfl (fun _ _ a c => JM (a.ev rfl) rfl) (Tr.va rfl (fun _ _ a c => JM (a.ev rfl) rfl) (Tr.asg rfl rfl (Tr.asg rfl rfl (Tr.nil (Tr.zA (Tr.seq (Tr.sr (Tr.mv rfl rfl (Tr.va rfl (fun _ _ a c => Jt (a.ev rfl) (a.ev rfl)) (Tr.nil (Tr.zA (Tr.cond rfl H (fun H => ?_) (fun H => ?_))))))))))))))
  ·refine Tr.sr (Tr.mv rfl rfl (Tr.asg rfl rfl (Tr.JY 7 107 zW ?_)))
   show Tr _ _ (uf _ 2 (sL none (([] : List ze)) 0)) _ _
   refine Tr.asg rfl rfl (Tr.nil (Tr.zA (Tr.ret (Tr.zg ?_))))
   obtain rfl := oI H
   exact Tr.out (m := [sL none (([] : List ze)) 0, iv y102.2]) [] (zU rfl (zU rfl zT)) (fun W hW => ⟨w, (none, 0), leB, rfl, VR, hW.pick (ks := [7]) (by decide) (zR rfl zk)⟩)
  ·refine Tr.skip (Tr.zA (Tr.sr (Tr.mv rfl rfl (Tr.va rfl (fun _ _ a c => QF (a.ev rfl)) (Tr.va rfl (fun _ _ a c => zB zKQ (a.ev rfl)) (Tr.va rfl (fun _ _ a c => zD zP2 (a.ev rfl) (rdb c (vs := [iv y102.1.p.Unit, sL zKT y102.1.p.Tools zKR, sL zYM y102.1.p.Steps zXq, sL zYL y102.1.tools zXp, sL zOZ y102.1.image zOL, bV y102.1.clear, iv y102.1.tool, iv y102.1.place.X, iv y102.1.place.Y, bV y102.1.placed, iv y102.1.off, iv y102.1.on]) (k := 6) rfl 4) rfl) (Tr.asg rfl rfl (Tr.asg rfl rfl (Tr.nil (Tr.zA (Tr.ret ?_)))))))))))
   obtain rfl := oI H
   exact Tr.out (m := [sL zOZ y102.1.image zOL, iv 0]) [] (zU rfl (zU rfl zT)) (fun W hW => ⟨w, (zOZ, zOL), leB, rfl, zbm, hW.pick (ks := [5]) (by decide) (zR rfl zk)⟩)

theorem zFY (N : Nat) {w : Bs} (p0 : QB) (zF : Option Addr) (zG : Nat) (zP : Sl w.O w.W zN zF zG p0.Tools) (zM : Option Addr) (zL : Nat) (QW : Sl w.O w.W zH zM zL p0.Steps) (r : ((List zQ) × Int)) (H : WU N p0 = some r) (hE : HF w w.W (LEn [emp])) : Calls Tryz.prog 10 [.agg #[iv p0.Unit, sL zF p0.Tools zG, sL zM p0.Steps zL]].toArray w.W fun e W' => ∃ u : (Option Addr × Nat), e = .returned (.tuple #[sL u.1 r.1 u.2, iv r.2]) ∧ (SlF u.1 r.1.length u.2) ∧ HF w W' (LEn [ow u.1 u.2 36 zY r.1]) := by
 unfold WU at H
 have leB := Bs.Le.refl w
 refine Tr.enter (n := 14) Tryz.func10 rfl rfl rfl hE (Tr.sr (Tr.box 1 (cs := [iv p0.Unit, sL zF p0.Tools zG, sL zM p0.Steps zL]) (wn rfl) rfl rfl rfl fun zt => (Tr.asg rfl rfl (Tr.JY 2 36 zY ?_))))
 show Tr _ _ (uf _ 2 (sL none (([] : List zQ)) 0)) _ _
 refine Tr.asg rfl rfl (Tr.nil (Tr.zA (Tr.sr (Tr.va rfl (fun _ _ a c => zX (cs := [iv p0.Unit, sL zF p0.Tools zG, sL zM p0.Steps zL]) zAJ VQ (a.ev rfl) (zO.take (rdb c (vs := [iv p0.Unit, sL zF p0.Tools zG, sL zM p0.Steps zL]) (k := 1) rfl 0) 3) rfl) ?_))))
 obtain ⟨y101, hy101, H⟩ := bnd H
 refine Tr.VW [3] [emp] (U := (Option Addr × Nat)) (fun u => (.tuple #[sL u.1 y101.1 u.2, iv y101.2])) (fun O W u => SlF u.1 y101.1.length u.2) (fun u => [ow u.1 u.2 107 zW y101.1]) rfl (zR rfl zk) (fun _ => rfl) (wn rfl) rfl Tryz.call28 (zI rfl zS) (fun W hW hp hE => zMQ N p0 zF zG (zP.zAS (hW.JH hp)) zM zL (QW.zAS (hW.JH hp)) y101 hy101 hE) ?_
 intro w u zW8 hu
 obtain ⟨Jv, Ju⟩ := u
 have gy101_0 := hu
 replace leB := leB.trans zW8
 have zHY : SlF Jv y101.1.length Ju := gy101_0 --@phi
 dsimp only
 refine Tr.mv rfl rfl (Tr.va rfl (fun _ _ a c => JM (a.ev rfl) rfl) (Tr.va rfl (fun _ _ a c => JM (a.ev rfl) rfl) (Tr.asg rfl rfl (Tr.asg rfl rfl (Tr.nil (Tr.zA (Tr.sr (Tr.mv rfl rfl ?_))))))))
 obtain ⟨zm, zCi, H⟩ := bnd H
 refine Tr.WB [4] [emp] (U := (Option Addr × Nat)) (fun u => (sL u.1 zm u.2)) (fun u => SlF u.1 zm.length u.2) (fun u => [ow u.1 u.2 36 zY zm]) rfl (zR rfl zk) (fun _ => rfl) (wn rfl) rfl Tryz.call29 (zI rfl zS) (fun W hW hp hE => zEX N y101.1 Jv Ju (hW.slS (k := 3) rfl hp rfl) zm zCi hE) ?_
 intro u hu
 obtain ⟨Kb, KZ⟩ := u
 have gy103_0 := hu
 have zFD : SlF Kb zm.length KZ := gy103_0 --@phi
 dsimp only
 refine Tr.mv rfl rfl (Tr.asg rfl rfl (Tr.asg rfl rfl (Tr.nil (Tr.zA (Tr.ret ?_)))))
 obtain rfl := oI H
 exact Tr.out (m := [sL Kb zm KZ, iv y101.2]) [] (zU rfl (zU rfl zT)) (fun W hW => ⟨(Kb, KZ), rfl, zFD, HF.zK1 leB (hW.pick (ks := [4]) (by decide) (zR rfl zk)) ⟨zGI _ _ _ _ zCd, trivial⟩⟩)

theorem zEF {w : Bs} (p0 : Int) (r : ByteArray) (H : zLm p0 = some r) (hE : HF w w.W E0) : Calls Tryz.prog 46 [iv p0].toArray w.W fun e W' => e = .returned (sv r) ∧ HF w W' E0 :=
 zVe (ρ := Tryz.zPN) Tryz.zgY H hE

end Go.Proofs.YtoageaoknnnfbaaGreatDoor
namespace Go.Proofs
open Go.Shelf
def Tryz.zNP : Go.Shelf.Ren := ⟨fun | 166 => 45 | 240 => 75 | 276 => 101 | n => n, fun | 5 => 5 | 37 => 93 | 70 => 92 | 72 => 95 | 75 => 97 | 80 => 104 | 164 => 157 | n => n, fun n => n⟩
theorem Tryz.zm7 : Go.Proofs.Lays.n166 Tryz.prog Tryz.zNP := {
 mixed := by kernel_rfl
 f166 := Tryz.func45.trans (congrArg some (by kernel_rfl))
 f240 := Tryz.func75.trans (congrArg some (by kernel_rfl))
 f276 := Tryz.func101.trans (congrArg some (by kernel_rfl))
 t0 := Tryz.underlying0
 a0 := Tryz.isAgg0
 z0 := Tryz.sizeOf0
 v0 := Tryz.zeroValue0
 t3 := Tryz.underlying3
 a3 := Tryz.isAgg3
 z3 := Tryz.sizeOf3
 v3 := Tryz.zeroValue3
 t4 := Tryz.underlying4
 a4 := Tryz.isAgg4
 z4 := Tryz.sizeOf4
 v4 := Tryz.zeroValue4
 t9 := Tryz.underlying9
 a9 := Tryz.isAgg9
 z9 := Tryz.sizeOf9
 v9 := Tryz.zeroValue9
 t20 := Tryz.underlying20
 a20 := Tryz.isAgg20
 z20 := Tryz.sizeOf20
 v20 := Tryz.zeroValue20
 t37 := Tryz.underlying93
 a37 := Tryz.isAgg93
 z37 := Tryz.sizeOf93
 v37 := Tryz.zeroValue93
 t70 := Tryz.underlying92
 a70 := Tryz.isAgg92
 z70 := Tryz.sizeOf92
 v70 := Tryz.zeroValue92
 t72 := Tryz.underlying95
 a72 := Tryz.isAgg95
 z72 := Tryz.sizeOf95
 v72 := Tryz.zeroValue95
 t75 := Tryz.underlying97
 a75 := Tryz.isAgg97
 z75 := Tryz.sizeOf97
 v75 := Tryz.zeroValue97
 t164 := Tryz.underlying157
 a164 := Tryz.isAgg157
 z164 := Tryz.sizeOf157
 v164 := Tryz.zeroValue157
}
end Go.Proofs
namespace Go.Proofs.YtoageaoknnnfbaaGreatDoor
open Go.RowKit
theorem zoV : Builder.Extra Tryz.prog Tryz.zNP where
 sizeBuilder := by kernel_rfl
 liesBuilder := by kernel_rfl
 t5 := Tryz.underlying5
 a5 := Tryz.isAgg5
 z5 := Tryz.sizeOf5
 v5 := Tryz.zeroValue5
 infoByte := by kernel_rfl
 cellsByte := by kernel_rfl
 sizeByte := by kernel_rfl
 neB5 := by decide
theorem QM {w : Bs} (p0 : ByteArray) (zF : Option Addr) (zG : Nat) (bp0 : Nat) (p1 : ByteArray) (r : ByteArray) (H : sbW p0 p1 = some r) (hE : HF w w.W (LEn [sb 95 5 bp0 zF zG p0])) : Calls Tryz.prog 45 [pV bp0, .string p1].toArray w.W fun e W' => ∃ u : (Option Addr × Nat), e = .returned (.tuple #[.int .i64 p1.size, .nilIface]) ∧ (True) ∧ HF w W' (LEn [sb 95 5 bp0 u.1 u.2 r]) :=
 zZp (ρ := Tryz.zNP) Tryz.zm7 zoV H hE

theorem zAm {w : Bs} (p0 : (List zJ)) (zF : Option Addr) (zG : Nat) (zP : Sl w.R w.W QD zF zG p0) (r : ByteArray) (H : zAh p0 = some r) (hE : HF w w.W E0) : Calls Tryz.prog 47 [sL zF p0 zG].toArray w.W fun e W' => e = .returned (sv r) ∧ HF w W' E0 := by
 unfold zAh at H
 have leB := Bs.Le.refl w
 refine Tr.enter (n := 25) Tryz.func47 rfl rfl rfl hE (Tr.sr (Tr.asg rfl rfl (Tr.nil (Tr.zA (Tr.sr (Tr.asg rfl rfl (Tr.nil (Tr.zA (Tr.seq (Tr.sr (Tr.mv rfl rfl (Tr.va rfl (fun _ _ a c => zy zEQ (a.ev rfl)) (Tr.mv rfl rfl (Tr.nil (Tr.zA (Tr.block (Tr.loop (σ := (List zJ) × Nat × ByteArray) (fun m w s => m = s.1.length + 1 ∧ s.1 = List.drop s.2.1 p0 ∧ s.2.1 ≤ p0.length ∧ zAn s.1 s.2.1 s.2.2 = some r) (fun s => [(3, sv s.2.2), (6, sL zF p0 zG), (7, iv (p0.length : Int)), (8, iv (s.2.1 : Int))]) (fun s => []) (p0.length + 1) (p0, 0, ByteArray.empty) ⟨rfl, rfl, Nat.zero_le _, H⟩ (.cons rfl (.cons rfl (.cons rfl (.cons rfl .nil)))) .nil (fun _ _ h => absurd h.1 (by simp)) ?_)))))))))))))))))
 intro w Qe m s hs
 obtain ⟨zV, iL1, zGd⟩ := s
 obtain ⟨KS, QG, hiL1, H⟩ := hs
 replace QG : zV = List.drop iL1 p0 := QG
 replace H : zAn zV iL1 zGd = some r := H
 replace KS : m + 1 = zV.length + 1 := KS
 replace zP := zP.leR Qe
 replace leB := leB.trans Qe
 obtain rfl : m = zV.length := by omega
 clear KS
 dsimp only
 cases zV with
 | nil =>
  rw [zAn.eq_1] at H
  refine Tr.sr (Tr.va rfl (fun _ _ a c => QE (a.ev rfl) (a.ev rfl)) (Tr.nil (Tr.zA (Tr.seq (Tr.WY rfl (JB QG) (Tr.exit (Tr.zi (Tr.zi (Tr.QL (Tr.zA (Tr.sr (Tr.mv rfl rfl (Tr.asg rfl rfl (Tr.nil (Tr.zA (Tr.ret ?_))))))))))))))))
  obtain rfl := oI H
  exact Tr.out (m := [sv zGd]) [] (zU rfl zT) (fun W hW => ⟨rfl, hW.low leB⟩)
 | cons xL1 zV =>
  rw [zAn.eq_2] at H
  refine Tr.sr (Tr.va rfl (fun _ _ a c => QE (a.ev rfl) (a.ev rfl)) (Tr.nil (Tr.zA (Tr.seq (Tr.WX rfl (JX QG) (Tr.skip (Tr.zA (Tr.seq (Tr.block (Tr.sr (Tr.va rfl (fun _ _ a c => zK zGN (a.ev rfl) zP.form (a.ev rfl) (Int.natCast_nonneg _) (QC QG)) (Tr.va rfl (fun _ _ a c => zX (cs := [iv xL1.X, iv xL1.Y]) KT JL (a.ev rfl) (zO.take (rdF zAj zP (Js QG) c) 2) rfl) (Tr.alloc 3 (wn rfl) rfl zJJ fun zo8 => (Tr.store 3 (cs := [iv xL1.X, iv xL1.Y]) [iv xL1.X, iv xL1.Y] (wn rfl) rfl rfl rfl rfl JL rfl rfl rfl (Tr.nil (Tr.zA (Tr.draw (by kernel_rfl) (by kernel_rfl) (Tq.mv rfl rfl (Tq.va rfl (fun _ _ a c => zB Kq (a.ev rfl)) (Tq.va rfl (fun _ _ a c => zD QH (a.ev rfl) (rdb c (vs := [iv xL1.X, iv xL1.Y]) (k := 3) rfl 0) rfl) ?_))))))))))))))))))))
  obtain ⟨zRj, zar, H⟩ := bnd H
  refine Tq.Qs (r := (sv zRj)) (wn rfl) rfl Tryz.call46 (zI rfl zS) (fun W hW => zEF xL1.X zRj zar (HF.start _)) ?_
  obtain ⟨zjr, ht125, H⟩ := bnd H
  refine Tq.va rfl (fun _ _ a c => WP (a.ev rfl) (a.ev rfl) ht125) ?_
  obtain ⟨zjq, ht126, H⟩ := bnd H
  refine Tq.va rfl (fun _ _ a c => WP (a.ev rfl) (a.ev rfl) ht126) (Tq.va rfl (fun _ _ a c => zB KY (a.ev rfl)) (Tq.va rfl (fun _ _ a c => zD QH (a.ev rfl) (rdb c (vs := [iv xL1.X, iv xL1.Y]) (k := 3) rfl 1) rfl) ?_))
  obtain ⟨zKq, zaq, H⟩ := bnd H
  refine Tq.Qs (r := (sv zKq)) (wn rfl) rfl Tryz.call46 (zI rfl zS) (fun W hW => zEF xL1.Y zKq zaq (HF.start _)) ?_
  obtain ⟨zjo, ht128, H⟩ := bnd H
  refine Tq.va rfl (fun _ _ a c => WP (a.ev rfl) (a.ev rfl) ht128) ?_
  obtain ⟨zfz, ht129, H⟩ := bnd H
  exact Tq.va rfl (fun _ _ a c => WP (a.ev rfl) (a.ev rfl) ht129) (Tq.asg rfl rfl (Tq.nil (Tr.zh (Tr.zA (Tr.region (Tr.va rfl (fun _ _ a c => QA (a.ev rfl) (a.ev rfl)) (Tr.mv rfl rfl (Tr.nil (Tr.zf Qe (zV, (iL1 + 1), zfz) ⟨rfl, Ql QG, QC QG, H⟩ (.cons rfl (.cons rfl (.cons rfl (.cons (congrArg (fun z => some (Value.int .i64 z)) (Qk QG zP.form)) .nil)))) .nil)))))))))

end Go.Proofs.YtoageaoknnnfbaaGreatDoor
