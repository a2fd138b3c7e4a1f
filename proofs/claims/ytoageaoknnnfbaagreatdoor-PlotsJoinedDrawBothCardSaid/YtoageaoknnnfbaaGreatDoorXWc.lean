/- The walks: each function computes its plain function. -/
import Derived.Test.YtoageaoknnnfbaaGreatDoorXWb
namespace Go.Proofs.YtoageaoknnnfbaaGreatDoor
open Go.RowKit
set_option maxRecDepth 100000
set_option maxHeartbeats 1000000
theorem zBU {w : Bs} (p0 : QQ) (zC : Option Addr) (zD : Nat) (zU : Sl w.R w.W zP zC zD p0.p.Tools) (zO : Option Addr) (zN : Nat) (Qe : Sl w.R w.W zH zO zN p0.p.Steps) (QA : Option Addr) (QC : Nat) (Ka : Sl w.R w.W Qy QA QC p0.tools) (QO : Option Addr) (QN : Nat) (zdP : Sl w.R w.W zL QO QN p0.image) (bp0 : Nat) (p1 : zJ) (r : (Int × Int × Int × Bool × Int)) (H : KP p0 p1 = some r) (hE : HF w w.W (LEn [bx bp0 #[iv p0.p.Unit, sL zC p0.p.Tools zD, sL zO p0.p.Steps zN, sL QA p0.tools QC, sL QO p0.image QN, bV p0.clear, iv p0.tool, iv p0.place.X, iv p0.place.Y, bV p0.placed, iv p0.off, iv p0.on] 77])) : Calls Tryz.prog 104 [pV bp0, .agg #[iv p1.X, iv p1.Y], .pointer (some ⟨bp0, 10, none⟩)].toArray w.W fun e W' => ∃ u : Unit, e = .returned (iv r.1) ∧ (True) ∧ HF w W' (LEn [bx bp0 #[iv p0.p.Unit, sL zC p0.p.Tools zD, sL zO p0.p.Steps zN, sL QA p0.tools QC, sL QO p0.image QN, bV p0.clear, iv p0.tool, iv r.2.1, iv r.2.2.1, bV r.2.2.2.1, iv r.2.2.2.2, iv p0.on] 77]) := by
 unfold KP at H
 have leB := Bs.Le.refl w
 refine Tr.enter (n := 32) Tryz.func104 rfl rfl rfl hE ?_
 refine Tr.sr (Tr.box 1 (cs := [iv p1.X, iv p1.Y]) (wn rfl) rfl rfl rfl fun QE => ?_)
 refine Tr.asg rfl rfl (Tr.nil (Tr.zA (Tr.seq (Tr.sr (Tr.va rfl (fun _ _ a c => zZ (cs := [iv p1.X, iv p1.Y]) VP Js (a.ev rfl) (zR.take (rdb c (vs := [iv p1.X, iv p1.Y]) (k := 1) rfl 0) 2) rfl) ?_)))))
 obtain ⟨y101, hy101, H⟩ := bnd H
 refine Tr.JI (r := (bV y101)) (wn rfl) rfl Tryz.call123 (zI rfl zT) (fun W hW => zDJ p1 y101 hy101 (HF.start _)) ?_
 refine Tr.va rfl (fun _ _ a c => Km (a.ev rfl)) ?_
 refine Tr.nil (Tr.zA (Tr.cond rfl H (fun H => ?_) (fun H => ?_)))
 ·refine Tr.sr (Tr.asg rfl rfl (Tr.nil (Tr.zA (Tr.ret (Tr.zi ?_)))))
  obtain rfl := oI H
  exact Tr.out (m := [iv 1]) [] (zW rfl zX) (fun W hW => ⟨(), rfl, trivial, HF.zFO leB (hW.pick (ks := [0]) (by decide) (zQ rfl zf)) ⟨zKw _ _ _, trivial⟩⟩)
 ·refine Tr.skip (Tr.zA ?_)
  have leJ104 := Bs.Le.refl w
  refine Tr.zMx (σ := Int) (fun w s => Jr p1 s = some r) (fun s => [(0, pV bp0), (4, pV QE)]) (fun s => [(0, bx bp0 #[iv p0.p.Unit, sL zC p0.p.Tools zD, sL zO p0.p.Steps zN, sL QA p0.tools QC, sL QO p0.image QN, bV p0.clear, iv p0.tool, iv p0.place.X, iv p0.place.Y, bV p0.placed, iv s, iv p0.on] 77), (1, bx QE #[iv p1.X, iv p1.Y] 43)]) ?_ ?_
  ·refine Tr.sr (Tr.mv rfl rfl (Tr.va rfl (fun _ _ a c => zt (a.ev rfl)) ?_))
   refine Tr.va rfl (fun _ _ a c => zB zLc (a.ev rfl)) ?_
   refine Tr.va rfl (fun _ _ a c => zF zM3 (a.ev rfl) (rdb c (vs := [iv p0.p.Unit, sL zC p0.p.Tools zD, sL zO p0.p.Steps zN, sL QA p0.tools QC, sL QO p0.image QN, bV p0.clear, iv p0.tool, iv p0.place.X, iv p0.place.Y, bV p0.placed, iv p0.off, iv p0.on]) (k := 0) rfl 9) rfl) ?_
   refine Tr.nil (Tr.zA (Tr.cond rfl H (fun H => ?_) (fun H => ?_)))
   ·refine Tr.zCv 9 (by kernel_rfl) (by kernel_rfl) ?_
    refine Tq.mv rfl rfl (Tq.va rfl (fun _ _ a c => zt (a.ev rfl)) ?_)
    refine Tq.va rfl (fun _ _ a c => zF QH (a.ev rfl) (rdb c (vs := [iv p0.p.Unit, sL zC p0.p.Tools zD, sL zO p0.p.Steps zN, sL QA p0.tools QC, sL QO p0.image QN, bV p0.clear, iv p0.tool, iv p0.place.X, iv p0.place.Y, bV p0.placed, iv p0.off, iv p0.on]) (k := 0) rfl 10) rfl) ?_
    refine Tq.mv rfl rfl (Tq.va rfl (fun _ _ a c => zt (a.ev rfl)) ?_)
    refine Tq.va rfl (fun _ _ a c => zB zHt (a.ev rfl)) ?_
    refine Tq.va rfl (fun _ _ a c => zZ (cs := [iv p0.place.X, iv p0.place.Y]) VP Js (a.ev rfl) (zR.take (rdb c (vs := [iv p0.p.Unit, sL zC p0.p.Tools zD, sL zO p0.p.Steps zN, sL QA p0.tools QC, sL QO p0.image QN, bV p0.clear, iv p0.tool, iv p0.place.X, iv p0.place.Y, bV p0.placed, iv p0.off, iv p0.on]) (k := 0) rfl 7) 2) rfl) ?_
    refine Tq.va rfl (fun _ _ a c => zZ (cs := [iv p1.X, iv p1.Y]) VP Js (a.ev rfl) (zR.take (rdb c (vs := [iv p1.X, iv p1.Y]) (k := 1) rfl 0) 2) rfl) ?_
    obtain ⟨QZ, zI8, H⟩ := bnd H
    refine Tq.JI (r := (iv QZ)) (wn rfl) rfl Tryz.call124 (zI rfl (zI rfl zT)) (fun W hW => zKe p0.place p1 QZ zI8 (HF.start _)) ?_
    refine Tq.nil (Tr.va rfl (fun _ _ a c => QK (a.ev rfl) (a.ev rfl)) ?_)
    refine Tr.va rfl (fun _ _ a c => zt (a.ev rfl)) ?_
    refine Tr.store 0 (cs := [iv (w64 (p0.off + QZ))]) [iv p0.p.Unit, sL zC p0.p.Tools zD, sL zO p0.p.Steps zN, sL QA p0.tools QC, sL QO p0.image QN, bV p0.clear, iv p0.tool, iv p0.place.X, iv p0.place.Y, bV p0.placed, iv (w64 (p0.off + QZ)), iv p0.on] (wn rfl) rfl rfl rfl rfl zKQ rfl rfl rfl ?_
    exact Tr.nil (Tr.zn leJ104 (w64 (p0.off + QZ)) H (.cons rfl (.cons rfl .nil)) (.cons rfl (.cons rfl .nil)))
   ·exact Tr.skip (Tr.zn leJ104 p0.off H (.cons rfl (.cons rfl .nil)) (.cons rfl (.cons rfl .nil)))
  ·intro w x103 hlJ105 hs
   have H := hs
   replace H : Jr p1 x103 = some r := H
   replace leB := leB.trans hlJ105
   unfold Jr at H
   show Tr _ _ (LF [(0, pV bp0), (4, pV QE)]) (LE [(0, bx bp0 #[iv p0.p.Unit, sL zC p0.p.Tools zD, sL zO p0.p.Steps zN, sL QA p0.tools QC, sL QO p0.image QN, bV p0.clear, iv p0.tool, iv p0.place.X, iv p0.place.Y, bV p0.placed, iv x103, iv p0.on] 77), (1, bx QE #[iv p1.X, iv p1.Y] 43)]) _
   refine Tr.sr (Tr.mv rfl rfl (Tr.mv rfl rfl (Tr.va rfl (fun _ _ a c => zZ (cs := [iv p1.X, iv p1.Y]) VP Js (a.ev rfl) (zR.take (rdb c (vs := [iv p1.X, iv p1.Y]) (k := 1) rfl 0) 2) rfl) ?_)))
   refine Tr.va rfl (fun _ _ a c => zt (a.ev rfl)) ?_
   refine Tr.va rfl (fun _ _ a c => zB zHt (a.ev rfl)) ?_
   refine Tr.store 0 (cs := [iv p1.X, iv p1.Y]) [iv p0.p.Unit, sL zC p0.p.Tools zD, sL zO p0.p.Steps zN, sL QA p0.tools QC, sL QO p0.image QN, bV p0.clear, iv p0.tool, iv p1.X, iv p1.Y, bV p0.placed, iv x103, iv p0.on] (wn rfl) rfl rfl rfl rfl Js rfl rfl rfl ?_
   refine Tr.va rfl (fun _ _ a c => zt (a.ev rfl)) ?_
   refine Tr.va rfl (fun _ _ a c => zB zLc (a.ev rfl)) ?_
   refine Tr.store 0 (cs := [bV true]) [iv p0.p.Unit, sL zC p0.p.Tools zD, sL zO p0.p.Steps zN, sL QA p0.tools QC, sL QO p0.image QN, bV p0.clear, iv p0.tool, iv p1.X, iv p1.Y, bV true, iv x103, iv p0.on] (wn rfl) rfl rfl rfl rfl zYm rfl rfl rfl ?_
   refine Tr.nil (Tr.zA (Tr.sr (Tr.asg rfl rfl (Tr.nil (Tr.zA (Tr.ret ?_))))))
   obtain rfl := oI H
   exact Tr.out (m := [iv 0]) [] (zW rfl zX) (fun W hW => ⟨(), rfl, trivial, HF.zFO leB (hW.pick (ks := [0]) (by decide) (zQ rfl zf)) ⟨zKw _ _ _, trivial⟩⟩)

theorem zG5 (N : Nat) {w : Bs} (p0 : QQ) (zC : Option Addr) (zD : Nat) (zU : Sl w.R w.W zP zC zD p0.p.Tools) (zO : Option Addr) (zN : Nat) (Qe : Sl w.R w.W zH zO zN p0.p.Steps) (QA : Option Addr) (QC : Nat) (Ka : Sl w.R w.W Qy QA QC p0.tools) (QO : Option Addr) (QN : Nat) (bp0 : Nat) (p1 : zJ) (r : (Int × Int × Int × Bool × Int × (List ze))) (H : Vw N p0 p1 = some r) (hE : HF w w.W (LEn [bx bp0 #[iv p0.p.Unit, sL zC p0.p.Tools zD, sL zO p0.p.Steps zN, sL QA p0.tools QC, sL QO p0.image QN, bV p0.clear, iv p0.tool, iv p0.place.X, iv p0.place.Y, bV p0.placed, iv p0.off, iv p0.on] 77, ow QO QN 107 zL p0.image])) : Calls Tryz.prog 105 [pV bp0, .agg #[iv p1.X, iv p1.Y]].toArray w.W fun e W' => ∃ (w' : Bs) (u : (Option Addr × Nat)), w.Le w' ∧ e = .returned (iv r.1) ∧ (SlF u.1 r.2.2.2.2.2.length u.2) ∧ HF w' W' (LEn [bx bp0 #[iv p0.p.Unit, sL zC p0.p.Tools zD, sL zO p0.p.Steps zN, sL QA p0.tools QC, sL u.1 r.2.2.2.2.2 u.2, bV p0.clear, iv p0.tool, iv r.2.1, iv r.2.2.1, bV r.2.2.2.1, iv r.2.2.2.2.1, iv p0.on] 77, ow u.1 u.2 107 zL r.2.2.2.2.2]) := by
 unfold Vw at H
 have Wz := (hE.sl (k := 1) rfl).form
 have leB := Bs.Le.refl w
 refine Tr.enter (n := 35) Tryz.func105 rfl rfl rfl hE ?_
 refine Tr.sr (Tr.box 2 (cs := [iv p1.X, iv p1.Y]) (wn rfl) rfl rfl rfl fun QE => ?_)
 refine Tr.asg rfl rfl (Tr.nil (Tr.zA (Tr.seq (Tr.sr (Tr.mv rfl rfl (Tr.va rfl (fun _ _ a c => zt (a.ev rfl)) ?_))))))
 refine Tr.va rfl (fun _ _ a c => zB zLd (a.ev rfl)) ?_
 refine Tr.va rfl (fun _ _ a c => zF QH (a.ev rfl) (rdb c (vs := [iv p0.p.Unit, sL zC p0.p.Tools zD, sL zO p0.p.Steps zN, sL QA p0.tools QC, sL QO p0.image QN, bV p0.clear, iv p0.tool, iv p0.place.X, iv p0.place.Y, bV p0.placed, iv p0.off, iv p0.on]) (k := 0) rfl 6) rfl) ?_
 refine Tr.va rfl (fun _ _ a c => QI (a.ev rfl) (a.ev rfl)) ?_
 refine Tr.nil (Tr.zA (Tr.cond rfl H (fun H => ?_) (fun H => ?_)))
 ·refine Tr.sr (Tr.asg rfl rfl (Tr.nil (Tr.zA (Tr.ret (Tr.zi ?_)))))
  obtain rfl := oI H
  exact Tr.out (m := [iv 11]) [] (zW rfl zX) (fun W hW => ⟨w, (QO, QN), leB, rfl, Wz, hW.pick (ks := [0, 1]) (by decide) (zQ rfl (zQ rfl zf))⟩)
 ·refine Tr.skip (Tr.zA (Tr.seq (Tr.seq (Tr.zCv 5 (by kernel_rfl) (by kernel_rfl) ?_))))
  refine Tq.mv rfl rfl (Tq.va rfl (fun _ _ a c => zZ (cs := [iv p1.X, iv p1.Y]) VP Js (a.ev rfl) (zR.take (rdb c (vs := [iv p1.X, iv p1.Y]) (k := 2) rfl 0) 2) rfl) ?_)
  refine Tq.mv rfl rfl (Tq.va rfl (fun _ _ a c => zt (a.ev rfl)) ?_)
  refine Tq.va rfl (fun _ _ a c => zB zWl (a.ev rfl)) ?_
  refine Tq.nil ?_
  obtain ⟨y101, hy101, H⟩ := bnd H
  refine Tr.VM [0] [bx bp0 #[iv p0.p.Unit, sL zC p0.p.Tools zD, sL zO p0.p.Steps zN, sL QA p0.tools QC, sL QO p0.image QN, bV p0.clear, iv p0.tool, iv p0.place.X, iv p0.place.Y, bV p0.placed, iv p0.off, iv p0.on] 77] (U := Unit) (fun u => (iv y101.1)) (fun u => True) (fun u => [bx bp0 #[iv p0.p.Unit, sL zC p0.p.Tools zD, sL zO p0.p.Steps zN, sL QA p0.tools QC, sL QO p0.image QN, bV p0.clear, iv p0.tool, iv y101.2.1, iv y101.2.2.1, bV y101.2.2.2.1, iv y101.2.2.2.2, iv p0.on] 77]) rfl (zQ rfl zf) (fun _ => rfl) (wn rfl) rfl Tryz.call104 (zI rfl (zI rfl (zI rfl zT))) (fun W hW hp hE => zBU p0 zC zD (zU.ext (hW.QM hp)) zO zN (Qe.ext (hW.QM hp)) QA QC (Ka.ext (hW.QM hp)) QO QN (hW.slS (k := 1) rfl hp rfl) bp0 p1 y101 hy101 hE) ?_
  intro u hu
  show Tr _ _ (uf _ 16 (iv y101.1)) (up _ 0 (bx bp0 #[iv p0.p.Unit, sL zC p0.p.Tools zD, sL zO p0.p.Steps zN, sL QA p0.tools QC, sL QO p0.image QN, bV p0.clear, iv p0.tool, iv y101.2.1, iv y101.2.2.1, bV y101.2.2.2.1, iv y101.2.2.2.2, iv p0.on] 77)) _
  refine Tr.asg rfl rfl (Tr.nil (Tr.zA (Tr.sr (Tr.mv rfl rfl (Tr.va rfl (fun _ _ a c => KY (a.ev rfl) (a.ev rfl)) ?_)))))
  refine Tr.nil (Tr.zA (Tr.cond rfl H (fun H => ?_) (fun H => ?_)))
  ·refine Tr.sr (Tr.mv rfl rfl (Tr.asg rfl rfl (Tr.nil (Tr.zA (Tr.ret (Tr.zi ?_))))))
   obtain rfl := oI H
   exact Tr.out (m := [iv y101.1]) [] (zW rfl zX) (fun W hW => ⟨w, (QO, QN), leB, rfl, Wz, hW.pick (ks := [0, 1]) (by decide) (zQ rfl (zQ rfl zf))⟩)
  ·refine Tr.skip (Tr.zA (Tr.seq (Tr.zHS 14 [] [] (by kernel_rfl) (by kernel_rfl) fun zm6 zkG zle => ?_)))
   refine Dr.quiet 0 [(20, pV bp0)] (by kernel_rfl) rfl rfl (by kernel_rfl) ?_ rfl rfl ?_
   ·exact Tq.mv rfl rfl (Tq.fin (.cons rfl .nil))
   refine Dr.quiet 1 [(21, pV bp0)] (by kernel_rfl) rfl rfl (by kernel_rfl) ?_ rfl rfl ?_
   ·exact Tq.mv rfl rfl (Tq.fin (.cons rfl .nil))
   refine Dr.quiet 2 [(22, pV bp0)] (by kernel_rfl) rfl rfl (by kernel_rfl) ?_ rfl rfl ?_
   ·refine Tq.va rfl (fun _ _ a c => zt (a.ev rfl)) ?_
    exact Tq.fin (.cons rfl .nil)
   refine Dr.quiet 3 [(23, .pointer (some ⟨bp0, 3, none⟩))] (by kernel_rfl) rfl rfl (by kernel_rfl) ?_ rfl rfl ?_
   ·refine Tq.va rfl (fun _ _ a c => zB zNt (a.ev rfl)) ?_
    exact Tq.fin (.cons rfl .nil)
   refine Dr.quiet 4 [(24, sL QA p0.tools QC)] (by kernel_rfl) rfl rfl (by kernel_rfl) ?_ rfl rfl ?_
   ·refine Tq.va rfl (fun _ _ a c => zF zbD (a.ev rfl) (rdb c (vs := [iv p0.p.Unit, sL zC p0.p.Tools zD, sL zO p0.p.Steps zN, sL QA p0.tools QC, sL QO p0.image QN, bV p0.clear, iv p0.tool, iv y101.2.1, iv y101.2.2.1, bV y101.2.2.2.1, iv y101.2.2.2.2, iv p0.on]) (k := 0) rfl 3) rfl) ?_
    exact Tq.fin (.cons rfl .nil)
   refine Dr.quiet 5 [(25, pV bp0)] (by kernel_rfl) rfl rfl (by kernel_rfl) ?_ rfl rfl ?_
   ·exact Tq.mv rfl rfl (Tq.fin (.cons rfl .nil))
   refine Dr.quiet 6 [(26, pV bp0)] (by kernel_rfl) rfl rfl (by kernel_rfl) ?_ rfl rfl ?_
   ·refine Tq.va rfl (fun _ _ a c => zt (a.ev rfl)) ?_
    exact Tq.fin (.cons rfl .nil)
   refine Dr.quiet 7 [(27, .pointer (some ⟨bp0, 6, none⟩))] (by kernel_rfl) rfl rfl (by kernel_rfl) ?_ rfl rfl ?_
   ·refine Tq.va rfl (fun _ _ a c => zB zLd (a.ev rfl)) ?_
    exact Tq.fin (.cons rfl .nil)
   refine Dr.quiet 8 [(28, iv p0.tool)] (by kernel_rfl) rfl rfl (by kernel_rfl) ?_ rfl rfl ?_
   ·refine Tq.va rfl (fun _ _ a c => zF QH (a.ev rfl) (rdb c (vs := [iv p0.p.Unit, sL zC p0.p.Tools zD, sL zO p0.p.Steps zN, sL QA p0.tools QC, sL QO p0.image QN, bV p0.clear, iv p0.tool, iv y101.2.1, iv y101.2.2.1, bV y101.2.2.2.1, iv y101.2.2.2.2, iv p0.on]) (k := 0) rfl 6) rfl) ?_
    exact Tq.fin (.cons rfl .nil)
   obtain ⟨x104, hx104, H⟩ := bnd H
   obtain ⟨zPa, zPZ, zPY⟩ := zz hx104
   obtain ⟨u105, hRu105, zSA, hcu105⟩ := (Ka).el zPY
   obtain ⟨zOW, zOB⟩ := u105
   have zJy := zSA
   refine Dr.quiet 9 [(29, .pointer (some ⟨adB QA, adO QA + (p0.tool).toNat * 1, none⟩))] (by kernel_rfl) rfl rfl (by kernel_rfl) ?_ rfl rfl ?_
   ·replace zJy : Sl w.R w.W zL zOW zOB x104 := zJy
    refine Tq.va rfl (fun _ _ a c => zM zal (a.ev rfl) Ka.form (a.ev rfl) zPa zPZ) ?_
    exact Tq.fin (.cons rfl .nil)
   refine Dr.quiet 10 [(30, sL zOW x104 zOB)] (by kernel_rfl) rfl rfl (by kernel_rfl) ?_ rfl rfl ?_
   ·refine Tq.va rfl (fun _ _ a c => zF zP4 (a.ev rfl) (rdR hRu105 hcu105 c) rfl) ?_
    exact Tq.fin (.cons rfl .nil)
   refine Dr.quiet 11 [(31, .agg #[iv p1.X, iv p1.Y])] (by kernel_rfl) rfl rfl (by kernel_rfl) ?_ rfl rfl ?_
   ·refine Tq.va rfl (fun _ _ a c => zZ (cs := [iv p1.X, iv p1.Y]) VP Js (a.ev rfl) (zR.take (rdb c (vs := [iv p1.X, iv p1.Y]) (k := 2) rfl 0) 2) rfl) ?_
    exact Tq.fin (.cons rfl .nil)
   refine Dr.quiet 12 [(32, .agg #[iv p1.X, iv p1.Y])] (by kernel_rfl) rfl rfl (by kernel_rfl) ?_ rfl rfl ?_
   ·refine Tq.va rfl (fun _ _ a c => zZ (cs := [iv p1.X, iv p1.Y]) VP Js (a.ev rfl) (zR.take (rdb c (vs := [iv p1.X, iv p1.Y]) (k := 2) rfl 0) 2) rfl) ?_
    exact Tq.fin (.cons rfl .nil)
   obtain ⟨QZ, zI8, H⟩ := bnd H
   refine Dr.one 13 (by kernel_rfl) ?_
   refine St.VT 13 [3] [emp] (U := (Option Addr × Nat)) (fun u => (sL u.1 QZ u.2)) (fun O W u => SlF u.1 QZ.length u.2) (fun u => [ow u.1 u.2 107 zL QZ]) rfl (zQ rfl zf) (fun _ => rfl) (zNr rfl) rfl (wn rfl) rfl Tryz.call126 (zI rfl (zI rfl (zI rfl zT))) (fun W hW hp hE => zIX N x104 zOW zOB (zJy.ext (hW.QM hp)) p1 p1 QZ zI8 hE) ?_
   intro w u zIQ hu zmo
   obtain ⟨JE, JD⟩ := u
   have gy106_0 := hu
   replace zU := zU.leR zIQ
   replace Qe := Qe.leR zIQ
   replace Ka := Ka.leR zIQ
   replace hRu105 := zIQ.r _ hRu105
   replace leB := leB.trans zIQ
   have zJC : SlF JE QZ.length JD := gy106_0
   show Dr _ _ _ _ _ _ _ _ _ (uf _ 33 (sL JE QZ JD)) (up _ 3 (ow JE JD 107 zL QZ))
   refine Dr.tail (by kernel_rfl) ?_
   refine Tr.freeze 3 rfl fun w zNL zPO => ?_
   replace zU := zU.leR zNL
   replace Qe := Qe.leR zNL
   replace Ka := Ka.leR zNL
   replace hRu105 := zNL.r _ hRu105
   replace leB := leB.trans zNL
   obtain ⟨zAc, zI7, H⟩ := bnd H
   refine Tr.VT [0, 1] [bx bp0 #[iv p0.p.Unit, sL zC p0.p.Tools zD, sL zO p0.p.Steps zN, sL QA p0.tools QC, sL QO p0.image QN, bV p0.clear, iv p0.tool, iv y101.2.1, iv y101.2.2.1, bV y101.2.2.2.1, iv y101.2.2.2.2, iv p0.on] 77, ow QO QN 107 zL p0.image] (U := (Option Addr × Nat)) (fun u => (iv zAc.1)) (fun O W u => SlF u.1 zAc.2.length u.2) (fun u => [bx bp0 #[iv p0.p.Unit, sL zC p0.p.Tools zD, sL zO p0.p.Steps zN, sL QA p0.tools QC, sL u.1 zAc.2 u.2, bV p0.clear, iv p0.tool, iv y101.2.1, iv y101.2.2.1, bV y101.2.2.2.1, iv y101.2.2.2.2, iv p0.on] 77, ow u.1 u.2 107 zL zAc.2]) rfl (zQ rfl (zQ rfl zf)) (fun _ => rfl) (wn rfl) rfl Tryz.call125 (zI rfl (zI rfl zT)) (fun W hW hp hE => zBK N (QQ.mk p0.p p0.tools p0.image p0.clear p0.tool (zJ.mk y101.2.1 y101.2.2.1) y101.2.2.2.1 y101.2.2.2.2 p0.on) zC zD (zU.ext (hW.QM hp)) zO zN (Qe.ext (hW.QM hp)) QA QC (Ka.ext (hW.QM hp)) QO QN bp0 QZ JE JD (zPO.zAK (hW.QM hp)) zAc zI7 hE) ?_
   intro w u zPD hu
   obtain ⟨zFe, zFU⟩ := u
   have gy110_0 := hu
   replace hRu105 := zPD.r _ hRu105
   replace zPO := zPO.le zPD
   replace leB := leB.trans zPD
   have zUD : SlF zFe zAc.2.length zFU := gy110_0 --@phi
   show Tr _ _ (uf _ 34 (iv zAc.1)) (up (up _ 1 (ow zFe zFU 107 zL zAc.2)) 0 (bx bp0 #[iv p0.p.Unit, sL zC p0.p.Tools zD, sL zO p0.p.Steps zN, sL QA p0.tools QC, sL zFe zAc.2 zFU, bV p0.clear, iv p0.tool, iv y101.2.1, iv y101.2.2.1, bV y101.2.2.2.1, iv y101.2.2.2.2, iv p0.on] 77)) _
   refine Tr.asg rfl rfl (Tr.nil (Tr.zA (Tr.ret ?_)))
   obtain rfl := oI H
   exact Tr.out (m := [iv zAc.1]) [] (zW rfl zX) (fun W hW => ⟨w, (zFe, zFU), leB, rfl, zUD, hW.pick (ks := [0, 1]) (by decide) (zQ rfl (zQ rfl zf))⟩)

theorem zEs {w : Bs} (p0 : QQ) (zC : Option Addr) (zD : Nat) (zU : Sl w.R w.W zP zC zD p0.p.Tools) (zO : Option Addr) (zN : Nat) (Qe : Sl w.R w.W zH zO zN p0.p.Steps) (QA : Option Addr) (QC : Nat) (Ka : Sl w.R w.W Qy QA QC p0.tools) (QO : Option Addr) (QN : Nat) (zdP : Sl w.R w.W zL QO QN p0.image) (bp0 : Nat) (p1 : zJ) (r : (Int × Int × Int × Bool × Int)) (H : Kv p0 p1 = some r) (hE : HF w w.W (LEn [bx bp0 #[iv p0.p.Unit, sL zC p0.p.Tools zD, sL zO p0.p.Steps zN, sL QA p0.tools QC, sL QO p0.image QN, bV p0.clear, iv p0.tool, iv p0.place.X, iv p0.place.Y, bV p0.placed, iv p0.off, iv p0.on] 77])) : Calls Tryz.prog 104 [pV bp0, .agg #[iv p1.X, iv p1.Y], .pointer (some ⟨bp0, 11, none⟩)].toArray w.W fun e W' => ∃ u : Unit, e = .returned (iv r.1) ∧ (True) ∧ HF w W' (LEn [bx bp0 #[iv p0.p.Unit, sL zC p0.p.Tools zD, sL zO p0.p.Steps zN, sL QA p0.tools QC, sL QO p0.image QN, bV p0.clear, iv p0.tool, iv r.2.1, iv r.2.2.1, bV r.2.2.2.1, iv p0.off, iv r.2.2.2.2] 77]) := by
 unfold Kv at H
 have leB := Bs.Le.refl w
 refine Tr.enter (n := 32) Tryz.func104 rfl rfl rfl hE ?_
 refine Tr.sr (Tr.box 1 (cs := [iv p1.X, iv p1.Y]) (wn rfl) rfl rfl rfl fun QE => ?_)
 refine Tr.asg rfl rfl (Tr.nil (Tr.zA (Tr.seq (Tr.sr (Tr.va rfl (fun _ _ a c => zZ (cs := [iv p1.X, iv p1.Y]) VP Js (a.ev rfl) (zR.take (rdb c (vs := [iv p1.X, iv p1.Y]) (k := 1) rfl 0) 2) rfl) ?_)))))
 obtain ⟨y101, hy101, H⟩ := bnd H
 refine Tr.JI (r := (bV y101)) (wn rfl) rfl Tryz.call123 (zI rfl zT) (fun W hW => zDJ p1 y101 hy101 (HF.start _)) ?_
 refine Tr.va rfl (fun _ _ a c => Km (a.ev rfl)) ?_
 refine Tr.nil (Tr.zA (Tr.cond rfl H (fun H => ?_) (fun H => ?_)))
 ·refine Tr.sr (Tr.asg rfl rfl (Tr.nil (Tr.zA (Tr.ret (Tr.zi ?_)))))
  obtain rfl := oI H
  exact Tr.out (m := [iv 1]) [] (zW rfl zX) (fun W hW => ⟨(), rfl, trivial, HF.zFO leB (hW.pick (ks := [0]) (by decide) (zQ rfl zf)) ⟨zKw _ _ _, trivial⟩⟩)
 ·refine Tr.skip (Tr.zA ?_)
  have leJ104 := Bs.Le.refl w
  refine Tr.zMx (σ := Int) (fun w s => Jq p1 s = some r) (fun s => [(0, pV bp0), (4, pV QE)]) (fun s => [(0, bx bp0 #[iv p0.p.Unit, sL zC p0.p.Tools zD, sL zO p0.p.Steps zN, sL QA p0.tools QC, sL QO p0.image QN, bV p0.clear, iv p0.tool, iv p0.place.X, iv p0.place.Y, bV p0.placed, iv p0.off, iv s] 77), (1, bx QE #[iv p1.X, iv p1.Y] 43)]) ?_ ?_
  ·refine Tr.sr (Tr.mv rfl rfl (Tr.va rfl (fun _ _ a c => zt (a.ev rfl)) ?_))
   refine Tr.va rfl (fun _ _ a c => zB zLc (a.ev rfl)) ?_
   refine Tr.va rfl (fun _ _ a c => zF zM3 (a.ev rfl) (rdb c (vs := [iv p0.p.Unit, sL zC p0.p.Tools zD, sL zO p0.p.Steps zN, sL QA p0.tools QC, sL QO p0.image QN, bV p0.clear, iv p0.tool, iv p0.place.X, iv p0.place.Y, bV p0.placed, iv p0.off, iv p0.on]) (k := 0) rfl 9) rfl) ?_
   refine Tr.nil (Tr.zA (Tr.cond rfl H (fun H => ?_) (fun H => ?_)))
   ·refine Tr.zCv 9 (by kernel_rfl) (by kernel_rfl) ?_
    refine Tq.mv rfl rfl (Tq.va rfl (fun _ _ a c => zt (a.ev rfl)) ?_)
    refine Tq.va rfl (fun _ _ a c => zF QH (a.ev rfl) (rdb c (vs := [iv p0.p.Unit, sL zC p0.p.Tools zD, sL zO p0.p.Steps zN, sL QA p0.tools QC, sL QO p0.image QN, bV p0.clear, iv p0.tool, iv p0.place.X, iv p0.place.Y, bV p0.placed, iv p0.off, iv p0.on]) (k := 0) rfl 11) rfl) ?_
    refine Tq.mv rfl rfl (Tq.va rfl (fun _ _ a c => zt (a.ev rfl)) ?_)
    refine Tq.va rfl (fun _ _ a c => zB zHt (a.ev rfl)) ?_
    refine Tq.va rfl (fun _ _ a c => zZ (cs := [iv p0.place.X, iv p0.place.Y]) VP Js (a.ev rfl) (zR.take (rdb c (vs := [iv p0.p.Unit, sL zC p0.p.Tools zD, sL zO p0.p.Steps zN, sL QA p0.tools QC, sL QO p0.image QN, bV p0.clear, iv p0.tool, iv p0.place.X, iv p0.place.Y, bV p0.placed, iv p0.off, iv p0.on]) (k := 0) rfl 7) 2) rfl) ?_
    refine Tq.va rfl (fun _ _ a c => zZ (cs := [iv p1.X, iv p1.Y]) VP Js (a.ev rfl) (zR.take (rdb c (vs := [iv p1.X, iv p1.Y]) (k := 1) rfl 0) 2) rfl) ?_
    obtain ⟨QZ, zI8, H⟩ := bnd H
    refine Tq.JI (r := (iv QZ)) (wn rfl) rfl Tryz.call124 (zI rfl (zI rfl zT)) (fun W hW => zKe p0.place p1 QZ zI8 (HF.start _)) ?_
    refine Tq.nil (Tr.va rfl (fun _ _ a c => QK (a.ev rfl) (a.ev rfl)) ?_)
    refine Tr.va rfl (fun _ _ a c => zt (a.ev rfl)) ?_
    refine Tr.store 0 (cs := [iv (w64 (p0.on + QZ))]) [iv p0.p.Unit, sL zC p0.p.Tools zD, sL zO p0.p.Steps zN, sL QA p0.tools QC, sL QO p0.image QN, bV p0.clear, iv p0.tool, iv p0.place.X, iv p0.place.Y, bV p0.placed, iv p0.off, iv (w64 (p0.on + QZ))] (wn rfl) rfl rfl rfl rfl zKQ rfl rfl rfl ?_
    exact Tr.nil (Tr.zn leJ104 (w64 (p0.on + QZ)) H (.cons rfl (.cons rfl .nil)) (.cons rfl (.cons rfl .nil)))
   ·exact Tr.skip (Tr.zn leJ104 p0.on H (.cons rfl (.cons rfl .nil)) (.cons rfl (.cons rfl .nil)))
  ·intro w x103 hlJ105 hs
   have H := hs
   replace H : Jq p1 x103 = some r := H
   replace leB := leB.trans hlJ105
   unfold Jq at H
   show Tr _ _ (LF [(0, pV bp0), (4, pV QE)]) (LE [(0, bx bp0 #[iv p0.p.Unit, sL zC p0.p.Tools zD, sL zO p0.p.Steps zN, sL QA p0.tools QC, sL QO p0.image QN, bV p0.clear, iv p0.tool, iv p0.place.X, iv p0.place.Y, bV p0.placed, iv p0.off, iv x103] 77), (1, bx QE #[iv p1.X, iv p1.Y] 43)]) _
   refine Tr.sr (Tr.mv rfl rfl (Tr.mv rfl rfl (Tr.va rfl (fun _ _ a c => zZ (cs := [iv p1.X, iv p1.Y]) VP Js (a.ev rfl) (zR.take (rdb c (vs := [iv p1.X, iv p1.Y]) (k := 1) rfl 0) 2) rfl) ?_)))
   refine Tr.va rfl (fun _ _ a c => zt (a.ev rfl)) ?_
   refine Tr.va rfl (fun _ _ a c => zB zHt (a.ev rfl)) ?_
   refine Tr.store 0 (cs := [iv p1.X, iv p1.Y]) [iv p0.p.Unit, sL zC p0.p.Tools zD, sL zO p0.p.Steps zN, sL QA p0.tools QC, sL QO p0.image QN, bV p0.clear, iv p0.tool, iv p1.X, iv p1.Y, bV p0.placed, iv p0.off, iv x103] (wn rfl) rfl rfl rfl rfl Js rfl rfl rfl ?_
   refine Tr.va rfl (fun _ _ a c => zt (a.ev rfl)) ?_
   refine Tr.va rfl (fun _ _ a c => zB zLc (a.ev rfl)) ?_
   refine Tr.store 0 (cs := [bV true]) [iv p0.p.Unit, sL zC p0.p.Tools zD, sL zO p0.p.Steps zN, sL QA p0.tools QC, sL QO p0.image QN, bV p0.clear, iv p0.tool, iv p1.X, iv p1.Y, bV true, iv p0.off, iv x103] (wn rfl) rfl rfl rfl rfl zYm rfl rfl rfl ?_
   refine Tr.nil (Tr.zA (Tr.sr (Tr.asg rfl rfl (Tr.nil (Tr.zA (Tr.ret ?_))))))
   obtain rfl := oI H
   exact Tr.out (m := [iv 0]) [] (zW rfl zX) (fun W hW => ⟨(), rfl, trivial, HF.zFO leB (hW.pick (ks := [0]) (by decide) (zQ rfl zf)) ⟨zKw _ _ _, trivial⟩⟩)

theorem zHa (N : Nat) {w : Bs} (p0 : QQ) (zC : Option Addr) (zD : Nat) (zU : Sl w.R w.W zP zC zD p0.p.Tools) (zO : Option Addr) (zN : Nat) (Qe : Sl w.R w.W zH zO zN p0.p.Steps) (QA : Option Addr) (QC : Nat) (Ka : Sl w.R w.W Qy QA QC p0.tools) (QO : Option Addr) (QN : Nat) (bp0 : Nat) (p1 : zJ) (r : (Int × Int × Int × Bool × Int × (List ze))) (H : WN N p0 p1 = some r) (hE : HF w w.W (LEn [bx bp0 #[iv p0.p.Unit, sL zC p0.p.Tools zD, sL zO p0.p.Steps zN, sL QA p0.tools QC, sL QO p0.image QN, bV p0.clear, iv p0.tool, iv p0.place.X, iv p0.place.Y, bV p0.placed, iv p0.off, iv p0.on] 77, ow QO QN 107 zL p0.image])) : Calls Tryz.prog 106 [pV bp0, .agg #[iv p1.X, iv p1.Y]].toArray w.W fun e W' => ∃ (w' : Bs) (u : (Option Addr × Nat)), w.Le w' ∧ e = .returned (iv r.1) ∧ (SlF u.1 r.2.2.2.2.2.length u.2) ∧ HF w' W' (LEn [bx bp0 #[iv p0.p.Unit, sL zC p0.p.Tools zD, sL zO p0.p.Steps zN, sL QA p0.tools QC, sL u.1 r.2.2.2.2.2 u.2, bV p0.clear, iv p0.tool, iv r.2.1, iv r.2.2.1, bV r.2.2.2.1, iv p0.off, iv r.2.2.2.2.1] 77, ow u.1 u.2 107 zL r.2.2.2.2.2]) := by
 unfold WN at H
 have Wz := (hE.sl (k := 1) rfl).form
 have leB := Bs.Le.refl w
 refine Tr.enter (n := 65) Tryz.func106 rfl rfl rfl hE ?_
 refine Tr.sr (Tr.box 2 (cs := [iv p1.X, iv p1.Y]) (wn rfl) rfl rfl rfl fun QE => ?_)
 refine Tr.asg rfl rfl (Tr.nil (Tr.zA (Tr.seq (Tr.sr (Tr.mv rfl rfl (Tr.va rfl (fun _ _ a c => zt (a.ev rfl)) ?_))))))
 refine Tr.va rfl (fun _ _ a c => zB zLd (a.ev rfl)) ?_
 refine Tr.va rfl (fun _ _ a c => zF QH (a.ev rfl) (rdb c (vs := [iv p0.p.Unit, sL zC p0.p.Tools zD, sL zO p0.p.Steps zN, sL QA p0.tools QC, sL QO p0.image QN, bV p0.clear, iv p0.tool, iv p0.place.X, iv p0.place.Y, bV p0.placed, iv p0.off, iv p0.on]) (k := 0) rfl 6) rfl) ?_
 refine Tr.va rfl (fun _ _ a c => QI (a.ev rfl) (a.ev rfl)) ?_
 refine Tr.mv rfl rfl (Tr.Vr 6 [(0, pV bp0), (3, pV QE), (18, bV ((decide (p0.tool < 0)) || (!p0.placed)))] [(0, bx bp0 #[iv p0.p.Unit, sL zC p0.p.Tools zD, sL zO p0.p.Steps zN, sL QA p0.tools QC, sL QO p0.image QN, bV p0.clear, iv p0.tool, iv p0.place.X, iv p0.place.Y, bV p0.placed, iv p0.off, iv p0.on] 77), (1, ow QO QN 107 zL p0.image), (2, bx QE #[iv p1.X, iv p1.Y] 43)] ?_ ?_)
 ·cases zkz : (decide (p0.tool < 0))
  ·refine Tr.val (wg rfl rfl rfl) rfl (fun _ _ a c => run_move (a.ev rfl)) ?_
   refine Tr.val (wg rfl rfl rfl) rfl (fun _ _ a c => zt (a.ev rfl)) ?_
   refine Tr.val (wg rfl rfl rfl) rfl (fun _ _ a c => zB zLc (a.ev rfl)) ?_
   refine Tr.val (wg rfl rfl rfl) rfl (fun _ _ a c => zF zM3 (a.ev rfl) (rdb c (vs := [iv p0.p.Unit, sL zC p0.p.Tools zD, sL zO p0.p.Steps zN, sL QA p0.tools QC, sL QO p0.image QN, bV p0.clear, iv p0.tool, iv p0.place.X, iv p0.place.Y, bV p0.placed, iv p0.off, iv p0.on]) (k := 0) rfl 9) rfl) ?_
   refine Tr.val (wg rfl rfl rfl) rfl (fun _ _ a c => Km (a.ev rfl)) ?_
   refine Tr.va rfl (fun _ _ a c => zx (a.ev rfl) (a.ev rfl)) ?_
   exact Tr.nil (Tr.JM (.cons rfl (.cons rfl (.cons rfl .nil))) (.cons rfl (.cons rfl (.cons rfl .nil))))
  ·refine Tr.pass rfl rfl rfl rfl rfl (by decide) ?_
   refine Tr.pass rfl rfl rfl rfl rfl (by decide) ?_
   refine Tr.pass rfl rfl rfl rfl rfl (by decide) ?_
   refine Tr.pass rfl rfl rfl rfl rfl (by decide) ?_
   refine Tr.pass rfl rfl rfl rfl rfl (by decide) ?_
   refine Tr.va rfl (fun _ _ a c => zw (a.ev rfl) (a.ev rfl)) ?_
   exact Tr.nil (Tr.JM (.cons rfl (.cons rfl (.cons rfl .nil))) (.cons rfl (.cons rfl (.cons rfl .nil))))
 ·show Tr _ _ (LF [(0, pV bp0), (3, pV QE), (18, bV ((decide (p0.tool < 0)) || (!p0.placed)))]) (LE [(0, bx bp0 #[iv p0.p.Unit, sL zC p0.p.Tools zD, sL zO p0.p.Steps zN, sL QA p0.tools QC, sL QO p0.image QN, bV p0.clear, iv p0.tool, iv p0.place.X, iv p0.place.Y, bV p0.placed, iv p0.off, iv p0.on] 77), (1, ow QO QN 107 zL p0.image), (2, bx QE #[iv p1.X, iv p1.Y] 43)]) _
  refine Tr.nil (Tr.zA (Tr.cond rfl H (fun H => ?_) (fun H => ?_)))
  ·refine Tr.sr (Tr.asg rfl rfl (Tr.nil (Tr.zA (Tr.ret (Tr.zi ?_)))))
   obtain rfl := oI H
   exact Tr.out (m := [iv 11]) [] (zW rfl zX) (fun W hW => ⟨w, (QO, QN), leB, rfl, Wz, hW.pick (ks := [0, 1]) (by decide) (zQ rfl (zQ rfl zf))⟩)
  ·refine Tr.skip (Tr.zA (Tr.seq (Tr.seq (Tr.draw (by kernel_rfl) (by kernel_rfl) ?_))))
   refine Tq.va rfl (fun _ _ a c => zB Vm (a.ev rfl)) ?_
   refine Tq.va rfl (fun _ _ a c => zF QH (a.ev rfl) (rdb c (vs := [iv p1.X, iv p1.Y]) (k := 2) rfl 0) rfl) ?_
   refine Tq.mv rfl rfl (Tq.va rfl (fun _ _ a c => zt (a.ev rfl)) ?_)
   refine Tq.va rfl (fun _ _ a c => zB zHt (a.ev rfl)) ?_
   refine Tq.va rfl (fun _ _ a c => zB Vm (a.ev rfl)) ?_
   refine Tq.va rfl (fun _ _ a c => zF QH (a.ev rfl) (rdb c (vs := [iv p0.p.Unit, sL zC p0.p.Tools zD, sL zO p0.p.Steps zN, sL QA p0.tools QC, sL QO p0.image QN, bV p0.clear, iv p0.tool, iv p0.place.X, iv p0.place.Y, bV p0.placed, iv p0.off, iv p0.on]) (k := 0) rfl 7) rfl) ?_
   refine Tq.va rfl (fun _ _ a c => KY (a.ev rfl) (a.ev rfl)) ?_
   refine Tq.mv rfl rfl (Tq.mid 9 [(0, pV bp0), (3, pV QE), (36, bV ((p1.X != p0.place.X) && (p1.Y != p0.place.Y)))] ?_ ?_)
   ·cases zkz : (p1.X != p0.place.X)
    ·refine Tq.pass rfl rfl rfl rfl rfl (by decide) ?_
     refine Tq.pass rfl rfl rfl rfl rfl (by decide) ?_
     refine Tq.pass rfl rfl rfl rfl rfl (by decide) ?_
     refine Tq.pass rfl rfl rfl rfl rfl (by decide) ?_
     refine Tq.pass rfl rfl rfl rfl rfl (by decide) ?_
     refine Tq.pass rfl rfl rfl rfl rfl (by decide) ?_
     refine Tq.pass rfl rfl rfl rfl rfl (by decide) ?_
     refine Tq.pass rfl rfl rfl rfl rfl (by decide) ?_
     refine Tq.va rfl (fun _ _ a c => zx (a.ev rfl) (a.ev rfl)) ?_
     exact Tq.fin (.cons rfl (.cons rfl (.cons rfl .nil)))
    ·refine Tq.val (wg rfl rfl rfl) rfl (fun _ _ a c => zB VZ (a.ev rfl)) ?_
     refine Tq.val (wg rfl rfl rfl) rfl (fun _ _ a c => zF QH (a.ev rfl) (rdb c (vs := [iv p1.X, iv p1.Y]) (k := 2) rfl 1) rfl) ?_
     refine Tq.val (wg rfl rfl rfl) rfl (fun _ _ a c => run_move (a.ev rfl)) ?_
     refine Tq.val (wg rfl rfl rfl) rfl (fun _ _ a c => zt (a.ev rfl)) ?_
     refine Tq.val (wg rfl rfl rfl) rfl (fun _ _ a c => zB zHt (a.ev rfl)) ?_
     refine Tq.val (wg rfl rfl rfl) rfl (fun _ _ a c => zB VZ (a.ev rfl)) ?_
     refine Tq.val (wg rfl rfl rfl) rfl (fun _ _ a c => zF QH (a.ev rfl) (rdb c (vs := [iv p0.p.Unit, sL zC p0.p.Tools zD, sL zO p0.p.Steps zN, sL QA p0.tools QC, sL QO p0.image QN, bV p0.clear, iv p0.tool, iv p0.place.X, iv p0.place.Y, bV p0.placed, iv p0.off, iv p0.on]) (k := 0) rfl 8) rfl) ?_
     refine Tq.val (wg rfl rfl rfl) rfl (fun _ _ a c => KY (a.ev rfl) (a.ev rfl)) ?_
     refine Tq.va rfl (fun _ _ a c => zw (a.ev rfl) (a.ev rfl)) ?_
     exact Tq.fin (.cons rfl (.cons rfl (.cons rfl .nil)))
   ·refine Tq.nil (Tr.zA (Tr.cond rfl H (fun H => ?_) (fun H => ?_)))
    ·refine Tr.sr (Tr.asg rfl rfl (Tr.nil (Tr.zA (Tr.ret (Tr.zi ?_)))))
     obtain rfl := oI H
     exact Tr.out (m := [iv 3]) [] (zW rfl zX) (fun W hW => ⟨w, (QO, QN), leB, rfl, Wz, hW.pick (ks := [0, 1]) (by decide) (zQ rfl (zQ rfl zf))⟩)
    ·refine Tr.skip (Tr.zA (Tr.sr (Tr.mv rfl rfl (Tr.va rfl (fun _ _ a c => zt (a.ev rfl)) ?_))))
     refine Tr.va rfl (fun _ _ a c => zB zHt (a.ev rfl)) ?_
     refine Tr.va rfl (fun _ _ a c => zZ (cs := [iv p0.place.X, iv p0.place.Y]) VP Js (a.ev rfl) (zR.take (rdb c (vs := [iv p0.p.Unit, sL zC p0.p.Tools zD, sL zO p0.p.Steps zN, sL QA p0.tools QC, sL QO p0.image QN, bV p0.clear, iv p0.tool, iv p0.place.X, iv p0.place.Y, bV p0.placed, iv p0.off, iv p0.on]) (k := 0) rfl 7) 2) rfl) ?_
     refine Tr.alloc 3 (wn rfl) rfl zIo fun Qw => ?_
     refine Tr.store 3 (cs := [iv p0.place.X, iv p0.place.Y]) [iv p0.place.X, iv p0.place.Y] (wn rfl) rfl rfl rfl rfl Js rfl rfl rfl ?_
     refine Tr.nil (Tr.zA (Tr.seq (Tr.seq (Tr.zCv 5 (by kernel_rfl) (by kernel_rfl) ?_))))
     refine Tq.mv rfl rfl (Tq.va rfl (fun _ _ a c => zZ (cs := [iv p1.X, iv p1.Y]) VP Js (a.ev rfl) (zR.take (rdb c (vs := [iv p1.X, iv p1.Y]) (k := 2) rfl 0) 2) rfl) ?_)
     refine Tq.mv rfl rfl (Tq.va rfl (fun _ _ a c => zt (a.ev rfl)) ?_)
     refine Tq.va rfl (fun _ _ a c => zB zcg (a.ev rfl)) ?_
     refine Tq.nil ?_
     obtain ⟨y102, hy102, H⟩ := bnd H
     refine Tr.VM [0] [bx bp0 #[iv p0.p.Unit, sL zC p0.p.Tools zD, sL zO p0.p.Steps zN, sL QA p0.tools QC, sL QO p0.image QN, bV p0.clear, iv p0.tool, iv p0.place.X, iv p0.place.Y, bV p0.placed, iv p0.off, iv p0.on] 77] (U := Unit) (fun u => (iv y102.1)) (fun u => True) (fun u => [bx bp0 #[iv p0.p.Unit, sL zC p0.p.Tools zD, sL zO p0.p.Steps zN, sL QA p0.tools QC, sL QO p0.image QN, bV p0.clear, iv p0.tool, iv y102.2.1, iv y102.2.2.1, bV y102.2.2.2.1, iv p0.off, iv y102.2.2.2.2] 77]) rfl (zQ rfl zf) (fun _ => rfl) (wn rfl) rfl Tryz.call104 (zI rfl (zI rfl (zI rfl zT))) (fun W hW hp hE => zEs p0 zC zD (zU.ext (hW.QM hp)) zO zN (Qe.ext (hW.QM hp)) QA QC (Ka.ext (hW.QM hp)) QO QN (hW.slS (k := 1) rfl hp rfl) bp0 p1 y102 hy102 hE) ?_
     intro u hu
     show Tr _ _ (uf _ 46 (iv y102.1)) (up _ 0 (bx bp0 #[iv p0.p.Unit, sL zC p0.p.Tools zD, sL zO p0.p.Steps zN, sL QA p0.tools QC, sL QO p0.image QN, bV p0.clear, iv p0.tool, iv y102.2.1, iv y102.2.2.1, bV y102.2.2.2.1, iv p0.off, iv y102.2.2.2.2] 77)) _
     refine Tr.asg rfl rfl (Tr.nil (Tr.zA (Tr.sr (Tr.mv rfl rfl (Tr.va rfl (fun _ _ a c => KY (a.ev rfl) (a.ev rfl)) ?_)))))
     refine Tr.nil (Tr.zA (Tr.cond rfl H (fun H => ?_) (fun H => ?_)))
     ·refine Tr.sr (Tr.mv rfl rfl (Tr.asg rfl rfl (Tr.nil (Tr.zA (Tr.ret (Tr.zi ?_))))))
      obtain rfl := oI H
      exact Tr.out (m := [iv y102.1]) [] (zW rfl zX) (fun W hW => ⟨w, (QO, QN), leB, rfl, Wz, hW.pick (ks := [0, 1]) (by decide) (zQ rfl (zQ rfl zf))⟩)
     ·refine Tr.skip (Tr.zA (Tr.seq (Tr.zHS 14 [] [] (by kernel_rfl) (by kernel_rfl) fun zm5 zkF zld => ?_)))
      refine Dr.quiet 0 [(50, pV bp0)] (by kernel_rfl) rfl rfl (by kernel_rfl) ?_ rfl rfl ?_
      ·exact Tq.mv rfl rfl (Tq.fin (.cons rfl .nil))
      refine Dr.quiet 1 [(51, pV bp0)] (by kernel_rfl) rfl rfl (by kernel_rfl) ?_ rfl rfl ?_
      ·exact Tq.mv rfl rfl (Tq.fin (.cons rfl .nil))
      refine Dr.quiet 2 [(52, pV bp0)] (by kernel_rfl) rfl rfl (by kernel_rfl) ?_ rfl rfl ?_
      ·refine Tq.va rfl (fun _ _ a c => zt (a.ev rfl)) ?_
       exact Tq.fin (.cons rfl .nil)
      refine Dr.quiet 3 [(53, .pointer (some ⟨bp0, 3, none⟩))] (by kernel_rfl) rfl rfl (by kernel_rfl) ?_ rfl rfl ?_
      ·refine Tq.va rfl (fun _ _ a c => zB zNt (a.ev rfl)) ?_
       exact Tq.fin (.cons rfl .nil)
      refine Dr.quiet 4 [(54, sL QA p0.tools QC)] (by kernel_rfl) rfl rfl (by kernel_rfl) ?_ rfl rfl ?_
      ·refine Tq.va rfl (fun _ _ a c => zF zbD (a.ev rfl) (rdb c (vs := [iv p0.p.Unit, sL zC p0.p.Tools zD, sL zO p0.p.Steps zN, sL QA p0.tools QC, sL QO p0.image QN, bV p0.clear, iv p0.tool, iv y102.2.1, iv y102.2.2.1, bV y102.2.2.2.1, iv p0.off, iv y102.2.2.2.2]) (k := 0) rfl 3) rfl) ?_
       exact Tq.fin (.cons rfl .nil)
      refine Dr.quiet 5 [(55, pV bp0)] (by kernel_rfl) rfl rfl (by kernel_rfl) ?_ rfl rfl ?_
      ·exact Tq.mv rfl rfl (Tq.fin (.cons rfl .nil))
      refine Dr.quiet 6 [(56, pV bp0)] (by kernel_rfl) rfl rfl (by kernel_rfl) ?_ rfl rfl ?_
      ·refine Tq.va rfl (fun _ _ a c => zt (a.ev rfl)) ?_
       exact Tq.fin (.cons rfl .nil)
      refine Dr.quiet 7 [(57, .pointer (some ⟨bp0, 6, none⟩))] (by kernel_rfl) rfl rfl (by kernel_rfl) ?_ rfl rfl ?_
      ·refine Tq.va rfl (fun _ _ a c => zB zLd (a.ev rfl)) ?_
       exact Tq.fin (.cons rfl .nil)
      refine Dr.quiet 8 [(58, iv p0.tool)] (by kernel_rfl) rfl rfl (by kernel_rfl) ?_ rfl rfl ?_
      ·refine Tq.va rfl (fun _ _ a c => zF QH (a.ev rfl) (rdb c (vs := [iv p0.p.Unit, sL zC p0.p.Tools zD, sL zO p0.p.Steps zN, sL QA p0.tools QC, sL QO p0.image QN, bV p0.clear, iv p0.tool, iv y102.2.1, iv y102.2.2.1, bV y102.2.2.2.1, iv p0.off, iv y102.2.2.2.2]) (k := 0) rfl 6) rfl) ?_
       exact Tq.fin (.cons rfl .nil)
      obtain ⟨x105, zZs, H⟩ := bnd H
      obtain ⟨zVk, zVj, zVi⟩ := zz zZs
      obtain ⟨zdt, hRu106, zR9, hcu106⟩ := (Ka).el zVi
      obtain ⟨zOV, zOA⟩ := zdt
      have zJx := zR9
      refine Dr.quiet 9 [(59, .pointer (some ⟨adB QA, adO QA + (p0.tool).toNat * 1, none⟩))] (by kernel_rfl) rfl rfl (by kernel_rfl) ?_ rfl rfl ?_
      ·replace zJx : Sl w.R w.W zL zOV zOA x105 := zJx
       refine Tq.va rfl (fun _ _ a c => zM zal (a.ev rfl) Ka.form (a.ev rfl) zVk zVj) ?_
       exact Tq.fin (.cons rfl .nil)
      refine Dr.quiet 10 [(60, sL zOV x105 zOA)] (by kernel_rfl) rfl rfl (by kernel_rfl) ?_ rfl rfl ?_
      ·refine Tq.va rfl (fun _ _ a c => zF zP4 (a.ev rfl) (rdR hRu106 hcu106 c) rfl) ?_
       exact Tq.fin (.cons rfl .nil)
      refine Dr.quiet 11 [(61, .agg #[iv p0.place.X, iv p0.place.Y])] (by kernel_rfl) rfl rfl (by kernel_rfl) ?_ rfl rfl ?_
      ·refine Tq.va rfl (fun _ _ a c => zZ (cs := [iv p0.place.X, iv p0.place.Y]) VP Js (a.ev rfl) (zR.take (rdb c (vs := [iv p0.place.X, iv p0.place.Y]) (k := 3) rfl 0) 2) rfl) ?_
       exact Tq.fin (.cons rfl .nil)
      refine Dr.quiet 12 [(62, .agg #[iv p1.X, iv p1.Y])] (by kernel_rfl) rfl rfl (by kernel_rfl) ?_ rfl rfl ?_
      ·refine Tq.va rfl (fun _ _ a c => zZ (cs := [iv p1.X, iv p1.Y]) VP Js (a.ev rfl) (zR.take (rdb c (vs := [iv p1.X, iv p1.Y]) (k := 2) rfl 0) 2) rfl) ?_
       exact Tq.fin (.cons rfl .nil)
      obtain ⟨zDB, zTz, H⟩ := bnd H
      refine Dr.one 13 (by kernel_rfl) ?_
      refine St.VT 13 [4] [emp] (U := (Option Addr × Nat)) (fun u => (sL u.1 zDB u.2)) (fun O W u => SlF u.1 zDB.length u.2) (fun u => [ow u.1 u.2 107 zL zDB]) rfl (zQ rfl zf) (fun _ => rfl) (zNr rfl) rfl (wn rfl) rfl Tryz.call126 (zI rfl (zI rfl (zI rfl zT))) (fun W hW hp hE => zIX N x105 zOV zOA (zJx.ext (hW.QM hp)) p0.place p1 zDB zTz hE) ?_
      intro w u zTi hu zgk
      obtain ⟨zOP, zN5⟩ := u
      have gy107_0 := hu
      replace zU := zU.leR zTi
      replace Qe := Qe.leR zTi
      replace Ka := Ka.leR zTi
      replace hRu106 := zTi.r _ hRu106
      replace leB := leB.trans zTi
      have zkt : SlF zOP zDB.length zN5 := gy107_0
      show Dr _ _ _ _ _ _ _ _ _ (uf _ 63 (sL zOP zDB zN5)) (up _ 4 (ow zOP zN5 107 zL zDB))
      refine Dr.tail (by kernel_rfl) ?_
      refine Tr.freeze 4 rfl fun w zTh zZc => ?_
      replace zU := zU.leR zTh
      replace Qe := Qe.leR zTh
      replace Ka := Ka.leR zTh
      replace hRu106 := zTh.r _ hRu106
      replace leB := leB.trans zTh
      obtain ⟨zFK, zTy, H⟩ := bnd H
      refine Tr.VT [0, 1] [bx bp0 #[iv p0.p.Unit, sL zC p0.p.Tools zD, sL zO p0.p.Steps zN, sL QA p0.tools QC, sL QO p0.image QN, bV p0.clear, iv p0.tool, iv y102.2.1, iv y102.2.2.1, bV y102.2.2.2.1, iv p0.off, iv y102.2.2.2.2] 77, ow QO QN 107 zL p0.image] (U := (Option Addr × Nat)) (fun u => (iv zFK.1)) (fun O W u => SlF u.1 zFK.2.length u.2) (fun u => [bx bp0 #[iv p0.p.Unit, sL zC p0.p.Tools zD, sL zO p0.p.Steps zN, sL QA p0.tools QC, sL u.1 zFK.2 u.2, bV p0.clear, iv p0.tool, iv y102.2.1, iv y102.2.2.1, bV y102.2.2.2.1, iv p0.off, iv y102.2.2.2.2] 77, ow u.1 u.2 107 zL zFK.2]) rfl (zQ rfl (zQ rfl zf)) (fun _ => rfl) (wn rfl) rfl Tryz.call125 (zI rfl (zI rfl zT)) (fun W hW hp hE => zBK N (QQ.mk p0.p p0.tools p0.image p0.clear p0.tool (zJ.mk y102.2.1 y102.2.2.1) y102.2.2.2.1 p0.off y102.2.2.2.2) zC zD (zU.ext (hW.QM hp)) zO zN (Qe.ext (hW.QM hp)) QA QC (Ka.ext (hW.QM hp)) QO QN bp0 zDB zOP zN5 (zZc.zAK (hW.QM hp)) zFK zTy hE) ?_
      intro w u zZK hu
      obtain ⟨zOO, zN4⟩ := u
      have gy111_0 := hu
      replace hRu106 := zZK.r _ hRu106
      replace zZc := zZc.le zZK
      replace leB := leB.trans zZK
      have zaU : SlF zOO zFK.2.length zN4 := gy111_0 --@phi
      show Tr _ _ (uf _ 64 (iv zFK.1)) (up (up _ 1 (ow zOO zN4 107 zL zFK.2)) 0 (bx bp0 #[iv p0.p.Unit, sL zC p0.p.Tools zD, sL zO p0.p.Steps zN, sL QA p0.tools QC, sL zOO zFK.2 zN4, bV p0.clear, iv p0.tool, iv y102.2.1, iv y102.2.2.1, bV y102.2.2.2.1, iv p0.off, iv y102.2.2.2.2] 77)) _
      refine Tr.asg rfl rfl (Tr.nil (Tr.zA (Tr.ret ?_)))
      obtain rfl := oI H
      exact Tr.out (m := [iv zFK.1]) [] (zW rfl zX) (fun W hW => ⟨w, (zOO, zN4), leB, rfl, zaU, hW.pick (ks := [0, 1]) (by decide) (zQ rfl (zQ rfl zf))⟩)

theorem zKT {w : Bs} (p0 : zS) (p1 : zS) (r : Int) (H : zAL p0 p1 = some r) (hE : HF w w.W E0) : Calls Tryz.prog 157 [.agg #[iv p0.X0, iv p0.Y0, iv p0.X1, iv p0.Y1], .agg #[iv p1.X0, iv p1.Y0, iv p1.X1, iv p1.Y1]].toArray w.W fun e W' => e = .returned (iv r) ∧ HF w W' E0 := by
 unfold zAL at H
 have leB := Bs.Le.refl w
 refine Tr.enter (n := 10) Tryz.func157 rfl rfl rfl hE ?_
 refine Tr.sr (Tr.box 1 (cs := [iv p0.X0, iv p0.Y0, iv p0.X1, iv p0.Y1]) (wn rfl) rfl rfl rfl fun QE => ?_)
 refine Tr.box 2 (cs := [iv p1.X0, iv p1.Y0, iv p1.X1, iv p1.Y1]) (wn rfl) rfl rfl rfl fun Qw => ?_
 refine Tr.asg rfl rfl (Tr.nil (Tr.zA (Tr.sr (Tr.va rfl (fun _ _ a c => zB WR (a.ev rfl)) ?_))))
 refine Tr.va rfl (fun _ _ a c => zF QH (a.ev rfl) (rdb c (vs := [iv p0.X0, iv p0.Y0, iv p0.X1, iv p0.Y1]) (k := 1) rfl 0) rfl) ?_
 refine Tr.va rfl (fun _ _ a c => zB WR (a.ev rfl)) ?_
 refine Tr.va rfl (fun _ _ a c => zF QH (a.ev rfl) (rdb c (vs := [iv p1.X0, iv p1.Y0, iv p1.X1, iv p1.Y1]) (k := 2) rfl 0) rfl) ?_
 refine Tr.va rfl (fun _ _ a c => Wy (a.ev rfl) (a.ev rfl)) ?_
 refine Tr.asg rfl rfl (Tr.nil (Tr.zA (Tr.ret ?_)))
 obtain rfl := oI H
 exact Tr.out (m := [iv (w64 (p0.X0 - p1.X0))]) [] (zW rfl zX) (fun W hW => ⟨rfl, hW.low leB⟩)

theorem zL2 (N : Nat) {w : Bs} (p0 : (List (List zJ))) (zC : Option Addr) (zD : Nat) (zU : Sl w.R w.W zPo zC zD p0) (r : (List ze)) (H : zCK N p0 = some r) (hE : HF w w.W (LEn [emp])) : Calls Tryz.prog 127 [sL zC p0 zD].toArray w.W fun e W' => ∃ (w' : Bs) (u : (Option Addr × Nat)), w.Le w' ∧ e = .returned (sL u.1 r u.2) ∧ (SlF u.1 r.length u.2) ∧ HF w' W' (LEn [ow u.1 u.2 107 zL r]) := by
 unfold zCK at H
 have leB := Bs.Le.refl w
 refine Tr.enter (n := 138) Tryz.func127 rfl rfl rfl hE ?_
 refine Tr.sr (Tr.asg rfl rfl (Tr.JU 1 107 zL ?_))
 show Tr _ _ (uf _ 2 (sL none (([] : List ze)) 0)) _ _
 refine Tr.nil (Tr.zA (Tr.sr (Tr.asg rfl rfl (Tr.JU 2 3 QG ?_))))
 show Tr _ _ (uf _ 3 (sL none (([] : List Int)) 0)) _ _
 refine Tr.nil (Tr.zA (Tr.sr (Tr.asg rfl rfl (Tr.JU 3 36 zK ?_))))
 show Tr _ _ (uf _ 4 (sL none (([] : List zS)) 0)) _ _
 refine Tr.nil (Tr.zA (Tr.seq (Tr.sr (Tr.mv rfl rfl (Tr.va rfl (fun _ _ a c => QJ zdp (a.ev rfl)) ?_)))))
 refine Tr.mv rfl rfl (Tr.nil (Tr.zA (Tr.block (Tr.loop (σ := (List (List zJ)) × Nat × (List Int) × (List zS) × (Option Addr) × Nat × (Option Addr) × Nat) (fun m w s => m = s.1.length + 1 ∧ s.1 = List.drop s.2.1 p0 ∧ s.2.1 ≤ p0.length ∧ KD N s.1 s.2.1 s.2.2.1 s.2.2.2.1 = some r ∧ SlF s.2.2.2.2.1 s.2.2.1.length s.2.2.2.2.2.1 ∧ SlF s.2.2.2.2.2.2.1 s.2.2.2.1.length s.2.2.2.2.2.2.2) (fun s => [(3, sL s.2.2.2.2.1 s.2.2.1 s.2.2.2.2.2.1), (4, sL s.2.2.2.2.2.2.1 s.2.2.2.1 s.2.2.2.2.2.2.2), (16, sL zC p0 zD), (17, iv (p0.length : Int)), (18, iv (s.2.1 : Int))]) (fun s => [(2, ow s.2.2.2.2.1 s.2.2.2.2.2.1 3 QG s.2.2.1), (3, ow s.2.2.2.2.2.2.1 s.2.2.2.2.2.2.2 36 zK s.2.2.2.1)]) (p0.length + 1) (p0, 0, ([] : List Int), ([] : List zS), none, 0, none, 0) ⟨rfl, rfl, Nat.zero_le _, H, Kk, Kk⟩ (.cons rfl (.cons rfl (.cons rfl (.cons rfl (.cons rfl .nil))))) (.cons rfl (.cons rfl .nil)) (fun _ _ h => absurd h.1 (by simp)) ?_))))
 intro w Vl m s hs
 obtain ⟨JF, iL3, zMU, zG0, zGv, zGl, zAI, zAE⟩ := s
 obtain ⟨zHs, zAA, hiL3, H, zWh, zQ0⟩ := hs
 replace zAA : JF = List.drop iL3 p0 := zAA
 replace H : KD N JF iL3 zMU zG0 = some r := H
 replace zHs : m + 1 = JF.length + 1 := zHs
 replace zU := zU.leR Vl
 replace leB := leB.trans Vl
 replace zWh : SlF zGv zMU.length zGl := zWh
 replace zQ0 : SlF zAI zG0.length zAE := zQ0
 obtain rfl : m = JF.length := by omega
 clear zHs
 show Tr _ _ (LF [(3, sL zGv zMU zGl), (4, sL zAI zG0 zAE), (16, sL zC p0 zD), (17, iv (p0.length : Int)), (18, iv (iL3 : Int))]) (LE [(2, ow zGv zGl 3 QG zMU), (3, ow zAI zAE 36 zK zG0)]) _
 cases JF with
 | nil =>
  rw [KD.eq_1] at H
  refine Tr.sr (Tr.va rfl (fun _ _ a c => QI (a.ev rfl) (a.ev rfl)) ?_)
  refine Tr.nil (Tr.zA (Tr.seq (Tr.WL rfl (JS zAA) ?_)))
  refine Tr.exit (Tr.zk (Tr.zk (Tr.QV (Tr.zA (Tr.sr (Tr.mv rfl rfl ?_))))))
  obtain ⟨zMG, zi2, H⟩ := bnd H
  refine Tr.VM [2] [ow zGv zGl 3 QG zMU] (U := Unit) (fun u => (.tuple #[])) (fun u => zMG.length = zMU.length) (fun u => [ow zGv zGl 3 QG zMG]) rfl (zQ rfl zf) (fun _ => rfl) (wn rfl) rfl Tryz.call83 (zI rfl zT) (fun W hW hp hE => zEq zMU zGv zGl zMG zi2 hE) ?_
  intro u hu
  have gky189_0 := hu
  have zMn : zMG.length = zMU.length := gky189_0 --@phi
  have zhQ : SlF zGv zMG.length zGl := by rw [zMn]; exact zWh
  show Tr _ _ (uf _ 66 (.tuple #[])) (up _ 2 (ow zGv zGl 3 QG zMG)) _
  refine Tr.sel (lf := [(3, sL zGv zMG zGl), (4, sL zAI zG0 zAE), (16, sL zC p0 zD), (17, iv (p0.length : Int)), (18, iv (iL3 : Int)), (19, bV (decide ((iL3 : Int) < (p0.length : Int)))), (65, sL zGv zMG zGl), (66, (.tuple #[]))]) (le := [(2, ow zGv zGl 3 QG zMG), (3, ow zAI zAE 36 zK zG0)]) (.cons (VK rfl (by unfold sL; rw [zMn])) (.cons rfl (.cons rfl (.cons rfl (.cons rfl (.cons rfl (.cons (VK rfl (by unfold sL; rw [zMn])) (.cons rfl .nil)))))))) (.cons rfl (.cons rfl .nil)) ?_
  refine Tr.nil (Tr.zA (Tr.sr (Tr.mv rfl rfl ?_)))
  obtain ⟨zBQ, zi1, H⟩ := bnd H
  refine Tr.VM [2] [ow zGv zGl 3 QG zMG] (U := (Option Addr × Nat)) (fun u => (sL u.1 zBQ u.2)) (fun u => SlF u.1 zBQ.length u.2) (fun u => [ow u.1 u.2 3 QG zBQ]) rfl (zQ rfl zf) (fun _ => rfl) (wn rfl) rfl Tryz.call84 (zI rfl zT) (fun W hW hp hE => zDQ zMG zGv zGl zBQ zi1 hE) ?_
  intro u hu
  obtain ⟨zA5, zA4⟩ := u
  have gy191_0 := hu
  have zLY : SlF zA5 zBQ.length zA4 := gy191_0 --@phi
  show Tr _ _ (uf _ 68 (sL zA5 zBQ zA4)) (up _ 2 (ow zA5 zA4 3 QG zBQ)) _
  refine Tr.asg rfl rfl (Tr.nil (Tr.zA (Tr.sr (Tr.mv rfl rfl ?_))))
  obtain ⟨zA6, zi0, H⟩ := bnd H
  refine Tr.VM [3] [ow zAI zAE 36 zK zG0] (U := Unit) (fun u => (.tuple #[])) (fun u => zA6.length = zG0.length) (fun u => [ow zAI zAE 36 zK zA6]) rfl (zQ rfl zf) (fun _ => rfl) (wn rfl) rfl Tryz.call81 (zI rfl (zI rfl zT)) (fun W hW hp hE => zAS zG0 zAI zAE (fun z0 z1 => zAL z0 z1) 157 [] Tryz.call157 (fun w' he z0 z1 y hy => zKT z0 z1 y hy (HF.start _)) zA6 zi0 hE) ?_
  intro u hu
  have gky193_0 := hu
  have zMm : zA6.length = zG0.length := gky193_0 --@phi
  have zJ1 : SlF zAI zA6.length zAE := by rw [zMm]; exact zQ0
  show Tr _ _ (uf _ 70 (.tuple #[])) (up _ 3 (ow zAI zAE 36 zK zA6)) _
  refine Tr.sel (lf := [(3, sL zA5 zBQ zA4), (4, sL zAI zA6 zAE), (16, sL zC p0 zD), (17, iv (p0.length : Int)), (18, iv (iL3 : Int)), (19, bV (decide ((iL3 : Int) < (p0.length : Int)))), (66, (.tuple #[])), (68, sL zA5 zBQ zA4), (69, sL zAI zA6 zAE), (70, (.tuple #[]))]) (le := [(2, ow zA5 zA4 3 QG zBQ), (3, ow zAI zAE 36 zK zA6)]) (.cons rfl (.cons (VK rfl (by unfold sL; rw [zMm])) (.cons rfl (.cons rfl (.cons rfl (.cons rfl (.cons rfl (.cons rfl (.cons (VK rfl (by unfold sL; rw [zMm])) (.cons rfl .nil)))))))))) (.cons rfl (.cons rfl .nil)) ?_
  refine Tr.nil (Tr.zA (Tr.sr (Tr.asg rfl rfl (Tr.JU 28 107 zL ?_))))
  show Tr _ _ (uf _ 10 (sL none (([] : List ze)) 0)) _ _
  refine Tr.nil (Tr.zA (Tr.seq (Tr.sr (Tr.asg rfl rfl (Tr.nil (Tr.zA (Tr.block (Tr.loop (σ := (List ze) × Int × (Option Addr) × Nat) (fun m w s => KC zBQ zA6 m s.1 s.2.1 = some r ∧ SlF s.2.2.1 s.1.length s.2.2.2) (fun s => [(3, sL zA5 zBQ zA4), (4, sL zAI zA6 zAE), (10, sL s.2.2.1 s.1 s.2.2.2), (11, iv s.2.1)]) (fun s => [(2, ow zA5 zA4 3 QG zBQ), (3, ow zAI zAE 36 zK zA6), (28, ow s.2.2.1 s.2.2.2 107 zL s.1)]) N (([] : List ze), 0, none, 0) ⟨H, Kk⟩ (.cons rfl (.cons rfl (.cons rfl (.cons rfl .nil)))) (.cons rfl (.cons rfl (.cons rfl .nil))) (fun _ _ h => zA0 (h.1)) ?_))))))))
  intro w zFz mL6 s hs
  obtain ⟨zF1, zGw, zHc, zHU⟩ := s
  obtain ⟨H, zZ0⟩ := hs
  replace H : KC zBQ zA6 (mL6 + 1) zF1 zGw = some r := H
  replace leB := leB.trans zFz
  replace zZ0 : SlF zHc zF1.length zHU := zZ0
  rw [KC.eq_2] at H
  show Tr _ _ (LF [(3, sL zA5 zBQ zA4), (4, sL zAI zA6 zAE), (10, sL zHc zF1 zHU), (11, iv zGw)]) (LE [(2, ow zA5 zA4 3 QG zBQ), (3, ow zAI zAE 36 zK zA6), (28, ow zHc zHU 107 zL zF1)]) _
  refine Tr.seq (Tr.sr (Tr.mv rfl rfl (Tr.va rfl (fun _ _ a c => QK (a.ev rfl) (a.ev rfl)) ?_)))
  refine Tr.mv rfl rfl (Tr.va rfl (fun _ _ a c => QJ zCg (a.ev rfl)) ?_)
  refine Tr.va rfl (fun _ _ a c => QI (a.ev rfl) (a.ev rfl)) ?_
  refine Tr.nil (Tr.zA (Tr.cond rfl H (fun H => ?_) (fun H => ?_)))
  ·refine Tr.skip (Tr.zA (Tr.seq (Tr.block (Tr.sr (Tr.asg rfl rfl (Tr.JU 43 3 QG ?_))))))
   show Tr _ _ (uf _ 12 (sL none (([] : List Int)) 0)) _ _
   refine Tr.nil (Tr.zA (Tr.seq (Tr.sr (Tr.mv rfl rfl (Tr.va rfl (fun _ _ a c => QJ zA8 (a.ev rfl)) ?_)))))
   refine Tr.mv rfl rfl (Tr.nil (Tr.zA (Tr.block (Tr.loop (σ := (List zS) × Nat × (List Int) × (Option Addr) × Nat) (fun m w s => m = s.1.length + 1 ∧ s.1 = List.drop s.2.1 zA6 ∧ s.2.1 ≤ zA6.length ∧ KA zBQ zF1 zGw (KC zBQ zA6 mL6) s.1 s.2.1 s.2.2.1 = some r ∧ SlF s.2.2.2.1 s.2.2.1.length s.2.2.2.2) (fun s => [(3, sL zA5 zBQ zA4), (4, sL zAI zA6 zAE), (10, sL zHc zF1 zHU), (11, iv zGw), (12, sL s.2.2.2.1 s.2.2.1 s.2.2.2.2), (78, sL zAI zA6 zAE), (79, iv (zA6.length : Int)), (80, iv (s.2.1 : Int))]) (fun s => [(2, ow zA5 zA4 3 QG zBQ), (3, ow zAI zAE 36 zK zA6), (28, ow zHc zHU 107 zL zF1), (43, ow s.2.2.2.1 s.2.2.2.2 3 QG s.2.2.1)]) (zA6.length + 1) (zA6, 0, ([] : List Int), none, 0) ⟨rfl, rfl, Nat.zero_le _, H, Kk⟩ (.cons rfl (.cons rfl (.cons rfl (.cons rfl (.cons rfl (.cons rfl (.cons rfl (.cons rfl .nil)))))))) (.cons rfl (.cons rfl (.cons rfl (.cons rfl .nil)))) (fun _ _ h => absurd h.1 (by simp)) ?_))))
   intro w zIi m s hs
   obtain ⟨zAP, iL7, zF0, zKf, zKc⟩ := s
   obtain ⟨zVo, zE8, hiL7, H, zQy⟩ := hs
   replace zE8 : zAP = List.drop iL7 zA6 := zE8
   replace H : KA zBQ zF1 zGw (KC zBQ zA6 mL6) zAP iL7 zF0 = some r := H
   replace zVo : m + 1 = zAP.length + 1 := zVo
   replace zFz := zFz.trans zIi
   replace zQy : SlF zKf zF0.length zKc := zQy
   obtain rfl : m = zAP.length := by omega
   clear zVo
   show Tr _ _ (LF [(3, sL zA5 zBQ zA4), (4, sL zAI zA6 zAE), (10, sL zHc zF1 zHU), (11, iv zGw), (12, sL zKf zF0 zKc), (78, sL zAI zA6 zAE), (79, iv (zA6.length : Int)), (80, iv (iL7 : Int))]) (LE [(2, ow zA5 zA4 3 QG zBQ), (3, ow zAI zAE 36 zK zA6), (28, ow zHc zHU 107 zL zF1), (43, ow zKf zKc 3 QG zF0)]) _
   cases zAP with
   | nil =>
    rw [KA.eq_1] at H
    refine Tr.sr (Tr.va rfl (fun _ _ a c => QI (a.ev rfl) (a.ev rfl)) ?_)
    refine Tr.nil (Tr.zA (Tr.seq (Tr.WL rfl (JS zE8) ?_)))
    refine Tr.exit (Tr.zk (Tr.zk (Tr.QV (Tr.zA (Tr.zCv 12 (by kernel_rfl) (by kernel_rfl) ?_)))))
    refine Tq.mv rfl rfl (Tq.mv rfl rfl (Tq.mv rfl rfl ?_))
    obtain ⟨zYU, zjI, H⟩ := bnd H
    obtain ⟨zef, zee, zed⟩ := zz zjI
    refine Tq.va rfl (fun _ _ a c => zM zAl (a.ev rfl) zLY (a.ev rfl) zef zee) ?_
    refine Tq.va rfl (fun _ _ a c => zF QH (a.ev rfl) (rdo Vx (k := 2) c rfl zed) rfl) ?_
    refine Tq.mv rfl rfl (Tq.mv rfl rfl (Tq.va rfl (fun _ _ a c => QK (a.ev rfl) (a.ev rfl)) ?_))
    obtain ⟨zYT, zjH, H⟩ := bnd H
    obtain ⟨zec, zeb, zea⟩ := zz zjH
    refine Tq.va rfl (fun _ _ a c => zM zAl (a.ev rfl) zLY (a.ev rfl) zec zeb) ?_
    refine Tq.va rfl (fun _ _ a c => zF QH (a.ev rfl) (rdo Vx (k := 2) c rfl zea) rfl) ?_
    refine Tq.mv rfl rfl (Tq.build (vs := [(0, iv zYU), (1, iv zYT), (2, sL zKf zF0 zKc)]) (cs := [iv zYU, iv zYT, sL zKf zF0 zKc]) (wn rfl) rfl (zq rfl (zq rfl (zq rfl Qi))) (by kernel_rfl) ?_)
    refine Tq.nil (Tr.freeze 43 rfl fun w zh8 zZV => ?_)
    replace zFz := zFz.trans zh8
    obtain ⟨zQH, ziV, H⟩ := bnd H
    refine Tr.VT [28] [ow zHc zHU 107 zL zF1] (U := (Option Addr × Nat)) (fun u => (sL u.1 zQH u.2)) (fun O W u => SlF u.1 zQH.length u.2) (fun u => [ow u.1 u.2 107 zL zQH]) rfl (zQ rfl zf) (fun _ => rfl) (wn rfl) rfl Tryz.call87 (zI rfl (zI rfl zT)) (fun W hW hp hE => zCI zF1 zHc zHU (ze.mk zYU zYT zF0) zKf zKc (zZV.zAK (hW.QM hp)) zQH ziV hE) ?_
    intro w u zdC hu
    obtain ⟨zOF, zNv⟩ := u
    have gy334_0 := hu
    replace zZV := zZV.le zdC
    replace zFz := zFz.trans zdC
    have zaF : SlF zOF zQH.length zNv := gy334_0 --@phi
    show Tr _ _ (uf _ 136 (sL zOF zQH zNv)) (up _ 28 (ow zOF zNv 107 zL zQH)) _
    refine Tr.asg rfl rfl (Tr.nil (Tr.zl (Tr.zA (Tr.region (Tr.mv rfl rfl (Tr.va rfl (fun _ _ a c => QK (a.ev rfl) (a.ev rfl)) ?_))))))
    exact Tr.asg rfl rfl (Tr.nil (Tr.zn zFz (zQH, (w64 (zGw + 1)), zOF, zNv) ⟨H, zaF⟩ (.cons rfl (.cons rfl (.cons rfl (.cons rfl .nil)))) (.cons rfl (.cons rfl (.cons rfl .nil)))))
   | cons xL7 zAP =>
    rw [KA.eq_2] at H
    refine Tr.sr (Tr.va rfl (fun _ _ a c => QI (a.ev rfl) (a.ev rfl)) ?_)
    refine Tr.nil (Tr.zA (Tr.seq (Tr.WK rfl (Jt zE8) ?_)))
    refine Tr.skip (Tr.zA (Tr.seq (Tr.block (Tr.sr (Tr.va rfl (fun _ _ a c => zM zCj (a.ev rfl) zJ1 (a.ev rfl) (Int.natCast_nonneg _) (QB zE8)) ?_)))))
    refine Tr.va rfl (fun _ _ a c => zZ (cs := [iv xL7.X0, iv xL7.Y0, iv xL7.X1, iv xL7.Y1]) zBz Ku (a.ev rfl) (zR.take (rdo Vg (k := 3) c rfl (KL zE8)) 4) rfl) ?_
    refine Tr.alloc 48 (wn rfl) rfl zD3 fun zlJ => ?_
    refine Tr.store 48 (cs := [iv xL7.X0, iv xL7.Y0, iv xL7.X1, iv xL7.Y1]) [iv xL7.X0, iv xL7.Y0, iv xL7.X1, iv xL7.Y1] (wn rfl) rfl rfl rfl rfl Ku rfl rfl rfl ?_
    refine Tr.nil (Tr.zA (Tr.seq (Tr.seq (Tr.draw (by kernel_rfl) (by kernel_rfl) ?_))))
    refine Tq.va rfl (fun _ _ a c => zB zAk (a.ev rfl)) ?_
    refine Tq.va rfl (fun _ _ a c => zF QH (a.ev rfl) (rdb c (vs := [iv xL7.X0, iv xL7.Y0, iv xL7.X1, iv xL7.Y1]) (k := 48) rfl 1) rfl) ?_
    refine Tq.mv rfl rfl (Tq.mv rfl rfl ?_)
    obtain ⟨zXh, zZm, H⟩ := bnd H
    obtain ⟨zVY, zVX, zVW⟩ := zz zZm
    refine Tq.va rfl (fun _ _ a c => zM zAl (a.ev rfl) zLY (a.ev rfl) zVY zVX) ?_
    refine Tq.va rfl (fun _ _ a c => zF QH (a.ev rfl) (rdo Vx (k := 2) c rfl zVW) rfl) ?_
    refine Tq.va rfl (fun _ _ a c => VY (a.ev rfl) (a.ev rfl)) ?_
    refine Tq.mv rfl rfl ?_
    obtain ⟨zgt, zQ3, H⟩ := bnd H
    refine Tq.mid 8 [(3, sL zA5 zBQ zA4), (4, sL zAI zA6 zAE), (10, sL zHc zF1 zHU), (11, iv zGw), (12, sL zKf zF0 zKc), (14, pV zlJ), (78, sL zAI zA6 zAE), (79, iv (zA6.length : Int)), (80, iv (iL7 : Int)), (99, bV zgt)] ?_ ?_
    ·cases zUF : (decide (zXh < xL7.Y0))
     ·rw [zUF] at zQ3
      rw [if_neg (by decide)] at zQ3
      have H := zQ3
      refine Tq.val (wg rfl rfl rfl) rfl (fun _ _ a c => zB zDi (a.ev rfl)) ?_
      refine Tq.val (wg rfl rfl rfl) rfl (fun _ _ a c => zF QH (a.ev rfl) (rdb c (vs := [iv xL7.X0, iv xL7.Y0, iv xL7.X1, iv xL7.Y1]) (k := 48) rfl 3) rfl) ?_
      refine Tq.val (wg rfl rfl rfl) rfl (fun _ _ a c => run_move (a.ev rfl)) ?_
      refine Tq.val (wg rfl rfl rfl) rfl (fun _ _ a c => run_move (a.ev rfl)) ?_
      obtain ⟨zhY, zjG, H⟩ := bnd H
      obtain ⟨zeZ, zeY, zeX⟩ := zz zjG
      refine Tq.val (wg rfl rfl rfl) rfl (fun _ _ a c => zM zAl (a.ev rfl) zLY (a.ev rfl) zeZ zeY) ?_
      refine Tq.val (wg rfl rfl rfl) rfl (fun _ _ a c => zF QH (a.ev rfl) (rdo Vx (k := 2) c rfl zeX) rfl) ?_
      refine Tq.val (wg rfl rfl rfl) rfl (fun _ _ a c => zAW (a.ev rfl) (a.ev rfl)) ?_
      refine Tq.va rfl (fun _ _ a c => zx (a.ev rfl) (a.ev rfl)) ?_
      obtain rfl := oI H
      exact Tq.fin (.cons rfl (.cons rfl (.cons rfl (.cons rfl (.cons rfl (.cons rfl (.cons rfl (.cons rfl (.cons rfl (.cons rfl .nil))))))))))
     ·rw [zUF] at zQ3
      rw [if_pos rfl] at zQ3
      have H := zQ3
      obtain rfl := oI H
      refine Tq.pass rfl rfl rfl rfl rfl (by decide) ?_
      refine Tq.pass rfl rfl rfl rfl rfl (by decide) ?_
      refine Tq.pass rfl rfl rfl rfl rfl (by decide) ?_
      refine Tq.pass rfl rfl rfl rfl rfl (by decide) ?_
      refine Tq.pass rfl rfl rfl rfl rfl (by decide) ?_
      refine Tq.pass rfl rfl rfl rfl rfl (by decide) ?_
      refine Tq.pass rfl rfl rfl rfl rfl (by decide) ?_
      refine Tq.va rfl (fun _ _ a c => zw (a.ev rfl) (a.ev rfl)) ?_
      exact Tq.fin (.cons rfl (.cons rfl (.cons rfl (.cons rfl (.cons rfl (.cons rfl (.cons rfl (.cons rfl (.cons rfl (.cons rfl .nil))))))))))
    ·refine Tq.nil (Tr.zA (Tr.cond rfl H (fun H => ?_) (fun H => ?_)))
     ·refine Tr.exit (Tr.zk (Tr.QV (Tr.zA (Tr.region (Tr.va rfl (fun _ _ a c => QK (a.ev rfl) (a.ev rfl)) ?_)))))
      exact Tr.mv rfl rfl (Tr.nil (Tr.zn zIi (zAP, (iL7 + 1), zF0, zKf, zKc) ⟨rfl, Qu zE8, QB zE8, H, zQy⟩ (.cons rfl (.cons rfl (.cons rfl (.cons rfl (.cons rfl (.cons rfl (.cons rfl (.cons (congrArg (fun z => some (Value.int .i64 z)) (Qt zE8 zJ1)) .nil)))))))) (.cons rfl (.cons rfl (.cons rfl (.cons rfl .nil))))))
     ·refine Tr.skip (Tr.zA (Tr.sr (Tr.mv rfl rfl (Tr.va rfl (fun _ _ a c => QJ zCg (a.ev rfl)) ?_))))
      refine Tr.asg rfl rfl (Tr.nil (Tr.zA (Tr.seq (Tr.draw (by kernel_rfl) (by kernel_rfl) ?_))))
      refine Tq.mv rfl rfl (Tq.va rfl (fun _ _ a c => VY (a.ev rfl) (a.ev rfl)) ?_)
      refine Tq.mv rfl rfl ?_
      obtain ⟨zgs, zQ2, H⟩ := bnd H
      refine Tq.mid 9 [(3, sL zA5 zBQ zA4), (4, sL zAI zA6 zAE), (10, sL zHc zF1 zHU), (11, iv zGw), (12, sL zKf zF0 zKc), (14, pV zlJ), (15, iv (zF0.length : Int)), (78, sL zAI zA6 zAE), (79, iv (zA6.length : Int)), (80, iv (iL7 : Int)), (113, bV zgs)] ?_ ?_
      ·cases zUF : (decide (0 < (zF0.length : Int)))
       ·rw [zUF] at zQ2
        rw [if_neg (by decide)] at zQ2
        have H := zQ2
        obtain rfl := oI H
        refine Tq.pass rfl rfl rfl rfl rfl (by decide) ?_
        refine Tq.pass rfl rfl rfl rfl rfl (by decide) ?_
        refine Tq.pass rfl rfl rfl rfl rfl (by decide) ?_
        refine Tq.pass rfl rfl rfl rfl rfl (by decide) ?_
        refine Tq.pass rfl rfl rfl rfl rfl (by decide) ?_
        refine Tq.pass rfl rfl rfl rfl rfl (by decide) ?_
        refine Tq.pass rfl rfl rfl rfl rfl (by decide) ?_
        refine Tq.pass rfl rfl rfl rfl rfl (by decide) ?_
        refine Tq.va rfl (fun _ _ a c => zx (a.ev rfl) (a.ev rfl)) ?_
        exact Tq.fin (.cons rfl (.cons rfl (.cons rfl (.cons rfl (.cons rfl (.cons rfl (.cons rfl (.cons rfl (.cons rfl (.cons rfl (.cons rfl .nil)))))))))))
       ·rw [zUF] at zQ2
        rw [if_pos rfl] at zQ2
        have H := zQ2
        refine Tq.val (wg rfl rfl rfl) rfl (fun _ _ a c => run_move (a.ev rfl)) ?_
        refine Tq.val (wg rfl rfl rfl) rfl (fun _ _ a c => run_move (a.ev rfl)) ?_
        refine Tq.val (wg rfl rfl rfl) rfl (fun _ _ a c => Wy (a.ev rfl) (a.ev rfl)) ?_
        obtain ⟨zhX, zjF, H⟩ := bnd H
        obtain ⟨zeW, zeV, zeU⟩ := zz zjF
        refine Tq.val (wg rfl rfl rfl) rfl (fun _ _ a c => zM zAl (a.ev rfl) zQy (a.ev rfl) zeW zeV) ?_
        refine Tq.val (wg rfl rfl rfl) rfl (fun _ _ a c => zF QH (a.ev rfl) (rdo Vx (k := 43) c rfl zeU) rfl) ?_
        refine Tq.val (wg rfl rfl rfl) rfl (fun _ _ a c => zB WR (a.ev rfl)) ?_
        refine Tq.val (wg rfl rfl rfl) rfl (fun _ _ a c => zF QH (a.ev rfl) (rdb c (vs := [iv xL7.X0, iv xL7.Y0, iv xL7.X1, iv xL7.Y1]) (k := 48) rfl 0) rfl) ?_
        refine Tq.val (wg rfl rfl rfl) rfl (fun _ _ a c => Qn (a.ev rfl) (a.ev rfl)) ?_
        refine Tq.va rfl (fun _ _ a c => zw (a.ev rfl) (a.ev rfl)) ?_
        obtain rfl := oI H
        exact Tq.fin (.cons rfl (.cons rfl (.cons rfl (.cons rfl (.cons rfl (.cons rfl (.cons rfl (.cons rfl (.cons rfl (.cons rfl (.cons rfl .nil)))))))))))
      ·refine Tq.nil (Tr.zA (Tr.cond rfl H (fun H => ?_) (fun H => ?_)))
       ·refine Tr.region (Tr.mv rfl rfl (Tr.mv rfl rfl (Tr.va rfl (fun _ _ a c => Wy (a.ev rfl) (a.ev rfl)) ?_)))
        obtain ⟨zeC, zZz, H⟩ := bnd H
        refine Tr.va rfl (fun _ _ a c => zWD zAl (a.ev rfl) zQy (a.ev rfl) zZz) ?_
        refine Tr.asg rfl rfl (Tr.nil (Tr.zl (Tr.zA (Tr.region (Tr.va rfl (fun _ _ a c => QK (a.ev rfl) (a.ev rfl)) ?_)))))
        refine Tr.mv rfl rfl (Tr.nil (Tr.zV9 43 zZz rfl ?_))
        exact Tr.zn zIi (zAP, (iL7 + 1), zeC, zKf, zKc) ⟨rfl, Qu zE8, QB zE8, H, (zO3 zQy zZz)⟩ (.cons rfl (.cons rfl (.cons rfl (.cons rfl (.cons rfl (.cons rfl (.cons rfl (.cons (congrArg (fun z => some (Value.int .i64 z)) (Qt zE8 zJ1)) .nil)))))))) (.cons rfl (.cons rfl (.cons rfl (.cons rfl .nil))))
       ·refine Tr.region (Tr.mv rfl rfl (Tr.va rfl (fun _ _ a c => zB WR (a.ev rfl)) ?_))
        refine Tr.va rfl (fun _ _ a c => zF QH (a.ev rfl) (rdb c (vs := [iv xL7.X0, iv xL7.Y0, iv xL7.X1, iv xL7.Y1]) (k := 48) rfl 0) rfl) ?_
        refine Tr.buildSlice 49 (e := 3) (vs := [(0, iv xL7.X0)]) (cs := [iv xL7.X0]) (wn rfl) rfl (zq rfl Qi) (by kernel_rfl) fun znO => ?_
        obtain ⟨zeB, zkK, H⟩ := bnd H
        refine Tr.append 43 (t := QG) (l := zF0) (l2 := [xL7.X0]) (wn rfl) rfl rfl rfl rfl (fun W hW => ⟨[[iv xL7.X0]], (.cons ⟨(), trivial, rfl⟩ .nil), rdb hW (vs := [iv xL7.X0]) (k := 49) rfl 0⟩) zCg zKQ zYN (by decide) za5 rfl zkK fun zlP zk8 hAl346 => ?_
        refine Tr.asg rfl rfl (Tr.nil (Tr.zl (Tr.zA (Tr.region (Tr.va rfl (fun _ _ a c => QK (a.ev rfl) (a.ev rfl)) ?_)))))
        exact Tr.mv rfl rfl (Tr.nil (Tr.zn zIi (zAP, (iL7 + 1), zeB, zlP, zk8) ⟨rfl, Qu zE8, QB zE8, H, hAl346⟩ (.cons rfl (.cons rfl (.cons rfl (.cons rfl (.cons rfl (.cons rfl (.cons rfl (.cons (congrArg (fun z => some (Value.int .i64 z)) (Qt zE8 zJ1)) .nil)))))))) (.cons rfl (.cons rfl (.cons rfl (.cons rfl .nil))))))
  ·refine Tr.exit (Tr.zk (Tr.zk (Tr.QV (Tr.zA (Tr.sr (Tr.mv rfl rfl (Tr.asg rfl rfl (Tr.nil (Tr.zA (Tr.ret ?_))))))))))
   obtain rfl := oI H
   exact Tr.out (m := [sL zHc zF1 zHU]) [] (zW rfl zX) (fun W hW => ⟨w, (zHc, zHU), leB, rfl, zZ0, hW.pick (ks := [28]) (by decide) (zQ rfl zf)⟩)
 | cons xL3 JF =>
  rw [KD.eq_2] at H
  refine Tr.sr (Tr.va rfl (fun _ _ a c => QI (a.ev rfl) (a.ev rfl)) ?_)
  refine Tr.nil (Tr.zA (Tr.seq (Tr.WK rfl (Jt zAA) ?_)))
  refine Tr.skip (Tr.zA (Tr.seq (Tr.block (Tr.sr ?_))))
  obtain ⟨zmF, hRu347, zb2, hcu347⟩ := (zU).el (KL zAA)
  obtain ⟨zMB, zLp⟩ := zmF
  have zBk := zb2
  replace zBk : Sl w.R w.W QU zMB zLp xL3 := zBk
  refine Tr.va rfl (fun _ _ a c => zM zg1 (a.ev rfl) zU.form (a.ev rfl) (Int.natCast_nonneg _) (QB zAA)) ?_
  refine Tr.va rfl (fun _ _ a c => zF zIW (a.ev rfl) (rdR hRu347 hcu347 c) rfl) ?_
  refine Tr.asg rfl rfl (Tr.nil (Tr.zA (Tr.sr (Tr.mv rfl rfl (Tr.va rfl (fun _ _ a c => QJ zGU (a.ev rfl)) ?_)))))
  refine Tr.mv rfl rfl (Tr.nil (Tr.zA (Tr.block (Tr.loop (σ := (List zJ) × Nat × (List Int) × (List zS) × (Option Addr) × Nat × (Option Addr) × Nat) (fun m w s => m = s.1.length + 1 ∧ s.1 = List.drop s.2.1 xL3 ∧ s.2.1 ≤ xL3.length ∧ KT (KD N JF (iL3 + 1)) xL3 s.1 s.2.1 s.2.2.1 s.2.2.2.1 = some r ∧ SlF s.2.2.2.2.1 s.2.2.1.length s.2.2.2.2.2.1 ∧ SlF s.2.2.2.2.2.2.1 s.2.2.2.1.length s.2.2.2.2.2.2.2) (fun s => [(3, sL s.2.2.2.2.1 s.2.2.1 s.2.2.2.2.2.1), (4, sL s.2.2.2.2.2.2.1 s.2.2.2.1 s.2.2.2.2.2.2.2), (6, sL zMB xL3 zLp), (16, sL zC p0 zD), (17, iv (p0.length : Int)), (18, iv (iL3 : Int)), (22, sL zMB xL3 zLp), (23, iv (xL3.length : Int)), (24, iv (s.2.1 : Int))]) (fun s => [(2, ow s.2.2.2.2.1 s.2.2.2.2.2.1 3 QG s.2.2.1), (3, ow s.2.2.2.2.2.2.1 s.2.2.2.2.2.2.2 36 zK s.2.2.2.1)]) (xL3.length + 1) (xL3, 0, zMU, zG0, zGv, zGl, zAI, zAE) ⟨rfl, rfl, Nat.zero_le _, H, zWh, zQ0⟩ (.cons rfl (.cons rfl (.cons rfl (.cons rfl (.cons rfl (.cons rfl (.cons rfl (.cons rfl (.cons rfl .nil))))))))) (.cons rfl (.cons rfl .nil)) (fun _ _ h => absurd h.1 (by simp)) ?_))))
  intro w zZG m s hs
  obtain ⟨zFv, iL8, zQT, zNf, zXU, zW7, zUo, zUX⟩ := s
  obtain ⟨zgm, zNh, hiL8, H, zZy, zWd⟩ := hs
  replace zNh : zFv = List.drop iL8 xL3 := zNh
  replace H : KT (KD N JF (iL3 + 1)) xL3 zFv iL8 zQT zNf = some r := H
  replace zgm : m + 1 = zFv.length + 1 := zgm
  replace zBk := zBk.leR zZG
  replace zU := zU.leR zZG
  replace Vl := Vl.trans zZG
  replace zZy : SlF zXU zQT.length zW7 := zZy
  replace zWd : SlF zUo zNf.length zUX := zWd
  obtain rfl : m = zFv.length := by omega
  clear zgm
  show Tr _ _ (LF [(3, sL zXU zQT zW7), (4, sL zUo zNf zUX), (6, sL zMB xL3 zLp), (16, sL zC p0 zD), (17, iv (p0.length : Int)), (18, iv (iL3 : Int)), (22, sL zMB xL3 zLp), (23, iv (xL3.length : Int)), (24, iv (iL8 : Int))]) (LE [(2, ow zXU zW7 3 QG zQT), (3, ow zUo zUX 36 zK zNf)]) _
  cases zFv with
  | nil =>
   rw [KT.eq_1] at H
   refine Tr.sr (Tr.va rfl (fun _ _ a c => QI (a.ev rfl) (a.ev rfl)) ?_)
   refine Tr.nil (Tr.zA (Tr.seq (Tr.WL rfl (JS zNh) ?_)))
   refine Tr.exit (Tr.zk (Tr.zk (Tr.QV (Tr.zl (Tr.zA (Tr.region (Tr.va rfl (fun _ _ a c => QK (a.ev rfl) (a.ev rfl)) ?_)))))))
   exact Tr.mv rfl rfl (Tr.nil (Tr.zn Vl (JF, (iL3 + 1), zQT, zNf, zXU, zW7, zUo, zUX) ⟨rfl, Qu zAA, QB zAA, H, zZy, zWd⟩ (.cons rfl (.cons rfl (.cons rfl (.cons rfl (.cons (congrArg (fun z => some (Value.int .i64 z)) (Qt zAA zU.form)) .nil))))) (.cons rfl (.cons rfl .nil))))
  | cons xL8 zFv =>
   rw [KT.eq_2] at H
   refine Tr.sr (Tr.va rfl (fun _ _ a c => QI (a.ev rfl) (a.ev rfl)) ?_)
   refine Tr.nil (Tr.zA (Tr.seq (Tr.WK rfl (Jt zNh) ?_)))
   refine Tr.skip (Tr.zA (Tr.seq (Tr.block (Tr.sr (Tr.mv rfl rfl (Tr.va rfl (fun _ _ a c => zM zLi (a.ev rfl) zBk.form (a.ev rfl) (Int.natCast_nonneg _) (QB zNh)) ?_))))))
   refine Tr.va rfl (fun _ _ a c => zZ (cs := [iv xL8.X, iv xL8.Y]) VP Js (a.ev rfl) (zR.take (rdF zCY zBk (KL zNh) c) 2) rfl) ?_
   refine Tr.alloc 58 (wn rfl) rfl zIo fun znN => ?_
   refine Tr.asg rfl rfl (Tr.store 58 (cs := [iv xL8.X, iv xL8.Y]) [iv xL8.X, iv xL8.Y] (wn rfl) rfl rfl rfl rfl Js rfl rfl rfl ?_)
   refine Tr.nil (Tr.zA (Tr.sr (Tr.mv rfl rfl (Tr.mv rfl rfl (Tr.va rfl (fun _ _ a c => QK (a.ev rfl) (a.ev rfl)) ?_)))))
   refine Tr.mv rfl rfl (Tr.va rfl (fun _ _ a c => QJ zGU (a.ev rfl)) ?_)
   obtain ⟨q378, zj1, H⟩ := bnd H
   refine Tr.va rfl (fun _ _ a c => zRi (a.ev rfl) (a.ev rfl) zj1) ?_
   obtain ⟨zDV, zjE, H⟩ := bnd H
   obtain ⟨zeT, zeS, zeR⟩ := zz zjE
   refine Tr.va rfl (fun _ _ a c => zM zLi (a.ev rfl) zBk.form (a.ev rfl) zeT zeS) ?_
   refine Tr.va rfl (fun _ _ a c => zZ (cs := [iv zDV.X, iv zDV.Y]) VP Js (a.ev rfl) (zR.take (rdF zCY zBk zeR c) 2) rfl) ?_
   refine Tr.alloc 59 (wn rfl) rfl zIo fun znM => ?_
   refine Tr.store 59 (cs := [iv zDV.X, iv zDV.Y]) [iv zDV.X, iv zDV.Y] (wn rfl) rfl rfl rfl rfl Js rfl rfl rfl ?_
   refine Tr.nil (Tr.zA (Tr.sr (Tr.mv rfl rfl (Tr.va rfl (fun _ _ a c => zB VZ (a.ev rfl)) ?_))))
   refine Tr.va rfl (fun _ _ a c => zF QH (a.ev rfl) (rdb c (vs := [iv xL8.X, iv xL8.Y]) (k := 58) rfl 1) rfl) ?_
   refine Tr.buildSlice 60 (e := 3) (vs := [(0, iv xL8.Y)]) (cs := [iv xL8.Y]) (wn rfl) rfl (zq rfl Qi) (by kernel_rfl) fun znL => ?_
   obtain ⟨zZM, zkJ, H⟩ := bnd H
   refine Tr.append 2 (t := QG) (l := zQT) (l2 := [xL8.Y]) (wn rfl) rfl rfl rfl rfl (fun W hW => ⟨[[iv xL8.Y]], (.cons ⟨(), trivial, rfl⟩ .nil), rdb hW (vs := [iv xL8.Y]) (k := 60) rfl 0⟩) zCg zKQ zYN (by decide) za5 rfl zkJ fun zdl zdg hAl382 => ?_
   refine Tr.asg rfl rfl (Tr.nil (Tr.zA (Tr.sr (Tr.va rfl (fun _ _ a c => zB Vm (a.ev rfl)) ?_))))
   refine Tr.va rfl (fun _ _ a c => zF QH (a.ev rfl) (rdb c (vs := [iv xL8.X, iv xL8.Y]) (k := 58) rfl 0) rfl) ?_
   refine Tr.va rfl (fun _ _ a c => zB Vm (a.ev rfl)) ?_
   refine Tr.va rfl (fun _ _ a c => zF QH (a.ev rfl) (rdb c (vs := [iv zDV.X, iv zDV.Y]) (k := 59) rfl 0) rfl) ?_
   refine Tr.va rfl (fun _ _ a c => Qn (a.ev rfl) (a.ev rfl)) ?_
   refine Tr.nil (Tr.zA (Tr.cond rfl H (fun H => ?_) (fun H => ?_)))
   ·refine Tr.region (Tr.mv rfl rfl (Tr.va rfl (fun _ _ a c => zB Vm (a.ev rfl)) ?_))
    refine Tr.va rfl (fun _ _ a c => zF QH (a.ev rfl) (rdb c (vs := [iv xL8.X, iv xL8.Y]) (k := 58) rfl 0) rfl) ?_
    refine Tr.va rfl (fun _ _ a c => zB VZ (a.ev rfl)) ?_
    refine Tr.va rfl (fun _ _ a c => zF QH (a.ev rfl) (rdb c (vs := [iv xL8.X, iv xL8.Y]) (k := 58) rfl 1) rfl) ?_
    refine Tr.va rfl (fun _ _ a c => zB VZ (a.ev rfl)) ?_
    refine Tr.va rfl (fun _ _ a c => zF QH (a.ev rfl) (rdb c (vs := [iv zDV.X, iv zDV.Y]) (k := 59) rfl 1) rfl) ?_
    refine Tr.va rfl (fun _ _ a c => zGY (a.ev rfl) (a.ev rfl) _) ?_
    refine Tr.va rfl (fun _ _ a c => zB VZ (a.ev rfl)) ?_
    refine Tr.va rfl (fun _ _ a c => zF QH (a.ev rfl) (rdb c (vs := [iv xL8.X, iv xL8.Y]) (k := 58) rfl 1) rfl) ?_
    refine Tr.va rfl (fun _ _ a c => zB VZ (a.ev rfl)) ?_
    refine Tr.va rfl (fun _ _ a c => zF QH (a.ev rfl) (rdb c (vs := [iv zDV.X, iv zDV.Y]) (k := 59) rfl 1) rfl) ?_
    refine Tr.va rfl (fun _ _ a c => zGZ (a.ev rfl) (a.ev rfl) _) ?_
    refine Tr.build (vs := [(0, iv xL8.X), (1, iv (min xL8.Y zDV.Y)), (3, iv (max xL8.Y zDV.Y))]) (cs := [iv xL8.X, iv (min xL8.Y zDV.Y), iv 0, iv (max xL8.Y zDV.Y)]) (wn rfl) rfl (zq rfl (zq rfl (zq rfl Qi))) (by kernel_rfl) ?_
    refine Tr.buildSlice 61 (e := 36) (vs := [(0, .agg #[iv xL8.X, iv (min xL8.Y zDV.Y), iv 0, iv (max xL8.Y zDV.Y)])]) (cs := [iv xL8.X, iv (min xL8.Y zDV.Y), iv 0, iv (max xL8.Y zDV.Y)]) (wn rfl) rfl (zq rfl Qi) (by kernel_rfl) fun znK => ?_
    obtain ⟨zeA, zkI, H⟩ := bnd H
    refine Tr.append 3 (t := zK) (l := zNf) (l2 := [(zS.mk xL8.X (min xL8.Y zDV.Y) 0 (max xL8.Y zDV.Y))]) (wn rfl) rfl rfl rfl rfl (fun W hW => ⟨[[iv xL8.X, iv (min xL8.Y zDV.Y), iv 0, iv (max xL8.Y zDV.Y)]], (.cons ⟨(), trivial, rfl⟩ .nil), rdb hW (vs := [iv xL8.X, iv (min xL8.Y zDV.Y), iv 0, iv (max xL8.Y zDV.Y)]) (k := 61) rfl 0⟩) zA8 Ku zSo (by decide) zUc rfl zkI fun zlO zk7 hAl384 => ?_
    refine Tr.asg rfl rfl (Tr.nil (Tr.zl (Tr.zA (Tr.region (Tr.va rfl (fun _ _ a c => QK (a.ev rfl) (a.ev rfl)) ?_)))))
    exact Tr.mv rfl rfl (Tr.nil (Tr.zn zZG (zFv, (iL8 + 1), zZM, zeA, zdl, zdg, zlO, zk7) ⟨rfl, Qu zNh, QB zNh, H, hAl382, hAl384⟩ (.cons rfl (.cons rfl (.cons rfl (.cons rfl (.cons rfl (.cons rfl (.cons rfl (.cons rfl (.cons (congrArg (fun z => some (Value.int .i64 z)) (Qt zNh zBk.form)) .nil))))))))) (.cons rfl (.cons rfl .nil))))
   ·refine Tr.skip (Tr.zl (Tr.zA (Tr.region (Tr.va rfl (fun _ _ a c => QK (a.ev rfl) (a.ev rfl)) ?_))))
    exact Tr.mv rfl rfl (Tr.nil (Tr.zn zZG (zFv, (iL8 + 1), zZM, zNf, zdl, zdg, zUo, zUX) ⟨rfl, Qu zNh, QB zNh, H, hAl382, zWd⟩ (.cons rfl (.cons rfl (.cons rfl (.cons rfl (.cons rfl (.cons rfl (.cons rfl (.cons rfl (.cons (congrArg (fun z => some (Value.int .i64 z)) (Qt zNh zBk.form)) .nil))))))))) (.cons rfl (.cons rfl .nil))))

theorem zGS {w : Bs} (p0 : zJ) (r : Bool) (H : KF p0 = some r) (hE : HF w w.W E0) : Calls Tryz.prog 128 [.agg #[iv p0.X, iv p0.Y]].toArray w.W fun e W' => e = .returned (bV r) ∧ HF w W' E0 := by
 unfold KF at H
 have leB := Bs.Le.refl w
 refine Tr.enter (n := 6) Tryz.func128 rfl rfl rfl hE ?_
 refine Tr.sr (Tr.box 1 (cs := [iv p0.X, iv p0.Y]) (wn rfl) rfl rfl rfl fun QE => ?_)
 refine Tr.asg rfl rfl (Tr.nil (Tr.zA (Tr.sr (Tr.va rfl (fun _ _ a c => zZ (cs := [iv p0.X, iv p0.Y]) VP Js (a.ev rfl) (zR.take (rdb c (vs := [iv p0.X, iv p0.Y]) (k := 1) rfl 0) 2) rfl) ?_))))
 obtain ⟨y101, hy101, H⟩ := bnd H
 refine Tr.JI (r := (bV y101)) (wn rfl) rfl Tryz.call123 (zI rfl zT) (fun W hW => zDJ p0 y101 hy101 (HF.start _)) ?_
 refine Tr.va rfl (fun _ _ a c => Km (a.ev rfl)) ?_
 refine Tr.asg rfl rfl (Tr.nil (Tr.zA (Tr.ret ?_)))
 obtain rfl := oI H
 exact Tr.out (m := [bV (!y101)]) [] (zW rfl zX) (fun W hW => ⟨rfl, hW.low leB⟩)

theorem zHb (N : Nat) {w : Bs} (p0 : QQ) (zC : Option Addr) (zD : Nat) (zU : Sl w.R w.W zP zC zD p0.p.Tools) (zO : Option Addr) (zN : Nat) (Qe : Sl w.R w.W zH zO zN p0.p.Steps) (QA : Option Addr) (QC : Nat) (Ka : Sl w.R w.W Qy QA QC p0.tools) (QO : Option Addr) (QN : Nat) (bp0 : Nat) (p1 : (List zJ)) (zh : Option Addr) (zg : Nat) (Qh : Sl w.R w.W QU zh zg p1) (p2 : zJ) (r : (Int × (List ze))) (H : WO N p0 p1 p2 = some r) (hE : HF w w.W (LEn [bx bp0 #[iv p0.p.Unit, sL zC p0.p.Tools zD, sL zO p0.p.Steps zN, sL QA p0.tools QC, sL QO p0.image QN, bV p0.clear, iv p0.tool, iv p0.place.X, iv p0.place.Y, bV p0.placed, iv p0.off, iv p0.on] 77, ow QO QN 107 zL p0.image])) : Calls Tryz.prog 107 [pV bp0, sL zh p1 zg, .agg #[iv p2.X, iv p2.Y]].toArray w.W fun e W' => ∃ (w' : Bs) (u : (Option Addr × Nat)), w.Le w' ∧ e = .returned (iv r.1) ∧ (SlF u.1 r.2.length u.2) ∧ HF w' W' (LEn [bx bp0 #[iv p0.p.Unit, sL zC p0.p.Tools zD, sL zO p0.p.Steps zN, sL QA p0.tools QC, sL u.1 r.2 u.2, bV p0.clear, iv p0.tool, iv p0.place.X, iv p0.place.Y, bV p0.placed, iv p0.off, iv p0.on] 77, ow u.1 u.2 107 zL r.2]) := by
 unfold WO at H
 have Wz := (hE.sl (k := 1) rfl).form
 have leB := Bs.Le.refl w
 refine Tr.enter (n := 36) Tryz.func107 rfl rfl rfl hE ?_
 refine Tr.sr (Tr.box 2 (cs := [iv p2.X, iv p2.Y]) (wn rfl) rfl rfl rfl fun QE => ?_)
 refine Tr.asg rfl rfl (Tr.nil (Tr.zA (Tr.sr (Tr.asg rfl rfl (Tr.JU 3 43 QU ?_)))))
 show Tr _ _ (uf _ 7 (sL none (([] : List zJ)) 0)) _ _
 refine Tr.nil (Tr.zA (Tr.seq (Tr.sr (Tr.mv rfl rfl (Tr.va rfl (fun _ _ a c => QJ zGU (a.ev rfl)) ?_)))))
 refine Tr.mv rfl rfl (Tr.nil (Tr.zA (Tr.block (Tr.loop (σ := (List zJ) × Nat × (List zJ) × (Option Addr) × Nat) (fun m w s => m = s.1.length + 1 ∧ s.1 = List.drop s.2.1 p1 ∧ s.2.1 ≤ p1.length ∧ JP N p0 p2 s.1 s.2.1 s.2.2.1 = some r ∧ SlF s.2.2.2.1 s.2.2.1.length s.2.2.2.2) (fun s => [(0, pV bp0), (5, pV QE), (7, sL s.2.2.2.1 s.2.2.1 s.2.2.2.2), (11, sL zh p1 zg), (12, iv (p1.length : Int)), (13, iv (s.2.1 : Int))]) (fun s => [(0, bx bp0 #[iv p0.p.Unit, sL zC p0.p.Tools zD, sL zO p0.p.Steps zN, sL QA p0.tools QC, sL QO p0.image QN, bV p0.clear, iv p0.tool, iv p0.place.X, iv p0.place.Y, bV p0.placed, iv p0.off, iv p0.on] 77), (1, ow QO QN 107 zL p0.image), (2, bx QE #[iv p2.X, iv p2.Y] 43), (3, ow s.2.2.2.1 s.2.2.2.2 43 QU s.2.2.1)]) (p1.length + 1) (p1, 0, ([] : List zJ), none, 0) ⟨rfl, rfl, Nat.zero_le _, H, Kk⟩ (.cons rfl (.cons rfl (.cons rfl (.cons rfl (.cons rfl (.cons rfl .nil)))))) (.cons rfl (.cons rfl (.cons rfl (.cons rfl .nil)))) (fun _ _ h => absurd h.1 (by simp)) ?_))))
 intro w Qd m s hs
 obtain ⟨zY, iL1, zKt, zQF, zPx⟩ := s
 obtain ⟨Kj, QF, hiL1, H, znB⟩ := hs
 replace QF : zY = List.drop iL1 p1 := QF
 replace H : JP N p0 p2 zY iL1 zKt = some r := H
 replace Kj : m + 1 = zY.length + 1 := Kj
 replace zU := zU.leR Qd
 replace Qe := Qe.leR Qd
 replace Ka := Ka.leR Qd
 replace Qh := Qh.leR Qd
 replace leB := leB.trans Qd
 obtain rfl : m = zY.length := by omega
 clear Kj
 show Tr _ _ (LF [(0, pV bp0), (5, pV QE), (7, sL zQF zKt zPx), (11, sL zh p1 zg), (12, iv (p1.length : Int)), (13, iv (iL1 : Int))]) (LE [(0, bx bp0 #[iv p0.p.Unit, sL zC p0.p.Tools zD, sL zO p0.p.Steps zN, sL QA p0.tools QC, sL QO p0.image QN, bV p0.clear, iv p0.tool, iv p0.place.X, iv p0.place.Y, bV p0.placed, iv p0.off, iv p0.on] 77), (1, ow QO QN 107 zL p0.image), (2, bx QE #[iv p2.X, iv p2.Y] 43), (3, ow zQF zPx 43 QU zKt)]) _
 cases zY with
 | nil =>
  rw [JP.eq_1] at H
  refine Tr.sr (Tr.va rfl (fun _ _ a c => QI (a.ev rfl) (a.ev rfl)) ?_)
  refine Tr.nil (Tr.zA (Tr.seq (Tr.WL rfl (JS QF) ?_)))
  refine Tr.exit (Tr.zk (Tr.zk (Tr.QV (Tr.zA (Tr.sr (Tr.mv rfl rfl (Tr.freeze 3 rfl fun w zPC zIS => ?_)))))))
  replace zU := zU.leR zPC
  replace Qe := Qe.leR zPC
  replace Ka := Ka.leR zPC
  replace leB := leB.trans zPC
  refine Tr.buildSlice 8 (e := 44) (vs := [(0, sL zQF zKt zPx)]) (cs := [sL zQF zKt zPx]) (wn rfl) rfl (zq rfl Qi) (by kernel_rfl) fun zM0 => ?_
  refine Tr.own 8 zPo [zKt] (css := [[sL zQF zKt zPx]]) rfl (.cons ⟨(zQF, zPx), zIS, rfl⟩ .nil) rfl (by decide) (zCR rfl) ?_
  obtain ⟨zGN, zTw, H⟩ := bnd H
  refine Tr.VT [9] [emp] (U := (Option Addr × Nat)) (fun u => (sL u.1 zGN u.2)) (fun O W u => SlF u.1 zGN.length u.2) (fun u => [ow u.1 u.2 107 zL zGN]) rfl (zQ rfl zf) (fun _ => rfl) (wn rfl) rfl Tryz.call127 (zI rfl zT) (fun W hW hp hE => zL2 N [zKt] (some ⟨zM0, 0, none⟩) 1 (hW.slS (k := 8) rfl hp rfl) zGN zTw hE) ?_
  intro w u zTg hu
  obtain ⟨zL9, zLm⟩ := u
  have gy121_0 := hu
  replace zU := zU.leR zTg
  replace Qe := Qe.leR zTg
  replace Ka := Ka.leR zTg
  replace zIS := zIS.le zTg
  replace leB := leB.trans zTg
  have zkq : SlF zL9 zGN.length zLm := gy121_0 --@phi
  show Tr _ _ (uf _ 27 (sL zL9 zGN zLm)) (up _ 9 (ow zL9 zLm 107 zL zGN)) _
  refine Tr.asg rfl rfl (Tr.nil (Tr.zA (Tr.seq (Tr.sr (Tr.mv rfl rfl ?_)))))
  obtain ⟨zIq, zZi, H⟩ := bnd H
  refine Tr.JI (r := (iv zIq)) (wn rfl) rfl Tryz.call89 (zI rfl zT) (fun W hW => zCJ zGN zL9 zLm (hW.zEA (k := 9) rfl) zIq zZi (HF.start _)) ?_
  refine Tr.va rfl (fun _ _ a c => VY (a.ev rfl) (a.ev rfl)) ?_
  refine Tr.nil (Tr.zA (Tr.cond rfl H (fun H => ?_) (fun H => ?_)))
  ·refine Tr.sr (Tr.asg rfl rfl (Tr.nil (Tr.zA (Tr.ret (Tr.zi ?_)))))
   obtain rfl := oI H
   exact Tr.out (m := [iv 2]) [] (zW rfl zX) (fun W hW => ⟨w, (QO, QN), leB, rfl, Wz, hW.pick (ks := [0, 1]) (by decide) (zQ rfl (zQ rfl zf))⟩)
  ·refine Tr.skip (Tr.zA (Tr.seq (Tr.sr (Tr.mv rfl rfl ?_))))
   obtain ⟨zRX, zZh, H⟩ := bnd H
   refine Tr.JI (r := (bV zRX)) (wn rfl) rfl Tryz.call98 (zI rfl (zI rfl zT)) (fun W hW => zBH zKt zQF zPx (zIS.rl.ext hW.Qx) (fun z0 => KF z0) 128 [] Tryz.call128 (fun w' he z0 y hy => zGS z0 y hy (HF.start _)) zRX zZh (HF.start _)) ?_
   refine Tr.nil (Tr.zA (Tr.cond rfl H (fun H => ?_) (fun H => ?_)))
   ·refine Tr.sr (Tr.asg rfl rfl (Tr.nil (Tr.zA (Tr.ret (Tr.zi ?_)))))
    obtain rfl := oI H
    exact Tr.out (m := [iv 1]) [] (zW rfl zX) (fun W hW => ⟨w, (QO, QN), leB, rfl, Wz, hW.pick (ks := [0, 1]) (by decide) (zQ rfl (zQ rfl zf))⟩)
   ·refine Tr.skip (Tr.zA (Tr.sr (Tr.mv rfl rfl (Tr.mv rfl rfl (Tr.freeze 9 rfl fun w zTf zZa => ?_)))))
    replace zU := zU.leR zTf
    replace Qe := Qe.leR zTf
    replace Ka := Ka.leR zTf
    replace zIS := zIS.le zTf
    replace leB := leB.trans zTf
    obtain ⟨zE0, zTv, H⟩ := bnd H
    refine Tr.VT [0, 1] [bx bp0 #[iv p0.p.Unit, sL zC p0.p.Tools zD, sL zO p0.p.Steps zN, sL QA p0.tools QC, sL QO p0.image QN, bV p0.clear, iv p0.tool, iv p0.place.X, iv p0.place.Y, bV p0.placed, iv p0.off, iv p0.on] 77, ow QO QN 107 zL p0.image] (U := (Option Addr × Nat)) (fun u => (iv zE0.1)) (fun O W u => SlF u.1 zE0.2.length u.2) (fun u => [bx bp0 #[iv p0.p.Unit, sL zC p0.p.Tools zD, sL zO p0.p.Steps zN, sL QA p0.tools QC, sL u.1 zE0.2 u.2, bV p0.clear, iv p0.tool, iv p0.place.X, iv p0.place.Y, bV p0.placed, iv p0.off, iv p0.on] 77, ow u.1 u.2 107 zL zE0.2]) rfl (zQ rfl (zQ rfl zf)) (fun _ => rfl) (wn rfl) rfl Tryz.call125 (zI rfl (zI rfl zT)) (fun W hW hp hE => zBK N p0 zC zD (zU.ext (hW.QM hp)) zO zN (Qe.ext (hW.QM hp)) QA QC (Ka.ext (hW.QM hp)) QO QN bp0 zGN zL9 zLm (zZa.zAK (hW.QM hp)) zE0 zTv hE) ?_
    intro w u zZJ hu
    obtain ⟨zOL, zN1⟩ := u
    have gy127_0 := hu
    replace zIS := zIS.le zZJ
    replace zZa := zZa.le zZJ
    replace leB := leB.trans zZJ
    have zaQ : SlF zOL zE0.2.length zN1 := gy127_0 --@phi
    show Tr _ _ (uf _ 35 (iv zE0.1)) (up (up _ 1 (ow zOL zN1 107 zL zE0.2)) 0 (bx bp0 #[iv p0.p.Unit, sL zC p0.p.Tools zD, sL zO p0.p.Steps zN, sL QA p0.tools QC, sL zOL zE0.2 zN1, bV p0.clear, iv p0.tool, iv p0.place.X, iv p0.place.Y, bV p0.placed, iv p0.off, iv p0.on] 77)) _
    refine Tr.asg rfl rfl (Tr.nil (Tr.zA (Tr.ret ?_)))
    obtain rfl := oI H
    exact Tr.out (m := [iv zE0.1]) [] (zW rfl zX) (fun W hW => ⟨w, (zOL, zN1), leB, rfl, zaQ, hW.pick (ks := [0, 1]) (by decide) (zQ rfl (zQ rfl zf))⟩)
 | cons xL1 zY =>
  rw [JP.eq_2] at H
  refine Tr.sr (Tr.va rfl (fun _ _ a c => QI (a.ev rfl) (a.ev rfl)) ?_)
  refine Tr.nil (Tr.zA (Tr.seq (Tr.WK rfl (Jt QF) ?_)))
  refine Tr.skip (Tr.zA (Tr.seq (Tr.block (Tr.sr (Tr.va rfl (fun _ _ a c => zM zLi (a.ev rfl) Qh.form (a.ev rfl) (Int.natCast_nonneg _) (QB QF)) ?_)))))
  refine Tr.va rfl (fun _ _ a c => zZ (cs := [iv xL1.X, iv xL1.Y]) VP Js (a.ev rfl) (zR.take (rdF zCY Qh (KL QF) c) 2) rfl) ?_
  refine Tr.alloc 10 (wn rfl) rfl zIo fun za9 => ?_
  refine Tr.store 10 (cs := [iv xL1.X, iv xL1.Y]) [iv xL1.X, iv xL1.Y] (wn rfl) rfl rfl rfl rfl Js rfl rfl rfl ?_
  refine Tr.nil (Tr.zA (Tr.region (Tr.mv rfl rfl (Tr.mv rfl rfl (Tr.va rfl (fun _ _ a c => zZ (cs := [iv xL1.X, iv xL1.Y]) VP Js (a.ev rfl) (zR.take (rdb c (vs := [iv xL1.X, iv xL1.Y]) (k := 10) rfl 0) 2) rfl) ?_)))))
  refine Tr.va rfl (fun _ _ a c => zZ (cs := [iv p2.X, iv p2.Y]) VP Js (a.ev rfl) (zR.take (rdb c (vs := [iv p2.X, iv p2.Y]) (k := 2) rfl 0) 2) rfl) ?_
  obtain ⟨zHe, zZg, H⟩ := bnd H
  refine Tr.JI (r := (.agg #[iv zHe.X, iv zHe.Y])) (wn rfl) rfl Tryz.call103 (zI rfl (zI rfl (zI rfl zT))) (fun W hW => zC0 p0 zC zD (zU.ext hW.Qx) zO zN (Qe.ext hW.Qx) QA QC (Ka.ext hW.Qx) QO QN (hW.zEA (k := 1) rfl) bp0 (hW.za0 (k := 0) rfl) (hW.zcn (k := 0) rfl) xL1 p2 zHe zZg (HF.start _)) ?_
  refine Tr.buildSlice 11 (e := 43) (vs := [(0, .agg #[iv zHe.X, iv zHe.Y])]) (cs := [iv zHe.X, iv zHe.Y]) (wn rfl) rfl (zq rfl Qi) (by kernel_rfl) fun znb => ?_
  obtain ⟨zeL, zkS, H⟩ := bnd H
  refine Tr.append 3 (t := QU) (l := zKt) (l2 := [zHe]) (wn rfl) rfl rfl rfl rfl (fun W hW => ⟨[[iv zHe.X, iv zHe.Y]], (.cons ⟨(), trivial, rfl⟩ .nil), rdb hW (vs := [iv zHe.X, iv zHe.Y]) (k := 11) rfl 0⟩) zGU Js zc0 (by decide) zdj rfl zkS fun zlU zlD hAl132 => ?_
  refine Tr.asg rfl rfl (Tr.nil (Tr.zl (Tr.zA (Tr.region (Tr.va rfl (fun _ _ a c => QK (a.ev rfl) (a.ev rfl)) ?_)))))
  exact Tr.mv rfl rfl (Tr.nil (Tr.zn Qd (zY, (iL1 + 1), zeL, zlU, zlD) ⟨rfl, Qu QF, QB QF, H, hAl132⟩ (.cons rfl (.cons rfl (.cons rfl (.cons rfl (.cons rfl (.cons (congrArg (fun z => some (Value.int .i64 z)) (Qt QF Qh.form)) .nil)))))) (.cons rfl (.cons rfl (.cons rfl (.cons rfl .nil))))))

theorem zHZ (rec : QQ → (List zG) → zJ → Option (Int × Bool × Int × Int × Int × Bool × Int × Int × (List ze))) (hrec : ∀ {w : Bs} (p0 : QQ) (zC : Option Addr) (zD : Nat) (zU : Sl w.R w.W zP zC zD p0.p.Tools) (zO : Option Addr) (zN : Nat) (Qe : Sl w.R w.W zH zO zN p0.p.Steps) (QA : Option Addr) (QC : Nat) (Ka : Sl w.R w.W Qy QA QC p0.tools) (QO : Option Addr) (QN : Nat) (bp0 : Nat) (p1 : (List zG)) (zh : Option Addr) (zg : Nat) (Qh : Sl w.R w.W zH zh zg p1) (p2 : zJ) (r : (Int × Bool × Int × Int × Int × Bool × Int × Int × (List ze))) (H : rec p0 p1 p2 = some r) (hE : HF w w.W (LEn [bx bp0 #[iv p0.p.Unit, sL zC p0.p.Tools zD, sL zO p0.p.Steps zN, sL QA p0.tools QC, sL QO p0.image QN, bV p0.clear, iv p0.tool, iv p0.place.X, iv p0.place.Y, bV p0.placed, iv p0.off, iv p0.on] 77, ow QO QN 107 zL p0.image])), Calls Tryz.prog 56 [pV bp0, sL zh p1 zg, .agg #[iv p2.X, iv p2.Y]].toArray w.W fun e W' => ∃ (w' : Bs) (u : (Option Addr × Nat)), w.Le w' ∧ e = .returned (iv r.1) ∧ (SlF u.1 r.2.2.2.2.2.2.2.2.length u.2) ∧ HF w' W' (LEn [bx bp0 #[iv p0.p.Unit, sL zC p0.p.Tools zD, sL zO p0.p.Steps zN, sL QA p0.tools QC, sL u.1 r.2.2.2.2.2.2.2.2 u.2, bV r.2.1, iv r.2.2.1, iv r.2.2.2.1, iv r.2.2.2.2.1, bV r.2.2.2.2.2.1, iv r.2.2.2.2.2.2.1, iv r.2.2.2.2.2.2.2.1] 77, ow u.1 u.2 107 zL r.2.2.2.2.2.2.2.2])) (N : Nat) {w : Bs} (p0 : QQ) (zC : Option Addr) (zD : Nat) (zU : Sl w.R w.W zP zC zD p0.p.Tools) (zO : Option Addr) (zN : Nat) (Qe : Sl w.R w.W zH zO zN p0.p.Steps) (QA : Option Addr) (QC : Nat) (Ka : Sl w.R w.W Qy QA QC p0.tools) (QO : Option Addr) (QN : Nat) (bp0 : Nat) (p1 : zG) (zh : Option Addr) (zg : Nat) (Qh : Sl w.R w.W QU zh zg p1.Points) (Qc : Option Addr) (Qa : Nat) (zDg : Sl w.R w.W zH Qc Qa p1.Steps) (p2 : zJ) (r : (Int × Bool × Int × Int × Int × Bool × Int × Int × (List ze))) (H : KW rec N p0 p1 p2 = some r) (hE : HF w w.W (LEn [bx bp0 #[iv p0.p.Unit, sL zC p0.p.Tools zD, sL zO p0.p.Steps zN, sL QA p0.tools QC, sL QO p0.image QN, bV p0.clear, iv p0.tool, iv p0.place.X, iv p0.place.Y, bV p0.placed, iv p0.off, iv p0.on] 77, ow QO QN 107 zL p0.image])) : Calls Tryz.prog 78 [pV bp0, .agg #[iv p1.Kind, sv p1.Name, iv p1.At.X, iv p1.At.Y, sL zh p1.Points zg, iv p1.NX, iv p1.NY, sL Qc p1.Steps Qa], .agg #[iv p2.X, iv p2.Y]].toArray w.W fun e W' => ∃ (w' : Bs) (u : (Option Addr × Nat)), w.Le w' ∧ e = .returned (iv r.1) ∧ (SlF u.1 r.2.2.2.2.2.2.2.2.length u.2) ∧ HF w' W' (LEn [bx bp0 #[iv p0.p.Unit, sL zC p0.p.Tools zD, sL zO p0.p.Steps zN, sL QA p0.tools QC, sL u.1 r.2.2.2.2.2.2.2.2 u.2, bV r.2.1, iv r.2.2.1, iv r.2.2.2.1, iv r.2.2.2.2.1, bV r.2.2.2.2.2.1, iv r.2.2.2.2.2.2.1, iv r.2.2.2.2.2.2.2.1] 77, ow u.1 u.2 107 zL r.2.2.2.2.2.2.2.2]) := by
 unfold KW at H
 have Wz := (hE.sl (k := 1) rfl).form
 have leB := Bs.Le.refl w
 refine Tr.enter (n := 116) Tryz.func78 rfl rfl rfl hE ?_
 refine Tr.sr (Tr.box 2 (cs := [iv p1.Kind, sv p1.Name, iv p1.At.X, iv p1.At.Y, sL zh p1.Points zg, iv p1.NX, iv p1.NY, sL Qc p1.Steps Qa]) (wn rfl) rfl rfl rfl fun QE => ?_)
 refine Tr.box 3 (cs := [iv p2.X, iv p2.Y]) (wn rfl) rfl rfl rfl fun Qw => ?_
 refine Tr.asg rfl rfl (Tr.nil (Tr.zA (Tr.sr (Tr.mv rfl rfl (Tr.va rfl (fun _ _ a c => zB zDh (a.ev rfl)) ?_)))))
 refine Tr.va rfl (fun _ _ a c => zZ (cs := [iv p1.At.X, iv p1.At.Y]) VP Js (a.ev rfl) (zR.take (rdb c (vs := [iv p1.Kind, sv p1.Name, iv p1.At.X, iv p1.At.Y, sL zh p1.Points zg, iv p1.NX, iv p1.NY, sL Qc p1.Steps Qa]) (k := 2) rfl 2) 2) rfl) ?_
 refine Tr.va rfl (fun _ _ a c => zZ (cs := [iv p2.X, iv p2.Y]) VP Js (a.ev rfl) (zR.take (rdb c (vs := [iv p2.X, iv p2.Y]) (k := 3) rfl 0) 2) rfl) ?_
 obtain ⟨y102, hy102, H⟩ := bnd H
 refine Tr.JI (r := (.agg #[iv y102.X, iv y102.Y])) (wn rfl) rfl Tryz.call103 (zI rfl (zI rfl (zI rfl zT))) (fun W hW => zC0 p0 zC zD (zU.ext hW.Qx) zO zN (Qe.ext hW.Qx) QA QC (Ka.ext hW.Qx) QO QN (hW.zEA (k := 1) rfl) bp0 (hW.za0 (k := 0) rfl) (hW.zcn (k := 0) rfl) p1.At p2 y102 hy102 (HF.start _)) ?_
 refine Tr.alloc 4 (wn rfl) rfl zIo fun zLr => ?_
 refine Tr.store 4 (cs := [iv y102.X, iv y102.Y]) [iv y102.X, iv y102.Y] (wn rfl) rfl rfl rfl rfl Js rfl rfl rfl ?_
 refine Tr.nil (Tr.zA ?_)
 have leJ295 := Bs.Le.refl w
 refine Tr.zMx (σ := (List ze) × Bool × Int × Int × Int × Bool × Int × Int × (Option Addr) × Nat) (fun w s => JO s.1 s.2.1 s.2.2.1 s.2.2.2.1 s.2.2.2.2.1 s.2.2.2.2.2.1 s.2.2.2.2.2.2.1 s.2.2.2.2.2.2.2.1 = some r ∧ SlF s.2.2.2.2.2.2.2.2.1 s.1.length s.2.2.2.2.2.2.2.2.2) (fun s => []) (fun s => [(0, bx bp0 #[iv p0.p.Unit, sL zC p0.p.Tools zD, sL zO p0.p.Steps zN, sL QA p0.tools QC, sL s.2.2.2.2.2.2.2.2.1 s.1 s.2.2.2.2.2.2.2.2.2, bV s.2.1, iv s.2.2.1, iv s.2.2.2.1, iv s.2.2.2.2.1, bV s.2.2.2.2.2.1, iv s.2.2.2.2.2.2.1, iv s.2.2.2.2.2.2.2.1] 77), (1, ow s.2.2.2.2.2.2.2.2.1 s.2.2.2.2.2.2.2.2.2 107 zL s.1)]) ?_ ?_
 ·refine Tr.sr (Tr.va rfl (fun _ _ a c => zB zHv (a.ev rfl)) ?_)
  refine Tr.va rfl (fun _ _ a c => zF QH (a.ev rfl) (rdb c (vs := [iv p1.Kind, sv p1.Name, iv p1.At.X, iv p1.At.Y, sL zh p1.Points zg, iv p1.NX, iv p1.NY, sL Qc p1.Steps Qa]) (k := 2) rfl 0) rfl) ?_
  refine Tr.nil (Tr.zA (Tr.block ?_))
  have leJ298 := Bs.Le.refl w
  refine Tr.zMx (σ := Bool) (fun w s => Jf N p0 p1 p2 rec y102 s = some r) (fun s => [(0, pV bp0), (4, pV QE), (5, pV Qw), (7, pV zLr), (18, iv p1.Kind), (19, bV s)]) (fun s => [(0, bx bp0 #[iv p0.p.Unit, sL zC p0.p.Tools zD, sL zO p0.p.Steps zN, sL QA p0.tools QC, sL QO p0.image QN, bV p0.clear, iv p0.tool, iv p0.place.X, iv p0.place.Y, bV p0.placed, iv p0.off, iv p0.on] 77), (1, ow QO QN 107 zL p0.image), (2, bx QE #[iv p1.Kind, sv p1.Name, iv p1.At.X, iv p1.At.Y, sL zh p1.Points zg, iv p1.NX, iv p1.NY, sL Qc p1.Steps Qa] 46), (3, bx Qw #[iv p2.X, iv p2.Y] 43), (4, bx zLr #[iv y102.X, iv y102.Y] 43)]) ?_ ?_
  ·refine Tr.sr (Tr.va rfl (fun _ _ a c => Qn (a.ev rfl) (a.ev rfl)) ?_)
   refine Tr.asg rfl rfl (Tr.nil (Tr.zA (Tr.cond rfl H (fun H => ?_) (fun H => ?_))))
   ·exact Tr.skip (Tr.zn leJ298 (p1.Kind == 1) H (.cons rfl (.cons rfl (.cons rfl (.cons rfl (.cons rfl (.cons rfl .nil)))))) (.cons rfl (.cons rfl (.cons rfl (.cons rfl (.cons rfl .nil))))))
   ·refine Tr.region (Tr.va rfl (fun _ _ a c => Qn (a.ev rfl) (a.ev rfl)) ?_)
    exact Tr.asg rfl rfl (Tr.nil (Tr.zn leJ298 (p1.Kind == 2) H (.cons rfl (.cons rfl (.cons rfl (.cons rfl (.cons rfl (.cons rfl .nil)))))) (.cons rfl (.cons rfl (.cons rfl (.cons rfl (.cons rfl .nil)))))))
  ·intro w zbV hlJ299 hs
   have H := hs
   replace H : Jf N p0 p1 p2 rec y102 zbV = some r := H
   replace zU := zU.leR hlJ299
   replace Qe := Qe.leR hlJ299
   replace Ka := Ka.leR hlJ299
   replace Qh := Qh.leR hlJ299
   replace zDg := zDg.leR hlJ299
   replace leB := leB.trans hlJ299
   replace leJ295 := leJ295.trans hlJ299
   unfold Jf at H
   show Tr _ _ (LF [(0, pV bp0), (4, pV QE), (5, pV Qw), (7, pV zLr), (18, iv p1.Kind), (19, bV zbV)]) (LE [(0, bx bp0 #[iv p0.p.Unit, sL zC p0.p.Tools zD, sL zO p0.p.Steps zN, sL QA p0.tools QC, sL QO p0.image QN, bV p0.clear, iv p0.tool, iv p0.place.X, iv p0.place.Y, bV p0.placed, iv p0.off, iv p0.on] 77), (1, ow QO QN 107 zL p0.image), (2, bx QE #[iv p1.Kind, sv p1.Name, iv p1.At.X, iv p1.At.Y, sL zh p1.Points zg, iv p1.NX, iv p1.NY, sL Qc p1.Steps Qa] 46), (3, bx Qw #[iv p2.X, iv p2.Y] 43), (4, bx zLr #[iv y102.X, iv y102.Y] 43)]) _
   refine Tr.cond rfl H (fun H => ?_) (fun H => ?_)
   ·refine Tr.region (Tr.mv rfl rfl (Tr.va rfl (fun _ _ a c => zB zHv (a.ev rfl)) ?_))
    refine Tr.va rfl (fun _ _ a c => zF QH (a.ev rfl) (rdb c (vs := [iv p1.Kind, sv p1.Name, iv p1.At.X, iv p1.At.Y, sL zh p1.Points zg, iv p1.NX, iv p1.NY, sL Qc p1.Steps Qa]) (k := 2) rfl 0) rfl) ?_
    refine Tr.va rfl (fun _ _ a c => Qn (a.ev rfl) (a.ev rfl)) ?_
    refine Tr.va rfl (fun _ _ a c => zt (a.ev rfl)) ?_
    refine Tr.va rfl (fun _ _ a c => zB zWm (a.ev rfl)) ?_
    refine Tr.store 0 (cs := [bV (p1.Kind == 2)]) [iv p0.p.Unit, sL zC p0.p.Tools zD, sL zO p0.p.Steps zN, sL QA p0.tools QC, sL QO p0.image QN, bV (p1.Kind == 2), iv p0.tool, iv p0.place.X, iv p0.place.Y, bV p0.placed, iv p0.off, iv p0.on] (wn rfl) rfl rfl rfl rfl zYm rfl rfl rfl ?_
    exact Tr.nil (Tr.zl (Tr.zn leJ295 (p0.image, (p1.Kind == 2), p0.tool, p0.place.X, p0.place.Y, p0.placed, p0.off, p0.on, QO, QN) ⟨H, Wz⟩ .nil (.cons rfl (.cons rfl .nil))))
   ·refine Tr.sr (Tr.va rfl (fun _ _ a c => Qn (a.ev rfl) (a.ev rfl)) ?_)
    refine Tr.asg rfl rfl (Tr.nil (Tr.zA (Tr.cond rfl H (fun H => ?_) (fun H => ?_))))
    ·refine Tr.zCv 8 (by kernel_rfl) (by kernel_rfl) ?_
     refine Tq.mv rfl rfl (Tq.mv rfl rfl (Tq.va rfl (fun _ _ a c => zt (a.ev rfl)) ?_))
     refine Tq.va rfl (fun _ _ a c => zB zLe (a.ev rfl)) ?_
     refine Tq.va rfl (fun _ _ a c => zZ (cs := [iv p0.p.Unit, sL zC p0.p.Tools zD, sL zO p0.p.Steps zN]) WU VD (a.ev rfl) (zR.take (rdb c (vs := [iv p0.p.Unit, sL zC p0.p.Tools zD, sL zO p0.p.Steps zN, sL QA p0.tools QC, sL QO p0.image QN, bV p0.clear, iv p0.tool, iv p0.place.X, iv p0.place.Y, bV p0.placed, iv p0.off, iv p0.on]) (k := 0) rfl 0) 3) rfl) ?_
     refine Tq.va rfl (fun _ _ a c => zB zJ4 (a.ev rfl)) ?_
     refine Tq.va rfl (fun _ _ a c => zF zKy (a.ev rfl) (rdb c (vs := [iv p1.Kind, sv p1.Name, iv p1.At.X, iv p1.At.Y, sL zh p1.Points zg, iv p1.NX, iv p1.NY, sL Qc p1.Steps Qa]) (k := 2) rfl 1) rfl) ?_
     obtain ⟨zUs, zia, H⟩ := bnd H
     refine Tq.JI (r := (iv zUs)) (wn rfl) rfl Tryz.call96 (zI rfl (zI rfl zT)) (fun W hW => zHY p0.p zC zD (zU.ext hW.Qx) zO zN (Qe.ext hW.Qx) p1.Name zUs zia (HF.start _)) ?_
     refine Tq.nil (Tr.va rfl (fun _ _ a c => zt (a.ev rfl)) ?_)
     refine Tr.va rfl (fun _ _ a c => zB zLd (a.ev rfl)) ?_
     refine Tr.store 0 (cs := [iv zUs]) [iv p0.p.Unit, sL zC p0.p.Tools zD, sL zO p0.p.Steps zN, sL QA p0.tools QC, sL QO p0.image QN, bV p0.clear, iv zUs, iv p0.place.X, iv p0.place.Y, bV p0.placed, iv p0.off, iv p0.on] (wn rfl) rfl rfl rfl rfl zKQ rfl rfl rfl ?_
     exact Tr.nil (Tr.zl (Tr.zn leJ295 (p0.image, p0.clear, zUs, p0.place.X, p0.place.Y, p0.placed, p0.off, p0.on, QO, QN) ⟨H, Wz⟩ .nil (.cons rfl (.cons rfl .nil))))
    ·refine Tr.sr (Tr.va rfl (fun _ _ a c => Qn (a.ev rfl) (a.ev rfl)) ?_)
     refine Tr.asg rfl rfl (Tr.nil (Tr.zA (Tr.cond rfl H (fun H => ?_) (fun H => ?_))))
     ·refine Tr.seq (Tr.zCv 5 (by kernel_rfl) (by kernel_rfl) ?_)
      refine Tq.mv rfl rfl (Tq.va rfl (fun _ _ a c => zZ (cs := [iv y102.X, iv y102.Y]) VP Js (a.ev rfl) (zR.take (rdb c (vs := [iv y102.X, iv y102.Y]) (k := 4) rfl 0) 2) rfl) ?_)
      refine Tq.mv rfl rfl (Tq.va rfl (fun _ _ a c => zt (a.ev rfl)) ?_)
      refine Tq.va rfl (fun _ _ a c => zB zWl (a.ev rfl)) ?_
      refine Tq.nil ?_
      obtain ⟨zIc, ziZ, H⟩ := bnd H
      refine Tr.VM [0] [bx bp0 #[iv p0.p.Unit, sL zC p0.p.Tools zD, sL zO p0.p.Steps zN, sL QA p0.tools QC, sL QO p0.image QN, bV p0.clear, iv p0.tool, iv p0.place.X, iv p0.place.Y, bV p0.placed, iv p0.off, iv p0.on] 77] (U := Unit) (fun u => (iv zIc.1)) (fun u => True) (fun u => [bx bp0 #[iv p0.p.Unit, sL zC p0.p.Tools zD, sL zO p0.p.Steps zN, sL QA p0.tools QC, sL QO p0.image QN, bV p0.clear, iv p0.tool, iv zIc.2.1, iv zIc.2.2.1, bV zIc.2.2.2.1, iv zIc.2.2.2.2, iv p0.on] 77]) rfl (zQ rfl zf) (fun _ => rfl) (wn rfl) rfl Tryz.call104 (zI rfl (zI rfl (zI rfl zT))) (fun W hW hp hE => zBU p0 zC zD (zU.ext (hW.QM hp)) zO zN (Qe.ext (hW.QM hp)) QA QC (Ka.ext (hW.QM hp)) QO QN (hW.slS (k := 1) rfl hp rfl) bp0 y102 zIc ziZ hE) ?_
      intro u hu
      show Tr _ _ (uf _ 47 (iv zIc.1)) (up _ 0 (bx bp0 #[iv p0.p.Unit, sL zC p0.p.Tools zD, sL zO p0.p.Steps zN, sL QA p0.tools QC, sL QO p0.image QN, bV p0.clear, iv p0.tool, iv zIc.2.1, iv zIc.2.2.1, bV zIc.2.2.2.1, iv zIc.2.2.2.2, iv p0.on] 77)) _
      refine Tr.asg rfl rfl (Tr.nil (Tr.zA (Tr.ret (Tr.QT (Tr.zi ?_)))))
      obtain rfl := oI H
      exact Tr.out (m := [iv zIc.1]) [] (zW rfl zX) (fun W hW => ⟨w, (QO, QN), leB, rfl, Wz, hW.pick (ks := [0, 1]) (by decide) (zQ rfl (zQ rfl zf))⟩)
     ·refine Tr.sr (Tr.va rfl (fun _ _ a c => Qn (a.ev rfl) (a.ev rfl)) ?_)
      refine Tr.asg rfl rfl (Tr.nil (Tr.zA (Tr.cond rfl H (fun H => ?_) (fun H => ?_))))
      ·refine Tr.sr (Tr.mv rfl rfl (Tr.va rfl (fun _ _ a c => zZ (cs := [iv y102.X, iv y102.Y]) VP Js (a.ev rfl) (zR.take (rdb c (vs := [iv y102.X, iv y102.Y]) (k := 4) rfl 0) 2) rfl) ?_))
       obtain ⟨zEx, ziY, H⟩ := bnd H
       refine Tr.VT [0, 1] [bx bp0 #[iv p0.p.Unit, sL zC p0.p.Tools zD, sL zO p0.p.Steps zN, sL QA p0.tools QC, sL QO p0.image QN, bV p0.clear, iv p0.tool, iv p0.place.X, iv p0.place.Y, bV p0.placed, iv p0.off, iv p0.on] 77, ow QO QN 107 zL p0.image] (U := (Option Addr × Nat)) (fun u => (iv zEx.1)) (fun O W u => SlF u.1 zEx.2.2.2.2.2.length u.2) (fun u => [bx bp0 #[iv p0.p.Unit, sL zC p0.p.Tools zD, sL zO p0.p.Steps zN, sL QA p0.tools QC, sL u.1 zEx.2.2.2.2.2 u.2, bV p0.clear, iv p0.tool, iv zEx.2.1, iv zEx.2.2.1, bV zEx.2.2.2.1, iv zEx.2.2.2.2.1, iv p0.on] 77, ow u.1 u.2 107 zL zEx.2.2.2.2.2]) rfl (zQ rfl (zQ rfl zf)) (fun _ => rfl) (wn rfl) rfl Tryz.call105 (zI rfl (zI rfl zT)) (fun W hW hp hE => zG5 N p0 zC zD (zU.ext (hW.QM hp)) zO zN (Qe.ext (hW.QM hp)) QA QC (Ka.ext (hW.QM hp)) QO QN bp0 y102 zEx ziY hE) ?_
       intro w u ziB hu
       obtain ⟨zOI, zNy⟩ := u
       have gy303_0 := hu
       replace leB := leB.trans ziB
       have zaI : SlF zOI zEx.2.2.2.2.2.length zNy := gy303_0 --@phi
       show Tr _ _ (uf _ 52 (iv zEx.1)) (up (up _ 1 (ow zOI zNy 107 zL zEx.2.2.2.2.2)) 0 (bx bp0 #[iv p0.p.Unit, sL zC p0.p.Tools zD, sL zO p0.p.Steps zN, sL QA p0.tools QC, sL zOI zEx.2.2.2.2.2 zNy, bV p0.clear, iv p0.tool, iv zEx.2.1, iv zEx.2.2.1, bV zEx.2.2.2.1, iv zEx.2.2.2.2.1, iv p0.on] 77)) _
       refine Tr.asg rfl rfl (Tr.nil (Tr.zA (Tr.ret (Tr.QT (Tr.zi ?_)))))
       obtain rfl := oI H
       exact Tr.out (m := [iv zEx.1]) [] (zW rfl zX) (fun W hW => ⟨w, (zOI, zNy), leB, rfl, zaI, hW.pick (ks := [0, 1]) (by decide) (zQ rfl (zQ rfl zf))⟩)
      ·refine Tr.sr (Tr.va rfl (fun _ _ a c => Qn (a.ev rfl) (a.ev rfl)) ?_)
       refine Tr.asg rfl rfl (Tr.nil (Tr.zA (Tr.cond rfl H (fun H => ?_) (fun H => ?_))))
       ·refine Tr.sr (Tr.mv rfl rfl (Tr.va rfl (fun _ _ a c => zZ (cs := [iv y102.X, iv y102.Y]) VP Js (a.ev rfl) (zR.take (rdb c (vs := [iv y102.X, iv y102.Y]) (k := 4) rfl 0) 2) rfl) ?_))
        obtain ⟨zEw, ziX, H⟩ := bnd H
        refine Tr.VT [0, 1] [bx bp0 #[iv p0.p.Unit, sL zC p0.p.Tools zD, sL zO p0.p.Steps zN, sL QA p0.tools QC, sL QO p0.image QN, bV p0.clear, iv p0.tool, iv p0.place.X, iv p0.place.Y, bV p0.placed, iv p0.off, iv p0.on] 77, ow QO QN 107 zL p0.image] (U := (Option Addr × Nat)) (fun u => (iv zEw.1)) (fun O W u => SlF u.1 zEw.2.2.2.2.2.length u.2) (fun u => [bx bp0 #[iv p0.p.Unit, sL zC p0.p.Tools zD, sL zO p0.p.Steps zN, sL QA p0.tools QC, sL u.1 zEw.2.2.2.2.2 u.2, bV p0.clear, iv p0.tool, iv zEw.2.1, iv zEw.2.2.1, bV zEw.2.2.2.1, iv p0.off, iv zEw.2.2.2.2.1] 77, ow u.1 u.2 107 zL zEw.2.2.2.2.2]) rfl (zQ rfl (zQ rfl zf)) (fun _ => rfl) (wn rfl) rfl Tryz.call106 (zI rfl (zI rfl zT)) (fun W hW hp hE => zHa N p0 zC zD (zU.ext (hW.QM hp)) zO zN (Qe.ext (hW.QM hp)) QA QC (Ka.ext (hW.QM hp)) QO QN bp0 y102 zEw ziX hE) ?_
        intro w u ziA hu
        obtain ⟨zOH, zNx⟩ := u
        have gy305_0 := hu
        replace leB := leB.trans ziA
        have zaH : SlF zOH zEw.2.2.2.2.2.length zNx := gy305_0 --@phi
        show Tr _ _ (uf _ 57 (iv zEw.1)) (up (up _ 1 (ow zOH zNx 107 zL zEw.2.2.2.2.2)) 0 (bx bp0 #[iv p0.p.Unit, sL zC p0.p.Tools zD, sL zO p0.p.Steps zN, sL QA p0.tools QC, sL zOH zEw.2.2.2.2.2 zNx, bV p0.clear, iv p0.tool, iv zEw.2.1, iv zEw.2.2.1, bV zEw.2.2.2.1, iv p0.off, iv zEw.2.2.2.2.1] 77)) _
        refine Tr.asg rfl rfl (Tr.nil (Tr.zA (Tr.ret (Tr.QT (Tr.zi ?_)))))
        obtain rfl := oI H
        exact Tr.out (m := [iv zEw.1]) [] (zW rfl zX) (fun W hW => ⟨w, (zOH, zNx), leB, rfl, zaH, hW.pick (ks := [0, 1]) (by decide) (zQ rfl (zQ rfl zf))⟩)
       ·refine Tr.sr (Tr.va rfl (fun _ _ a c => Qn (a.ev rfl) (a.ev rfl)) ?_)
        refine Tr.asg rfl rfl (Tr.nil (Tr.zA (Tr.cond rfl H (fun H => ?_) (fun H => ?_))))
        ·refine Tr.sr (Tr.mv rfl rfl (Tr.va rfl (fun _ _ a c => zB zCW (a.ev rfl)) ?_))
         refine Tr.va rfl (fun _ _ a c => zF zIW (a.ev rfl) (rdb c (vs := [iv p1.Kind, sv p1.Name, iv p1.At.X, iv p1.At.Y, sL zh p1.Points zg, iv p1.NX, iv p1.NY, sL Qc p1.Steps Qa]) (k := 2) rfl 4) rfl) ?_
         refine Tr.va rfl (fun _ _ a c => zZ (cs := [iv p2.X, iv p2.Y]) VP Js (a.ev rfl) (zR.take (rdb c (vs := [iv p2.X, iv p2.Y]) (k := 3) rfl 0) 2) rfl) ?_
         obtain ⟨zME, ziW, H⟩ := bnd H
         refine Tr.VT [0, 1] [bx bp0 #[iv p0.p.Unit, sL zC p0.p.Tools zD, sL zO p0.p.Steps zN, sL QA p0.tools QC, sL QO p0.image QN, bV p0.clear, iv p0.tool, iv p0.place.X, iv p0.place.Y, bV p0.placed, iv p0.off, iv p0.on] 77, ow QO QN 107 zL p0.image] (U := (Option Addr × Nat)) (fun u => (iv zME.1)) (fun O W u => SlF u.1 zME.2.length u.2) (fun u => [bx bp0 #[iv p0.p.Unit, sL zC p0.p.Tools zD, sL zO p0.p.Steps zN, sL QA p0.tools QC, sL u.1 zME.2 u.2, bV p0.clear, iv p0.tool, iv p0.place.X, iv p0.place.Y, bV p0.placed, iv p0.off, iv p0.on] 77, ow u.1 u.2 107 zL zME.2]) rfl (zQ rfl (zQ rfl zf)) (fun _ => rfl) (wn rfl) rfl Tryz.call107 (zI rfl (zI rfl (zI rfl zT))) (fun W hW hp hE => zHb N p0 zC zD (zU.ext (hW.QM hp)) zO zN (Qe.ext (hW.QM hp)) QA QC (Ka.ext (hW.QM hp)) QO QN bp0 p1.Points zh zg (Qh.ext (hW.QM hp)) p2 zME ziW hE) ?_
         intro w u zh9 hu
         obtain ⟨zOG, zNw⟩ := u
         have gy307_0 := hu
         replace leB := leB.trans zh9
         have zaG : SlF zOG zME.2.length zNw := gy307_0 --@phi
         show Tr _ _ (uf _ 64 (iv zME.1)) (up (up _ 1 (ow zOG zNw 107 zL zME.2)) 0 (bx bp0 #[iv p0.p.Unit, sL zC p0.p.Tools zD, sL zO p0.p.Steps zN, sL QA p0.tools QC, sL zOG zME.2 zNw, bV p0.clear, iv p0.tool, iv p0.place.X, iv p0.place.Y, bV p0.placed, iv p0.off, iv p0.on] 77)) _
         refine Tr.asg rfl rfl (Tr.nil (Tr.zA (Tr.ret (Tr.QT (Tr.zi ?_)))))
         obtain rfl := oI H
         exact Tr.out (m := [iv zME.1]) [] (zW rfl zX) (fun W hW => ⟨w, (zOG, zNw), leB, rfl, zaG, hW.pick (ks := [0, 1]) (by decide) (zQ rfl (zQ rfl zf))⟩)
        ·refine Tr.sr (Tr.va rfl (fun _ _ a c => Qn (a.ev rfl) (a.ev rfl)) ?_)
         refine Tr.asg rfl rfl (Tr.nil (Tr.zA (Tr.cond rfl H (fun H => ?_) (fun H => ?_))))
         ·refine Tr.sr (Tr.va rfl (fun _ _ a c => zB zLf (a.ev rfl)) ?_)
          refine Tr.va rfl (fun _ _ a c => zF QH (a.ev rfl) (rdb c (vs := [iv p1.Kind, sv p1.Name, iv p1.At.X, iv p1.At.Y, sL zh p1.Points zg, iv p1.NX, iv p1.NY, sL Qc p1.Steps Qa]) (k := 2) rfl 6) rfl) ?_
          refine Tr.mv rfl rfl (Tr.nil (Tr.zA (Tr.block (Tr.loop (σ := (List ze) × Bool × Int × Int × Int × Bool × Int × Int × Int × (Option Addr) × Nat) (fun m w s => JA N p0 p1 p2 rec m s.1 s.2.1 s.2.2.1 s.2.2.2.1 s.2.2.2.2.1 s.2.2.2.2.2.1 s.2.2.2.2.2.2.1 s.2.2.2.2.2.2.2.1 s.2.2.2.2.2.2.2.2.1 = some r ∧ SlF s.2.2.2.2.2.2.2.2.2.1 s.1.length s.2.2.2.2.2.2.2.2.2.2) (fun s => [(0, pV bp0), (4, pV QE), (5, pV Qw), (68, iv p1.NY), (69, iv s.2.2.2.2.2.2.2.2.1)]) (fun s => [(0, bx bp0 #[iv p0.p.Unit, sL zC p0.p.Tools zD, sL zO p0.p.Steps zN, sL QA p0.tools QC, sL s.2.2.2.2.2.2.2.2.2.1 s.1 s.2.2.2.2.2.2.2.2.2.2, bV s.2.1, iv s.2.2.1, iv s.2.2.2.1, iv s.2.2.2.2.1, bV s.2.2.2.2.2.1, iv s.2.2.2.2.2.2.1, iv s.2.2.2.2.2.2.2.1] 77), (1, ow s.2.2.2.2.2.2.2.2.2.1 s.2.2.2.2.2.2.2.2.2.2 107 zL s.1), (2, bx QE #[iv p1.Kind, sv p1.Name, iv p1.At.X, iv p1.At.Y, sL zh p1.Points zg, iv p1.NX, iv p1.NY, sL Qc p1.Steps Qa] 46), (3, bx Qw #[iv p2.X, iv p2.Y] 43)]) N (p0.image, p0.clear, p0.tool, p0.place.X, p0.place.Y, p0.placed, p0.off, p0.on, 0, QO, QN) ⟨H, Wz⟩ (.cons rfl (.cons rfl (.cons rfl (.cons rfl (.cons rfl .nil))))) (.cons rfl (.cons rfl (.cons rfl (.cons rfl .nil)))) (fun _ _ h => zA0 (h.1)) ?_))))
          intro w zE6 mL9 s hs
          obtain ⟨zRx, zU4, zU3, zU2, zU1, zU0, zUz, zUy, zCn, zUn, zUW⟩ := s
          obtain ⟨H, zWc⟩ := hs
          replace H : JA N p0 p1 p2 rec (mL9 + 1) zRx zU4 zU3 zU2 zU1 zU0 zUz zUy zCn = some r := H
          replace zU := zU.leR zE6
          replace Qe := Qe.leR zE6
          replace Ka := Ka.leR zE6
          replace zDg := zDg.leR zE6
          replace leB := leB.trans zE6
          replace leJ295 := leJ295.trans zE6
          replace zWc : SlF zUn zRx.length zUW := zWc
          rw [JA.eq_2] at H
          show Tr _ _ (LF [(0, pV bp0), (4, pV QE), (5, pV Qw), (68, iv p1.NY), (69, iv zCn)]) (LE [(0, bx bp0 #[iv p0.p.Unit, sL zC p0.p.Tools zD, sL zO p0.p.Steps zN, sL QA p0.tools QC, sL zUn zRx zUW, bV zU4, iv zU3, iv zU2, iv zU1, bV zU0, iv zUz, iv zUy] 77), (1, ow zUn zUW 107 zL zRx), (2, bx QE #[iv p1.Kind, sv p1.Name, iv p1.At.X, iv p1.At.Y, sL zh p1.Points zg, iv p1.NX, iv p1.NY, sL Qc p1.Steps Qa] 46), (3, bx Qw #[iv p2.X, iv p2.Y] 43)]) _
          refine Tr.sr (Tr.va rfl (fun _ _ a c => QI (a.ev rfl) (a.ev rfl)) ?_)
          refine Tr.nil (Tr.zA (Tr.seq (Tr.cond rfl H (fun H => ?_) (fun H => ?_))))
          ·refine Tr.skip (Tr.zA (Tr.seq (Tr.block (Tr.sr (Tr.mv rfl rfl (Tr.asg rfl rfl (Tr.nil (Tr.zA (Tr.sr (Tr.va rfl (fun _ _ a c => zB zLg (a.ev rfl)) ?_))))))))))
           refine Tr.va rfl (fun _ _ a c => zF QH (a.ev rfl) (rdb c (vs := [iv p1.Kind, sv p1.Name, iv p1.At.X, iv p1.At.Y, sL zh p1.Points zg, iv p1.NX, iv p1.NY, sL Qc p1.Steps Qa]) (k := 2) rfl 5) rfl) ?_
           refine Tr.mv rfl rfl (Tr.nil (Tr.zA (Tr.block (Tr.loop (σ := (List ze) × Bool × Int × Int × Int × Bool × Int × Int × Int × (Option Addr) × Nat) (fun m w s => Je p0 p1 p2 rec zCn (JA N p0 p1 p2 rec mL9) m s.1 s.2.1 s.2.2.1 s.2.2.2.1 s.2.2.2.2.1 s.2.2.2.2.2.1 s.2.2.2.2.2.2.1 s.2.2.2.2.2.2.2.1 s.2.2.2.2.2.2.2.2.1 = some r ∧ SlF s.2.2.2.2.2.2.2.2.2.1 s.1.length s.2.2.2.2.2.2.2.2.2.2) (fun s => [(0, pV bp0), (4, pV QE), (5, pV Qw), (8, iv zCn), (68, iv p1.NY), (69, iv zCn), (73, iv p1.NX), (74, iv s.2.2.2.2.2.2.2.2.1)]) (fun s => [(0, bx bp0 #[iv p0.p.Unit, sL zC p0.p.Tools zD, sL zO p0.p.Steps zN, sL QA p0.tools QC, sL s.2.2.2.2.2.2.2.2.2.1 s.1 s.2.2.2.2.2.2.2.2.2.2, bV s.2.1, iv s.2.2.1, iv s.2.2.2.1, iv s.2.2.2.2.1, bV s.2.2.2.2.2.1, iv s.2.2.2.2.2.2.1, iv s.2.2.2.2.2.2.2.1] 77), (1, ow s.2.2.2.2.2.2.2.2.2.1 s.2.2.2.2.2.2.2.2.2.2 107 zL s.1), (2, bx QE #[iv p1.Kind, sv p1.Name, iv p1.At.X, iv p1.At.Y, sL zh p1.Points zg, iv p1.NX, iv p1.NY, sL Qc p1.Steps Qa] 46), (3, bx Qw #[iv p2.X, iv p2.Y] 43)]) N (zRx, zU4, zU3, zU2, zU1, zU0, zUz, zUy, 0, zUn, zUW) ⟨H, zWc⟩ (.cons rfl (.cons rfl (.cons rfl (.cons rfl (.cons rfl (.cons rfl (.cons rfl (.cons rfl .nil)))))))) (.cons rfl (.cons rfl (.cons rfl (.cons rfl .nil)))) (fun _ _ h => zA0 (h.1)) ?_))))
           intro w zGe zVR s hs
           obtain ⟨zKp, zOd, zOc, zOb, zOa, zOZ, zOY, zOX, zE2, zJZ, zJL⟩ := s
           obtain ⟨H, zZx⟩ := hs
           replace H : Je p0 p1 p2 rec zCn (JA N p0 p1 p2 rec mL9) (zVR + 1) zKp zOd zOc zOb zOa zOZ zOY zOX zE2 = some r := H
           replace zU := zU.leR zGe
           replace Qe := Qe.leR zGe
           replace Ka := Ka.leR zGe
           replace zDg := zDg.leR zGe
           replace leB := leB.trans zGe
           replace zE6 := zE6.trans zGe
           replace zZx : SlF zJZ zKp.length zJL := zZx
           rw [Je.eq_2] at H
           show Tr _ _ (LF [(0, pV bp0), (4, pV QE), (5, pV Qw), (8, iv zCn), (68, iv p1.NY), (69, iv zCn), (73, iv p1.NX), (74, iv zE2)]) (LE [(0, bx bp0 #[iv p0.p.Unit, sL zC p0.p.Tools zD, sL zO p0.p.Steps zN, sL QA p0.tools QC, sL zJZ zKp zJL, bV zOd, iv zOc, iv zOb, iv zOa, bV zOZ, iv zOY, iv zOX] 77), (1, ow zJZ zJL 107 zL zKp), (2, bx QE #[iv p1.Kind, sv p1.Name, iv p1.At.X, iv p1.At.Y, sL zh p1.Points zg, iv p1.NX, iv p1.NY, sL Qc p1.Steps Qa] 46), (3, bx Qw #[iv p2.X, iv p2.Y] 43)]) _
           refine Tr.sr (Tr.va rfl (fun _ _ a c => QI (a.ev rfl) (a.ev rfl)) ?_)
           refine Tr.nil (Tr.zA (Tr.seq (Tr.cond rfl H (fun H => ?_) (fun H => ?_))))
           ·refine Tr.skip (Tr.zA (Tr.seq (Tr.block (Tr.sr (Tr.mv rfl rfl (Tr.asg rfl rfl (Tr.nil (Tr.zA (Tr.seq (Tr.zan 30 [(29, .makeFunc (.func 0) #[] #[])] [(29, ⟨10, 22, .func (.func 0) #[] #[], fun b => pV b, fun b => bx b #[iv 0, iv 0] 43⟩)] [(0, pV bp0), (4, pV QE), (5, pV Qw), (8, iv zCn), (9, iv zE2), (10, .func (.func 0) #[] #[]), (68, iv p1.NY), (69, iv zCn), (73, iv p1.NX), (74, iv zE2), (75, bV (decide (zE2 < p1.NX))), (76, iv zE2), (77, pV Qw), (78, iv p2.X), (79, iv zE2), (80, .pointer (some ⟨QE, 2, none⟩)), (81, .pointer (some ⟨QE, 2, none⟩)), (82, iv p1.At.X), (83, iv (w64 (zE2 * p1.At.X))), (84, pV bp0), (85, pV bp0), (86, pV bp0), (87, pV bp0), (88, iv p0.p.Unit), (89, iv (w64 ((w64 (zE2 * p1.At.X)) * p0.p.Unit))), (90, iv (w64 (p2.X + (w64 ((w64 (zE2 * p1.At.X)) * p0.p.Unit))))), (91, .pointer (some ⟨Qw, 1, none⟩)), (92, iv p2.Y), (93, iv zCn), (94, .pointer (some ⟨QE, 2, none⟩)), (95, .pointer (some ⟨QE, 3, none⟩)), (96, iv p1.At.Y), (97, iv (w64 (zCn * p1.At.Y))), (98, pV bp0), (99, pV bp0), (100, pV bp0), (101, pV bp0), (102, iv p0.p.Unit), (103, iv (w64 ((w64 (zCn * p1.At.Y)) * p0.p.Unit))), (104, iv (w64 (p2.Y + (w64 ((w64 (zCn * p1.At.Y)) * p0.p.Unit))))), (105, .agg #[iv (w64 (p2.X + (w64 ((w64 (zE2 * p1.At.X)) * p0.p.Unit)))), iv (w64 (p2.Y + (w64 ((w64 (zCn * p1.At.Y)) * p0.p.Unit))))])] (by kernel_rfl) (by kernel_rfl) (by kernel_rfl) (by kernel_rfl) (by kernel_rfl) (by kernel_rfl) (by kernel_rfl) (zCX (zUJ rfl rfl zIo) zDm) (zCX rfl zDm) (zCX rfl zDm) ?_ ?_))))))))))
            ·refine Tq.va rfl (fun _ _ a c => zB Vm (a.ev rfl)) ?_
             refine Tq.va rfl (fun _ _ a c => zF QH (a.ev rfl) (rdb c (vs := [iv p2.X, iv p2.Y]) (k := 3) rfl 0) rfl) ?_
             refine Tq.mv rfl rfl (Tq.va rfl (fun _ _ a c => zB zDh (a.ev rfl)) ?_)
             refine Tq.va rfl (fun _ _ a c => zB Vm (a.ev rfl)) ?_
             refine Tq.va rfl (fun _ _ a c => zF QH (a.ev rfl) (rdb c (vs := [iv p1.Kind, sv p1.Name, iv p1.At.X, iv p1.At.Y, sL zh p1.Points zg, iv p1.NX, iv p1.NY, sL Qc p1.Steps Qa]) (k := 2) rfl 2) rfl) ?_
             refine Tq.va rfl (fun _ _ a c => zBu (a.ev rfl) (a.ev rfl)) ?_
             refine Tq.mv rfl rfl (Tq.va rfl (fun _ _ a c => zt (a.ev rfl)) ?_)
             refine Tq.va rfl (fun _ _ a c => zB zLe (a.ev rfl)) ?_
             refine Tq.va rfl (fun _ _ a c => zB WS (a.ev rfl)) ?_
             refine Tq.va rfl (fun _ _ a c => zF QH (a.ev rfl) (rdb c (vs := [iv p0.p.Unit, sL zC p0.p.Tools zD, sL zO p0.p.Steps zN, sL QA p0.tools QC, sL zJZ zKp zJL, bV zOd, iv zOc, iv zOb, iv zOa, bV zOZ, iv zOY, iv zOX]) (k := 0) rfl 0) rfl) ?_
             refine Tq.va rfl (fun _ _ a c => zBu (a.ev rfl) (a.ev rfl)) ?_
             refine Tq.va rfl (fun _ _ a c => QK (a.ev rfl) (a.ev rfl)) ?_
             refine Tq.va rfl (fun _ _ a c => zB VZ (a.ev rfl)) ?_
             refine Tq.va rfl (fun _ _ a c => zF QH (a.ev rfl) (rdb c (vs := [iv p2.X, iv p2.Y]) (k := 3) rfl 1) rfl) ?_
             refine Tq.mv rfl rfl (Tq.va rfl (fun _ _ a c => zB zDh (a.ev rfl)) ?_)
             refine Tq.va rfl (fun _ _ a c => zB VZ (a.ev rfl)) ?_
             refine Tq.va rfl (fun _ _ a c => zF QH (a.ev rfl) (rdb c (vs := [iv p1.Kind, sv p1.Name, iv p1.At.X, iv p1.At.Y, sL zh p1.Points zg, iv p1.NX, iv p1.NY, sL Qc p1.Steps Qa]) (k := 2) rfl 3) rfl) ?_
             refine Tq.va rfl (fun _ _ a c => zBu (a.ev rfl) (a.ev rfl)) ?_
             refine Tq.mv rfl rfl (Tq.va rfl (fun _ _ a c => zt (a.ev rfl)) ?_)
             refine Tq.va rfl (fun _ _ a c => zB zLe (a.ev rfl)) ?_
             refine Tq.va rfl (fun _ _ a c => zB WS (a.ev rfl)) ?_
             refine Tq.va rfl (fun _ _ a c => zF QH (a.ev rfl) (rdb c (vs := [iv p0.p.Unit, sL zC p0.p.Tools zD, sL zO p0.p.Steps zN, sL QA p0.tools QC, sL zJZ zKp zJL, bV zOd, iv zOc, iv zOb, iv zOa, bV zOZ, iv zOY, iv zOX]) (k := 0) rfl 0) rfl) ?_
             refine Tq.va rfl (fun _ _ a c => zBu (a.ev rfl) (a.ev rfl)) ?_
             refine Tq.va rfl (fun _ _ a c => QK (a.ev rfl) (a.ev rfl)) ?_
             refine Tq.build (vs := [(0, iv (w64 (p2.X + (w64 ((w64 (zE2 * p1.At.X)) * p0.p.Unit))))), (1, iv (w64 (p2.Y + (w64 ((w64 (zCn * p1.At.Y)) * p0.p.Unit)))))]) (cs := [iv (w64 (p2.X + (w64 ((w64 (zE2 * p1.At.X)) * p0.p.Unit)))), iv (w64 (p2.Y + (w64 ((w64 (zCn * p1.At.Y)) * p0.p.Unit))))]) (wn rfl) rfl (zq rfl (zq rfl Qi)) (by kernel_rfl) ?_
             refine Tq.zE5 (vs := []) (wn rfl) rfl zT ?_
             exact Tq.fin (.cons rfl (.cons rfl (.cons rfl (.cons rfl (.cons rfl (.cons rfl (.cons rfl (.cons rfl (.cons rfl (.cons rfl (.cons rfl (.cons rfl (.cons rfl (.cons rfl (.cons rfl (.cons rfl (.cons rfl (.cons rfl (.cons rfl (.cons rfl (.cons rfl (.cons rfl (.cons rfl (.cons rfl (.cons rfl (.cons rfl (.cons rfl (.cons rfl (.cons rfl (.cons rfl (.cons rfl (.cons rfl (.cons rfl (.cons rfl (.cons rfl (.cons rfl (.cons rfl (.cons rfl (.cons rfl (.cons rfl (.cons rfl .nil)))))))))))))))))))))))))))))))))))))))))
            ·intro bs477
             refine Tr.sel (lf := [(0, pV bp0), (4, pV QE), (5, pV Qw), (8, iv zCn), (10, .pointer (some ⟨(bs477 29), 0, none⟩)), (68, iv p1.NY), (69, iv zCn), (73, iv p1.NX), (74, iv zE2), (105, .agg #[iv (w64 (p2.X + (w64 ((w64 (zE2 * p1.At.X)) * p0.p.Unit)))), iv (w64 (p2.Y + (w64 ((w64 (zCn * p1.At.Y)) * p0.p.Unit))))])]) (le := [(0, bx bp0 #[iv p0.p.Unit, sL zC p0.p.Tools zD, sL zO p0.p.Steps zN, sL QA p0.tools QC, sL zJZ zKp zJL, bV zOd, iv zOc, iv zOb, iv zOa, bV zOZ, iv zOY, iv zOX] 77), (1, ow zJZ zJL 107 zL zKp), (2, bx QE #[iv p1.Kind, sv p1.Name, iv p1.At.X, iv p1.At.Y, sL zh p1.Points zg, iv p1.NX, iv p1.NY, sL Qc p1.Steps Qa] 46), (3, bx Qw #[iv p2.X, iv p2.Y] 43), (22, bx (bs477 29) #[iv 0, iv 0] 43)]) (.cons rfl (.cons rfl (.cons rfl (.cons rfl (.cons rfl (.cons rfl (.cons rfl (.cons rfl (.cons rfl (.cons rfl .nil)))))))))) (.cons rfl (.cons rfl (.cons rfl (.cons rfl (.cons rfl .nil))))) ?_
             refine Tr.store 22 (cs := [iv (w64 (p2.X + (w64 ((w64 (zE2 * p1.At.X)) * p0.p.Unit)))), iv (w64 (p2.Y + (w64 ((w64 (zCn * p1.At.Y)) * p0.p.Unit))))]) [iv (w64 (p2.X + (w64 ((w64 (zE2 * p1.At.X)) * p0.p.Unit)))), iv (w64 (p2.Y + (w64 ((w64 (zCn * p1.At.Y)) * p0.p.Unit))))] (wn rfl) rfl rfl rfl rfl Js rfl rfl rfl ?_
             refine Tr.nil (Tr.zA (Tr.sr (Tr.mv rfl rfl (Tr.va rfl (fun _ _ a c => zB zC4 (a.ev rfl)) ?_))))
             refine Tr.va rfl (fun _ _ a c => zF zDp (a.ev rfl) (rdb c (vs := [iv p1.Kind, sv p1.Name, iv p1.At.X, iv p1.At.Y, sL zh p1.Points zg, iv p1.NX, iv p1.NY, sL Qc p1.Steps Qa]) (k := 2) rfl 7) rfl) ?_
             refine Tr.va rfl (fun _ _ a c => zZ (cs := [iv (w64 (p2.X + (w64 ((w64 (zE2 * p1.At.X)) * p0.p.Unit)))), iv (w64 (p2.Y + (w64 ((w64 (zCn * p1.At.Y)) * p0.p.Unit))))]) VP Js (a.ev rfl) (zR.take (rdb c (vs := [iv (w64 (p2.X + (w64 ((w64 (zE2 * p1.At.X)) * p0.p.Unit)))), iv (w64 (p2.Y + (w64 ((w64 (zCn * p1.At.Y)) * p0.p.Unit))))]) (k := 22) rfl 0) 2) rfl) ?_
             obtain ⟨WZ, ziQ, H⟩ := bnd H
             refine Tr.VT [0, 1] [bx bp0 #[iv p0.p.Unit, sL zC p0.p.Tools zD, sL zO p0.p.Steps zN, sL QA p0.tools QC, sL zJZ zKp zJL, bV zOd, iv zOc, iv zOb, iv zOa, bV zOZ, iv zOY, iv zOX] 77, ow zJZ zJL 107 zL zKp] (U := (Option Addr × Nat)) (fun u => (iv WZ.1)) (fun O W u => SlF u.1 WZ.2.2.2.2.2.2.2.2.length u.2) (fun u => [bx bp0 #[iv p0.p.Unit, sL zC p0.p.Tools zD, sL zO p0.p.Steps zN, sL QA p0.tools QC, sL u.1 WZ.2.2.2.2.2.2.2.2 u.2, bV WZ.2.1, iv WZ.2.2.1, iv WZ.2.2.2.1, iv WZ.2.2.2.2.1, bV WZ.2.2.2.2.2.1, iv WZ.2.2.2.2.2.2.1, iv WZ.2.2.2.2.2.2.2.1] 77, ow u.1 u.2 107 zL WZ.2.2.2.2.2.2.2.2]) rfl (zQ rfl (zQ rfl zf)) (fun _ => rfl) (wn rfl) rfl Tryz.call56 (zI rfl (zI rfl (zI rfl zT))) (fun W hW hp hE => hrec (QQ.mk p0.p p0.tools zKp zOd zOc (zJ.mk zOb zOa) zOZ zOY zOX) zC zD (zU.ext (hW.QM hp)) zO zN (Qe.ext (hW.QM hp)) QA QC (Ka.ext (hW.QM hp)) zJZ zJL bp0 p1.Steps Qc Qa (zDg.ext (hW.QM hp)) (zJ.mk (w64 (p2.X + (w64 ((w64 (zE2 * p1.At.X)) * p0.p.Unit)))) (w64 (p2.Y + (w64 ((w64 (zCn * p1.At.Y)) * p0.p.Unit))))) WZ ziQ hE) ?_
             intro w u zdB hu
             obtain ⟨zL6, zLj⟩ := u
             have gy478_0 := hu
             replace leB := leB.trans zdB
             replace zGe := zGe.trans zdB
             have zT9 : SlF zL6 WZ.2.2.2.2.2.2.2.2.length zLj := gy478_0 --@phi
             show Tr _ _ (uf _ 110 (iv WZ.1)) (up (up _ 1 (ow zL6 zLj 107 zL WZ.2.2.2.2.2.2.2.2)) 0 (bx bp0 #[iv p0.p.Unit, sL zC p0.p.Tools zD, sL zO p0.p.Steps zN, sL QA p0.tools QC, sL zL6 WZ.2.2.2.2.2.2.2.2 zLj, bV WZ.2.1, iv WZ.2.2.1, iv WZ.2.2.2.1, iv WZ.2.2.2.2.1, bV WZ.2.2.2.2.2.1, iv WZ.2.2.2.2.2.2.1, iv WZ.2.2.2.2.2.2.2.1] 77)) _
             refine Tr.asg rfl rfl (Tr.nil (Tr.zA (Tr.sr (Tr.mv rfl rfl (Tr.va rfl (fun _ _ a c => KY (a.ev rfl) (a.ev rfl)) ?_)))))
             refine Tr.nil (Tr.zA (Tr.cond rfl H (fun H => ?_) (fun H => ?_)))
             ·refine Tr.sr (Tr.mv rfl rfl (Tr.asg rfl rfl (Tr.nil (Tr.zA (Tr.ret (Tr.QT (Tr.zi (Tr.zi (Tr.QT (Tr.QT (Tr.zi (Tr.zi (Tr.QT (Tr.QT (Tr.zi ?_)))))))))))))))
              obtain rfl := oI H
              exact Tr.out (m := [iv WZ.1]) [] (zW rfl zX) (fun W hW => ⟨w, (zL6, zLj), leB, rfl, zT9, hW.pick (ks := [0, 1]) (by decide) (zQ rfl (zQ rfl zf))⟩)
             ·refine Tr.skip (Tr.zl (Tr.zA (Tr.region (Tr.va rfl (fun _ _ a c => QK (a.ev rfl) (a.ev rfl)) ?_))))
              exact Tr.mv rfl rfl (Tr.nil (Tr.zn zGe (WZ.2.2.2.2.2.2.2.2, WZ.2.1, WZ.2.2.1, WZ.2.2.2.1, WZ.2.2.2.2.1, WZ.2.2.2.2.2.1, WZ.2.2.2.2.2.2.1, WZ.2.2.2.2.2.2.2.1, (w64 (zE2 + 1)), zL6, zLj) ⟨H, zT9⟩ (.cons rfl (.cons rfl (.cons rfl (.cons rfl (.cons rfl (.cons rfl (.cons rfl (.cons rfl .nil)))))))) (.cons rfl (.cons rfl (.cons rfl (.cons rfl .nil))))))
           ·refine Tr.exit (Tr.zk (Tr.zk (Tr.QV (Tr.zl (Tr.zA (Tr.region (Tr.va rfl (fun _ _ a c => QK (a.ev rfl) (a.ev rfl)) ?_)))))))
            exact Tr.mv rfl rfl (Tr.nil (Tr.zn zE6 (zKp, zOd, zOc, zOb, zOa, zOZ, zOY, zOX, (w64 (zCn + 1)), zJZ, zJL) ⟨H, zZx⟩ (.cons rfl (.cons rfl (.cons rfl (.cons rfl (.cons rfl .nil))))) (.cons rfl (.cons rfl (.cons rfl (.cons rfl .nil))))))
          ·exact Tr.exit (Tr.zk (Tr.zk (Tr.QV (Tr.zl (Tr.zn leJ295 (zRx, zU4, zU3, zU2, zU1, zU0, zUz, zUy, zUn, zUW) ⟨H, zWc⟩ .nil (.cons rfl (.cons rfl .nil)))))))
         ·exact Tr.skip (Tr.zl (Tr.zn leJ295 (p0.image, p0.clear, p0.tool, p0.place.X, p0.place.Y, p0.placed, p0.off, p0.on, QO, QN) ⟨H, Wz⟩ .nil (.cons rfl (.cons rfl .nil))))
 ·intro w s hlJ296 hs
  obtain ⟨zX1, zU6, zU5, zSq, zSp, zbY, zbX, zbW, zXV, zW8⟩ := s
  obtain ⟨H, zZ3⟩ := hs
  replace H : JO zX1 zU6 zU5 zSq zSp zbY zbX zbW = some r := H
  replace leB := leB.trans hlJ296
  replace zZ3 : SlF zXV zX1.length zW8 := zZ3
  unfold JO at H
  show Tr _ _ (LF []) (LE [(0, bx bp0 #[iv p0.p.Unit, sL zC p0.p.Tools zD, sL zO p0.p.Steps zN, sL QA p0.tools QC, sL zXV zX1 zW8, bV zU6, iv zU5, iv zSq, iv zSp, bV zbY, iv zbX, iv zbW] 77), (1, ow zXV zW8 107 zL zX1)]) _
  refine Tr.sr (Tr.asg rfl rfl (Tr.nil (Tr.zA (Tr.ret ?_))))
  obtain rfl := oI H
  exact Tr.out (m := [iv 0]) [] (zW rfl zX) (fun W hW => ⟨w, (zXV, zW8), leB, rfl, zZ3, hW.pick (ks := [0, 1]) (by decide) (zQ rfl (zQ rfl zf))⟩)
theorem zG4 (N : Nat) (rec : QQ → (List zG) → zJ → Option (Int × Bool × Int × Int × Int × Bool × Int × Int × (List ze))) (hrec : ∀ {w : Bs} (p0 : QQ) (zC : Option Addr) (zD : Nat) (zU : Sl w.R w.W zP zC zD p0.p.Tools) (zO : Option Addr) (zN : Nat) (Qe : Sl w.R w.W zH zO zN p0.p.Steps) (QA : Option Addr) (QC : Nat) (Ka : Sl w.R w.W Qy QA QC p0.tools) (QO : Option Addr) (QN : Nat) (bp0 : Nat) (p1 : (List zG)) (zh : Option Addr) (zg : Nat) (Qh : Sl w.R w.W zH zh zg p1) (p2 : zJ) (r : (Int × Bool × Int × Int × Int × Bool × Int × Int × (List ze))) (H : rec p0 p1 p2 = some r) (hE : HF w w.W (LEn [bx bp0 #[iv p0.p.Unit, sL zC p0.p.Tools zD, sL zO p0.p.Steps zN, sL QA p0.tools QC, sL QO p0.image QN, bV p0.clear, iv p0.tool, iv p0.place.X, iv p0.place.Y, bV p0.placed, iv p0.off, iv p0.on] 77, ow QO QN 107 zL p0.image])), Calls Tryz.prog 56 [pV bp0, sL zh p1 zg, .agg #[iv p2.X, iv p2.Y]].toArray w.W fun e W' => ∃ (w' : Bs) (u : (Option Addr × Nat)), w.Le w' ∧ e = .returned (iv r.1) ∧ (SlF u.1 r.2.2.2.2.2.2.2.2.length u.2) ∧ HF w' W' (LEn [bx bp0 #[iv p0.p.Unit, sL zC p0.p.Tools zD, sL zO p0.p.Steps zN, sL QA p0.tools QC, sL u.1 r.2.2.2.2.2.2.2.2 u.2, bV r.2.1, iv r.2.2.1, iv r.2.2.2.1, iv r.2.2.2.2.1, bV r.2.2.2.2.2.1, iv r.2.2.2.2.2.2.1, iv r.2.2.2.2.2.2.2.1] 77, ow u.1 u.2 107 zL r.2.2.2.2.2.2.2.2])) {w : Bs} (p0 : QQ) (zC : Option Addr) (zD : Nat) (zU : Sl w.R w.W zP zC zD p0.p.Tools) (zO : Option Addr) (zN : Nat) (Qe : Sl w.R w.W zH zO zN p0.p.Steps) (QA : Option Addr) (QC : Nat) (Ka : Sl w.R w.W Qy QA QC p0.tools) (QO : Option Addr) (QN : Nat) (bp0 : Nat) (p1 : (List zG)) (zh : Option Addr) (zg : Nat) (Qh : Sl w.R w.W zH zh zg p1) (p2 : zJ) (r : (Int × Bool × Int × Int × Int × Bool × Int × Int × (List ze))) (H : zBs N rec p0 p1 p2 = some r) (hE : HF w w.W (LEn [bx bp0 #[iv p0.p.Unit, sL zC p0.p.Tools zD, sL zO p0.p.Steps zN, sL QA p0.tools QC, sL QO p0.image QN, bV p0.clear, iv p0.tool, iv p0.place.X, iv p0.place.Y, bV p0.placed, iv p0.off, iv p0.on] 77, ow QO QN 107 zL p0.image])) : Calls Tryz.prog 56 [pV bp0, sL zh p1 zg, .agg #[iv p2.X, iv p2.Y]].toArray w.W fun e W' => ∃ (w' : Bs) (u : (Option Addr × Nat)), w.Le w' ∧ e = .returned (iv r.1) ∧ (SlF u.1 r.2.2.2.2.2.2.2.2.length u.2) ∧ HF w' W' (LEn [bx bp0 #[iv p0.p.Unit, sL zC p0.p.Tools zD, sL zO p0.p.Steps zN, sL QA p0.tools QC, sL u.1 r.2.2.2.2.2.2.2.2 u.2, bV r.2.1, iv r.2.2.1, iv r.2.2.2.1, iv r.2.2.2.2.1, bV r.2.2.2.2.2.1, iv r.2.2.2.2.2.2.1, iv r.2.2.2.2.2.2.2.1] 77, ow u.1 u.2 107 zL r.2.2.2.2.2.2.2.2]) := by
 unfold zBs at H
 have Wz := (hE.sl (k := 1) rfl).form
 have leB := Bs.Le.refl w
 refine Tr.enter (n := 24) Tryz.func56 rfl rfl rfl hE ?_
 refine Tr.sr (Tr.box 2 (cs := [iv p2.X, iv p2.Y]) (wn rfl) rfl rfl rfl fun QE => ?_)
 refine Tr.asg rfl rfl (Tr.nil (Tr.zA (Tr.seq (Tr.sr (Tr.mv rfl rfl (Tr.va rfl (fun _ _ a c => QJ zGV (a.ev rfl)) ?_))))))
 refine Tr.mv rfl rfl (Tr.nil (Tr.zA (Tr.block (Tr.loop (σ := (List zG) × Nat × (List ze) × Bool × Int × Int × Int × Bool × Int × Int × (Option Addr) × Nat) (fun m w s => m = s.1.length + 1 ∧ s.1 = List.drop s.2.1 p1 ∧ s.2.1 ≤ p1.length ∧ Jc N p0 p2 rec s.1 s.2.1 s.2.2.1 s.2.2.2.1 s.2.2.2.2.1 s.2.2.2.2.2.1 s.2.2.2.2.2.2.1 s.2.2.2.2.2.2.2.1 s.2.2.2.2.2.2.2.2.1 s.2.2.2.2.2.2.2.2.2.1 = some r ∧ SlF s.2.2.2.2.2.2.2.2.2.2.1 s.2.2.1.length s.2.2.2.2.2.2.2.2.2.2.2) (fun s => [(0, pV bp0), (5, pV QE), (10, sL zh p1 zg), (11, iv (p1.length : Int)), (12, iv (s.2.1 : Int))]) (fun s => [(0, bx bp0 #[iv p0.p.Unit, sL zC p0.p.Tools zD, sL zO p0.p.Steps zN, sL QA p0.tools QC, sL s.2.2.2.2.2.2.2.2.2.2.1 s.2.2.1 s.2.2.2.2.2.2.2.2.2.2.2, bV s.2.2.2.1, iv s.2.2.2.2.1, iv s.2.2.2.2.2.1, iv s.2.2.2.2.2.2.1, bV s.2.2.2.2.2.2.2.1, iv s.2.2.2.2.2.2.2.2.1, iv s.2.2.2.2.2.2.2.2.2.1] 77), (1, ow s.2.2.2.2.2.2.2.2.2.2.1 s.2.2.2.2.2.2.2.2.2.2.2 107 zL s.2.2.1), (2, bx QE #[iv p2.X, iv p2.Y] 43)]) (p1.length + 1) (p1, 0, p0.image, p0.clear, p0.tool, p0.place.X, p0.place.Y, p0.placed, p0.off, p0.on, QO, QN) ⟨rfl, rfl, Nat.zero_le _, H, Wz⟩ (.cons rfl (.cons rfl (.cons rfl (.cons rfl (.cons rfl .nil))))) (.cons rfl (.cons rfl (.cons rfl .nil))) (fun _ _ h => absurd h.1 (by simp)) ?_))))
 intro w Qd m s hs
 obtain ⟨zY, iL1, zPF, zKg, zSz, zSy, zSx, zSw, zSv, zSu, zQE, zPw⟩ := s
 obtain ⟨Kj, QF, hiL1, H, zaB⟩ := hs
 replace QF : zY = List.drop iL1 p1 := QF
 replace H : Jc N p0 p2 rec zY iL1 zPF zKg zSz zSy zSx zSw zSv zSu = some r := H
 replace Kj : m + 1 = zY.length + 1 := Kj
 replace zU := zU.leR Qd
 replace Qe := Qe.leR Qd
 replace Ka := Ka.leR Qd
 replace Qh := Qh.leR Qd
 replace leB := leB.trans Qd
 replace zaB : SlF zQE zPF.length zPw := zaB
 obtain rfl : m = zY.length := by omega
 clear Kj
 show Tr _ _ (LF [(0, pV bp0), (5, pV QE), (10, sL zh p1 zg), (11, iv (p1.length : Int)), (12, iv (iL1 : Int))]) (LE [(0, bx bp0 #[iv p0.p.Unit, sL zC p0.p.Tools zD, sL zO p0.p.Steps zN, sL QA p0.tools QC, sL zQE zPF zPw, bV zKg, iv zSz, iv zSy, iv zSx, bV zSw, iv zSv, iv zSu] 77), (1, ow zQE zPw 107 zL zPF), (2, bx QE #[iv p2.X, iv p2.Y] 43)]) _
 cases zY with
 | nil =>
  rw [Jc.eq_1] at H
  refine Tr.sr (Tr.va rfl (fun _ _ a c => QI (a.ev rfl) (a.ev rfl)) ?_)
  refine Tr.nil (Tr.zA (Tr.seq (Tr.WL rfl (JS QF) ?_)))
  refine Tr.exit (Tr.zk (Tr.zk (Tr.QV (Tr.zA (Tr.sr (Tr.asg rfl rfl (Tr.nil (Tr.zA (Tr.ret ?_)))))))))
  obtain rfl := oI H
  exact Tr.out (m := [iv 0]) [] (zW rfl zX) (fun W hW => ⟨w, (zQE, zPw), leB, rfl, zaB, hW.pick (ks := [0, 1]) (by decide) (zQ rfl (zQ rfl zf))⟩)
 | cons xL1 zY =>
  rw [Jc.eq_2] at H
  refine Tr.sr (Tr.va rfl (fun _ _ a c => QI (a.ev rfl) (a.ev rfl)) ?_)
  refine Tr.nil (Tr.zA (Tr.seq (Tr.WK rfl (Jt QF) ?_)))
  refine Tr.skip (Tr.zA (Tr.seq (Tr.block (Tr.sr ?_))))
  obtain ⟨zmU, hRu146, zcH, hcu146⟩ := (Qh).el (KL QF)
  obtain ⟨⟨zIO, zH7⟩, ⟨zIN, zH6⟩⟩ := zmU
  obtain ⟨zMf, zMe⟩ := Kn.1 zcH
  replace zMf : Sl w.R w.W QU zIO zH7 xL1.Points := zMf
  replace zMe : Sl w.R w.W zH zIN zH6 xL1.Steps := zMe
  refine Tr.va rfl (fun _ _ a c => zM zFH (a.ev rfl) Qh.form (a.ev rfl) (Int.natCast_nonneg _) (QB QF)) ?_
  refine Tr.va rfl (fun _ _ a c => zZ (cs := [iv xL1.Kind, sv xL1.Name, iv xL1.At.X, iv xL1.At.Y, sL zIO xL1.Points zH7, iv xL1.NX, iv xL1.NY, sL zIN xL1.Steps zH6]) zP6 zGW (a.ev rfl) (zR.take (rdR hRu146 hcu146 c) 8) rfl) ?_
  refine Tr.alloc 5 (wn rfl) rfl zV4 fun zna => ?_
  refine Tr.store 5 (cs := [iv xL1.Kind, sv xL1.Name, iv xL1.At.X, iv xL1.At.Y, sL zIO xL1.Points zH7, iv xL1.NX, iv xL1.NY, sL zIN xL1.Steps zH6]) [iv xL1.Kind, sv xL1.Name, iv xL1.At.X, iv xL1.At.Y, sL zIO xL1.Points zH7, iv xL1.NX, iv xL1.NY, sL zIN xL1.Steps zH6] (wn rfl) rfl rfl rfl rfl zGW rfl rfl rfl ?_
  refine Tr.nil (Tr.zA (Tr.sr (Tr.mv rfl rfl (Tr.va rfl (fun _ _ a c => zZ (cs := [iv xL1.Kind, sv xL1.Name, iv xL1.At.X, iv xL1.At.Y, sL zIO xL1.Points zH7, iv xL1.NX, iv xL1.NY, sL zIN xL1.Steps zH6]) zP6 zGW (a.ev rfl) (zR.take (rdb c (vs := [iv xL1.Kind, sv xL1.Name, iv xL1.At.X, iv xL1.At.Y, sL zIO xL1.Points zH7, iv xL1.NX, iv xL1.NY, sL zIN xL1.Steps zH6]) (k := 5) rfl 0) 8) rfl) ?_))))
  refine Tr.va rfl (fun _ _ a c => zZ (cs := [iv p2.X, iv p2.Y]) VP Js (a.ev rfl) (zR.take (rdb c (vs := [iv p2.X, iv p2.Y]) (k := 2) rfl 0) 2) rfl) ?_
  obtain ⟨Wd, zi9, H⟩ := bnd H
  refine Tr.VT [0, 1] [bx bp0 #[iv p0.p.Unit, sL zC p0.p.Tools zD, sL zO p0.p.Steps zN, sL QA p0.tools QC, sL zQE zPF zPw, bV zKg, iv zSz, iv zSy, iv zSx, bV zSw, iv zSv, iv zSu] 77, ow zQE zPw 107 zL zPF] (U := (Option Addr × Nat)) (fun u => (iv Wd.1)) (fun O W u => SlF u.1 Wd.2.2.2.2.2.2.2.2.length u.2) (fun u => [bx bp0 #[iv p0.p.Unit, sL zC p0.p.Tools zD, sL zO p0.p.Steps zN, sL QA p0.tools QC, sL u.1 Wd.2.2.2.2.2.2.2.2 u.2, bV Wd.2.1, iv Wd.2.2.1, iv Wd.2.2.2.1, iv Wd.2.2.2.2.1, bV Wd.2.2.2.2.2.1, iv Wd.2.2.2.2.2.2.1, iv Wd.2.2.2.2.2.2.2.1] 77, ow u.1 u.2 107 zL Wd.2.2.2.2.2.2.2.2]) rfl (zQ rfl (zQ rfl zf)) (fun _ => rfl) (wn rfl) rfl Tryz.call78 (zI rfl (zI rfl (zI rfl zT))) (fun W hW hp hE => zHZ rec hrec N (QQ.mk p0.p p0.tools zPF zKg zSz (zJ.mk zSy zSx) zSw zSv zSu) zC zD (zU.ext (hW.QM hp)) zO zN (Qe.ext (hW.QM hp)) QA QC (Ka.ext (hW.QM hp)) zQE zPw bp0 xL1 zIO zH7 (zMf.ext (hW.QM hp)) zIN zH6 (zMe.ext (hW.QM hp)) p2 Wd zi9 hE) ?_
  intro w u zWY hu
  obtain ⟨zL8, zLl⟩ := u
  have gy148_0 := hu
  replace Qh := Qh.leR zWY
  replace hRu146 := zWY.r _ hRu146
  replace leB := leB.trans zWY
  replace Qd := Qd.trans zWY
  have zUC : SlF zL8 Wd.2.2.2.2.2.2.2.2.length zLl := gy148_0 --@phi
  show Tr _ _ (uf _ 19 (iv Wd.1)) (up (up _ 1 (ow zL8 zLl 107 zL Wd.2.2.2.2.2.2.2.2)) 0 (bx bp0 #[iv p0.p.Unit, sL zC p0.p.Tools zD, sL zO p0.p.Steps zN, sL QA p0.tools QC, sL zL8 Wd.2.2.2.2.2.2.2.2 zLl, bV Wd.2.1, iv Wd.2.2.1, iv Wd.2.2.2.1, iv Wd.2.2.2.2.1, bV Wd.2.2.2.2.2.1, iv Wd.2.2.2.2.2.2.1, iv Wd.2.2.2.2.2.2.2.1] 77)) _
  refine Tr.asg rfl rfl (Tr.nil (Tr.zA (Tr.sr (Tr.mv rfl rfl (Tr.va rfl (fun _ _ a c => KY (a.ev rfl) (a.ev rfl)) ?_)))))
  refine Tr.nil (Tr.zA (Tr.cond rfl H (fun H => ?_) (fun H => ?_)))
  ·refine Tr.sr (Tr.mv rfl rfl (Tr.asg rfl rfl (Tr.nil (Tr.zA (Tr.ret (Tr.QT (Tr.zi (Tr.zi (Tr.QT (Tr.zi ?_))))))))))
   obtain rfl := oI H
   exact Tr.out (m := [iv Wd.1]) [] (zW rfl zX) (fun W hW => ⟨w, (zL8, zLl), leB, rfl, zUC, hW.pick (ks := [0, 1]) (by decide) (zQ rfl (zQ rfl zf))⟩)
  ·refine Tr.skip (Tr.zl (Tr.zA (Tr.region (Tr.va rfl (fun _ _ a c => QK (a.ev rfl) (a.ev rfl)) ?_))))
   exact Tr.mv rfl rfl (Tr.nil (Tr.zn Qd (zY, (iL1 + 1), Wd.2.2.2.2.2.2.2.2, Wd.2.1, Wd.2.2.1, Wd.2.2.2.1, Wd.2.2.2.2.1, Wd.2.2.2.2.2.1, Wd.2.2.2.2.2.2.1, Wd.2.2.2.2.2.2.2.1, zL8, zLl) ⟨rfl, Qu QF, QB QF, H, zUC⟩ (.cons rfl (.cons rfl (.cons rfl (.cons rfl (.cons (congrArg (fun z => some (Value.int .i64 z)) (Qt QF Qh.form)) .nil))))) (.cons rfl (.cons rfl (.cons rfl .nil)))))
theorem zDw : ∀ (N : Nat) {w : Bs} (p0 : QQ) (zC : Option Addr) (zD : Nat) (zU : Sl w.R w.W zP zC zD p0.p.Tools) (zO : Option Addr) (zN : Nat) (Qe : Sl w.R w.W zH zO zN p0.p.Steps) (QA : Option Addr) (QC : Nat) (Ka : Sl w.R w.W Qy QA QC p0.tools) (QO : Option Addr) (QN : Nat) (bp0 : Nat) (p1 : (List zG)) (zh : Option Addr) (zg : Nat) (Qh : Sl w.R w.W zH zh zg p1) (p2 : zJ) (r : (Int × Bool × Int × Int × Int × Bool × Int × Int × (List ze))) (H : Vq N p0 p1 p2 = some r) (hE : HF w w.W (LEn [bx bp0 #[iv p0.p.Unit, sL zC p0.p.Tools zD, sL zO p0.p.Steps zN, sL QA p0.tools QC, sL QO p0.image QN, bV p0.clear, iv p0.tool, iv p0.place.X, iv p0.place.Y, bV p0.placed, iv p0.off, iv p0.on] 77, ow QO QN 107 zL p0.image])), Calls Tryz.prog 56 [pV bp0, sL zh p1 zg, .agg #[iv p2.X, iv p2.Y]].toArray w.W fun e W' => ∃ (w' : Bs) (u : (Option Addr × Nat)), w.Le w' ∧ e = .returned (iv r.1) ∧ (SlF u.1 r.2.2.2.2.2.2.2.2.length u.2) ∧ HF w' W' (LEn [bx bp0 #[iv p0.p.Unit, sL zC p0.p.Tools zD, sL zO p0.p.Steps zN, sL QA p0.tools QC, sL u.1 r.2.2.2.2.2.2.2.2 u.2, bV r.2.1, iv r.2.2.1, iv r.2.2.2.1, iv r.2.2.2.2.1, bV r.2.2.2.2.2.1, iv r.2.2.2.2.2.2.1, iv r.2.2.2.2.2.2.2.1] 77, ow u.1 u.2 107 zL r.2.2.2.2.2.2.2.2])
 | 0 => by intros; rename_i H _; cases H
 | N + 1 => zG4 N (Vq N) (zDw N)

theorem zNm (N : Nat) {w : Bs} (p0 : zm) (zC : Option Addr) (zD : Nat) (zU : Sl w.O w.W zP zC zD p0.Tools) (zO : Option Addr) (zN : Nat) (Qe : Sl w.O w.W zH zO zN p0.Steps) (r : (QQ × Int)) (H : zDx N p0 = some r) (hE : HF w w.W (LEn [emp, emp, emp])) : Calls Tryz.prog 32 [.agg #[iv p0.Unit, sL zC p0.Tools zD, sL zO p0.Steps zN]].toArray w.W fun e W' => ∃ (w' : Bs) (u : (Option Addr × Nat) × (Option Addr × Nat) × (Option Addr × Nat) × (Option Addr × Nat) × (Option Addr × Nat)), w.Le w' ∧ e = .returned (.tuple #[.pointer (some ⟨u.2.2.2.2.2, 0, none⟩), iv r.2]) ∧ (Sl w'.O w'.W zP u.1.1 u.1.2 r.1.p.Tools ∧ Sl w'.O w'.W zH u.2.1.1 u.2.1.2 r.1.p.Steps ∧ SlF u.2.2.1.1 r.1.tools.length u.2.2.1.2 ∧ SlF u.2.2.2.1.1 r.1.image.length u.2.2.2.1.2 ∧ True) ∧ HF w' W' (LEn [ow u.2.2.1.1 u.2.2.1.2 66 Qy r.1.tools, ow u.2.2.2.1.1 u.2.2.2.1.2 107 zL r.1.image, bx u.2.2.2.2.2 #[iv r.1.p.Unit, sL u.1.1 r.1.p.Tools u.1.2, sL u.2.1.1 r.1.p.Steps u.2.1.2, sL u.2.2.1.1 r.1.tools u.2.2.1.2, sL u.2.2.2.1.1 r.1.image u.2.2.2.1.2, bV r.1.clear, iv r.1.tool, iv r.1.place.X, iv r.1.place.Y, bV r.1.placed, iv r.1.off, iv r.1.on] 77]) := by
 unfold zDx at H
 have leB := Bs.Le.refl w
 refine Tr.enter (n := 13) Tryz.func32 rfl rfl rfl hE ?_
 refine Tr.sr (Tr.box 1 (cs := [iv p0.Unit, sL zC p0.Tools zD, sL zO p0.Steps zN]) (wn rfl) rfl rfl rfl fun QE => ?_)
 refine Tr.asg rfl rfl (Tr.asg rfl rfl (Tr.nil (Tr.zA (Tr.sr (Tr.va rfl (fun _ _ a c => zZ (cs := [iv p0.Unit, sL zC p0.Tools zD, sL zO p0.Steps zN]) WU VD (a.ev rfl) (zR.take (rdb c (vs := [iv p0.Unit, sL zC p0.Tools zD, sL zO p0.Steps zN]) (k := 1) rfl 0) 3) rfl) ?_)))))
 obtain ⟨y101, hy101, H⟩ := bnd H
 refine Tr.VT [2, 3, 4] [emp, emp, emp] (U := (Option Addr × Nat) × (Option Addr × Nat) × (Option Addr × Nat) × (Option Addr × Nat) × (Option Addr × Nat)) (fun u => (.pointer (some ⟨u.2.2.2.2.2, 0, none⟩))) (fun O W u => Sl O W zP u.1.1 u.1.2 y101.p.Tools ∧ Sl O W zH u.2.1.1 u.2.1.2 y101.p.Steps ∧ SlF u.2.2.1.1 y101.tools.length u.2.2.1.2 ∧ SlF u.2.2.2.1.1 y101.image.length u.2.2.2.1.2 ∧ True) (fun u => [ow u.2.2.1.1 u.2.2.1.2 66 Qy y101.tools, ow u.2.2.2.1.1 u.2.2.2.1.2 107 zL y101.image, bx u.2.2.2.2.2 #[iv y101.p.Unit, sL u.1.1 y101.p.Tools u.1.2, sL u.2.1.1 y101.p.Steps u.2.1.2, sL u.2.2.1.1 y101.tools u.2.2.1.2, sL u.2.2.2.1.1 y101.image u.2.2.2.1.2, bV y101.clear, iv y101.tool, iv y101.place.X, iv y101.place.Y, bV y101.placed, iv y101.off, iv y101.on] 77]) rfl (zQ rfl (zQ rfl (zQ rfl zf))) (fun _ => rfl) (wn rfl) rfl Tryz.call55 (zI rfl zT) (fun W hW hp hE => zJW N p0 zC zD (zU.zAK (hW.QM hp)) zO zN (Qe.zAK (hW.QM hp)) y101 hy101 hE) ?_
 intro w u zWZ hu
 obtain ⟨⟨zAb, zAY⟩, ⟨zIH, zHz⟩, ⟨zGr, zGh⟩, ⟨zKL, zKB⟩, ⟨zls, zGg⟩⟩ := u
 obtain ⟨gy101_0, gy101_1, gy101_2, gy101_3, gy101_4⟩ := hu
 replace Qe := Qe.le zWZ
 replace leB := leB.trans zWZ
 have zF7 : Sl w.O w.W zP zAb zAY y101.p.Tools := gy101_0 --@phi
 have zLa : Sl w.O w.W zH zIH zHz y101.p.Steps := gy101_1 --@phi
 have zaY : SlF zGr y101.tools.length zGh := gy101_2 --@phi
 have zky : SlF zKL y101.image.length zKB := gy101_3 --@phi
 have zkx : True := gy101_4 --@phi
 show Tr _ _ (uf _ 6 (pV zGg)) (up (up (up _ 4 (bx zGg #[iv y101.p.Unit, sL zAb y101.p.Tools zAY, sL zIH y101.p.Steps zHz, sL zGr y101.tools zGh, sL zKL y101.image zKB, bV y101.clear, iv y101.tool, iv y101.place.X, iv y101.place.Y, bV y101.placed, iv y101.off, iv y101.on] 77)) 3 (ow zKL zKB 107 zL y101.image)) 2 (ow zGr zGh 66 Qy y101.tools)) _
 refine Tr.asg rfl rfl (Tr.nil (Tr.zA (Tr.sr (Tr.mv rfl rfl (Tr.mv rfl rfl (Tr.va rfl (fun _ _ a c => zB zDj (a.ev rfl)) ?_))))))
 refine Tr.va rfl (fun _ _ a c => zF zDp (a.ev rfl) (rdb c (vs := [iv p0.Unit, sL zC p0.Tools zD, sL zO p0.Steps zN]) (k := 1) rfl 2) rfl) ?_
 refine Tr.build (vs := []) (cs := [iv 0, iv 0]) (wn rfl) rfl Qi (by kernel_rfl) ?_
 obtain ⟨zo, zDf, H⟩ := bnd H
 refine Tr.VT [4, 3] [bx zGg #[iv y101.p.Unit, sL zAb y101.p.Tools zAY, sL zIH y101.p.Steps zHz, sL zGr y101.tools zGh, sL zKL y101.image zKB, bV y101.clear, iv y101.tool, iv y101.place.X, iv y101.place.Y, bV y101.placed, iv y101.off, iv y101.on] 77, ow zKL zKB 107 zL y101.image] (U := (Option Addr × Nat)) (fun u => (iv zo.1)) (fun O W u => SlF u.1 zo.2.2.2.2.2.2.2.2.length u.2) (fun u => [bx zGg #[iv y101.p.Unit, sL zAb y101.p.Tools zAY, sL zIH y101.p.Steps zHz, sL zGr y101.tools zGh, sL u.1 zo.2.2.2.2.2.2.2.2 u.2, bV zo.2.1, iv zo.2.2.1, iv zo.2.2.2.1, iv zo.2.2.2.2.1, bV zo.2.2.2.2.2.1, iv zo.2.2.2.2.2.2.1, iv zo.2.2.2.2.2.2.2.1] 77, ow u.1 u.2 107 zL zo.2.2.2.2.2.2.2.2]) rfl (zQ rfl (zQ rfl zf)) (fun _ => rfl) (wn rfl) rfl Tryz.call56 (zI rfl (zI rfl (zI rfl zT))) (fun W hW hp hE => zDw N y101 zAb zAY (zF7.rl.ext (hW.QM hp)) zIH zHz (zLa.rl.ext (hW.QM hp)) zGr zGh (hW.slS (k := 2) rfl hp rfl) zKL zKB zGg p0.Steps zO zN (Qe.rl.ext (hW.QM hp)) (zJ.mk 0 0) zo zDf hE) ?_
 intro w u zZL hu
 obtain ⟨zEW, zEQ⟩ := u
 have gy103_0 := hu
 replace zF7 := zF7.le zZL
 replace zLa := zLa.le zZL
 replace leB := leB.trans zZL
 have zPj : SlF zEW zo.2.2.2.2.2.2.2.2.length zEQ := gy103_0 --@phi
 show Tr _ _ (uf _ 12 (iv zo.1)) (up (up _ 3 (ow zEW zEQ 107 zL zo.2.2.2.2.2.2.2.2)) 4 (bx zGg #[iv y101.p.Unit, sL zAb y101.p.Tools zAY, sL zIH y101.p.Steps zHz, sL zGr y101.tools zGh, sL zEW zo.2.2.2.2.2.2.2.2 zEQ, bV zo.2.1, iv zo.2.2.1, iv zo.2.2.2.1, iv zo.2.2.2.2.1, bV zo.2.2.2.2.2.1, iv zo.2.2.2.2.2.2.1, iv zo.2.2.2.2.2.2.2.1] 77)) _
 refine Tr.asg rfl rfl (Tr.asg rfl rfl (Tr.nil (Tr.zA (Tr.ret ?_))))
 obtain rfl := oI H
 exact Tr.out (m := [pV zGg, iv zo.1]) [] (zW rfl (zW rfl zX)) (fun W hW => ⟨w, ((zAb, zAY), (zIH, zHz), (zGr, zGh), (zEW, zEQ), (none, zGg)), leB, rfl, ⟨zF7, zLa, zaY, zPj, trivial⟩, hW.pick (ks := [2, 3, 4]) (by decide) (zQ rfl (zQ rfl (zQ rfl zf)))⟩)

theorem zL4 (N : Nat) {w : Bs} (p0 : zm) (zC : Option Addr) (zD : Nat) (zU : Sl w.O w.W zP zC zD p0.Tools) (zO : Option Addr) (zN : Nat) (Qe : Sl w.O w.W zH zO zN p0.Steps) (r : ((List ze) × Int)) (H : zCL N p0 = some r) (hE : HF w w.W (LEn [emp])) : Calls Tryz.prog 28 [.agg #[iv p0.Unit, sL zC p0.Tools zD, sL zO p0.Steps zN]].toArray w.W fun e W' => ∃ (w' : Bs) (u : (Option Addr × Nat)), w.Le w' ∧ e = .returned (.tuple #[sL u.1 r.1 u.2, iv r.2]) ∧ (SlF u.1 r.1.length u.2) ∧ HF w' W' (LEn [ow u.1 u.2 107 zL r.1]) := by
 unfold zCL at H
 have leB := Bs.Le.refl w
 refine Tr.enter (n := 24) Tryz.func28 rfl rfl rfl hE ?_
 refine Tr.sr (Tr.box 1 (cs := [iv p0.Unit, sL zC p0.Tools zD, sL zO p0.Steps zN]) (wn rfl) rfl rfl rfl fun QE => ?_)
 refine Tr.asg rfl rfl (Tr.JU 2 107 zL ?_)
 show Tr _ _ (uf _ 2 (sL none (([] : List ze)) 0)) _ _
 refine Tr.asg rfl rfl (Tr.nil (Tr.zA (Tr.seq (Tr.sr (Tr.va rfl (fun _ _ a c => zZ (cs := [iv p0.Unit, sL zC p0.Tools zD, sL zO p0.Steps zN]) WU VD (a.ev rfl) (zR.take (rdb c (vs := [iv p0.Unit, sL zC p0.Tools zD, sL zO p0.Steps zN]) (k := 1) rfl 0) 3) rfl) ?_)))))
 obtain ⟨y101, hy101, H⟩ := bnd H
 refine Tr.JI (r := (iv y101)) (wn rfl) rfl Tryz.call21 (zI rfl zT) (fun W hW => Wx N p0 zC zD (zU.rl.ext hW.Qx) zO zN (Qe.rl.ext hW.Qx) y101 hy101 (HF.start _)) ?_
 refine Tr.asg rfl rfl (Tr.nil (Tr.zA (Tr.sr (Tr.mv rfl rfl (Tr.va rfl (fun _ _ a c => KY (a.ev rfl) (a.ev rfl)) ?_)))))
 refine Tr.nil (Tr.zA (Tr.cond rfl H (fun H => ?_) (fun H => ?_)))
 ·refine Tr.sr (Tr.mv rfl rfl (Tr.asg rfl rfl (Tr.JU 3 107 zL ?_)))
  show Tr _ _ (uf _ 2 (sL none (([] : List ze)) 0)) _ _
  refine Tr.asg rfl rfl (Tr.nil (Tr.zA (Tr.ret (Tr.zi ?_))))
  obtain rfl := oI H
  exact Tr.out (m := [sL none (([] : List ze)) 0, iv y101]) [] (zW rfl (zW rfl zX)) (fun W hW => ⟨w, (none, 0), leB, rfl, Kk, hW.pick (ks := [3]) (by decide) (zQ rfl zf)⟩)
 ·refine Tr.skip (Tr.zA (Tr.sr (Tr.va rfl (fun _ _ a c => zZ (cs := [iv p0.Unit, sL zC p0.Tools zD, sL zO p0.Steps zN]) WU VD (a.ev rfl) (zR.take (rdb c (vs := [iv p0.Unit, sL zC p0.Tools zD, sL zO p0.Steps zN]) (k := 1) rfl 0) 3) rfl) ?_)))
  obtain ⟨y102, hy102, H⟩ := bnd H
  refine Tr.VT [4, 5, 6] [emp, emp, emp] (U := (Option Addr × Nat) × (Option Addr × Nat) × (Option Addr × Nat) × (Option Addr × Nat) × (Option Addr × Nat)) (fun u => (.tuple #[.pointer (some ⟨u.2.2.2.2.2, 0, none⟩), iv y102.2])) (fun O W u => Sl O W zP u.1.1 u.1.2 y102.1.p.Tools ∧ Sl O W zH u.2.1.1 u.2.1.2 y102.1.p.Steps ∧ SlF u.2.2.1.1 y102.1.tools.length u.2.2.1.2 ∧ SlF u.2.2.2.1.1 y102.1.image.length u.2.2.2.1.2 ∧ True) (fun u => [ow u.2.2.1.1 u.2.2.1.2 66 Qy y102.1.tools, ow u.2.2.2.1.1 u.2.2.2.1.2 107 zL y102.1.image, bx u.2.2.2.2.2 #[iv y102.1.p.Unit, sL u.1.1 y102.1.p.Tools u.1.2, sL u.2.1.1 y102.1.p.Steps u.2.1.2, sL u.2.2.1.1 y102.1.tools u.2.2.1.2, sL u.2.2.2.1.1 y102.1.image u.2.2.2.1.2, bV y102.1.clear, iv y102.1.tool, iv y102.1.place.X, iv y102.1.place.Y, bV y102.1.placed, iv y102.1.off, iv y102.1.on] 77]) rfl (zQ rfl (zQ rfl (zQ rfl zf))) (fun _ => rfl) (wn rfl) rfl Tryz.call32 (zI rfl zT) (fun W hW hp hE => zNm N p0 zC zD (zU.zAK (hW.QM hp)) zO zN (Qe.zAK (hW.QM hp)) y102 hy102 hE) ?_
  intro w u zQt hu
  obtain ⟨⟨JK, JH⟩, ⟨zSl, zSQ⟩, ⟨zOQ, zN6⟩, ⟨zKK, zKA⟩, ⟨zlr, zW1⟩⟩ := u
  obtain ⟨gy102_0, gy102_1, gy102_2, gy102_3, gy102_4⟩ := hu
  replace leB := leB.trans zQt
  have zLZ : Sl w.O w.W zP JK JH y102.1.p.Tools := gy102_0 --@phi
  have zkw : Sl w.O w.W zH zSl zSQ y102.1.p.Steps := gy102_1 --@phi
  have zkv : SlF zOQ y102.1.tools.length zN6 := gy102_2 --@phi
  have zaX : SlF zKK y102.1.image.length zKA := gy102_3 --@phi
  have zku : True := gy102_4 --@phi
  show Tr _ _ (uf _ 14 (.tuple #[pV zW1, iv y102.2])) (up (up (up _ 6 (bx zW1 #[iv y102.1.p.Unit, sL JK y102.1.p.Tools JH, sL zSl y102.1.p.Steps zSQ, sL zOQ y102.1.tools zN6, sL zKK y102.1.image zKA, bV y102.1.clear, iv y102.1.tool, iv y102.1.place.X, iv y102.1.place.Y, bV y102.1.placed, iv y102.1.off, iv y102.1.on] 77)) 5 (ow zKK zKA 107 zL y102.1.image)) 4 (ow zOQ zN6 66 Qy y102.1.tools)) _
  refine Tr.mv rfl rfl (Tr.va rfl (fun _ _ a c => Qq (a.ev rfl) rfl) ?_)
  refine Tr.va rfl (fun _ _ a c => Qq (a.ev rfl) rfl) ?_
  refine Tr.asg rfl rfl (Tr.asg rfl rfl (Tr.nil (Tr.zA (Tr.seq (Tr.sr (Tr.mv rfl rfl (Tr.va rfl (fun _ _ a c => KY (a.ev rfl) (a.ev rfl)) ?_)))))))
  refine Tr.nil (Tr.zA (Tr.cond rfl H (fun H => ?_) (fun H => ?_)))
  ·refine Tr.sr (Tr.mv rfl rfl (Tr.asg rfl rfl (Tr.JU 7 107 zL ?_)))
   show Tr _ _ (uf _ 2 (sL none (([] : List ze)) 0)) _ _
   refine Tr.asg rfl rfl (Tr.nil (Tr.zA (Tr.ret (Tr.zi ?_))))
   obtain rfl := oI H
   exact Tr.out (m := [sL none (([] : List ze)) 0, iv y102.2]) [] (zW rfl (zW rfl zX)) (fun W hW => ⟨w, (none, 0), leB, rfl, Kk, hW.pick (ks := [7]) (by decide) (zQ rfl zf)⟩)
  ·refine Tr.skip (Tr.zA (Tr.sr (Tr.mv rfl rfl (Tr.va rfl (fun _ _ a c => zt (a.ev rfl)) ?_))))
   refine Tr.va rfl (fun _ _ a c => zB zJ3 (a.ev rfl)) ?_
   refine Tr.va rfl (fun _ _ a c => zF zP4 (a.ev rfl) (rdb c (vs := [iv y102.1.p.Unit, sL JK y102.1.p.Tools JH, sL zSl y102.1.p.Steps zSQ, sL zOQ y102.1.tools zN6, sL zKK y102.1.image zKA, bV y102.1.clear, iv y102.1.tool, iv y102.1.place.X, iv y102.1.place.Y, bV y102.1.placed, iv y102.1.off, iv y102.1.on]) (k := 6) rfl 4) rfl) ?_
   refine Tr.asg rfl rfl (Tr.asg rfl rfl (Tr.nil (Tr.zA (Tr.ret ?_))))
   obtain rfl := oI H
   exact Tr.out (m := [sL zKK y102.1.image zKA, iv 0]) [] (zW rfl (zW rfl zX)) (fun W hW => ⟨w, (zKK, zKA), leB, rfl, zaX, hW.pick (ks := [5]) (by decide) (zQ rfl zf)⟩)

theorem zFC (N : Nat) {w : Bs} (p0 : zm) (zC : Option Addr) (zD : Nat) (zU : Sl w.O w.W zP zC zD p0.Tools) (zO : Option Addr) (zN : Nat) (Qe : Sl w.O w.W zH zO zN p0.Steps) (r : ((List zS) × Int)) (H : WG N p0 = some r) (hE : HF w w.W (LEn [emp])) : Calls Tryz.prog 10 [.agg #[iv p0.Unit, sL zC p0.Tools zD, sL zO p0.Steps zN]].toArray w.W fun e W' => ∃ u : (Option Addr × Nat), e = .returned (.tuple #[sL u.1 r.1 u.2, iv r.2]) ∧ (SlF u.1 r.1.length u.2) ∧ HF w W' (LEn [ow u.1 u.2 36 zK r.1]) := by
 unfold WG at H
 have leB := Bs.Le.refl w
 refine Tr.enter (n := 14) Tryz.func10 rfl rfl rfl hE ?_
 refine Tr.sr (Tr.box 1 (cs := [iv p0.Unit, sL zC p0.Tools zD, sL zO p0.Steps zN]) (wn rfl) rfl rfl rfl fun QE => ?_)
 refine Tr.asg rfl rfl (Tr.JU 2 36 zK ?_)
 show Tr _ _ (uf _ 2 (sL none (([] : List zS)) 0)) _ _
 refine Tr.asg rfl rfl (Tr.nil (Tr.zA (Tr.sr (Tr.va rfl (fun _ _ a c => zZ (cs := [iv p0.Unit, sL zC p0.Tools zD, sL zO p0.Steps zN]) WU VD (a.ev rfl) (zR.take (rdb c (vs := [iv p0.Unit, sL zC p0.Tools zD, sL zO p0.Steps zN]) (k := 1) rfl 0) 3) rfl) ?_))))
 obtain ⟨y101, hy101, H⟩ := bnd H
 refine Tr.VT [3] [emp] (U := (Option Addr × Nat)) (fun u => (.tuple #[sL u.1 y101.1 u.2, iv y101.2])) (fun O W u => SlF u.1 y101.1.length u.2) (fun u => [ow u.1 u.2 107 zL y101.1]) rfl (zQ rfl zf) (fun _ => rfl) (wn rfl) rfl Tryz.call28 (zI rfl zT) (fun W hW hp hE => zL4 N p0 zC zD (zU.zAK (hW.QM hp)) zO zN (Qe.zAK (hW.QM hp)) y101 hy101 hE) ?_
 intro w u zWZ hu
 obtain ⟨zAb, zAY⟩ := u
 have gy101_0 := hu
 replace leB := leB.trans zWZ
 have zF7 : SlF zAb y101.1.length zAY := gy101_0 --@phi
 show Tr _ _ (uf _ 8 (.tuple #[sL zAb y101.1 zAY, iv y101.2])) (up _ 3 (ow zAb zAY 107 zL y101.1)) _
 refine Tr.mv rfl rfl (Tr.va rfl (fun _ _ a c => Qq (a.ev rfl) rfl) ?_)
 refine Tr.va rfl (fun _ _ a c => Qq (a.ev rfl) rfl) ?_
 refine Tr.asg rfl rfl (Tr.asg rfl rfl (Tr.nil (Tr.zA (Tr.sr (Tr.mv rfl rfl ?_)))))
 obtain ⟨zo, zDf, H⟩ := bnd H
 refine Tr.VM [4] [emp] (U := (Option Addr × Nat)) (fun u => (sL u.1 zo u.2)) (fun u => SlF u.1 zo.length u.2) (fun u => [ow u.1 u.2 36 zK zo]) rfl (zQ rfl zf) (fun _ => rfl) (wn rfl) rfl Tryz.call29 (zI rfl zT) (fun W hW hp hE => zAa N y101.1 zAb zAY (hW.slS (k := 3) rfl hp rfl) zo zDf hE) ?_
 intro u hu
 obtain ⟨zEW, zEQ⟩ := u
 have gy103_0 := hu
 have zPj : SlF zEW zo.length zEQ := gy103_0 --@phi
 show Tr _ _ (uf _ 12 (sL zEW zo zEQ)) (up _ 4 (ow zEW zEQ 36 zK zo)) _
 refine Tr.mv rfl rfl (Tr.asg rfl rfl (Tr.asg rfl rfl (Tr.nil (Tr.zA (Tr.ret ?_)))))
 obtain rfl := oI H
 exact Tr.out (m := [sL zEW zo zEQ, iv y101.2]) [] (zW rfl (zW rfl zX)) (fun W hW => ⟨(zEW, zEQ), rfl, zPj, HF.zFO leB (hW.pick (ks := [4]) (by decide) (zQ rfl zf)) ⟨zCA _ _ _ _ WI, trivial⟩⟩)

theorem Vy {w : Bs} (p0 : Int) (q0 : Bool) (bq0 : Nat) (q1 : zm) (Aq1_0 : Option Addr) (cq1_0 : Nat) (zT4 : Sl w.R w.W zP Aq1_0 cq1_0 q1.Tools) (Aq1_1 : Option Addr) (cq1_1 : Nat) (zT3 : Sl w.R w.W zH Aq1_1 cq1_1 q1.Steps) (bq1 : Nat) (hb1 : w.R bq1) (hc1 : zR w.W bq1 0 [iv q1.Unit, sL Aq1_0 q1.Tools cq1_0, sL Aq1_1 q1.Steps cq1_1]) (q2 : Int) (bq2 : Nat) (hb2 : w.R bq2) (hc2 : zR w.W bq2 0 [iv q2]) (r : (Int × Bool)) (H : VB p0 q0 q1 q2 = some r) (hE : HF w w.W (LEn [bx bq0 #[bV q0] 4])) : Calls Tryz.prog 44 [iv p0, pV bq0, pV bq1, pV bq2].toArray w.W fun e W' => ∃ u : Unit, e = .returned (iv r.1) ∧ (True) ∧ HF w W' (LEn [bx bq0 #[bV r.2] 4]) := by
 unfold VB at H
 have leB := Bs.Le.refl w
 refine Tr.enter (n := 22) Tryz.func44 rfl rfl rfl hE ?_
 refine Tr.sr (Tr.asg rfl rfl (Tr.nil (Tr.zA (Tr.sr (Tr.va rfl (fun _ _ a c => zF zM3 (a.ev rfl) (rdb c (vs := [bV q0]) (k := 0) rfl 0) rfl) ?_)))))
 refine Tr.mv rfl rfl ?_
 obtain ⟨zX4, zRG, H⟩ := bnd H
 refine Tr.Vr 8 [(0, iv p0), (1, pV bq0), (2, pV bq1), (3, pV bq2), (15, bV zX4)] [(0, bx bq0 #[bV q0] 4)] ?_ ?_
 ·cases zCC : q0
  ·rw [zCC] at zRG
   rw [if_neg (by decide)] at zRG
   have H := zRG
   obtain rfl := oI H
   refine Tr.pass rfl rfl rfl rfl rfl (by decide) ?_
   refine Tr.pass rfl rfl rfl rfl rfl (by decide) ?_
   refine Tr.pass rfl rfl rfl rfl rfl (by decide) ?_
   refine Tr.pass rfl rfl rfl rfl rfl (by decide) ?_
   refine Tr.pass rfl rfl rfl rfl rfl (by decide) ?_
   refine Tr.pass rfl rfl rfl rfl rfl (by decide) ?_
   refine Tr.pass rfl rfl rfl rfl rfl (by decide) ?_
   refine Tr.va rfl (fun _ _ a c => zx (a.ev rfl) (a.ev rfl)) ?_
   exact Tr.nil (Tr.JM (.cons rfl (.cons rfl (.cons rfl (.cons rfl (.cons rfl .nil))))) (.cons rfl .nil))
  ·rw [zCC] at zRG
   rw [if_pos rfl] at zRG
   have H := zRG
   refine Tr.val (wg rfl rfl rfl) rfl (fun _ _ a c => run_move (a.ev rfl)) ?_
   refine Tr.val (wg rfl rfl rfl) rfl (fun _ _ a c => zB WS (a.ev rfl)) ?_
   refine Tr.val (wg rfl rfl rfl) rfl (fun _ _ a c => zF QH (a.ev rfl) (zR.drop (rdR hb1 hc1 c) 0) rfl) ?_
   refine Tr.val (wg rfl rfl rfl) rfl (fun _ _ a c => zBu (a.ev rfl) (a.ev rfl)) ?_
   refine Tr.val (wg rfl rfl rfl) rfl (fun _ _ a c => zF QH (a.ev rfl) (rdR hb2 hc2 c) rfl) ?_
   obtain ⟨q102, zj5, H⟩ := bnd H
   refine Tr.val (wg rfl rfl rfl) rfl (fun _ _ a c => zRi (a.ev rfl) (a.ev rfl) zj5) ?_
   refine Tr.val (wg rfl rfl rfl) rfl (fun _ _ a c => Qn (a.ev rfl) (a.ev rfl)) ?_
   refine Tr.va rfl (fun _ _ a c => zw (a.ev rfl) (a.ev rfl)) ?_
   obtain rfl := oI H
   exact Tr.nil (Tr.JM (.cons rfl (.cons rfl (.cons rfl (.cons rfl (.cons rfl .nil))))) (.cons rfl .nil))
 ·show Tr _ _ (LF [(0, iv p0), (1, pV bq0), (2, pV bq1), (3, pV bq2), (15, bV zX4)]) (LE [(0, bx bq0 #[bV q0] 4)]) _
  refine Tr.store 0 (cs := [bV zX4]) [bV zX4] (wn rfl) rfl rfl rfl rfl zYm rfl rfl rfl ?_
  refine Tr.nil (Tr.zA (Tr.sr (Tr.mv rfl rfl (Tr.va rfl (fun _ _ a c => zB WS (a.ev rfl)) ?_))))
  refine Tr.va rfl (fun _ _ a c => zF QH (a.ev rfl) (zR.drop (rdR hb1 hc1 c) 0) rfl) ?_
  refine Tr.va rfl (fun _ _ a c => zBu (a.ev rfl) (a.ev rfl)) ?_
  refine Tr.va rfl (fun _ _ a c => zF QH (a.ev rfl) (rdR hb2 hc2 c) rfl) ?_
  obtain ⟨q103, zj4, H⟩ := bnd H
  refine Tr.va rfl (fun _ _ a c => zVL (a.ev rfl) (a.ev rfl) zj4) ?_
  refine Tr.asg rfl rfl (Tr.nil (Tr.zA (Tr.ret ?_)))
  obtain rfl := oI H
  exact Tr.out (m := [iv q103]) [] (zW rfl zX) (fun W hW => ⟨(), rfl, trivial, HF.zFO leB (hW.pick (ks := [0]) (by decide) (zQ rfl zf)) ⟨zKw _ _ _, trivial⟩⟩)

theorem zGG {w : Bs} (p0 : (List zV)) (zC : Option Addr) (zD : Nat) (zU : Sl w.O w.W zP zC zD p0) (r : (List zV)) (H : Kr p0 = some r) (hE : HF w w.W (LEn [emp])) : Calls Tryz.prog 92 [sL zC p0 zD].toArray w.W fun e W' => ∃ (w' : Bs) (u : (Option Addr × Nat)), w.Le w' ∧ e = .returned (sL u.1 r u.2) ∧ (SlF u.1 r.length u.2) ∧ HF w' W' (LEn [ow u.1 u.2 64 zP r]) := by
 unfold Kr at H
 have leB := Bs.Le.refl w
 refine Tr.enter (n := 8) Tryz.func92 rfl rfl rfl hE ?_
 refine Tr.sr (Tr.asg rfl rfl (Tr.JU 1 64 zP ?_))
 show Tr _ _ (uf _ 2 (sL none (([] : List zV)) 0)) _ _
 refine Tr.nil (Tr.zA (Tr.seq (Tr.sr (Tr.mv rfl rfl (Tr.va rfl (fun _ _ a c => zHn zKW (a.ev rfl) (a.ev rfl)) ?_)))))
 refine Tr.nil (Tr.zA ?_)
 cases zC with
 | none =>
  have hl0 := zLF zU.form
  replace H : (some ([] : List zV)) = some r := by simpa [apd, hl0] using H
  refine Tr.WK rfl rfl ?_
  refine Tr.sr (Tr.asg rfl rfl (Tr.JU 2 64 zP ?_))
  show Tr _ _ (uf _ 2 (sL none (([] : List zV)) 0)) _ _
  refine Tr.nil (Tr.zA (Tr.ret (Tr.zi ?_)))
  obtain rfl := oI H
  exact Tr.out (m := [sL none (([] : List zV)) 0]) [] (zW rfl zX) (fun W hW => ⟨w, (none, 0), leB, rfl, Kk, hW.pick (ks := [2]) (by decide) (zQ rfl zf)⟩)
 | some a102 =>
  refine Tr.WL rfl rfl ?_
  refine Tr.skip (Tr.zA (Tr.sr (Tr.buildSlice 3 (e := 64) (vs := []) (cs := []) (wn rfl) rfl Qi (by kernel_rfl) fun QE => ?_)))
  refine Tr.mv rfl rfl (Tr.own 3 zP ([] : List zV) (css := []) rfl .nil rfl (by decide) (zCR rfl) ?_)
  obtain ⟨zKu, zPi, H⟩ := bnd H
  refine Tr.zLs 3 (t := zP) (l := ([] : List zV)) (l2 := p0) (wn rfl) rfl rfl rfl rfl (apO zU) zKW zG8 zcz (by decide) zdi rfl zPi fun zJc zJO hAl101 => ?_
  refine Tr.asg rfl rfl (Tr.nil (Tr.zA (Tr.ret ?_)))
  obtain rfl := oI H
  exact Tr.out (m := [sL zJc zKu zJO]) [] (zW rfl zX) (fun W hW => ⟨w, (zJc, zJO), leB, rfl, hAl101, hW.pick (ks := [3]) (by decide) (zQ rfl zf)⟩)

end Go.Proofs.YtoageaoknnnfbaaGreatDoor
