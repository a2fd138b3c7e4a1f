/- The walks: each function computes its plain function. -/
import Derived.Test.YtoageaoknnnfbaaGreatDoorXWd
namespace Go.Proofs.YtoageaoknnnfbaaGreatDoor
open Go.RowKit
set_option maxRecDepth 100000
set_option maxHeartbeats 1000000
theorem zGZ (rec : zAA → (List zD) → zI → Option (Int × Bool × Int × Int × Int × Bool × Int × Int × (List zV))) (hrec : ∀ {w : Bs} (p0 : zAA) (QA : Option Addr) (QB : Nat) (QE : Sl w.R w.W zK QA QB p0.p.Tools) (QD : Option Addr) (QC : Nat) (QU : Sl w.R w.W zG QD QC p0.p.Steps) (QL : Option Addr) (QN : Nat) (Jz : Sl w.R w.W Qe QL QN p0.tools) (QR : Option Addr) (QQ : Nat) (bp0 : Nat) (p1 : (List zD)) (QG : Option Addr) (QH : Nat) (QV : Sl w.R w.W zG QG QH p1) (p2 : zI) (r : (Int × Bool × Int × Int × Int × Bool × Int × Int × (List zV))) (H : rec p0 p1 p2 = some r) (hE : HF w w.W (LEn [bx bp0 #[(iv p0.p.Unit), (.slice QA p0.p.Tools.length QB), (.slice QD p0.p.Steps.length QC), (.slice QL p0.tools.length QN), (.slice QR p0.image.length QQ), (.bool p0.clear), (iv p0.tool), (iv p0.place.X), (iv p0.place.Y), (.bool p0.placed), (iv p0.off), (iv p0.on)] 77, ow QR QQ 107 zJ p0.image])), Calls Tryz.prog 56 [(.pointer (some ⟨bp0, 0, none⟩)), (.slice QG p1.length QH), (.agg #[(iv p2.X), (iv p2.Y)])].toArray w.W fun e W' => ∃ (w' : Bs) (u : (Option Addr × Nat)), w.Le w' ∧ e = .returned (iv r.1) ∧ (SlF u.1 r.2.2.2.2.2.2.2.2.length u.2) ∧ HF w' W' (LEn [bx bp0 #[(iv p0.p.Unit), (.slice QA p0.p.Tools.length QB), (.slice QD p0.p.Steps.length QC), (.slice QL p0.tools.length QN), (.slice u.1 r.2.2.2.2.2.2.2.2.length u.2), (.bool r.2.1), (iv r.2.2.1), (iv r.2.2.2.1), (iv r.2.2.2.2.1), (.bool r.2.2.2.2.2.1), (iv r.2.2.2.2.2.2.1), (iv r.2.2.2.2.2.2.2.1)] 77, ow u.1 u.2 107 zJ r.2.2.2.2.2.2.2.2])) (N : Nat) {w : Bs} (p0 : zAA) (QA : Option Addr) (QB : Nat) (QE : Sl w.R w.W zK QA QB p0.p.Tools) (QD : Option Addr) (QC : Nat) (QU : Sl w.R w.W zG QD QC p0.p.Steps) (QL : Option Addr) (QN : Nat) (Jz : Sl w.R w.W Qe QL QN p0.tools) (QR : Option Addr) (QQ : Nat) (bp0 : Nat) (p1 : zD) (QG : Option Addr) (QH : Nat) (QV : Sl w.R w.W zy QG QH p1.Points) (Qj : Option Addr) (Qi : Nat) (zI8 : Sl w.R w.W zG Qj Qi p1.Steps) (p2 : zI) (r : (Int × Bool × Int × Int × Int × Bool × Int × Int × (List zV))) (H : Jt rec N p0 p1 p2 = some r) (hE : HF w w.W (LEn [bx bp0 #[(iv p0.p.Unit), (.slice QA p0.p.Tools.length QB), (.slice QD p0.p.Steps.length QC), (.slice QL p0.tools.length QN), (.slice QR p0.image.length QQ), (.bool p0.clear), (iv p0.tool), (iv p0.place.X), (iv p0.place.Y), (.bool p0.placed), (iv p0.off), (iv p0.on)] 77, ow QR QQ 107 zJ p0.image])) : Calls Tryz.prog 78 [(.pointer (some ⟨bp0, 0, none⟩)), (.agg #[(iv p1.Kind), (sv p1.Name), (iv p1.At.X), (iv p1.At.Y), (.slice QG p1.Points.length QH), (iv p1.NX), (iv p1.NY), (.slice Qj p1.Steps.length Qi)]), (.agg #[(iv p2.X), (iv p2.Y)])].toArray w.W fun e W' => ∃ (w' : Bs) (u : (Option Addr × Nat)), w.Le w' ∧ e = .returned (iv r.1) ∧ (SlF u.1 r.2.2.2.2.2.2.2.2.length u.2) ∧ HF w' W' (LEn [bx bp0 #[(iv p0.p.Unit), (.slice QA p0.p.Tools.length QB), (.slice QD p0.p.Steps.length QC), (.slice QL p0.tools.length QN), (.slice u.1 r.2.2.2.2.2.2.2.2.length u.2), (.bool r.2.1), (iv r.2.2.1), (iv r.2.2.2.1), (iv r.2.2.2.2.1), (.bool r.2.2.2.2.2.1), (iv r.2.2.2.2.2.2.1), (iv r.2.2.2.2.2.2.2.1)] 77, ow u.1 u.2 107 zJ r.2.2.2.2.2.2.2.2]) := by
 unfold Jt at H
 have WQ := (hE.sl (k := 1) rfl).form
 have leB := Bs.Le.refl w
 refine Tr.enter (n := 116) Tryz.func78 rfl rfl rfl hE ?_
 refine Tr.sr (Tr.box 2 (cs := [(iv p1.Kind), (sv p1.Name), (iv p1.At.X), (iv p1.At.Y), (.slice QG p1.Points.length QH), (iv p1.NX), (iv p1.NY), (.slice Qj p1.Steps.length Qi)]) (wn rfl) rfl rfl rfl fun QM => ?_)
 refine Tr.box 3 (cs := [(iv p2.X), (iv p2.Y)]) (wn rfl) rfl rfl rfl fun Qt => ?_
 refine Tr.asg rfl rfl (Tr.nil (Tr.zA (Tr.sr (Tr.mv rfl rfl (Tr.va rfl (fun _ _ h1 h2 => zB zB6 (h1.ev rfl)) ?_)))))
 refine Tr.va rfl (fun _ _ h1 h2 => zR (cs := [(iv p1.At.X), (iv p1.At.Y)]) KF JB (h1.ev rfl) (zL.take (rdb h2 (vs := [(iv p1.Kind), (sv p1.Name), (iv p1.At.X), (iv p1.At.Y), (.slice QG p1.Points.length QH), (iv p1.NX), (iv p1.NY), (.slice Qj p1.Steps.length Qi)]) (k := 2) rfl 2) 2) rfl) ?_
 refine Tr.va rfl (fun _ _ h1 h2 => zR (cs := [(iv p2.X), (iv p2.Y)]) KF JB (h1.ev rfl) (zL.take (rdb h2 (vs := [(iv p2.X), (iv p2.Y)]) (k := 3) rfl 0) 2) rfl) ?_
 obtain ⟨y102, hy102, H⟩ := bnd H
 refine Tr.Qp (r := (.agg #[(iv y102.X), (iv y102.Y)])) (wn rfl) rfl Tryz.call103 (zF rfl (zF rfl (zF rfl zO))) (fun W hW => zCW p0 QA QB (QE.ext hW.QZ) QD QC (QU.ext hW.QZ) QL QN (Jz.ext hW.QZ) QR QQ (hW.zEA (k := 1) rfl) bp0 (hW.capR (k := 0) rfl) (hW.capC (k := 0) rfl) p1.At p2 y102 hy102 (HF.start _)) ?_
 refine Tr.alloc 4 (wn rfl) rfl zHe fun zCH => ?_
 refine Tr.store 4 (cs := [(iv y102.X), (iv y102.Y)]) [(iv y102.X), (iv y102.Y)] (wn rfl) rfl rfl rfl rfl JB rfl rfl rfl ?_
 refine Tr.nil (Tr.zA ?_)
 have leJ295 := Bs.Le.refl w
 refine Tr.cutJ (σ := (List zV) × Bool × Int × Int × Int × Bool × Int × Int × (Option Addr) × Nat) (fun w s => Ql s.1 s.2.1 s.2.2.1 s.2.2.2.1 s.2.2.2.2.1 s.2.2.2.2.2.1 s.2.2.2.2.2.2.1 s.2.2.2.2.2.2.2.1 = some r ∧ SlF s.2.2.2.2.2.2.2.2.1 s.1.length s.2.2.2.2.2.2.2.2.2) (fun s => []) (fun s => [(0, bx bp0 #[(iv p0.p.Unit), (.slice QA p0.p.Tools.length QB), (.slice QD p0.p.Steps.length QC), (.slice QL p0.tools.length QN), (.slice s.2.2.2.2.2.2.2.2.1 s.1.length s.2.2.2.2.2.2.2.2.2), (.bool s.2.1), (iv s.2.2.1), (iv s.2.2.2.1), (iv s.2.2.2.2.1), (.bool s.2.2.2.2.2.1), (iv s.2.2.2.2.2.2.1), (iv s.2.2.2.2.2.2.2.1)] 77), (1, ow s.2.2.2.2.2.2.2.2.1 s.2.2.2.2.2.2.2.2.2 107 zJ s.1)]) ?_ ?_
 ·refine Tr.sr (Tr.va rfl (fun _ _ h1 h2 => zB zGw (h1.ev rfl)) ?_)
  refine Tr.va rfl (fun _ _ h1 h2 => zC QO (h1.ev rfl) (rdb h2 (vs := [(iv p1.Kind), (sv p1.Name), (iv p1.At.X), (iv p1.At.Y), (.slice QG p1.Points.length QH), (iv p1.NX), (iv p1.NY), (.slice Qj p1.Steps.length Qi)]) (k := 2) rfl 0) rfl) ?_
  refine Tr.nil (Tr.zA (Tr.block ?_))
  have leJ298 := Bs.Le.refl w
  refine Tr.cutJ (σ := Bool) (fun w s => JE N p0 p1 p2 rec y102 s = some r) (fun s => [(0, (.pointer (some ⟨bp0, 0, none⟩))), (4, (.pointer (some ⟨QM, 0, none⟩))), (5, (.pointer (some ⟨Qt, 0, none⟩))), (7, (.pointer (some ⟨zCH, 0, none⟩))), (18, (iv p1.Kind)), (19, (.bool s))]) (fun s => [(0, bx bp0 #[(iv p0.p.Unit), (.slice QA p0.p.Tools.length QB), (.slice QD p0.p.Steps.length QC), (.slice QL p0.tools.length QN), (.slice QR p0.image.length QQ), (.bool p0.clear), (iv p0.tool), (iv p0.place.X), (iv p0.place.Y), (.bool p0.placed), (iv p0.off), (iv p0.on)] 77), (1, ow QR QQ 107 zJ p0.image), (2, bx QM #[(iv p1.Kind), (sv p1.Name), (iv p1.At.X), (iv p1.At.Y), (.slice QG p1.Points.length QH), (iv p1.NX), (iv p1.NY), (.slice Qj p1.Steps.length Qi)] 46), (3, bx Qt #[(iv p2.X), (iv p2.Y)] 43), (4, bx zCH #[(iv y102.X), (iv y102.Y)] 43)]) ?_ ?_
  ·refine Tr.sr (Tr.va rfl (fun _ _ h1 h2 => Qk (h1.ev rfl) (h1.ev rfl)) ?_)
   refine Tr.asg rfl rfl (Tr.nil (Tr.zA (Tr.cond rfl H (fun H => ?_) (fun H => ?_))))
   ·exact Tr.skip (Tr.zZ leJ298 (p1.Kind == 1) H (.cons rfl (.cons rfl (.cons rfl (.cons rfl (.cons rfl (.cons rfl .nil)))))) (.cons rfl (.cons rfl (.cons rfl (.cons rfl (.cons rfl .nil))))))
   ·refine Tr.region (Tr.va rfl (fun _ _ h1 h2 => Qk (h1.ev rfl) (h1.ev rfl)) ?_)
    exact Tr.asg rfl rfl (Tr.nil (Tr.zZ leJ298 (p1.Kind == 2) H (.cons rfl (.cons rfl (.cons rfl (.cons rfl (.cons rfl (.cons rfl .nil)))))) (.cons rfl (.cons rfl (.cons rfl (.cons rfl (.cons rfl .nil)))))))
  ·intro w x297 hlJ299 hs
   have H := hs
   replace H : JE N p0 p1 p2 rec y102 x297 = some r := H
   replace QE := QE.leR hlJ299
   replace QU := QU.leR hlJ299
   replace Jz := Jz.leR hlJ299
   replace QV := QV.leR hlJ299
   replace zI8 := zI8.leR hlJ299
   replace leB := leB.trans hlJ299
   replace leJ295 := leJ295.trans hlJ299
   unfold JE at H
   show Tr _ _ (LF [(0, (.pointer (some ⟨bp0, 0, none⟩))), (4, (.pointer (some ⟨QM, 0, none⟩))), (5, (.pointer (some ⟨Qt, 0, none⟩))), (7, (.pointer (some ⟨zCH, 0, none⟩))), (18, (iv p1.Kind)), (19, (.bool x297))]) (LE [(0, bx bp0 #[(iv p0.p.Unit), (.slice QA p0.p.Tools.length QB), (.slice QD p0.p.Steps.length QC), (.slice QL p0.tools.length QN), (.slice QR p0.image.length QQ), (.bool p0.clear), (iv p0.tool), (iv p0.place.X), (iv p0.place.Y), (.bool p0.placed), (iv p0.off), (iv p0.on)] 77), (1, ow QR QQ 107 zJ p0.image), (2, bx QM #[(iv p1.Kind), (sv p1.Name), (iv p1.At.X), (iv p1.At.Y), (.slice QG p1.Points.length QH), (iv p1.NX), (iv p1.NY), (.slice Qj p1.Steps.length Qi)] 46), (3, bx Qt #[(iv p2.X), (iv p2.Y)] 43), (4, bx zCH #[(iv y102.X), (iv y102.Y)] 43)]) _
   refine Tr.cond rfl H (fun H => ?_) (fun H => ?_)
   ·refine Tr.region (Tr.mv rfl rfl (Tr.va rfl (fun _ _ h1 h2 => zB zGw (h1.ev rfl)) ?_))
    refine Tr.va rfl (fun _ _ h1 h2 => zC QO (h1.ev rfl) (rdb h2 (vs := [(iv p1.Kind), (sv p1.Name), (iv p1.At.X), (iv p1.At.Y), (.slice QG p1.Points.length QH), (iv p1.NX), (iv p1.NY), (.slice Qj p1.Steps.length Qi)]) (k := 2) rfl 0) rfl) ?_
    refine Tr.va rfl (fun _ _ h1 h2 => Qk (h1.ev rfl) (h1.ev rfl)) ?_
    refine Tr.va rfl (fun _ _ h1 h2 => zb (h1.ev rfl)) ?_
    refine Tr.va rfl (fun _ _ h1 h2 => zB fo_77_3 (h1.ev rfl)) ?_
    refine Tr.store 0 (cs := [(.bool (p1.Kind == 2))]) [(iv p0.p.Unit), (.slice QA p0.p.Tools.length QB), (.slice QD p0.p.Steps.length QC), (.slice QL p0.tools.length QN), (.slice QR p0.image.length QQ), (.bool (p1.Kind == 2)), (iv p0.tool), (iv p0.place.X), (iv p0.place.Y), (.bool p0.placed), (iv p0.off), (iv p0.on)] (wn rfl) rfl rfl rfl rfl sz_4 rfl rfl rfl ?_
    refine Tr.nil (Tr.zW ?_)
    exact Tr.zZ leJ295 (p0.image, (p1.Kind == 2), p0.tool, p0.place.X, p0.place.Y, p0.placed, p0.off, p0.on, QR, QQ) ⟨H, WQ⟩ .nil (.cons rfl (.cons rfl .nil))
   ·refine Tr.sr (Tr.va rfl (fun _ _ h1 h2 => Qk (h1.ev rfl) (h1.ev rfl)) ?_)
    refine Tr.asg rfl rfl (Tr.nil (Tr.zA (Tr.cond rfl H (fun H => ?_) (fun H => ?_))))
    ·refine Tr.zC6 8 (by kernel_rfl) (by kernel_rfl) ?_
     refine Tq.mv rfl rfl (Tq.mv rfl rfl (Tq.va rfl (fun _ _ h1 h2 => zb (h1.ev rfl)) ?_))
     refine Tq.va rfl (fun _ _ h1 h2 => zB zKM (h1.ev rfl)) ?_
     refine Tq.va rfl (fun _ _ h1 h2 => zR (cs := [(iv p0.p.Unit), (.slice QA p0.p.Tools.length QB), (.slice QD p0.p.Steps.length QC)]) WK KR (h1.ev rfl) (zL.take (rdb h2 (vs := [(iv p0.p.Unit), (.slice QA p0.p.Tools.length QB), (.slice QD p0.p.Steps.length QC), (.slice QL p0.tools.length QN), (.slice QR p0.image.length QQ), (.bool p0.clear), (iv p0.tool), (iv p0.place.X), (iv p0.place.Y), (.bool p0.placed), (iv p0.off), (iv p0.on)]) (k := 0) rfl 0) 3) rfl) ?_
     refine Tq.va rfl (fun _ _ h1 h2 => zB zIg (h1.ev rfl)) ?_
     refine Tq.va rfl (fun _ _ h1 h2 => zC zKX (h1.ev rfl) (rdb h2 (vs := [(iv p1.Kind), (sv p1.Name), (iv p1.At.X), (iv p1.At.Y), (.slice QG p1.Points.length QH), (iv p1.NX), (iv p1.NY), (.slice Qj p1.Steps.length Qi)]) (k := 2) rfl 1) rfl) ?_
     obtain ⟨y300, hy300, H⟩ := bnd H
     refine Tq.Qp (r := (iv y300)) (wn rfl) rfl Tryz.call96 (zF rfl (zF rfl zO)) (fun W hW => zGY p0.p QA QB (QE.ext hW.QZ) QD QC (QU.ext hW.QZ) p1.Name y300 hy300 (HF.start _)) ?_
     refine Tq.nil (Tr.va rfl (fun _ _ h1 h2 => zb (h1.ev rfl)) ?_)
     refine Tr.va rfl (fun _ _ h1 h2 => zB zKL (h1.ev rfl)) ?_
     refine Tr.store 0 (cs := [(iv y300)]) [(iv p0.p.Unit), (.slice QA p0.p.Tools.length QB), (.slice QD p0.p.Steps.length QC), (.slice QL p0.tools.length QN), (.slice QR p0.image.length QQ), (.bool p0.clear), (iv y300), (iv p0.place.X), (iv p0.place.Y), (.bool p0.placed), (iv p0.off), (iv p0.on)] (wn rfl) rfl rfl rfl rfl zIz rfl rfl rfl ?_
     refine Tr.nil (Tr.zW ?_)
     exact Tr.zZ leJ295 (p0.image, p0.clear, y300, p0.place.X, p0.place.Y, p0.placed, p0.off, p0.on, QR, QQ) ⟨H, WQ⟩ .nil (.cons rfl (.cons rfl .nil))
    ·refine Tr.sr (Tr.va rfl (fun _ _ h1 h2 => Qk (h1.ev rfl) (h1.ev rfl)) ?_)
     refine Tr.asg rfl rfl (Tr.nil (Tr.zA (Tr.cond rfl H (fun H => ?_) (fun H => ?_))))
     ·refine Tr.seq (Tr.zC6 5 (by kernel_rfl) (by kernel_rfl) ?_)
      refine Tq.mv rfl rfl (Tq.va rfl (fun _ _ h1 h2 => zR (cs := [(iv y102.X), (iv y102.Y)]) KF JB (h1.ev rfl) (zL.take (rdb h2 (vs := [(iv y102.X), (iv y102.Y)]) (k := 4) rfl 0) 2) rfl) ?_)
      refine Tq.mv rfl rfl (Tq.va rfl (fun _ _ h1 h2 => zb (h1.ev rfl)) ?_)
      refine Tq.va rfl (fun _ _ h1 h2 => zB fo_77_7 (h1.ev rfl)) ?_
      refine Tq.nil ?_
      obtain ⟨zHT, hy301, H⟩ := bnd H
      refine Tr.VP [0] [bx bp0 #[(iv p0.p.Unit), (.slice QA p0.p.Tools.length QB), (.slice QD p0.p.Steps.length QC), (.slice QL p0.tools.length QN), (.slice QR p0.image.length QQ), (.bool p0.clear), (iv p0.tool), (iv p0.place.X), (iv p0.place.Y), (.bool p0.placed), (iv p0.off), (iv p0.on)] 77] (U := Unit) (fun u => (iv zHT.1)) (fun u => True) (fun u => [bx bp0 #[(iv p0.p.Unit), (.slice QA p0.p.Tools.length QB), (.slice QD p0.p.Steps.length QC), (.slice QL p0.tools.length QN), (.slice QR p0.image.length QQ), (.bool p0.clear), (iv p0.tool), (iv zHT.2.1), (iv zHT.2.2.1), (.bool zHT.2.2.2.1), (iv zHT.2.2.2.2), (iv p0.on)] 77]) rfl (zM rfl zY) (fun _ => rfl) (wn rfl) rfl Tryz.call104 (zF rfl (zF rfl (zF rfl zO))) (fun W hW hp hE => zA3 p0 QA QB (QE.ext (hW.QS hp)) QD QC (QU.ext (hW.QS hp)) QL QN (Jz.ext (hW.QS hp)) QR QQ (hW.slS (k := 1) rfl hp rfl) bp0 y102 zHT hy301 hE) ?_
      intro u hu
      show Tr _ _ (uf _ 47 (iv zHT.1)) (up _ 0 (bx bp0 #[(iv p0.p.Unit), (.slice QA p0.p.Tools.length QB), (.slice QD p0.p.Steps.length QC), (.slice QL p0.tools.length QN), (.slice QR p0.image.length QQ), (.bool p0.clear), (iv p0.tool), (iv zHT.2.1), (iv zHT.2.2.1), (.bool zHT.2.2.2.1), (iv zHT.2.2.2.2), (iv p0.on)] 77)) _
      refine Tr.asg rfl rfl (Tr.nil (Tr.zA (Tr.ret (Tr.zAB (Tr.zU ?_)))))
      obtain rfl := Option.some.inj H
      exact Tr.out (m := [(iv zHT.1)]) [] (zP rfl zQ) (fun W hW => ⟨w, (QR, QQ), leB, rfl, WQ, hW.pick (ks := [0, 1]) (by decide) (zM rfl (zM rfl zY))⟩)
     ·refine Tr.sr (Tr.va rfl (fun _ _ h1 h2 => Qk (h1.ev rfl) (h1.ev rfl)) ?_)
      refine Tr.asg rfl rfl (Tr.nil (Tr.zA (Tr.cond rfl H (fun H => ?_) (fun H => ?_))))
      ·refine Tr.sr (Tr.mv rfl rfl (Tr.va rfl (fun _ _ h1 h2 => zR (cs := [(iv y102.X), (iv y102.Y)]) KF JB (h1.ev rfl) (zL.take (rdb h2 (vs := [(iv y102.X), (iv y102.Y)]) (k := 4) rfl 0) 2) rfl) ?_))
       obtain ⟨zD4, hy303, H⟩ := bnd H
       refine Tr.VQ [0, 1] [bx bp0 #[(iv p0.p.Unit), (.slice QA p0.p.Tools.length QB), (.slice QD p0.p.Steps.length QC), (.slice QL p0.tools.length QN), (.slice QR p0.image.length QQ), (.bool p0.clear), (iv p0.tool), (iv p0.place.X), (iv p0.place.Y), (.bool p0.placed), (iv p0.off), (iv p0.on)] 77, ow QR QQ 107 zJ p0.image] (U := (Option Addr × Nat)) (fun u => (iv zD4.1)) (fun O W u => SlF u.1 zD4.2.2.2.2.2.length u.2) (fun u => [bx bp0 #[(iv p0.p.Unit), (.slice QA p0.p.Tools.length QB), (.slice QD p0.p.Steps.length QC), (.slice QL p0.tools.length QN), (.slice u.1 zD4.2.2.2.2.2.length u.2), (.bool p0.clear), (iv p0.tool), (iv zD4.2.1), (iv zD4.2.2.1), (.bool zD4.2.2.2.1), (iv zD4.2.2.2.2.1), (iv p0.on)] 77, ow u.1 u.2 107 zJ zD4.2.2.2.2.2]) rfl (zM rfl (zM rfl zY)) (fun _ => rfl) (wn rfl) rfl Tryz.call105 (zF rfl (zF rfl zO)) (fun W hW hp hE => zF6 N p0 QA QB (QE.ext (hW.QS hp)) QD QC (QU.ext (hW.QS hp)) QL QN (Jz.ext (hW.QS hp)) QR QQ bp0 y102 zD4 hy303 hE) ?_
       intro w u le304 hu
       obtain ⟨Ay303_0, cy303_0⟩ := u
       have gy303_0 := hu
       replace leB := leB.trans le304
       have hgy303_0 : SlF Ay303_0 zD4.2.2.2.2.2.length cy303_0 := gy303_0 --@phi
       show Tr _ _ (uf _ 52 (iv zD4.1)) (up (up _ 1 (ow Ay303_0 cy303_0 107 zJ zD4.2.2.2.2.2)) 0 (bx bp0 #[(iv p0.p.Unit), (.slice QA p0.p.Tools.length QB), (.slice QD p0.p.Steps.length QC), (.slice QL p0.tools.length QN), (.slice Ay303_0 zD4.2.2.2.2.2.length cy303_0), (.bool p0.clear), (iv p0.tool), (iv zD4.2.1), (iv zD4.2.2.1), (.bool zD4.2.2.2.1), (iv zD4.2.2.2.2.1), (iv p0.on)] 77)) _
       refine Tr.asg rfl rfl (Tr.nil (Tr.zA (Tr.ret (Tr.zAB (Tr.zU ?_)))))
       obtain rfl := Option.some.inj H
       exact Tr.out (m := [(iv zD4.1)]) [] (zP rfl zQ) (fun W hW => ⟨w, (Ay303_0, cy303_0), leB, rfl, hgy303_0, hW.pick (ks := [0, 1]) (by decide) (zM rfl (zM rfl zY))⟩)
      ·refine Tr.sr (Tr.va rfl (fun _ _ h1 h2 => Qk (h1.ev rfl) (h1.ev rfl)) ?_)
       refine Tr.asg rfl rfl (Tr.nil (Tr.zA (Tr.cond rfl H (fun H => ?_) (fun H => ?_))))
       ·refine Tr.sr (Tr.mv rfl rfl (Tr.va rfl (fun _ _ h1 h2 => zR (cs := [(iv y102.X), (iv y102.Y)]) KF JB (h1.ev rfl) (zL.take (rdb h2 (vs := [(iv y102.X), (iv y102.Y)]) (k := 4) rfl 0) 2) rfl) ?_))
        obtain ⟨zD3, hy305, H⟩ := bnd H
        refine Tr.VQ [0, 1] [bx bp0 #[(iv p0.p.Unit), (.slice QA p0.p.Tools.length QB), (.slice QD p0.p.Steps.length QC), (.slice QL p0.tools.length QN), (.slice QR p0.image.length QQ), (.bool p0.clear), (iv p0.tool), (iv p0.place.X), (iv p0.place.Y), (.bool p0.placed), (iv p0.off), (iv p0.on)] 77, ow QR QQ 107 zJ p0.image] (U := (Option Addr × Nat)) (fun u => (iv zD3.1)) (fun O W u => SlF u.1 zD3.2.2.2.2.2.length u.2) (fun u => [bx bp0 #[(iv p0.p.Unit), (.slice QA p0.p.Tools.length QB), (.slice QD p0.p.Steps.length QC), (.slice QL p0.tools.length QN), (.slice u.1 zD3.2.2.2.2.2.length u.2), (.bool p0.clear), (iv p0.tool), (iv zD3.2.1), (iv zD3.2.2.1), (.bool zD3.2.2.2.1), (iv p0.off), (iv zD3.2.2.2.2.1)] 77, ow u.1 u.2 107 zJ zD3.2.2.2.2.2]) rfl (zM rfl (zM rfl zY)) (fun _ => rfl) (wn rfl) rfl Tryz.call106 (zF rfl (zF rfl zO)) (fun W hW hp hE => zGa N p0 QA QB (QE.ext (hW.QS hp)) QD QC (QU.ext (hW.QS hp)) QL QN (Jz.ext (hW.QS hp)) QR QQ bp0 y102 zD3 hy305 hE) ?_
        intro w u le306 hu
        obtain ⟨Ay305_0, cy305_0⟩ := u
        have gy305_0 := hu
        replace leB := leB.trans le306
        have hgy305_0 : SlF Ay305_0 zD3.2.2.2.2.2.length cy305_0 := gy305_0 --@phi
        show Tr _ _ (uf _ 57 (iv zD3.1)) (up (up _ 1 (ow Ay305_0 cy305_0 107 zJ zD3.2.2.2.2.2)) 0 (bx bp0 #[(iv p0.p.Unit), (.slice QA p0.p.Tools.length QB), (.slice QD p0.p.Steps.length QC), (.slice QL p0.tools.length QN), (.slice Ay305_0 zD3.2.2.2.2.2.length cy305_0), (.bool p0.clear), (iv p0.tool), (iv zD3.2.1), (iv zD3.2.2.1), (.bool zD3.2.2.2.1), (iv p0.off), (iv zD3.2.2.2.2.1)] 77)) _
        refine Tr.asg rfl rfl (Tr.nil (Tr.zA (Tr.ret (Tr.zAB (Tr.zU ?_)))))
        obtain rfl := Option.some.inj H
        exact Tr.out (m := [(iv zD3.1)]) [] (zP rfl zQ) (fun W hW => ⟨w, (Ay305_0, cy305_0), leB, rfl, hgy305_0, hW.pick (ks := [0, 1]) (by decide) (zM rfl (zM rfl zY))⟩)
       ·refine Tr.sr (Tr.va rfl (fun _ _ h1 h2 => Qk (h1.ev rfl) (h1.ev rfl)) ?_)
        refine Tr.asg rfl rfl (Tr.nil (Tr.zA (Tr.cond rfl H (fun H => ?_) (fun H => ?_))))
        ·refine Tr.sr (Tr.mv rfl rfl (Tr.va rfl (fun _ _ h1 h2 => zB zB5 (h1.ev rfl)) ?_))
         refine Tr.va rfl (fun _ _ h1 h2 => zC zGU (h1.ev rfl) (rdb h2 (vs := [(iv p1.Kind), (sv p1.Name), (iv p1.At.X), (iv p1.At.Y), (.slice QG p1.Points.length QH), (iv p1.NX), (iv p1.NY), (.slice Qj p1.Steps.length Qi)]) (k := 2) rfl 4) rfl) ?_
         refine Tr.va rfl (fun _ _ h1 h2 => zR (cs := [(iv p2.X), (iv p2.Y)]) KF JB (h1.ev rfl) (zL.take (rdb h2 (vs := [(iv p2.X), (iv p2.Y)]) (k := 3) rfl 0) 2) rfl) ?_
         obtain ⟨zKo, hy307, H⟩ := bnd H
         refine Tr.VQ [0, 1] [bx bp0 #[(iv p0.p.Unit), (.slice QA p0.p.Tools.length QB), (.slice QD p0.p.Steps.length QC), (.slice QL p0.tools.length QN), (.slice QR p0.image.length QQ), (.bool p0.clear), (iv p0.tool), (iv p0.place.X), (iv p0.place.Y), (.bool p0.placed), (iv p0.off), (iv p0.on)] 77, ow QR QQ 107 zJ p0.image] (U := (Option Addr × Nat)) (fun u => (iv zKo.1)) (fun O W u => SlF u.1 zKo.2.length u.2) (fun u => [bx bp0 #[(iv p0.p.Unit), (.slice QA p0.p.Tools.length QB), (.slice QD p0.p.Steps.length QC), (.slice QL p0.tools.length QN), (.slice u.1 zKo.2.length u.2), (.bool p0.clear), (iv p0.tool), (iv p0.place.X), (iv p0.place.Y), (.bool p0.placed), (iv p0.off), (iv p0.on)] 77, ow u.1 u.2 107 zJ zKo.2]) rfl (zM rfl (zM rfl zY)) (fun _ => rfl) (wn rfl) rfl Tryz.call107 (zF rfl (zF rfl (zF rfl zO))) (fun W hW hp hE => zGb N p0 QA QB (QE.ext (hW.QS hp)) QD QC (QU.ext (hW.QS hp)) QL QN (Jz.ext (hW.QS hp)) QR QQ bp0 p1.Points QG QH (QV.ext (hW.QS hp)) p2 zKo hy307 hE) ?_
         intro w u le308 hu
         obtain ⟨Ay307_0, cy307_0⟩ := u
         have gy307_0 := hu
         replace leB := leB.trans le308
         have hgy307_0 : SlF Ay307_0 zKo.2.length cy307_0 := gy307_0 --@phi
         show Tr _ _ (uf _ 64 (iv zKo.1)) (up (up _ 1 (ow Ay307_0 cy307_0 107 zJ zKo.2)) 0 (bx bp0 #[(iv p0.p.Unit), (.slice QA p0.p.Tools.length QB), (.slice QD p0.p.Steps.length QC), (.slice QL p0.tools.length QN), (.slice Ay307_0 zKo.2.length cy307_0), (.bool p0.clear), (iv p0.tool), (iv p0.place.X), (iv p0.place.Y), (.bool p0.placed), (iv p0.off), (iv p0.on)] 77)) _
         refine Tr.asg rfl rfl (Tr.nil (Tr.zA (Tr.ret (Tr.zAB (Tr.zU ?_)))))
         obtain rfl := Option.some.inj H
         exact Tr.out (m := [(iv zKo.1)]) [] (zP rfl zQ) (fun W hW => ⟨w, (Ay307_0, cy307_0), leB, rfl, hgy307_0, hW.pick (ks := [0, 1]) (by decide) (zM rfl (zM rfl zY))⟩)
        ·refine Tr.sr (Tr.va rfl (fun _ _ h1 h2 => Qk (h1.ev rfl) (h1.ev rfl)) ?_)
         refine Tr.asg rfl rfl (Tr.nil (Tr.zA (Tr.cond rfl H (fun H => ?_) (fun H => ?_))))
         ·refine Tr.sr (Tr.va rfl (fun _ _ h1 h2 => zB zGu (h1.ev rfl)) ?_)
          refine Tr.va rfl (fun _ _ h1 h2 => zC QO (h1.ev rfl) (rdb h2 (vs := [(iv p1.Kind), (sv p1.Name), (iv p1.At.X), (iv p1.At.Y), (.slice QG p1.Points.length QH), (iv p1.NX), (iv p1.NY), (.slice Qj p1.Steps.length Qi)]) (k := 2) rfl 6) rfl) ?_
          refine Tr.mv rfl rfl (Tr.nil (Tr.zA (Tr.block (Tr.loop (σ := (List zV) × Bool × Int × Int × Int × Bool × Int × Int × Int × (Option Addr) × Nat) (fun m w s => zAJ N p0 p1 p2 rec m s.1 s.2.1 s.2.2.1 s.2.2.2.1 s.2.2.2.2.1 s.2.2.2.2.2.1 s.2.2.2.2.2.2.1 s.2.2.2.2.2.2.2.1 s.2.2.2.2.2.2.2.2.1 = some r ∧ SlF s.2.2.2.2.2.2.2.2.2.1 s.1.length s.2.2.2.2.2.2.2.2.2.2) (fun s => [(0, (.pointer (some ⟨bp0, 0, none⟩))), (4, (.pointer (some ⟨QM, 0, none⟩))), (5, (.pointer (some ⟨Qt, 0, none⟩))), (68, (iv p1.NY)), (69, (iv s.2.2.2.2.2.2.2.2.1))]) (fun s => [(0, bx bp0 #[(iv p0.p.Unit), (.slice QA p0.p.Tools.length QB), (.slice QD p0.p.Steps.length QC), (.slice QL p0.tools.length QN), (.slice s.2.2.2.2.2.2.2.2.2.1 s.1.length s.2.2.2.2.2.2.2.2.2.2), (.bool s.2.1), (iv s.2.2.1), (iv s.2.2.2.1), (iv s.2.2.2.2.1), (.bool s.2.2.2.2.2.1), (iv s.2.2.2.2.2.2.1), (iv s.2.2.2.2.2.2.2.1)] 77), (1, ow s.2.2.2.2.2.2.2.2.2.1 s.2.2.2.2.2.2.2.2.2.2 107 zJ s.1), (2, bx QM #[(iv p1.Kind), (sv p1.Name), (iv p1.At.X), (iv p1.At.Y), (.slice QG p1.Points.length QH), (iv p1.NX), (iv p1.NY), (.slice Qj p1.Steps.length Qi)] 46), (3, bx Qt #[(iv p2.X), (iv p2.Y)] 43)]) N (p0.image, p0.clear, p0.tool, p0.place.X, p0.place.Y, p0.placed, p0.off, p0.on, 0, QR, QQ) ⟨H, WQ⟩ (.cons rfl (.cons rfl (.cons rfl (.cons rfl (.cons rfl .nil))))) (.cons rfl (.cons rfl (.cons rfl (.cons rfl .nil)))) (fun _ _ h => zAi (h.1)) ?_))))
          intro w zEB mL9 s hs
          obtain ⟨l426, x427, x428, x429, x430, x431, x432, x433, zCF, Al426, cl426⟩ := s
          obtain ⟨H, hl426⟩ := hs
          replace H : zAJ N p0 p1 p2 rec (mL9 + 1) l426 x427 x428 x429 x430 x431 x432 x433 zCF = some r := H
          replace QE := QE.leR zEB
          replace QU := QU.leR zEB
          replace Jz := Jz.leR zEB
          replace zI8 := zI8.leR zEB
          replace leB := leB.trans zEB
          replace leJ295 := leJ295.trans zEB
          replace hl426 : SlF Al426 l426.length cl426 := hl426
          rw [zAJ.eq_2] at H
          show Tr _ _ (LF [(0, (.pointer (some ⟨bp0, 0, none⟩))), (4, (.pointer (some ⟨QM, 0, none⟩))), (5, (.pointer (some ⟨Qt, 0, none⟩))), (68, (iv p1.NY)), (69, (iv zCF))]) (LE [(0, bx bp0 #[(iv p0.p.Unit), (.slice QA p0.p.Tools.length QB), (.slice QD p0.p.Steps.length QC), (.slice QL p0.tools.length QN), (.slice Al426 l426.length cl426), (.bool x427), (iv x428), (iv x429), (iv x430), (.bool x431), (iv x432), (iv x433)] 77), (1, ow Al426 cl426 107 zJ l426), (2, bx QM #[(iv p1.Kind), (sv p1.Name), (iv p1.At.X), (iv p1.At.Y), (.slice QG p1.Points.length QH), (iv p1.NX), (iv p1.NY), (.slice Qj p1.Steps.length Qi)] 46), (3, bx Qt #[(iv p2.X), (iv p2.Y)] 43)]) _
          refine Tr.sr (Tr.va rfl (fun _ _ h1 h2 => zz (h1.ev rfl) (h1.ev rfl)) ?_)
          refine Tr.nil (Tr.zA (Tr.seq (Tr.cond rfl H (fun H => ?_) (fun H => ?_))))
          ·refine Tr.skip (Tr.zA (Tr.seq (Tr.block (Tr.sr (Tr.mv rfl rfl (Tr.asg rfl rfl (Tr.nil (Tr.zA (Tr.sr (Tr.va rfl (fun _ _ h1 h2 => zB zGv (h1.ev rfl)) ?_))))))))))
           refine Tr.va rfl (fun _ _ h1 h2 => zC QO (h1.ev rfl) (rdb h2 (vs := [(iv p1.Kind), (sv p1.Name), (iv p1.At.X), (iv p1.At.Y), (.slice QG p1.Points.length QH), (iv p1.NX), (iv p1.NY), (.slice Qj p1.Steps.length Qi)]) (k := 2) rfl 5) rfl) ?_
           refine Tr.mv rfl rfl (Tr.nil (Tr.zA (Tr.block (Tr.loop (σ := (List zV) × Bool × Int × Int × Int × Bool × Int × Int × Int × (Option Addr) × Nat) (fun m w s => JD p0 p1 p2 rec zCF (zAJ N p0 p1 p2 rec mL9) m s.1 s.2.1 s.2.2.1 s.2.2.2.1 s.2.2.2.2.1 s.2.2.2.2.2.1 s.2.2.2.2.2.2.1 s.2.2.2.2.2.2.2.1 s.2.2.2.2.2.2.2.2.1 = some r ∧ SlF s.2.2.2.2.2.2.2.2.2.1 s.1.length s.2.2.2.2.2.2.2.2.2.2) (fun s => [(0, (.pointer (some ⟨bp0, 0, none⟩))), (4, (.pointer (some ⟨QM, 0, none⟩))), (5, (.pointer (some ⟨Qt, 0, none⟩))), (8, (iv zCF)), (68, (iv p1.NY)), (69, (iv zCF)), (73, (iv p1.NX)), (74, (iv s.2.2.2.2.2.2.2.2.1))]) (fun s => [(0, bx bp0 #[(iv p0.p.Unit), (.slice QA p0.p.Tools.length QB), (.slice QD p0.p.Steps.length QC), (.slice QL p0.tools.length QN), (.slice s.2.2.2.2.2.2.2.2.2.1 s.1.length s.2.2.2.2.2.2.2.2.2.2), (.bool s.2.1), (iv s.2.2.1), (iv s.2.2.2.1), (iv s.2.2.2.2.1), (.bool s.2.2.2.2.2.1), (iv s.2.2.2.2.2.2.1), (iv s.2.2.2.2.2.2.2.1)] 77), (1, ow s.2.2.2.2.2.2.2.2.2.1 s.2.2.2.2.2.2.2.2.2.2 107 zJ s.1), (2, bx QM #[(iv p1.Kind), (sv p1.Name), (iv p1.At.X), (iv p1.At.Y), (.slice QG p1.Points.length QH), (iv p1.NX), (iv p1.NY), (.slice Qj p1.Steps.length Qi)] 46), (3, bx Qt #[(iv p2.X), (iv p2.Y)] 43)]) N (l426, x427, x428, x429, x430, x431, x432, x433, 0, Al426, cl426) ⟨H, hl426⟩ (.cons rfl (.cons rfl (.cons rfl (.cons rfl (.cons rfl (.cons rfl (.cons rfl (.cons rfl .nil)))))))) (.cons rfl (.cons rfl (.cons rfl (.cons rfl .nil)))) (fun _ _ h => zAi (h.1)) ?_))))
           intro w zFd mL10 s hs
           obtain ⟨zJT, x469, x470, x471, x472, x473, x474, x475, zD8, zIE, zH3⟩ := s
           obtain ⟨H, hl468⟩ := hs
           replace H : JD p0 p1 p2 rec zCF (zAJ N p0 p1 p2 rec mL9) (mL10 + 1) zJT x469 x470 x471 x472 x473 x474 x475 zD8 = some r := H
           replace QE := QE.leR zFd
           replace QU := QU.leR zFd
           replace Jz := Jz.leR zFd
           replace zI8 := zI8.leR zFd
           replace leB := leB.trans zFd
           replace zEB := zEB.trans zFd
           replace hl468 : SlF zIE zJT.length zH3 := hl468
           rw [JD.eq_2] at H
           show Tr _ _ (LF [(0, (.pointer (some ⟨bp0, 0, none⟩))), (4, (.pointer (some ⟨QM, 0, none⟩))), (5, (.pointer (some ⟨Qt, 0, none⟩))), (8, (iv zCF)), (68, (iv p1.NY)), (69, (iv zCF)), (73, (iv p1.NX)), (74, (iv zD8))]) (LE [(0, bx bp0 #[(iv p0.p.Unit), (.slice QA p0.p.Tools.length QB), (.slice QD p0.p.Steps.length QC), (.slice QL p0.tools.length QN), (.slice zIE zJT.length zH3), (.bool x469), (iv x470), (iv x471), (iv x472), (.bool x473), (iv x474), (iv x475)] 77), (1, ow zIE zH3 107 zJ zJT), (2, bx QM #[(iv p1.Kind), (sv p1.Name), (iv p1.At.X), (iv p1.At.Y), (.slice QG p1.Points.length QH), (iv p1.NX), (iv p1.NY), (.slice Qj p1.Steps.length Qi)] 46), (3, bx Qt #[(iv p2.X), (iv p2.Y)] 43)]) _
           refine Tr.sr (Tr.va rfl (fun _ _ h1 h2 => zz (h1.ev rfl) (h1.ev rfl)) ?_)
           refine Tr.nil (Tr.zA (Tr.seq (Tr.cond rfl H (fun H => ?_) (fun H => ?_))))
           ·refine Tr.skip (Tr.zA (Tr.seq (Tr.block (Tr.sr (Tr.mv rfl rfl (Tr.asg rfl rfl (Tr.nil (Tr.zA (Tr.seq (Tr.drawF 30 [(29, .makeFunc (.func 0) #[] #[])] [(29, ⟨10, 22, (.func (.func 0) #[] #[]), fun b => .pointer (some ⟨b, 0, none⟩), fun b => bx b #[(iv 0), (iv 0)] 43⟩)] [(0, (.pointer (some ⟨bp0, 0, none⟩))), (4, (.pointer (some ⟨QM, 0, none⟩))), (5, (.pointer (some ⟨Qt, 0, none⟩))), (8, (iv zCF)), (9, (iv zD8)), (10, (.func (.func 0) #[] #[])), (68, (iv p1.NY)), (69, (iv zCF)), (73, (iv p1.NX)), (74, (iv zD8)), (75, (.bool (decide (zD8 < p1.NX)))), (76, (iv zD8)), (77, (.pointer (some ⟨Qt, 0, none⟩))), (78, (iv p2.X)), (79, (iv zD8)), (80, (.pointer (some ⟨QM, 2, none⟩))), (81, (.pointer (some ⟨QM, 2, none⟩))), (82, (iv p1.At.X)), (83, (iv (w64 (zD8 * p1.At.X)))), (84, (.pointer (some ⟨bp0, 0, none⟩))), (85, (.pointer (some ⟨bp0, 0, none⟩))), (86, (.pointer (some ⟨bp0, 0, none⟩))), (87, (.pointer (some ⟨bp0, 0, none⟩))), (88, (iv p0.p.Unit)), (89, (iv (w64 ((w64 (zD8 * p1.At.X)) * p0.p.Unit)))), (90, (iv (w64 (p2.X + (w64 ((w64 (zD8 * p1.At.X)) * p0.p.Unit)))))), (91, (.pointer (some ⟨Qt, 1, none⟩))), (92, (iv p2.Y)), (93, (iv zCF)), (94, (.pointer (some ⟨QM, 2, none⟩))), (95, (.pointer (some ⟨QM, 3, none⟩))), (96, (iv p1.At.Y)), (97, (iv (w64 (zCF * p1.At.Y)))), (98, (.pointer (some ⟨bp0, 0, none⟩))), (99, (.pointer (some ⟨bp0, 0, none⟩))), (100, (.pointer (some ⟨bp0, 0, none⟩))), (101, (.pointer (some ⟨bp0, 0, none⟩))), (102, (iv p0.p.Unit)), (103, (iv (w64 ((w64 (zCF * p1.At.Y)) * p0.p.Unit)))), (104, (iv (w64 (p2.Y + (w64 ((w64 (zCF * p1.At.Y)) * p0.p.Unit)))))), (105, (.agg #[(iv (w64 (p2.X + (w64 ((w64 (zD8 * p1.At.X)) * p0.p.Unit))))), (iv (w64 (p2.Y + (w64 ((w64 (zCF * p1.At.Y)) * p0.p.Unit)))))]))] (by kernel_rfl) (by kernel_rfl) (by kernel_rfl) (by kernel_rfl) (by kernel_rfl) (by kernel_rfl) (by kernel_rfl) (zB7 (fr_alloc rfl rfl zHe) zC5) (zB7 rfl zC5) (zB7 rfl zC5) ?_ ?_))))))))))
            ·refine Tq.va rfl (fun _ _ h1 h2 => zB VL (h1.ev rfl)) ?_
             refine Tq.va rfl (fun _ _ h1 h2 => zC QO (h1.ev rfl) (rdb h2 (vs := [(iv p2.X), (iv p2.Y)]) (k := 3) rfl 0) rfl) ?_
             refine Tq.mv rfl rfl (Tq.va rfl (fun _ _ h1 h2 => zB zB6 (h1.ev rfl)) ?_)
             refine Tq.va rfl (fun _ _ h1 h2 => zB VL (h1.ev rfl)) ?_
             refine Tq.va rfl (fun _ _ h1 h2 => zC QO (h1.ev rfl) (rdb h2 (vs := [(iv p1.Kind), (sv p1.Name), (iv p1.At.X), (iv p1.At.Y), (.slice QG p1.Points.length QH), (iv p1.NX), (iv p1.NY), (.slice Qj p1.Steps.length Qi)]) (k := 2) rfl 2) rfl) ?_
             refine Tq.va rfl (fun _ _ h1 h2 => zBY (h1.ev rfl) (h1.ev rfl)) ?_
             refine Tq.mv rfl rfl (Tq.va rfl (fun _ _ h1 h2 => zb (h1.ev rfl)) ?_)
             refine Tq.va rfl (fun _ _ h1 h2 => zB zKM (h1.ev rfl)) ?_
             refine Tq.va rfl (fun _ _ h1 h2 => zB Vg (h1.ev rfl)) ?_
             refine Tq.va rfl (fun _ _ h1 h2 => zC QO (h1.ev rfl) (rdb h2 (vs := [(iv p0.p.Unit), (.slice QA p0.p.Tools.length QB), (.slice QD p0.p.Steps.length QC), (.slice QL p0.tools.length QN), (.slice zIE zJT.length zH3), (.bool x469), (iv x470), (iv x471), (iv x472), (.bool x473), (iv x474), (iv x475)]) (k := 0) rfl 0) rfl) ?_
             refine Tq.va rfl (fun _ _ h1 h2 => zBY (h1.ev rfl) (h1.ev rfl)) ?_
             refine Tq.va rfl (fun _ _ h1 h2 => zx (h1.ev rfl) (h1.ev rfl)) ?_
             refine Tq.va rfl (fun _ _ h1 h2 => zB Kt (h1.ev rfl)) ?_
             refine Tq.va rfl (fun _ _ h1 h2 => zC QO (h1.ev rfl) (rdb h2 (vs := [(iv p2.X), (iv p2.Y)]) (k := 3) rfl 1) rfl) ?_
             refine Tq.mv rfl rfl (Tq.va rfl (fun _ _ h1 h2 => zB zB6 (h1.ev rfl)) ?_)
             refine Tq.va rfl (fun _ _ h1 h2 => zB Kt (h1.ev rfl)) ?_
             refine Tq.va rfl (fun _ _ h1 h2 => zC QO (h1.ev rfl) (rdb h2 (vs := [(iv p1.Kind), (sv p1.Name), (iv p1.At.X), (iv p1.At.Y), (.slice QG p1.Points.length QH), (iv p1.NX), (iv p1.NY), (.slice Qj p1.Steps.length Qi)]) (k := 2) rfl 3) rfl) ?_
             refine Tq.va rfl (fun _ _ h1 h2 => zBY (h1.ev rfl) (h1.ev rfl)) ?_
             refine Tq.mv rfl rfl (Tq.va rfl (fun _ _ h1 h2 => zb (h1.ev rfl)) ?_)
             refine Tq.va rfl (fun _ _ h1 h2 => zB zKM (h1.ev rfl)) ?_
             refine Tq.va rfl (fun _ _ h1 h2 => zB Vg (h1.ev rfl)) ?_
             refine Tq.va rfl (fun _ _ h1 h2 => zC QO (h1.ev rfl) (rdb h2 (vs := [(iv p0.p.Unit), (.slice QA p0.p.Tools.length QB), (.slice QD p0.p.Steps.length QC), (.slice QL p0.tools.length QN), (.slice zIE zJT.length zH3), (.bool x469), (iv x470), (iv x471), (iv x472), (.bool x473), (iv x474), (iv x475)]) (k := 0) rfl 0) rfl) ?_
             refine Tq.va rfl (fun _ _ h1 h2 => zBY (h1.ev rfl) (h1.ev rfl)) ?_
             refine Tq.va rfl (fun _ _ h1 h2 => zx (h1.ev rfl) (h1.ev rfl)) ?_
             refine Tq.build (vs := [(0, (iv (w64 (p2.X + (w64 ((w64 (zD8 * p1.At.X)) * p0.p.Unit)))))), (1, (iv (w64 (p2.Y + (w64 ((w64 (zCF * p1.At.Y)) * p0.p.Unit))))))]) (cs := [(iv (w64 (p2.X + (w64 ((w64 (zD8 * p1.At.X)) * p0.p.Unit))))), (iv (w64 (p2.Y + (w64 ((w64 (zCF * p1.At.Y)) * p0.p.Unit)))))]) (wn rfl) rfl (zi rfl (zi rfl Qb)) (by kernel_rfl) ?_
             refine Tq.zE5 (vs := []) (wn rfl) rfl zO ?_
             exact Tq.fin (.cons rfl (.cons rfl (.cons rfl (.cons rfl (.cons rfl (.cons rfl (.cons rfl (.cons rfl (.cons rfl (.cons rfl (.cons rfl (.cons rfl (.cons rfl (.cons rfl (.cons rfl (.cons rfl (.cons rfl (.cons rfl (.cons rfl (.cons rfl (.cons rfl (.cons rfl (.cons rfl (.cons rfl (.cons rfl (.cons rfl (.cons rfl (.cons rfl (.cons rfl (.cons rfl (.cons rfl (.cons rfl (.cons rfl (.cons rfl (.cons rfl (.cons rfl (.cons rfl (.cons rfl (.cons rfl (.cons rfl (.cons rfl .nil)))))))))))))))))))))))))))))))))))))))))
            ·intro bs477
             refine Tr.sel (lf := [(0, (.pointer (some ⟨bp0, 0, none⟩))), (4, (.pointer (some ⟨QM, 0, none⟩))), (5, (.pointer (some ⟨Qt, 0, none⟩))), (8, (iv zCF)), (10, (.pointer (some ⟨(bs477 29), 0, none⟩))), (68, (iv p1.NY)), (69, (iv zCF)), (73, (iv p1.NX)), (74, (iv zD8)), (105, (.agg #[(iv (w64 (p2.X + (w64 ((w64 (zD8 * p1.At.X)) * p0.p.Unit))))), (iv (w64 (p2.Y + (w64 ((w64 (zCF * p1.At.Y)) * p0.p.Unit)))))]))]) (le := [(0, bx bp0 #[(iv p0.p.Unit), (.slice QA p0.p.Tools.length QB), (.slice QD p0.p.Steps.length QC), (.slice QL p0.tools.length QN), (.slice zIE zJT.length zH3), (.bool x469), (iv x470), (iv x471), (iv x472), (.bool x473), (iv x474), (iv x475)] 77), (1, ow zIE zH3 107 zJ zJT), (2, bx QM #[(iv p1.Kind), (sv p1.Name), (iv p1.At.X), (iv p1.At.Y), (.slice QG p1.Points.length QH), (iv p1.NX), (iv p1.NY), (.slice Qj p1.Steps.length Qi)] 46), (3, bx Qt #[(iv p2.X), (iv p2.Y)] 43), (22, bx (bs477 29) #[(iv 0), (iv 0)] 43)]) (.cons rfl (.cons rfl (.cons rfl (.cons rfl (.cons rfl (.cons rfl (.cons rfl (.cons rfl (.cons rfl (.cons rfl .nil)))))))))) (.cons rfl (.cons rfl (.cons rfl (.cons rfl (.cons rfl .nil))))) ?_
             refine Tr.store 22 (cs := [(iv (w64 (p2.X + (w64 ((w64 (zD8 * p1.At.X)) * p0.p.Unit))))), (iv (w64 (p2.Y + (w64 ((w64 (zCF * p1.At.Y)) * p0.p.Unit)))))]) [(iv (w64 (p2.X + (w64 ((w64 (zD8 * p1.At.X)) * p0.p.Unit))))), (iv (w64 (p2.Y + (w64 ((w64 (zCF * p1.At.Y)) * p0.p.Unit)))))] (wn rfl) rfl rfl rfl rfl JB rfl rfl rfl ?_
             refine Tr.nil (Tr.zA (Tr.sr (Tr.mv rfl rfl (Tr.va rfl (fun _ _ h1 h2 => zB zC1 (h1.ev rfl)) ?_))))
             refine Tr.va rfl (fun _ _ h1 h2 => zC zDu (h1.ev rfl) (rdb h2 (vs := [(iv p1.Kind), (sv p1.Name), (iv p1.At.X), (iv p1.At.Y), (.slice QG p1.Points.length QH), (iv p1.NX), (iv p1.NY), (.slice Qj p1.Steps.length Qi)]) (k := 2) rfl 7) rfl) ?_
             refine Tr.va rfl (fun _ _ h1 h2 => zR (cs := [(iv (w64 (p2.X + (w64 ((w64 (zD8 * p1.At.X)) * p0.p.Unit))))), (iv (w64 (p2.Y + (w64 ((w64 (zCF * p1.At.Y)) * p0.p.Unit)))))]) KF JB (h1.ev rfl) (zL.take (rdb h2 (vs := [(iv (w64 (p2.X + (w64 ((w64 (zD8 * p1.At.X)) * p0.p.Unit))))), (iv (w64 (p2.Y + (w64 ((w64 (zCF * p1.At.Y)) * p0.p.Unit)))))]) (k := 22) rfl 0) 2) rfl) ?_
             obtain ⟨WB, hy478, H⟩ := bnd H
             refine Tr.VQ [0, 1] [bx bp0 #[(iv p0.p.Unit), (.slice QA p0.p.Tools.length QB), (.slice QD p0.p.Steps.length QC), (.slice QL p0.tools.length QN), (.slice zIE zJT.length zH3), (.bool x469), (iv x470), (iv x471), (iv x472), (.bool x473), (iv x474), (iv x475)] 77, ow zIE zH3 107 zJ zJT] (U := (Option Addr × Nat)) (fun u => (iv WB.1)) (fun O W u => SlF u.1 WB.2.2.2.2.2.2.2.2.length u.2) (fun u => [bx bp0 #[(iv p0.p.Unit), (.slice QA p0.p.Tools.length QB), (.slice QD p0.p.Steps.length QC), (.slice QL p0.tools.length QN), (.slice u.1 WB.2.2.2.2.2.2.2.2.length u.2), (.bool WB.2.1), (iv WB.2.2.1), (iv WB.2.2.2.1), (iv WB.2.2.2.2.1), (.bool WB.2.2.2.2.2.1), (iv WB.2.2.2.2.2.2.1), (iv WB.2.2.2.2.2.2.2.1)] 77, ow u.1 u.2 107 zJ WB.2.2.2.2.2.2.2.2]) rfl (zM rfl (zM rfl zY)) (fun _ => rfl) (wn rfl) rfl Tryz.call56 (zF rfl (zF rfl (zF rfl zO))) (fun W hW hp hE => hrec (zAA.mk p0.p p0.tools zJT x469 x470 (zI.mk x471 x472) x473 x474 x475) QA QB (QE.ext (hW.QS hp)) QD QC (QU.ext (hW.QS hp)) QL QN (Jz.ext (hW.QS hp)) zIE zH3 bp0 p1.Steps Qj Qi (zI8.ext (hW.QS hp)) (zI.mk (w64 (p2.X + (w64 ((w64 (zD8 * p1.At.X)) * p0.p.Unit)))) (w64 (p2.Y + (w64 ((w64 (zCF * p1.At.Y)) * p0.p.Unit))))) WB hy478 hE) ?_
             intro w u le479 hu
             obtain ⟨zKg, zKO⟩ := u
             have gy478_0 := hu
             replace leB := leB.trans le479
             replace zFd := zFd.trans le479
             have hgy478_0 : SlF zKg WB.2.2.2.2.2.2.2.2.length zKO := gy478_0 --@phi
             show Tr _ _ (uf _ 110 (iv WB.1)) (up (up _ 1 (ow zKg zKO 107 zJ WB.2.2.2.2.2.2.2.2)) 0 (bx bp0 #[(iv p0.p.Unit), (.slice QA p0.p.Tools.length QB), (.slice QD p0.p.Steps.length QC), (.slice QL p0.tools.length QN), (.slice zKg WB.2.2.2.2.2.2.2.2.length zKO), (.bool WB.2.1), (iv WB.2.2.1), (iv WB.2.2.2.1), (iv WB.2.2.2.2.1), (.bool WB.2.2.2.2.2.1), (iv WB.2.2.2.2.2.2.1), (iv WB.2.2.2.2.2.2.2.1)] 77)) _
             refine Tr.asg rfl rfl (Tr.nil (Tr.zA (Tr.sr (Tr.mv rfl rfl (Tr.va rfl (fun _ _ h1 h2 => Jv (h1.ev rfl) (h1.ev rfl)) ?_)))))
             refine Tr.nil (Tr.zA (Tr.cond rfl H (fun H => ?_) (fun H => ?_)))
             ·refine Tr.sr (Tr.mv rfl rfl (Tr.asg rfl rfl (Tr.nil (Tr.zA (Tr.ret (Tr.zAB (Tr.zU (Tr.zU (Tr.zAB (Tr.zAB (Tr.zU (Tr.zU (Tr.zAB (Tr.zAB (Tr.zU ?_)))))))))))))))
              obtain rfl := Option.some.inj H
              exact Tr.out (m := [(iv WB.1)]) [] (zP rfl zQ) (fun W hW => ⟨w, (zKg, zKO), leB, rfl, hgy478_0, hW.pick (ks := [0, 1]) (by decide) (zM rfl (zM rfl zY))⟩)
             ·refine Tr.skip (Tr.zW (Tr.zA ?_))
              refine Tr.region (Tr.va rfl (fun _ _ h1 h2 => zx (h1.ev rfl) (h1.ev rfl)) ?_)
              exact Tr.mv rfl rfl (Tr.nil (Tr.zZ zFd (WB.2.2.2.2.2.2.2.2, WB.2.1, WB.2.2.1, WB.2.2.2.1, WB.2.2.2.2.1, WB.2.2.2.2.2.1, WB.2.2.2.2.2.2.1, WB.2.2.2.2.2.2.2.1, (w64 (zD8 + 1)), zKg, zKO) ⟨H, hgy478_0⟩ (.cons rfl (.cons rfl (.cons rfl (.cons rfl (.cons rfl (.cons rfl (.cons rfl (.cons rfl .nil)))))))) (.cons rfl (.cons rfl (.cons rfl (.cons rfl .nil))))))
           ·refine Tr.exit (Tr.zX (Tr.zX (Tr.zAC (Tr.zW (Tr.zA ?_)))))
            refine Tr.region (Tr.va rfl (fun _ _ h1 h2 => zx (h1.ev rfl) (h1.ev rfl)) ?_)
            exact Tr.mv rfl rfl (Tr.nil (Tr.zZ zEB (zJT, x469, x470, x471, x472, x473, x474, x475, (w64 (zCF + 1)), zIE, zH3) ⟨H, hl468⟩ (.cons rfl (.cons rfl (.cons rfl (.cons rfl (.cons rfl .nil))))) (.cons rfl (.cons rfl (.cons rfl (.cons rfl .nil))))))
          ·refine Tr.exit (Tr.zX (Tr.zX (Tr.zAC (Tr.zW ?_))))
           exact Tr.zZ leJ295 (l426, x427, x428, x429, x430, x431, x432, x433, Al426, cl426) ⟨H, hl426⟩ .nil (.cons rfl (.cons rfl .nil))
         ·refine Tr.skip (Tr.zW ?_)
          exact Tr.zZ leJ295 (p0.image, p0.clear, p0.tool, p0.place.X, p0.place.Y, p0.placed, p0.off, p0.on, QR, QQ) ⟨H, WQ⟩ .nil (.cons rfl (.cons rfl .nil))
 ·intro w s hlJ296 hs
  obtain ⟨l287, x288, x289, x290, x291, x292, x293, x294, Al287, cl287⟩ := s
  obtain ⟨H, hl287⟩ := hs
  replace H : Ql l287 x288 x289 x290 x291 x292 x293 x294 = some r := H
  replace leB := leB.trans hlJ296
  replace hl287 : SlF Al287 l287.length cl287 := hl287
  unfold Ql at H
  show Tr _ _ (LF []) (LE [(0, bx bp0 #[(iv p0.p.Unit), (.slice QA p0.p.Tools.length QB), (.slice QD p0.p.Steps.length QC), (.slice QL p0.tools.length QN), (.slice Al287 l287.length cl287), (.bool x288), (iv x289), (iv x290), (iv x291), (.bool x292), (iv x293), (iv x294)] 77), (1, ow Al287 cl287 107 zJ l287)]) _
  refine Tr.sr (Tr.asg rfl rfl (Tr.nil (Tr.zA (Tr.ret ?_))))
  obtain rfl := Option.some.inj H
  exact Tr.out (m := [(iv 0)]) [] (zP rfl zQ) (fun W hW => ⟨w, (Al287, cl287), leB, rfl, hl287, hW.pick (ks := [0, 1]) (by decide) (zM rfl (zM rfl zY))⟩)
theorem zF5 (N : Nat) (rec : zAA → (List zD) → zI → Option (Int × Bool × Int × Int × Int × Bool × Int × Int × (List zV))) (hrec : ∀ {w : Bs} (p0 : zAA) (QA : Option Addr) (QB : Nat) (QE : Sl w.R w.W zK QA QB p0.p.Tools) (QD : Option Addr) (QC : Nat) (QU : Sl w.R w.W zG QD QC p0.p.Steps) (QL : Option Addr) (QN : Nat) (Jz : Sl w.R w.W Qe QL QN p0.tools) (QR : Option Addr) (QQ : Nat) (bp0 : Nat) (p1 : (List zD)) (QG : Option Addr) (QH : Nat) (QV : Sl w.R w.W zG QG QH p1) (p2 : zI) (r : (Int × Bool × Int × Int × Int × Bool × Int × Int × (List zV))) (H : rec p0 p1 p2 = some r) (hE : HF w w.W (LEn [bx bp0 #[(iv p0.p.Unit), (.slice QA p0.p.Tools.length QB), (.slice QD p0.p.Steps.length QC), (.slice QL p0.tools.length QN), (.slice QR p0.image.length QQ), (.bool p0.clear), (iv p0.tool), (iv p0.place.X), (iv p0.place.Y), (.bool p0.placed), (iv p0.off), (iv p0.on)] 77, ow QR QQ 107 zJ p0.image])), Calls Tryz.prog 56 [(.pointer (some ⟨bp0, 0, none⟩)), (.slice QG p1.length QH), (.agg #[(iv p2.X), (iv p2.Y)])].toArray w.W fun e W' => ∃ (w' : Bs) (u : (Option Addr × Nat)), w.Le w' ∧ e = .returned (iv r.1) ∧ (SlF u.1 r.2.2.2.2.2.2.2.2.length u.2) ∧ HF w' W' (LEn [bx bp0 #[(iv p0.p.Unit), (.slice QA p0.p.Tools.length QB), (.slice QD p0.p.Steps.length QC), (.slice QL p0.tools.length QN), (.slice u.1 r.2.2.2.2.2.2.2.2.length u.2), (.bool r.2.1), (iv r.2.2.1), (iv r.2.2.2.1), (iv r.2.2.2.2.1), (.bool r.2.2.2.2.2.1), (iv r.2.2.2.2.2.2.1), (iv r.2.2.2.2.2.2.2.1)] 77, ow u.1 u.2 107 zJ r.2.2.2.2.2.2.2.2])) {w : Bs} (p0 : zAA) (QA : Option Addr) (QB : Nat) (QE : Sl w.R w.W zK QA QB p0.p.Tools) (QD : Option Addr) (QC : Nat) (QU : Sl w.R w.W zG QD QC p0.p.Steps) (QL : Option Addr) (QN : Nat) (Jz : Sl w.R w.W Qe QL QN p0.tools) (QR : Option Addr) (QQ : Nat) (bp0 : Nat) (p1 : (List zD)) (QG : Option Addr) (QH : Nat) (QV : Sl w.R w.W zG QG QH p1) (p2 : zI) (r : (Int × Bool × Int × Int × Int × Bool × Int × Int × (List zV))) (H : zBW N rec p0 p1 p2 = some r) (hE : HF w w.W (LEn [bx bp0 #[(iv p0.p.Unit), (.slice QA p0.p.Tools.length QB), (.slice QD p0.p.Steps.length QC), (.slice QL p0.tools.length QN), (.slice QR p0.image.length QQ), (.bool p0.clear), (iv p0.tool), (iv p0.place.X), (iv p0.place.Y), (.bool p0.placed), (iv p0.off), (iv p0.on)] 77, ow QR QQ 107 zJ p0.image])) : Calls Tryz.prog 56 [(.pointer (some ⟨bp0, 0, none⟩)), (.slice QG p1.length QH), (.agg #[(iv p2.X), (iv p2.Y)])].toArray w.W fun e W' => ∃ (w' : Bs) (u : (Option Addr × Nat)), w.Le w' ∧ e = .returned (iv r.1) ∧ (SlF u.1 r.2.2.2.2.2.2.2.2.length u.2) ∧ HF w' W' (LEn [bx bp0 #[(iv p0.p.Unit), (.slice QA p0.p.Tools.length QB), (.slice QD p0.p.Steps.length QC), (.slice QL p0.tools.length QN), (.slice u.1 r.2.2.2.2.2.2.2.2.length u.2), (.bool r.2.1), (iv r.2.2.1), (iv r.2.2.2.1), (iv r.2.2.2.2.1), (.bool r.2.2.2.2.2.1), (iv r.2.2.2.2.2.2.1), (iv r.2.2.2.2.2.2.2.1)] 77, ow u.1 u.2 107 zJ r.2.2.2.2.2.2.2.2]) := by
 unfold zBW at H
 have WQ := (hE.sl (k := 1) rfl).form
 have leB := Bs.Le.refl w
 refine Tr.enter (n := 24) Tryz.func56 rfl rfl rfl hE ?_
 refine Tr.sr (Tr.box 2 (cs := [(iv p2.X), (iv p2.Y)]) (wn rfl) rfl rfl rfl fun QM => ?_)
 refine Tr.asg rfl rfl (Tr.nil (Tr.zA (Tr.seq (Tr.sr (Tr.mv rfl rfl (Tr.va rfl (fun _ _ h1 h2 => zq zGC (h1.ev rfl)) ?_))))))
 refine Tr.mv rfl rfl (Tr.nil (Tr.zA (Tr.block (Tr.loop (σ := (List zD) × Nat × (List zV) × Bool × Int × Int × Int × Bool × Int × Int × (Option Addr) × Nat) (fun m w s => m = s.1.length + 1 ∧ s.1 = List.drop s.2.1 p1 ∧ s.2.1 ≤ p1.length ∧ JA N p0 p2 rec s.1 s.2.1 s.2.2.1 s.2.2.2.1 s.2.2.2.2.1 s.2.2.2.2.2.1 s.2.2.2.2.2.2.1 s.2.2.2.2.2.2.2.1 s.2.2.2.2.2.2.2.2.1 s.2.2.2.2.2.2.2.2.2.1 = some r ∧ SlF s.2.2.2.2.2.2.2.2.2.2.1 s.2.2.1.length s.2.2.2.2.2.2.2.2.2.2.2) (fun s => [(0, (.pointer (some ⟨bp0, 0, none⟩))), (5, (.pointer (some ⟨QM, 0, none⟩))), (10, (.slice QG p1.length QH)), (11, (iv (p1.length : Int))), (12, (iv (s.2.1 : Int)))]) (fun s => [(0, bx bp0 #[(iv p0.p.Unit), (.slice QA p0.p.Tools.length QB), (.slice QD p0.p.Steps.length QC), (.slice QL p0.tools.length QN), (.slice s.2.2.2.2.2.2.2.2.2.2.1 s.2.2.1.length s.2.2.2.2.2.2.2.2.2.2.2), (.bool s.2.2.2.1), (iv s.2.2.2.2.1), (iv s.2.2.2.2.2.1), (iv s.2.2.2.2.2.2.1), (.bool s.2.2.2.2.2.2.2.1), (iv s.2.2.2.2.2.2.2.2.1), (iv s.2.2.2.2.2.2.2.2.2.1)] 77), (1, ow s.2.2.2.2.2.2.2.2.2.2.1 s.2.2.2.2.2.2.2.2.2.2.2 107 zJ s.2.2.1), (2, bx QM #[(iv p2.X), (iv p2.Y)] 43)]) (p1.length + 1) (p1, 0, p0.image, p0.clear, p0.tool, p0.place.X, p0.place.Y, p0.placed, p0.off, p0.on, QR, QQ) ⟨rfl, rfl, Nat.zero_le _, H, WQ⟩ (.cons rfl (.cons rfl (.cons rfl (.cons rfl (.cons rfl .nil))))) (.cons rfl (.cons rfl (.cons rfl .nil))) (fun _ _ h => absurd h.1 (by simp)) ?_))))
 intro w QW m s hs
 obtain ⟨QF, iL1, l138, zGe, x140, x141, x142, x143, x144, x145, Al138, cl138⟩ := s
 obtain ⟨KJ, QP, hiL1, H, hl138⟩ := hs
 replace QP : QF = List.drop iL1 p1 := QP
 replace H : JA N p0 p2 rec QF iL1 l138 zGe x140 x141 x142 x143 x144 x145 = some r := H
 replace KJ : m + 1 = QF.length + 1 := KJ
 replace QE := QE.leR QW
 replace QU := QU.leR QW
 replace Jz := Jz.leR QW
 replace QV := QV.leR QW
 replace leB := leB.trans QW
 replace hl138 : SlF Al138 l138.length cl138 := hl138
 obtain rfl : m = QF.length := by omega
 clear KJ
 show Tr _ _ (LF [(0, (.pointer (some ⟨bp0, 0, none⟩))), (5, (.pointer (some ⟨QM, 0, none⟩))), (10, (.slice QG p1.length QH)), (11, (iv (p1.length : Int))), (12, (iv (iL1 : Int)))]) (LE [(0, bx bp0 #[(iv p0.p.Unit), (.slice QA p0.p.Tools.length QB), (.slice QD p0.p.Steps.length QC), (.slice QL p0.tools.length QN), (.slice Al138 l138.length cl138), (.bool zGe), (iv x140), (iv x141), (iv x142), (.bool x143), (iv x144), (iv x145)] 77), (1, ow Al138 cl138 107 zJ l138), (2, bx QM #[(iv p2.X), (iv p2.Y)] 43)]) _
 cases QF with
 | nil =>
  rw [JA.eq_1] at H
  refine Tr.sr (Tr.va rfl (fun _ _ h1 h2 => zz (h1.ev rfl) (h1.ev rfl)) ?_)
  refine Tr.nil (Tr.zA (Tr.seq (Tr.WJ rfl (Qy QP) ?_)))
  refine Tr.exit (Tr.zX (Tr.zX (Tr.zAC (Tr.zA (Tr.sr (Tr.asg rfl rfl (Tr.nil (Tr.zA (Tr.ret ?_)))))))))
  obtain rfl := Option.some.inj H
  exact Tr.out (m := [(iv 0)]) [] (zP rfl zQ) (fun W hW => ⟨w, (Al138, cl138), leB, rfl, hl138, hW.pick (ks := [0, 1]) (by decide) (zM rfl (zM rfl zY))⟩)
 | cons xL1 QF =>
  rw [JA.eq_2] at H
  refine Tr.sr (Tr.va rfl (fun _ _ h1 h2 => zz (h1.ev rfl) (h1.ev rfl)) ?_)
  refine Tr.nil (Tr.zA (Tr.seq (Tr.WI rfl (Jg QP) ?_)))
  refine Tr.skip (Tr.zA (Tr.seq (Tr.block (Tr.sr ?_))))
  obtain ⟨u146, hRu146, hoku146, hcu146⟩ := (QV).el (Js QP)
  obtain ⟨⟨zHG, zG3⟩, ⟨zHF, zG2⟩⟩ := u146
  obtain ⟨hoku146_0, hoku146_1⟩ := Vh.1 hoku146
  replace hoku146_0 : Sl w.R w.W zy zHG zG3 xL1.Points := hoku146_0
  replace hoku146_1 : Sl w.R w.W zG zHF zG2 xL1.Steps := hoku146_1
  refine Tr.va rfl (fun _ _ h1 h2 => zH zH0 (h1.ev rfl) QV.form (h1.ev rfl) (Int.natCast_nonneg _) (zo QP)) ?_
  refine Tr.va rfl (fun _ _ h1 h2 => zR (cs := [(iv xL1.Kind), (sv xL1.Name), (iv xL1.At.X), (iv xL1.At.Y), (.slice zHG xL1.Points.length zG3), (iv xL1.NX), (iv xL1.NY), (.slice zHF xL1.Steps.length zG2)]) zKY zEH (h1.ev rfl) (zL.take (rdR hRu146 hcu146 h2) 8) rfl) ?_
  refine Tr.alloc 5 (wn rfl) rfl ze_46 fun b147 => ?_
  refine Tr.store 5 (cs := [(iv xL1.Kind), (sv xL1.Name), (iv xL1.At.X), (iv xL1.At.Y), (.slice zHG xL1.Points.length zG3), (iv xL1.NX), (iv xL1.NY), (.slice zHF xL1.Steps.length zG2)]) [(iv xL1.Kind), (sv xL1.Name), (iv xL1.At.X), (iv xL1.At.Y), (.slice zHG xL1.Points.length zG3), (iv xL1.NX), (iv xL1.NY), (.slice zHF xL1.Steps.length zG2)] (wn rfl) rfl rfl rfl rfl zEH rfl rfl rfl ?_
  refine Tr.nil (Tr.zA (Tr.sr (Tr.mv rfl rfl (Tr.va rfl (fun _ _ h1 h2 => zR (cs := [(iv xL1.Kind), (sv xL1.Name), (iv xL1.At.X), (iv xL1.At.Y), (.slice zHG xL1.Points.length zG3), (iv xL1.NX), (iv xL1.NY), (.slice zHF xL1.Steps.length zG2)]) zKY zEH (h1.ev rfl) (zL.take (rdb h2 (vs := [(iv xL1.Kind), (sv xL1.Name), (iv xL1.At.X), (iv xL1.At.Y), (.slice zHG xL1.Points.length zG3), (iv xL1.NX), (iv xL1.NY), (.slice zHF xL1.Steps.length zG2)]) (k := 5) rfl 0) 8) rfl) ?_))))
  refine Tr.va rfl (fun _ _ h1 h2 => zR (cs := [(iv p2.X), (iv p2.Y)]) KF JB (h1.ev rfl) (zL.take (rdb h2 (vs := [(iv p2.X), (iv p2.Y)]) (k := 2) rfl 0) 2) rfl) ?_
  obtain ⟨WC, hy148, H⟩ := bnd H
  refine Tr.VQ [0, 1] [bx bp0 #[(iv p0.p.Unit), (.slice QA p0.p.Tools.length QB), (.slice QD p0.p.Steps.length QC), (.slice QL p0.tools.length QN), (.slice Al138 l138.length cl138), (.bool zGe), (iv x140), (iv x141), (iv x142), (.bool x143), (iv x144), (iv x145)] 77, ow Al138 cl138 107 zJ l138] (U := (Option Addr × Nat)) (fun u => (iv WC.1)) (fun O W u => SlF u.1 WC.2.2.2.2.2.2.2.2.length u.2) (fun u => [bx bp0 #[(iv p0.p.Unit), (.slice QA p0.p.Tools.length QB), (.slice QD p0.p.Steps.length QC), (.slice QL p0.tools.length QN), (.slice u.1 WC.2.2.2.2.2.2.2.2.length u.2), (.bool WC.2.1), (iv WC.2.2.1), (iv WC.2.2.2.1), (iv WC.2.2.2.2.1), (.bool WC.2.2.2.2.2.1), (iv WC.2.2.2.2.2.2.1), (iv WC.2.2.2.2.2.2.2.1)] 77, ow u.1 u.2 107 zJ WC.2.2.2.2.2.2.2.2]) rfl (zM rfl (zM rfl zY)) (fun _ => rfl) (wn rfl) rfl Tryz.call78 (zF rfl (zF rfl (zF rfl zO))) (fun W hW hp hE => zGZ rec hrec N (zAA.mk p0.p p0.tools l138 zGe x140 (zI.mk x141 x142) x143 x144 x145) QA QB (QE.ext (hW.QS hp)) QD QC (QU.ext (hW.QS hp)) QL QN (Jz.ext (hW.QS hp)) Al138 cl138 bp0 xL1 zHG zG3 (hoku146_0.ext (hW.QS hp)) zHF zG2 (hoku146_1.ext (hW.QS hp)) p2 WC hy148 hE) ?_
  intro w u le149 hu
  obtain ⟨zKi, zKQ⟩ := u
  have gy148_0 := hu
  replace QV := QV.leR le149
  replace hRu146 := le149.r _ hRu146
  replace leB := leB.trans le149
  replace QW := QW.trans le149
  have hgy148_0 : SlF zKi WC.2.2.2.2.2.2.2.2.length zKQ := gy148_0 --@phi
  show Tr _ _ (uf _ 19 (iv WC.1)) (up (up _ 1 (ow zKi zKQ 107 zJ WC.2.2.2.2.2.2.2.2)) 0 (bx bp0 #[(iv p0.p.Unit), (.slice QA p0.p.Tools.length QB), (.slice QD p0.p.Steps.length QC), (.slice QL p0.tools.length QN), (.slice zKi WC.2.2.2.2.2.2.2.2.length zKQ), (.bool WC.2.1), (iv WC.2.2.1), (iv WC.2.2.2.1), (iv WC.2.2.2.2.1), (.bool WC.2.2.2.2.2.1), (iv WC.2.2.2.2.2.2.1), (iv WC.2.2.2.2.2.2.2.1)] 77)) _
  refine Tr.asg rfl rfl (Tr.nil (Tr.zA (Tr.sr (Tr.mv rfl rfl (Tr.va rfl (fun _ _ h1 h2 => Jv (h1.ev rfl) (h1.ev rfl)) ?_)))))
  refine Tr.nil (Tr.zA (Tr.cond rfl H (fun H => ?_) (fun H => ?_)))
  ·refine Tr.sr (Tr.mv rfl rfl (Tr.asg rfl rfl (Tr.nil (Tr.zA (Tr.ret (Tr.zAB (Tr.zU (Tr.zU (Tr.zAB (Tr.zU ?_))))))))))
   obtain rfl := Option.some.inj H
   exact Tr.out (m := [(iv WC.1)]) [] (zP rfl zQ) (fun W hW => ⟨w, (zKi, zKQ), leB, rfl, hgy148_0, hW.pick (ks := [0, 1]) (by decide) (zM rfl (zM rfl zY))⟩)
  ·refine Tr.skip (Tr.zW (Tr.zA ?_))
   refine Tr.region (Tr.va rfl (fun _ _ h1 h2 => zx (h1.ev rfl) (h1.ev rfl)) ?_)
   exact Tr.mv rfl rfl (Tr.nil (Tr.zZ QW (QF, (iL1 + 1), WC.2.2.2.2.2.2.2.2, WC.2.1, WC.2.2.1, WC.2.2.2.1, WC.2.2.2.2.1, WC.2.2.2.2.2.1, WC.2.2.2.2.2.2.1, WC.2.2.2.2.2.2.2.1, zKi, zKQ) ⟨rfl, Qg QP, zo QP, H, hgy148_0⟩ (.cons rfl (.cons rfl (.cons rfl (.cons rfl (.cons (congrArg (fun z => some (Value.int .i64 z)) (Qf QP QV.form)) .nil))))) (.cons rfl (.cons rfl (.cons rfl .nil)))))
theorem zDC : ∀ (N : Nat) {w : Bs} (p0 : zAA) (QA : Option Addr) (QB : Nat) (QE : Sl w.R w.W zK QA QB p0.p.Tools) (QD : Option Addr) (QC : Nat) (QU : Sl w.R w.W zG QD QC p0.p.Steps) (QL : Option Addr) (QN : Nat) (Jz : Sl w.R w.W Qe QL QN p0.tools) (QR : Option Addr) (QQ : Nat) (bp0 : Nat) (p1 : (List zD)) (QG : Option Addr) (QH : Nat) (QV : Sl w.R w.W zG QG QH p1) (p2 : zI) (r : (Int × Bool × Int × Int × Int × Bool × Int × Int × (List zV))) (H : VO N p0 p1 p2 = some r) (hE : HF w w.W (LEn [bx bp0 #[(iv p0.p.Unit), (.slice QA p0.p.Tools.length QB), (.slice QD p0.p.Steps.length QC), (.slice QL p0.tools.length QN), (.slice QR p0.image.length QQ), (.bool p0.clear), (iv p0.tool), (iv p0.place.X), (iv p0.place.Y), (.bool p0.placed), (iv p0.off), (iv p0.on)] 77, ow QR QQ 107 zJ p0.image])), Calls Tryz.prog 56 [(.pointer (some ⟨bp0, 0, none⟩)), (.slice QG p1.length QH), (.agg #[(iv p2.X), (iv p2.Y)])].toArray w.W fun e W' => ∃ (w' : Bs) (u : (Option Addr × Nat)), w.Le w' ∧ e = .returned (iv r.1) ∧ (SlF u.1 r.2.2.2.2.2.2.2.2.length u.2) ∧ HF w' W' (LEn [bx bp0 #[(iv p0.p.Unit), (.slice QA p0.p.Tools.length QB), (.slice QD p0.p.Steps.length QC), (.slice QL p0.tools.length QN), (.slice u.1 r.2.2.2.2.2.2.2.2.length u.2), (.bool r.2.1), (iv r.2.2.1), (iv r.2.2.2.1), (iv r.2.2.2.2.1), (.bool r.2.2.2.2.2.1), (iv r.2.2.2.2.2.2.1), (iv r.2.2.2.2.2.2.2.1)] 77, ow u.1 u.2 107 zJ r.2.2.2.2.2.2.2.2])
 | 0 => by intros; rename_i H _; cases H
 | N + 1 => zF5 N (VO N) (zDC N)

theorem F_plot_drawn_ok (N : Nat) {w : Bs} (p0 : zt) (QA : Option Addr) (QB : Nat) (QE : Sl w.O w.W zK QA QB p0.Tools) (QD : Option Addr) (QC : Nat) (QU : Sl w.O w.W zG QD QC p0.Steps) (r : (zAA × Int)) (H : zDD N p0 = some r) (hE : HF w w.W (LEn [emp, emp, emp])) : Calls Tryz.prog 32 [(.agg #[(iv p0.Unit), (.slice QA p0.Tools.length QB), (.slice QD p0.Steps.length QC)])].toArray w.W fun e W' => ∃ (w' : Bs) (u : (Option Addr × Nat) × (Option Addr × Nat) × (Option Addr × Nat) × (Option Addr × Nat) × (Option Addr × Nat)), w.Le w' ∧ e = .returned (.tuple #[(.pointer (some ⟨u.2.2.2.2.2, 0, none⟩)), (iv r.2)]) ∧ (Sl w'.O w'.W zK u.1.1 u.1.2 r.1.p.Tools ∧ Sl w'.O w'.W zG u.2.1.1 u.2.1.2 r.1.p.Steps ∧ SlF u.2.2.1.1 r.1.tools.length u.2.2.1.2 ∧ SlF u.2.2.2.1.1 r.1.image.length u.2.2.2.1.2 ∧ True) ∧ HF w' W' (LEn [ow u.2.2.1.1 u.2.2.1.2 66 Qe r.1.tools, ow u.2.2.2.1.1 u.2.2.2.1.2 107 zJ r.1.image, bx u.2.2.2.2.2 #[(iv r.1.p.Unit), (.slice u.1.1 r.1.p.Tools.length u.1.2), (.slice u.2.1.1 r.1.p.Steps.length u.2.1.2), (.slice u.2.2.1.1 r.1.tools.length u.2.2.1.2), (.slice u.2.2.2.1.1 r.1.image.length u.2.2.2.1.2), (.bool r.1.clear), (iv r.1.tool), (iv r.1.place.X), (iv r.1.place.Y), (.bool r.1.placed), (iv r.1.off), (iv r.1.on)] 77]) := by
 unfold zDD at H
 have leB := Bs.Le.refl w
 refine Tr.enter (n := 13) Tryz.func32 rfl rfl rfl hE ?_
 refine Tr.sr (Tr.box 1 (cs := [(iv p0.Unit), (.slice QA p0.Tools.length QB), (.slice QD p0.Steps.length QC)]) (wn rfl) rfl rfl rfl fun QM => ?_)
 refine Tr.asg rfl rfl (Tr.asg rfl rfl (Tr.nil (Tr.zA (Tr.sr (Tr.va rfl (fun _ _ h1 h2 => zR (cs := [(iv p0.Unit), (.slice QA p0.Tools.length QB), (.slice QD p0.Steps.length QC)]) WK KR (h1.ev rfl) (zL.take (rdb h2 (vs := [(iv p0.Unit), (.slice QA p0.Tools.length QB), (.slice QD p0.Steps.length QC)]) (k := 1) rfl 0) 3) rfl) ?_)))))
 obtain ⟨y101, hy101, H⟩ := bnd H
 refine Tr.VQ [2, 3, 4] [emp, emp, emp] (U := (Option Addr × Nat) × (Option Addr × Nat) × (Option Addr × Nat) × (Option Addr × Nat) × (Option Addr × Nat)) (fun u => (.pointer (some ⟨u.2.2.2.2.2, 0, none⟩))) (fun O W u => Sl O W zK u.1.1 u.1.2 y101.p.Tools ∧ Sl O W zG u.2.1.1 u.2.1.2 y101.p.Steps ∧ SlF u.2.2.1.1 y101.tools.length u.2.2.1.2 ∧ SlF u.2.2.2.1.1 y101.image.length u.2.2.2.1.2 ∧ True) (fun u => [ow u.2.2.1.1 u.2.2.1.2 66 Qe y101.tools, ow u.2.2.2.1.1 u.2.2.2.1.2 107 zJ y101.image, bx u.2.2.2.2.2 #[(iv y101.p.Unit), (.slice u.1.1 y101.p.Tools.length u.1.2), (.slice u.2.1.1 y101.p.Steps.length u.2.1.2), (.slice u.2.2.1.1 y101.tools.length u.2.2.1.2), (.slice u.2.2.2.1.1 y101.image.length u.2.2.2.1.2), (.bool y101.clear), (iv y101.tool), (iv y101.place.X), (iv y101.place.Y), (.bool y101.placed), (iv y101.off), (iv y101.on)] 77]) rfl (zM rfl (zM rfl (zM rfl zY))) (fun _ => rfl) (wn rfl) rfl Tryz.call55 (zF rfl zO) (fun W hW hp hE => zID N p0 QA QB (QE.zAl (hW.QS hp)) QD QC (QU.zAl (hW.QS hp)) y101 hy101 hE) ?_
 intro w u le102 hu
 obtain ⟨⟨JR, JQ⟩, ⟨Jy, Jw⟩, ⟨zFt, zFj⟩, ⟨zIu, zIl⟩, ⟨Ay101_4, zFi⟩⟩ := u
 obtain ⟨gy101_0, gy101_1, gy101_2, gy101_3, gy101_4⟩ := hu
 replace QU := QU.le le102
 replace leB := leB.trans le102
 have zCP : Sl w.O w.W zK JR JQ y101.p.Tools := gy101_0 --@phi
 have zCz : Sl w.O w.W zG Jy Jw y101.p.Steps := gy101_1 --@phi
 have hgy101_2 : SlF zFt y101.tools.length zFj := gy101_2 --@phi
 have hgy101_3 : SlF zIu y101.image.length zIl := gy101_3 --@phi
 have hgy101_4 : True := gy101_4 --@phi
 show Tr _ _ (uf _ 6 (.pointer (some ⟨zFi, 0, none⟩))) (up (up (up _ 4 (bx zFi #[(iv y101.p.Unit), (.slice JR y101.p.Tools.length JQ), (.slice Jy y101.p.Steps.length Jw), (.slice zFt y101.tools.length zFj), (.slice zIu y101.image.length zIl), (.bool y101.clear), (iv y101.tool), (iv y101.place.X), (iv y101.place.Y), (.bool y101.placed), (iv y101.off), (iv y101.on)] 77)) 3 (ow zIu zIl 107 zJ y101.image)) 2 (ow zFt zFj 66 Qe y101.tools)) _
 refine Tr.asg rfl rfl (Tr.nil (Tr.zA (Tr.sr (Tr.mv rfl rfl (Tr.mv rfl rfl (Tr.va rfl (fun _ _ h1 h2 => zB zGx (h1.ev rfl)) ?_))))))
 refine Tr.va rfl (fun _ _ h1 h2 => zC zDu (h1.ev rfl) (rdb h2 (vs := [(iv p0.Unit), (.slice QA p0.Tools.length QB), (.slice QD p0.Steps.length QC)]) (k := 1) rfl 2) rfl) ?_
 refine Tr.build (vs := []) (cs := [(iv 0), (iv 0)]) (wn rfl) rfl Qb (by kernel_rfl) ?_
 obtain ⟨QJ, zCy, H⟩ := bnd H
 refine Tr.VQ [4, 3] [bx zFi #[(iv y101.p.Unit), (.slice JR y101.p.Tools.length JQ), (.slice Jy y101.p.Steps.length Jw), (.slice zFt y101.tools.length zFj), (.slice zIu y101.image.length zIl), (.bool y101.clear), (iv y101.tool), (iv y101.place.X), (iv y101.place.Y), (.bool y101.placed), (iv y101.off), (iv y101.on)] 77, ow zIu zIl 107 zJ y101.image] (U := (Option Addr × Nat)) (fun u => (iv QJ.1)) (fun O W u => SlF u.1 QJ.2.2.2.2.2.2.2.2.length u.2) (fun u => [bx zFi #[(iv y101.p.Unit), (.slice JR y101.p.Tools.length JQ), (.slice Jy y101.p.Steps.length Jw), (.slice zFt y101.tools.length zFj), (.slice u.1 QJ.2.2.2.2.2.2.2.2.length u.2), (.bool QJ.2.1), (iv QJ.2.2.1), (iv QJ.2.2.2.1), (iv QJ.2.2.2.2.1), (.bool QJ.2.2.2.2.2.1), (iv QJ.2.2.2.2.2.2.1), (iv QJ.2.2.2.2.2.2.2.1)] 77, ow u.1 u.2 107 zJ QJ.2.2.2.2.2.2.2.2]) rfl (zM rfl (zM rfl zY)) (fun _ => rfl) (wn rfl) rfl Tryz.call56 (zF rfl (zF rfl (zF rfl zO))) (fun W hW hp hE => zDC N y101 JR JQ (zCP.rl.ext (hW.QS hp)) Jy Jw (zCz.rl.ext (hW.QS hp)) zFt zFj (hW.slS (k := 2) rfl hp rfl) zIu zIl zFi p0.Steps QD QC (QU.rl.ext (hW.QS hp)) (zI.mk 0 0) QJ zCy hE) ?_
 intro w u le104 hu
 obtain ⟨zDi, zDb⟩ := u
 have gy103_0 := hu
 replace zCP := zCP.le le104
 replace zCz := zCz.le le104
 replace leB := leB.trans le104
 have hgy103_0 : SlF zDi QJ.2.2.2.2.2.2.2.2.length zDb := gy103_0 --@phi
 show Tr _ _ (uf _ 12 (iv QJ.1)) (up (up _ 3 (ow zDi zDb 107 zJ QJ.2.2.2.2.2.2.2.2)) 4 (bx zFi #[(iv y101.p.Unit), (.slice JR y101.p.Tools.length JQ), (.slice Jy y101.p.Steps.length Jw), (.slice zFt y101.tools.length zFj), (.slice zDi QJ.2.2.2.2.2.2.2.2.length zDb), (.bool QJ.2.1), (iv QJ.2.2.1), (iv QJ.2.2.2.1), (iv QJ.2.2.2.2.1), (.bool QJ.2.2.2.2.2.1), (iv QJ.2.2.2.2.2.2.1), (iv QJ.2.2.2.2.2.2.2.1)] 77)) _
 refine Tr.asg rfl rfl (Tr.asg rfl rfl (Tr.nil (Tr.zA (Tr.ret ?_))))
 obtain rfl := Option.some.inj H
 exact Tr.out (m := [(.pointer (some ⟨zFi, 0, none⟩)), (iv QJ.1)]) [] (zP rfl (zP rfl zQ)) (fun W hW => ⟨w, ((JR, JQ), (Jy, Jw), (zFt, zFj), (zDi, zDb), (none, zFi)), leB, rfl, ⟨zCP, zCz, hgy101_2, hgy103_0, trivial⟩, hW.pick (ks := [2, 3, 4]) (by decide) (zM rfl (zM rfl (zM rfl zY)))⟩)

theorem zKf (N : Nat) {w : Bs} (p0 : zt) (QA : Option Addr) (QB : Nat) (QE : Sl w.O w.W zK QA QB p0.Tools) (QD : Option Addr) (QC : Nat) (QU : Sl w.O w.W zG QD QC p0.Steps) (r : ((List zV) × Int)) (H : zDE N p0 = some r) (hE : HF w w.W (LEn [emp])) : Calls Tryz.prog 28 [(.agg #[(iv p0.Unit), (.slice QA p0.Tools.length QB), (.slice QD p0.Steps.length QC)])].toArray w.W fun e W' => ∃ (w' : Bs) (u : (Option Addr × Nat)), w.Le w' ∧ e = .returned (.tuple #[(.slice u.1 r.1.length u.2), (iv r.2)]) ∧ (SlF u.1 r.1.length u.2) ∧ HF w' W' (LEn [ow u.1 u.2 107 zJ r.1]) := by
 unfold zDE at H
 have leB := Bs.Le.refl w
 refine Tr.enter (n := 24) Tryz.func28 rfl rfl rfl hE ?_
 refine Tr.sr (Tr.box 1 (cs := [(iv p0.Unit), (.slice QA p0.Tools.length QB), (.slice QD p0.Steps.length QC)]) (wn rfl) rfl rfl rfl fun QM => ?_)
 refine Tr.asg rfl rfl (Tr.JS 2 107 zJ ?_)
 show Tr _ _ (uf _ 2 (.slice none (([] : List zV)).length 0)) _ _
 refine Tr.asg rfl rfl (Tr.nil (Tr.zA (Tr.seq (Tr.sr (Tr.va rfl (fun _ _ h1 h2 => zR (cs := [(iv p0.Unit), (.slice QA p0.Tools.length QB), (.slice QD p0.Steps.length QC)]) WK KR (h1.ev rfl) (zL.take (rdb h2 (vs := [(iv p0.Unit), (.slice QA p0.Tools.length QB), (.slice QD p0.Steps.length QC)]) (k := 1) rfl 0) 3) rfl) ?_)))))
 obtain ⟨y101, hy101, H⟩ := bnd H
 refine Tr.Qp (r := (iv y101)) (wn rfl) rfl Tryz.call21 (zF rfl zO) (fun W hW => zAf N p0 QA QB (QE.rl.ext hW.QZ) QD QC (QU.rl.ext hW.QZ) y101 hy101 (HF.start _)) ?_
 refine Tr.asg rfl rfl (Tr.nil (Tr.zA (Tr.sr (Tr.mv rfl rfl (Tr.va rfl (fun _ _ h1 h2 => Jv (h1.ev rfl) (h1.ev rfl)) ?_)))))
 refine Tr.nil (Tr.zA (Tr.cond rfl H (fun H => ?_) (fun H => ?_)))
 ·refine Tr.sr (Tr.mv rfl rfl (Tr.asg rfl rfl (Tr.JS 3 107 zJ ?_)))
  show Tr _ _ (uf _ 2 (.slice none (([] : List zV)).length 0)) _ _
  refine Tr.asg rfl rfl (Tr.nil (Tr.zA (Tr.ret (Tr.zU ?_))))
  obtain rfl := Option.some.inj H
  exact Tr.out (m := [(.slice none (([] : List zV)).length 0), (iv y101)]) [] (zP rfl (zP rfl zQ)) (fun W hW => ⟨w, (none, 0), leB, rfl, VD, hW.pick (ks := [3]) (by decide) (zM rfl zY)⟩)
 ·refine Tr.skip (Tr.zA (Tr.sr (Tr.va rfl (fun _ _ h1 h2 => zR (cs := [(iv p0.Unit), (.slice QA p0.Tools.length QB), (.slice QD p0.Steps.length QC)]) WK KR (h1.ev rfl) (zL.take (rdb h2 (vs := [(iv p0.Unit), (.slice QA p0.Tools.length QB), (.slice QD p0.Steps.length QC)]) (k := 1) rfl 0) 3) rfl) ?_)))
  obtain ⟨y102, hy102, H⟩ := bnd H
  refine Tr.VQ [4, 5, 6] [emp, emp, emp] (U := (Option Addr × Nat) × (Option Addr × Nat) × (Option Addr × Nat) × (Option Addr × Nat) × (Option Addr × Nat)) (fun u => (.tuple #[(.pointer (some ⟨u.2.2.2.2.2, 0, none⟩)), (iv y102.2)])) (fun O W u => Sl O W zK u.1.1 u.1.2 y102.1.p.Tools ∧ Sl O W zG u.2.1.1 u.2.1.2 y102.1.p.Steps ∧ SlF u.2.2.1.1 y102.1.tools.length u.2.2.1.2 ∧ SlF u.2.2.2.1.1 y102.1.image.length u.2.2.2.1.2 ∧ True) (fun u => [ow u.2.2.1.1 u.2.2.1.2 66 Qe y102.1.tools, ow u.2.2.2.1.1 u.2.2.2.1.2 107 zJ y102.1.image, bx u.2.2.2.2.2 #[(iv y102.1.p.Unit), (.slice u.1.1 y102.1.p.Tools.length u.1.2), (.slice u.2.1.1 y102.1.p.Steps.length u.2.1.2), (.slice u.2.2.1.1 y102.1.tools.length u.2.2.1.2), (.slice u.2.2.2.1.1 y102.1.image.length u.2.2.2.1.2), (.bool y102.1.clear), (iv y102.1.tool), (iv y102.1.place.X), (iv y102.1.place.Y), (.bool y102.1.placed), (iv y102.1.off), (iv y102.1.on)] 77]) rfl (zM rfl (zM rfl (zM rfl zY))) (fun _ => rfl) (wn rfl) rfl Tryz.call32 (zF rfl zO) (fun W hW hp hE => F_plot_drawn_ok N p0 QA QB (QE.zAl (hW.QS hp)) QD QC (QU.zAl (hW.QS hp)) y102 hy102 hE) ?_
  intro w u le103 hu
  obtain ⟨⟨zEh, zEY⟩, ⟨Ay102_1, cy102_1⟩, ⟨Ay102_2, cy102_2⟩, ⟨zIt, zIk⟩, ⟨Ay102_4, cy102_4⟩⟩ := u
  obtain ⟨gy102_0, gy102_1, gy102_2, gy102_3, gy102_4⟩ := hu
  replace leB := leB.trans le103
  have hgy102_0 : Sl w.O w.W zK zEh zEY y102.1.p.Tools := gy102_0 --@phi
  have hgy102_1 : Sl w.O w.W zG Ay102_1 cy102_1 y102.1.p.Steps := gy102_1 --@phi
  have hgy102_2 : SlF Ay102_2 y102.1.tools.length cy102_2 := gy102_2 --@phi
  have hgy102_3 : SlF zIt y102.1.image.length zIk := gy102_3 --@phi
  have hgy102_4 : True := gy102_4 --@phi
  show Tr _ _ (uf _ 14 (.tuple #[(.pointer (some ⟨cy102_4, 0, none⟩)), (iv y102.2)])) (up (up (up _ 6 (bx cy102_4 #[(iv y102.1.p.Unit), (.slice zEh y102.1.p.Tools.length zEY), (.slice Ay102_1 y102.1.p.Steps.length cy102_1), (.slice Ay102_2 y102.1.tools.length cy102_2), (.slice zIt y102.1.image.length zIk), (.bool y102.1.clear), (iv y102.1.tool), (iv y102.1.place.X), (iv y102.1.place.Y), (.bool y102.1.placed), (iv y102.1.off), (iv y102.1.on)] 77)) 5 (ow zIt zIk 107 zJ y102.1.image)) 4 (ow Ay102_2 cy102_2 66 Qe y102.1.tools)) _
  refine Tr.mv rfl rfl (Tr.va rfl (fun _ _ h1 h2 => Qq (h1.ev rfl) rfl) ?_)
  refine Tr.va rfl (fun _ _ h1 h2 => Qq (h1.ev rfl) rfl) ?_
  refine Tr.asg rfl rfl (Tr.asg rfl rfl (Tr.nil (Tr.zA (Tr.seq (Tr.sr (Tr.mv rfl rfl (Tr.va rfl (fun _ _ h1 h2 => Jv (h1.ev rfl) (h1.ev rfl)) ?_)))))))
  refine Tr.nil (Tr.zA (Tr.cond rfl H (fun H => ?_) (fun H => ?_)))
  ·refine Tr.sr (Tr.mv rfl rfl (Tr.asg rfl rfl (Tr.JS 7 107 zJ ?_)))
   show Tr _ _ (uf _ 2 (.slice none (([] : List zV)).length 0)) _ _
   refine Tr.asg rfl rfl (Tr.nil (Tr.zA (Tr.ret (Tr.zU ?_))))
   obtain rfl := Option.some.inj H
   exact Tr.out (m := [(.slice none (([] : List zV)).length 0), (iv y102.2)]) [] (zP rfl (zP rfl zQ)) (fun W hW => ⟨w, (none, 0), leB, rfl, VD, hW.pick (ks := [7]) (by decide) (zM rfl zY)⟩)
  ·refine Tr.skip (Tr.zA (Tr.sr (Tr.mv rfl rfl (Tr.va rfl (fun _ _ h1 h2 => zb (h1.ev rfl)) ?_))))
   refine Tr.va rfl (fun _ _ h1 h2 => zB zIf (h1.ev rfl)) ?_
   refine Tr.va rfl (fun _ _ h1 h2 => zC ag_66 (h1.ev rfl) (rdb h2 (vs := [(iv y102.1.p.Unit), (.slice zEh y102.1.p.Tools.length zEY), (.slice Ay102_1 y102.1.p.Steps.length cy102_1), (.slice Ay102_2 y102.1.tools.length cy102_2), (.slice zIt y102.1.image.length zIk), (.bool y102.1.clear), (iv y102.1.tool), (iv y102.1.place.X), (iv y102.1.place.Y), (.bool y102.1.placed), (iv y102.1.off), (iv y102.1.on)]) (k := 6) rfl 4) rfl) ?_
   refine Tr.asg rfl rfl (Tr.asg rfl rfl (Tr.nil (Tr.zA (Tr.ret ?_))))
   obtain rfl := Option.some.inj H
   exact Tr.out (m := [(.slice zIt y102.1.image.length zIk), (iv 0)]) [] (zP rfl (zP rfl zQ)) (fun W hW => ⟨w, (zIt, zIk), leB, rfl, hgy102_3, hW.pick (ks := [5]) (by decide) (zM rfl zY)⟩)

theorem zHQ (N : Nat) {w : Bs} (p0 : zt) (QA : Option Addr) (QB : Nat) (QE : Sl w.O w.W zK QA QB p0.Tools) (QD : Option Addr) (QC : Nat) (QU : Sl w.O w.W zG QD QC p0.Steps) (r : ((List zT) × Int)) (H : zBH N p0 = some r) (hE : HF w w.W (LEn [emp])) : Calls Tryz.prog 10 [(.agg #[(iv p0.Unit), (.slice QA p0.Tools.length QB), (.slice QD p0.Steps.length QC)])].toArray w.W fun e W' => ∃ u : (Option Addr × Nat), e = .returned (.tuple #[(.slice u.1 r.1.length u.2), (iv r.2)]) ∧ (SlF u.1 r.1.length u.2) ∧ HF w W' (LEn [ow u.1 u.2 36 zN r.1]) := by
 unfold zBH at H
 have leB := Bs.Le.refl w
 refine Tr.enter (n := 14) Tryz.func10 rfl rfl rfl hE ?_
 refine Tr.sr (Tr.box 1 (cs := [(iv p0.Unit), (.slice QA p0.Tools.length QB), (.slice QD p0.Steps.length QC)]) (wn rfl) rfl rfl rfl fun QM => ?_)
 refine Tr.asg rfl rfl (Tr.JS 2 36 zN ?_)
 show Tr _ _ (uf _ 2 (.slice none (([] : List zT)).length 0)) _ _
 refine Tr.asg rfl rfl (Tr.nil (Tr.zA (Tr.sr (Tr.va rfl (fun _ _ h1 h2 => zR (cs := [(iv p0.Unit), (.slice QA p0.Tools.length QB), (.slice QD p0.Steps.length QC)]) WK KR (h1.ev rfl) (zL.take (rdb h2 (vs := [(iv p0.Unit), (.slice QA p0.Tools.length QB), (.slice QD p0.Steps.length QC)]) (k := 1) rfl 0) 3) rfl) ?_))))
 obtain ⟨y101, hy101, H⟩ := bnd H
 refine Tr.VQ [3] [emp] (U := (Option Addr × Nat)) (fun u => (.tuple #[(.slice u.1 y101.1.length u.2), (iv y101.2)])) (fun O W u => SlF u.1 y101.1.length u.2) (fun u => [ow u.1 u.2 107 zJ y101.1]) rfl (zM rfl zY) (fun _ => rfl) (wn rfl) rfl Tryz.call28 (zF rfl zO) (fun W hW hp hE => zKf N p0 QA QB (QE.zAl (hW.QS hp)) QD QC (QU.zAl (hW.QS hp)) y101 hy101 hE) ?_
 intro w u le102 hu
 obtain ⟨JR, JQ⟩ := u
 have gy101_0 := hu
 replace leB := leB.trans le102
 have zCP : SlF JR y101.1.length JQ := gy101_0 --@phi
 show Tr _ _ (uf _ 8 (.tuple #[(.slice JR y101.1.length JQ), (iv y101.2)])) (up _ 3 (ow JR JQ 107 zJ y101.1)) _
 refine Tr.mv rfl rfl (Tr.va rfl (fun _ _ h1 h2 => Qq (h1.ev rfl) rfl) ?_)
 refine Tr.va rfl (fun _ _ h1 h2 => Qq (h1.ev rfl) rfl) ?_
 refine Tr.asg rfl rfl (Tr.asg rfl rfl (Tr.nil (Tr.zA (Tr.sr (Tr.mv rfl rfl ?_)))))
 obtain ⟨QJ, zCy, H⟩ := bnd H
 refine Tr.VP [4] [emp] (U := (Option Addr × Nat)) (fun u => (.slice u.1 QJ.length u.2)) (fun u => SlF u.1 QJ.length u.2) (fun u => [ow u.1 u.2 36 zN QJ]) rfl (zM rfl zY) (fun _ => rfl) (wn rfl) rfl Tryz.call29 (zF rfl zO) (fun W hW hp hE => zDK N y101.1 JR JQ (hW.slS (k := 3) rfl hp rfl) QJ zCy hE) ?_
 intro u hu
 obtain ⟨zDi, zDb⟩ := u
 have gy103_0 := hu
 have hgy103_0 : SlF zDi QJ.length zDb := gy103_0 --@phi
 show Tr _ _ (uf _ 12 (.slice zDi QJ.length zDb)) (up _ 4 (ow zDi zDb 36 zN QJ)) _
 refine Tr.mv rfl rfl (Tr.asg rfl rfl (Tr.asg rfl rfl (Tr.nil (Tr.zA (Tr.ret ?_)))))
 obtain rfl := Option.some.inj H
 exact Tr.out (m := [(.slice zDi QJ.length zDb), (iv y101.2)]) [] (zP rfl (zP rfl zQ)) (fun W hW => ⟨(zDi, zDb), rfl, hgy103_0, HF.zHZ leB (hW.pick (ks := [4]) (by decide) (zM rfl zY)) ⟨zE4 _ _ _ _ zBl, trivial⟩⟩)

theorem zG5 {w : Bs} (p0 : (List zT)) (QA : Option Addr) (QB : Nat) (QE : Sl w.R w.W zN QA QB p0) (p1 : (List zT)) (QG : Option Addr) (QH : Nat) (QV : Sl w.R w.W zN QG QH p1) (r : Bool) (H : WL p0 p1 = some r) (hE : HF w w.W E0) : Calls Tryz.prog 11 [(.slice QA p0.length QB), (.slice QG p1.length QH)].toArray w.W fun e W' => e = .returned (.bool r) ∧ HF w W' E0 := by
 unfold WL at H
 have leB := Bs.Le.refl w
 refine Tr.enter (n := 26) Tryz.func11 rfl rfl rfl hE ?_
 refine Tr.sr (Tr.asg rfl rfl (Tr.nil (Tr.zA (Tr.seq (Tr.sr (Tr.mv rfl rfl (Tr.va rfl (fun _ _ h1 h2 => zq zA0 (h1.ev rfl)) ?_)))))))
 refine Tr.mv rfl rfl (Tr.va rfl (fun _ _ h1 h2 => zq zA0 (h1.ev rfl)) ?_)
 refine Tr.va rfl (fun _ _ h1 h2 => Jv (h1.ev rfl) (h1.ev rfl)) ?_
 refine Tr.nil (Tr.zA (Tr.cond rfl H (fun H => ?_) (fun H => ?_)))
 ·refine Tr.sr (Tr.asg rfl rfl (Tr.nil (Tr.zA (Tr.ret (Tr.zU ?_)))))
  obtain rfl := Option.some.inj H
  exact Tr.out (m := [(.bool false)]) [] (zP rfl zQ) (fun W hW => ⟨rfl, hW.low leB⟩)
 ·refine Tr.skip (Tr.zA (Tr.seq (Tr.sr (Tr.mv rfl rfl (Tr.va rfl (fun _ _ h1 h2 => zq zA0 (h1.ev rfl)) ?_)))))
  refine Tr.mv rfl rfl (Tr.nil (Tr.zA (Tr.block (Tr.loop (σ := (List zT) × Nat) (fun m w s => m = s.1.length + 1 ∧ s.1 = List.drop s.2 p0 ∧ s.2 ≤ p0.length ∧ Qz p1 s.1 s.2 = some r) (fun s => [(0, (.slice QA p0.length QB)), (1, (.slice QG p1.length QH)), (12, (iv (p0.length : Int))), (13, (iv (s.2 : Int)))]) (fun s => []) (p0.length + 1) (p0, 0) ⟨rfl, rfl, Nat.zero_le _, H⟩ (.cons rfl (.cons rfl (.cons rfl (.cons rfl .nil)))) .nil (fun _ _ h => absurd h.1 (by simp)) ?_))))
  intro w QW m s hs
  obtain ⟨QF, iL1⟩ := s
  obtain ⟨KJ, QP, hiL1, H⟩ := hs
  replace QP : QF = List.drop iL1 p0 := QP
  replace H : Qz p1 QF iL1 = some r := H
  replace KJ : m + 1 = QF.length + 1 := KJ
  replace QE := QE.leR QW
  replace QV := QV.leR QW
  replace leB := leB.trans QW
  obtain rfl : m = QF.length := by omega
  clear KJ
  show Tr _ _ (LF [(0, (.slice QA p0.length QB)), (1, (.slice QG p1.length QH)), (12, (iv (p0.length : Int))), (13, (iv (iL1 : Int)))]) (LE []) _
  cases QF with
  | nil =>
   rw [Qz.eq_1] at H
   refine Tr.sr (Tr.va rfl (fun _ _ h1 h2 => zz (h1.ev rfl) (h1.ev rfl)) ?_)
   refine Tr.nil (Tr.zA (Tr.seq (Tr.WJ rfl (Qy QP) ?_)))
   refine Tr.exit (Tr.zX (Tr.zX (Tr.zAC (Tr.zA (Tr.sr (Tr.asg rfl rfl (Tr.nil (Tr.zA (Tr.ret ?_)))))))))
   obtain rfl := Option.some.inj H
   exact Tr.out (m := [(.bool true)]) [] (zP rfl zQ) (fun W hW => ⟨rfl, hW.low leB⟩)
  | cons xL1 QF =>
   rw [Qz.eq_2] at H
   refine Tr.sr (Tr.va rfl (fun _ _ h1 h2 => zz (h1.ev rfl) (h1.ev rfl)) ?_)
   refine Tr.nil (Tr.zA (Tr.seq (Tr.WI rfl (Jg QP) ?_)))
   refine Tr.skip (Tr.zA (Tr.seq (Tr.block (Tr.sr (Tr.mv rfl rfl (Tr.asg rfl rfl (Tr.nil (Tr.zA (Tr.seq (Tr.draw (by kernel_rfl) (by kernel_rfl) ?_))))))))))
   refine Tq.mv rfl rfl (Tq.mv rfl rfl (Tq.va rfl (fun _ _ h1 h2 => zH zCR (h1.ev rfl) QE.form (h1.ev rfl) (Int.natCast_nonneg _) (zo QP)) ?_))
   refine Tq.va rfl (fun _ _ h1 h2 => zR (cs := [(iv xL1.X0), (iv xL1.Y0), (iv xL1.X1), (iv xL1.Y1)]) zCD Kv (h1.ev rfl) (zL.take (rdF VM QE (Js QP) h2) 4) rfl) ?_
   refine Tq.mv rfl rfl (Tq.mv rfl rfl ?_)
   obtain ⟨x103, hx103, H⟩ := bnd H
   obtain ⟨hx1030, hx1031, hx1032⟩ := zh hx103
   refine Tq.va rfl (fun _ _ h1 h2 => zH zCR (h1.ev rfl) QV.form (h1.ev rfl) hx1030 hx1031) ?_
   refine Tq.va rfl (fun _ _ h1 h2 => zR (cs := [(iv x103.X0), (iv x103.Y0), (iv x103.X1), (iv x103.Y1)]) zCD Kv (h1.ev rfl) (zL.take (rdF VM QV hx1032 h2) 4) rfl) ?_
   refine Tq.va rfl (fun _ _ h1 h2 => run_neq_36 xL1 x103 (h1.ev rfl) (h1.ev rfl)) ?_
   refine Tq.nil (Tr.zA (Tr.cond rfl H (fun H => ?_) (fun H => ?_)))
   ·refine Tr.sr (Tr.asg rfl rfl (Tr.nil (Tr.zA (Tr.ret (Tr.zAB (Tr.zU (Tr.zU (Tr.zAB (Tr.zU ?_)))))))))
    obtain rfl := Option.some.inj H
    exact Tr.out (m := [(.bool false)]) [] (zP rfl zQ) (fun W hW => ⟨rfl, hW.low leB⟩)
   ·refine Tr.skip (Tr.zW (Tr.zA ?_))
    refine Tr.region (Tr.va rfl (fun _ _ h1 h2 => zx (h1.ev rfl) (h1.ev rfl)) ?_)
    exact Tr.mv rfl rfl (Tr.nil (Tr.zZ QW (QF, (iL1 + 1)) ⟨rfl, Qg QP, zo QP, H⟩ (.cons rfl (.cons rfl (.cons rfl (.cons (congrArg (fun z => some (Value.int .i64 z)) (Qf QP QE.form)) .nil)))) .nil))

theorem zBy (N : Nat) {w : Bs} (p0 : zt) (QA : Option Addr) (QB : Nat) (QE : Sl w.O w.W zK QA QB p0.Tools) (QD : Option Addr) (QC : Nat) (QU : Sl w.O w.W zG QD QC p0.Steps) (p1 : Int) (r : Bool) (H : Jq N p0 p1 = some r) (hE : HF w w.W E0) : Calls Tryz.prog 3 [(.agg #[(iv p0.Unit), (.slice QA p0.Tools.length QB), (.slice QD p0.Steps.length QC)]), (iv p1)].toArray w.W fun e W' => e = .returned (.bool r) ∧ HF w W' E0 := by
 unfold Jq at H
 have leB := Bs.Le.refl w
 refine Tr.enter (n := 72) Tryz.func3 rfl rfl rfl hE ?_
 refine Tr.sr (Tr.box 1 (cs := [(iv p0.Unit), (.slice QA p0.Tools.length QB), (.slice QD p0.Steps.length QC)]) (wn rfl) rfl rfl rfl fun QM => ?_)
 refine Tr.asg rfl rfl (Tr.nil (Tr.zA (Tr.sr (Tr.va rfl (fun _ _ h1 h2 => zR (cs := [(iv p0.Unit), (.slice QA p0.Tools.length QB), (.slice QD p0.Steps.length QC)]) WK KR (h1.ev rfl) (zL.take (rdb h2 (vs := [(iv p0.Unit), (.slice QA p0.Tools.length QB), (.slice QD p0.Steps.length QC)]) (k := 1) rfl 0) 3) rfl) ?_))))
 refine Tr.mv rfl rfl ?_
 obtain ⟨y101, hy101, H⟩ := bnd H
 refine Tr.VQ [] [] (U := (Option Addr × Nat) × (Option Addr × Nat)) (fun u => (.tuple #[(.agg #[(iv y101.1.Unit), (.slice u.1.1 y101.1.Tools.length u.1.2), (.slice u.2.1 y101.1.Steps.length u.2.2)]), (.bool y101.2.1), (iv y101.2.2)])) (fun O W u => Sl O W zK u.1.1 u.1.2 y101.1.Tools ∧ Sl O W zG u.2.1 u.2.2 y101.1.Steps) (fun u => []) rfl zY (fun _ => rfl) (wn rfl) rfl Tryz.call7 (zF rfl (zF rfl zO)) (fun W hW hp hE => zGc N p0 QA QB (QE.zAl (hW.QS hp)) QD QC (QU.zAl (hW.QS hp)) p1 y101 hy101 hE) ?_
 intro w u le102 hu
 obtain ⟨⟨JR, JQ⟩, ⟨Jy, Jw⟩⟩ := u
 obtain ⟨gy101_0, gy101_1⟩ := hu
 replace QE := QE.le le102
 replace QU := QU.le le102
 replace leB := leB.trans le102
 have zCP : Sl w.O w.W zK JR JQ y101.1.Tools := gy101_0 --@phi
 have zCz : Sl w.O w.W zG Jy Jw y101.1.Steps := gy101_1 --@phi
 show Tr _ _ (uf _ 15 (.tuple #[(.agg #[(iv y101.1.Unit), (.slice JR y101.1.Tools.length JQ), (.slice Jy y101.1.Steps.length Jw)]), (.bool y101.2.1), (iv y101.2.2)])) (_) _
 refine Tr.mv rfl rfl (Tr.va rfl (fun _ _ h1 h2 => Qq (h1.ev rfl) rfl) ?_)
 refine Tr.va rfl (fun _ _ h1 h2 => Qq (h1.ev rfl) rfl) ?_
 refine Tr.va rfl (fun _ _ h1 h2 => Qq (h1.ev rfl) rfl) ?_
 refine Tr.alloc 2 (wn rfl) rfl ze_25 fun zCH => ?_
 refine Tr.store 2 (cs := [(iv y101.1.Unit), (.slice JR y101.1.Tools.length JQ), (.slice Jy y101.1.Steps.length Jw)]) [(iv y101.1.Unit), (.slice JR y101.1.Tools.length JQ), (.slice Jy y101.1.Steps.length Jw)] (wn rfl) rfl rfl rfl rfl KR rfl rfl rfl ?_
 refine Tr.asg rfl rfl (Tr.asg rfl rfl (Tr.nil (Tr.zA (Tr.seq (Tr.sr (Tr.mv rfl rfl (Tr.va rfl (fun _ _ h1 h2 => Jv (h1.ev rfl) (h1.ev rfl)) ?_)))))))
 refine Tr.mv rfl rfl (Tr.VR 3 [(2, (.pointer (some ⟨QM, 0, none⟩))), (5, (.pointer (some ⟨zCH, 0, none⟩))), (24, (.bool ((y101.2.2 != 0) || (!y101.2.1))))] [(1, bx QM #[(iv p0.Unit), (.slice QA p0.Tools.length QB), (.slice QD p0.Steps.length QC)] 25), (2, bx zCH #[(iv y101.1.Unit), (.slice JR y101.1.Tools.length JQ), (.slice Jy y101.1.Steps.length Jw)] 25)] ?_ ?_)
 ·cases zJA : (y101.2.2 != 0)
  ·refine Tr.val (wg rfl rfl rfl) rfl (fun _ _ h1 h2 => run_move (h1.ev rfl)) ?_
   refine Tr.val (wg rfl rfl rfl) rfl (fun _ _ h1 h2 => JO (h1.ev rfl)) ?_
   refine Tr.va rfl (fun _ _ h1 h2 => zf (h1.ev rfl) (h1.ev rfl)) ?_
   exact Tr.nil (Tr.Qo (.cons rfl (.cons rfl (.cons rfl .nil))) (.cons rfl (.cons rfl .nil)))
  ·refine Tr.pass rfl rfl rfl rfl rfl (by decide) ?_
   refine Tr.pass rfl rfl rfl rfl rfl (by decide) ?_
   refine Tr.va rfl (fun _ _ h1 h2 => ze (h1.ev rfl) (h1.ev rfl)) ?_
   exact Tr.nil (Tr.Qo (.cons rfl (.cons rfl (.cons rfl .nil))) (.cons rfl (.cons rfl .nil)))
 ·show Tr _ _ (LF [(2, (.pointer (some ⟨QM, 0, none⟩))), (5, (.pointer (some ⟨zCH, 0, none⟩))), (24, (.bool ((y101.2.2 != 0) || (!y101.2.1))))]) (LE [(1, bx QM #[(iv p0.Unit), (.slice QA p0.Tools.length QB), (.slice QD p0.Steps.length QC)] 25), (2, bx zCH #[(iv y101.1.Unit), (.slice JR y101.1.Tools.length JQ), (.slice Jy y101.1.Steps.length Jw)] 25)]) _
  refine Tr.nil (Tr.zA (Tr.cond rfl H (fun H => ?_) (fun H => ?_)))
  ·refine Tr.sr (Tr.va rfl (fun _ _ h1 h2 => zB Vg (h1.ev rfl)) ?_)
   refine Tr.va rfl (fun _ _ h1 h2 => zC QO (h1.ev rfl) (rdb h2 (vs := [(iv y101.1.Unit), (.slice JR y101.1.Tools.length JQ), (.slice Jy y101.1.Steps.length Jw)]) (k := 2) rfl 0) rfl) ?_
   refine Tr.va rfl (fun _ _ h1 h2 => Qk (h1.ev rfl) (h1.ev rfl)) ?_
   refine Tr.mv rfl rfl ?_
   obtain ⟨g105, hg105, H⟩ := bnd H
   refine Tr.VR 2 [(30, (.bool g105))] [(1, bx QM #[(iv p0.Unit), (.slice QA p0.Tools.length QB), (.slice QD p0.Steps.length QC)] 25), (2, bx zCH #[(iv y101.1.Unit), (.slice JR y101.1.Tools.length JQ), (.slice Jy y101.1.Steps.length Jw)] 25)] ?_ ?_
   ·cases zDH : (y101.1.Unit == 0)
    ·rw [zDH] at hg105
     rw [if_neg (by decide)] at hg105
     have H := hg105
     obtain rfl := Option.some.inj H
     refine Tr.pass rfl rfl rfl rfl rfl (by decide) ?_
     refine Tr.va rfl (fun _ _ h1 h2 => zf (h1.ev rfl) (h1.ev rfl)) ?_
     exact Tr.nil (Tr.Qo (.cons rfl .nil) (.cons rfl (.cons rfl .nil)))
    ·rw [zDH] at hg105
     rw [if_pos rfl] at hg105
     have H := hg105
     obtain ⟨VU, zHu, H⟩ := bnd H
     refine Tr.Qp (r := (.bool VU)) (wg rfl rfl rfl) rfl Tryz.call8 zO (fun W hW => zCX N VU zHu (HF.start _)) ?_
     refine Tr.va rfl (fun _ _ h1 h2 => ze (h1.ev rfl) (h1.ev rfl)) ?_
     obtain rfl := Option.some.inj H
     exact Tr.nil (Tr.Qo (.cons rfl .nil) (.cons rfl (.cons rfl .nil)))
   ·show Tr _ _ (LF [(30, (.bool g105))]) (LE [(1, bx QM #[(iv p0.Unit), (.slice QA p0.Tools.length QB), (.slice QD p0.Steps.length QC)] 25), (2, bx zCH #[(iv y101.1.Unit), (.slice JR y101.1.Tools.length JQ), (.slice Jy y101.1.Steps.length Jw)] 25)]) _
    refine Tr.asg rfl rfl (Tr.nil (Tr.zA (Tr.ret (Tr.zU ?_))))
    obtain rfl := Option.some.inj H
    exact Tr.out (m := [(.bool g105)]) [] (zP rfl zQ) (fun W hW => ⟨rfl, hW.low leB⟩)
  ·refine Tr.skip (Tr.zA (Tr.sr (Tr.va rfl (fun _ _ h1 h2 => zR (cs := [(iv y101.1.Unit), (.slice JR y101.1.Tools.length JQ), (.slice Jy y101.1.Steps.length Jw)]) WK KR (h1.ev rfl) (zL.take (rdb h2 (vs := [(iv y101.1.Unit), (.slice JR y101.1.Tools.length JQ), (.slice Jy y101.1.Steps.length Jw)]) (k := 2) rfl 0) 3) rfl) ?_)))
   refine Tr.va rfl (fun _ _ h1 h2 => zB Vg (h1.ev rfl)) ?_
   refine Tr.va rfl (fun _ _ h1 h2 => zC QO (h1.ev rfl) (rdb h2 (vs := [(iv p0.Unit), (.slice QA p0.Tools.length QB), (.slice QD p0.Steps.length QC)]) (k := 1) rfl 0) rfl) ?_
   obtain ⟨JJ, hy107, H⟩ := bnd H
   refine Tr.VQ [] [] (U := (Option Addr × Nat) × (Option Addr × Nat)) (fun u => (.tuple #[(.agg #[(iv JJ.1.Unit), (.slice u.1.1 JJ.1.Tools.length u.1.2), (.slice u.2.1 JJ.1.Steps.length u.2.2)]), (.bool JJ.2.1), (iv JJ.2.2)])) (fun O W u => Sl O W zK u.1.1 u.1.2 JJ.1.Tools ∧ Sl O W zG u.2.1 u.2.2 JJ.1.Steps) (fun u => []) rfl zY (fun _ => rfl) (wn rfl) rfl Tryz.call7 (zF rfl (zF rfl zO)) (fun W hW hp hE => zGc N y101.1 JR JQ (zCP.zAl (hW.QS hp)) Jy Jw (zCz.zAl (hW.QS hp)) p0.Unit JJ hy107 hE) ?_
   intro w u zGJ hu
   obtain ⟨⟨WA, Vw⟩, ⟨zBJ, zBB⟩⟩ := u
   obtain ⟨gy107_0, gy107_1⟩ := hu
   replace QE := QE.le zGJ
   replace QU := QU.le zGJ
   replace zCP := zCP.le zGJ
   replace zCz := zCz.le zGJ
   replace leB := leB.trans zGJ
   have hgy107_0 : Sl w.O w.W zK WA Vw JJ.1.Tools := gy107_0 --@phi
   have hgy107_1 : Sl w.O w.W zG zBJ zBB JJ.1.Steps := gy107_1 --@phi
   show Tr _ _ (uf _ 35 (.tuple #[(.agg #[(iv JJ.1.Unit), (.slice WA JJ.1.Tools.length Vw), (.slice zBJ JJ.1.Steps.length zBB)]), (.bool JJ.2.1), (iv JJ.2.2)])) (_) _
   refine Tr.mv rfl rfl (Tr.va rfl (fun _ _ h1 h2 => Qq (h1.ev rfl) rfl) ?_)
   refine Tr.va rfl (fun _ _ h1 h2 => Qq (h1.ev rfl) rfl) ?_
   refine Tr.va rfl (fun _ _ h1 h2 => Qq (h1.ev rfl) rfl) ?_
   refine Tr.alloc 3 (wn rfl) rfl ze_25 fun b109 => ?_
   refine Tr.store 3 (cs := [(iv JJ.1.Unit), (.slice WA JJ.1.Tools.length Vw), (.slice zBJ JJ.1.Steps.length zBB)]) [(iv JJ.1.Unit), (.slice WA JJ.1.Tools.length Vw), (.slice zBJ JJ.1.Steps.length zBB)] (wn rfl) rfl rfl rfl rfl KR rfl rfl rfl ?_
   refine Tr.asg rfl rfl (Tr.asg rfl rfl (Tr.nil (Tr.zA (Tr.seq (Tr.sr (Tr.mv rfl rfl (Tr.va rfl (fun _ _ h1 h2 => Jv (h1.ev rfl) (h1.ev rfl)) ?_)))))))
   refine Tr.mv rfl rfl (Tr.VR 3 [(2, (.pointer (some ⟨QM, 0, none⟩))), (5, (.pointer (some ⟨zCH, 0, none⟩))), (8, (.pointer (some ⟨b109, 0, none⟩))), (44, (.bool ((JJ.2.2 != 0) || (!JJ.2.1))))] [(1, bx QM #[(iv p0.Unit), (.slice QA p0.Tools.length QB), (.slice QD p0.Steps.length QC)] 25), (2, bx zCH #[(iv y101.1.Unit), (.slice JR y101.1.Tools.length JQ), (.slice Jy y101.1.Steps.length Jw)] 25), (3, bx b109 #[(iv JJ.1.Unit), (.slice WA JJ.1.Tools.length Vw), (.slice zBJ JJ.1.Steps.length zBB)] 25)] ?_ ?_)
   ·cases zJA : (JJ.2.2 != 0)
    ·refine Tr.val (wg rfl rfl rfl) rfl (fun _ _ h1 h2 => run_move (h1.ev rfl)) ?_
     refine Tr.val (wg rfl rfl rfl) rfl (fun _ _ h1 h2 => JO (h1.ev rfl)) ?_
     refine Tr.va rfl (fun _ _ h1 h2 => zf (h1.ev rfl) (h1.ev rfl)) ?_
     exact Tr.nil (Tr.Qo (.cons rfl (.cons rfl (.cons rfl (.cons rfl .nil)))) (.cons rfl (.cons rfl (.cons rfl .nil))))
    ·refine Tr.pass rfl rfl rfl rfl rfl (by decide) ?_
     refine Tr.pass rfl rfl rfl rfl rfl (by decide) ?_
     refine Tr.va rfl (fun _ _ h1 h2 => ze (h1.ev rfl) (h1.ev rfl)) ?_
     exact Tr.nil (Tr.Qo (.cons rfl (.cons rfl (.cons rfl (.cons rfl .nil)))) (.cons rfl (.cons rfl (.cons rfl .nil))))
   ·show Tr _ _ (LF [(2, (.pointer (some ⟨QM, 0, none⟩))), (5, (.pointer (some ⟨zCH, 0, none⟩))), (8, (.pointer (some ⟨b109, 0, none⟩))), (44, (.bool ((JJ.2.2 != 0) || (!JJ.2.1))))]) (LE [(1, bx QM #[(iv p0.Unit), (.slice QA p0.Tools.length QB), (.slice QD p0.Steps.length QC)] 25), (2, bx zCH #[(iv y101.1.Unit), (.slice JR y101.1.Tools.length JQ), (.slice Jy y101.1.Steps.length Jw)] 25), (3, bx b109 #[(iv JJ.1.Unit), (.slice WA JJ.1.Tools.length Vw), (.slice zBJ JJ.1.Steps.length zBB)] 25)]) _
    refine Tr.mv rfl rfl ?_
    obtain ⟨g111, hg111, H⟩ := bnd H
    refine Tr.VR 5 [(2, (.pointer (some ⟨QM, 0, none⟩))), (5, (.pointer (some ⟨zCH, 0, none⟩))), (50, (.bool g111))] [(1, bx QM #[(iv p0.Unit), (.slice QA p0.Tools.length QB), (.slice QD p0.Steps.length QC)] 25), (2, bx zCH #[(iv y101.1.Unit), (.slice JR y101.1.Tools.length JQ), (.slice Jy y101.1.Steps.length Jw)] 25), (3, bx b109 #[(iv JJ.1.Unit), (.slice WA JJ.1.Tools.length Vw), (.slice zBJ JJ.1.Steps.length zBB)] 25)] ?_ ?_
    ·cases zJA : ((JJ.2.2 != 0) || (!JJ.2.1))
     ·rw [zJA] at hg111
      rw [if_neg (by decide)] at hg111
      have H := hg111
      refine Tr.val (wg rfl rfl rfl) rfl (fun _ _ h1 h2 => zR (cs := [(iv JJ.1.Unit), (.slice WA JJ.1.Tools.length Vw), (.slice zBJ JJ.1.Steps.length zBB)]) WK KR (h1.ev rfl) (zL.take (rdb h2 (vs := [(iv JJ.1.Unit), (.slice WA JJ.1.Tools.length Vw), (.slice zBJ JJ.1.Steps.length zBB)]) (k := 3) rfl 0) 3) rfl) ?_
      refine Tr.val (wg rfl rfl rfl) rfl (fun _ _ h1 h2 => zR (cs := [(iv p0.Unit), (.slice QA p0.Tools.length QB), (.slice QD p0.Steps.length QC)]) WK KR (h1.ev rfl) (zL.take (rdb h2 (vs := [(iv p0.Unit), (.slice QA p0.Tools.length QB), (.slice QD p0.Steps.length QC)]) (k := 1) rfl 0) 3) rfl) ?_
      obtain ⟨y112, hy112, H⟩ := bnd H
      refine Tr.Qp (r := (.bool y112)) (wg rfl rfl rfl) rfl Tryz.call9 (zF rfl (zF rfl zO)) (fun W hW => zEf N JJ.1 WA Vw (hgy107_0.rl.ext hW.QZ) zBJ zBB (hgy107_1.rl.ext hW.QZ) p0 QA QB (QE.rl.ext hW.QZ) QD QC (QU.rl.ext hW.QZ) y112 hy112 (HF.start _)) ?_
      refine Tr.val (wg rfl rfl rfl) rfl (fun _ _ h1 h2 => JO (h1.ev rfl)) ?_
      refine Tr.va rfl (fun _ _ h1 h2 => zf (h1.ev rfl) (h1.ev rfl)) ?_
      obtain rfl := Option.some.inj H
      exact Tr.nil (Tr.Qo (.cons rfl (.cons rfl (.cons rfl .nil))) (.cons rfl (.cons rfl (.cons rfl .nil))))
     ·rw [zJA] at hg111
      rw [if_pos rfl] at hg111
      have H := hg111
      obtain rfl := Option.some.inj H
      refine Tr.pass rfl rfl rfl rfl rfl (by decide) ?_
      refine Tr.pass rfl rfl rfl rfl rfl (by decide) ?_
      refine Tr.pass rfl rfl rfl rfl rfl (by decide) ?_
      refine Tr.pass rfl rfl rfl rfl rfl (by decide) ?_
      refine Tr.va rfl (fun _ _ h1 h2 => ze (h1.ev rfl) (h1.ev rfl)) ?_
      exact Tr.nil (Tr.Qo (.cons rfl (.cons rfl (.cons rfl .nil))) (.cons rfl (.cons rfl (.cons rfl .nil))))
    ·show Tr _ _ (LF [(2, (.pointer (some ⟨QM, 0, none⟩))), (5, (.pointer (some ⟨zCH, 0, none⟩))), (50, (.bool g111))]) (LE [(1, bx QM #[(iv p0.Unit), (.slice QA p0.Tools.length QB), (.slice QD p0.Steps.length QC)] 25), (2, bx zCH #[(iv y101.1.Unit), (.slice JR y101.1.Tools.length JQ), (.slice Jy y101.1.Steps.length Jw)] 25), (3, bx b109 #[(iv JJ.1.Unit), (.slice WA JJ.1.Tools.length Vw), (.slice zBJ JJ.1.Steps.length zBB)] 25)]) _
     refine Tr.nil (Tr.zA (Tr.cond rfl H (fun H => ?_) (fun H => ?_)))
     ·refine Tr.sr (Tr.asg rfl rfl (Tr.nil (Tr.zA (Tr.ret (Tr.zU ?_)))))
      obtain rfl := Option.some.inj H
      exact Tr.out (m := [(.bool false)]) [] (zP rfl zQ) (fun W hW => ⟨rfl, hW.low leB⟩)
     ·refine Tr.skip (Tr.zA (Tr.sr (Tr.va rfl (fun _ _ h1 h2 => zR (cs := [(iv p0.Unit), (.slice QA p0.Tools.length QB), (.slice QD p0.Steps.length QC)]) WK KR (h1.ev rfl) (zL.take (rdb h2 (vs := [(iv p0.Unit), (.slice QA p0.Tools.length QB), (.slice QD p0.Steps.length QC)]) (k := 1) rfl 0) 3) rfl) ?_)))
      obtain ⟨y113, hy113, H⟩ := bnd H
      refine Tr.VP [4] [emp] (U := (Option Addr × Nat)) (fun u => (.tuple #[(.slice u.1 y113.1.length u.2), (iv y113.2)])) (fun u => SlF u.1 y113.1.length u.2) (fun u => [ow u.1 u.2 36 zN y113.1]) rfl (zM rfl zY) (fun _ => rfl) (wn rfl) rfl Tryz.call10 (zF rfl zO) (fun W hW hp hE => zHQ N p0 QA QB (QE.zAl (hW.QS hp)) QD QC (QU.zAl (hW.QS hp)) y113 hy113 hE) ?_
      intro u hu
      obtain ⟨zFs, zFh⟩ := u
      have gy113_0 := hu
      have hgy113_0 : SlF zFs y113.1.length zFh := gy113_0 --@phi
      show Tr _ _ (uf _ 53 (.tuple #[(.slice zFs y113.1.length zFh), (iv y113.2)])) (up _ 4 (ow zFs zFh 36 zN y113.1)) _
      refine Tr.mv rfl rfl (Tr.va rfl (fun _ _ h1 h2 => Qq (h1.ev rfl) rfl) ?_)
      refine Tr.va rfl (fun _ _ h1 h2 => Qq (h1.ev rfl) rfl) ?_
      refine Tr.asg rfl rfl (Tr.asg rfl rfl (Tr.nil (Tr.zA (Tr.sr (Tr.va rfl (fun _ _ h1 h2 => zR (cs := [(iv y101.1.Unit), (.slice JR y101.1.Tools.length JQ), (.slice Jy y101.1.Steps.length Jw)]) WK KR (h1.ev rfl) (zL.take (rdb h2 (vs := [(iv y101.1.Unit), (.slice JR y101.1.Tools.length JQ), (.slice Jy y101.1.Steps.length Jw)]) (k := 2) rfl 0) 3) rfl) ?_)))))
      obtain ⟨y115, hy115, H⟩ := bnd H
      refine Tr.VP [5] [emp] (U := (Option Addr × Nat)) (fun u => (.tuple #[(.slice u.1 y115.1.length u.2), (iv y115.2)])) (fun u => SlF u.1 y115.1.length u.2) (fun u => [ow u.1 u.2 36 zN y115.1]) rfl (zM rfl zY) (fun _ => rfl) (wn rfl) rfl Tryz.call10 (zF rfl zO) (fun W hW hp hE => zHQ N y101.1 JR JQ (zCP.zAl (hW.QS hp)) Jy Jw (zCz.zAl (hW.QS hp)) y115 hy115 hE) ?_
      intro u hu
      obtain ⟨zFr, zFg⟩ := u
      have gy115_0 := hu
      have hgy115_0 : SlF zFr y115.1.length zFg := gy115_0 --@phi
      show Tr _ _ (uf _ 58 (.tuple #[(.slice zFr y115.1.length zFg), (iv y115.2)])) (up _ 5 (ow zFr zFg 36 zN y115.1)) _
      refine Tr.mv rfl rfl (Tr.va rfl (fun _ _ h1 h2 => Qq (h1.ev rfl) rfl) ?_)
      refine Tr.va rfl (fun _ _ h1 h2 => Qq (h1.ev rfl) rfl) ?_
      refine Tr.asg rfl rfl (Tr.asg rfl rfl (Tr.nil (Tr.zA (Tr.sr (Tr.mv rfl rfl (Tr.mv rfl rfl (Tr.va rfl (fun _ _ h1 h2 => Qk (h1.ev rfl) (h1.ev rfl)) ?_)))))))
      refine Tr.mv rfl rfl ?_
      obtain ⟨g118, zGM, H⟩ := bnd H
      refine Tr.VR 4 [(68, (.bool g118))] [(1, bx QM #[(iv p0.Unit), (.slice QA p0.Tools.length QB), (.slice QD p0.Steps.length QC)] 25), (2, bx zCH #[(iv y101.1.Unit), (.slice JR y101.1.Tools.length JQ), (.slice Jy y101.1.Steps.length Jw)] 25), (3, bx b109 #[(iv JJ.1.Unit), (.slice WA JJ.1.Tools.length Vw), (.slice zBJ JJ.1.Steps.length zBB)] 25), (4, ow zFs zFh 36 zN y113.1), (5, ow zFr zFg 36 zN y115.1)] ?_ ?_
      ·cases zJA : (y113.2 == y115.2)
       ·rw [zJA] at zGM
        rw [if_neg (by decide)] at zGM
        have H := zGM
        obtain rfl := Option.some.inj H
        refine Tr.pass rfl rfl rfl rfl rfl (by decide) ?_
        refine Tr.pass rfl rfl rfl rfl rfl (by decide) ?_
        refine Tr.pass rfl rfl rfl rfl rfl (by decide) ?_
        refine Tr.va rfl (fun _ _ h1 h2 => zf (h1.ev rfl) (h1.ev rfl)) ?_
        exact Tr.nil (Tr.Qo (.cons rfl .nil) (.cons rfl (.cons rfl (.cons rfl (.cons rfl (.cons rfl .nil))))))
       ·rw [zJA] at zGM
        rw [if_pos rfl] at zGM
        have H := zGM
        refine Tr.val (wg rfl rfl rfl) rfl (fun _ _ h1 h2 => run_move (h1.ev rfl)) ?_
        refine Tr.val (wg rfl rfl rfl) rfl (fun _ _ h1 h2 => run_move (h1.ev rfl)) ?_
        obtain ⟨y119, hy119, H⟩ := bnd H
        refine Tr.Qp (r := (.bool y119)) (wg rfl rfl rfl) rfl Tryz.call11 (zF rfl (zF rfl zO)) (fun W hW => zG5 y113.1 zFs zFh (hW.zEA (k := 4) rfl) y115.1 zFr zFg (hW.zEA (k := 5) rfl) y119 hy119 (HF.start _)) ?_
        refine Tr.va rfl (fun _ _ h1 h2 => ze (h1.ev rfl) (h1.ev rfl)) ?_
        obtain rfl := Option.some.inj H
        exact Tr.nil (Tr.Qo (.cons rfl .nil) (.cons rfl (.cons rfl (.cons rfl (.cons rfl (.cons rfl .nil))))))
      ·show Tr _ _ (LF [(68, (.bool g118))]) (LE [(1, bx QM #[(iv p0.Unit), (.slice QA p0.Tools.length QB), (.slice QD p0.Steps.length QC)] 25), (2, bx zCH #[(iv y101.1.Unit), (.slice JR y101.1.Tools.length JQ), (.slice Jy y101.1.Steps.length Jw)] 25), (3, bx b109 #[(iv JJ.1.Unit), (.slice WA JJ.1.Tools.length Vw), (.slice zBJ JJ.1.Steps.length zBB)] 25), (4, ow zFs zFh 36 zN y113.1), (5, ow zFr zFg 36 zN y115.1)]) _
       refine Tr.mv rfl rfl ?_
       obtain ⟨g121, Vu, H⟩ := bnd H
       refine Tr.VR 2 [(71, (.bool g121))] [(1, bx QM #[(iv p0.Unit), (.slice QA p0.Tools.length QB), (.slice QD p0.Steps.length QC)] 25), (2, bx zCH #[(iv y101.1.Unit), (.slice JR y101.1.Tools.length JQ), (.slice Jy y101.1.Steps.length Jw)] 25), (3, bx b109 #[(iv JJ.1.Unit), (.slice WA JJ.1.Tools.length Vw), (.slice zBJ JJ.1.Steps.length zBB)] 25), (4, ow zFs zFh 36 zN y113.1), (5, ow zFr zFg 36 zN y115.1)] ?_ ?_
       ·cases zJA : g118
        ·rw [zJA] at Vu
         rw [if_neg (by decide)] at Vu
         have H := Vu
         obtain rfl := Option.some.inj H
         refine Tr.pass rfl rfl rfl rfl rfl (by decide) ?_
         refine Tr.va rfl (fun _ _ h1 h2 => zf (h1.ev rfl) (h1.ev rfl)) ?_
         exact Tr.nil (Tr.Qo (.cons rfl .nil) (.cons rfl (.cons rfl (.cons rfl (.cons rfl (.cons rfl .nil))))))
        ·rw [zJA] at Vu
         rw [if_pos rfl] at Vu
         have H := Vu
         obtain ⟨KH, hy122, H⟩ := bnd H
         refine Tr.Qp (r := (.bool KH)) (wg rfl rfl rfl) rfl Tryz.call8 zO (fun W hW => zCX N KH hy122 (HF.start _)) ?_
         refine Tr.va rfl (fun _ _ h1 h2 => ze (h1.ev rfl) (h1.ev rfl)) ?_
         obtain rfl := Option.some.inj H
         exact Tr.nil (Tr.Qo (.cons rfl .nil) (.cons rfl (.cons rfl (.cons rfl (.cons rfl (.cons rfl .nil))))))
       ·show Tr _ _ (LF [(71, (.bool g121))]) (LE [(1, bx QM #[(iv p0.Unit), (.slice QA p0.Tools.length QB), (.slice QD p0.Steps.length QC)] 25), (2, bx zCH #[(iv y101.1.Unit), (.slice JR y101.1.Tools.length JQ), (.slice Jy y101.1.Steps.length Jw)] 25), (3, bx b109 #[(iv JJ.1.Unit), (.slice WA JJ.1.Tools.length Vw), (.slice zBJ JJ.1.Steps.length zBB)] 25), (4, ow zFs zFh 36 zN y113.1), (5, ow zFr zFg 36 zN y115.1)]) _
        refine Tr.asg rfl rfl (Tr.nil (Tr.zA (Tr.ret ?_)))
        obtain rfl := Option.some.inj H
        exact Tr.out (m := [(.bool g121)]) [] (zP rfl zQ) (fun W hW => ⟨rfl, hW.low leB⟩)

end Go.Proofs.YtoageaoknnnfbaaGreatDoor
