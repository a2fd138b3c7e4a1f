/- The walks: each function computes its plain function. -/
import Derived.Test.YtoageaoknnnfbaaGreatDoorXWb
namespace Go.Proofs.YtoageaoknnnfbaaGreatDoor
open Go.RowKit
set_option maxRecDepth 100000
set_option maxHeartbeats 1000000
theorem zEf (N : Nat) {w : Bs} (p0 : zt) (QA : Option Addr) (QB : Nat) (QE : Sl w.R w.W zK QA QB p0.Tools) (QD : Option Addr) (QC : Nat) (QU : Sl w.R w.W zG QD QC p0.Steps) (p1 : zt) (QG : Option Addr) (QH : Nat) (QV : Sl w.R w.W zK QG QH p1.Tools) (Qj : Option Addr) (Qi : Nat) (zI8 : Sl w.R w.W zG Qj Qi p1.Steps) (r : Bool) (H : Jc N p0 p1 = some r) (hE : HF w w.W E0) : Calls Tryz.prog 9 [(.agg #[(iv p0.Unit), (.slice QA p0.Tools.length QB), (.slice QD p0.Steps.length QC)]), (.agg #[(iv p1.Unit), (.slice QG p1.Tools.length QH), (.slice Qj p1.Steps.length Qi)])].toArray w.W fun e W' => e = .returned (.bool r) ∧ HF w W' E0 := by
 unfold Jc at H
 have leB := Bs.Le.refl w
 refine Tr.enter (n := 64) Tryz.func9 rfl rfl rfl hE ?_
 refine Tr.sr (Tr.box 1 (cs := [(iv p0.Unit), (.slice QA p0.Tools.length QB), (.slice QD p0.Steps.length QC)]) (wn rfl) rfl rfl rfl fun QM => ?_)
 refine Tr.box 2 (cs := [(iv p1.Unit), (.slice QG p1.Tools.length QH), (.slice Qj p1.Steps.length Qi)]) (wn rfl) rfl rfl rfl fun Qt => ?_
 refine Tr.asg rfl rfl (Tr.nil (Tr.zA (Tr.seq (Tr.sr (Tr.va rfl (fun _ _ h1 h2 => zB Vg (h1.ev rfl)) ?_)))))
 refine Tr.va rfl (fun _ _ h1 h2 => zC QO (h1.ev rfl) (rdb h2 (vs := [(iv p0.Unit), (.slice QA p0.Tools.length QB), (.slice QD p0.Steps.length QC)]) (k := 1) rfl 0) rfl) ?_
 refine Tr.va rfl (fun _ _ h1 h2 => zB Vg (h1.ev rfl)) ?_
 refine Tr.va rfl (fun _ _ h1 h2 => zC QO (h1.ev rfl) (rdb h2 (vs := [(iv p1.Unit), (.slice QG p1.Tools.length QH), (.slice Qj p1.Steps.length Qi)]) (k := 2) rfl 0) rfl) ?_
 refine Tr.va rfl (fun _ _ h1 h2 => Jv (h1.ev rfl) (h1.ev rfl)) ?_
 refine Tr.mv rfl rfl (Tr.VR 8 [(2, (.pointer (some ⟨QM, 0, none⟩))), (3, (.pointer (some ⟨Qt, 0, none⟩))), (19, (.bool ((p0.Unit != p1.Unit) || ((p0.Tools.length : Int) != (p1.Tools.length : Int)))))] [(1, bx QM #[(iv p0.Unit), (.slice QA p0.Tools.length QB), (.slice QD p0.Steps.length QC)] 25), (2, bx Qt #[(iv p1.Unit), (.slice QG p1.Tools.length QH), (.slice Qj p1.Steps.length Qi)] 25)] ?_ ?_)
 ·cases hg153 : (p0.Unit != p1.Unit)
  ·refine Tr.val (wg rfl rfl rfl) rfl (fun _ _ h1 h2 => zB zBZ (h1.ev rfl)) ?_
   refine Tr.val (wg rfl rfl rfl) rfl (fun _ _ h1 h2 => zC zFn (h1.ev rfl) (rdb h2 (vs := [(iv p0.Unit), (.slice QA p0.Tools.length QB), (.slice QD p0.Steps.length QC)]) (k := 1) rfl 1) rfl) ?_
   refine Tr.val (wg rfl rfl rfl) rfl (fun _ _ h1 h2 => zq zHi (h1.ev rfl)) ?_
   refine Tr.val (wg rfl rfl rfl) rfl (fun _ _ h1 h2 => zB zBZ (h1.ev rfl)) ?_
   refine Tr.val (wg rfl rfl rfl) rfl (fun _ _ h1 h2 => zC zFn (h1.ev rfl) (rdb h2 (vs := [(iv p1.Unit), (.slice QG p1.Tools.length QH), (.slice Qj p1.Steps.length Qi)]) (k := 2) rfl 1) rfl) ?_
   refine Tr.val (wg rfl rfl rfl) rfl (fun _ _ h1 h2 => zq zHi (h1.ev rfl)) ?_
   refine Tr.val (wg rfl rfl rfl) rfl (fun _ _ h1 h2 => Jv (h1.ev rfl) (h1.ev rfl)) ?_
   refine Tr.va rfl (fun _ _ h1 h2 => zf (h1.ev rfl) (h1.ev rfl)) ?_
   exact Tr.nil (Tr.Qo (.cons rfl (.cons rfl (.cons rfl .nil))) (.cons rfl (.cons rfl .nil)))
  ·refine Tr.pass rfl rfl rfl rfl rfl (by decide) ?_
   refine Tr.pass rfl rfl rfl rfl rfl (by decide) ?_
   refine Tr.pass rfl rfl rfl rfl rfl (by decide) ?_
   refine Tr.pass rfl rfl rfl rfl rfl (by decide) ?_
   refine Tr.pass rfl rfl rfl rfl rfl (by decide) ?_
   refine Tr.pass rfl rfl rfl rfl rfl (by decide) ?_
   refine Tr.pass rfl rfl rfl rfl rfl (by decide) ?_
   refine Tr.va rfl (fun _ _ h1 h2 => ze (h1.ev rfl) (h1.ev rfl)) ?_
   exact Tr.nil (Tr.Qo (.cons rfl (.cons rfl (.cons rfl .nil))) (.cons rfl (.cons rfl .nil)))
 ·show Tr _ _ (LF [(2, (.pointer (some ⟨QM, 0, none⟩))), (3, (.pointer (some ⟨Qt, 0, none⟩))), (19, (.bool ((p0.Unit != p1.Unit) || ((p0.Tools.length : Int) != (p1.Tools.length : Int)))))]) (LE [(1, bx QM #[(iv p0.Unit), (.slice QA p0.Tools.length QB), (.slice QD p0.Steps.length QC)] 25), (2, bx Qt #[(iv p1.Unit), (.slice QG p1.Tools.length QH), (.slice Qj p1.Steps.length Qi)] 25)]) _
  refine Tr.mv rfl rfl ?_
  obtain ⟨zFT, Wq, H⟩ := bnd H
  refine Tr.VR 7 [(2, (.pointer (some ⟨QM, 0, none⟩))), (3, (.pointer (some ⟨Qt, 0, none⟩))), (27, (.bool zFT))] [(1, bx QM #[(iv p0.Unit), (.slice QA p0.Tools.length QB), (.slice QD p0.Steps.length QC)] 25), (2, bx Qt #[(iv p1.Unit), (.slice QG p1.Tools.length QH), (.slice Qj p1.Steps.length Qi)] 25)] ?_ ?_
  ·cases hg153 : ((p0.Unit != p1.Unit) || ((p0.Tools.length : Int) != (p1.Tools.length : Int)))
   ·rw [hg153] at Wq
    rw [if_neg (by decide)] at Wq
    have H := Wq
    refine Tr.val (wg rfl rfl rfl) rfl (fun _ _ h1 h2 => zB zGx (h1.ev rfl)) ?_
    refine Tr.val (wg rfl rfl rfl) rfl (fun _ _ h1 h2 => zC zDu (h1.ev rfl) (rdb h2 (vs := [(iv p0.Unit), (.slice QA p0.Tools.length QB), (.slice QD p0.Steps.length QC)]) (k := 1) rfl 2) rfl) ?_
    refine Tr.val (wg rfl rfl rfl) rfl (fun _ _ h1 h2 => zB zGx (h1.ev rfl)) ?_
    refine Tr.val (wg rfl rfl rfl) rfl (fun _ _ h1 h2 => zC zDu (h1.ev rfl) (rdb h2 (vs := [(iv p1.Unit), (.slice QG p1.Tools.length QH), (.slice Qj p1.Steps.length Qi)]) (k := 2) rfl 2) rfl) ?_
    obtain ⟨y104, hy104, H⟩ := bnd H
    refine Tr.Qp (r := (.bool y104)) (wg rfl rfl rfl) rfl Tryz.call26 (zF rfl (zF rfl zO)) (fun W hW => zBP N p0.Steps QD QC (QU.ext hW.QZ) p1.Steps Qj Qi (zI8.ext hW.QZ) y104 hy104 (HF.start _)) ?_
    refine Tr.val (wg rfl rfl rfl) rfl (fun _ _ h1 h2 => JO (h1.ev rfl)) ?_
    refine Tr.va rfl (fun _ _ h1 h2 => zf (h1.ev rfl) (h1.ev rfl)) ?_
    obtain rfl := Option.some.inj H
    exact Tr.nil (Tr.Qo (.cons rfl (.cons rfl (.cons rfl .nil))) (.cons rfl (.cons rfl .nil)))
   ·rw [hg153] at Wq
    rw [if_pos rfl] at Wq
    have H := Wq
    obtain rfl := Option.some.inj H
    refine Tr.pass rfl rfl rfl rfl rfl (by decide) ?_
    refine Tr.pass rfl rfl rfl rfl rfl (by decide) ?_
    refine Tr.pass rfl rfl rfl rfl rfl (by decide) ?_
    refine Tr.pass rfl rfl rfl rfl rfl (by decide) ?_
    refine Tr.pass rfl rfl rfl rfl rfl (by decide) ?_
    refine Tr.pass rfl rfl rfl rfl rfl (by decide) ?_
    refine Tr.va rfl (fun _ _ h1 h2 => ze (h1.ev rfl) (h1.ev rfl)) ?_
    exact Tr.nil (Tr.Qo (.cons rfl (.cons rfl (.cons rfl .nil))) (.cons rfl (.cons rfl .nil)))
  ·show Tr _ _ (LF [(2, (.pointer (some ⟨QM, 0, none⟩))), (3, (.pointer (some ⟨Qt, 0, none⟩))), (27, (.bool zFT))]) (LE [(1, bx QM #[(iv p0.Unit), (.slice QA p0.Tools.length QB), (.slice QD p0.Steps.length QC)] 25), (2, bx Qt #[(iv p1.Unit), (.slice QG p1.Tools.length QH), (.slice Qj p1.Steps.length Qi)] 25)]) _
   refine Tr.nil (Tr.zA (Tr.cond rfl H (fun H => ?_) (fun H => ?_)))
   ·refine Tr.sr (Tr.asg rfl rfl (Tr.nil (Tr.zA (Tr.ret (Tr.zU ?_)))))
    obtain rfl := Option.some.inj H
    exact Tr.out (m := [(.bool false)]) [] (zP rfl zQ) (fun W hW => ⟨rfl, hW.low leB⟩)
   ·refine Tr.skip (Tr.zA (Tr.seq (Tr.sr (Tr.asg rfl rfl (Tr.nil (Tr.zA (Tr.block (Tr.loop (σ := Int) (fun m w s => Qs N p0 p1 m s = some r) (fun s => [(2, (.pointer (some ⟨QM, 0, none⟩))), (3, (.pointer (some ⟨Qt, 0, none⟩))), (5, (iv s))]) (fun s => [(1, bx QM #[(iv p0.Unit), (.slice QA p0.Tools.length QB), (.slice QD p0.Steps.length QC)] 25), (2, bx Qt #[(iv p1.Unit), (.slice QG p1.Tools.length QH), (.slice Qj p1.Steps.length Qi)] 25)]) N 0 H (.cons rfl (.cons rfl (.cons rfl .nil))) (.cons rfl (.cons rfl .nil)) (fun _ _ h => zAi (h)) ?_))))))))
    intro w QW mL1 zGA hs
    have H := hs
    replace H : Qs N p0 p1 (mL1 + 1) zGA = some r := H
    replace QE := QE.leR QW
    replace QV := QV.leR QW
    replace leB := leB.trans QW
    rw [Qs.eq_2] at H
    show Tr _ _ (LF [(2, (.pointer (some ⟨QM, 0, none⟩))), (3, (.pointer (some ⟨Qt, 0, none⟩))), (5, (iv zGA))]) (LE [(1, bx QM #[(iv p0.Unit), (.slice QA p0.Tools.length QB), (.slice QD p0.Steps.length QC)] 25), (2, bx Qt #[(iv p1.Unit), (.slice QG p1.Tools.length QH), (.slice Qj p1.Steps.length Qi)] 25)]) _
    refine Tr.seq (Tr.sr (Tr.mv rfl rfl (Tr.va rfl (fun _ _ h1 h2 => zB zBZ (h1.ev rfl)) ?_)))
    refine Tr.va rfl (fun _ _ h1 h2 => zC zFn (h1.ev rfl) (rdb h2 (vs := [(iv p0.Unit), (.slice QA p0.Tools.length QB), (.slice QD p0.Steps.length QC)]) (k := 1) rfl 1) rfl) ?_
    refine Tr.va rfl (fun _ _ h1 h2 => zq zHi (h1.ev rfl)) ?_
    refine Tr.va rfl (fun _ _ h1 h2 => zz (h1.ev rfl) (h1.ev rfl)) ?_
    refine Tr.nil (Tr.zA (Tr.cond rfl H (fun H => ?_) (fun H => ?_)))
    ·refine Tr.skip (Tr.zA (Tr.seq (Tr.block (Tr.seq (Tr.draw (by kernel_rfl) (by kernel_rfl) ?_)))))
     refine Tq.va rfl (fun _ _ h1 h2 => zB zBZ (h1.ev rfl)) ?_
     refine Tq.va rfl (fun _ _ h1 h2 => zC zFn (h1.ev rfl) (rdb h2 (vs := [(iv p0.Unit), (.slice QA p0.Tools.length QB), (.slice QD p0.Steps.length QC)]) (k := 1) rfl 1) rfl) ?_
     refine Tq.mv rfl rfl ?_
     obtain ⟨zGe, hx139, H⟩ := bnd H
     obtain ⟨hx1390, hx1391, hx1392⟩ := zh hx139
     obtain ⟨u140, hRu140, hoku140, hcu140⟩ := (QE).el hx1392
     obtain ⟨Au140_0, cu140_0⟩ := u140
     have hoku140_0 := hoku140
     refine Tq.va rfl (fun _ _ h1 h2 => zH zGQ (h1.ev rfl) QE.form (h1.ev rfl) hx1390 hx1391) ?_
     refine Tq.va rfl (fun _ _ h1 h2 => zB zGt (h1.ev rfl)) ?_
     refine Tq.va rfl (fun _ _ h1 h2 => zC zKX (h1.ev rfl) (zL.drop (rdR hRu140 hcu140 h2) 0) rfl) ?_
     refine Tq.va rfl (fun _ _ h1 h2 => zB zBZ (h1.ev rfl)) ?_
     refine Tq.va rfl (fun _ _ h1 h2 => zC zFn (h1.ev rfl) (rdb h2 (vs := [(iv p1.Unit), (.slice QG p1.Tools.length QH), (.slice Qj p1.Steps.length Qi)]) (k := 2) rfl 1) rfl) ?_
     refine Tq.mv rfl rfl ?_
     obtain ⟨x141, hx141, H⟩ := bnd H
     obtain ⟨hx1410, hx1411, hx1412⟩ := zh hx141
     obtain ⟨u142, hRu142, hoku142, hcu142⟩ := (QV).el hx1412
     obtain ⟨Au142_0, cu142_0⟩ := u142
     have hoku142_0 := hoku142
     refine Tq.va rfl (fun _ _ h1 h2 => zH zGQ (h1.ev rfl) QV.form (h1.ev rfl) hx1410 hx1411) ?_
     refine Tq.va rfl (fun _ _ h1 h2 => zB zGt (h1.ev rfl)) ?_
     refine Tq.va rfl (fun _ _ h1 h2 => zC zKX (h1.ev rfl) (zL.drop (rdR hRu142 hcu142 h2) 0) rfl) ?_
     refine Tq.va rfl (fun _ _ h1 h2 => run_neqS (h1.ev rfl) (h1.ev rfl)) ?_
     refine Tq.mv rfl rfl ?_
     obtain ⟨g148, hg148, H⟩ := bnd H
     refine Tq.mid 15 [(2, (.pointer (some ⟨QM, 0, none⟩))), (3, (.pointer (some ⟨Qt, 0, none⟩))), (5, (iv zGA)), (63, (.bool g148))] ?_ ?_
     ·cases hg153 : (!sEq zGe.Name x141.Name)
      ·rw [hg153] at hg148
       rw [if_neg (by decide)] at hg148
       have H := hg148
       refine Tq.val (wg rfl rfl rfl) rfl (fun _ _ h1 h2 => zB zBZ (h1.ev rfl)) ?_
       refine Tq.val (wg rfl rfl rfl) rfl (fun _ _ h1 h2 => zC zFn (h1.ev rfl) (rdb h2 (vs := [(iv p0.Unit), (.slice QA p0.Tools.length QB), (.slice QD p0.Steps.length QC)]) (k := 1) rfl 1) rfl) ?_
       refine Tq.val (wg rfl rfl rfl) rfl (fun _ _ h1 h2 => run_move (h1.ev rfl)) ?_
       obtain ⟨x149, hx149, H⟩ := bnd H
       obtain ⟨hx1490, hx1491, hx1492⟩ := zh hx149
       obtain ⟨u150, hRu150, hoku150, hcu150⟩ := (QE).el hx1492
       obtain ⟨Au150_0, cu150_0⟩ := u150
       have hoku150_0 := hoku150
       replace hoku150_0 : Sl w.R w.W zN Au150_0 cu150_0 x149.Rects := hoku150_0
       refine Tq.val (wg rfl rfl rfl) rfl (fun _ _ h1 h2 => zH zGQ (h1.ev rfl) QE.form (h1.ev rfl) hx1490 hx1491) ?_
       refine Tq.val (wg rfl rfl rfl) rfl (fun _ _ h1 h2 => zB zC0 (h1.ev rfl)) ?_
       refine Tq.val (wg rfl rfl rfl) rfl (fun _ _ h1 h2 => zC zJG (h1.ev rfl) (zL.drop (rdR hRu150 hcu150 h2) 1) rfl) ?_
       refine Tq.val (wg rfl rfl rfl) rfl (fun _ _ h1 h2 => zB zBZ (h1.ev rfl)) ?_
       refine Tq.val (wg rfl rfl rfl) rfl (fun _ _ h1 h2 => zC zFn (h1.ev rfl) (rdb h2 (vs := [(iv p1.Unit), (.slice QG p1.Tools.length QH), (.slice Qj p1.Steps.length Qi)]) (k := 2) rfl 1) rfl) ?_
       refine Tq.val (wg rfl rfl rfl) rfl (fun _ _ h1 h2 => run_move (h1.ev rfl)) ?_
       obtain ⟨x151, hx151, H⟩ := bnd H
       obtain ⟨hx1510, hx1511, hx1512⟩ := zh hx151
       obtain ⟨u152, hRu152, hoku152, hcu152⟩ := (QV).el hx1512
       obtain ⟨Au152_0, cu152_0⟩ := u152
       have hoku152_0 := hoku152
       replace hoku152_0 : Sl w.R w.W zN Au152_0 cu152_0 x151.Rects := hoku152_0
       refine Tq.val (wg rfl rfl rfl) rfl (fun _ _ h1 h2 => zH zGQ (h1.ev rfl) QV.form (h1.ev rfl) hx1510 hx1511) ?_
       refine Tq.val (wg rfl rfl rfl) rfl (fun _ _ h1 h2 => zB zC0 (h1.ev rfl)) ?_
       refine Tq.val (wg rfl rfl rfl) rfl (fun _ _ h1 h2 => zC zJG (h1.ev rfl) (zL.drop (rdR hRu152 hcu152 h2) 1) rfl) ?_
       obtain ⟨y153, hy153, H⟩ := bnd H
       refine Tq.Qp (r := (.bool y153)) (wg rfl rfl rfl) rfl Tryz.call27 (zF rfl (zF rfl zO)) (fun W hW => zED N x149.Rects Au150_0 cu150_0 (hoku150_0.ext hW.QZ) x151.Rects Au152_0 cu152_0 (hoku152_0.ext hW.QZ) y153 hy153 (HF.start _)) ?_
       refine Tq.val (wg rfl rfl rfl) rfl (fun _ _ h1 h2 => JO (h1.ev rfl)) ?_
       refine Tq.va rfl (fun _ _ h1 h2 => zf (h1.ev rfl) (h1.ev rfl)) ?_
       obtain rfl := Option.some.inj H
       exact Tq.fin (.cons rfl (.cons rfl (.cons rfl (.cons rfl .nil))))
      ·rw [hg153] at hg148
       rw [if_pos rfl] at hg148
       have H := hg148
       obtain rfl := Option.some.inj H
       refine Tq.pass rfl rfl rfl rfl rfl (by decide) ?_
       refine Tq.pass rfl rfl rfl rfl rfl (by decide) ?_
       refine Tq.pass rfl rfl rfl rfl rfl (by decide) ?_
       refine Tq.pass rfl rfl rfl rfl rfl (by decide) ?_
       refine Tq.pass rfl rfl rfl rfl rfl (by decide) ?_
       refine Tq.pass rfl rfl rfl rfl rfl (by decide) ?_
       refine Tq.pass rfl rfl rfl rfl rfl (by decide) ?_
       refine Tq.pass rfl rfl rfl rfl rfl (by decide) ?_
       refine Tq.pass rfl rfl rfl rfl rfl (by decide) ?_
       refine Tq.pass rfl rfl rfl rfl rfl (by decide) ?_
       refine Tq.pass rfl rfl rfl rfl rfl (by decide) ?_
       refine Tq.pass rfl rfl rfl rfl rfl (by decide) ?_
       refine Tq.pass rfl rfl rfl rfl rfl (by decide) ?_
       refine Tq.pass rfl rfl rfl rfl rfl (by decide) ?_
       refine Tq.va rfl (fun _ _ h1 h2 => ze (h1.ev rfl) (h1.ev rfl)) ?_
       exact Tq.fin (.cons rfl (.cons rfl (.cons rfl (.cons rfl .nil))))
     ·refine Tq.nil (Tr.zA (Tr.cond rfl H (fun H => ?_) (fun H => ?_)))
      ·refine Tr.sr (Tr.asg rfl rfl (Tr.nil (Tr.zA (Tr.ret (Tr.zAB (Tr.zU (Tr.zU (Tr.zAB (Tr.zU ?_)))))))))
       obtain rfl := Option.some.inj H
       exact Tr.out (m := [(.bool false)]) [] (zP rfl zQ) (fun W hW => ⟨rfl, hW.low leB⟩)
      ·refine Tr.skip (Tr.zW (Tr.zA ?_))
       refine Tr.region (Tr.mv rfl rfl (Tr.va rfl (fun _ _ h1 h2 => zx (h1.ev rfl) (h1.ev rfl)) ?_))
       exact Tr.asg rfl rfl (Tr.nil (Tr.zZ QW (w64 (zGA + 1)) H (.cons rfl (.cons rfl (.cons rfl .nil))) (.cons rfl (.cons rfl .nil))))
    ·refine Tr.exit (Tr.zX (Tr.zX (Tr.zAC (Tr.zA (Tr.sr (Tr.asg rfl rfl (Tr.nil (Tr.zA (Tr.ret ?_)))))))))
     obtain rfl := Option.some.inj H
     exact Tr.out (m := [(.bool true)]) [] (zP rfl zQ) (fun W hW => ⟨rfl, hW.low leB⟩)

theorem Wi {w : Bs} (p0 : List zT) (QA : Option Addr) (QB : Nat) (p1 : zT → zT → Option Int) (fid1 : Nat) (cap1 : List Value) (hg1 : ∀ args W, (callFunc fid1 args).run Tryz.prog W = .ok (.enter fid1 args) W) (hf1 : ∀ (w' : Bs), w.Ext w' → ∀ (z0 : zT) (z1 : zT), ∀ y, p1 z0 z1 = some y → Calls Tryz.prog fid1 (([(.agg #[(iv z0.X0), (iv z0.Y0), (iv z0.X1), (iv z0.Y1)]), (.agg #[(iv z1.X0), (iv z1.Y0), (iv z1.X1), (iv z1.Y1)])] : List Value) ++ cap1).toArray w'.W fun e W'' => e = .returned (iv y) ∧ HF w' W'' E0) (r : List zT) (H : srtF p0 p1 = some r) (hE : HF w w.W (LEn [ow QA QB 36 zN p0])) : Calls Tryz.prog 81 [(.slice QA p0.length QB), (.func (.func fid1) #[] cap1.toArray)].toArray w.W fun e W' => ∃ u : Unit, e = .returned (.tuple #[]) ∧ (r.length = p0.length) ∧ HF w W' (LEn [ow QA QB 36 zN r]) :=
 sortFunc_rule (ρ := Tryz.srt81_ren) Tryz.srt81 (fun _ => zIL zCD) (fun _ => run_sizeOf Kv) VM zBl () hg1 hf1 H hE

theorem zJh {w : Bs} (p0 : zT) (p1 : zT) (r : Int) (H : Ww p0 p1 = some r) (hE : HF w w.W E0) : Calls Tryz.prog 82 [(.agg #[(iv p0.X0), (iv p0.Y0), (iv p0.X1), (iv p0.Y1)]), (.agg #[(iv p1.X0), (iv p1.Y0), (iv p1.X1), (iv p1.Y1)])].toArray w.W fun e W' => e = .returned (iv r) ∧ HF w W' E0 := by
 unfold Ww at H
 have leB := Bs.Le.refl w
 refine Tr.enter (n := 10) Tryz.func82 rfl rfl rfl hE ?_
 refine Tr.sr (Tr.box 1 (cs := [(iv p0.X0), (iv p0.Y0), (iv p0.X1), (iv p0.Y1)]) (wn rfl) rfl rfl rfl fun QM => ?_)
 refine Tr.box 2 (cs := [(iv p1.X0), (iv p1.Y0), (iv p1.X1), (iv p1.Y1)]) (wn rfl) rfl rfl rfl fun Qt => ?_
 refine Tr.asg rfl rfl (Tr.nil (Tr.zA (Tr.sr (Tr.va rfl (fun _ _ h1 h2 => zB zCa (h1.ev rfl)) ?_))))
 refine Tr.va rfl (fun _ _ h1 h2 => zC QO (h1.ev rfl) (rdb h2 (vs := [(iv p0.X0), (iv p0.Y0), (iv p0.X1), (iv p0.Y1)]) (k := 1) rfl 1) rfl) ?_
 refine Tr.va rfl (fun _ _ h1 h2 => zB zCa (h1.ev rfl)) ?_
 refine Tr.va rfl (fun _ _ h1 h2 => zC QO (h1.ev rfl) (rdb h2 (vs := [(iv p1.X0), (iv p1.Y0), (iv p1.X1), (iv p1.Y1)]) (k := 2) rfl 1) rfl) ?_
 refine Tr.va rfl (fun _ _ h1 h2 => Wm (h1.ev rfl) (h1.ev rfl)) ?_
 refine Tr.asg rfl rfl (Tr.nil (Tr.zA (Tr.ret ?_)))
 obtain rfl := Option.some.inj H
 exact Tr.out (m := [(iv (w64 (p0.Y0 - p1.Y0)))]) [] (zP rfl zQ) (fun W hW => ⟨rfl, hW.low leB⟩)

theorem zDv {w : Bs} (p0 : List Int) (QA : Option Addr) (QB : Nat) (r : List Int) (H : srtI p0 = some r) (hE : HF w w.W (LEn [ow QA QB 3 zn p0])) : Calls Tryz.prog 83 [(.slice QA p0.length QB)].toArray w.W fun e W' => ∃ u : Unit, e = .returned (.tuple #[]) ∧ (r.length = p0.length) ∧ HF w W' (LEn [ow QA QB 3 zn r]) :=
 sortI_rule (ρ := Tryz.sort83_ren) Tryz.sort83 rfl VZ tr_i64 () H hE

theorem zCm {w : Bs} (p0 : List Int) (QA : Option Addr) (QB : Nat) (r : List Int) (H : cpI p0 = some r) (hE : HF w w.W (LEn [ow QA QB 3 zn p0])) : Calls Tryz.prog 84 [(.slice QA p0.length QB)].toArray w.W fun e W' => ∃ u : (Option Addr × Nat), e = .returned (.slice u.1 r.length u.2) ∧ (SlF u.1 r.length u.2) ∧ HF w W' (LEn [ow u.1 u.2 3 zn r]) :=
 compactI_rule (ρ := Tryz.cmpc84_ren) Tryz.cmpc84 rfl VZ tr_i64 () H hE

theorem zJg {w : Bs} (p0 : zT) (q0 : (List Int)) (Aq0_0 : Option Addr) (cq0_0 : Nat) (hq0_0 : Sl w.R w.W zn Aq0_0 cq0_0 q0) (bq0 : Nat) (hb0 : w.R bq0) (hc0 : zL w.W bq0 0 [(.slice Aq0_0 q0.length cq0_0)]) (q1 : Int) (bq1 : Nat) (hb1 : w.R bq1) (hc1 : zL w.W bq1 0 [(iv q1)]) (r : Bool) (H : Wv p0 q0 q1 = some r) (hE : HF w w.W E0) : Calls Tryz.prog 86 [(.agg #[(iv p0.X0), (iv p0.Y0), (iv p0.X1), (iv p0.Y1)]), (.pointer (some ⟨bq0, 0, none⟩)), (.pointer (some ⟨bq1, 0, none⟩))].toArray w.W fun e W' => e = .returned (.bool r) ∧ HF w W' E0 := by
 unfold Wv at H
 have leB := Bs.Le.refl w
 refine Tr.enter (n := 12) Tryz.func86 rfl rfl rfl hE ?_
 refine Tr.sr (Tr.box 1 (cs := [(iv p0.X0), (iv p0.Y0), (iv p0.X1), (iv p0.Y1)]) (wn rfl) rfl rfl rfl fun QM => ?_)
 refine Tr.asg rfl rfl (Tr.nil (Tr.zA (Tr.seq (Tr.draw (by kernel_rfl) (by kernel_rfl) ?_))))
 refine Tq.va rfl (fun _ _ h1 h2 => zB zDX (h1.ev rfl)) ?_
 refine Tq.va rfl (fun _ _ h1 h2 => zC QO (h1.ev rfl) (rdb h2 (vs := [(iv p0.X0), (iv p0.Y0), (iv p0.X1), (iv p0.Y1)]) (k := 1) rfl 3) rfl) ?_
 refine Tq.va rfl (fun _ _ h1 h2 => zC zCT (h1.ev rfl) (rdR hb0 hc0 h2) rfl) ?_
 refine Tq.va rfl (fun _ _ h1 h2 => zC QO (h1.ev rfl) (rdR hb1 hc1 h2) rfl) ?_
 obtain ⟨x101, hx101, H⟩ := bnd H
 obtain ⟨hx1010, hx1011, hx1012⟩ := zh hx101
 refine Tq.va rfl (fun _ _ h1 h2 => zH zAR (h1.ev rfl) hq0_0.form (h1.ev rfl) hx1010 hx1011) ?_
 refine Tq.va rfl (fun _ _ h1 h2 => zC QO (h1.ev rfl) (rdF VZ hq0_0 hx1012 h2) rfl) ?_
 refine Tq.va rfl (fun _ _ h1 h2 => zA8 (h1.ev rfl) (h1.ev rfl)) ?_
 refine Tq.asg rfl rfl (Tq.nil (Tr.zA (Tr.ret ?_)))
 obtain rfl := Option.some.inj H
 exact Tr.out (m := [(.bool (decide (p0.Y1 ≤ x101)))]) [] (zP rfl zQ) (fun W hW => ⟨rfl, hW.low leB⟩)

theorem zFI {w : Bs} (p0 : (List zT)) (QA : Option Addr) (QB : Nat) (QE : Sl w.R w.W zN QA QB p0) (p1 : zT → Option Bool) (fid1 : Nat) (cap1 : List Value) (hg1 : ∀ args W, (callFunc fid1 args).run Tryz.prog W = .ok (.enter fid1 args) W) (hf1 : ∀ (w' : Bs), w.Ext w' → ∀ (z0 : zT), ∀ y, p1 z0 = some y → Calls Tryz.prog fid1 (([(.agg #[(iv z0.X0), (iv z0.Y0), (iv z0.X1), (iv z0.Y1)])] : List Value) ++ cap1).toArray w'.W fun e W'' => e = .returned (.bool y) ∧ HF w' W'' E0) (r : Int) (H : Vx p0 p1 = some r) (hE : HF w w.W E0) : Calls Tryz.prog 112 [(.slice QA p0.length QB), (.func (.func fid1) #[] cap1.toArray)].toArray w.W fun e W' => e = .returned (iv r) ∧ HF w W' E0 := by
 unfold Vx at H
 have leB := Bs.Le.refl w
 refine Tr.enter (n := 19) Tryz.func112 rfl rfl rfl hE ?_
 refine Tr.sr (Tr.asg rfl rfl (Tr.nil (Tr.zA (Tr.seq (Tr.sr (Tr.mv rfl rfl (Tr.va rfl (fun _ _ h1 h2 => zq zA0 (h1.ev rfl)) ?_)))))))
 refine Tr.mv rfl rfl (Tr.nil (Tr.zA (Tr.block (Tr.loop (σ := (List zT) × Nat) (fun m w s => m = s.1.length + 1 ∧ s.1 = List.drop s.2 p0 ∧ s.2 ≤ p0.length ∧ Qu p1 s.1 s.2 = some r) (fun s => [(0, (.slice QA p0.length QB)), (1, (.func (.func fid1) #[] cap1.toArray)), (7, (iv (p0.length : Int))), (8, (iv (s.2 : Int)))]) (fun s => []) (p0.length + 1) (p0, 0) ⟨rfl, rfl, Nat.zero_le _, H⟩ (.cons rfl (.cons rfl (.cons rfl (.cons rfl .nil)))) .nil (fun _ _ h => absurd h.1 (by simp)) ?_))))
 intro w QW m s hs
 obtain ⟨QF, iL1⟩ := s
 obtain ⟨KJ, QP, hiL1, H⟩ := hs
 replace QP : QF = List.drop iL1 p0 := QP
 replace H : Qu p1 QF iL1 = some r := H
 replace KJ : m + 1 = QF.length + 1 := KJ
 replace QE := QE.leR QW
 replace hf1 := fun w' he => hf1 w' (QW.ext.trans he)
 replace leB := leB.trans QW
 obtain rfl : m = QF.length := by omega
 clear KJ
 show Tr _ _ (LF [(0, (.slice QA p0.length QB)), (1, (.func (.func fid1) #[] cap1.toArray)), (7, (iv (p0.length : Int))), (8, (iv (iL1 : Int)))]) (LE []) _
 cases QF with
 | nil =>
  rw [Qu.eq_1] at H
  refine Tr.sr (Tr.va rfl (fun _ _ h1 h2 => zz (h1.ev rfl) (h1.ev rfl)) ?_)
  refine Tr.nil (Tr.zA (Tr.seq (Tr.WJ rfl (Qy QP) ?_)))
  refine Tr.exit (Tr.zX (Tr.zX (Tr.zAC (Tr.zA (Tr.sr (Tr.asg rfl rfl (Tr.nil (Tr.zA (Tr.ret ?_)))))))))
  obtain rfl := Option.some.inj H
  exact Tr.out (m := [(iv (-1))]) [] (zP rfl zQ) (fun W hW => ⟨rfl, hW.low leB⟩)
 | cons xL1 QF =>
  rw [Qu.eq_2] at H
  refine Tr.sr (Tr.va rfl (fun _ _ h1 h2 => zz (h1.ev rfl) (h1.ev rfl)) ?_)
  refine Tr.nil (Tr.zA (Tr.seq (Tr.WI rfl (Jg QP) ?_)))
  refine Tr.skip (Tr.zA (Tr.seq (Tr.block (Tr.sr (Tr.mv rfl rfl (Tr.asg rfl rfl (Tr.nil (Tr.zA (Tr.sr (Tr.mv rfl rfl ?_))))))))))
  refine Tr.mv rfl rfl (Tr.mv rfl rfl (Tr.va rfl (fun _ _ h1 h2 => zH zCR (h1.ev rfl) QE.form (h1.ev rfl) (Int.natCast_nonneg _) (zo QP)) ?_))
  refine Tr.va rfl (fun _ _ h1 h2 => zR (cs := [(iv xL1.X0), (iv xL1.Y0), (iv xL1.X1), (iv xL1.Y1)]) zCD Kv (h1.ev rfl) (zL.take (rdF VM QE (Js QP) h2) 4) rfl) ?_
  obtain ⟨QJ, zCy, H⟩ := bnd H
  refine Tr.callF (r := (.bool QJ)) (wn rfl) rfl rfl hg1 (zF rfl zO) (fun W hW => hf1 hW.all hW.QZ xL1 _ zCy) ?_
  refine Tr.nil (Tr.zA (Tr.cond rfl H (fun H => ?_) (fun H => ?_)))
  ·refine Tr.sr (Tr.mv rfl rfl (Tr.asg rfl rfl (Tr.nil (Tr.zA (Tr.ret (Tr.zAB (Tr.zU (Tr.zU (Tr.zAB (Tr.zU ?_))))))))))
   obtain rfl := Option.some.inj H
   exact Tr.out (m := [(iv (iL1 : Int))]) [] (zP rfl zQ) (fun W hW => ⟨rfl, hW.low leB⟩)
  ·refine Tr.skip (Tr.zW (Tr.zA ?_))
   refine Tr.region (Tr.va rfl (fun _ _ h1 h2 => zx (h1.ev rfl) (h1.ev rfl)) ?_)
   exact Tr.mv rfl rfl (Tr.nil (Tr.zZ QW (QF, (iL1 + 1)) ⟨rfl, Qg QP, zo QP, H⟩ (.cons rfl (.cons rfl (.cons rfl (.cons (congrArg (fun z => some (Value.int .i64 z)) (Qf QP QE.form)) .nil)))) .nil))

theorem zEd (N : Nat) {w : Bs} (p0 : (List zT)) (QA : Option Addr) (QB : Nat) (p1 : zT → Option Bool) (fid1 : Nat) (cap1 : List Value) (hg1 : ∀ args W, (callFunc fid1 args).run Tryz.prog W = .ok (.enter fid1 args) W) (hf1 : ∀ (w' : Bs), w.Ext w' → ∀ (z0 : zT), ∀ y, p1 z0 = some y → Calls Tryz.prog fid1 (([(.agg #[(iv z0.X0), (iv z0.Y0), (iv z0.X1), (iv z0.Y1)])] : List Value) ++ cap1).toArray w'.W fun e W'' => e = .returned (.bool y) ∧ HF w' W'' E0) (r : (List zT)) (H : Kr N p0 p1 = some r) (hE : HF w w.W (LEn [ow QA QB 36 zN p0])) : Calls Tryz.prog 85 [(.slice QA p0.length QB), (.func (.func fid1) #[] cap1.toArray)].toArray w.W fun e W' => ∃ u : (Option Addr × Nat), e = .returned (.slice u.1 r.length u.2) ∧ (SlF u.1 r.length u.2) ∧ HF w W' (LEn [ow u.1 u.2 36 zN r]) := by
 unfold Kr at H
 have zB4 := (hE.sl (k := 0) rfl).form
 have leB := Bs.Le.refl w
 refine Tr.enter (n := 42) Tryz.func85 rfl rfl rfl hE ?_
 refine Tr.sr (Tr.asg rfl rfl (Tr.JS 1 36 zN ?_))
 show Tr _ _ (uf _ 4 (.slice none (([] : List zT)).length 0)) _ _
 refine Tr.nil (Tr.zA (Tr.sr (Tr.mv rfl rfl (Tr.mv rfl rfl ?_))))
 obtain ⟨QT, zBp, H⟩ := bnd H
 refine Tr.Qp (r := (iv QT)) (wn rfl) rfl Tryz.call112 (zF rfl (zF rfl zO)) (fun W hW => zFI p0 QA QB (hW.zEA (k := 0) rfl) p1 fid1 cap1 hg1 (fun w' he => hf1 w' (hW.QZ.trans he)) QT zBp (HF.start _)) ?_
 refine Tr.asg rfl rfl (Tr.nil (Tr.zA (Tr.seq (Tr.sr (Tr.mv rfl rfl (Tr.va rfl (fun _ _ h1 h2 => Qk (h1.ev rfl) (h1.ev rfl)) ?_))))))
 refine Tr.nil (Tr.zA (Tr.cond rfl H (fun H => ?_) (fun H => ?_)))
 ·refine Tr.sr (Tr.mv rfl rfl (Tr.asg rfl rfl (Tr.nil (Tr.zA (Tr.ret (Tr.zU ?_))))))
  obtain rfl := Option.some.inj H
  exact Tr.out (m := [(.slice QA p0.length QB)]) [] (zP rfl zQ) (fun W hW => ⟨(QA, QB), rfl, zB4, HF.zHZ leB (hW.pick (ks := [0]) (by decide) (zM rfl zY)) ⟨zE4 _ _ _ _ zBl, trivial⟩⟩)
 ·refine Tr.skip (Tr.zA (Tr.seq (Tr.sr (Tr.mv rfl rfl (Tr.va rfl (fun _ _ h1 h2 => zx (h1.ev rfl) (h1.ev rfl)) ?_)))))
  refine Tr.asg rfl rfl (Tr.nil (Tr.zA (Tr.block (Tr.loop (σ := (List zT) × Int × Int) (fun m w s => zAH p1 m s.1 s.2.1 s.2.2 = some r ∧ s.1.length = p0.length) (fun s => [(0, (.slice QA s.1.length QB)), (1, (.func (.func fid1) #[] cap1.toArray)), (5, (iv s.2.1)), (6, (iv s.2.2))]) (fun s => [(0, ow QA QB 36 zN s.1)]) N (p0, QT, (w64 (QT + 1))) ⟨H, rfl⟩ (.cons rfl (.cons rfl (.cons rfl (.cons rfl .nil)))) (.cons rfl .nil) (fun _ _ h => zAi (h.1)) ?_))))
  intro w QW mL1 s hs
  obtain ⟨zDr, zEu, zEP⟩ := s
  obtain ⟨H, hl120⟩ := hs
  replace H : zAH p1 (mL1 + 1) zDr zEu zEP = some r := H
  replace hf1 := fun w' he => hf1 w' (QW.ext.trans he)
  replace leB := leB.trans QW
  replace hl120 : zDr.length = p0.length := hl120
  have hfl120 : SlF QA zDr.length QB := (by rw [hl120]; exact zB4)
  rw [zAH.eq_2] at H
  show Tr _ _ (LF [(0, (.slice QA zDr.length QB)), (1, (.func (.func fid1) #[] cap1.toArray)), (5, (iv zEu)), (6, (iv zEP))]) (LE [(0, ow QA QB 36 zN zDr)]) _
  refine Tr.seq (Tr.sr (Tr.mv rfl rfl (Tr.mv rfl rfl (Tr.va rfl (fun _ _ h1 h2 => zq zA0 (h1.ev rfl)) ?_))))
  refine Tr.va rfl (fun _ _ h1 h2 => zz (h1.ev rfl) (h1.ev rfl)) ?_
  refine Tr.nil (Tr.zA (Tr.cond rfl H (fun H => ?_) (fun H => ?_)))
  ·refine Tr.skip (Tr.zA (Tr.seq (Tr.block (Tr.sr (Tr.mv rfl rfl (Tr.mv rfl rfl ?_))))))
   obtain ⟨Vl, hx123, H⟩ := bnd H
   obtain ⟨hx1230, hx1231, hx1232⟩ := zh hx123
   refine Tr.va rfl (fun _ _ h1 h2 => zH zCR (h1.ev rfl) hfl120 (h1.ev rfl) hx1230 hx1231) ?_
   refine Tr.va rfl (fun _ _ h1 h2 => zR (cs := [(iv Vl.X0), (iv Vl.Y0), (iv Vl.X1), (iv Vl.Y1)]) zCD Kv (h1.ev rfl) (zL.take (rdo VM (k := 0) h2 rfl hx1232) 4) rfl) ?_
   refine Tr.alloc 4 (wn rfl) rfl zF7 fun b124 => ?_
   refine Tr.store 4 (cs := [(iv Vl.X0), (iv Vl.Y0), (iv Vl.X1), (iv Vl.Y1)]) [(iv Vl.X0), (iv Vl.Y0), (iv Vl.X1), (iv Vl.Y1)] (wn rfl) rfl rfl rfl rfl Kv rfl rfl rfl ?_
   refine Tr.nil (Tr.zA (Tr.sr (Tr.mv rfl rfl (Tr.va rfl (fun _ _ h1 h2 => zR (cs := [(iv Vl.X0), (iv Vl.Y0), (iv Vl.X1), (iv Vl.Y1)]) zCD Kv (h1.ev rfl) (zL.take (rdb h2 (vs := [(iv Vl.X0), (iv Vl.Y0), (iv Vl.X1), (iv Vl.Y1)]) (k := 4) rfl 0) 4) rfl) ?_))))
   obtain ⟨y125, hy125, H⟩ := bnd H
   refine Tr.callF (r := (.bool y125)) (wn rfl) rfl rfl hg1 (zF rfl zO) (fun W hW => hf1 hW.all hW.QZ Vl _ hy125) ?_
   refine Tr.va rfl (fun _ _ h1 h2 => JO (h1.ev rfl)) ?_
   refine Tr.nil (Tr.zA (Tr.cond rfl H (fun H => ?_) (fun H => ?_)))
   ·refine Tr.sr (Tr.mv rfl rfl (Tr.mv rfl rfl (Tr.va rfl (fun _ _ h1 h2 => zR (cs := [(iv Vl.X0), (iv Vl.Y0), (iv Vl.X1), (iv Vl.Y1)]) zCD Kv (h1.ev rfl) (zL.take (rdb h2 (vs := [(iv Vl.X0), (iv Vl.Y0), (iv Vl.X1), (iv Vl.Y1)]) (k := 4) rfl 0) 4) rfl) ?_)))
    obtain ⟨x126, hx126, H⟩ := bnd H
    obtain ⟨hx1260, hx1261, hx1262⟩ := zh hx126
    refine Tr.va rfl (fun _ _ h1 h2 => zH zCR (h1.ev rfl) hfl120 (h1.ev rfl) hx1260 hx1261) ?_
    obtain ⟨l127, hl127, H⟩ := bnd H
    have hnl127 := zGD hl127
    refine Tr.zGh 0 (t := zN) (l := zDr) (i := zEu) (fo := 0) (cs := [(iv Vl.X0), (iv Vl.Y0), (iv Vl.X1), (iv Vl.Y1)]) Vl (wn rfl) rfl rfl rfl rfl rfl hx1262 Kv rfl (fun u _ => ⟨u, trivial, rfl⟩) rfl hl127 ?_
    have hfl127 : SlF QA l127.length QB := by rw [hnl127]; exact hfl120
    have hsl127 := hnl127.trans hl120
    refine Tr.sel (lf := [(0, (.slice QA l127.length QB)), (1, (.func (.func fid1) #[] cap1.toArray)), (5, (iv zEu)), (6, (iv zEP)), (7, (.pointer (some ⟨b124, 0, none⟩))), (16, (iv zEP)), (17, (.slice QA l127.length QB)), (18, (iv (zDr.length : Int))), (19, (.bool (decide (zEP < (zDr.length : Int))))), (22, (.slice QA l127.length QB)), (23, (iv zEP)), (25, (.agg #[(iv Vl.X0), (iv Vl.Y0), (iv Vl.X1), (iv Vl.Y1)])), (26, (.func (.func fid1) #[] cap1.toArray)), (27, (.agg #[(iv Vl.X0), (iv Vl.Y0), (iv Vl.X1), (iv Vl.Y1)])), (28, (.bool y125)), (29, (.bool (!y125))), (30, (.slice QA l127.length QB)), (31, (iv zEu)), (32, (.agg #[(iv Vl.X0), (iv Vl.Y0), (iv Vl.X1), (iv Vl.Y1)]))]) (le := [(0, ow QA QB 36 zN l127), (4, bx b124 #[(iv Vl.X0), (iv Vl.Y0), (iv Vl.X1), (iv Vl.Y1)] 36)]) (.cons (VH rfl (by rw [hnl127])) (.cons rfl (.cons rfl (.cons rfl (.cons rfl (.cons rfl (.cons (VH rfl (by rw [hnl127])) (.cons rfl (.cons rfl (.cons (VH rfl (by rw [hnl127])) (.cons rfl (.cons rfl (.cons rfl (.cons rfl (.cons rfl (.cons rfl (.cons (VH rfl (by rw [hnl127])) (.cons rfl (.cons rfl .nil))))))))))))))))))) (.cons rfl (.cons rfl .nil)) ?_
    refine Tr.nil (Tr.zA (Tr.region (Tr.mv rfl rfl (Tr.va rfl (fun _ _ h1 h2 => zx (h1.ev rfl) (h1.ev rfl)) ?_))))
    refine Tr.asg rfl rfl (Tr.nil (Tr.zW (Tr.zA ?_)))
    refine Tr.region (Tr.mv rfl rfl (Tr.va rfl (fun _ _ h1 h2 => zx (h1.ev rfl) (h1.ev rfl)) ?_))
    exact Tr.asg rfl rfl (Tr.nil (Tr.zZ QW (l127, (w64 (zEu + 1)), (w64 (zEP + 1))) ⟨H, hsl127⟩ (.cons rfl (.cons rfl (.cons rfl (.cons rfl .nil)))) (.cons rfl .nil)))
   ·refine Tr.skip (Tr.zW (Tr.zA ?_))
    refine Tr.region (Tr.mv rfl rfl (Tr.va rfl (fun _ _ h1 h2 => zx (h1.ev rfl) (h1.ev rfl)) ?_))
    exact Tr.asg rfl rfl (Tr.nil (Tr.zZ QW (zDr, zEu, (w64 (zEP + 1))) ⟨H, hl120⟩ (.cons rfl (.cons rfl (.cons rfl (.cons rfl .nil)))) (.cons rfl .nil)))
  ·refine Tr.exit (Tr.zX (Tr.zX (Tr.zAC (Tr.zA (Tr.sr (Tr.mv rfl rfl (Tr.mv rfl rfl ?_)))))))
   obtain ⟨zBo, zHv, H⟩ := bnd H
   refine Tr.va rfl (fun _ _ h1 h2 => zHo zCR (h1.ev rfl) hfl120 (h1.ev rfl) zHv) ?_
   have hnhcl128 := clr_len (zT.mk 0 0 0 0) zHv
   refine Tr.clearCut 0 (lo := zEu) (t := zN) (l := zDr) (zT.mk 0 0 0 0) (wn rfl) rfl zHv rfl zA0 zF7 ⟨(), zBl _ _ _ _, VM _ _⟩ rfl rfl ?_
   have hfhcl128 : SlF QA ((clr zDr zEu zBo.length (zT.mk 0 0 0 0))).length QB := by rw [hnhcl128]; exact hfl120
   have hshcl128 := hnhcl128.trans hl120
   refine Tr.sel (lf := [(0, (.slice QA ((clr zDr zEu zBo.length (zT.mk 0 0 0 0))).length QB)), (1, (.func (.func fid1) #[] cap1.toArray)), (5, (iv zEu)), (6, (iv zEP)), (16, (iv zEP)), (17, (.slice QA ((clr zDr zEu zBo.length (zT.mk 0 0 0 0))).length QB)), (18, (iv (zDr.length : Int))), (19, (.bool (decide (zEP < (zDr.length : Int))))), (36, (.slice QA ((clr zDr zEu zBo.length (zT.mk 0 0 0 0))).length QB)), (37, (iv zEu))]) (le := [(0, ow QA QB 36 zN (clr zDr zEu zBo.length (zT.mk 0 0 0 0)))]) (.cons (VH rfl (by rw [hnhcl128])) (.cons rfl (.cons rfl (.cons rfl (.cons rfl (.cons (VH rfl (by rw [hnhcl128])) (.cons rfl (.cons rfl (.cons (VH rfl (by rw [hnhcl128])) (.cons rfl .nil)))))))))) (.cons rfl .nil) ?_
   refine Tr.nil (Tr.zA (Tr.sr (Tr.mv rfl rfl (Tr.mv rfl rfl ?_))))
   obtain ⟨l129, hl129, H⟩ := bnd H
   refine Tr.va rfl (fun _ _ h1 h2 => run_pre zCR (h1.ev rfl) hfhcl128 (h1.ev rfl) hl129) ?_
   refine Tr.asg rfl rfl (Tr.nil (Tr.zA (Tr.ret ?_)))
   obtain rfl := Option.some.inj H
   refine Tr.shrinkP 0 hl129 rfl ?_
   exact Tr.out (m := [(.slice QA l129.length QB)]) [] (zP rfl zQ) (fun W hW => ⟨(QA, QB), rfl, (pre_form hfhcl128 hl129), HF.zHZ leB (hW.pick (ks := [0]) (by decide) (zM rfl zY)) ⟨zE4 _ _ _ _ zBl, trivial⟩⟩)

theorem zG6 {w : Bs} (p0 : zT) (p1 : zT) (r : Int) (H : VN p0 p1 = some r) (hE : HF w w.W E0) : Calls Tryz.prog 114 [(.agg #[(iv p0.X0), (iv p0.Y0), (iv p0.X1), (iv p0.Y1)]), (.agg #[(iv p1.X0), (iv p1.Y0), (iv p1.X1), (iv p1.Y1)])].toArray w.W fun e W' => e = .returned (iv r) ∧ HF w W' E0 := by
 unfold VN at H
 have leB := Bs.Le.refl w
 refine Tr.enter (n := 10) Tryz.func114 rfl rfl rfl hE ?_
 refine Tr.sr (Tr.box 1 (cs := [(iv p0.X0), (iv p0.Y0), (iv p0.X1), (iv p0.Y1)]) (wn rfl) rfl rfl rfl fun QM => ?_)
 refine Tr.box 2 (cs := [(iv p1.X0), (iv p1.Y0), (iv p1.X1), (iv p1.Y1)]) (wn rfl) rfl rfl rfl fun Qt => ?_
 refine Tr.asg rfl rfl (Tr.nil (Tr.zA (Tr.sr (Tr.va rfl (fun _ _ h1 h2 => zB Wz (h1.ev rfl)) ?_))))
 refine Tr.va rfl (fun _ _ h1 h2 => zC QO (h1.ev rfl) (rdb h2 (vs := [(iv p0.X0), (iv p0.Y0), (iv p0.X1), (iv p0.Y1)]) (k := 1) rfl 0) rfl) ?_
 refine Tr.va rfl (fun _ _ h1 h2 => zB Wz (h1.ev rfl)) ?_
 refine Tr.va rfl (fun _ _ h1 h2 => zC QO (h1.ev rfl) (rdb h2 (vs := [(iv p1.X0), (iv p1.Y0), (iv p1.X1), (iv p1.Y1)]) (k := 2) rfl 0) rfl) ?_
 refine Tr.va rfl (fun _ _ h1 h2 => Wm (h1.ev rfl) (h1.ev rfl)) ?_
 refine Tr.asg rfl rfl (Tr.nil (Tr.zA (Tr.ret ?_)))
 obtain rfl := Option.some.inj H
 exact Tr.out (m := [(iv (w64 (p0.X0 - p1.X0)))]) [] (zP rfl zQ) (fun W hW => ⟨rfl, hW.low leB⟩)

theorem zH9 {w : Bs} (p0 : (List zT)) (QA : Option Addr) (QB : Nat) (r : ((List Int) × (List zT))) (H : zAU p0 = some r) (hE : HF w w.W (LEn [ow QA QB 36 zN p0, emp])) : Calls Tryz.prog 88 [(.slice QA p0.length QB)].toArray w.W fun e W' => ∃ u : (Option Addr × Nat), e = .returned (.slice u.1 r.1.length u.2) ∧ (SlF u.1 r.1.length u.2 ∧ r.2.length = p0.length) ∧ HF w W' (LEn [ow QA QB 36 zN r.2, ow u.1 u.2 3 zn r.1]) := by
 unfold zAU at H
 have zB4 := (hE.sl (k := 0) rfl).form
 have leB := Bs.Le.refl w
 refine Tr.enter (n := 48) Tryz.func88 rfl rfl rfl hE ?_
 refine Tr.sr (Tr.asg rfl rfl (Tr.JS 1 3 zn ?_))
 show Tr _ _ (uf _ 2 (.slice none (([] : List Int)).length 0)) _ _
 refine Tr.nil (Tr.zA (Tr.sr (Tr.mv rfl rfl ?_)))
 obtain ⟨QT, zBp, H⟩ := bnd H
 refine Tr.VP [0] [ow QA QB 36 zN p0] (U := Unit) (fun u => (.tuple #[])) (fun u => QT.length = p0.length) (fun u => [ow QA QB 36 zN QT]) rfl (zM rfl zY) (fun _ => rfl) (wn rfl) rfl Tryz.call81 (zF rfl (zF rfl zO)) (fun W hW hp hE => Wi p0 QA QB (fun z0 z1 => VN z0 z1) 114 [] Tryz.call114 (fun w' he z0 z1 y hy => zG6 z0 z1 y hy (HF.start _)) QT zBp hE) ?_
 intro u hu
 have gky100_0 := hu
 have zIc : QT.length = p0.length := gky100_0 --@phi
 have hfky100_0 : SlF QA QT.length QB := by rw [zIc]; exact zB4
 have hsky100_0 := zIc.trans rfl
 show Tr _ _ (uf _ 8 (.tuple #[])) (up _ 0 (ow QA QB 36 zN QT)) _
 refine Tr.sel (lf := [(0, (.slice QA QT.length QB)), (2, (.slice none (([] : List Int)).length 0)), (7, (.slice QA QT.length QB)), (8, (.tuple #[]))]) (le := [(0, ow QA QB 36 zN QT), (1, ow none 0 3 zn ([] : List Int))]) (.cons (VH rfl (by rw [zIc])) (.cons rfl (.cons (VH rfl (by rw [zIc])) (.cons rfl .nil)))) (.cons rfl (.cons rfl .nil)) ?_
 refine Tr.nil (Tr.zA (Tr.sr (Tr.asg rfl rfl (Tr.JS 2 3 zn ?_))))
 show Tr _ _ (uf _ 3 (.slice none (([] : List Int)).length 0)) _ _
 refine Tr.nil (Tr.zA (Tr.seq (Tr.sr (Tr.mv rfl rfl (Tr.va rfl (fun _ _ h1 h2 => zq zA0 (h1.ev rfl)) ?_)))))
 refine Tr.mv rfl rfl (Tr.nil (Tr.zA (Tr.block (Tr.loop (σ := (List zT) × Nat × (List Int) × (Option Addr) × Nat) (fun m w s => m = s.1.length + 1 ∧ s.1 = List.drop s.2.1 QT ∧ s.2.1 ≤ QT.length ∧ JC QT s.1 s.2.1 s.2.2.1 = some r ∧ SlF s.2.2.2.1 s.2.2.1.length s.2.2.2.2) (fun s => [(3, (.slice s.2.2.2.1 s.2.2.1.length s.2.2.2.2)), (9, (.slice QA QT.length QB)), (10, (iv (QT.length : Int))), (11, (iv (s.2.1 : Int)))]) (fun s => [(0, ow QA QB 36 zN QT), (2, ow s.2.2.2.1 s.2.2.2.2 3 zn s.2.2.1)]) (QT.length + 1) (QT, 0, ([] : List Int), none, 0) ⟨rfl, rfl, Nat.zero_le _, H, VD⟩ (.cons rfl (.cons rfl (.cons rfl (.cons rfl .nil)))) (.cons rfl (.cons rfl .nil)) (fun _ _ h => absurd h.1 (by simp)) ?_))))
 intro w QW m s hs
 obtain ⟨QF, iL1, zBo, zHS, zHN⟩ := s
 obtain ⟨KJ, QP, hiL1, H, zHv⟩ := hs
 replace QP : QF = List.drop iL1 QT := QP
 replace H : JC QT QF iL1 zBo = some r := H
 replace KJ : m + 1 = QF.length + 1 := KJ
 replace leB := leB.trans QW
 replace zHv : SlF zHS zBo.length zHN := zHv
 obtain rfl : m = QF.length := by omega
 clear KJ
 show Tr _ _ (LF [(3, (.slice zHS zBo.length zHN)), (9, (.slice QA QT.length QB)), (10, (iv (QT.length : Int))), (11, (iv (iL1 : Int)))]) (LE [(0, ow QA QB 36 zN QT), (2, ow zHS zHN 3 zn zBo)]) _
 cases QF with
 | nil =>
  rw [JC.eq_1] at H
  refine Tr.sr (Tr.va rfl (fun _ _ h1 h2 => zz (h1.ev rfl) (h1.ev rfl)) ?_)
  refine Tr.nil (Tr.zA (Tr.seq (Tr.WJ rfl (Qy QP) ?_)))
  refine Tr.exit (Tr.zX (Tr.zX (Tr.zAC (Tr.zA (Tr.sr (Tr.mv rfl rfl (Tr.asg rfl rfl (Tr.nil (Tr.zA (Tr.ret ?_))))))))))
  obtain rfl := Option.some.inj H
  exact Tr.out (m := [(.slice zHS zBo.length zHN)]) [] (zP rfl zQ) (fun W hW => ⟨(zHS, zHN), rfl, ⟨zHv, hsky100_0⟩, HF.zHZ leB (hW.pick (ks := [0, 2]) (by decide) (zM rfl (zM rfl zY))) ⟨zE4 _ _ _ _ zBl, zE4 _ _ _ _ tr_i64, trivial⟩⟩)
 | cons xL1 QF =>
  rw [JC.eq_2] at H
  refine Tr.sr (Tr.va rfl (fun _ _ h1 h2 => zz (h1.ev rfl) (h1.ev rfl)) ?_)
  refine Tr.nil (Tr.zA (Tr.seq (Tr.WI rfl (Jg QP) ?_)))
  refine Tr.skip (Tr.zA (Tr.seq (Tr.block (Tr.sr (Tr.va rfl (fun _ _ h1 h2 => zH zCR (h1.ev rfl) hfky100_0 (h1.ev rfl) (Int.natCast_nonneg _) (zo QP)) ?_)))))
  refine Tr.va rfl (fun _ _ h1 h2 => zR (cs := [(iv xL1.X0), (iv xL1.Y0), (iv xL1.X1), (iv xL1.Y1)]) zCD Kv (h1.ev rfl) (zL.take (rdo VM (k := 0) h2 rfl (Js QP)) 4) rfl) ?_
  refine Tr.alloc 7 (wn rfl) rfl zF7 fun b129 => ?_
  refine Tr.store 7 (cs := [(iv xL1.X0), (iv xL1.Y0), (iv xL1.X1), (iv xL1.Y1)]) [(iv xL1.X0), (iv xL1.Y0), (iv xL1.X1), (iv xL1.Y1)] (wn rfl) rfl rfl rfl rfl Kv rfl rfl rfl ?_
  refine Tr.nil (Tr.zA (Tr.sr (Tr.mv rfl rfl (Tr.va rfl (fun _ _ h1 h2 => zq zCA (h1.ev rfl)) ?_))))
  refine Tr.va rfl (fun _ _ h1 h2 => Wm (h1.ev rfl) (h1.ev rfl)) ?_
  refine Tr.asg rfl rfl (Tr.nil (Tr.zA (Tr.seq (Tr.draw (by kernel_rfl) (by kernel_rfl) ?_))))
  refine Tq.mv rfl rfl (Tq.va rfl (fun _ _ h1 h2 => zEU (h1.ev rfl) (h1.ev rfl)) ?_)
  refine Tq.mv rfl rfl ?_
  obtain ⟨g131, hg131, H⟩ := bnd H
  refine Tq.mid 8 [(3, (.slice zHS zBo.length zHN)), (5, (.pointer (some ⟨b129, 0, none⟩))), (6, (iv (w64 ((zBo.length : Int) - 1)))), (9, (.slice QA QT.length QB)), (10, (iv (QT.length : Int))), (11, (iv (iL1 : Int))), (28, (.bool g131))] ?_ ?_
  ·cases hg137 : (decide (0 ≤ (w64 ((zBo.length : Int) - 1))))
   ·rw [hg137] at hg131
    rw [if_neg (by decide)] at hg131
    have H := hg131
    obtain rfl := Option.some.inj H
    refine Tq.pass rfl rfl rfl rfl rfl (by decide) ?_
    refine Tq.pass rfl rfl rfl rfl rfl (by decide) ?_
    refine Tq.pass rfl rfl rfl rfl rfl (by decide) ?_
    refine Tq.pass rfl rfl rfl rfl rfl (by decide) ?_
    refine Tq.pass rfl rfl rfl rfl rfl (by decide) ?_
    refine Tq.pass rfl rfl rfl rfl rfl (by decide) ?_
    refine Tq.pass rfl rfl rfl rfl rfl (by decide) ?_
    refine Tq.va rfl (fun _ _ h1 h2 => zf (h1.ev rfl) (h1.ev rfl)) ?_
    exact Tq.fin (.cons rfl (.cons rfl (.cons rfl (.cons rfl (.cons rfl (.cons rfl (.cons rfl .nil)))))))
   ·rw [hg137] at hg131
    rw [if_pos rfl] at hg131
    have H := hg131
    refine Tq.val (wg rfl rfl rfl) rfl (fun _ _ h1 h2 => zB Wz (h1.ev rfl)) ?_
    refine Tq.val (wg rfl rfl rfl) rfl (fun _ _ h1 h2 => zC QO (h1.ev rfl) (rdb h2 (vs := [(iv xL1.X0), (iv xL1.Y0), (iv xL1.X1), (iv xL1.Y1)]) (k := 7) rfl 0) rfl) ?_
    refine Tq.val (wg rfl rfl rfl) rfl (fun _ _ h1 h2 => run_move (h1.ev rfl)) ?_
    refine Tq.val (wg rfl rfl rfl) rfl (fun _ _ h1 h2 => run_move (h1.ev rfl)) ?_
    obtain ⟨x132, hx132, H⟩ := bnd H
    obtain ⟨hx1320, hx1321, hx1322⟩ := zh hx132
    refine Tq.val (wg rfl rfl rfl) rfl (fun _ _ h1 h2 => zH zAR (h1.ev rfl) zHv (h1.ev rfl) hx1320 hx1321) ?_
    refine Tq.val (wg rfl rfl rfl) rfl (fun _ _ h1 h2 => zC QO (h1.ev rfl) (rdo VZ (k := 2) h2 rfl hx1322) rfl) ?_
    refine Tq.val (wg rfl rfl rfl) rfl (fun _ _ h1 h2 => zA8 (h1.ev rfl) (h1.ev rfl)) ?_
    refine Tq.va rfl (fun _ _ h1 h2 => ze (h1.ev rfl) (h1.ev rfl)) ?_
    obtain rfl := Option.some.inj H
    exact Tq.fin (.cons rfl (.cons rfl (.cons rfl (.cons rfl (.cons rfl (.cons rfl (.cons rfl .nil)))))))
  ·refine Tq.nil (Tr.zA (Tr.cond rfl H (fun H => ?_) (fun H => ?_)))
   ·refine Tr.zC6 9 (by kernel_rfl) (by kernel_rfl) ?_
    refine Tq.mv rfl rfl (Tq.mv rfl rfl (Tq.mv rfl rfl (Tq.mv rfl rfl ?_)))
    obtain ⟨QI, hx133, H⟩ := bnd H
    obtain ⟨hx1330, hx1331, hx1332⟩ := zh hx133
    refine Tq.va rfl (fun _ _ h1 h2 => zH zAR (h1.ev rfl) zHv (h1.ev rfl) hx1330 hx1331) ?_
    refine Tq.va rfl (fun _ _ h1 h2 => zC QO (h1.ev rfl) (rdo VZ (k := 2) h2 rfl hx1332) rfl) ?_
    refine Tq.va rfl (fun _ _ h1 h2 => zB zC2 (h1.ev rfl)) ?_
    refine Tq.va rfl (fun _ _ h1 h2 => zC QO (h1.ev rfl) (rdb h2 (vs := [(iv xL1.X0), (iv xL1.Y0), (iv xL1.X1), (iv xL1.Y1)]) (k := 7) rfl 2) rfl) ?_
    refine Tq.va rfl (fun _ _ h1 h2 => zFZ (h1.ev rfl) (h1.ev rfl) _) ?_
    refine Tq.nil ?_
    obtain ⟨zGB, hx134, H⟩ := bnd H
    obtain ⟨hx1340, hx1341, hx1342⟩ := zh hx134
    refine Tr.va rfl (fun _ _ h1 h2 => zH zAR (h1.ev rfl) zHv (h1.ev rfl) hx1340 hx1341) ?_
    obtain ⟨l135, hl135, H⟩ := bnd H
    have hnl135 := zGD hl135
    refine Tr.zGh 2 (t := zn) (l := zBo) (i := (w64 ((zBo.length : Int) - 1))) (fo := 0) (cs := [(iv (max QI xL1.X1))]) (max QI xL1.X1) (wn rfl) rfl rfl rfl rfl rfl hx1342 zIz rfl (fun u _ => ⟨u, trivial, rfl⟩) rfl hl135 ?_
    have hfl135 : SlF zHS l135.length zHN := by rw [hnl135]; exact zHv
    refine Tr.sel (lf := [(3, (.slice zHS l135.length zHN)), (5, (.pointer (some ⟨b129, 0, none⟩))), (6, (iv (w64 ((zBo.length : Int) - 1)))), (9, (.slice QA QT.length QB)), (10, (iv (QT.length : Int))), (11, (iv (iL1 : Int))), (28, (.bool g131)), (29, (.slice zHS l135.length zHN)), (30, (iv (w64 ((zBo.length : Int) - 1)))), (31, (.slice zHS l135.length zHN)), (32, (iv (w64 ((zBo.length : Int) - 1)))), (34, (iv QI)), (35, (.pointer (some ⟨b129, 2, none⟩))), (36, (iv xL1.X1)), (37, (iv (max QI xL1.X1)))]) (le := [(0, ow QA QB 36 zN QT), (2, ow zHS zHN 3 zn l135), (7, bx b129 #[(iv xL1.X0), (iv xL1.Y0), (iv xL1.X1), (iv xL1.Y1)] 36)]) (.cons (VH rfl (by rw [hnl135])) (.cons rfl (.cons rfl (.cons rfl (.cons rfl (.cons rfl (.cons rfl (.cons (VH rfl (by rw [hnl135])) (.cons rfl (.cons (VH rfl (by rw [hnl135])) (.cons rfl (.cons rfl (.cons rfl (.cons rfl (.cons rfl .nil))))))))))))))) (.cons rfl (.cons rfl (.cons rfl .nil))) ?_
    refine Tr.nil (Tr.zW (Tr.zA ?_))
    refine Tr.region (Tr.va rfl (fun _ _ h1 h2 => zx (h1.ev rfl) (h1.ev rfl)) ?_)
    exact Tr.mv rfl rfl (Tr.nil (Tr.zZ QW (QF, (iL1 + 1), l135, zHS, zHN) ⟨rfl, Qg QP, zo QP, H, hfl135⟩ (.cons rfl (.cons rfl (.cons rfl (.cons (congrArg (fun z => some (Value.int .i64 z)) (Qf QP hfky100_0)) .nil)))) (.cons rfl (.cons rfl .nil))))
   ·refine Tr.region (Tr.mv rfl rfl (Tr.va rfl (fun _ _ h1 h2 => zB Wz (h1.ev rfl)) ?_))
    refine Tr.va rfl (fun _ _ h1 h2 => zC QO (h1.ev rfl) (rdb h2 (vs := [(iv xL1.X0), (iv xL1.Y0), (iv xL1.X1), (iv xL1.Y1)]) (k := 7) rfl 0) rfl) ?_
    refine Tr.va rfl (fun _ _ h1 h2 => zB zC2 (h1.ev rfl)) ?_
    refine Tr.va rfl (fun _ _ h1 h2 => zC QO (h1.ev rfl) (rdb h2 (vs := [(iv xL1.X0), (iv xL1.Y0), (iv xL1.X1), (iv xL1.Y1)]) (k := 7) rfl 2) rfl) ?_
    refine Tr.buildSlice 8 (e := 3) (vs := [(0, (iv xL1.X0)), (1, (iv xL1.X1))]) (cs := [(iv xL1.X0), (iv xL1.X1)]) (wn rfl) rfl (zi rfl (zi rfl Qb)) (by kernel_rfl) fun b136 => ?_
    obtain ⟨l137, hl137, H⟩ := bnd H
    refine Tr.append 2 (t := zn) (l := zBo) (l2 := [xL1.X0, xL1.X1]) (wn rfl) rfl rfl rfl rfl (fun W hW => ⟨[[(iv xL1.X0)], [(iv xL1.X1)]], (.cons ⟨(), trivial, rfl⟩ (.cons ⟨(), trivial, rfl⟩ .nil)), rdb hW (vs := [(iv xL1.X0), (iv xL1.X1)]) (k := 8) rfl 0⟩) zCA zIz zl_3 (by decide) by_3 rfl hl137 fun Al137 cl137 hAl137 => ?_
    refine Tr.asg rfl rfl (Tr.nil (Tr.zW (Tr.zA ?_)))
    refine Tr.region (Tr.va rfl (fun _ _ h1 h2 => zx (h1.ev rfl) (h1.ev rfl)) ?_)
    exact Tr.mv rfl rfl (Tr.nil (Tr.zZ QW (QF, (iL1 + 1), l137, Al137, cl137) ⟨rfl, Qg QP, zo QP, H, hAl137⟩ (.cons rfl (.cons rfl (.cons rfl (.cons (congrArg (fun z => some (Value.int .i64 z)) (Qf QP hfky100_0)) .nil)))) (.cons rfl (.cons rfl .nil))))

theorem zHb {w : Bs} (p0 : (List Int)) (QA : Option Addr) (QB : Nat) (QE : Sl w.R w.W zn QA QB p0) (p1 : (List Int)) (QG : Option Addr) (QH : Nat) (QV : Sl w.R w.W zn QG QH p1) (r : Bool) (H : Wj p0 p1 = some r) (hE : HF w w.W E0) : Calls Tryz.prog 113 [(.slice QA p0.length QB), (.slice QG p1.length QH)].toArray w.W fun e W' => e = .returned (.bool r) ∧ HF w W' E0 := by
 unfold Wj at H
 have leB := Bs.Le.refl w
 refine Tr.enter (n := 26) Tryz.func113 rfl rfl rfl hE ?_
 refine Tr.sr (Tr.asg rfl rfl (Tr.nil (Tr.zA (Tr.seq (Tr.sr (Tr.mv rfl rfl (Tr.va rfl (fun _ _ h1 h2 => zq zCA (h1.ev rfl)) ?_)))))))
 refine Tr.mv rfl rfl (Tr.va rfl (fun _ _ h1 h2 => zq zCA (h1.ev rfl)) ?_)
 refine Tr.va rfl (fun _ _ h1 h2 => Jv (h1.ev rfl) (h1.ev rfl)) ?_
 refine Tr.nil (Tr.zA (Tr.cond rfl H (fun H => ?_) (fun H => ?_)))
 ·refine Tr.sr (Tr.asg rfl rfl (Tr.nil (Tr.zA (Tr.ret (Tr.zU ?_)))))
  obtain rfl := Option.some.inj H
  exact Tr.out (m := [(.bool false)]) [] (zP rfl zQ) (fun W hW => ⟨rfl, hW.low leB⟩)
 ·refine Tr.skip (Tr.zA (Tr.seq (Tr.sr (Tr.mv rfl rfl (Tr.va rfl (fun _ _ h1 h2 => zq zCA (h1.ev rfl)) ?_)))))
  refine Tr.mv rfl rfl (Tr.nil (Tr.zA (Tr.block (Tr.loop (σ := (List Int) × Nat) (fun m w s => m = s.1.length + 1 ∧ s.1 = List.drop s.2 p0 ∧ s.2 ≤ p0.length ∧ JK p1 s.1 s.2 = some r) (fun s => [(0, (.slice QA p0.length QB)), (1, (.slice QG p1.length QH)), (12, (iv (p0.length : Int))), (13, (iv (s.2 : Int)))]) (fun s => []) (p0.length + 1) (p0, 0) ⟨rfl, rfl, Nat.zero_le _, H⟩ (.cons rfl (.cons rfl (.cons rfl (.cons rfl .nil)))) .nil (fun _ _ h => absurd h.1 (by simp)) ?_))))
  intro w QW m s hs
  obtain ⟨QF, iL1⟩ := s
  obtain ⟨KJ, QP, hiL1, H⟩ := hs
  replace QP : QF = List.drop iL1 p0 := QP
  replace H : JK p1 QF iL1 = some r := H
  replace KJ : m + 1 = QF.length + 1 := KJ
  replace QE := QE.leR QW
  replace QV := QV.leR QW
  replace leB := leB.trans QW
  obtain rfl : m = QF.length := by omega
  clear KJ
  show Tr _ _ (LF [(0, (.slice QA p0.length QB)), (1, (.slice QG p1.length QH)), (12, (iv (p0.length : Int))), (13, (iv (iL1 : Int)))]) (LE []) _
  cases QF with
  | nil =>
   rw [JK.eq_1] at H
   refine Tr.sr (Tr.va rfl (fun _ _ h1 h2 => zz (h1.ev rfl) (h1.ev rfl)) ?_)
   refine Tr.nil (Tr.zA (Tr.seq (Tr.WJ rfl (Qy QP) ?_)))
   refine Tr.exit (Tr.zX (Tr.zX (Tr.zAC (Tr.zA (Tr.sr (Tr.asg rfl rfl (Tr.nil (Tr.zA (Tr.ret ?_)))))))))
   obtain rfl := Option.some.inj H
   exact Tr.out (m := [(.bool true)]) [] (zP rfl zQ) (fun W hW => ⟨rfl, hW.low leB⟩)
  | cons xL1 QF =>
   rw [JK.eq_2] at H
   refine Tr.sr (Tr.va rfl (fun _ _ h1 h2 => zz (h1.ev rfl) (h1.ev rfl)) ?_)
   refine Tr.nil (Tr.zA (Tr.seq (Tr.WI rfl (Jg QP) ?_)))
   refine Tr.skip (Tr.zA (Tr.seq (Tr.block (Tr.sr (Tr.mv rfl rfl (Tr.asg rfl rfl (Tr.nil (Tr.zA (Tr.seq (Tr.draw (by kernel_rfl) (by kernel_rfl) ?_))))))))))
   refine Tq.mv rfl rfl (Tq.mv rfl rfl (Tq.va rfl (fun _ _ h1 h2 => zH zAR (h1.ev rfl) QE.form (h1.ev rfl) (Int.natCast_nonneg _) (zo QP)) ?_))
   refine Tq.va rfl (fun _ _ h1 h2 => zC QO (h1.ev rfl) (rdF VZ QE (Js QP) h2) rfl) ?_
   refine Tq.mv rfl rfl (Tq.mv rfl rfl ?_)
   obtain ⟨x103, hx103, H⟩ := bnd H
   obtain ⟨hx1030, hx1031, hx1032⟩ := zh hx103
   refine Tq.va rfl (fun _ _ h1 h2 => zH zAR (h1.ev rfl) QV.form (h1.ev rfl) hx1030 hx1031) ?_
   refine Tq.va rfl (fun _ _ h1 h2 => zC QO (h1.ev rfl) (rdF VZ QV hx1032 h2) rfl) ?_
   refine Tq.va rfl (fun _ _ h1 h2 => Jv (h1.ev rfl) (h1.ev rfl)) ?_
   refine Tq.nil (Tr.zA (Tr.cond rfl H (fun H => ?_) (fun H => ?_)))
   ·refine Tr.sr (Tr.asg rfl rfl (Tr.nil (Tr.zA (Tr.ret (Tr.zAB (Tr.zU (Tr.zU (Tr.zAB (Tr.zU ?_)))))))))
    obtain rfl := Option.some.inj H
    exact Tr.out (m := [(.bool false)]) [] (zP rfl zQ) (fun W hW => ⟨rfl, hW.low leB⟩)
   ·refine Tr.skip (Tr.zW (Tr.zA ?_))
    refine Tr.region (Tr.va rfl (fun _ _ h1 h2 => zx (h1.ev rfl) (h1.ev rfl)) ?_)
    exact Tr.mv rfl rfl (Tr.nil (Tr.zZ QW (QF, (iL1 + 1)) ⟨rfl, Qg QP, zo QP, H⟩ (.cons rfl (.cons rfl (.cons rfl (.cons (congrArg (fun z => some (Value.int .i64 z)) (Qf QP QE.form)) .nil)))) .nil))

theorem zBw {w : Bs} (p0 : (List zV)) (QA : Option Addr) (QB : Nat) (p1 : zV) (QG : Option Addr) (QH : Nat) (QV : Sl w.O w.W zn QG QH p1.Xs) (r : (List zV)) (H : JG p0 p1 = some r) (hE : HF w w.W (LEn [ow QA QB 107 zJ p0])) : Calls Tryz.prog 87 [(.slice QA p0.length QB), (.agg #[(iv p1.Y0), (iv p1.Y1), (.slice QG p1.Xs.length QH)])].toArray w.W fun e W' => ∃ (w' : Bs) (u : (Option Addr × Nat)), w.Le w' ∧ e = .returned (.slice u.1 r.length u.2) ∧ (SlF u.1 r.length u.2) ∧ HF w' W' (LEn [ow u.1 u.2 107 zJ r]) := by
 unfold JG at H
 have zB4 := (hE.sl (k := 0) rfl).form
 have leB := Bs.Le.refl w
 refine Tr.enter (n := 54) Tryz.func87 rfl rfl rfl hE ?_
 refine Tr.sr (Tr.box 1 (cs := [(iv p1.Y0), (iv p1.Y1), (.slice QG p1.Xs.length QH)]) (wn rfl) rfl rfl rfl fun QM => ?_)
 refine Tr.asg rfl rfl (Tr.JS 2 107 zJ ?_)
 show Tr _ _ (uf _ 4 (.slice none (([] : List zV)).length 0)) _ _
 refine Tr.nil (Tr.zA (Tr.seq (Tr.sr (Tr.va rfl (fun _ _ h1 h2 => zB zAk (h1.ev rfl)) ?_))))
 refine Tr.va rfl (fun _ _ h1 h2 => zC zCT (h1.ev rfl) (rdb h2 (vs := [(iv p1.Y0), (iv p1.Y1), (.slice QG p1.Xs.length QH)]) (k := 1) rfl 2) rfl) ?_
 refine Tr.va rfl (fun _ _ h1 h2 => zq zCA (h1.ev rfl)) ?_
 refine Tr.va rfl (fun _ _ h1 h2 => Qk (h1.ev rfl) (h1.ev rfl)) ?_
 refine Tr.mv rfl rfl (Tr.VR 6 [(0, (.slice QA p0.length QB)), (3, (.pointer (some ⟨QM, 0, none⟩))), (16, (.bool (((p1.Xs.length : Int) == 0) || (decide (p1.Y1 ≤ p1.Y0)))))] [(0, ow QA QB 107 zJ p0), (1, bx QM #[(iv p1.Y0), (iv p1.Y1), (.slice QG p1.Xs.length QH)] 107), (2, ow none 0 107 zJ ([] : List zV))] ?_ ?_)
 ·cases hg114 : ((p1.Xs.length : Int) == 0)
  ·refine Tr.val (wg rfl rfl rfl) rfl (fun _ _ h1 h2 => zB zBr (h1.ev rfl)) ?_
   refine Tr.val (wg rfl rfl rfl) rfl (fun _ _ h1 h2 => zC QO (h1.ev rfl) (rdb h2 (vs := [(iv p1.Y0), (iv p1.Y1), (.slice QG p1.Xs.length QH)]) (k := 1) rfl 1) rfl) ?_
   refine Tr.val (wg rfl rfl rfl) rfl (fun _ _ h1 h2 => zB zDt (h1.ev rfl)) ?_
   refine Tr.val (wg rfl rfl rfl) rfl (fun _ _ h1 h2 => zC QO (h1.ev rfl) (rdb h2 (vs := [(iv p1.Y0), (iv p1.Y1), (.slice QG p1.Xs.length QH)]) (k := 1) rfl 0) rfl) ?_
   refine Tr.val (wg rfl rfl rfl) rfl (fun _ _ h1 h2 => zA8 (h1.ev rfl) (h1.ev rfl)) ?_
   refine Tr.va rfl (fun _ _ h1 h2 => zf (h1.ev rfl) (h1.ev rfl)) ?_
   exact Tr.nil (Tr.Qo (.cons rfl (.cons rfl (.cons rfl .nil))) (.cons rfl (.cons rfl (.cons rfl .nil))))
  ·refine Tr.pass rfl rfl rfl rfl rfl (by decide) ?_
   refine Tr.pass rfl rfl rfl rfl rfl (by decide) ?_
   refine Tr.pass rfl rfl rfl rfl rfl (by decide) ?_
   refine Tr.pass rfl rfl rfl rfl rfl (by decide) ?_
   refine Tr.pass rfl rfl rfl rfl rfl (by decide) ?_
   refine Tr.va rfl (fun _ _ h1 h2 => ze (h1.ev rfl) (h1.ev rfl)) ?_
   exact Tr.nil (Tr.Qo (.cons rfl (.cons rfl (.cons rfl .nil))) (.cons rfl (.cons rfl (.cons rfl .nil))))
 ·show Tr _ _ (LF [(0, (.slice QA p0.length QB)), (3, (.pointer (some ⟨QM, 0, none⟩))), (16, (.bool (((p1.Xs.length : Int) == 0) || (decide (p1.Y1 ≤ p1.Y0)))))]) (LE [(0, ow QA QB 107 zJ p0), (1, bx QM #[(iv p1.Y0), (iv p1.Y1), (.slice QG p1.Xs.length QH)] 107), (2, ow none 0 107 zJ ([] : List zV))]) _
  refine Tr.nil (Tr.zA (Tr.cond rfl H (fun H => ?_) (fun H => ?_)))
  ·refine Tr.sr (Tr.mv rfl rfl (Tr.asg rfl rfl (Tr.nil (Tr.zA (Tr.ret (Tr.zU ?_))))))
   obtain rfl := Option.some.inj H
   exact Tr.out (m := [(.slice QA p0.length QB)]) [] (zP rfl zQ) (fun W hW => ⟨w, (QA, QB), leB, rfl, zB4, hW.pick (ks := [0]) (by decide) (zM rfl zY)⟩)
  ·refine Tr.skip (Tr.zA (Tr.seq (Tr.sr (Tr.mv rfl rfl (Tr.va rfl (fun _ _ h1 h2 => zq zEE (h1.ev rfl)) ?_)))))
   refine Tr.va rfl (fun _ _ h1 h2 => Wm (h1.ev rfl) (h1.ev rfl)) ?_
   refine Tr.asg rfl rfl (Tr.nil (Tr.zA (Tr.seq (Tr.draw (by kernel_rfl) (by kernel_rfl) ?_))))
   refine Tq.mv rfl rfl (Tq.va rfl (fun _ _ h1 h2 => zEU (h1.ev rfl) (h1.ev rfl)) ?_)
   refine Tq.mv rfl rfl ?_
   obtain ⟨g102, zGO, H⟩ := bnd H
   refine Tq.mid 9 [(0, (.slice QA p0.length QB)), (3, (.pointer (some ⟨QM, 0, none⟩))), (5, (iv (w64 ((p0.length : Int) - 1)))), (32, (.bool g102))] ?_ ?_
   ·cases hg114 : (decide (0 ≤ (w64 ((p0.length : Int) - 1))))
    ·rw [hg114] at zGO
     rw [if_neg (by decide)] at zGO
     have H := zGO
     obtain rfl := Option.some.inj H
     refine Tq.pass rfl rfl rfl rfl rfl (by decide) ?_
     refine Tq.pass rfl rfl rfl rfl rfl (by decide) ?_
     refine Tq.pass rfl rfl rfl rfl rfl (by decide) ?_
     refine Tq.pass rfl rfl rfl rfl rfl (by decide) ?_
     refine Tq.pass rfl rfl rfl rfl rfl (by decide) ?_
     refine Tq.pass rfl rfl rfl rfl rfl (by decide) ?_
     refine Tq.pass rfl rfl rfl rfl rfl (by decide) ?_
     refine Tq.pass rfl rfl rfl rfl rfl (by decide) ?_
     refine Tq.va rfl (fun _ _ h1 h2 => zf (h1.ev rfl) (h1.ev rfl)) ?_
     exact Tq.fin (.cons rfl (.cons rfl (.cons rfl (.cons rfl .nil))))
    ·rw [hg114] at zGO
     rw [if_pos rfl] at zGO
     have H := zGO
     refine Tq.val (wg rfl rfl rfl) rfl (fun _ _ h1 h2 => run_move (h1.ev rfl)) ?_
     refine Tq.val (wg rfl rfl rfl) rfl (fun _ _ h1 h2 => run_move (h1.ev rfl)) ?_
     obtain ⟨x103, hx103, H⟩ := bnd H
     obtain ⟨hx1030, hx1031, hx1032⟩ := zh hx103
     refine Tq.val (wg rfl rfl rfl) rfl (fun _ _ h1 h2 => zH zCB (h1.ev rfl) zB4 (h1.ev rfl) hx1030 hx1031) ?_
     refine Tq.val (wg rfl rfl rfl) rfl (fun _ _ h1 h2 => zB zBr (h1.ev rfl)) ?_
     refine Tq.val (wg rfl rfl rfl) rfl (fun _ _ h1 h2 => (HF.atN (k := 0) h2 rfl hx1032).elim fun u hu => zC QO (h1.ev rfl) (hu.2.drop 1) rfl) ?_
     refine Tq.val (wg rfl rfl rfl) rfl (fun _ _ h1 h2 => zB zDt (h1.ev rfl)) ?_
     refine Tq.val (wg rfl rfl rfl) rfl (fun _ _ h1 h2 => zC QO (h1.ev rfl) (rdb h2 (vs := [(iv p1.Y0), (iv p1.Y1), (.slice QG p1.Xs.length QH)]) (k := 1) rfl 0) rfl) ?_
     refine Tq.val (wg rfl rfl rfl) rfl (fun _ _ h1 h2 => Qk (h1.ev rfl) (h1.ev rfl)) ?_
     refine Tq.va rfl (fun _ _ h1 h2 => ze (h1.ev rfl) (h1.ev rfl)) ?_
     obtain rfl := Option.some.inj H
     exact Tq.fin (.cons rfl (.cons rfl (.cons rfl (.cons rfl .nil))))
   ·refine Tq.mv rfl rfl ?_
    obtain ⟨g107, hg107, H⟩ := bnd H
    refine Tq.mid 9 [(0, (.slice QA p0.length QB)), (3, (.pointer (some ⟨QM, 0, none⟩))), (5, (iv (w64 ((p0.length : Int) - 1)))), (42, (.bool g107))] ?_ ?_
    ·cases hg114 : g102
     ·rw [hg114] at hg107
      rw [if_neg (by decide)] at hg107
      have H := hg107
      obtain rfl := Option.some.inj H
      refine Tq.pass rfl rfl rfl rfl rfl (by decide) ?_
      refine Tq.pass rfl rfl rfl rfl rfl (by decide) ?_
      refine Tq.pass rfl rfl rfl rfl rfl (by decide) ?_
      refine Tq.pass rfl rfl rfl rfl rfl (by decide) ?_
      refine Tq.pass rfl rfl rfl rfl rfl (by decide) ?_
      refine Tq.pass rfl rfl rfl rfl rfl (by decide) ?_
      refine Tq.pass rfl rfl rfl rfl rfl (by decide) ?_
      refine Tq.pass rfl rfl rfl rfl rfl (by decide) ?_
      refine Tq.va rfl (fun _ _ h1 h2 => zf (h1.ev rfl) (h1.ev rfl)) ?_
      exact Tq.fin (.cons rfl (.cons rfl (.cons rfl (.cons rfl .nil))))
     ·rw [hg114] at hg107
      rw [if_pos rfl] at hg107
      have H := hg107
      refine Tq.val (wg rfl rfl rfl) rfl (fun _ _ h1 h2 => run_move (h1.ev rfl)) ?_
      refine Tq.val (wg rfl rfl rfl) rfl (fun _ _ h1 h2 => run_move (h1.ev rfl)) ?_
      obtain ⟨zAy, zKC, H⟩ := bnd H
      obtain ⟨zGq, zGp, zGo⟩ := zh zKC
      refine Tq.val (wg rfl rfl rfl) rfl (fun _ _ h1 h2 => zH zCB (h1.ev rfl) zB4 (h1.ev rfl) zGq zGp) ?_
      refine Tq.val (wg rfl rfl rfl) rfl (fun _ _ h1 h2 => zB zAk (h1.ev rfl)) ?_
      refine Tq.valE (U := (zJ).Ad) (fun u => (zJ).ok w.O w.W u zAy) (fun u => (.slice u.1 zAy.Xs.length u.2)) (wg rfl rfl rfl) rfl (ldN (κ := 0) (t := zJ) (V := fun u => (.slice u.1 zAy.Xs.length u.2)) rfl zGo (fun _ _ u h1 hc => zC zCT (h1.ev rfl) (hc.drop 2) rfl)) ?_
      intro u109 hoku109
      obtain ⟨Au109_0, cu109_0⟩ := u109
      have zIW := hoku109
      replace zIW : Sl w.O w.W zn Au109_0 cu109_0 zAy.Xs := zIW
      show Tq _ _ _ _ (uf _ 38 (.slice Au109_0 zAy.Xs.length cu109_0)) _ _ _
      refine Tq.val (wg rfl rfl rfl) rfl (fun _ _ h1 h2 => zB zAk (h1.ev rfl)) ?_
      refine Tq.val (wg rfl rfl rfl) rfl (fun _ _ h1 h2 => zC zCT (h1.ev rfl) (rdb h2 (vs := [(iv p1.Y0), (iv p1.Y1), (.slice QG p1.Xs.length QH)]) (k := 1) rfl 2) rfl) ?_
      obtain ⟨zBj, zKB, H⟩ := bnd H
      refine Tq.Qp (r := (.bool zBj)) (wg rfl rfl rfl) rfl Tryz.call113 (zF rfl (zF rfl zO)) (fun W hW => zHb zAy.Xs Au109_0 cu109_0 (zIW.rl.ext hW.QZ) p1.Xs QG QH (QV.rl.ext hW.QZ) zBj zKB (HF.start _)) ?_
      refine Tq.va rfl (fun _ _ h1 h2 => ze (h1.ev rfl) (h1.ev rfl)) ?_
      obtain rfl := Option.some.inj H
      exact Tq.fin (.cons rfl (.cons rfl (.cons rfl (.cons rfl .nil))))
    ·refine Tq.nil (Tr.zA (Tr.cond rfl H (fun H => ?_) (fun H => ?_)))
     ·refine Tr.sr (Tr.mv rfl rfl (Tr.mv rfl rfl (Tr.va rfl (fun _ _ h1 h2 => zB zBr (h1.ev rfl)) ?_)))
      refine Tr.va rfl (fun _ _ h1 h2 => zC QO (h1.ev rfl) (rdb h2 (vs := [(iv p1.Y0), (iv p1.Y1), (.slice QG p1.Xs.length QH)]) (k := 1) rfl 1) rfl) ?_
      obtain ⟨x111, hx111, H⟩ := bnd H
      obtain ⟨hx1110, hx1111, hx1112⟩ := zh hx111
      refine Tr.va rfl (fun _ _ h1 h2 => zH zCB (h1.ev rfl) zB4 (h1.ev rfl) hx1110 hx1111) ?_
      refine Tr.va rfl (fun _ _ h1 h2 => zB zBr (h1.ev rfl)) ?_
      obtain ⟨l112, hl112, H⟩ := bnd H
      have hnl112 := zGD hl112
      refine Tr.zGh 0 (t := zJ) (l := p0) (i := (w64 ((p0.length : Int) - 1))) (fo := 1) (cs := [(iv p1.Y1)]) (zV.mk x111.Y0 p1.Y1 x111.Xs) (wn rfl) rfl rfl rfl rfl rfl hx1112 zIz rfl (fun u hu => ⟨u, hu, rfl⟩) rfl hl112 ?_
      have hfl112 : SlF QA l112.length QB := by rw [hnl112]; exact zB4
      have hsl112 := hnl112.trans rfl
      refine Tr.sel (lf := [(0, (.slice QA l112.length QB)), (3, (.pointer (some ⟨QM, 0, none⟩))), (5, (iv (w64 ((p0.length : Int) - 1)))), (42, (.bool g107)), (43, (.slice QA l112.length QB)), (44, (iv (w64 ((p0.length : Int) - 1)))), (45, (.pointer (some ⟨QM, 1, none⟩))), (46, (iv p1.Y1))]) (le := [(0, ow QA QB 107 zJ l112), (1, bx QM #[(iv p1.Y0), (iv p1.Y1), (.slice QG p1.Xs.length QH)] 107), (2, ow none 0 107 zJ ([] : List zV))]) (.cons (VH rfl (by rw [hnl112])) (.cons rfl (.cons rfl (.cons rfl (.cons (VH rfl (by rw [hnl112])) (.cons rfl (.cons rfl (.cons rfl .nil)))))))) (.cons rfl (.cons rfl (.cons rfl .nil))) ?_
      refine Tr.nil (Tr.zA (Tr.sr (Tr.mv rfl rfl (Tr.asg rfl rfl (Tr.nil (Tr.zA (Tr.ret (Tr.zU ?_))))))))
      obtain rfl := Option.some.inj H
      exact Tr.out (m := [(.slice QA l112.length QB)]) [] (zP rfl zQ) (fun W hW => ⟨w, (QA, QB), leB, rfl, hfl112, hW.pick (ks := [0]) (by decide) (zM rfl zY)⟩)
     ·refine Tr.skip (Tr.zA (Tr.sr (Tr.mv rfl rfl (Tr.va rfl (fun _ _ h1 h2 => zR (cs := [(iv p1.Y0), (iv p1.Y1), (.slice QG p1.Xs.length QH)]) ag_107 zHk (h1.ev rfl) (zL.take (rdb h2 (vs := [(iv p1.Y0), (iv p1.Y1), (.slice QG p1.Xs.length QH)]) (k := 1) rfl 0) 3) rfl) ?_))))
      refine Tr.buildSlice 3 (e := 107) (vs := [(0, (.agg #[(iv p1.Y0), (iv p1.Y1), (.slice QG p1.Xs.length QH)]))]) (cs := [(iv p1.Y0), (iv p1.Y1), (.slice QG p1.Xs.length QH)]) (wn rfl) rfl (zi rfl Qb) (by kernel_rfl) fun b113 => ?_
      obtain ⟨l114, hl114, H⟩ := bnd H
      refine Tr.append 0 (t := zJ) (l := p0) (l2 := [p1]) (wn rfl) rfl rfl rfl rfl (fun W hW => ⟨[[(iv p1.Y0), (iv p1.Y1), (.slice QG p1.Xs.length QH)]], (.cons ⟨(QG, QH), QV, rfl⟩ .nil), rdb hW (vs := [(iv p1.Y0), (iv p1.Y1), (.slice QG p1.Xs.length QH)]) (k := 3) rfl 0⟩) zEE zHk zl_107 (by decide) by_107 rfl hl114 fun Al114 cl114 hAl114 => ?_
      refine Tr.asg rfl rfl (Tr.nil (Tr.zA (Tr.ret ?_)))
      obtain rfl := Option.some.inj H
      exact Tr.out (m := [(.slice Al114 l114.length cl114)]) [] (zP rfl zQ) (fun W hW => ⟨w, (Al114, cl114), leB, rfl, hAl114, hW.pick (ks := [0]) (by decide) (zM rfl zY)⟩)

theorem zGW (N : Nat) {w : Bs} (p0 : (List zT)) (QA : Option Addr) (QB : Nat) (QE : Sl w.R w.W zN QA QB p0) (r : (List zV)) (H : zBR N p0 = some r) (hE : HF w w.W (LEn [emp])) : Calls Tryz.prog 59 [(.slice QA p0.length QB)].toArray w.W fun e W' => ∃ (w' : Bs) (u : (Option Addr × Nat)), w.Le w' ∧ e = .returned (.slice u.1 r.length u.2) ∧ (SlF u.1 r.length u.2) ∧ HF w' W' (LEn [ow u.1 u.2 107 zJ r]) := by
 unfold zBR at H
 have leB := Bs.Le.refl w
 refine Tr.enter (n := 83) Tryz.func59 rfl rfl rfl hE ?_
 refine Tr.sr (Tr.asg rfl rfl (Tr.JS 1 107 zJ ?_))
 show Tr _ _ (uf _ 2 (.slice none (([] : List zV)).length 0)) _ _
 refine Tr.nil (Tr.zA (Tr.sr (Tr.mv rfl rfl ?_)))
 obtain ⟨QT, zBp, H⟩ := bnd H
 refine Tr.VP [2] [emp] (U := (Option Addr × Nat)) (fun u => (.slice u.1 QT.length u.2)) (fun u => SlF u.1 QT.length u.2) (fun u => [ow u.1 u.2 36 zN QT]) rfl (zM rfl zY) (fun _ => rfl) (wn rfl) rfl Tryz.call80 (zF rfl zO) (fun W hW hp hE => zC9 p0 QA QB (QE.ext (hW.QS hp)) QT zBp hE) ?_
 intro u hu
 obtain ⟨QY, QX⟩ := u
 have gy100_0 := hu
 have zBq : SlF QY QT.length QX := gy100_0 --@phi
 show Tr _ _ (uf _ 11 (.slice QY QT.length QX)) (up _ 2 (ow QY QX 36 zN QT)) _
 refine Tr.asg rfl rfl (Tr.nil (Tr.zA (Tr.sr (Tr.mv rfl rfl ?_))))
 obtain ⟨y102, hy102, H⟩ := bnd H
 refine Tr.VP [2] [ow QY QX 36 zN QT] (U := Unit) (fun u => (.tuple #[])) (fun u => y102.length = QT.length) (fun u => [ow QY QX 36 zN y102]) rfl (zM rfl zY) (fun _ => rfl) (wn rfl) rfl Tryz.call81 (zF rfl (zF rfl zO)) (fun W hW hp hE => Wi QT QY QX (fun z0 z1 => Ww z0 z1) 82 [] Tryz.call82 (fun w' he z0 z1 y hy => zJh z0 z1 y hy (HF.start _)) y102 hy102 hE) ?_
 intro u hu
 have gky102_0 := hu
 have zIb : y102.length = QT.length := gky102_0 --@phi
 have zIe : SlF QY y102.length QX := by rw [zIb]; exact zBq
 show Tr _ _ (uf _ 13 (.tuple #[])) (up _ 2 (ow QY QX 36 zN y102)) _
 refine Tr.sel (lf := [(0, (.slice QY y102.length QX)), (2, (.slice none (([] : List zV)).length 0)), (10, (.slice QA p0.length QB)), (11, (.slice QY y102.length QX)), (12, (.slice QY y102.length QX)), (13, (.tuple #[]))]) (le := [(1, ow none 0 107 zJ ([] : List zV)), (2, ow QY QX 36 zN y102)]) (.cons (VH rfl (by rw [zIb])) (.cons rfl (.cons rfl (.cons (VH rfl (by rw [zIb])) (.cons (VH rfl (by rw [zIb])) (.cons rfl .nil)))))) (.cons rfl (.cons rfl .nil)) ?_
 refine Tr.nil (Tr.zA (Tr.sr (Tr.alloc 3 (wn rfl) rfl ze_38 fun Ko => ?_)))
 refine Tr.nil (Tr.zA (Tr.seq (Tr.sr (Tr.mv rfl rfl (Tr.va rfl (fun _ _ h1 h2 => zq zA0 (h1.ev rfl)) ?_)))))
 refine Tr.mv rfl rfl (Tr.nil (Tr.zA (Tr.block (Tr.JS 12 3 zn ?_))))
 refine Tr.loop (σ := (List zT) × Nat × (List Int) × (Option Addr) × Nat) (fun m w s => m = s.1.length + 1 ∧ s.1 = List.drop s.2.1 y102 ∧ s.2.1 ≤ y102.length ∧ KZ N y102 s.1 s.2.1 s.2.2.1 = some r ∧ SlF s.2.2.2.1 s.2.2.1.length s.2.2.2.2) (fun s => [(0, (.slice QY y102.length QX)), (3, (.pointer (some ⟨Ko, 0, none⟩))), (14, (.slice QY y102.length QX)), (15, (iv (y102.length : Int))), (16, (iv (s.2.1 : Int)))]) (fun s => [(2, ow QY QX 36 zN y102), (3, bx Ko #[(.slice s.2.2.2.1 s.2.2.1.length s.2.2.2.2)] 38), (12, ow s.2.2.2.1 s.2.2.2.2 3 zn s.2.2.1)]) (y102.length + 1) (y102, 0, ([] : List Int), none, 0) ⟨rfl, rfl, Nat.zero_le _, H, VD⟩ (.cons rfl (.cons rfl (.cons rfl (.cons rfl (.cons rfl .nil))))) (.cons rfl (.cons rfl (.cons rfl .nil))) (fun _ _ h => absurd h.1 (by simp)) ?_
 intro w QW m s hs
 obtain ⟨QF, iL1, zJW, zEO, zEN⟩ := s
 obtain ⟨KJ, QP, hiL1, H, hl119⟩ := hs
 replace QP : QF = List.drop iL1 y102 := QP
 replace H : KZ N y102 QF iL1 zJW = some r := H
 replace KJ : m + 1 = QF.length + 1 := KJ
 replace leB := leB.trans QW
 replace hl119 : SlF zEO zJW.length zEN := hl119
 obtain rfl : m = QF.length := by omega
 clear KJ
 show Tr _ _ (LF [(0, (.slice QY y102.length QX)), (3, (.pointer (some ⟨Ko, 0, none⟩))), (14, (.slice QY y102.length QX)), (15, (iv (y102.length : Int))), (16, (iv (iL1 : Int)))]) (LE [(2, ow QY QX 36 zN y102), (3, bx Ko #[(.slice zEO zJW.length zEN)] 38), (12, ow zEO zEN 3 zn zJW)]) _
 cases QF with
 | nil =>
  rw [KZ.eq_1] at H
  refine Tr.sr (Tr.va rfl (fun _ _ h1 h2 => zz (h1.ev rfl) (h1.ev rfl)) ?_)
  refine Tr.nil (Tr.zA (Tr.seq (Tr.WJ rfl (Qy QP) ?_)))
  refine Tr.exit (Tr.zX (Tr.zX (Tr.zAC (Tr.zA (Tr.sr (Tr.va rfl (fun _ _ h1 h2 => zC zCT (h1.ev rfl) (rdb h2 (vs := [(.slice zEO zJW.length zEN)]) (k := 3) rfl 0) rfl) ?_))))))
  obtain ⟨zDL, hy120, H⟩ := bnd H
  refine Tr.VP [12] [ow zEO zEN 3 zn zJW] (U := Unit) (fun u => (.tuple #[])) (fun u => zDL.length = zJW.length) (fun u => [ow zEO zEN 3 zn zDL]) rfl (zM rfl zY) (fun _ => rfl) (wn rfl) rfl Tryz.call83 (zF rfl zO) (fun W hW hp hE => zDv zJW zEO zEN zDL hy120 hE) ?_
  intro u hu
  have gky120_0 := hu
  have hgky120_0 : zDL.length = zJW.length := gky120_0 --@phi
  have hfky120_0 : SlF zEO zDL.length zEN := by rw [hgky120_0]; exact hl119
  show Tr _ _ (uf _ 29 (.tuple #[])) (up _ 12 (ow zEO zEN 3 zn zDL)) _
  refine Tr.sel (lf := [(0, (.slice QY y102.length QX)), (3, (.pointer (some ⟨Ko, 0, none⟩))), (14, (.slice QY y102.length QX)), (15, (iv (y102.length : Int))), (16, (iv (iL1 : Int))), (17, (.bool (decide ((iL1 : Int) < (y102.length : Int))))), (28, (.slice zEO zDL.length zEN)), (29, (.tuple #[]))]) (le := [(2, ow QY QX 36 zN y102), (3, bx Ko #[(.slice zEO zDL.length zEN)] 38), (12, ow zEO zEN 3 zn zDL)]) (.cons rfl (.cons rfl (.cons rfl (.cons rfl (.cons rfl (.cons rfl (.cons (VH rfl (by rw [hgky120_0])) (.cons rfl .nil)))))))) (.cons rfl (.cons (ebx rfl (by rw [hgky120_0])) (.cons rfl .nil))) ?_
  refine Tr.nil (Tr.zA (Tr.sr (Tr.va rfl (fun _ _ h1 h2 => zC zCT (h1.ev rfl) (rdb h2 (vs := [(.slice zEO zDL.length zEN)]) (k := 3) rfl 0) rfl) ?_)))
  obtain ⟨KH, hy122, H⟩ := bnd H
  refine Tr.VP [12] [ow zEO zEN 3 zn zDL] (U := (Option Addr × Nat)) (fun u => (.slice u.1 KH.length u.2)) (fun u => SlF u.1 KH.length u.2) (fun u => [ow u.1 u.2 3 zn KH]) rfl (zM rfl zY) (fun _ => rfl) (wn rfl) rfl Tryz.call84 (zF rfl zO) (fun W hW hp hE => zCm zDL zEO zEN KH hy122 hE) ?_
  intro u hu
  obtain ⟨JI, Je⟩ := u
  have gy122_0 := hu
  have zHx : SlF JI KH.length Je := gy122_0 --@phi
  show Tr _ _ (uf _ 31 (.slice JI KH.length Je)) (up _ 12 (ow JI Je 3 zn KH)) _
  refine Tr.store 3 (cs := [(.slice JI KH.length Je)]) [(.slice JI KH.length Je)] (wn rfl) rfl rfl rfl rfl sz_38 rfl rfl rfl ?_
  refine Tr.nil (Tr.zA (Tr.sr (Tr.asg rfl rfl (Tr.JS 13 107 zJ ?_))))
  show Tr _ _ (uf _ 6 (.slice none (([] : List zV)).length 0)) _ _
  refine Tr.nil (Tr.zA (Tr.sr (Tr.asg rfl rfl (Tr.JS 14 36 zN ?_))))
  show Tr _ _ (uf _ 7 (.slice none (([] : List zT)).length 0)) _ _
  refine Tr.nil (Tr.zA (Tr.sr (Tr.asg rfl rfl (Tr.nil (Tr.zA (Tr.seq (Tr.sr (Tr.alloc 15 (wn rfl) rfl ze_3 fun b124 => ?_))))))))
  refine Tr.store 15 (cs := [(iv 0)]) [(iv 0)] (wn rfl) rfl rfl rfl rfl zIz rfl rfl rfl ?_
  refine Tr.nil (Tr.zA (Tr.block (Tr.ren 15 29 rfl rfl rfl ?_)))
  refine Tr.loop (σ := Int × (List zV) × (List zT) × Int × Nat × (Option Addr) × Nat × (Option Addr) × Nat) (fun m w s => Qv N y102 KH m s.1 s.2.1 s.2.2.1 s.2.2.2.1 = some r ∧ SlF s.2.2.2.2.2.1 s.2.1.length s.2.2.2.2.2.2.1 ∧ SlF s.2.2.2.2.2.2.2.1 s.2.2.1.length s.2.2.2.2.2.2.2.2) (fun s => [(0, (.slice QY y102.length QX)), (3, (.pointer (some ⟨Ko, 0, none⟩))), (6, (.slice s.2.2.2.2.2.1 s.2.1.length s.2.2.2.2.2.2.1)), (7, (.slice s.2.2.2.2.2.2.2.1 s.2.2.1.length s.2.2.2.2.2.2.2.2)), (8, (iv s.2.2.2.1)), (9, (.pointer (some ⟨s.2.2.2.2.1, 0, none⟩)))]) (fun s => [(2, ow QY QX 36 zN y102), (3, bx Ko #[(.slice JI KH.length Je)] 38), (12, ow JI Je 3 zn KH), (13, ow s.2.2.2.2.2.1 s.2.2.2.2.2.2.1 107 zJ s.2.1), (14, ow s.2.2.2.2.2.2.2.1 s.2.2.2.2.2.2.2.2 36 zN s.2.2.1), (29, bx s.2.2.2.2.1 #[(iv s.1)] 3)]) N (0, ([] : List zV), ([] : List zT), 0, b124, none, 0, none, 0) ⟨H, VD, VD⟩ (.cons rfl (.cons rfl (.cons rfl (.cons rfl (.cons rfl (.cons rfl .nil)))))) (.cons rfl (.cons rfl (.cons rfl (.cons rfl (.cons rfl (.cons rfl .nil)))))) (fun _ _ h => zAi (h.1)) ?_
  intro w zB1 mL4 s hs
  obtain ⟨zA6, VW, WZ, x232, bv227, zAd, zAT, zCZ, zCC⟩ := s
  obtain ⟨H, zDs, zEM⟩ := hs
  replace H : Qv N y102 KH (mL4 + 1) zA6 VW WZ x232 = some r := H
  replace leB := leB.trans zB1
  replace zDs : SlF zAd VW.length zAT := zDs
  rw [Qv.eq_2] at H
  show Tr _ _ (LF [(0, (.slice QY y102.length QX)), (3, (.pointer (some ⟨Ko, 0, none⟩))), (6, (.slice zAd VW.length zAT)), (7, (.slice zCZ WZ.length zCC)), (8, (iv x232)), (9, (.pointer (some ⟨bv227, 0, none⟩)))]) (LE [(2, ow QY QX 36 zN y102), (3, bx Ko #[(.slice JI KH.length Je)] 38), (12, ow JI Je 3 zn KH), (13, ow zAd zAT 107 zJ VW), (14, ow zCZ zCC 36 zN WZ), (29, bx bv227 #[(iv zA6)] 3)]) _
  refine Tr.seq (Tr.sr (Tr.va rfl (fun _ _ h1 h2 => zC QO (h1.ev rfl) (rdb h2 (vs := [(iv zA6)]) (k := 29) rfl 0) rfl) ?_))
  refine Tr.va rfl (fun _ _ h1 h2 => zx (h1.ev rfl) (h1.ev rfl)) ?_
  refine Tr.va rfl (fun _ _ h1 h2 => zC zCT (h1.ev rfl) (rdb h2 (vs := [(.slice JI KH.length Je)]) (k := 3) rfl 0) rfl) ?_
  refine Tr.va rfl (fun _ _ h1 h2 => zq zCA (h1.ev rfl)) ?_
  refine Tr.va rfl (fun _ _ h1 h2 => zz (h1.ev rfl) (h1.ev rfl)) ?_
  refine Tr.nil (Tr.zA (Tr.cond rfl H (fun H => ?_) (fun H => ?_)))
  ·refine Tr.skip (Tr.zA (Tr.seq (Tr.block (Tr.sr (Tr.mv rfl rfl (Tr.zE5 (vs := [(.pointer (some ⟨Ko, 0, none⟩)), (.pointer (some ⟨bv227, 0, none⟩))]) (wn rfl) rfl (zF rfl (zF rfl zO)) ?_))))))
   obtain ⟨y233, hy233, H⟩ := bnd H
   refine Tr.VP [14] [ow zCZ zCC 36 zN WZ] (U := (Option Addr × Nat)) (fun u => (.slice u.1 y233.length u.2)) (fun u => SlF u.1 y233.length u.2) (fun u => [ow u.1 u.2 36 zN y233]) rfl (zM rfl zY) (fun _ => rfl) (wn rfl) rfl Tryz.call85 (zF rfl (zF rfl zO)) (fun W hW hp hE => zEd N WZ zCZ zCC (fun z0 => Wv z0 KH zA6) 86 [(.pointer (some ⟨Ko, 0, none⟩)), (.pointer (some ⟨bv227, 0, none⟩))] Tryz.call86 (fun w' he z0 y hy => zJg z0 KH JI Je ((hW.slS (k := 12) rfl hp rfl).ext he) Ko (he.r _ (hW.boxS (k := 3) rfl hp rfl)) (he.cells (hW.boxS (k := 3) rfl hp rfl) (hW.boxC (k := 3) rfl)) zA6 bv227 (he.r _ (hW.boxS (k := 29) rfl hp rfl)) (he.cells (hW.boxS (k := 29) rfl hp rfl) (hW.boxC (k := 29) rfl)) y hy (HF.start _)) y233 hy233 hE) ?_
   intro u hu
   obtain ⟨Ay233_0, cy233_0⟩ := u
   have gy233_0 := hu
   have hgy233_0 : SlF Ay233_0 y233.length cy233_0 := gy233_0 --@phi
   show Tr _ _ (uf _ 41 (.slice Ay233_0 y233.length cy233_0)) (up _ 14 (ow Ay233_0 cy233_0 36 zN y233)) _
   refine Tr.asg rfl rfl (Tr.nil (Tr.zA (Tr.seq (Tr.block (Tr.loop (σ := (List zT) × Int × (Option Addr) × Nat) (fun m w s => KY y102 KH zA6 VW (Qv N y102 KH mL4) m s.1 s.2.1 = some r ∧ SlF s.2.2.1 s.1.length s.2.2.2) (fun s => [(0, (.slice QY y102.length QX)), (3, (.pointer (some ⟨Ko, 0, none⟩))), (6, (.slice zAd VW.length zAT)), (7, (.slice s.2.2.1 s.1.length s.2.2.2)), (8, (iv s.2.1)), (9, (.pointer (some ⟨bv227, 0, none⟩)))]) (fun s => [(2, ow QY QX 36 zN y102), (3, bx Ko #[(.slice JI KH.length Je)] 38), (12, ow JI Je 3 zn KH), (13, ow zAd zAT 107 zJ VW), (14, ow s.2.2.1 s.2.2.2 36 zN s.1), (29, bx bv227 #[(iv zA6)] 3)]) N (y233, x232, Ay233_0, cy233_0) ⟨H, hgy233_0⟩ (.cons rfl (.cons rfl (.cons rfl (.cons rfl (.cons rfl (.cons rfl .nil)))))) (.cons rfl (.cons rfl (.cons rfl (.cons rfl (.cons rfl (.cons rfl .nil)))))) (fun _ _ h => zAi (h.1)) ?_)))))
   intro w leL5 mL5 s hs
   obtain ⟨zF0, zKr, zCY, zCS⟩ := s
   obtain ⟨H, hl257⟩ := hs
   replace H : KY y102 KH zA6 VW (Qv N y102 KH mL4) (mL5 + 1) zF0 zKr = some r := H
   replace zB1 := zB1.trans leL5
   replace hl257 : SlF zCY zF0.length zCS := hl257
   rw [KY.eq_2] at H
   show Tr _ _ (LF [(0, (.slice QY y102.length QX)), (3, (.pointer (some ⟨Ko, 0, none⟩))), (6, (.slice zAd VW.length zAT)), (7, (.slice zCY zF0.length zCS)), (8, (iv zKr)), (9, (.pointer (some ⟨bv227, 0, none⟩)))]) (LE [(2, ow QY QX 36 zN y102), (3, bx Ko #[(.slice JI KH.length Je)] 38), (12, ow JI Je 3 zn KH), (13, ow zAd zAT 107 zJ VW), (14, ow zCY zCS 36 zN zF0), (29, bx bv227 #[(iv zA6)] 3)]) _
   refine Tr.seq (Tr.seq (Tr.draw (by kernel_rfl) (by kernel_rfl) ?_))
   refine Tq.mv rfl rfl (Tq.mv rfl rfl (Tq.va rfl (fun _ _ h1 h2 => zq zA0 (h1.ev rfl)) ?_))
   refine Tq.va rfl (fun _ _ h1 h2 => zz (h1.ev rfl) (h1.ev rfl)) ?_
   refine Tq.mv rfl rfl ?_
   obtain ⟨g261, hg261, H⟩ := bnd H
   refine Tq.mid 11 [(0, (.slice QY y102.length QX)), (3, (.pointer (some ⟨Ko, 0, none⟩))), (6, (.slice zAd VW.length zAT)), (7, (.slice zCY zF0.length zCS)), (8, (iv zKr)), (9, (.pointer (some ⟨bv227, 0, none⟩))), (57, (.bool g261))] ?_ ?_
   ·cases zKH : (decide (zKr < (y102.length : Int)))
    ·rw [zKH] at hg261
     rw [if_neg (by decide)] at hg261
     have H := hg261
     obtain rfl := Option.some.inj H
     refine Tq.pass rfl rfl rfl rfl rfl (by decide) ?_
     refine Tq.pass rfl rfl rfl rfl rfl (by decide) ?_
     refine Tq.pass rfl rfl rfl rfl rfl (by decide) ?_
     refine Tq.pass rfl rfl rfl rfl rfl (by decide) ?_
     refine Tq.pass rfl rfl rfl rfl rfl (by decide) ?_
     refine Tq.pass rfl rfl rfl rfl rfl (by decide) ?_
     refine Tq.pass rfl rfl rfl rfl rfl (by decide) ?_
     refine Tq.pass rfl rfl rfl rfl rfl (by decide) ?_
     refine Tq.pass rfl rfl rfl rfl rfl (by decide) ?_
     refine Tq.pass rfl rfl rfl rfl rfl (by decide) ?_
     refine Tq.va rfl (fun _ _ h1 h2 => zf (h1.ev rfl) (h1.ev rfl)) ?_
     exact Tq.fin (.cons rfl (.cons rfl (.cons rfl (.cons rfl (.cons rfl (.cons rfl (.cons rfl .nil)))))))
    ·rw [zKH] at hg261
     rw [if_pos rfl] at hg261
     have H := hg261
     refine Tq.val (wg rfl rfl rfl) rfl (fun _ _ h1 h2 => run_move (h1.ev rfl)) ?_
     refine Tq.val (wg rfl rfl rfl) rfl (fun _ _ h1 h2 => run_move (h1.ev rfl)) ?_
     obtain ⟨x262, hx262, H⟩ := bnd H
     obtain ⟨hx2620, hx2621, hx2622⟩ := zh hx262
     refine Tq.val (wg rfl rfl rfl) rfl (fun _ _ h1 h2 => zH zCR (h1.ev rfl) zIe (h1.ev rfl) hx2620 hx2621) ?_
     refine Tq.val (wg rfl rfl rfl) rfl (fun _ _ h1 h2 => zB zCa (h1.ev rfl)) ?_
     refine Tq.val (wg rfl rfl rfl) rfl (fun _ _ h1 h2 => zC QO (h1.ev rfl) (zL.drop (rdo VM (k := 2) h2 rfl hx2622) 1) rfl) ?_
     refine Tq.val (wg rfl rfl rfl) rfl (fun _ _ h1 h2 => zC zCT (h1.ev rfl) (rdb h2 (vs := [(.slice JI KH.length Je)]) (k := 3) rfl 0) rfl) ?_
     refine Tq.val (wg rfl rfl rfl) rfl (fun _ _ h1 h2 => zC QO (h1.ev rfl) (rdb h2 (vs := [(iv zA6)]) (k := 29) rfl 0) rfl) ?_
     obtain ⟨x263, hx263, H⟩ := bnd H
     obtain ⟨hx2630, hx2631, hx2632⟩ := zh hx263
     refine Tq.val (wg rfl rfl rfl) rfl (fun _ _ h1 h2 => zH zAR (h1.ev rfl) zHx (h1.ev rfl) hx2630 hx2631) ?_
     refine Tq.val (wg rfl rfl rfl) rfl (fun _ _ h1 h2 => zC QO (h1.ev rfl) (rdo VZ (k := 12) h2 rfl hx2632) rfl) ?_
     refine Tq.val (wg rfl rfl rfl) rfl (fun _ _ h1 h2 => zA8 (h1.ev rfl) (h1.ev rfl)) ?_
     refine Tq.va rfl (fun _ _ h1 h2 => ze (h1.ev rfl) (h1.ev rfl)) ?_
     obtain rfl := Option.some.inj H
     exact Tq.fin (.cons rfl (.cons rfl (.cons rfl (.cons rfl (.cons rfl (.cons rfl (.cons rfl .nil)))))))
   ·refine Tq.nil (Tr.zA (Tr.cond rfl H (fun H => ?_) (fun H => ?_)))
    ·refine Tr.skip (Tr.zA (Tr.block (Tr.region (Tr.mv rfl rfl (Tr.mv rfl rfl (Tr.mv rfl rfl ?_))))))
     obtain ⟨zEs, hx264, H⟩ := bnd H
     obtain ⟨hx2640, hx2641, hx2642⟩ := zh hx264
     refine Tr.va rfl (fun _ _ h1 h2 => zH zCR (h1.ev rfl) zIe (h1.ev rfl) hx2640 hx2641) ?_
     refine Tr.va rfl (fun _ _ h1 h2 => zR (cs := [(iv zEs.X0), (iv zEs.Y0), (iv zEs.X1), (iv zEs.Y1)]) zCD Kv (h1.ev rfl) (zL.take (rdo VM (k := 2) h2 rfl hx2642) 4) rfl) ?_
     refine Tr.buildSlice 32 (e := 36) (vs := [(0, (.agg #[(iv zEs.X0), (iv zEs.Y0), (iv zEs.X1), (iv zEs.Y1)]))]) (cs := [(iv zEs.X0), (iv zEs.Y0), (iv zEs.X1), (iv zEs.Y1)]) (wn rfl) rfl (zi rfl Qb) (by kernel_rfl) fun b265 => ?_
     obtain ⟨l266, hl266, H⟩ := bnd H
     refine Tr.append 14 (t := zN) (l := zF0) (l2 := [zEs]) (wn rfl) rfl rfl rfl rfl (fun W hW => ⟨[[(iv zEs.X0), (iv zEs.Y0), (iv zEs.X1), (iv zEs.Y1)]], (.cons ⟨(), trivial, rfl⟩ .nil), rdb hW (vs := [(iv zEs.X0), (iv zEs.Y0), (iv zEs.X1), (iv zEs.Y1)]) (k := 32) rfl 0⟩) zA0 Kv zl_36 (by decide) by_36 rfl hl266 fun Al266 cl266 hAl266 => ?_
     refine Tr.mv rfl rfl (Tr.va rfl (fun _ _ h1 h2 => zx (h1.ev rfl) (h1.ev rfl)) ?_)
     refine Tr.asg rfl rfl (Tr.asg rfl rfl (Tr.nil (Tr.zW ?_)))
     exact Tr.zZ leL5 (l266, (w64 (zKr + 1)), Al266, cl266) ⟨H, hAl266⟩ (.cons rfl (.cons rfl (.cons rfl (.cons rfl (.cons rfl (.cons rfl .nil)))))) (.cons rfl (.cons rfl (.cons rfl (.cons rfl (.cons rfl (.cons rfl .nil))))))
    ·refine Tr.exit (Tr.zX (Tr.zX (Tr.zAC (Tr.zA (Tr.zHL 13 [(11, (ow zCY zCS 36 zN zF0).S)] [] (by kernel_rfl) (by kernel_rfl) fun sz267 hlosz267 hEsz267 => ?_)))))
     refine Dr.Ji 0 (by kernel_rfl) rfl (wn rfl) rfl (by kernel_rfl) (fun _ _ h1 => run_move (h1.ev rfl)) rfl ?_
     refine Dr.Vn 1 [(68, (.slice JI KH.length Je))] [11] false (by kernel_rfl) rfl rfl (by kernel_rfl) (fun W W' h2 hsW hk => HF.zBN (le := [(3, bx Ko #[(.slice JI KH.length Je)] 38)]) (ks := [(14, (ow zCY zCS 36 zN zF0).S)]) (s0 := sz267) false h2 hk (fun h => absurd h (by decide)) (.cons rfl .nil) (fun b hb => hb.elim (fun ⟨p, hp, hf, hb⟩ => by simp only [List.mem_cons, List.not_mem_nil, or_false] at hp; rcases hp with rfl; exact .inl ⟨_, List.mem_cons_self, hb⟩) (fun hb => absurd hb.1 (by decide))) (List.forall_mem_cons.2 ⟨fun b hb => hb, (fun _ h => nomatch h)⟩) rfl) ?_ rfl rfl ?_
     ·refine Tq.va rfl (fun _ _ h1 h2 => zC zCT (h1.ev rfl) (rdb h2 (vs := [(.slice JI KH.length Je)]) (k := 3) rfl 0) rfl) ?_
      exact Tq.fin (.cons rfl .nil)
     refine Dr.Vn 2 [(69, (iv zA6))] [11] false (by kernel_rfl) rfl rfl (by kernel_rfl) (fun W W' h2 hsW hk => HF.zBN (le := [(29, bx bv227 #[(iv zA6)] 3)]) (ks := [(14, (ow zCY zCS 36 zN zF0).S)]) (s0 := sz267) false h2 hk (fun h => absurd h (by decide)) (.cons rfl .nil) (fun b hb => hb.elim (fun ⟨p, hp, hf, hb⟩ => by simp only [List.mem_cons, List.not_mem_nil, or_false] at hp; rcases hp with rfl; exact .inl ⟨_, List.mem_cons_self, hb⟩) (fun hb => absurd hb.1 (by decide))) (List.forall_mem_cons.2 ⟨fun b hb => hb, (fun _ h => nomatch h)⟩) rfl) ?_ rfl rfl ?_
     ·refine Tq.va rfl (fun _ _ h1 h2 => zC QO (h1.ev rfl) (rdb h2 (vs := [(iv zA6)]) (k := 29) rfl 0) rfl) ?_
      exact Tq.fin (.cons rfl .nil)
     obtain ⟨x268, hx268, H⟩ := bnd H
     obtain ⟨hx2680, hx2681, hx2682⟩ := zh hx268
     refine Dr.Ji 3 (by kernel_rfl) rfl (wn rfl) rfl (by kernel_rfl) (fun _ _ h1 => zH zAR (h1.ev rfl) zHx (h1.ev rfl) hx2680 hx2681) rfl ?_
     refine Dr.Vn 4 [(71, (iv x268))] [11] false (by kernel_rfl) rfl rfl (by kernel_rfl) (fun W W' h2 hsW hk => HF.zBN (le := [(12, ow JI Je 3 zn KH)]) (ks := [(14, (ow zCY zCS 36 zN zF0).S)]) (s0 := sz267) false h2 hk (fun h => absurd h (by decide)) (.cons rfl .nil) (fun b hb => hb.elim (fun ⟨p, hp, hf, hb⟩ => by simp only [List.mem_cons, List.not_mem_nil, or_false] at hp; rcases hp with rfl; exact .inl ⟨_, List.mem_cons_self, hb⟩) (fun hb => absurd hb.1 (by decide))) (List.forall_mem_cons.2 ⟨fun b hb => hb, (fun _ h => nomatch h)⟩) rfl) ?_ rfl rfl ?_
     ·refine Tq.va rfl (fun _ _ h1 h2 => zC QO (h1.ev rfl) (rdo VZ (k := 12) h2 rfl hx2682) rfl) ?_
      exact Tq.fin (.cons rfl .nil)
     refine Dr.Vn 5 [(72, (.slice JI KH.length Je))] [11] false (by kernel_rfl) rfl rfl (by kernel_rfl) (fun W W' h2 hsW hk => HF.zBN (le := [(3, bx Ko #[(.slice JI KH.length Je)] 38)]) (ks := [(14, (ow zCY zCS 36 zN zF0).S)]) (s0 := sz267) false h2 hk (fun h => absurd h (by decide)) (.cons rfl .nil) (fun b hb => hb.elim (fun ⟨p, hp, hf, hb⟩ => by simp only [List.mem_cons, List.not_mem_nil, or_false] at hp; rcases hp with rfl; exact .inl ⟨_, List.mem_cons_self, hb⟩) (fun hb => absurd hb.1 (by decide))) (List.forall_mem_cons.2 ⟨fun b hb => hb, (fun _ h => nomatch h)⟩) rfl) ?_ rfl rfl ?_
     ·refine Tq.va rfl (fun _ _ h1 h2 => zC zCT (h1.ev rfl) (rdb h2 (vs := [(.slice JI KH.length Je)]) (k := 3) rfl 0) rfl) ?_
      exact Tq.fin (.cons rfl .nil)
     refine Dr.Vn 6 [(73, (iv zA6))] [11] false (by kernel_rfl) rfl rfl (by kernel_rfl) (fun W W' h2 hsW hk => HF.zBN (le := [(29, bx bv227 #[(iv zA6)] 3)]) (ks := [(14, (ow zCY zCS 36 zN zF0).S)]) (s0 := sz267) false h2 hk (fun h => absurd h (by decide)) (.cons rfl .nil) (fun b hb => hb.elim (fun ⟨p, hp, hf, hb⟩ => by simp only [List.mem_cons, List.not_mem_nil, or_false] at hp; rcases hp with rfl; exact .inl ⟨_, List.mem_cons_self, hb⟩) (fun hb => absurd hb.1 (by decide))) (List.forall_mem_cons.2 ⟨fun b hb => hb, (fun _ h => nomatch h)⟩) rfl) ?_ rfl rfl ?_
     ·refine Tq.va rfl (fun _ _ h1 h2 => zC QO (h1.ev rfl) (rdb h2 (vs := [(iv zA6)]) (k := 29) rfl 0) rfl) ?_
      exact Tq.fin (.cons rfl .nil)
     refine Dr.Ji 7 (by kernel_rfl) rfl (wn rfl) rfl (by kernel_rfl) (fun _ _ h1 => zx (h1.ev rfl) (h1.ev rfl)) rfl ?_
     obtain ⟨x269, hx269, H⟩ := bnd H
     obtain ⟨hx2690, hx2691, hx2692⟩ := zh hx269
     refine Dr.Ji 8 (by kernel_rfl) rfl (wn rfl) rfl (by kernel_rfl) (fun _ _ h1 => zH zAR (h1.ev rfl) zHx (h1.ev rfl) hx2690 hx2691) rfl ?_
     refine Dr.Vn 9 [(76, (iv x269))] [11] false (by kernel_rfl) rfl rfl (by kernel_rfl) (fun W W' h2 hsW hk => HF.zBN (le := [(12, ow JI Je 3 zn KH)]) (ks := [(14, (ow zCY zCS 36 zN zF0).S)]) (s0 := sz267) false h2 hk (fun h => absurd h (by decide)) (.cons rfl .nil) (fun b hb => hb.elim (fun ⟨p, hp, hf, hb⟩ => by simp only [List.mem_cons, List.not_mem_nil, or_false] at hp; rcases hp with rfl; exact .inl ⟨_, List.mem_cons_self, hb⟩) (fun hb => absurd hb.1 (by decide))) (List.forall_mem_cons.2 ⟨fun b hb => hb, (fun _ h => nomatch h)⟩) rfl) ?_ rfl rfl ?_
     ·refine Tq.va rfl (fun _ _ h1 h2 => zC QO (h1.ev rfl) (rdo VZ (k := 12) h2 rfl hx2692) rfl) ?_
      exact Tq.fin (.cons rfl .nil)
     refine Dr.quiet 10 [(77, (.slice zCY zF0.length zCS))] (by kernel_rfl) rfl rfl (by kernel_rfl) ?_ rfl rfl ?_
     ·exact Tq.mv rfl rfl (Tq.fin (.cons rfl .nil))
     obtain ⟨zD5, hy270, H⟩ := bnd H
     refine Dr.one 11 (by kernel_rfl) ?_
     refine St.VP 11 [14, 33] [ow zCY zCS 36 zN zF0, emp] (U := (Option Addr × Nat)) (fun u => (.slice u.1 zD5.1.length u.2)) (fun u => SlF u.1 zD5.1.length u.2 ∧ zD5.2.length = zF0.length) (fun u => [ow zCY zCS 36 zN zD5.2, ow u.1 u.2 3 zn zD5.1]) rfl (zM rfl (zM rfl zY)) (fun _ => rfl) (fun b ⟨e, he, hS⟩ => by simp only [List.mem_cons, List.not_mem_nil, or_false] at he; rcases he with rfl | rfl; exact .inl ⟨_, List.mem_cons_self, rfl, hS⟩; exact hS.elim) rfl (wn rfl) rfl Tryz.call88 (zF rfl zO) (fun W hW hp hE => zH9 zF0 zCY zCS zD5 hy270 hE) ?_
     intro u hu hsy270
     obtain ⟨zEg, zEX⟩ := u
     obtain ⟨gy270_0, gky270_0⟩ := hu
     have hgy270_0 : SlF zEg zD5.1.length zEX := gy270_0
     have hgky270_0 : zD5.2.length = zF0.length := gky270_0
     have hfky270_0 : SlF zCY zD5.2.length zCS := by rw [hgky270_0]; exact hl257
     show Dr _ _ _ _ _ _ _ _ _ (uf _ 78 (.slice zEg zD5.1.length zEX)) (up (up _ 33 (ow zEg zEX 3 zn zD5.1)) 14 (ow zCY zCS 36 zN zD5.2))
     refine Dr.use (lf := [(0, (.slice QY y102.length QX)), (3, (.pointer (some ⟨Ko, 0, none⟩))), (6, (.slice zAd VW.length zAT)), (7, (.slice zCY zD5.2.length zCS)), (8, (iv zKr)), (9, (.pointer (some ⟨bv227, 0, none⟩))), (57, (.bool g261)), (67, (.slice zAd VW.length zAT)), (68, (.slice JI KH.length Je)), (69, (iv zA6)), (70, (.pointer (some ⟨adB JI, adO JI + (zA6).toNat * 1, none⟩))), (71, (iv x268)), (72, (.slice JI KH.length Je)), (73, (iv zA6)), (74, (iv (w64 (zA6 + 1)))), (75, (.pointer (some ⟨adB JI, adO JI + ((w64 (zA6 + 1))).toNat * 1, none⟩))), (76, (iv x269)), (77, (.slice zCY zD5.2.length zCS)), (78, (.slice zEg zD5.1.length zEX))]) (le := [(2, ow QY QX 36 zN y102), (3, bx Ko #[(.slice JI KH.length Je)] 38), (12, ow JI Je 3 zn KH), (13, ow zAd zAT 107 zJ VW), (14, ow zCY zCS 36 zN zD5.2), (29, bx bv227 #[(iv zA6)] 3), (33, ow zEg zEX 3 zn zD5.1)]) ?_ rfl (.cons rfl (.cons rfl (.cons rfl (.cons (VH rfl (by rw [hgky270_0])) (.cons rfl (.cons rfl (.cons rfl (.cons rfl (.cons rfl (.cons rfl (.cons rfl (.cons rfl (.cons rfl (.cons rfl (.cons rfl (.cons rfl (.cons rfl (.cons (VH rfl (by rw [hgky270_0])) (.cons rfl .nil))))))))))))))))))) (.cons rfl (.cons rfl (.cons rfl (.cons rfl (.cons rfl (.cons rfl (.cons rfl .nil)))))))
     refine Dr.quiet 12 [(79, (.agg #[(iv x268), (iv x269), (.slice zEg zD5.1.length zEX)]))] (by kernel_rfl) rfl rfl (by kernel_rfl) ?_ rfl rfl ?_
     ·refine Tq.build (vs := [(0, (iv x268)), (1, (iv x269)), (2, (.slice zEg zD5.1.length zEX))]) (cs := [(iv x268), (iv x269), (.slice zEg zD5.1.length zEX)]) (wn rfl) rfl (zi rfl (zi rfl (zi rfl Qb))) (by kernel_rfl) ?_
      exact Tq.fin (.cons rfl .nil)
     refine Dr.tail (by kernel_rfl) ?_
     refine Tr.freeze 33 rfl fun w le273 hz272 => ?_
     replace zB1 := zB1.trans le273
     obtain ⟨y274, hy274, H⟩ := bnd H
     refine Tr.VQ [13] [ow zAd zAT 107 zJ VW] (U := (Option Addr × Nat)) (fun u => (.slice u.1 y274.length u.2)) (fun O W u => SlF u.1 y274.length u.2) (fun u => [ow u.1 u.2 107 zJ y274]) rfl (zM rfl zY) (fun _ => rfl) (wn rfl) rfl Tryz.call87 (zF rfl (zF rfl zO)) (fun W hW hp hE => zBw VW zAd zAT (zV.mk x268 x269 zD5.1) zEg zEX (hz272.zAl (hW.QS hp)) y274 hy274 hE) ?_
     intro w u le275 hu
     obtain ⟨Ay274_0, cy274_0⟩ := u
     have gy274_0 := hu
     replace hz272 := hz272.le le275
     replace zB1 := zB1.trans le275
     have hgy274_0 : SlF Ay274_0 y274.length cy274_0 := gy274_0 --@phi
     show Tr _ _ (uf _ 80 (.slice Ay274_0 y274.length cy274_0)) (up _ 13 (ow Ay274_0 cy274_0 107 zJ y274)) _
     refine Tr.asg rfl rfl (Tr.nil (Tr.zW (Tr.zA ?_)))
     refine Tr.seq (Tr.sr (Tr.va rfl (fun _ _ h1 h2 => zC QO (h1.ev rfl) (rdb h2 (vs := [(iv zA6)]) (k := 29) rfl 0) rfl) ?_))
     refine Tr.nil (Tr.zA (Tr.region (Tr.alloc 34 (wn rfl) rfl ze_3 fun b276 => ?_)))
     refine Tr.store 34 (cs := [(iv zA6)]) [(iv zA6)] (wn rfl) rfl rfl rfl rfl zIz rfl rfl rfl ?_
     refine Tr.nil (Tr.zA (Tr.region (Tr.va rfl (fun _ _ h1 h2 => zC QO (h1.ev rfl) (rdb h2 (vs := [(iv zA6)]) (k := 34) rfl 0) rfl) ?_)))
     refine Tr.va rfl (fun _ _ h1 h2 => zx (h1.ev rfl) (h1.ev rfl)) ?_
     refine Tr.store 34 (cs := [(iv (w64 (zA6 + 1)))]) [(iv (w64 (zA6 + 1)))] (wn rfl) rfl rfl rfl rfl zIz rfl rfl rfl ?_
     refine Tr.nil (Tr.dropK 29 ?_)
     refine Tr.ren 34 29 rfl rfl rfl ?_
     exact Tr.zZ zB1 ((w64 (zA6 + 1)), y274, zD5.2, zKr, b276, Ay274_0, cy274_0, zCY, zCS) ⟨H, hgy274_0, hfky270_0⟩ (.cons rfl (.cons rfl (.cons rfl (.cons rfl (.cons rfl (.cons rfl .nil)))))) (.cons rfl (.cons rfl (.cons rfl (.cons rfl (.cons rfl (.cons rfl .nil))))))
  ·refine Tr.exit (Tr.zX (Tr.zX (Tr.zAC (Tr.zA (Tr.sr (Tr.mv rfl rfl (Tr.asg rfl rfl (Tr.nil (Tr.zA (Tr.ret ?_))))))))))
   obtain rfl := Option.some.inj H
   exact Tr.out (m := [(.slice zAd VW.length zAT)]) [] (zP rfl zQ) (fun W hW => ⟨w, (zAd, zAT), leB, rfl, zDs, hW.pick (ks := [13]) (by decide) (zM rfl zY)⟩)
 | cons xL1 QF =>
  rw [KZ.eq_2] at H
  refine Tr.sr (Tr.va rfl (fun _ _ h1 h2 => zz (h1.ev rfl) (h1.ev rfl)) ?_)
  refine Tr.nil (Tr.zA (Tr.seq (Tr.WI rfl (Jg QP) ?_)))
  refine Tr.skip (Tr.zA (Tr.seq (Tr.block (Tr.sr (Tr.va rfl (fun _ _ h1 h2 => zH zCR (h1.ev rfl) zIe (h1.ev rfl) (Int.natCast_nonneg _) (zo QP)) ?_)))))
  refine Tr.va rfl (fun _ _ h1 h2 => zR (cs := [(iv xL1.X0), (iv xL1.Y0), (iv xL1.X1), (iv xL1.Y1)]) zCD Kv (h1.ev rfl) (zL.take (rdo VM (k := 2) h2 rfl (Js QP)) 4) rfl) ?_
  refine Tr.alloc 35 (wn rfl) rfl zF7 fun b277 => ?_
  refine Tr.store 35 (cs := [(iv xL1.X0), (iv xL1.Y0), (iv xL1.X1), (iv xL1.Y1)]) [(iv xL1.X0), (iv xL1.Y0), (iv xL1.X1), (iv xL1.Y1)] (wn rfl) rfl rfl rfl rfl Kv rfl rfl rfl ?_
  refine Tr.nil (Tr.zA (Tr.region (Tr.va rfl (fun _ _ h1 h2 => zC zCT (h1.ev rfl) (rdb h2 (vs := [(.slice zEO zJW.length zEN)]) (k := 3) rfl 0) rfl) ?_)))
  refine Tr.va rfl (fun _ _ h1 h2 => zB zCa (h1.ev rfl)) ?_
  refine Tr.va rfl (fun _ _ h1 h2 => zC QO (h1.ev rfl) (rdb h2 (vs := [(iv xL1.X0), (iv xL1.Y0), (iv xL1.X1), (iv xL1.Y1)]) (k := 35) rfl 1) rfl) ?_
  refine Tr.va rfl (fun _ _ h1 h2 => zB zDX (h1.ev rfl)) ?_
  refine Tr.va rfl (fun _ _ h1 h2 => zC QO (h1.ev rfl) (rdb h2 (vs := [(iv xL1.X0), (iv xL1.Y0), (iv xL1.X1), (iv xL1.Y1)]) (k := 35) rfl 3) rfl) ?_
  refine Tr.buildSlice 36 (e := 3) (vs := [(0, (iv xL1.Y0)), (1, (iv xL1.Y1))]) (cs := [(iv xL1.Y0), (iv xL1.Y1)]) (wn rfl) rfl (zi rfl (zi rfl Qb)) (by kernel_rfl) fun b278 => ?_
  obtain ⟨l279, hl279, H⟩ := bnd H
  refine Tr.append 12 (t := zn) (l := zJW) (l2 := [xL1.Y0, xL1.Y1]) (wn rfl) rfl rfl rfl rfl (fun W hW => ⟨[[(iv xL1.Y0)], [(iv xL1.Y1)]], (.cons ⟨(), trivial, rfl⟩ (.cons ⟨(), trivial, rfl⟩ .nil)), rdb hW (vs := [(iv xL1.Y0), (iv xL1.Y1)]) (k := 36) rfl 0⟩) zCA zIz zl_3 (by decide) by_3 rfl hl279 fun Al279 cl279 hAl279 => ?_
  refine Tr.store 3 (cs := [(.slice Al279 l279.length cl279)]) [(.slice Al279 l279.length cl279)] (wn rfl) rfl rfl rfl rfl sz_38 rfl rfl rfl ?_
  refine Tr.nil (Tr.zW (Tr.zA ?_))
  refine Tr.region (Tr.va rfl (fun _ _ h1 h2 => zx (h1.ev rfl) (h1.ev rfl)) ?_)
  exact Tr.mv rfl rfl (Tr.nil (Tr.zZ QW (QF, (iL1 + 1), l279, Al279, cl279) ⟨rfl, Qg QP, zo QP, H, hAl279⟩ (.cons rfl (.cons rfl (.cons rfl (.cons rfl (.cons (congrArg (fun z => some (Value.int .i64 z)) (Qf QP zIe)) .nil))))) (.cons rfl (.cons rfl (.cons rfl .nil)))))

theorem zID (N : Nat) {w : Bs} (p0 : zt) (QA : Option Addr) (QB : Nat) (QE : Sl w.O w.W zK QA QB p0.Tools) (QD : Option Addr) (QC : Nat) (QU : Sl w.O w.W zG QD QC p0.Steps) (r : zAA) (H : zAZ N p0 = some r) (hE : HF w w.W (LEn [emp, emp, emp])) : Calls Tryz.prog 55 [(.agg #[(iv p0.Unit), (.slice QA p0.Tools.length QB), (.slice QD p0.Steps.length QC)])].toArray w.W fun e W' => ∃ (w' : Bs) (u : (Option Addr × Nat) × (Option Addr × Nat) × (Option Addr × Nat) × (Option Addr × Nat) × (Option Addr × Nat)), w.Le w' ∧ e = .returned (.pointer (some ⟨u.2.2.2.2.2, 0, none⟩)) ∧ (Sl w'.O w'.W zK u.1.1 u.1.2 r.p.Tools ∧ Sl w'.O w'.W zG u.2.1.1 u.2.1.2 r.p.Steps ∧ SlF u.2.2.1.1 r.tools.length u.2.2.1.2 ∧ SlF u.2.2.2.1.1 r.image.length u.2.2.2.1.2 ∧ True) ∧ HF w' W' (LEn [ow u.2.2.1.1 u.2.2.1.2 66 Qe r.tools, ow u.2.2.2.1.1 u.2.2.2.1.2 107 zJ r.image, bx u.2.2.2.2.2 #[(iv r.p.Unit), (.slice u.1.1 r.p.Tools.length u.1.2), (.slice u.2.1.1 r.p.Steps.length u.2.1.2), (.slice u.2.2.1.1 r.tools.length u.2.2.1.2), (.slice u.2.2.2.1.1 r.image.length u.2.2.2.1.2), (.bool r.clear), (iv r.tool), (iv r.place.X), (iv r.place.Y), (.bool r.placed), (iv r.off), (iv r.on)] 77]) := by
 unfold zAZ at H
 have leB := Bs.Le.refl w
 refine Tr.enter (n := 64) Tryz.func55 rfl rfl rfl hE ?_
 refine Tr.sr (Tr.box 1 (cs := [(iv p0.Unit), (.slice QA p0.Tools.length QB), (.slice QD p0.Steps.length QC)]) (wn rfl) rfl rfl rfl fun QM => ?_)
 refine Tr.asg rfl rfl (Tr.nil (Tr.zA (Tr.sr (Tr.va rfl (fun _ _ h1 h2 => zR (cs := [(iv p0.Unit), (.slice QA p0.Tools.length QB), (.slice QD p0.Steps.length QC)]) WK KR (h1.ev rfl) (zL.take (rdb h2 (vs := [(iv p0.Unit), (.slice QA p0.Tools.length QB), (.slice QD p0.Steps.length QC)]) (k := 1) rfl 0) 3) rfl) ?_))))
 refine Tr.build (vs := [(0, (.agg #[(iv p0.Unit), (.slice QA p0.Tools.length QB), (.slice QD p0.Steps.length QC)])), (4, (iv (-1)))]) (cs := [(iv p0.Unit), (.slice QA p0.Tools.length QB), (.slice QD p0.Steps.length QC), (.slice none 0 0), (.slice none 0 0), (.bool false), (iv (-1)), (iv 0), (iv 0), (.bool false), (iv 0), (iv 0)]) (wn rfl) rfl (zi rfl (zi rfl Qb)) (by kernel_rfl) ?_
 refine Tr.box 2 (cs := [(iv p0.Unit), (.slice QA p0.Tools.length QB), (.slice QD p0.Steps.length QC), (.slice none 0 0), (.slice none 0 0), (.bool false), (iv (-1)), (iv 0), (iv 0), (.bool false), (iv 0), (iv 0)]) (wn rfl) rfl rfl rfl fun Qt => ?_
 refine Tr.asg rfl rfl (Tr.nil (Tr.zA (Tr.seq (Tr.sr (Tr.va rfl (fun _ _ h1 h2 => zB zBZ (h1.ev rfl)) ?_)))))
 refine Tr.va rfl (fun _ _ h1 h2 => zC zFn (h1.ev rfl) (rdb h2 (vs := [(iv p0.Unit), (.slice QA p0.Tools.length QB), (.slice QD p0.Steps.length QC)]) (k := 1) rfl 1) rfl) ?_
 refine Tr.va rfl (fun _ _ h1 h2 => zq zHi (h1.ev rfl)) ?_
 refine Tr.mv rfl rfl (Tr.nil (Tr.zA (Tr.block (Tr.JS 27 66 Qe ?_))))
 refine Tr.loop (σ := (List zS) × Nat × (List (List zV)) × (Option Addr) × Nat) (fun m w s => m = s.1.length + 1 ∧ s.1 = List.drop s.2.1 p0.Tools ∧ s.2.1 ≤ p0.Tools.length ∧ zAQ N p0 s.1 s.2.1 s.2.2.1 = some r ∧ SlF s.2.2.2.1 s.2.2.1.length s.2.2.2.2) (fun s => [(1, (.pointer (some ⟨QM, 0, none⟩))), (3, (.pointer (some ⟨Qt, 0, none⟩))), (13, (.slice QA p0.Tools.length QB)), (14, (iv (p0.Tools.length : Int))), (15, (iv (s.2.1 : Int)))]) (fun s => [(1, bx QM #[(iv p0.Unit), (.slice QA p0.Tools.length QB), (.slice QD p0.Steps.length QC)] 25), (2, bx Qt #[(iv p0.Unit), (.slice QA p0.Tools.length QB), (.slice QD p0.Steps.length QC), (.slice s.2.2.2.1 s.2.2.1.length s.2.2.2.2), (.slice none 0 0), (.bool false), (iv (-1)), (iv 0), (iv 0), (.bool false), (iv 0), (iv 0)] 77), (27, ow s.2.2.2.1 s.2.2.2.2 66 Qe s.2.2.1)]) (p0.Tools.length + 1) (p0.Tools, 0, ([] : List (List zV)), none, 0) ⟨rfl, rfl, Nat.zero_le _, H, VD⟩ (.cons rfl (.cons rfl (.cons rfl (.cons rfl (.cons rfl .nil))))) (.cons rfl (.cons rfl (.cons rfl .nil))) (fun _ _ h => absurd h.1 (by simp)) ?_
 intro w VK m s hs
 obtain ⟨Qh, iL3, zF2, zIF, zH4⟩ := s
 obtain ⟨zGr, WR, hiL3, H, hl164⟩ := hs
 replace WR : Qh = List.drop iL3 p0.Tools := WR
 replace H : zAQ N p0 Qh iL3 zF2 = some r := H
 replace zGr : m + 1 = Qh.length + 1 := zGr
 replace QE := QE.le VK
 replace QU := QU.le VK
 replace leB := leB.trans VK
 replace hl164 : SlF zIF zF2.length zH4 := hl164
 obtain rfl : m = Qh.length := by omega
 clear zGr
 show Tr _ _ (LF [(1, (.pointer (some ⟨QM, 0, none⟩))), (3, (.pointer (some ⟨Qt, 0, none⟩))), (13, (.slice QA p0.Tools.length QB)), (14, (iv (p0.Tools.length : Int))), (15, (iv (iL3 : Int)))]) (LE [(1, bx QM #[(iv p0.Unit), (.slice QA p0.Tools.length QB), (.slice QD p0.Steps.length QC)] 25), (2, bx Qt #[(iv p0.Unit), (.slice QA p0.Tools.length QB), (.slice QD p0.Steps.length QC), (.slice zIF zF2.length zH4), (.slice none 0 0), (.bool false), (iv (-1)), (iv 0), (iv 0), (.bool false), (iv 0), (iv 0)] 77), (27, ow zIF zH4 66 Qe zF2)]) _
 cases Qh with
 | nil =>
  rw [zAQ.eq_1] at H
  refine Tr.sr (Tr.va rfl (fun _ _ h1 h2 => zz (h1.ev rfl) (h1.ev rfl)) ?_)
  refine Tr.nil (Tr.zA (Tr.seq (Tr.WJ rfl (Qy WR) ?_)))
  refine Tr.exit (Tr.zX (Tr.zX (Tr.zAC (Tr.zA (Tr.sr (Tr.mv rfl rfl (Tr.asg rfl rfl (Tr.nil (Tr.zA (Tr.ret ?_))))))))))
  obtain rfl := Option.some.inj H
  refine Tr.JS 28 107 zJ ?_
  exact Tr.out (m := [(.pointer (some ⟨Qt, 0, none⟩))]) [] (zP rfl zQ) (fun W hW => ⟨w, ((QA, QB), (QD, QC), (zIF, zH4), (none, 0), (none, Qt)), leB, rfl, ⟨QE, QU, hl164, VD, trivial⟩, hW.pick (ks := [27, 28, 2]) (by decide) (zM rfl (zM rfl (zM rfl zY)))⟩)
 | cons xL3 Qh =>
  rw [zAQ.eq_2] at H
  refine Tr.sr (Tr.va rfl (fun _ _ h1 h2 => zz (h1.ev rfl) (h1.ev rfl)) ?_)
  refine Tr.nil (Tr.zA (Tr.seq (Tr.WI rfl (Jg WR) ?_)))
  refine Tr.skip (Tr.zA (Tr.seq (Tr.block (Tr.sr ?_))))
  obtain ⟨u165, hRu165, zKD, hcu165⟩ := (QE).el (Js WR)
  obtain ⟨zDj, zDc⟩ := u165
  have zB3 := zKD
  replace zB3 : Sl w.O w.W zN zDj zDc xL3.Rects := zB3
  replace hRu165 : w.R (adB QA) := Or.inl hRu165
  refine Tr.va rfl (fun _ _ h1 h2 => zH zGQ (h1.ev rfl) QE.form (h1.ev rfl) (Int.natCast_nonneg _) (zo WR)) ?_
  refine Tr.va rfl (fun _ _ h1 h2 => zR (cs := [(sv xL3.Name), (.slice zDj xL3.Rects.length zDc)]) ag_64 zJq (h1.ev rfl) (zL.take (rdR hRu165 hcu165 h2) 2) rfl) ?_
  refine Tr.alloc 29 (wn rfl) rfl ze_64 fun b166 => ?_
  refine Tr.store 29 (cs := [(sv xL3.Name), (.slice zDj xL3.Rects.length zDc)]) [(sv xL3.Name), (.slice zDj xL3.Rects.length zDc)] (wn rfl) rfl rfl rfl rfl zJq rfl rfl rfl ?_
  refine Tr.nil (Tr.zA (Tr.sr (Tr.asg rfl rfl (Tr.JS 30 36 zN ?_))))
  show Tr _ _ (uf _ 6 (.slice none (([] : List zT)).length 0)) _ _
  refine Tr.nil (Tr.zA (Tr.seq (Tr.sr (Tr.va rfl (fun _ _ h1 h2 => zB zC0 (h1.ev rfl)) ?_))))
  refine Tr.va rfl (fun _ _ h1 h2 => zC zJG (h1.ev rfl) (rdb h2 (vs := [(sv xL3.Name), (.slice zDj xL3.Rects.length zDc)]) (k := 29) rfl 1) rfl) ?_
  refine Tr.va rfl (fun _ _ h1 h2 => zq zA0 (h1.ev rfl)) ?_
  refine Tr.mv rfl rfl (Tr.nil (Tr.zA (Tr.block (Tr.loop (σ := (List zT) × Nat × (List zT) × (Option Addr) × Nat) (fun m w s => m = s.1.length + 1 ∧ s.1 = List.drop s.2.1 xL3.Rects ∧ s.2.1 ≤ xL3.Rects.length ∧ Ja N p0 zF2 (zAQ N p0 Qh (iL3 + 1)) s.1 s.2.1 s.2.2.1 = some r ∧ SlF s.2.2.2.1 s.2.2.1.length s.2.2.2.2) (fun s => [(1, (.pointer (some ⟨QM, 0, none⟩))), (3, (.pointer (some ⟨Qt, 0, none⟩))), (6, (.slice s.2.2.2.1 s.2.2.1.length s.2.2.2.2)), (13, (.slice QA p0.Tools.length QB)), (14, (iv (p0.Tools.length : Int))), (15, (iv (iL3 : Int))), (20, (.slice zDj xL3.Rects.length zDc)), (21, (iv (xL3.Rects.length : Int))), (22, (iv (s.2.1 : Int)))]) (fun s => [(1, bx QM #[(iv p0.Unit), (.slice QA p0.Tools.length QB), (.slice QD p0.Steps.length QC)] 25), (2, bx Qt #[(iv p0.Unit), (.slice QA p0.Tools.length QB), (.slice QD p0.Steps.length QC), (.slice zIF zF2.length zH4), (.slice none 0 0), (.bool false), (iv (-1)), (iv 0), (iv 0), (.bool false), (iv 0), (iv 0)] 77), (27, ow zIF zH4 66 Qe zF2), (30, ow s.2.2.2.1 s.2.2.2.2 36 zN s.2.2.1)]) (xL3.Rects.length + 1) (xL3.Rects, 0, ([] : List zT), none, 0) ⟨rfl, rfl, Nat.zero_le _, H, VD⟩ (.cons rfl (.cons rfl (.cons rfl (.cons rfl (.cons rfl (.cons rfl (.cons rfl (.cons rfl (.cons rfl .nil))))))))) (.cons rfl (.cons rfl (.cons rfl (.cons rfl .nil)))) (fun _ _ h => absurd h.1 (by simp)) ?_))))
  intro w zB1 m s hs
  obtain ⟨Ky, iL4, l181, Al181, cl181⟩ := s
  obtain ⟨hmL4, zDT, hiL4, H, hl181⟩ := hs
  replace zDT : Ky = List.drop iL4 xL3.Rects := zDT
  replace H : Ja N p0 zF2 (zAQ N p0 Qh (iL3 + 1)) Ky iL4 l181 = some r := H
  replace hmL4 : m + 1 = Ky.length + 1 := hmL4
  replace QE := QE.le zB1
  replace zB3 := zB3.le zB1
  replace VK := VK.trans zB1
  obtain rfl : m = Ky.length := by omega
  clear hmL4
  show Tr _ _ (LF [(1, (.pointer (some ⟨QM, 0, none⟩))), (3, (.pointer (some ⟨Qt, 0, none⟩))), (6, (.slice Al181 l181.length cl181)), (13, (.slice QA p0.Tools.length QB)), (14, (iv (p0.Tools.length : Int))), (15, (iv (iL3 : Int))), (20, (.slice zDj xL3.Rects.length zDc)), (21, (iv (xL3.Rects.length : Int))), (22, (iv (iL4 : Int)))]) (LE [(1, bx QM #[(iv p0.Unit), (.slice QA p0.Tools.length QB), (.slice QD p0.Steps.length QC)] 25), (2, bx Qt #[(iv p0.Unit), (.slice QA p0.Tools.length QB), (.slice QD p0.Steps.length QC), (.slice zIF zF2.length zH4), (.slice none 0 0), (.bool false), (iv (-1)), (iv 0), (iv 0), (.bool false), (iv 0), (iv 0)] 77), (27, ow zIF zH4 66 Qe zF2), (30, ow Al181 cl181 36 zN l181)]) _
  cases Ky with
  | nil =>
   rw [Ja.eq_1] at H
   refine Tr.sr (Tr.va rfl (fun _ _ h1 h2 => zz (h1.ev rfl) (h1.ev rfl)) ?_)
   refine Tr.nil (Tr.zA (Tr.seq (Tr.WJ rfl (Qy zDT) ?_)))
   refine Tr.exit (Tr.zX (Tr.zX (Tr.zAC (Tr.zA (Tr.zHL 9 [(8, (ow zIF zH4 66 Qe zF2).S)] [] (by kernel_rfl) (by kernel_rfl) fun sz182 hlosz182 hEsz182 => ?_)))))
   refine Dr.Ji 0 (by kernel_rfl) rfl (wn rfl) rfl (by kernel_rfl) (fun _ _ h1 => run_move (h1.ev rfl)) rfl ?_
   refine Dr.Ji 1 (by kernel_rfl) rfl (wn rfl) rfl (by kernel_rfl) (fun _ _ h1 => run_move (h1.ev rfl)) rfl ?_
   refine Dr.Ji 2 (by kernel_rfl) rfl (wn rfl) rfl (by kernel_rfl) (fun _ _ h1 => zb (h1.ev rfl)) rfl ?_
   refine Dr.Ji 3 (by kernel_rfl) rfl (wn rfl) rfl (by kernel_rfl) (fun _ _ h1 => zB fo_77_1 (h1.ev rfl)) rfl ?_
   refine Dr.quiet 4 [(55, (.slice zIF zF2.length zH4))] (by kernel_rfl) rfl rfl (by kernel_rfl) ?_ rfl rfl ?_
   ·refine Tq.va rfl (fun _ _ h1 h2 => zC ag_75 (h1.ev rfl) (rdb h2 (vs := [(iv p0.Unit), (.slice QA p0.Tools.length QB), (.slice QD p0.Steps.length QC), (.slice zIF zF2.length zH4), (.slice none 0 0), (.bool false), (iv (-1)), (iv 0), (iv 0), (.bool false), (iv 0), (iv 0)]) (k := 2) rfl 3) rfl) ?_
    exact Tq.fin (.cons rfl .nil)
   refine Dr.Ji 5 (by kernel_rfl) rfl (wn rfl) rfl (by kernel_rfl) (fun _ _ h1 => run_move (h1.ev rfl)) rfl ?_
   obtain ⟨zEr, hy183, H⟩ := bnd H
   refine Dr.one 6 (by kernel_rfl) ?_
   refine St.VQ 6 [35] [emp] (U := (Option Addr × Nat)) (fun u => (.slice u.1 zEr.length u.2)) (fun O W u => SlF u.1 zEr.length u.2) (fun u => [ow u.1 u.2 107 zJ zEr]) rfl (zM rfl zY) (fun _ => rfl) (insS_no rfl) rfl (wn rfl) rfl Tryz.call59 (zF rfl zO) (fun W hW hp hE => zGW N l181 Al181 cl181 (hW.slS (k := 30) rfl hp rfl) zEr hy183 hE) ?_
   intro w u le184 hu hsy183
   obtain ⟨zDg, zDZ⟩ := u
   have gy183_0 := hu
   replace QE := QE.le le184
   replace VK := VK.trans le184
   have hgy183_0 : SlF zDg zEr.length zDZ := gy183_0
   show Dr _ _ _ _ _ _ _ _ _ (uf _ 57 (.slice zDg zEr.length zDZ)) (up _ 35 (ow zDg zDZ 107 zJ zEr))
   refine Dr.one 7 (by kernel_rfl) ?_
   refine St.freeze 35 rfl fun w le186 hz185 => ?_
   replace QE := QE.le le186
   replace VK := VK.trans le186
   refine St.buildSlice 7 36 (e := 66) (vs := [(0, (.slice zDg zEr.length zDZ))]) (cs := [(.slice zDg zEr.length zDZ)]) rfl (wn rfl) rfl (zi rfl Qb) (by kernel_rfl) fun b187 hb187 => ?_
   obtain ⟨zF1, hl188, H⟩ := bnd H
   refine Dr.one 8 (by kernel_rfl) ?_
   refine St.append 8 27 (t' := Qe) (ll := zF2) (l2 := [zEr]) (fun b hb => .inl ⟨_, List.mem_cons_self, rfl, hb⟩) rfl (wn rfl) rfl rfl rfl rfl (fun W hW => ⟨[[(.slice zDg zEr.length zDZ)]], (.cons ⟨(zDg, zDZ), hz185, rfl⟩ .nil), rdb hW (vs := [(.slice zDg zEr.length zDZ)]) (k := 36) rfl 0⟩) un_75 sz_66 zl_66 (by decide) by_66 rfl hl188 fun WY WU hAl188 => ?_
   refine Dr.tail (by kernel_rfl) ?_
   refine Tr.va rfl (fun _ _ h1 h2 => zb (h1.ev rfl)) ?_
   refine Tr.va rfl (fun _ _ h1 h2 => zB fo_77_1 (h1.ev rfl)) ?_
   refine Tr.store 2 (cs := [(.slice WY zF1.length WU)]) [(iv p0.Unit), (.slice QA p0.Tools.length QB), (.slice QD p0.Steps.length QC), (.slice WY zF1.length WU), (.slice none 0 0), (.bool false), (iv (-1)), (iv 0), (iv 0), (.bool false), (iv 0), (iv 0)] (wn rfl) rfl rfl rfl rfl sz_75 rfl rfl rfl ?_
   refine Tr.nil (Tr.zW (Tr.zA ?_))
   refine Tr.region (Tr.va rfl (fun _ _ h1 h2 => zx (h1.ev rfl) (h1.ev rfl)) ?_)
   exact Tr.mv rfl rfl (Tr.nil (Tr.zZ VK (Qh, (iL3 + 1), zF1, WY, WU) ⟨rfl, Qg WR, zo WR, H, hAl188⟩ (.cons rfl (.cons rfl (.cons rfl (.cons rfl (.cons (congrArg (fun z => some (Value.int .i64 z)) (Qf WR QE.form)) .nil))))) (.cons rfl (.cons rfl (.cons rfl .nil)))))
  | cons xL4 Ky =>
   rw [Ja.eq_2] at H
   refine Tr.sr (Tr.va rfl (fun _ _ h1 h2 => zz (h1.ev rfl) (h1.ev rfl)) ?_)
   refine Tr.nil (Tr.zA (Tr.seq (Tr.WI rfl (Jg zDT) ?_)))
   refine Tr.skip (Tr.zA (Tr.seq (Tr.block (Tr.sr (Tr.va rfl (fun _ _ h1 h2 => zH zCR (h1.ev rfl) zB3.form (h1.ev rfl) (Int.natCast_nonneg _) (zo zDT)) ?_)))))
   refine Tr.va rfl (fun _ _ h1 h2 => zR (cs := [(iv xL4.X0), (iv xL4.Y0), (iv xL4.X1), (iv xL4.Y1)]) zCD Kv (h1.ev rfl) (zL.take (rdF VM (zB3.rl) (Js zDT) h2) 4) rfl) ?_
   refine Tr.alloc 37 (wn rfl) rfl zF7 fun b189 => ?_
   refine Tr.store 37 (cs := [(iv xL4.X0), (iv xL4.Y0), (iv xL4.X1), (iv xL4.Y1)]) [(iv xL4.X0), (iv xL4.Y0), (iv xL4.X1), (iv xL4.Y1)] (wn rfl) rfl rfl rfl rfl Kv rfl rfl rfl ?_
   refine Tr.nil (Tr.zA (Tr.region (Tr.mv rfl rfl (Tr.va rfl (fun _ _ h1 h2 => zB Wz (h1.ev rfl)) ?_))))
   refine Tr.va rfl (fun _ _ h1 h2 => zC QO (h1.ev rfl) (rdb h2 (vs := [(iv xL4.X0), (iv xL4.Y0), (iv xL4.X1), (iv xL4.Y1)]) (k := 37) rfl 0) rfl) ?_
   refine Tr.va rfl (fun _ _ h1 h2 => zB Vg (h1.ev rfl)) ?_
   refine Tr.va rfl (fun _ _ h1 h2 => zC QO (h1.ev rfl) (rdb h2 (vs := [(iv p0.Unit), (.slice QA p0.Tools.length QB), (.slice QD p0.Steps.length QC)]) (k := 1) rfl 0) rfl) ?_
   refine Tr.va rfl (fun _ _ h1 h2 => zBY (h1.ev rfl) (h1.ev rfl)) ?_
   refine Tr.va rfl (fun _ _ h1 h2 => zB zCa (h1.ev rfl)) ?_
   refine Tr.va rfl (fun _ _ h1 h2 => zC QO (h1.ev rfl) (rdb h2 (vs := [(iv xL4.X0), (iv xL4.Y0), (iv xL4.X1), (iv xL4.Y1)]) (k := 37) rfl 1) rfl) ?_
   refine Tr.va rfl (fun _ _ h1 h2 => zB Vg (h1.ev rfl)) ?_
   refine Tr.va rfl (fun _ _ h1 h2 => zC QO (h1.ev rfl) (rdb h2 (vs := [(iv p0.Unit), (.slice QA p0.Tools.length QB), (.slice QD p0.Steps.length QC)]) (k := 1) rfl 0) rfl) ?_
   refine Tr.va rfl (fun _ _ h1 h2 => zBY (h1.ev rfl) (h1.ev rfl)) ?_
   refine Tr.va rfl (fun _ _ h1 h2 => zB zC2 (h1.ev rfl)) ?_
   refine Tr.va rfl (fun _ _ h1 h2 => zC QO (h1.ev rfl) (rdb h2 (vs := [(iv xL4.X0), (iv xL4.Y0), (iv xL4.X1), (iv xL4.Y1)]) (k := 37) rfl 2) rfl) ?_
   refine Tr.va rfl (fun _ _ h1 h2 => zB Vg (h1.ev rfl)) ?_
   refine Tr.va rfl (fun _ _ h1 h2 => zC QO (h1.ev rfl) (rdb h2 (vs := [(iv p0.Unit), (.slice QA p0.Tools.length QB), (.slice QD p0.Steps.length QC)]) (k := 1) rfl 0) rfl) ?_
   refine Tr.va rfl (fun _ _ h1 h2 => zBY (h1.ev rfl) (h1.ev rfl)) ?_
   refine Tr.va rfl (fun _ _ h1 h2 => zB zDX (h1.ev rfl)) ?_
   refine Tr.va rfl (fun _ _ h1 h2 => zC QO (h1.ev rfl) (rdb h2 (vs := [(iv xL4.X0), (iv xL4.Y0), (iv xL4.X1), (iv xL4.Y1)]) (k := 37) rfl 3) rfl) ?_
   refine Tr.va rfl (fun _ _ h1 h2 => zB Vg (h1.ev rfl)) ?_
   refine Tr.va rfl (fun _ _ h1 h2 => zC QO (h1.ev rfl) (rdb h2 (vs := [(iv p0.Unit), (.slice QA p0.Tools.length QB), (.slice QD p0.Steps.length QC)]) (k := 1) rfl 0) rfl) ?_
   refine Tr.va rfl (fun _ _ h1 h2 => zBY (h1.ev rfl) (h1.ev rfl)) ?_
   refine Tr.build (vs := [(0, (iv (w64 (xL4.X0 * p0.Unit)))), (1, (iv (w64 (xL4.Y0 * p0.Unit)))), (2, (iv (w64 (xL4.X1 * p0.Unit)))), (3, (iv (w64 (xL4.Y1 * p0.Unit))))]) (cs := [(iv (w64 (xL4.X0 * p0.Unit))), (iv (w64 (xL4.Y0 * p0.Unit))), (iv (w64 (xL4.X1 * p0.Unit))), (iv (w64 (xL4.Y1 * p0.Unit)))]) (wn rfl) rfl (zi rfl (zi rfl (zi rfl (zi rfl Qb)))) (by kernel_rfl) ?_
   refine Tr.buildSlice 38 (e := 36) (vs := [(0, (.agg #[(iv (w64 (xL4.X0 * p0.Unit))), (iv (w64 (xL4.Y0 * p0.Unit))), (iv (w64 (xL4.X1 * p0.Unit))), (iv (w64 (xL4.Y1 * p0.Unit)))]))]) (cs := [(iv (w64 (xL4.X0 * p0.Unit))), (iv (w64 (xL4.Y0 * p0.Unit))), (iv (w64 (xL4.X1 * p0.Unit))), (iv (w64 (xL4.Y1 * p0.Unit)))]) (wn rfl) rfl (zi rfl Qb) (by kernel_rfl) fun b190 => ?_
   obtain ⟨l191, hl191, H⟩ := bnd H
   refine Tr.append 30 (t := zN) (l := l181) (l2 := [(zT.mk (w64 (xL4.X0 * p0.Unit)) (w64 (xL4.Y0 * p0.Unit)) (w64 (xL4.X1 * p0.Unit)) (w64 (xL4.Y1 * p0.Unit)))]) (wn rfl) rfl rfl rfl rfl (fun W hW => ⟨[[(iv (w64 (xL4.X0 * p0.Unit))), (iv (w64 (xL4.Y0 * p0.Unit))), (iv (w64 (xL4.X1 * p0.Unit))), (iv (w64 (xL4.Y1 * p0.Unit)))]], (.cons ⟨(), trivial, rfl⟩ .nil), rdb hW (vs := [(iv (w64 (xL4.X0 * p0.Unit))), (iv (w64 (xL4.Y0 * p0.Unit))), (iv (w64 (xL4.X1 * p0.Unit))), (iv (w64 (xL4.Y1 * p0.Unit)))]) (k := 38) rfl 0⟩) zA0 Kv zl_36 (by decide) by_36 rfl hl191 fun Al191 cl191 hAl191 => ?_
   refine Tr.asg rfl rfl (Tr.nil (Tr.zW (Tr.zA ?_)))
   refine Tr.region (Tr.va rfl (fun _ _ h1 h2 => zx (h1.ev rfl) (h1.ev rfl)) ?_)
   exact Tr.mv rfl rfl (Tr.nil (Tr.zZ zB1 (Ky, (iL4 + 1), l191, Al191, cl191) ⟨rfl, Qg zDT, zo zDT, H, hAl191⟩ (.cons rfl (.cons rfl (.cons rfl (.cons rfl (.cons rfl (.cons rfl (.cons rfl (.cons rfl (.cons (congrArg (fun z => some (Value.int .i64 z)) (Qf zDT zB3.form)) .nil))))))))) (.cons rfl (.cons rfl (.cons rfl (.cons rfl .nil))))))

theorem zCW {w : Bs} (p0 : zAA) (QA : Option Addr) (QB : Nat) (QE : Sl w.R w.W zK QA QB p0.p.Tools) (QD : Option Addr) (QC : Nat) (QU : Sl w.R w.W zG QD QC p0.p.Steps) (QL : Option Addr) (QN : Nat) (Jz : Sl w.R w.W Qe QL QN p0.tools) (QR : Option Addr) (QQ : Nat) (hp0_3 : Sl w.R w.W zJ QR QQ p0.image) (bp0 : Nat) (hbp0 : w.R bp0) (hcp0 : zL w.W bp0 0 [(iv p0.p.Unit), (.slice QA p0.p.Tools.length QB), (.slice QD p0.p.Steps.length QC), (.slice QL p0.tools.length QN), (.slice QR p0.image.length QQ), (.bool p0.clear), (iv p0.tool), (iv p0.place.X), (iv p0.place.Y), (.bool p0.placed), (iv p0.off), (iv p0.on)]) (p1 : zI) (p2 : zI) (r : zI) (H : VX p0 p1 p2 = some r) (hE : HF w w.W E0) : Calls Tryz.prog 103 [(.pointer (some ⟨bp0, 0, none⟩)), (.agg #[(iv p1.X), (iv p1.Y)]), (.agg #[(iv p2.X), (iv p2.Y)])].toArray w.W fun e W' => e = .returned (.agg #[(iv r.X), (iv r.Y)]) ∧ HF w W' E0 := by
 unfold VX at H
 have leB := Bs.Le.refl w
 refine Tr.enter (n := 30) Tryz.func103 rfl rfl rfl hE ?_
 refine Tr.sr (Tr.box 1 (cs := [(iv p1.X), (iv p1.Y)]) (wn rfl) rfl rfl rfl fun QM => ?_)
 refine Tr.box 2 (cs := [(iv p2.X), (iv p2.Y)]) (wn rfl) rfl rfl rfl fun Qt => ?_
 refine Tr.alloc 3 (wn rfl) rfl zHe fun zAo => ?_
 refine Tr.nil (Tr.zA (Tr.seq (Tr.zC6 22 (by kernel_rfl) (by kernel_rfl) ?_)))
 refine Tq.va rfl (fun _ _ h1 h2 => zB VL (h1.ev rfl)) ?_
 refine Tq.va rfl (fun _ _ h1 h2 => zC QO (h1.ev rfl) (rdb h2 (vs := [(iv p1.X), (iv p1.Y)]) (k := 1) rfl 0) rfl) ?_
 refine Tq.mv rfl rfl (Tq.va rfl (fun _ _ h1 h2 => zb (h1.ev rfl)) ?_)
 refine Tq.va rfl (fun _ _ h1 h2 => zB zKM (h1.ev rfl)) ?_
 refine Tq.va rfl (fun _ _ h1 h2 => zB Vg (h1.ev rfl)) ?_
 refine Tq.va rfl (fun _ _ h1 h2 => zC QO (h1.ev rfl) (zL.drop (zL.drop (rdR hbp0 hcp0 h2) 0) 0) rfl) ?_
 refine Tq.va rfl (fun _ _ h1 h2 => zBY (h1.ev rfl) (h1.ev rfl)) ?_
 refine Tq.va rfl (fun _ _ h1 h2 => zB VL (h1.ev rfl)) ?_
 refine Tq.va rfl (fun _ _ h1 h2 => zC QO (h1.ev rfl) (rdb h2 (vs := [(iv p2.X), (iv p2.Y)]) (k := 2) rfl 0) rfl) ?_
 refine Tq.va rfl (fun _ _ h1 h2 => zx (h1.ev rfl) (h1.ev rfl)) ?_
 refine Tq.va rfl (fun _ _ h1 h2 => zB Kt (h1.ev rfl)) ?_
 refine Tq.va rfl (fun _ _ h1 h2 => zC QO (h1.ev rfl) (rdb h2 (vs := [(iv p1.X), (iv p1.Y)]) (k := 1) rfl 1) rfl) ?_
 refine Tq.mv rfl rfl (Tq.va rfl (fun _ _ h1 h2 => zb (h1.ev rfl)) ?_)
 refine Tq.va rfl (fun _ _ h1 h2 => zB zKM (h1.ev rfl)) ?_
 refine Tq.va rfl (fun _ _ h1 h2 => zB Vg (h1.ev rfl)) ?_
 refine Tq.va rfl (fun _ _ h1 h2 => zC QO (h1.ev rfl) (zL.drop (zL.drop (rdR hbp0 hcp0 h2) 0) 0) rfl) ?_
 refine Tq.va rfl (fun _ _ h1 h2 => zBY (h1.ev rfl) (h1.ev rfl)) ?_
 refine Tq.va rfl (fun _ _ h1 h2 => zB Kt (h1.ev rfl)) ?_
 refine Tq.va rfl (fun _ _ h1 h2 => zC QO (h1.ev rfl) (rdb h2 (vs := [(iv p2.X), (iv p2.Y)]) (k := 2) rfl 1) rfl) ?_
 refine Tq.va rfl (fun _ _ h1 h2 => zx (h1.ev rfl) (h1.ev rfl)) ?_
 refine Tq.nil (Tr.build (vs := [(0, (iv (w64 ((w64 (p1.X * p0.p.Unit)) + p2.X)))), (1, (iv (w64 ((w64 (p1.Y * p0.p.Unit)) + p2.Y))))]) (cs := [(iv (w64 ((w64 (p1.X * p0.p.Unit)) + p2.X))), (iv (w64 ((w64 (p1.Y * p0.p.Unit)) + p2.Y)))]) (wn rfl) rfl (zi rfl (zi rfl Qb)) (by kernel_rfl) ?_)
 refine Tr.store 3 (cs := [(iv (w64 ((w64 (p1.X * p0.p.Unit)) + p2.X))), (iv (w64 ((w64 (p1.Y * p0.p.Unit)) + p2.Y)))]) [(iv (w64 ((w64 (p1.X * p0.p.Unit)) + p2.X))), (iv (w64 ((w64 (p1.Y * p0.p.Unit)) + p2.Y)))] (wn rfl) rfl rfl rfl rfl JB rfl rfl rfl ?_
 refine Tr.nil (Tr.zA (Tr.ret ?_))
 obtain rfl := Option.some.inj H
 exact Tr.out (m := [(.agg #[(iv (w64 ((w64 (p1.X * p0.p.Unit)) + p2.X))), (iv (w64 ((w64 (p1.Y * p0.p.Unit)) + p2.Y)))])]) [3] (Vm rfl rfl KF JB zQ) (fun W hW => ⟨rfl, hW.low leB⟩)

theorem zKb {w : Bs} (p0 : Int) (p1 : Int) (p2 : Int) (r : Bool) (H : zBu p0 p1 p2 = some r) (hE : HF w w.W E0) : Calls Tryz.prog 158 [(iv p0), (iv p1), (iv p2)].toArray w.W fun e W' => e = .returned (.bool r) ∧ HF w W' E0 := by
 unfold zBu at H
 have leB := Bs.Le.refl w
 refine Tr.enter (n := 15) Tryz.func158 rfl rfl rfl hE ?_
 refine Tr.sr (Tr.asg rfl rfl (Tr.nil (Tr.zA (Tr.sr (Tr.mv rfl rfl (Tr.mv rfl rfl (Tr.va rfl (fun _ _ h1 h2 => zEU (h1.ev rfl) (h1.ev rfl)) ?_)))))))
 refine Tr.mv rfl rfl (Tr.VR 4 [(14, (.bool ((decide (p1 ≤ p0)) && (decide (p0 ≤ p2)))))] [] ?_ ?_)
 ·cases hg99 : (decide (p1 ≤ p0))
  ·refine Tr.pass rfl rfl rfl rfl rfl (by decide) ?_
   refine Tr.pass rfl rfl rfl rfl rfl (by decide) ?_
   refine Tr.pass rfl rfl rfl rfl rfl (by decide) ?_
   refine Tr.va rfl (fun _ _ h1 h2 => zf (h1.ev rfl) (h1.ev rfl)) ?_
   exact Tr.nil (Tr.Qo (.cons rfl .nil) .nil)
  ·refine Tr.val (wg rfl rfl rfl) rfl (fun _ _ h1 h2 => run_move (h1.ev rfl)) ?_
   refine Tr.val (wg rfl rfl rfl) rfl (fun _ _ h1 h2 => run_move (h1.ev rfl)) ?_
   refine Tr.val (wg rfl rfl rfl) rfl (fun _ _ h1 h2 => zA8 (h1.ev rfl) (h1.ev rfl)) ?_
   refine Tr.va rfl (fun _ _ h1 h2 => ze (h1.ev rfl) (h1.ev rfl)) ?_
   exact Tr.nil (Tr.Qo (.cons rfl .nil) .nil)
 ·show Tr _ _ (LF [(14, (.bool ((decide (p1 ≤ p0)) && (decide (p0 ≤ p2)))))]) (LE []) _
  refine Tr.asg rfl rfl (Tr.nil (Tr.zA (Tr.ret ?_)))
  obtain rfl := Option.some.inj H
  exact Tr.out (m := [(.bool ((decide (p1 ≤ p0)) && (decide (p0 ≤ p2))))]) [] (zP rfl zQ) (fun W hW => ⟨rfl, hW.low leB⟩)

theorem Wx {w : Bs} (p0 : Int) (r : Bool) (H : Vi p0 = some r) (hE : HF w w.W E0) : Calls Tryz.prog 129 [(iv p0)].toArray w.W fun e W' => e = .returned (.bool r) ∧ HF w W' E0 := by
 unfold Vi at H
 have leB := Bs.Le.refl w
 refine Tr.enter (n := 5) Tryz.func129 rfl rfl rfl hE ?_
 refine Tr.sr (Tr.asg rfl rfl (Tr.nil (Tr.zA (Tr.sr (Tr.mv rfl rfl ?_)))))
 obtain ⟨QT, zBp, H⟩ := bnd H
 refine Tr.Qp (r := (.bool QT)) (wn rfl) rfl Tryz.call158 (zF rfl (zF rfl (zF rfl zO))) (fun W hW => zKb p0 (-1000000) 1000000 QT zBp (HF.start _)) ?_
 refine Tr.asg rfl rfl (Tr.nil (Tr.zA (Tr.ret ?_)))
 obtain rfl := Option.some.inj H
 exact Tr.out (m := [(.bool QT)]) [] (zP rfl zQ) (fun W hW => ⟨rfl, hW.low leB⟩)

theorem zCh {w : Bs} (p0 : zI) (r : Bool) (H : WF p0 = some r) (hE : HF w w.W E0) : Calls Tryz.prog 123 [(.agg #[(iv p0.X), (iv p0.Y)])].toArray w.W fun e W' => e = .returned (.bool r) ∧ HF w W' E0 := by
 unfold WF at H
 have leB := Bs.Le.refl w
 refine Tr.enter (n := 11) Tryz.func123 rfl rfl rfl hE ?_
 refine Tr.sr (Tr.box 1 (cs := [(iv p0.X), (iv p0.Y)]) (wn rfl) rfl rfl rfl fun QM => ?_)
 refine Tr.asg rfl rfl (Tr.nil (Tr.zA (Tr.sr (Tr.va rfl (fun _ _ h1 h2 => zB VL (h1.ev rfl)) ?_))))
 refine Tr.va rfl (fun _ _ h1 h2 => zC QO (h1.ev rfl) (rdb h2 (vs := [(iv p0.X), (iv p0.Y)]) (k := 1) rfl 0) rfl) ?_
 obtain ⟨y101, hy101, H⟩ := bnd H
 refine Tr.Qp (r := (.bool y101)) (wn rfl) rfl Tryz.call129 (zF rfl zO) (fun W hW => Wx p0.X y101 hy101 (HF.start _)) ?_
 refine Tr.mv rfl rfl ?_
 obtain ⟨zFT, Wq, H⟩ := bnd H
 refine Tr.VR 4 [(10, (.bool zFT))] [(1, bx QM #[(iv p0.X), (iv p0.Y)] 43)] ?_ ?_
 ·cases hg104 : y101
  ·rw [hg104] at Wq
   rw [if_neg (by decide)] at Wq
   have H := Wq
   obtain rfl := Option.some.inj H
   refine Tr.pass rfl rfl rfl rfl rfl (by decide) ?_
   refine Tr.pass rfl rfl rfl rfl rfl (by decide) ?_
   refine Tr.pass rfl rfl rfl rfl rfl (by decide) ?_
   refine Tr.va rfl (fun _ _ h1 h2 => zf (h1.ev rfl) (h1.ev rfl)) ?_
   exact Tr.nil (Tr.Qo (.cons rfl .nil) (.cons rfl .nil))
  ·rw [hg104] at Wq
   rw [if_pos rfl] at Wq
   have H := Wq
   refine Tr.val (wg rfl rfl rfl) rfl (fun _ _ h1 h2 => zB Kt (h1.ev rfl)) ?_
   refine Tr.val (wg rfl rfl rfl) rfl (fun _ _ h1 h2 => zC QO (h1.ev rfl) (rdb h2 (vs := [(iv p0.X), (iv p0.Y)]) (k := 1) rfl 1) rfl) ?_
   obtain ⟨y104, hy104, H⟩ := bnd H
   refine Tr.Qp (r := (.bool y104)) (wg rfl rfl rfl) rfl Tryz.call129 (zF rfl zO) (fun W hW => Wx p0.Y y104 hy104 (HF.start _)) ?_
   refine Tr.va rfl (fun _ _ h1 h2 => ze (h1.ev rfl) (h1.ev rfl)) ?_
   obtain rfl := Option.some.inj H
   exact Tr.nil (Tr.Qo (.cons rfl .nil) (.cons rfl .nil))
 ·show Tr _ _ (LF [(10, (.bool zFT))]) (LE [(1, bx QM #[(iv p0.X), (iv p0.Y)] 43)]) _
  refine Tr.asg rfl rfl (Tr.nil (Tr.zA (Tr.ret ?_)))
  obtain rfl := Option.some.inj H
  exact Tr.out (m := [(.bool zFT)]) [] (zP rfl zQ) (fun W hW => ⟨rfl, hW.low leB⟩)

theorem zJH {w : Bs} (p0 : zI) (p1 : zI) (r : Int) (H : zHB p0 p1 = some r) (hE : HF w w.W E0) : Calls Tryz.prog 124 [(.agg #[(iv p0.X), (iv p0.Y)]), (.agg #[(iv p1.X), (iv p1.Y)])].toArray w.W fun e W' => e = .returned (iv r) ∧ HF w W' E0 := by
 unfold zHB at H
 have leB := Bs.Le.refl w
 refine Tr.enter (n := 28) Tryz.func124 rfl rfl rfl hE ?_
 refine Tr.sr (Tr.box 1 (cs := [(iv p0.X), (iv p0.Y)]) (wn rfl) rfl rfl rfl fun QM => ?_)
 refine Tr.box 2 (cs := [(iv p1.X), (iv p1.Y)]) (wn rfl) rfl rfl rfl fun Qt => ?_
 refine Tr.asg rfl rfl (Tr.nil (Tr.zA (Tr.sr (Tr.va rfl (fun _ _ h1 h2 => zB VL (h1.ev rfl)) ?_))))
 refine Tr.va rfl (fun _ _ h1 h2 => zC QO (h1.ev rfl) (rdb h2 (vs := [(iv p0.X), (iv p0.Y)]) (k := 1) rfl 0) rfl) ?_
 refine Tr.va rfl (fun _ _ h1 h2 => zB VL (h1.ev rfl)) ?_
 refine Tr.va rfl (fun _ _ h1 h2 => zC QO (h1.ev rfl) (rdb h2 (vs := [(iv p1.X), (iv p1.Y)]) (k := 2) rfl 0) rfl) ?_
 refine Tr.va rfl (fun _ _ h1 h2 => Wm (h1.ev rfl) (h1.ev rfl)) ?_
 refine Tr.va rfl (fun _ _ h1 h2 => zB VL (h1.ev rfl)) ?_
 refine Tr.va rfl (fun _ _ h1 h2 => zC QO (h1.ev rfl) (rdb h2 (vs := [(iv p1.X), (iv p1.Y)]) (k := 2) rfl 0) rfl) ?_
 refine Tr.va rfl (fun _ _ h1 h2 => zB VL (h1.ev rfl)) ?_
 refine Tr.va rfl (fun _ _ h1 h2 => zC QO (h1.ev rfl) (rdb h2 (vs := [(iv p0.X), (iv p0.Y)]) (k := 1) rfl 0) rfl) ?_
 refine Tr.va rfl (fun _ _ h1 h2 => Wm (h1.ev rfl) (h1.ev rfl)) ?_
 refine Tr.va rfl (fun _ _ h1 h2 => zFZ (h1.ev rfl) (h1.ev rfl) _) ?_
 refine Tr.va rfl (fun _ _ h1 h2 => zB Kt (h1.ev rfl)) ?_
 refine Tr.va rfl (fun _ _ h1 h2 => zC QO (h1.ev rfl) (rdb h2 (vs := [(iv p0.X), (iv p0.Y)]) (k := 1) rfl 1) rfl) ?_
 refine Tr.va rfl (fun _ _ h1 h2 => zB Kt (h1.ev rfl)) ?_
 refine Tr.va rfl (fun _ _ h1 h2 => zC QO (h1.ev rfl) (rdb h2 (vs := [(iv p1.X), (iv p1.Y)]) (k := 2) rfl 1) rfl) ?_
 refine Tr.va rfl (fun _ _ h1 h2 => Wm (h1.ev rfl) (h1.ev rfl)) ?_
 refine Tr.va rfl (fun _ _ h1 h2 => zB Kt (h1.ev rfl)) ?_
 refine Tr.va rfl (fun _ _ h1 h2 => zC QO (h1.ev rfl) (rdb h2 (vs := [(iv p1.X), (iv p1.Y)]) (k := 2) rfl 1) rfl) ?_
 refine Tr.va rfl (fun _ _ h1 h2 => zB Kt (h1.ev rfl)) ?_
 refine Tr.va rfl (fun _ _ h1 h2 => zC QO (h1.ev rfl) (rdb h2 (vs := [(iv p0.X), (iv p0.Y)]) (k := 1) rfl 1) rfl) ?_
 refine Tr.va rfl (fun _ _ h1 h2 => Wm (h1.ev rfl) (h1.ev rfl)) ?_
 refine Tr.va rfl (fun _ _ h1 h2 => zFZ (h1.ev rfl) (h1.ev rfl) _) ?_
 refine Tr.va rfl (fun _ _ h1 h2 => zx (h1.ev rfl) (h1.ev rfl)) ?_
 refine Tr.asg rfl rfl (Tr.nil (Tr.zA (Tr.ret ?_)))
 obtain rfl := Option.some.inj H
 exact Tr.out (m := [(iv (w64 ((max (w64 (p0.X - p1.X)) (w64 (p1.X - p0.X))) + (max (w64 (p0.Y - p1.Y)) (w64 (p1.Y - p0.Y))))))]) [] (zP rfl zQ) (fun W hW => ⟨rfl, hW.low leB⟩)

theorem zDK (N : Nat) {w : Bs} (p0 : (List zV)) (QA : Option Addr) (QB : Nat) (QE : Sl w.R w.W zJ QA QB p0) (r : (List zT)) (H : Va N p0 = some r) (hE : HF w w.W (LEn [emp])) : Calls Tryz.prog 29 [(.slice QA p0.length QB)].toArray w.W fun e W' => ∃ u : (Option Addr × Nat), e = .returned (.slice u.1 r.length u.2) ∧ (SlF u.1 r.length u.2) ∧ HF w W' (LEn [ow u.1 u.2 36 zN r]) := by
 unfold Va at H
 have leB := Bs.Le.refl w
 refine Tr.enter (n := 41) Tryz.func29 rfl rfl rfl hE ?_
 refine Tr.sr (Tr.asg rfl rfl (Tr.JS 1 36 zN ?_))
 show Tr _ _ (uf _ 2 (.slice none (([] : List zT)).length 0)) _ _
 refine Tr.nil (Tr.zA (Tr.sr (Tr.asg rfl rfl (Tr.JS 2 36 zN ?_))))
 show Tr _ _ (uf _ 3 (.slice none (([] : List zT)).length 0)) _ _
 refine Tr.nil (Tr.zA (Tr.seq (Tr.sr (Tr.mv rfl rfl (Tr.va rfl (fun _ _ h1 h2 => zq zEE (h1.ev rfl)) ?_)))))
 refine Tr.mv rfl rfl (Tr.nil (Tr.zA (Tr.block (Tr.loop (σ := (List zV) × Nat × (List zT) × (Option Addr) × Nat) (fun m w s => m = s.1.length + 1 ∧ s.1 = List.drop s.2.1 p0 ∧ s.2.1 ≤ p0.length ∧ zAK N s.1 s.2.1 s.2.2.1 = some r ∧ SlF s.2.2.2.1 s.2.2.1.length s.2.2.2.2) (fun s => [(3, (.slice s.2.2.2.1 s.2.2.1.length s.2.2.2.2)), (7, (.slice QA p0.length QB)), (8, (iv (p0.length : Int))), (9, (iv (s.2.1 : Int)))]) (fun s => [(2, ow s.2.2.2.1 s.2.2.2.2 36 zN s.2.2.1)]) (p0.length + 1) (p0, 0, ([] : List zT), none, 0) ⟨rfl, rfl, Nat.zero_le _, H, VD⟩ (.cons rfl (.cons rfl (.cons rfl (.cons rfl .nil)))) (.cons rfl .nil) (fun _ _ h => absurd h.1 (by simp)) ?_))))
 intro w VK m s hs
 obtain ⟨Qh, iL3, zB2, zCn, zCl⟩ := s
 obtain ⟨zGr, WR, hiL3, H, zI9⟩ := hs
 replace WR : Qh = List.drop iL3 p0 := WR
 replace H : zAK N Qh iL3 zB2 = some r := H
 replace zGr : m + 1 = Qh.length + 1 := zGr
 replace QE := QE.leR VK
 replace leB := leB.trans VK
 replace zI9 : SlF zCn zB2.length zCl := zI9
 obtain rfl : m = Qh.length := by omega
 clear zGr
 show Tr _ _ (LF [(3, (.slice zCn zB2.length zCl)), (7, (.slice QA p0.length QB)), (8, (iv (p0.length : Int))), (9, (iv (iL3 : Int)))]) (LE [(2, ow zCn zCl 36 zN zB2)]) _
 cases Qh with
 | nil =>
  rw [zAK.eq_1] at H
  refine Tr.sr (Tr.va rfl (fun _ _ h1 h2 => zz (h1.ev rfl) (h1.ev rfl)) ?_)
  refine Tr.nil (Tr.zA (Tr.seq (Tr.WJ rfl (Qy WR) ?_)))
  refine Tr.exit (Tr.zX (Tr.zX (Tr.zAC (Tr.zA (Tr.sr (Tr.mv rfl rfl (Tr.asg rfl rfl (Tr.nil (Tr.zA (Tr.ret ?_))))))))))
  obtain rfl := Option.some.inj H
  exact Tr.out (m := [(.slice zCn zB2.length zCl)]) [] (zP rfl zQ) (fun W hW => ⟨(zCn, zCl), rfl, zI9, HF.zHZ leB (hW.pick (ks := [2]) (by decide) (zM rfl zY)) ⟨zE4 _ _ _ _ zBl, trivial⟩⟩)
 | cons xL3 Qh =>
  rw [zAK.eq_2] at H
  refine Tr.sr (Tr.va rfl (fun _ _ h1 h2 => zz (h1.ev rfl) (h1.ev rfl)) ?_)
  refine Tr.nil (Tr.zA (Tr.seq (Tr.WI rfl (Jg WR) ?_)))
  refine Tr.skip (Tr.zA (Tr.seq (Tr.block (Tr.sr ?_))))
  obtain ⟨u153, hRu153, hoku153, hcu153⟩ := (QE).el (Js WR)
  obtain ⟨WS, zBE⟩ := u153
  have zCk := hoku153
  replace zCk : Sl w.R w.W zn WS zBE xL3.Xs := zCk
  refine Tr.va rfl (fun _ _ h1 h2 => zH zCB (h1.ev rfl) QE.form (h1.ev rfl) (Int.natCast_nonneg _) (zo WR)) ?_
  refine Tr.va rfl (fun _ _ h1 h2 => zR (cs := [(iv xL3.Y0), (iv xL3.Y1), (.slice WS xL3.Xs.length zBE)]) ag_107 zHk (h1.ev rfl) (zL.take (rdR hRu153 hcu153 h2) 3) rfl) ?_
  refine Tr.alloc 11 (wn rfl) rfl ze_107 fun b154 => ?_
  refine Tr.store 11 (cs := [(iv xL3.Y0), (iv xL3.Y1), (.slice WS xL3.Xs.length zBE)]) [(iv xL3.Y0), (iv xL3.Y1), (.slice WS xL3.Xs.length zBE)] (wn rfl) rfl rfl rfl rfl zHk rfl rfl rfl ?_
  refine Tr.nil (Tr.zA (Tr.sr (Tr.asg rfl rfl (Tr.nil (Tr.zA (Tr.block (Tr.loop (σ := (List zT) × Int × (Option Addr) × Nat) (fun m w s => JL (zAK N Qh (iL3 + 1)) xL3 m s.1 s.2.1 = some r ∧ SlF s.2.2.1 s.1.length s.2.2.2) (fun s => [(3, (.slice s.2.2.1 s.1.length s.2.2.2)), (5, (.pointer (some ⟨b154, 0, none⟩))), (6, (iv s.2.1)), (7, (.slice QA p0.length QB)), (8, (iv (p0.length : Int))), (9, (iv (iL3 : Int)))]) (fun s => [(2, ow s.2.2.1 s.2.2.2 36 zN s.1), (11, bx b154 #[(iv xL3.Y0), (iv xL3.Y1), (.slice WS xL3.Xs.length zBE)] 107)]) N (zB2, 0, zCn, zCl) ⟨H, zI9⟩ (.cons rfl (.cons rfl (.cons rfl (.cons rfl (.cons rfl (.cons rfl .nil)))))) (.cons rfl (.cons rfl .nil)) (fun _ _ h => zAi (h.1)) ?_)))))))
  intro w zB1 mL4 s hs
  obtain ⟨l169, zEt, Al169, cl169⟩ := s
  obtain ⟨H, hl169⟩ := hs
  replace H : JL (zAK N Qh (iL3 + 1)) xL3 (mL4 + 1) l169 zEt = some r := H
  replace zCk := zCk.leR zB1
  replace QE := QE.leR zB1
  replace VK := VK.trans zB1
  replace hl169 : SlF Al169 l169.length cl169 := hl169
  rw [JL.eq_2] at H
  show Tr _ _ (LF [(3, (.slice Al169 l169.length cl169)), (5, (.pointer (some ⟨b154, 0, none⟩))), (6, (iv zEt)), (7, (.slice QA p0.length QB)), (8, (iv (p0.length : Int))), (9, (iv (iL3 : Int)))]) (LE [(2, ow Al169 cl169 36 zN l169), (11, bx b154 #[(iv xL3.Y0), (iv xL3.Y1), (.slice WS xL3.Xs.length zBE)] 107)]) _
  refine Tr.seq (Tr.sr (Tr.mv rfl rfl (Tr.va rfl (fun _ _ h1 h2 => zB zAk (h1.ev rfl)) ?_)))
  refine Tr.va rfl (fun _ _ h1 h2 => zC zCT (h1.ev rfl) (rdb h2 (vs := [(iv xL3.Y0), (iv xL3.Y1), (.slice WS xL3.Xs.length zBE)]) (k := 11) rfl 2) rfl) ?_
  refine Tr.va rfl (fun _ _ h1 h2 => zq zCA (h1.ev rfl)) ?_
  refine Tr.va rfl (fun _ _ h1 h2 => zz (h1.ev rfl) (h1.ev rfl)) ?_
  refine Tr.nil (Tr.zA (Tr.cond rfl H (fun H => ?_) (fun H => ?_)))
  ·refine Tr.skip (Tr.zA (Tr.seq (Tr.block ?_)))
   obtain ⟨zIy, hx172, H⟩ := bnd H
   obtain ⟨hx1720, hx1721, hx1722⟩ := zh hx172
   obtain ⟨zIx, hx173, H⟩ := bnd H
   obtain ⟨hx1730, hx1731, hx1732⟩ := zh hx173
   refine Tr.drawF 18 [(17, .makeFunc (.func 0) #[] #[.tmp 36])] [(17, ⟨37, 14, (.func (.func 0) #[] #[(.agg #[(iv zIy), (iv xL3.Y0), (iv zIx), (iv xL3.Y1)])]), fun b => .slice (some ⟨b, 0, none⟩) 1 1, fun b => bx b #[(iv zIy), (iv xL3.Y0), (iv zIx), (iv xL3.Y1)] 36⟩)] [(3, (.slice Al169 l169.length cl169)), (5, (.pointer (some ⟨b154, 0, none⟩))), (6, (iv zEt)), (7, (.slice QA p0.length QB)), (8, (iv (p0.length : Int))), (9, (iv (iL3 : Int))), (13, (iv zEt)), (14, (.pointer (some ⟨b154, 2, none⟩))), (15, (.slice WS xL3.Xs.length zBE)), (16, (iv (xL3.Xs.length : Int))), (17, (.bool (decide (zEt < (xL3.Xs.length : Int))))), (20, (.slice Al169 l169.length cl169)), (21, (.pointer (some ⟨b154, 2, none⟩))), (22, (.slice WS xL3.Xs.length zBE)), (23, (iv zEt)), (24, (.pointer (some ⟨adB WS, adO WS + (zEt).toNat * 1, none⟩))), (25, (iv zIy)), (26, (.pointer (some ⟨b154, 0, none⟩))), (27, (iv xL3.Y0)), (28, (.pointer (some ⟨b154, 2, none⟩))), (29, (.slice WS xL3.Xs.length zBE)), (30, (iv zEt)), (31, (iv (w64 (zEt + 1)))), (32, (.pointer (some ⟨adB WS, adO WS + ((w64 (zEt + 1))).toNat * 1, none⟩))), (33, (iv zIx)), (34, (.pointer (some ⟨b154, 1, none⟩))), (35, (iv xL3.Y1)), (36, (.agg #[(iv zIy), (iv xL3.Y0), (iv zIx), (iv xL3.Y1)])), (37, (.func (.func 0) #[] #[(.agg #[(iv zIy), (iv xL3.Y0), (iv zIx), (iv xL3.Y1)])]))] (by kernel_rfl) (by kernel_rfl) (by kernel_rfl) (by kernel_rfl) (by kernel_rfl) (by kernel_rfl) (by kernel_rfl) (zB7 (fr_lit (vs := [(0, (.agg #[(iv zIy), (iv xL3.Y0), (iv zIx), (iv xL3.Y1)]))]) rfl rfl rfl (by kernel_rfl)) zC5) (zB7 rfl zC5) (zB7 rfl zC5) ?_ ?_
   ·refine Tq.mv rfl rfl (Tq.va rfl (fun _ _ h1 h2 => zB zAk (h1.ev rfl)) ?_)
    refine Tq.va rfl (fun _ _ h1 h2 => zC zCT (h1.ev rfl) (rdb h2 (vs := [(iv xL3.Y0), (iv xL3.Y1), (.slice WS xL3.Xs.length zBE)]) (k := 11) rfl 2) rfl) ?_
    refine Tq.mv rfl rfl (Tq.va rfl (fun _ _ h1 h2 => zH zAR (h1.ev rfl) zCk.form (h1.ev rfl) hx1720 hx1721) ?_)
    refine Tq.va rfl (fun _ _ h1 h2 => zC QO (h1.ev rfl) (rdF VZ zCk hx1722 h2) rfl) ?_
    refine Tq.va rfl (fun _ _ h1 h2 => zB zDt (h1.ev rfl)) ?_
    refine Tq.va rfl (fun _ _ h1 h2 => zC QO (h1.ev rfl) (rdb h2 (vs := [(iv xL3.Y0), (iv xL3.Y1), (.slice WS xL3.Xs.length zBE)]) (k := 11) rfl 0) rfl) ?_
    refine Tq.va rfl (fun _ _ h1 h2 => zB zAk (h1.ev rfl)) ?_
    refine Tq.va rfl (fun _ _ h1 h2 => zC zCT (h1.ev rfl) (rdb h2 (vs := [(iv xL3.Y0), (iv xL3.Y1), (.slice WS xL3.Xs.length zBE)]) (k := 11) rfl 2) rfl) ?_
    refine Tq.mv rfl rfl (Tq.va rfl (fun _ _ h1 h2 => zx (h1.ev rfl) (h1.ev rfl)) ?_)
    refine Tq.va rfl (fun _ _ h1 h2 => zH zAR (h1.ev rfl) zCk.form (h1.ev rfl) hx1730 hx1731) ?_
    refine Tq.va rfl (fun _ _ h1 h2 => zC QO (h1.ev rfl) (rdF VZ zCk hx1732 h2) rfl) ?_
    refine Tq.va rfl (fun _ _ h1 h2 => zB zBr (h1.ev rfl)) ?_
    refine Tq.va rfl (fun _ _ h1 h2 => zC QO (h1.ev rfl) (rdb h2 (vs := [(iv xL3.Y0), (iv xL3.Y1), (.slice WS xL3.Xs.length zBE)]) (k := 11) rfl 1) rfl) ?_
    refine Tq.build (vs := [(0, (iv zIy)), (1, (iv xL3.Y0)), (2, (iv zIx)), (3, (iv xL3.Y1))]) (cs := [(iv zIy), (iv xL3.Y0), (iv zIx), (iv xL3.Y1)]) (wn rfl) rfl (zi rfl (zi rfl (zi rfl (zi rfl Qb)))) (by kernel_rfl) ?_
    refine Tq.zE5 (vs := [(.agg #[(iv zIy), (iv xL3.Y0), (iv zIx), (iv xL3.Y1)])]) (wn rfl) rfl (zF rfl zO) ?_
    exact Tq.fin (.cons rfl (.cons rfl (.cons rfl (.cons rfl (.cons rfl (.cons rfl (.cons rfl (.cons rfl (.cons rfl (.cons rfl (.cons rfl (.cons rfl (.cons rfl (.cons rfl (.cons rfl (.cons rfl (.cons rfl (.cons rfl (.cons rfl (.cons rfl (.cons rfl (.cons rfl (.cons rfl (.cons rfl (.cons rfl (.cons rfl (.cons rfl (.cons rfl (.cons rfl .nil)))))))))))))))))))))))))))))
   ·intro bs171
    refine Tr.sel (lf := [(5, (.pointer (some ⟨b154, 0, none⟩))), (6, (iv zEt)), (7, (.slice QA p0.length QB)), (8, (iv (p0.length : Int))), (9, (iv (iL3 : Int))), (20, (.slice Al169 l169.length cl169)), (37, (.slice (some ⟨(bs171 17), 0, none⟩) 1 1))]) (le := [(2, ow Al169 cl169 36 zN l169), (11, bx b154 #[(iv xL3.Y0), (iv xL3.Y1), (.slice WS xL3.Xs.length zBE)] 107), (14, bx (bs171 17) #[(iv zIy), (iv xL3.Y0), (iv zIx), (iv xL3.Y1)] 36)]) (.cons rfl (.cons rfl (.cons rfl (.cons rfl (.cons rfl (.cons rfl (.cons rfl .nil))))))) (.cons rfl (.cons rfl (.cons rfl .nil))) ?_
    obtain ⟨l174, hl174, H⟩ := bnd H
    refine Tr.append 2 (t := zN) (l := l169) (l2 := [(zT.mk zIy xL3.Y0 zIx xL3.Y1)]) (wn rfl) rfl rfl rfl rfl (fun W hW => ⟨[[(iv zIy), (iv xL3.Y0), (iv zIx), (iv xL3.Y1)]], (.cons ⟨(), trivial, rfl⟩ .nil), rdb hW (vs := [(iv zIy), (iv xL3.Y0), (iv zIx), (iv xL3.Y1)]) (k := 14) rfl 0⟩) zA0 Kv zl_36 (by decide) by_36 rfl hl174 fun Al174 cl174 hAl174 => ?_
    refine Tr.asg rfl rfl (Tr.nil (Tr.zW (Tr.zA ?_)))
    refine Tr.region (Tr.mv rfl rfl (Tr.va rfl (fun _ _ h1 h2 => zx (h1.ev rfl) (h1.ev rfl)) ?_))
    exact Tr.asg rfl rfl (Tr.nil (Tr.zZ zB1 (l174, (w64 (zEt + 2)), Al174, cl174) ⟨H, hAl174⟩ (.cons rfl (.cons rfl (.cons rfl (.cons rfl (.cons rfl (.cons rfl .nil)))))) (.cons rfl (.cons rfl .nil))))
  ·refine Tr.exit (Tr.zX (Tr.zX (Tr.zAC (Tr.zW (Tr.zA ?_)))))
   refine Tr.region (Tr.va rfl (fun _ _ h1 h2 => zx (h1.ev rfl) (h1.ev rfl)) ?_)
   exact Tr.mv rfl rfl (Tr.nil (Tr.zZ VK (Qh, (iL3 + 1), l169, Al169, cl169) ⟨rfl, Qg WR, zo WR, H, hl169⟩ (.cons rfl (.cons rfl (.cons rfl (.cons (congrArg (fun z => some (Value.int .i64 z)) (Qf WR QE.form)) .nil)))) (.cons rfl .nil)))

theorem zG7 (N : Nat) {w : Bs} (p0 : (List zV)) (QA : Option Addr) (QB : Nat) (QE : Sl w.R w.W zJ QA QB p0) (p1 : Int) (p2 : Int) (p3 : Int) (p4 : Int) (r : (List zV)) (H : WM N p0 p1 p2 p3 p4 = some r) (hE : HF w w.W (LEn [emp])) : Calls Tryz.prog 156 [(.slice QA p0.length QB), (iv p1), (iv p2), (iv p3), (iv p4)].toArray w.W fun e W' => ∃ (w' : Bs) (u : (Option Addr × Nat)), w.Le w' ∧ e = .returned (.slice u.1 r.length u.2) ∧ (SlF u.1 r.length u.2) ∧ HF w' W' (LEn [ow u.1 u.2 107 zJ r]) := by
 unfold WM at H
 have leB := Bs.Le.refl w
 refine Tr.enter (n := 46) Tryz.func156 rfl rfl rfl hE ?_
 refine Tr.sr (Tr.asg rfl rfl (Tr.JS 1 107 zJ ?_))
 show Tr _ _ (uf _ 10 (.slice none (([] : List zV)).length 0)) _ _
 refine Tr.nil (Tr.zA (Tr.sr (Tr.mv rfl rfl ?_)))
 obtain ⟨QT, zBp, H⟩ := bnd H
 refine Tr.VP [2] [emp] (U := (Option Addr × Nat)) (fun u => (.slice u.1 QT.length u.2)) (fun u => SlF u.1 QT.length u.2) (fun u => [ow u.1 u.2 36 zN QT]) rfl (zM rfl zY) (fun _ => rfl) (wn rfl) rfl Tryz.call29 (zF rfl zO) (fun W hW hp hE => zDK N p0 QA QB (QE.ext (hW.QS hp)) QT zBp hE) ?_
 intro u hu
 obtain ⟨QY, QX⟩ := u
 have gy100_0 := hu
 have zBq : SlF QY QT.length QX := gy100_0 --@phi
 show Tr _ _ (uf _ 15 (.slice QY QT.length QX)) (up _ 2 (ow QY QX 36 zN QT)) _
 refine Tr.asg rfl rfl (Tr.nil (Tr.zA (Tr.seq (Tr.sr (Tr.mv rfl rfl (Tr.va rfl (fun _ _ h1 h2 => zq zA0 (h1.ev rfl)) ?_))))))
 refine Tr.mv rfl rfl (Tr.nil (Tr.zA (Tr.block (Tr.loop (σ := (List zT) × Int × (Option Addr) × Nat) (fun m w s => JU N p1 p2 p3 p4 QT m s.1 s.2.1 = some r ∧ SlF s.2.2.1 s.1.length s.2.2.2) (fun s => [(1, (iv p1)), (2, (iv p2)), (3, (iv p3)), (4, (iv p4)), (11, (.slice s.2.2.1 s.1.length s.2.2.2)), (16, (.slice s.2.2.1 s.1.length s.2.2.2)), (17, (iv (QT.length : Int))), (18, (iv s.2.1))]) (fun s => [(2, ow s.2.2.1 s.2.2.2 36 zN s.1)]) N (QT, 0, QY, QX) ⟨H, zBq⟩ (.cons rfl (.cons rfl (.cons rfl (.cons rfl (.cons rfl (.cons rfl (.cons rfl (.cons rfl .nil)))))))) (.cons rfl .nil) (fun _ _ h => zAi (h.1)) ?_))))
 intro w QW mL1 s hs
 obtain ⟨l116, zJJ, zIG, zH5⟩ := s
 obtain ⟨H, hl116⟩ := hs
 replace H : JU N p1 p2 p3 p4 QT (mL1 + 1) l116 zJJ = some r := H
 replace leB := leB.trans QW
 replace hl116 : SlF zIG l116.length zH5 := hl116
 rw [JU.eq_2] at H
 show Tr _ _ (LF [(1, (iv p1)), (2, (iv p2)), (3, (iv p3)), (4, (iv p4)), (11, (.slice zIG l116.length zH5)), (16, (.slice zIG l116.length zH5)), (17, (iv (QT.length : Int))), (18, (iv zJJ))]) (LE [(2, ow zIG zH5 36 zN l116)]) _
 refine Tr.sr (Tr.va rfl (fun _ _ h1 h2 => zz (h1.ev rfl) (h1.ev rfl)) ?_)
 refine Tr.nil (Tr.zA (Tr.seq (Tr.cond rfl H (fun H => ?_) (fun H => ?_))))
 ·refine Tr.skip (Tr.zA (Tr.seq (Tr.block (Tr.sr (Tr.mv rfl rfl ?_)))))
  obtain ⟨KS, hx118, H⟩ := bnd H
  obtain ⟨hx1180, hx1181, hx1182⟩ := zh hx118
  refine Tr.va rfl (fun _ _ h1 h2 => zH zCR (h1.ev rfl) hl116 (h1.ev rfl) hx1180 hx1181) ?_
  refine Tr.va rfl (fun _ _ h1 h2 => zR (cs := [(iv KS.X0), (iv KS.Y0), (iv KS.X1), (iv KS.Y1)]) zCD Kv (h1.ev rfl) (zL.take (rdo VM (k := 2) h2 rfl hx1182) 4) rfl) ?_
  refine Tr.alloc 5 (wn rfl) rfl zF7 fun b119 => ?_
  refine Tr.asg rfl rfl (Tr.store 5 (cs := [(iv KS.X0), (iv KS.Y0), (iv KS.X1), (iv KS.Y1)]) [(iv KS.X0), (iv KS.Y0), (iv KS.X1), (iv KS.Y1)] (wn rfl) rfl rfl rfl rfl Kv rfl rfl rfl ?_)
  refine Tr.nil (Tr.zA (Tr.region (Tr.mv rfl rfl (Tr.mv rfl rfl (Tr.va rfl (fun _ _ h1 h2 => zB Wz (h1.ev rfl)) ?_)))))
  refine Tr.va rfl (fun _ _ h1 h2 => zC QO (h1.ev rfl) (rdb h2 (vs := [(iv KS.X0), (iv KS.Y0), (iv KS.X1), (iv KS.Y1)]) (k := 5) rfl 0) rfl) ?_
  refine Tr.mv rfl rfl (Tr.va rfl (fun _ _ h1 h2 => Wm (h1.ev rfl) (h1.ev rfl)) ?_)
  refine Tr.va rfl (fun _ _ h1 h2 => zB zCa (h1.ev rfl)) ?_
  refine Tr.va rfl (fun _ _ h1 h2 => zC QO (h1.ev rfl) (rdb h2 (vs := [(iv KS.X0), (iv KS.Y0), (iv KS.X1), (iv KS.Y1)]) (k := 5) rfl 1) rfl) ?_
  refine Tr.mv rfl rfl (Tr.va rfl (fun _ _ h1 h2 => Wm (h1.ev rfl) (h1.ev rfl)) ?_)
  refine Tr.va rfl (fun _ _ h1 h2 => zB zC2 (h1.ev rfl)) ?_
  refine Tr.va rfl (fun _ _ h1 h2 => zC QO (h1.ev rfl) (rdb h2 (vs := [(iv KS.X0), (iv KS.Y0), (iv KS.X1), (iv KS.Y1)]) (k := 5) rfl 2) rfl) ?_
  refine Tr.mv rfl rfl (Tr.va rfl (fun _ _ h1 h2 => zx (h1.ev rfl) (h1.ev rfl)) ?_)
  refine Tr.va rfl (fun _ _ h1 h2 => zB zDX (h1.ev rfl)) ?_
  refine Tr.va rfl (fun _ _ h1 h2 => zC QO (h1.ev rfl) (rdb h2 (vs := [(iv KS.X0), (iv KS.Y0), (iv KS.X1), (iv KS.Y1)]) (k := 5) rfl 3) rfl) ?_
  refine Tr.mv rfl rfl (Tr.va rfl (fun _ _ h1 h2 => zx (h1.ev rfl) (h1.ev rfl)) ?_)
  refine Tr.build (vs := [(0, (iv (w64 (KS.X0 - p1)))), (1, (iv (w64 (KS.Y0 - p3)))), (2, (iv (w64 (KS.X1 + p2)))), (3, (iv (w64 (KS.Y1 + p4))))]) (cs := [(iv (w64 (KS.X0 - p1))), (iv (w64 (KS.Y0 - p3))), (iv (w64 (KS.X1 + p2))), (iv (w64 (KS.Y1 + p4)))]) (wn rfl) rfl (zi rfl (zi rfl (zi rfl (zi rfl Qb)))) (by kernel_rfl) ?_
  obtain ⟨x120, hx120, H⟩ := bnd H
  obtain ⟨hx1200, hx1201, hx1202⟩ := zh hx120
  refine Tr.va rfl (fun _ _ h1 h2 => zH zCR (h1.ev rfl) hl116 (h1.ev rfl) hx1200 hx1201) ?_
  obtain ⟨l121, hl121, H⟩ := bnd H
  have hnl121 := zGD hl121
  refine Tr.zGh 2 (t := zN) (l := l116) (i := zJJ) (fo := 0) (cs := [(iv (w64 (KS.X0 - p1))), (iv (w64 (KS.Y0 - p3))), (iv (w64 (KS.X1 + p2))), (iv (w64 (KS.Y1 + p4)))]) (zT.mk (w64 (KS.X0 - p1)) (w64 (KS.Y0 - p3)) (w64 (KS.X1 + p2)) (w64 (KS.Y1 + p4))) (wn rfl) rfl rfl rfl rfl rfl hx1202 Kv rfl (fun u _ => ⟨u, trivial, rfl⟩) rfl hl121 ?_
  have hfl121 : SlF zIG l121.length zH5 := by rw [hnl121]; exact hl116
  refine Tr.sel (lf := [(1, (iv p1)), (2, (iv p2)), (3, (iv p3)), (4, (iv p4)), (11, (.slice zIG l121.length zH5)), (12, (iv zJJ)), (13, (.pointer (some ⟨b119, 0, none⟩))), (16, (.slice zIG l121.length zH5)), (17, (iv (QT.length : Int))), (18, (iv zJJ)), (19, (.bool (decide (zJJ < (QT.length : Int))))), (20, (iv zJJ)), (22, (.agg #[(iv KS.X0), (iv KS.Y0), (iv KS.X1), (iv KS.Y1)])), (23, (.slice zIG l121.length zH5)), (24, (iv zJJ)), (25, (.pointer (some ⟨b119, 0, none⟩))), (26, (iv KS.X0)), (27, (iv p1)), (28, (iv (w64 (KS.X0 - p1)))), (29, (.pointer (some ⟨b119, 1, none⟩))), (30, (iv KS.Y0)), (31, (iv p3)), (32, (iv (w64 (KS.Y0 - p3)))), (33, (.pointer (some ⟨b119, 2, none⟩))), (34, (iv KS.X1)), (35, (iv p2)), (36, (iv (w64 (KS.X1 + p2)))), (37, (.pointer (some ⟨b119, 3, none⟩))), (38, (iv KS.Y1)), (39, (iv p4)), (40, (iv (w64 (KS.Y1 + p4)))), (41, (.agg #[(iv (w64 (KS.X0 - p1))), (iv (w64 (KS.Y0 - p3))), (iv (w64 (KS.X1 + p2))), (iv (w64 (KS.Y1 + p4)))]))]) (le := [(2, ow zIG zH5 36 zN l121), (5, bx b119 #[(iv KS.X0), (iv KS.Y0), (iv KS.X1), (iv KS.Y1)] 36)]) (.cons rfl (.cons rfl (.cons rfl (.cons rfl (.cons (VH rfl (by rw [hnl121])) (.cons rfl (.cons rfl (.cons (VH rfl (by rw [hnl121])) (.cons rfl (.cons rfl (.cons rfl (.cons rfl (.cons rfl (.cons (VH rfl (by rw [hnl121])) (.cons rfl (.cons rfl (.cons rfl (.cons rfl (.cons rfl (.cons rfl (.cons rfl (.cons rfl (.cons rfl (.cons rfl (.cons rfl (.cons rfl (.cons rfl (.cons rfl (.cons rfl (.cons rfl (.cons rfl (.cons rfl .nil)))))))))))))))))))))))))))))))) (.cons rfl (.cons rfl .nil)) ?_
  refine Tr.nil (Tr.zW (Tr.zA ?_))
  refine Tr.region (Tr.va rfl (fun _ _ h1 h2 => zx (h1.ev rfl) (h1.ev rfl)) ?_)
  exact Tr.mv rfl rfl (Tr.nil (Tr.zZ QW (l121, (w64 (zJJ + 1)), zIG, zH5) ⟨H, hfl121⟩ (.cons rfl (.cons rfl (.cons rfl (.cons rfl (.cons rfl (.cons rfl (.cons rfl (.cons rfl .nil)))))))) (.cons rfl .nil)))
 ·refine Tr.exit (Tr.zX (Tr.zX (Tr.zAC (Tr.zA (Tr.sr (Tr.mv rfl rfl ?_))))))
  obtain ⟨KH, hy122, H⟩ := bnd H
  refine Tr.VQ [6] [emp] (U := (Option Addr × Nat)) (fun u => (.slice u.1 KH.length u.2)) (fun O W u => SlF u.1 KH.length u.2) (fun u => [ow u.1 u.2 107 zJ KH]) rfl (zM rfl zY) (fun _ => rfl) (wn rfl) rfl Tryz.call59 (zF rfl zO) (fun W hW hp hE => zGW N l116 zIG zH5 (hW.slS (k := 2) rfl hp rfl) KH hy122 hE) ?_
  intro w u le123 hu
  obtain ⟨JI, Je⟩ := u
  have gy122_0 := hu
  replace leB := leB.trans le123
  have zHx : SlF JI KH.length Je := gy122_0 --@phi
  show Tr _ _ (uf _ 45 (.slice JI KH.length Je)) (up _ 6 (ow JI Je 107 zJ KH)) _
  refine Tr.asg rfl rfl (Tr.nil (Tr.zA (Tr.ret ?_)))
  obtain rfl := Option.some.inj H
  exact Tr.out (m := [(.slice JI KH.length Je)]) [] (zP rfl zQ) (fun W hW => ⟨w, (JI, Je), leB, rfl, zHx, hW.pick (ks := [6]) (by decide) (zM rfl zY)⟩)

theorem zHO (N : Nat) {w : Bs} (p0 : (List zV)) (QA : Option Addr) (QB : Nat) (QE : Sl w.R w.W zJ QA QB p0) (p1 : zI) (p2 : zI) (r : (List zV)) (H : zBG N p0 p1 p2 = some r) (hE : HF w w.W (LEn [emp])) : Calls Tryz.prog 126 [(.slice QA p0.length QB), (.agg #[(iv p1.X), (iv p1.Y)]), (.agg #[(iv p2.X), (iv p2.Y)])].toArray w.W fun e W' => ∃ (w' : Bs) (u : (Option Addr × Nat)), w.Le w' ∧ e = .returned (.slice u.1 r.length u.2) ∧ (SlF u.1 r.length u.2) ∧ HF w' W' (LEn [ow u.1 u.2 107 zJ r]) := by
 unfold zBG at H
 have leB := Bs.Le.refl w
 refine Tr.enter (n := 39) Tryz.func126 rfl rfl rfl hE ?_
 refine Tr.sr (Tr.box 1 (cs := [(iv p1.X), (iv p1.Y)]) (wn rfl) rfl rfl rfl fun QM => ?_)
 refine Tr.box 2 (cs := [(iv p2.X), (iv p2.Y)]) (wn rfl) rfl rfl rfl fun Qt => ?_
 refine Tr.asg rfl rfl (Tr.JS 3 107 zJ ?_)
 show Tr _ _ (uf _ 6 (.slice none (([] : List zV)).length 0)) _ _
 refine Tr.nil (Tr.zA (Tr.seq (Tr.draw (by kernel_rfl) (by kernel_rfl) ?_)))
 refine Tq.va rfl (fun _ _ h1 h2 => zB VL (h1.ev rfl)) ?_
 refine Tq.va rfl (fun _ _ h1 h2 => zC QO (h1.ev rfl) (rdb h2 (vs := [(iv p1.X), (iv p1.Y)]) (k := 1) rfl 0) rfl) ?_
 refine Tq.va rfl (fun _ _ h1 h2 => zB VL (h1.ev rfl)) ?_
 refine Tq.va rfl (fun _ _ h1 h2 => zC QO (h1.ev rfl) (rdb h2 (vs := [(iv p2.X), (iv p2.Y)]) (k := 2) rfl 0) rfl) ?_
 refine Tq.va rfl (fun _ _ h1 h2 => zFY (h1.ev rfl) (h1.ev rfl) _) ?_
 refine Tq.va rfl (fun _ _ h1 h2 => zB Kt (h1.ev rfl)) ?_
 refine Tq.va rfl (fun _ _ h1 h2 => zC QO (h1.ev rfl) (rdb h2 (vs := [(iv p1.X), (iv p1.Y)]) (k := 1) rfl 1) rfl) ?_
 refine Tq.va rfl (fun _ _ h1 h2 => zB Kt (h1.ev rfl)) ?_
 refine Tq.va rfl (fun _ _ h1 h2 => zC QO (h1.ev rfl) (rdb h2 (vs := [(iv p2.X), (iv p2.Y)]) (k := 2) rfl 1) rfl) ?_
 refine Tq.va rfl (fun _ _ h1 h2 => zFY (h1.ev rfl) (h1.ev rfl) _) ?_
 refine Tq.va rfl (fun _ _ h1 h2 => zB VL (h1.ev rfl)) ?_
 refine Tq.va rfl (fun _ _ h1 h2 => zC QO (h1.ev rfl) (rdb h2 (vs := [(iv p1.X), (iv p1.Y)]) (k := 1) rfl 0) rfl) ?_
 refine Tq.va rfl (fun _ _ h1 h2 => zB VL (h1.ev rfl)) ?_
 refine Tq.va rfl (fun _ _ h1 h2 => zC QO (h1.ev rfl) (rdb h2 (vs := [(iv p2.X), (iv p2.Y)]) (k := 2) rfl 0) rfl) ?_
 refine Tq.va rfl (fun _ _ h1 h2 => zFZ (h1.ev rfl) (h1.ev rfl) _) ?_
 refine Tq.va rfl (fun _ _ h1 h2 => zB Kt (h1.ev rfl)) ?_
 refine Tq.va rfl (fun _ _ h1 h2 => zC QO (h1.ev rfl) (rdb h2 (vs := [(iv p1.X), (iv p1.Y)]) (k := 1) rfl 1) rfl) ?_
 refine Tq.va rfl (fun _ _ h1 h2 => zB Kt (h1.ev rfl)) ?_
 refine Tq.va rfl (fun _ _ h1 h2 => zC QO (h1.ev rfl) (rdb h2 (vs := [(iv p2.X), (iv p2.Y)]) (k := 2) rfl 1) rfl) ?_
 refine Tq.va rfl (fun _ _ h1 h2 => zFZ (h1.ev rfl) (h1.ev rfl) _) ?_
 refine Tq.asg rfl rfl (Tq.asg rfl rfl (Tq.asg rfl rfl (Tq.asg rfl rfl (Tq.nil (Tr.zA (Tr.sr (Tr.mv rfl rfl (Tr.mv rfl rfl (Tr.va rfl (fun _ _ h1 h2 => run_neg (h1.ev rfl)) ?_)))))))))
 refine Tr.mv rfl rfl (Tr.mv rfl rfl (Tr.va rfl (fun _ _ h1 h2 => run_neg (h1.ev rfl)) ?_))
 refine Tr.mv rfl rfl ?_
 obtain ⟨y102, hy102, H⟩ := bnd H
 refine Tr.VQ [4] [emp] (U := (Option Addr × Nat)) (fun u => (.slice u.1 y102.length u.2)) (fun O W u => SlF u.1 y102.length u.2) (fun u => [ow u.1 u.2 107 zJ y102]) rfl (zM rfl zY) (fun _ => rfl) (wn rfl) rfl Tryz.call156 (zF rfl (zF rfl (zF rfl (zF rfl (zF rfl zO))))) (fun W hW hp hE => zG7 N p0 QA QB (QE.ext (hW.QS hp)) (w64 (0 - (min p1.X p2.X))) (max p1.X p2.X) (w64 (0 - (min p1.Y p2.Y))) (max p1.Y p2.Y) y102 hy102 hE) ?_
 intro w u le103 hu
 obtain ⟨zEh, zEY⟩ := u
 have gy102_0 := hu
 replace leB := leB.trans le103
 have hgy102_0 : SlF zEh y102.length zEY := gy102_0 --@phi
 show Tr _ _ (uf _ 38 (.slice zEh y102.length zEY)) (up _ 4 (ow zEh zEY 107 zJ y102)) _
 refine Tr.asg rfl rfl (Tr.nil (Tr.zA (Tr.ret ?_)))
 obtain rfl := Option.some.inj H
 exact Tr.out (m := [(.slice zEh y102.length zEY)]) [] (zP rfl zQ) (fun W hW => ⟨w, (zEh, zEY), leB, rfl, hgy102_0, hW.pick (ks := [4]) (by decide) (zM rfl zY)⟩)

theorem zG9 {w : Bs} (p0 : (List zV)) (QA : Option Addr) (QB : Nat) (QE : Sl w.R w.W zJ QA QB p0) (r : zT) (H : WO p0 = some r) (hE : HF w w.W E0) : Calls Tryz.prog 170 [(.slice QA p0.length QB)].toArray w.W fun e W' => e = .returned (.agg #[(iv r.X0), (iv r.Y0), (iv r.X1), (iv r.Y1)]) ∧ HF w W' E0 := by
 unfold WO at H
 have leB := Bs.Le.refl w
 refine Tr.enter (n := 58) Tryz.func170 rfl rfl rfl hE ?_
 refine Tr.sr (Tr.alloc 1 (wn rfl) rfl zF7 fun QM => ?_)
 refine Tr.nil (Tr.zA (Tr.seq ?_))
 obtain ⟨x102, hx102, H⟩ := bnd H
 obtain ⟨hx1020, hx1021, hx1022⟩ := zh hx102
 obtain ⟨u103, hRu103, hoku103, hcu103⟩ := (QE).el hx1022
 obtain ⟨zKm, cu103_0⟩ := u103
 obtain ⟨x104, hx104, H⟩ := bnd H
 obtain ⟨hx1040, hx1041, hx1042⟩ := zh hx104
 obtain ⟨x105, hx105, H⟩ := bnd H
 obtain ⟨hx1050, hx1051, hx1052⟩ := zh hx105
 obtain ⟨u106, hRu106, hoku106, hcu106⟩ := (QE).el hx1052
 obtain ⟨Au106_0, cu106_0⟩ := u106
 obtain ⟨x107, hx107, H⟩ := bnd H
 obtain ⟨hx1070, hx1071, hx1072⟩ := zh hx107
 obtain ⟨u108, hRu108, hoku108, hcu108⟩ := (QE).el hx1072
 obtain ⟨Au108_0, cu108_0⟩ := u108
 obtain ⟨zEQ, hx109, H⟩ := bnd H
 obtain ⟨hx1090, hx1091, hx1092⟩ := zh hx109
 obtain ⟨zD9, hx110, H⟩ := bnd H
 obtain ⟨hx1100, hx1101, hx1102⟩ := zh hx110
 obtain ⟨u111, hRu111, hoku111, hcu111⟩ := (QE).el hx1102
 obtain ⟨Au111_0, cu111_0⟩ := u111
 refine Tr.drawF 25 [(24, .makeFunc (.func 0) #[] #[])] [(24, ⟨3, 2, (.func (.func 0) #[] #[]), fun b => .pointer (some ⟨b, 0, none⟩), fun b => bx b #[(iv 0), (iv 0), (iv 0), (iv 0)] 36⟩)] [(0, (.slice QA p0.length QB)), (2, (.pointer (some ⟨QM, 0, none⟩))), (3, (.func (.func 0) #[] #[])), (6, (.slice QA p0.length QB)), (7, (.pointer (some ⟨adB QA, adO QA + ((0 : Int)).toNat * 3, none⟩))), (8, (.pointer (some ⟨adB QA, adO QA + ((0 : Int)).toNat * 3 + 2, none⟩))), (9, (.slice zKm x102.Xs.length cu103_0)), (10, (.pointer (some ⟨adB zKm, adO zKm + ((0 : Int)).toNat * 1, none⟩))), (11, (iv x104)), (12, (.slice QA p0.length QB)), (13, (.pointer (some ⟨adB QA, adO QA + ((0 : Int)).toNat * 3, none⟩))), (14, (.pointer (some ⟨adB QA, adO QA + ((0 : Int)).toNat * 3 + 0, none⟩))), (15, (iv x105.Y0)), (16, (.slice QA p0.length QB)), (17, (.pointer (some ⟨adB QA, adO QA + ((0 : Int)).toNat * 3, none⟩))), (18, (.pointer (some ⟨adB QA, adO QA + ((0 : Int)).toNat * 3 + 2, none⟩))), (19, (.slice Au108_0 x107.Xs.length cu108_0)), (20, (.pointer (some ⟨adB Au108_0, adO Au108_0 + ((1 : Int)).toNat * 1, none⟩))), (21, (iv zEQ)), (22, (.slice QA p0.length QB)), (23, (.slice QA p0.length QB)), (24, (iv (p0.length : Int))), (25, (iv (w64 ((p0.length : Int) - 1)))), (26, (.pointer (some ⟨adB QA, adO QA + ((w64 ((p0.length : Int) - 1))).toNat * 3, none⟩))), (27, (.pointer (some ⟨adB QA, adO QA + ((w64 ((p0.length : Int) - 1))).toNat * 3 + 1, none⟩))), (28, (iv zD9.Y1)), (29, (.agg #[(iv x104), (iv x105.Y0), (iv zEQ), (iv zD9.Y1)]))] (by kernel_rfl) (by kernel_rfl) (by kernel_rfl) (by kernel_rfl) (by kernel_rfl) (by kernel_rfl) (by kernel_rfl) (zB7 (fr_alloc rfl rfl zF7) zC5) (zB7 rfl zC5) (zB7 rfl zC5) ?_ ?_
 ·refine Tq.mv rfl rfl ?_
  have zGL := hoku103
  replace zGL : Sl w.R w.W zn zKm cu103_0 x102.Xs := zGL
  refine Tq.va rfl (fun _ _ h1 h2 => zH zCB (h1.ev rfl) QE.form (h1.ev rfl) hx1020 hx1021) ?_
  refine Tq.va rfl (fun _ _ h1 h2 => zB zAk (h1.ev rfl)) ?_
  refine Tq.va rfl (fun _ _ h1 h2 => zC zCT (h1.ev rfl) (zL.drop (rdR hRu103 hcu103 h2) 2) rfl) ?_
  refine Tq.va rfl (fun _ _ h1 h2 => zH zAR (h1.ev rfl) zGL.form (h1.ev rfl) hx1040 hx1041) ?_
  refine Tq.va rfl (fun _ _ h1 h2 => zC QO (h1.ev rfl) (rdF VZ zGL hx1042 h2) rfl) ?_
  refine Tq.mv rfl rfl ?_
  have zIZ := hoku106
  refine Tq.va rfl (fun _ _ h1 h2 => zH zCB (h1.ev rfl) QE.form (h1.ev rfl) hx1050 hx1051) ?_
  refine Tq.va rfl (fun _ _ h1 h2 => zB zDt (h1.ev rfl)) ?_
  refine Tq.va rfl (fun _ _ h1 h2 => zC QO (h1.ev rfl) (zL.drop (rdR hRu106 hcu106 h2) 0) rfl) ?_
  refine Tq.mv rfl rfl ?_
  have zIX := hoku108
  replace zIX : Sl w.R w.W zn Au108_0 cu108_0 x107.Xs := zIX
  refine Tq.va rfl (fun _ _ h1 h2 => zH zCB (h1.ev rfl) QE.form (h1.ev rfl) hx1070 hx1071) ?_
  refine Tq.va rfl (fun _ _ h1 h2 => zB zAk (h1.ev rfl)) ?_
  refine Tq.va rfl (fun _ _ h1 h2 => zC zCT (h1.ev rfl) (zL.drop (rdR hRu108 hcu108 h2) 2) rfl) ?_
  refine Tq.va rfl (fun _ _ h1 h2 => zH zAR (h1.ev rfl) zIX.form (h1.ev rfl) hx1090 hx1091) ?_
  refine Tq.va rfl (fun _ _ h1 h2 => zC QO (h1.ev rfl) (rdF VZ zIX hx1092 h2) rfl) ?_
  refine Tq.mv rfl rfl (Tq.mv rfl rfl (Tq.va rfl (fun _ _ h1 h2 => zq zEE (h1.ev rfl)) ?_))
  refine Tq.va rfl (fun _ _ h1 h2 => Wm (h1.ev rfl) (h1.ev rfl)) ?_
  have hoku111_0 := hoku111
  refine Tq.va rfl (fun _ _ h1 h2 => zH zCB (h1.ev rfl) QE.form (h1.ev rfl) hx1100 hx1101) ?_
  refine Tq.va rfl (fun _ _ h1 h2 => zB zBr (h1.ev rfl)) ?_
  refine Tq.va rfl (fun _ _ h1 h2 => zC QO (h1.ev rfl) (zL.drop (rdR hRu111 hcu111 h2) 1) rfl) ?_
  refine Tq.build (vs := [(0, (iv x104)), (1, (iv x105.Y0)), (2, (iv zEQ)), (3, (iv zD9.Y1))]) (cs := [(iv x104), (iv x105.Y0), (iv zEQ), (iv zD9.Y1)]) (wn rfl) rfl (zi rfl (zi rfl (zi rfl (zi rfl Qb)))) (by kernel_rfl) ?_
  refine Tq.zE5 (vs := []) (wn rfl) rfl zO ?_
  exact Tq.fin (.cons rfl (.cons rfl (.cons rfl (.cons rfl (.cons rfl (.cons rfl (.cons rfl (.cons rfl (.cons rfl (.cons rfl (.cons rfl (.cons rfl (.cons rfl (.cons rfl (.cons rfl (.cons rfl (.cons rfl (.cons rfl (.cons rfl (.cons rfl (.cons rfl (.cons rfl (.cons rfl (.cons rfl (.cons rfl (.cons rfl (.cons rfl .nil)))))))))))))))))))))))))))
 ·intro bs101
  refine Tr.sel (lf := [(0, (.slice QA p0.length QB)), (2, (.pointer (some ⟨QM, 0, none⟩))), (3, (.pointer (some ⟨(bs101 24), 0, none⟩))), (29, (.agg #[(iv x104), (iv x105.Y0), (iv zEQ), (iv zD9.Y1)]))]) (le := [(1, bx QM #[(iv 0), (iv 0), (iv 0), (iv 0)] 36), (2, bx (bs101 24) #[(iv 0), (iv 0), (iv 0), (iv 0)] 36)]) (.cons rfl (.cons rfl (.cons rfl (.cons rfl .nil)))) (.cons rfl (.cons rfl .nil)) ?_
  refine Tr.store 2 (cs := [(iv x104), (iv x105.Y0), (iv zEQ), (iv zD9.Y1)]) [(iv x104), (iv x105.Y0), (iv zEQ), (iv zD9.Y1)] (wn rfl) rfl rfl rfl rfl Kv rfl rfl rfl ?_
  refine Tr.nil (Tr.zA (Tr.seq (Tr.sr (Tr.mv rfl rfl (Tr.va rfl (fun _ _ h1 h2 => zq zEE (h1.ev rfl)) ?_)))))
  refine Tr.mv rfl rfl (Tr.nil (Tr.zA (Tr.block (Tr.loop (σ := (List zV) × Nat × Int × Int) (fun m w s => m = s.1.length + 1 ∧ s.1 = List.drop s.2.1 p0 ∧ s.2.1 ≤ p0.length ∧ JW x105 zD9 s.1 s.2.1 s.2.2.1 s.2.2.2 = some r) (fun s => [(2, (.pointer (some ⟨QM, 0, none⟩))), (3, (.pointer (some ⟨(bs101 24), 0, none⟩))), (30, (.slice QA p0.length QB)), (31, (iv (p0.length : Int))), (32, (iv (s.2.1 : Int)))]) (fun s => [(1, bx QM #[(iv 0), (iv 0), (iv 0), (iv 0)] 36), (2, bx (bs101 24) #[(iv s.2.2.1), (iv x105.Y0), (iv s.2.2.2), (iv zD9.Y1)] 36)]) (p0.length + 1) (p0, 0, x104, zEQ) ⟨rfl, rfl, Nat.zero_le _, H⟩ (.cons rfl (.cons rfl (.cons rfl (.cons rfl (.cons rfl .nil))))) (.cons rfl (.cons rfl .nil)) (fun _ _ h => absurd h.1 (by simp)) ?_))))
  intro w QW m s hs
  obtain ⟨QF, iL1, QI, zGB⟩ := s
  obtain ⟨KJ, QP, hiL1, H⟩ := hs
  replace QP : QF = List.drop iL1 p0 := QP
  replace H : JW x105 zD9 QF iL1 QI zGB = some r := H
  replace KJ : m + 1 = QF.length + 1 := KJ
  replace QE := QE.leR QW
  replace leB := leB.trans QW
  obtain rfl : m = QF.length := by omega
  clear KJ
  show Tr _ _ (LF [(2, (.pointer (some ⟨QM, 0, none⟩))), (3, (.pointer (some ⟨(bs101 24), 0, none⟩))), (30, (.slice QA p0.length QB)), (31, (iv (p0.length : Int))), (32, (iv (iL1 : Int)))]) (LE [(1, bx QM #[(iv 0), (iv 0), (iv 0), (iv 0)] 36), (2, bx (bs101 24) #[(iv QI), (iv x105.Y0), (iv zGB), (iv zD9.Y1)] 36)]) _
  cases QF with
  | nil =>
   rw [JW.eq_1] at H
   refine Tr.sr (Tr.va rfl (fun _ _ h1 h2 => zz (h1.ev rfl) (h1.ev rfl)) ?_)
   refine Tr.nil (Tr.zA (Tr.seq (Tr.WJ rfl (Qy QP) ?_)))
   refine Tr.exit (Tr.zX (Tr.zX (Tr.zAC (Tr.zA (Tr.sr (Tr.va rfl (fun _ _ h1 h2 => zR (cs := [(iv QI), (iv x105.Y0), (iv zGB), (iv zD9.Y1)]) zCD Kv (h1.ev rfl) (zL.take (rdb h2 (vs := [(iv QI), (iv x105.Y0), (iv zGB), (iv zD9.Y1)]) (k := 2) rfl 0) 4) rfl) ?_))))))
   refine Tr.store 1 (cs := [(iv QI), (iv x105.Y0), (iv zGB), (iv zD9.Y1)]) [(iv QI), (iv x105.Y0), (iv zGB), (iv zD9.Y1)] (wn rfl) rfl rfl rfl rfl Kv rfl rfl rfl ?_
   refine Tr.nil (Tr.zA (Tr.ret ?_))
   obtain rfl := Option.some.inj H
   exact Tr.out (m := [(.agg #[(iv QI), (iv x105.Y0), (iv zGB), (iv zD9.Y1)])]) [1] (Vm rfl rfl zCD Kv zQ) (fun W hW => ⟨rfl, hW.low leB⟩)
  | cons xL1 QF =>
   rw [JW.eq_2] at H
   refine Tr.sr (Tr.va rfl (fun _ _ h1 h2 => zz (h1.ev rfl) (h1.ev rfl)) ?_)
   refine Tr.nil (Tr.zA (Tr.seq (Tr.WI rfl (Jg QP) ?_)))
   refine Tr.skip (Tr.zA (Tr.seq (Tr.block (Tr.sr ?_))))
   obtain ⟨u135, hRu135, hoku135, hcu135⟩ := (QE).el (Js QP)
   obtain ⟨zBe, zCb⟩ := u135
   have zEn := hoku135
   replace zEn : Sl w.R w.W zn zBe zCb xL1.Xs := zEn
   refine Tr.va rfl (fun _ _ h1 h2 => zH zCB (h1.ev rfl) QE.form (h1.ev rfl) (Int.natCast_nonneg _) (zo QP)) ?_
   refine Tr.va rfl (fun _ _ h1 h2 => zR (cs := [(iv xL1.Y0), (iv xL1.Y1), (.slice zBe xL1.Xs.length zCb)]) ag_107 zHk (h1.ev rfl) (zL.take (rdR hRu135 hcu135 h2) 3) rfl) ?_
   refine Tr.alloc 5 (wn rfl) rfl ze_107 fun b136 => ?_
   refine Tr.store 5 (cs := [(iv xL1.Y0), (iv xL1.Y1), (.slice zBe xL1.Xs.length zCb)]) [(iv xL1.Y0), (iv xL1.Y1), (.slice zBe xL1.Xs.length zCb)] (wn rfl) rfl rfl rfl rfl zHk rfl rfl rfl ?_
   refine Tr.nil (Tr.zA (Tr.zHL 20 [(19, fun x => x = (bs101 24))] [] (by kernel_rfl) (by kernel_rfl) fun sz137 hlosz137 hEsz137 => ?_))
   refine Dr.quiet 0 [(36, (.pointer (some ⟨(bs101 24), 0, none⟩)))] (by kernel_rfl) rfl rfl (by kernel_rfl) ?_ rfl rfl ?_
   ·refine Tq.va rfl (fun _ _ h1 h2 => zB Wz (h1.ev rfl)) ?_
    exact Tq.fin (.cons rfl .nil)
   refine Dr.quiet 1 [(37, (iv QI))] (by kernel_rfl) rfl rfl (by kernel_rfl) ?_ rfl rfl ?_
   ·refine Tq.va rfl (fun _ _ h1 h2 => zC QO (h1.ev rfl) (rdb h2 (vs := [(iv QI), (iv x105.Y0), (iv zGB), (iv zD9.Y1)]) (k := 2) rfl 0) rfl) ?_
    exact Tq.fin (.cons rfl .nil)
   refine Dr.quiet 2 [(38, (.pointer (some ⟨b136, 2, none⟩)))] (by kernel_rfl) rfl rfl (by kernel_rfl) ?_ rfl rfl ?_
   ·refine Tq.va rfl (fun _ _ h1 h2 => zB zAk (h1.ev rfl)) ?_
    exact Tq.fin (.cons rfl .nil)
   refine Dr.quiet 3 [(39, (.slice zBe xL1.Xs.length zCb))] (by kernel_rfl) rfl rfl (by kernel_rfl) ?_ rfl rfl ?_
   ·refine Tq.va rfl (fun _ _ h1 h2 => zC zCT (h1.ev rfl) (rdb h2 (vs := [(iv xL1.Y0), (iv xL1.Y1), (.slice zBe xL1.Xs.length zCb)]) (k := 5) rfl 2) rfl) ?_
    exact Tq.fin (.cons rfl .nil)
   obtain ⟨zGA, hx138, H⟩ := bnd H
   obtain ⟨hx1380, hx1381, hx1382⟩ := zh hx138
   refine Dr.quiet 4 [(40, (.pointer (some ⟨adB zBe, adO zBe + ((0 : Int)).toNat * 1, none⟩)))] (by kernel_rfl) rfl rfl (by kernel_rfl) ?_ rfl rfl ?_
   ·refine Tq.va rfl (fun _ _ h1 h2 => zH zAR (h1.ev rfl) zEn.form (h1.ev rfl) hx1380 hx1381) ?_
    exact Tq.fin (.cons rfl .nil)
   refine Dr.quiet 5 [(41, (iv zGA))] (by kernel_rfl) rfl rfl (by kernel_rfl) ?_ rfl rfl ?_
   ·refine Tq.va rfl (fun _ _ h1 h2 => zC QO (h1.ev rfl) (rdF VZ zEn hx1382 h2) rfl) ?_
    exact Tq.fin (.cons rfl .nil)
   refine Dr.quiet 6 [(42, (iv (min QI zGA)))] (by kernel_rfl) rfl rfl (by kernel_rfl) ?_ rfl rfl ?_
   ·refine Tq.va rfl (fun _ _ h1 h2 => zFY (h1.ev rfl) (h1.ev rfl) _) ?_
    exact Tq.fin (.cons rfl .nil)
   refine Dr.quiet 7 [(43, (.pointer (some ⟨(bs101 24), 2, none⟩)))] (by kernel_rfl) rfl rfl (by kernel_rfl) ?_ rfl rfl ?_
   ·refine Tq.va rfl (fun _ _ h1 h2 => zB zC2 (h1.ev rfl)) ?_
    exact Tq.fin (.cons rfl .nil)
   refine Dr.quiet 8 [(44, (iv zGB))] (by kernel_rfl) rfl rfl (by kernel_rfl) ?_ rfl rfl ?_
   ·refine Tq.va rfl (fun _ _ h1 h2 => zC QO (h1.ev rfl) (rdb h2 (vs := [(iv QI), (iv x105.Y0), (iv zGB), (iv zD9.Y1)]) (k := 2) rfl 2) rfl) ?_
    exact Tq.fin (.cons rfl .nil)
   refine Dr.Ji 9 (by kernel_rfl) rfl (wn rfl) rfl (by kernel_rfl) (fun _ _ h1 => zB zAk (h1.ev rfl)) rfl ?_
   refine Dr.Vn 10 [(46, (.slice zBe xL1.Xs.length zCb))] [19] false (by kernel_rfl) rfl rfl (by kernel_rfl) (fun W W' h2 hsW hk => HF.zBN (le := [(5, bx b136 #[(iv xL1.Y0), (iv xL1.Y1), (.slice zBe xL1.Xs.length zCb)] 107)]) (ks := [(2, fun x => x = (bs101 24))]) (s0 := sz137) false h2 hk (fun h => absurd h (by decide)) (.cons rfl .nil) (fun b hb => hb.elim (fun ⟨p, hp, hf, hb⟩ => by simp only [List.mem_cons, List.not_mem_nil, or_false] at hp; rcases hp with rfl; exact .inl ⟨_, List.mem_cons_self, hb⟩) (fun hb => absurd hb.1 (by decide))) (List.forall_mem_cons.2 ⟨fun b hb => hb, (fun _ h => nomatch h)⟩) rfl) ?_ rfl rfl ?_
   ·refine Tq.va rfl (fun _ _ h1 h2 => zC zCT (h1.ev rfl) (rdb h2 (vs := [(iv xL1.Y0), (iv xL1.Y1), (.slice zBe xL1.Xs.length zCb)]) (k := 5) rfl 2) rfl) ?_
    exact Tq.fin (.cons rfl .nil)
   refine Dr.Ji 11 (by kernel_rfl) rfl (wn rfl) rfl (by kernel_rfl) (fun _ _ h1 => zB zAk (h1.ev rfl)) rfl ?_
   refine Dr.Vn 12 [(48, (.slice zBe xL1.Xs.length zCb))] [19] false (by kernel_rfl) rfl rfl (by kernel_rfl) (fun W W' h2 hsW hk => HF.zBN (le := [(5, bx b136 #[(iv xL1.Y0), (iv xL1.Y1), (.slice zBe xL1.Xs.length zCb)] 107)]) (ks := [(2, fun x => x = (bs101 24))]) (s0 := sz137) false h2 hk (fun h => absurd h (by decide)) (.cons rfl .nil) (fun b hb => hb.elim (fun ⟨p, hp, hf, hb⟩ => by simp only [List.mem_cons, List.not_mem_nil, or_false] at hp; rcases hp with rfl; exact .inl ⟨_, List.mem_cons_self, hb⟩) (fun hb => absurd hb.1 (by decide))) (List.forall_mem_cons.2 ⟨fun b hb => hb, (fun _ h => nomatch h)⟩) rfl) ?_ rfl rfl ?_
   ·refine Tq.va rfl (fun _ _ h1 h2 => zC zCT (h1.ev rfl) (rdb h2 (vs := [(iv xL1.Y0), (iv xL1.Y1), (.slice zBe xL1.Xs.length zCb)]) (k := 5) rfl 2) rfl) ?_
    exact Tq.fin (.cons rfl .nil)
   refine Dr.Ji 13 (by kernel_rfl) rfl (wn rfl) rfl (by kernel_rfl) (fun _ _ h1 => zq zCA (h1.ev rfl)) rfl ?_
   refine Dr.Ji 14 (by kernel_rfl) rfl (wn rfl) rfl (by kernel_rfl) (fun _ _ h1 => Wm (h1.ev rfl) (h1.ev rfl)) rfl ?_
   obtain ⟨zGe, hx139, H⟩ := bnd H
   obtain ⟨hx1390, hx1391, hx1392⟩ := zh hx139
   refine Dr.Ji 15 (by kernel_rfl) rfl (wn rfl) rfl (by kernel_rfl) (fun _ _ h1 => zH zAR (h1.ev rfl) zEn.form (h1.ev rfl) hx1390 hx1391) rfl ?_
   refine Dr.Vn 16 [(52, (iv zGe))] [19] false (by kernel_rfl) rfl rfl (by kernel_rfl) (fun W W' h2 hsW hk => HF.zBN (le := []) (ks := [(2, fun x => x = (bs101 24))]) (s0 := sz137) false h2 hk (fun h => absurd h (by decide)) .nil (fun b hb => hb.elim (fun ⟨p, hp, hf, hb⟩ => by simp only [List.mem_cons, List.not_mem_nil, or_false] at hp; rcases hp with rfl; exact .inl ⟨_, List.mem_cons_self, hb⟩) (fun hb => absurd hb.1 (by decide))) (List.forall_mem_cons.2 ⟨fun b hb => hb, (fun _ h => nomatch h)⟩) rfl) ?_ rfl rfl ?_
   ·refine Tq.va rfl (fun _ _ h1 h2 => zC QO (h1.ev rfl) (rdF VZ zEn hx1392 h2) rfl) ?_
    exact Tq.fin (.cons rfl .nil)
   refine Dr.Ji 17 (by kernel_rfl) rfl (wn rfl) rfl (by kernel_rfl) (fun _ _ h1 => zFZ (h1.ev rfl) (h1.ev rfl) _) rfl ?_
   refine Dr.quiet 18 [(54, (.pointer (some ⟨(bs101 24), 0, none⟩)))] (by kernel_rfl) rfl rfl (by kernel_rfl) ?_ rfl rfl ?_
   ·refine Tq.va rfl (fun _ _ h1 h2 => zB Wz (h1.ev rfl)) ?_
    exact Tq.fin (.cons rfl .nil)
   refine Dr.one 19 (by kernel_rfl) ?_
   refine St.store 19 2 (cs := [(iv (min QI zGA))]) [(iv (min QI zGA)), (iv x105.Y0), (iv zGB), (iv zD9.Y1)] rfl (wn rfl) (.inl ⟨_, List.mem_cons_self, rfl, rfl⟩) rfl rfl rfl rfl zIz rfl rfl rfl ?_
   refine Dr.tail (by kernel_rfl) ?_
   refine Tr.va rfl (fun _ _ h1 h2 => zB zC2 (h1.ev rfl)) ?_
   refine Tr.store 2 (cs := [(iv (max zGB zGe))]) [(iv (min QI zGA)), (iv x105.Y0), (iv (max zGB zGe)), (iv zD9.Y1)] (wn rfl) rfl rfl rfl rfl zIz rfl rfl rfl ?_
   refine Tr.nil (Tr.zW (Tr.zA ?_))
   refine Tr.region (Tr.va rfl (fun _ _ h1 h2 => zx (h1.ev rfl) (h1.ev rfl)) ?_)
   exact Tr.mv rfl rfl (Tr.nil (Tr.zZ QW (QF, (iL1 + 1), (min QI zGA), (max zGB zGe)) ⟨rfl, Qg QP, zo QP, H⟩ (.cons rfl (.cons rfl (.cons rfl (.cons rfl (.cons (congrArg (fun z => some (Value.int .i64 z)) (Qf QP QE.form)) .nil))))) (.cons rfl (.cons rfl .nil))))

theorem zKc {w : Bs} (p0 : zT) (r : Bool) (H : zBv p0 = some r) (hE : HF w w.W E0) : Calls Tryz.prog 108 [(.agg #[(iv p0.X0), (iv p0.Y0), (iv p0.X1), (iv p0.Y1)])].toArray w.W fun e W' => e = .returned (.bool r) ∧ HF w W' E0 := by
 unfold zBv at H
 have leB := Bs.Le.refl w
 refine Tr.enter (n := 21) Tryz.func108 rfl rfl rfl hE ?_
 refine Tr.sr (Tr.box 1 (cs := [(iv p0.X0), (iv p0.Y0), (iv p0.X1), (iv p0.Y1)]) (wn rfl) rfl rfl rfl fun QM => ?_)
 refine Tr.asg rfl rfl (Tr.nil (Tr.zA (Tr.sr (Tr.va rfl (fun _ _ h1 h2 => zB Wz (h1.ev rfl)) ?_))))
 refine Tr.va rfl (fun _ _ h1 h2 => zC QO (h1.ev rfl) (rdb h2 (vs := [(iv p0.X0), (iv p0.Y0), (iv p0.X1), (iv p0.Y1)]) (k := 1) rfl 0) rfl) ?_
 obtain ⟨y101, hy101, H⟩ := bnd H
 refine Tr.Qp (r := (.bool y101)) (wn rfl) rfl Tryz.call129 (zF rfl zO) (fun W hW => Wx p0.X0 y101 hy101 (HF.start _)) ?_
 refine Tr.mv rfl rfl ?_
 obtain ⟨zFT, Wq, H⟩ := bnd H
 refine Tr.VR 4 [(1, (.pointer (some ⟨QM, 0, none⟩))), (10, (.bool zFT))] [(1, bx QM #[(iv p0.X0), (iv p0.Y0), (iv p0.X1), (iv p0.Y1)] 36)] ?_ ?_
 ·cases hg110 : y101
  ·rw [hg110] at Wq
   rw [if_neg (by decide)] at Wq
   have H := Wq
   obtain rfl := Option.some.inj H
   refine Tr.pass rfl rfl rfl rfl rfl (by decide) ?_
   refine Tr.pass rfl rfl rfl rfl rfl (by decide) ?_
   refine Tr.pass rfl rfl rfl rfl rfl (by decide) ?_
   refine Tr.va rfl (fun _ _ h1 h2 => zf (h1.ev rfl) (h1.ev rfl)) ?_
   exact Tr.nil (Tr.Qo (.cons rfl (.cons rfl .nil)) (.cons rfl .nil))
  ·rw [hg110] at Wq
   rw [if_pos rfl] at Wq
   have H := Wq
   refine Tr.val (wg rfl rfl rfl) rfl (fun _ _ h1 h2 => zB zCa (h1.ev rfl)) ?_
   refine Tr.val (wg rfl rfl rfl) rfl (fun _ _ h1 h2 => zC QO (h1.ev rfl) (rdb h2 (vs := [(iv p0.X0), (iv p0.Y0), (iv p0.X1), (iv p0.Y1)]) (k := 1) rfl 1) rfl) ?_
   obtain ⟨y104, hy104, H⟩ := bnd H
   refine Tr.Qp (r := (.bool y104)) (wg rfl rfl rfl) rfl Tryz.call129 (zF rfl zO) (fun W hW => Wx p0.Y0 y104 hy104 (HF.start _)) ?_
   refine Tr.va rfl (fun _ _ h1 h2 => ze (h1.ev rfl) (h1.ev rfl)) ?_
   obtain rfl := Option.some.inj H
   exact Tr.nil (Tr.Qo (.cons rfl (.cons rfl .nil)) (.cons rfl .nil))
 ·show Tr _ _ (LF [(1, (.pointer (some ⟨QM, 0, none⟩))), (10, (.bool zFT))]) (LE [(1, bx QM #[(iv p0.X0), (iv p0.Y0), (iv p0.X1), (iv p0.Y1)] 36)]) _
  refine Tr.mv rfl rfl ?_
  obtain ⟨g106, zDH, H⟩ := bnd H
  refine Tr.VR 4 [(1, (.pointer (some ⟨QM, 0, none⟩))), (15, (.bool g106))] [(1, bx QM #[(iv p0.X0), (iv p0.Y0), (iv p0.X1), (iv p0.Y1)] 36)] ?_ ?_
  ·cases hg110 : zFT
   ·rw [hg110] at zDH
    rw [if_neg (by decide)] at zDH
    have H := zDH
    obtain rfl := Option.some.inj H
    refine Tr.pass rfl rfl rfl rfl rfl (by decide) ?_
    refine Tr.pass rfl rfl rfl rfl rfl (by decide) ?_
    refine Tr.pass rfl rfl rfl rfl rfl (by decide) ?_
    refine Tr.va rfl (fun _ _ h1 h2 => zf (h1.ev rfl) (h1.ev rfl)) ?_
    exact Tr.nil (Tr.Qo (.cons rfl (.cons rfl .nil)) (.cons rfl .nil))
   ·rw [hg110] at zDH
    rw [if_pos rfl] at zDH
    have H := zDH
    refine Tr.val (wg rfl rfl rfl) rfl (fun _ _ h1 h2 => zB zC2 (h1.ev rfl)) ?_
    refine Tr.val (wg rfl rfl rfl) rfl (fun _ _ h1 h2 => zC QO (h1.ev rfl) (rdb h2 (vs := [(iv p0.X0), (iv p0.Y0), (iv p0.X1), (iv p0.Y1)]) (k := 1) rfl 2) rfl) ?_
    obtain ⟨JJ, hy107, H⟩ := bnd H
    refine Tr.Qp (r := (.bool JJ)) (wg rfl rfl rfl) rfl Tryz.call129 (zF rfl zO) (fun W hW => Wx p0.X1 JJ hy107 (HF.start _)) ?_
    refine Tr.va rfl (fun _ _ h1 h2 => ze (h1.ev rfl) (h1.ev rfl)) ?_
    obtain rfl := Option.some.inj H
    exact Tr.nil (Tr.Qo (.cons rfl (.cons rfl .nil)) (.cons rfl .nil))
  ·show Tr _ _ (LF [(1, (.pointer (some ⟨QM, 0, none⟩))), (15, (.bool g106))]) (LE [(1, bx QM #[(iv p0.X0), (iv p0.Y0), (iv p0.X1), (iv p0.Y1)] 36)]) _
   refine Tr.mv rfl rfl ?_
   obtain ⟨g109, zGN, H⟩ := bnd H
   refine Tr.VR 4 [(20, (.bool g109))] [(1, bx QM #[(iv p0.X0), (iv p0.Y0), (iv p0.X1), (iv p0.Y1)] 36)] ?_ ?_
   ·cases hg110 : g106
    ·rw [hg110] at zGN
     rw [if_neg (by decide)] at zGN
     have H := zGN
     obtain rfl := Option.some.inj H
     refine Tr.pass rfl rfl rfl rfl rfl (by decide) ?_
     refine Tr.pass rfl rfl rfl rfl rfl (by decide) ?_
     refine Tr.pass rfl rfl rfl rfl rfl (by decide) ?_
     refine Tr.va rfl (fun _ _ h1 h2 => zf (h1.ev rfl) (h1.ev rfl)) ?_
     exact Tr.nil (Tr.Qo (.cons rfl .nil) (.cons rfl .nil))
    ·rw [hg110] at zGN
     rw [if_pos rfl] at zGN
     have H := zGN
     refine Tr.val (wg rfl rfl rfl) rfl (fun _ _ h1 h2 => zB zDX (h1.ev rfl)) ?_
     refine Tr.val (wg rfl rfl rfl) rfl (fun _ _ h1 h2 => zC QO (h1.ev rfl) (rdb h2 (vs := [(iv p0.X0), (iv p0.Y0), (iv p0.X1), (iv p0.Y1)]) (k := 1) rfl 3) rfl) ?_
     obtain ⟨zBj, zKB, H⟩ := bnd H
     refine Tr.Qp (r := (.bool zBj)) (wg rfl rfl rfl) rfl Tryz.call129 (zF rfl zO) (fun W hW => Wx p0.Y1 zBj zKB (HF.start _)) ?_
     refine Tr.va rfl (fun _ _ h1 h2 => ze (h1.ev rfl) (h1.ev rfl)) ?_
     obtain rfl := Option.some.inj H
     exact Tr.nil (Tr.Qo (.cons rfl .nil) (.cons rfl .nil))
   ·show Tr _ _ (LF [(20, (.bool g109))]) (LE [(1, bx QM #[(iv p0.X0), (iv p0.Y0), (iv p0.X1), (iv p0.Y1)] 36)]) _
    refine Tr.asg rfl rfl (Tr.nil (Tr.zA (Tr.ret ?_)))
    obtain rfl := Option.some.inj H
    exact Tr.out (m := [(.bool g109)]) [] (zP rfl zQ) (fun W hW => ⟨rfl, hW.low leB⟩)

theorem zIC {w : Bs} (p0 : (List zV)) (QA : Option Addr) (QB : Nat) (QE : Sl w.R w.W zJ QA QB p0) (r : Bool) (H : zAX p0 = some r) (hE : HF w w.W E0) : Calls Tryz.prog 154 [(.slice QA p0.length QB)].toArray w.W fun e W' => e = .returned (.bool r) ∧ HF w W' E0 := by
 unfold zAX at H
 have leB := Bs.Le.refl w
 refine Tr.enter (n := 11) Tryz.func154 rfl rfl rfl hE ?_
 refine Tr.sr (Tr.asg rfl rfl (Tr.nil (Tr.zA (Tr.sr (Tr.mv rfl rfl (Tr.va rfl (fun _ _ h1 h2 => zq zEE (h1.ev rfl)) ?_))))))
 refine Tr.va rfl (fun _ _ h1 h2 => Qk (h1.ev rfl) (h1.ev rfl)) ?_
 refine Tr.mv rfl rfl ?_
 obtain ⟨g102, zGO, H⟩ := bnd H
 refine Tr.VR 4 [(10, (.bool g102))] [] ?_ ?_
 ·cases hg104 : ((p0.length : Int) == 0)
  ·rw [hg104] at zGO
   rw [if_neg (by decide)] at zGO
   have H := zGO
   refine Tr.val (wg rfl rfl rfl) rfl (fun _ _ h1 h2 => run_move (h1.ev rfl)) ?_
   obtain ⟨QJ, zCy, H⟩ := bnd H
   refine Tr.Qp (r := (.agg #[(iv QJ.X0), (iv QJ.Y0), (iv QJ.X1), (iv QJ.Y1)])) (wg rfl rfl rfl) rfl Tryz.call170 (zF rfl zO) (fun W hW => zG9 p0 QA QB (QE.ext hW.QZ) QJ zCy (HF.start _)) ?_
   obtain ⟨y104, hy104, H⟩ := bnd H
   refine Tr.Qp (r := (.bool y104)) (wg rfl rfl rfl) rfl Tryz.call108 (zF rfl zO) (fun W hW => zKc QJ y104 hy104 (HF.start _)) ?_
   refine Tr.va rfl (fun _ _ h1 h2 => zf (h1.ev rfl) (h1.ev rfl)) ?_
   obtain rfl := Option.some.inj H
   exact Tr.nil (Tr.Qo (.cons rfl .nil) .nil)
  ·rw [hg104] at zGO
   rw [if_pos rfl] at zGO
   have H := zGO
   obtain rfl := Option.some.inj H
   refine Tr.pass rfl rfl rfl rfl rfl (by decide) ?_
   refine Tr.pass rfl rfl rfl rfl rfl (by decide) ?_
   refine Tr.pass rfl rfl rfl rfl rfl (by decide) ?_
   refine Tr.va rfl (fun _ _ h1 h2 => ze (h1.ev rfl) (h1.ev rfl)) ?_
   exact Tr.nil (Tr.Qo (.cons rfl .nil) .nil)
 ·show Tr _ _ (LF [(10, (.bool g102))]) (LE []) _
  refine Tr.asg rfl rfl (Tr.nil (Tr.zA (Tr.ret ?_)))
  obtain rfl := Option.some.inj H
  exact Tr.out (m := [(.bool g102)]) [] (zP rfl zQ) (fun W hW => ⟨rfl, hW.low leB⟩)

theorem zFL {w : Bs} (p0 : (List zV)) (QA : Option Addr) (QB : Nat) (QE : Sl w.O w.W zJ QA QB p0) (p1 : Int) (p2 : Int) (r : ((List Int) × Int)) (H : Wt p0 p1 p2 = some r) (hE : HF w w.W (LEn [])) : Calls Tryz.prog 90 [(.slice QA p0.length QB), (iv p1), (iv p2)].toArray w.W fun e W' => ∃ (w' : Bs) (u : (Option Addr × Nat)), w.Le w' ∧ e = .returned (.tuple #[(.slice u.1 r.1.length u.2), (iv r.2)]) ∧ (Sl w'.O w'.W zn u.1 u.2 r.1) ∧ HF w' W' (LEn []) := by
 unfold Wt at H
 have leB := Bs.Le.refl w
 refine Tr.enter (n := 36) Tryz.func90 rfl rfl rfl hE ?_
 refine Tr.sr (Tr.asg rfl rfl (Tr.JS 1 3 zn ?_))
 show Tr _ _ (uf _ 6 (.slice none (([] : List Int)).length 0)) _ _
 refine Tr.asg rfl rfl (Tr.nil (Tr.zA (Tr.seq (Tr.block (Tr.sr (Tr.mv rfl rfl (Tr.va rfl (fun _ _ h1 h2 => zq zEE (h1.ev rfl)) ?_)))))))
 refine Tr.va rfl (fun _ _ h1 h2 => Qk (h1.ev rfl) (h1.ev rfl)) ?_
 refine Tr.asg rfl rfl (Tr.nil (Tr.zA (Tr.cond rfl H (fun H => ?_) (fun H => ?_))))
 ·refine Tr.sr (Tr.mv rfl rfl (Tr.asg rfl rfl (Tr.JS 2 3 zn ?_)))
  show Tr _ _ (uf _ 6 (.slice none (([] : List Int)).length 0)) _ _
  refine Tr.asg rfl rfl (Tr.nil (Tr.zA (Tr.ret (Tr.zAB (Tr.zU ?_)))))
  obtain rfl := Option.some.inj H
  refine Tr.freeze 2 rfl fun w zAj hz100 => ?_
  replace leB := leB.trans zAj
  exact Tr.out (m := [(.slice none (([] : List Int)).length 0), (iv p2)]) [] (zP rfl (zP rfl zQ)) (fun W hW => ⟨w, (none, 0), leB, rfl, hz100, hW.pick (ks := []) (by decide) zY⟩)
 ·refine Tr.sr (Tr.mv rfl rfl (Tr.mv rfl rfl ?_))
  obtain ⟨x102, hx102, H⟩ := bnd H
  obtain ⟨hx1020, hx1021, hx1022⟩ := zh hx102
  obtain ⟨u103, hRu103, hoku103, hcu103⟩ := (QE).el hx1022
  obtain ⟨zKm, cu103_0⟩ := u103
  have zGL := hoku103
  replace hRu103 : w.R (adB QA) := Or.inl hRu103
  refine Tr.va rfl (fun _ _ h1 h2 => zH zCB (h1.ev rfl) QE.form (h1.ev rfl) hx1020 hx1021) ?_
  refine Tr.va rfl (fun _ _ h1 h2 => zB zDt (h1.ev rfl)) ?_
  refine Tr.va rfl (fun _ _ h1 h2 => zC QO (h1.ev rfl) (zL.drop (rdR hRu103 hcu103 h2) 0) rfl) ?_
  refine Tr.va rfl (fun _ _ h1 h2 => zz (h1.ev rfl) (h1.ev rfl)) ?_
  refine Tr.asg rfl rfl (Tr.nil (Tr.zA (Tr.cond rfl H (fun H => ?_) (fun H => ?_))))
  ·refine Tr.seq (Tr.draw (by kernel_rfl) (by kernel_rfl) ?_)
   refine Tq.mv rfl rfl (Tq.mv rfl rfl ?_)
   obtain ⟨x104, hx104, H⟩ := bnd H
   obtain ⟨hx1040, hx1041, hx1042⟩ := zh hx104
   obtain ⟨u105, hRu105, hoku105, hcu105⟩ := (QE).el hx1042
   obtain ⟨Au105_0, cu105_0⟩ := u105
   have zIa := hoku105
   replace hRu105 : w.R (adB QA) := Or.inl hRu105
   refine Tq.va rfl (fun _ _ h1 h2 => zH zCB (h1.ev rfl) QE.form (h1.ev rfl) hx1040 hx1041) ?_
   refine Tq.va rfl (fun _ _ h1 h2 => zB zDt (h1.ev rfl)) ?_
   refine Tq.va rfl (fun _ _ h1 h2 => zC QO (h1.ev rfl) (zL.drop (rdR hRu105 hcu105 h2) 0) rfl) ?_
   refine Tq.va rfl (fun _ _ h1 h2 => zFY (h1.ev rfl) (h1.ev rfl) _) ?_
   refine Tq.asg rfl rfl (Tq.asg rfl rfl (Tq.nil (Tr.zA (Tr.ret (Tr.zAB (Tr.zU ?_))))))
   obtain rfl := Option.some.inj H
   exact Tr.out (m := [(.slice none 0 0), (iv (min p2 x104.Y0))]) [] (zP rfl (zP rfl zQ)) (fun W hW => ⟨w, (none, 0), leB, rfl, (Sl.nil _ _ _), hW.pick (ks := []) (by decide) zY⟩)
  ·refine Tr.skip (Tr.zW (Tr.zA ?_))
   refine Tr.seq (Tr.draw (by kernel_rfl) (by kernel_rfl) ?_)
   refine Tq.mv rfl rfl ?_
   obtain ⟨x106, hx106, H⟩ := bnd H
   obtain ⟨hx1060, hx1061, hx1062⟩ := zh hx106
   obtain ⟨u107, hRu107, hoku107, hcu107⟩ := (QE).el hx1062
   obtain ⟨zCe, zCc⟩ := u107
   have zDS := hoku107
   replace zDS : Sl w.O w.W zn zCe zCc x106.Xs := zDS
   replace hRu107 : w.R (adB QA) := Or.inl hRu107
   refine Tq.va rfl (fun _ _ h1 h2 => zH zCB (h1.ev rfl) QE.form (h1.ev rfl) hx1060 hx1061) ?_
   refine Tq.va rfl (fun _ _ h1 h2 => zB zAk (h1.ev rfl)) ?_
   refine Tq.va rfl (fun _ _ h1 h2 => zC zCT (h1.ev rfl) (zL.drop (rdR hRu107 hcu107 h2) 2) rfl) ?_
   refine Tq.mv rfl rfl (Tq.mv rfl rfl ?_)
   obtain ⟨zAy, zKC, H⟩ := bnd H
   obtain ⟨zGq, zGp, zGo⟩ := zh zKC
   obtain ⟨u109, hRu109, hoku109, hcu109⟩ := (QE).el zGo
   obtain ⟨Au109_0, cu109_0⟩ := u109
   have zIW := hoku109
   replace hRu109 : w.R (adB QA) := Or.inl hRu109
   refine Tq.va rfl (fun _ _ h1 h2 => zH zCB (h1.ev rfl) QE.form (h1.ev rfl) zGq zGp) ?_
   refine Tq.va rfl (fun _ _ h1 h2 => zB zBr (h1.ev rfl)) ?_
   refine Tq.va rfl (fun _ _ h1 h2 => zC QO (h1.ev rfl) (zL.drop (rdR hRu109 hcu109 h2) 1) rfl) ?_
   refine Tq.va rfl (fun _ _ h1 h2 => zFY (h1.ev rfl) (h1.ev rfl) _) ?_
   refine Tq.asg rfl rfl (Tq.asg rfl rfl (Tq.nil (Tr.zA (Tr.ret ?_))))
   obtain rfl := Option.some.inj H
   exact Tr.out (m := [(.slice zCe x106.Xs.length zCc), (iv (min p2 zAy.Y1))]) [] (zP rfl (zP rfl zQ)) (fun W hW => ⟨w, (zCe, zCc), leB, rfl, zDS, hW.pick (ks := []) (by decide) zY⟩)

end Go.Proofs.YtoageaoknnnfbaaGreatDoor
