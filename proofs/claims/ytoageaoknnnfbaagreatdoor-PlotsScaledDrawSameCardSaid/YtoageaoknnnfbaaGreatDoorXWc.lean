/- The walks: each function computes its plain function. -/
import Derived.Test.YtoageaoknnnfbaaGreatDoorXWb
namespace Go.Proofs.YtoageaoknnnfbaaGreatDoor
open Go.RowKit
set_option maxRecDepth 100000
set_option maxHeartbeats 1000000
theorem F_etchhouseref3_SamePlot_ok (N : Nat) {w : Bs} (p0 : zt) (Ap0_0 : Option Addr) (cp0_0 : Nat) (hp0_0 : Sl w.R w.W zK Ap0_0 cp0_0 p0.Tools) (Ap0_1 : Option Addr) (cp0_1 : Nat) (hp0_1 : Sl w.R w.W zG Ap0_1 cp0_1 p0.Steps) (p1 : zt) (Ap1_0 : Option Addr) (cp1_0 : Nat) (hp1_0 : Sl w.R w.W zK Ap1_0 cp1_0 p1.Tools) (Ap1_1 : Option Addr) (cp1_1 : Nat) (hp1_1 : Sl w.R w.W zG Ap1_1 cp1_1 p1.Steps) (r : Bool) (H : F_etchhouseref3_SamePlot N p0 p1 = some r) (hE : HF w w.W E0) : Calls Tryz.prog 9 [(.agg #[(iv p0.Unit), (.slice Ap0_0 (p0.Tools).length cp0_0), (.slice Ap0_1 (p0.Steps).length cp0_1)]), (.agg #[(iv p1.Unit), (.slice Ap1_0 (p1.Tools).length cp1_0), (.slice Ap1_1 (p1.Steps).length cp1_1)])].toArray w.W fun e W' => e = .returned (.bool r) ∧ HF w W' E0 := by
 unfold F_etchhouseref3_SamePlot at H
 have leB := Bs.Le.refl w
 refine Tr.enter (n := 64) Tryz.func9 rfl rfl rfl hE ?_
 refine Tr.sr ?_
 refine Tr.box 1 (cs := [(iv p0.Unit), (.slice Ap0_0 (p0.Tools).length cp0_0), (.slice Ap0_1 (p0.Steps).length cp0_1)]) (wn rfl) rfl rfl rfl fun b100 => ?_
 refine Tr.box 2 (cs := [(iv p1.Unit), (.slice Ap1_0 (p1.Tools).length cp1_0), (.slice Ap1_1 (p1.Steps).length cp1_1)]) (wn rfl) rfl rfl rfl fun b101 => ?_
 refine Tr.asg rfl rfl ?_
 refine Tr.nil (Tr.zA ?_)
 refine Tr.seq ?_
 refine Tr.sr ?_
 refine Tr.va rfl (fun _ _ h1 h2 => zB fo_25_0 (h1.ev rfl)) ?_
 refine Tr.va rfl (fun _ _ h1 h2 => zC ag_3 (h1.ev rfl) (rdb h2 (vs := [(iv p0.Unit), (.slice Ap0_0 (p0.Tools).length cp0_0), (.slice Ap0_1 (p0.Steps).length cp0_1)]) (k := 1) rfl 0) rfl) ?_
 refine Tr.va rfl (fun _ _ h1 h2 => zB fo_25_0 (h1.ev rfl)) ?_
 refine Tr.va rfl (fun _ _ h1 h2 => zC ag_3 (h1.ev rfl) (rdb h2 (vs := [(iv p1.Unit), (.slice Ap1_0 (p1.Tools).length cp1_0), (.slice Ap1_1 (p1.Steps).length cp1_1)]) (k := 2) rfl 0) rfl) ?_
 refine Tr.va rfl (fun _ _ h1 h2 => run_neq (h1.ev rfl) (h1.ev rfl)) ?_
 refine Tr.mv rfl rfl ?_
 refine Tr.mid0 8 [(2, (.pointer (some ⟨b100, 0, none⟩))), (3, (.pointer (some ⟨b101, 0, none⟩))), (19, (.bool ((p0.Unit != p1.Unit) || ((p0.Tools.length : Int) != (p1.Tools.length : Int)))))] [(1, bx b100 #[(iv p0.Unit), (.slice Ap0_0 (p0.Tools).length cp0_0), (.slice Ap0_1 (p0.Steps).length cp0_1)] 25), (2, bx b101 #[(iv p1.Unit), (.slice Ap1_0 (p1.Tools).length cp1_0), (.slice Ap1_1 (p1.Steps).length cp1_1)] 25)] ?_ ?_
 ·cases hg153 : (p0.Unit != p1.Unit)
  ·refine Tr.val (wg rfl rfl rfl) rfl (fun _ _ h1 h2 => zB fo_25_1 (h1.ev rfl)) ?_
   refine Tr.val (wg rfl rfl rfl) rfl (fun _ _ h1 h2 => zC ag_22 (h1.ev rfl) (rdb h2 (vs := [(iv p0.Unit), (.slice Ap0_0 (p0.Tools).length cp0_0), (.slice Ap0_1 (p0.Steps).length cp0_1)]) (k := 1) rfl 1) rfl) ?_
   refine Tr.val (wg rfl rfl rfl) rfl (fun _ _ h1 h2 => zq un_22 (h1.ev rfl)) ?_
   refine Tr.val (wg rfl rfl rfl) rfl (fun _ _ h1 h2 => zB fo_25_1 (h1.ev rfl)) ?_
   refine Tr.val (wg rfl rfl rfl) rfl (fun _ _ h1 h2 => zC ag_22 (h1.ev rfl) (rdb h2 (vs := [(iv p1.Unit), (.slice Ap1_0 (p1.Tools).length cp1_0), (.slice Ap1_1 (p1.Steps).length cp1_1)]) (k := 2) rfl 1) rfl) ?_
   refine Tr.val (wg rfl rfl rfl) rfl (fun _ _ h1 h2 => zq un_22 (h1.ev rfl)) ?_
   refine Tr.val (wg rfl rfl rfl) rfl (fun _ _ h1 h2 => run_neq (h1.ev rfl) (h1.ev rfl)) ?_
   refine Tr.va rfl (fun _ _ h1 h2 => zf (h1.ev rfl) (h1.ev rfl)) ?_
   exact Tr.nil (Tr.fin0 (.cons rfl (.cons rfl (.cons rfl .nil))) (.cons rfl (.cons rfl .nil)))
  ·refine Tr.pass rfl rfl rfl rfl rfl (by decide) ?_
   refine Tr.pass rfl rfl rfl rfl rfl (by decide) ?_
   refine Tr.pass rfl rfl rfl rfl rfl (by decide) ?_
   refine Tr.pass rfl rfl rfl rfl rfl (by decide) ?_
   refine Tr.pass rfl rfl rfl rfl rfl (by decide) ?_
   refine Tr.pass rfl rfl rfl rfl rfl (by decide) ?_
   refine Tr.pass rfl rfl rfl rfl rfl (by decide) ?_
   refine Tr.va rfl (fun _ _ h1 h2 => ze (h1.ev rfl) (h1.ev rfl)) ?_
   exact Tr.nil (Tr.fin0 (.cons rfl (.cons rfl (.cons rfl .nil))) (.cons rfl (.cons rfl .nil)))
 ·show Tr _ _ (LF [(2, (.pointer (some ⟨b100, 0, none⟩))), (3, (.pointer (some ⟨b101, 0, none⟩))), (19, (.bool ((p0.Unit != p1.Unit) || ((p0.Tools.length : Int) != (p1.Tools.length : Int)))))]) (LE [(1, bx b100 #[(iv p0.Unit), (.slice Ap0_0 (p0.Tools).length cp0_0), (.slice Ap0_1 (p0.Steps).length cp0_1)] 25), (2, bx b101 #[(iv p1.Unit), (.slice Ap1_0 (p1.Tools).length cp1_0), (.slice Ap1_1 (p1.Steps).length cp1_1)] 25)]) _
  refine Tr.mv rfl rfl ?_
  obtain ⟨g103, hg103, H⟩ := bnd H
  refine Tr.mid0 7 [(2, (.pointer (some ⟨b100, 0, none⟩))), (3, (.pointer (some ⟨b101, 0, none⟩))), (27, (.bool g103))] [(1, bx b100 #[(iv p0.Unit), (.slice Ap0_0 (p0.Tools).length cp0_0), (.slice Ap0_1 (p0.Steps).length cp0_1)] 25), (2, bx b101 #[(iv p1.Unit), (.slice Ap1_0 (p1.Tools).length cp1_0), (.slice Ap1_1 (p1.Steps).length cp1_1)] 25)] ?_ ?_
  ·cases hg153 : ((p0.Unit != p1.Unit) || ((p0.Tools.length : Int) != (p1.Tools.length : Int)))
   ·rw [hg153] at hg103
    rw [if_neg (by decide)] at hg103
    have H := hg103
    refine Tr.val (wg rfl rfl rfl) rfl (fun _ _ h1 h2 => zB fo_25_2 (h1.ev rfl)) ?_
    refine Tr.val (wg rfl rfl rfl) rfl (fun _ _ h1 h2 => zC ag_23 (h1.ev rfl) (rdb h2 (vs := [(iv p0.Unit), (.slice Ap0_0 (p0.Tools).length cp0_0), (.slice Ap0_1 (p0.Steps).length cp0_1)]) (k := 1) rfl 2) rfl) ?_
    refine Tr.val (wg rfl rfl rfl) rfl (fun _ _ h1 h2 => zB fo_25_2 (h1.ev rfl)) ?_
    refine Tr.val (wg rfl rfl rfl) rfl (fun _ _ h1 h2 => zC ag_23 (h1.ev rfl) (rdb h2 (vs := [(iv p1.Unit), (.slice Ap1_0 (p1.Tools).length cp1_0), (.slice Ap1_1 (p1.Steps).length cp1_1)]) (k := 2) rfl 2) rfl) ?_
    obtain ⟨y104, hy104, H⟩ := bnd H
    refine Tr.call0 (r := (.bool y104)) (wg rfl rfl rfl) rfl Tryz.call26 (zF rfl (zF rfl zO)) (fun W hW => F_etchhouseref3_sameSteps_ok N p0.Steps Ap0_1 cp0_1 (hp0_1.ext hW.extAll) p1.Steps Ap1_1 cp1_1 (hp1_1.ext hW.extAll) y104 hy104 (HF.start _)) ?_
    refine Tr.val (wg rfl rfl rfl) rfl (fun _ _ h1 h2 => run_not (h1.ev rfl)) ?_
    refine Tr.va rfl (fun _ _ h1 h2 => zf (h1.ev rfl) (h1.ev rfl)) ?_
    obtain rfl := Option.some.inj H
    exact Tr.nil (Tr.fin0 (.cons rfl (.cons rfl (.cons rfl .nil))) (.cons rfl (.cons rfl .nil)))
   ·rw [hg153] at hg103
    rw [if_pos rfl] at hg103
    have H := hg103
    obtain rfl := Option.some.inj H
    refine Tr.pass rfl rfl rfl rfl rfl (by decide) ?_
    refine Tr.pass rfl rfl rfl rfl rfl (by decide) ?_
    refine Tr.pass rfl rfl rfl rfl rfl (by decide) ?_
    refine Tr.pass rfl rfl rfl rfl rfl (by decide) ?_
    refine Tr.pass rfl rfl rfl rfl rfl (by decide) ?_
    refine Tr.pass rfl rfl rfl rfl rfl (by decide) ?_
    refine Tr.va rfl (fun _ _ h1 h2 => ze (h1.ev rfl) (h1.ev rfl)) ?_
    exact Tr.nil (Tr.fin0 (.cons rfl (.cons rfl (.cons rfl .nil))) (.cons rfl (.cons rfl .nil)))
  ·show Tr _ _ (LF [(2, (.pointer (some ⟨b100, 0, none⟩))), (3, (.pointer (some ⟨b101, 0, none⟩))), (27, (.bool g103))]) (LE [(1, bx b100 #[(iv p0.Unit), (.slice Ap0_0 (p0.Tools).length cp0_0), (.slice Ap0_1 (p0.Steps).length cp0_1)] 25), (2, bx b101 #[(iv p1.Unit), (.slice Ap1_0 (p1.Tools).length cp1_0), (.slice Ap1_1 (p1.Steps).length cp1_1)] 25)]) _
   refine Tr.nil (Tr.zA ?_)
   refine Tr.cond rfl H (fun H => ?_) (fun H => ?_)
   ·refine Tr.sr ?_
    refine Tr.asg rfl rfl ?_
    refine Tr.nil (Tr.zA ?_)
    refine Tr.ret (Tr.zU ?_)
    obtain rfl := Option.some.inj H
    exact Tr.out (m := [(.bool false)]) [] (zP rfl zQ) (fun W hW => ⟨rfl, hW.low leB⟩)
   ·refine Tr.skip (Tr.zA ?_)
    refine Tr.seq ?_
    refine Tr.sr ?_
    refine Tr.asg rfl rfl ?_
    refine Tr.nil (Tr.zA ?_)
    refine Tr.block ?_
    refine Tr.loop (σ := Int) (fun m w s => F_etchhouseref3_SamePlot_L1 N p0 p1 m s = some r) (fun s => [(2, (.pointer (some ⟨b100, 0, none⟩))), (3, (.pointer (some ⟨b101, 0, none⟩))), (5, (iv s))]) (fun s => [(1, bx b100 #[(iv p0.Unit), (.slice Ap0_0 (p0.Tools).length cp0_0), (.slice Ap0_1 (p0.Steps).length cp0_1)] 25), (2, bx b101 #[(iv p1.Unit), (.slice Ap1_0 (p1.Tools).length cp1_0), (.slice Ap1_1 (p1.Steps).length cp1_1)] 25)]) N 0 H (.cons rfl (.cons rfl (.cons rfl .nil))) (.cons rfl (.cons rfl .nil)) (fun _ _ h => noSome (h)) ?_
    intro w leL1 mL1 x138 hs
    have H := hs
    replace H : F_etchhouseref3_SamePlot_L1 N p0 p1 (mL1 + 1) x138 = some r := H
    replace hp0_0 := hp0_0.leR leL1
    replace hp0_1 := hp0_1.leR leL1
    replace hp1_0 := hp1_0.leR leL1
    replace hp1_1 := hp1_1.leR leL1
    replace leB := leB.trans leL1
    rw [F_etchhouseref3_SamePlot_L1.eq_2] at H
    show Tr _ _ (LF [(2, (.pointer (some ⟨b100, 0, none⟩))), (3, (.pointer (some ⟨b101, 0, none⟩))), (5, (iv x138))]) (LE [(1, bx b100 #[(iv p0.Unit), (.slice Ap0_0 (p0.Tools).length cp0_0), (.slice Ap0_1 (p0.Steps).length cp0_1)] 25), (2, bx b101 #[(iv p1.Unit), (.slice Ap1_0 (p1.Tools).length cp1_0), (.slice Ap1_1 (p1.Steps).length cp1_1)] 25)]) _
    refine Tr.seq ?_
    refine Tr.sr ?_
    refine Tr.mv rfl rfl ?_
    refine Tr.va rfl (fun _ _ h1 h2 => zB fo_25_1 (h1.ev rfl)) ?_
    refine Tr.va rfl (fun _ _ h1 h2 => zC ag_22 (h1.ev rfl) (rdb h2 (vs := [(iv p0.Unit), (.slice Ap0_0 (p0.Tools).length cp0_0), (.slice Ap0_1 (p0.Steps).length cp0_1)]) (k := 1) rfl 1) rfl) ?_
    refine Tr.va rfl (fun _ _ h1 h2 => zq un_22 (h1.ev rfl)) ?_
    refine Tr.va rfl (fun _ _ h1 h2 => zz (h1.ev rfl) (h1.ev rfl)) ?_
    refine Tr.nil (Tr.zA ?_)
    refine Tr.cond rfl H (fun H => ?_) (fun H => ?_)
    ·refine Tr.skip (Tr.zA ?_)
     refine Tr.seq ?_
     refine Tr.block ?_
     refine Tr.seq ?_
     refine Tr.draw (by kernel_rfl) (by kernel_rfl) ?_
     refine Tq.va rfl (fun _ _ h1 h2 => zB fo_25_1 (h1.ev rfl)) ?_
     refine Tq.va rfl (fun _ _ h1 h2 => zC ag_22 (h1.ev rfl) (rdb h2 (vs := [(iv p0.Unit), (.slice Ap0_0 (p0.Tools).length cp0_0), (.slice Ap0_1 (p0.Steps).length cp0_1)]) (k := 1) rfl 1) rfl) ?_
     refine Tq.mv rfl rfl ?_
     obtain ⟨x139, hx139, H⟩ := bnd H
     obtain ⟨hx1390, hx1391, hx1392⟩ := zh hx139
     obtain ⟨u140, hRu140, hoku140, hcu140⟩ := (hp0_0).el hx1392
     obtain ⟨Au140_0, cu140_0⟩ := u140
     have hoku140_0 := hoku140
     replace hoku140_0 : Sl w.R w.W zN Au140_0 cu140_0 x139.Rects := hoku140_0
     refine Tq.va rfl (fun _ _ h1 h2 => zH el_22 (h1.ev rfl) hp0_0.form (h1.ev rfl) hx1390 hx1391) ?_
     refine Tq.va rfl (fun _ _ h1 h2 => zB fo_64_0 (h1.ev rfl)) ?_
     refine Tq.va rfl (fun _ _ h1 h2 => zC ag_9 (h1.ev rfl) (zL.drop (rdR hRu140 hcu140 h2) 0) rfl) ?_
     refine Tq.va rfl (fun _ _ h1 h2 => zB fo_25_1 (h1.ev rfl)) ?_
     refine Tq.va rfl (fun _ _ h1 h2 => zC ag_22 (h1.ev rfl) (rdb h2 (vs := [(iv p1.Unit), (.slice Ap1_0 (p1.Tools).length cp1_0), (.slice Ap1_1 (p1.Steps).length cp1_1)]) (k := 2) rfl 1) rfl) ?_
     refine Tq.mv rfl rfl ?_
     obtain ⟨x141, hx141, H⟩ := bnd H
     obtain ⟨hx1410, hx1411, hx1412⟩ := zh hx141
     obtain ⟨u142, hRu142, hoku142, hcu142⟩ := (hp1_0).el hx1412
     obtain ⟨Au142_0, cu142_0⟩ := u142
     have hoku142_0 := hoku142
     replace hoku142_0 : Sl w.R w.W zN Au142_0 cu142_0 x141.Rects := hoku142_0
     refine Tq.va rfl (fun _ _ h1 h2 => zH el_22 (h1.ev rfl) hp1_0.form (h1.ev rfl) hx1410 hx1411) ?_
     refine Tq.va rfl (fun _ _ h1 h2 => zB fo_64_0 (h1.ev rfl)) ?_
     refine Tq.va rfl (fun _ _ h1 h2 => zC ag_9 (h1.ev rfl) (zL.drop (rdR hRu142 hcu142 h2) 0) rfl) ?_
     refine Tq.va rfl (fun _ _ h1 h2 => run_neqS (h1.ev rfl) (h1.ev rfl)) ?_
     refine Tq.mv rfl rfl ?_
     obtain ⟨g148, hg148, H⟩ := bnd H
     refine Tq.mid 15 [(2, (.pointer (some ⟨b100, 0, none⟩))), (3, (.pointer (some ⟨b101, 0, none⟩))), (5, (iv x138)), (63, (.bool g148))] ?_ ?_
     ·cases hg153 : (!sEq x139.Name x141.Name)
      ·rw [hg153] at hg148
       rw [if_neg (by decide)] at hg148
       have H := hg148
       refine Tq.val (wg rfl rfl rfl) rfl (fun _ _ h1 h2 => zB fo_25_1 (h1.ev rfl)) ?_
       refine Tq.val (wg rfl rfl rfl) rfl (fun _ _ h1 h2 => zC ag_22 (h1.ev rfl) (rdb h2 (vs := [(iv p0.Unit), (.slice Ap0_0 (p0.Tools).length cp0_0), (.slice Ap0_1 (p0.Steps).length cp0_1)]) (k := 1) rfl 1) rfl) ?_
       refine Tq.val (wg rfl rfl rfl) rfl (fun _ _ h1 h2 => run_move (h1.ev rfl)) ?_
       obtain ⟨x149, hx149, H⟩ := bnd H
       obtain ⟨hx1490, hx1491, hx1492⟩ := zh hx149
       obtain ⟨u150, hRu150, hoku150, hcu150⟩ := (hp0_0).el hx1492
       obtain ⟨Au150_0, cu150_0⟩ := u150
       have hoku150_0 := hoku150
       replace hoku150_0 : Sl w.R w.W zN Au150_0 cu150_0 x149.Rects := hoku150_0
       refine Tq.val (wg rfl rfl rfl) rfl (fun _ _ h1 h2 => zH el_22 (h1.ev rfl) hp0_0.form (h1.ev rfl) hx1490 hx1491) ?_
       refine Tq.val (wg rfl rfl rfl) rfl (fun _ _ h1 h2 => zB fo_64_1 (h1.ev rfl)) ?_
       refine Tq.val (wg rfl rfl rfl) rfl (fun _ _ h1 h2 => zC ag_31 (h1.ev rfl) (zL.drop (rdR hRu150 hcu150 h2) 1) rfl) ?_
       refine Tq.val (wg rfl rfl rfl) rfl (fun _ _ h1 h2 => zB fo_25_1 (h1.ev rfl)) ?_
       refine Tq.val (wg rfl rfl rfl) rfl (fun _ _ h1 h2 => zC ag_22 (h1.ev rfl) (rdb h2 (vs := [(iv p1.Unit), (.slice Ap1_0 (p1.Tools).length cp1_0), (.slice Ap1_1 (p1.Steps).length cp1_1)]) (k := 2) rfl 1) rfl) ?_
       refine Tq.val (wg rfl rfl rfl) rfl (fun _ _ h1 h2 => run_move (h1.ev rfl)) ?_
       obtain ⟨x151, hx151, H⟩ := bnd H
       obtain ⟨hx1510, hx1511, hx1512⟩ := zh hx151
       obtain ⟨u152, hRu152, hoku152, hcu152⟩ := (hp1_0).el hx1512
       obtain ⟨Au152_0, cu152_0⟩ := u152
       have hoku152_0 := hoku152
       replace hoku152_0 : Sl w.R w.W zN Au152_0 cu152_0 x151.Rects := hoku152_0
       refine Tq.val (wg rfl rfl rfl) rfl (fun _ _ h1 h2 => zH el_22 (h1.ev rfl) hp1_0.form (h1.ev rfl) hx1510 hx1511) ?_
       refine Tq.val (wg rfl rfl rfl) rfl (fun _ _ h1 h2 => zB fo_64_1 (h1.ev rfl)) ?_
       refine Tq.val (wg rfl rfl rfl) rfl (fun _ _ h1 h2 => zC ag_31 (h1.ev rfl) (zL.drop (rdR hRu152 hcu152 h2) 1) rfl) ?_
       obtain ⟨y153, hy153, H⟩ := bnd H
       refine Tq.call0 (r := (.bool y153)) (wg rfl rfl rfl) rfl Tryz.call27 (zF rfl (zF rfl zO)) (fun W hW => F_etchhouseref1_SameRects_ok N x149.Rects Au150_0 cu150_0 (hoku150_0.ext hW.extAll) x151.Rects Au152_0 cu152_0 (hoku152_0.ext hW.extAll) y153 hy153 (HF.start _)) ?_
       refine Tq.val (wg rfl rfl rfl) rfl (fun _ _ h1 h2 => run_not (h1.ev rfl)) ?_
       refine Tq.va rfl (fun _ _ h1 h2 => zf (h1.ev rfl) (h1.ev rfl)) ?_
       obtain rfl := Option.some.inj H
       exact Tq.fin (.cons rfl (.cons rfl (.cons rfl (.cons rfl .nil))))
      ·rw [hg153] at hg148
       rw [if_pos rfl] at hg148
       have H := hg148
       obtain rfl := Option.some.inj H
       refine Tq.pass rfl rfl rfl rfl rfl (by decide) ?_
       refine Tq.pass rfl rfl rfl rfl rfl (by decide) ?_
       refine Tq.pass rfl rfl rfl rfl rfl (by decide) ?_
       refine Tq.pass rfl rfl rfl rfl rfl (by decide) ?_
       refine Tq.pass rfl rfl rfl rfl rfl (by decide) ?_
       refine Tq.pass rfl rfl rfl rfl rfl (by decide) ?_
       refine Tq.pass rfl rfl rfl rfl rfl (by decide) ?_
       refine Tq.pass rfl rfl rfl rfl rfl (by decide) ?_
       refine Tq.pass rfl rfl rfl rfl rfl (by decide) ?_
       refine Tq.pass rfl rfl rfl rfl rfl (by decide) ?_
       refine Tq.pass rfl rfl rfl rfl rfl (by decide) ?_
       refine Tq.pass rfl rfl rfl rfl rfl (by decide) ?_
       refine Tq.pass rfl rfl rfl rfl rfl (by decide) ?_
       refine Tq.pass rfl rfl rfl rfl rfl (by decide) ?_
       refine Tq.va rfl (fun _ _ h1 h2 => ze (h1.ev rfl) (h1.ev rfl)) ?_
       exact Tq.fin (.cons rfl (.cons rfl (.cons rfl (.cons rfl .nil))))
     ·refine Tq.nil (Tr.zA ?_)
      refine Tr.cond rfl H (fun H => ?_) (fun H => ?_)
      ·refine Tr.sr ?_
       refine Tr.asg rfl rfl ?_
       refine Tr.nil (Tr.zA ?_)
       refine Tr.ret (Tr.zAB (Tr.zU (Tr.zU (Tr.zAB (Tr.zU ?_)))))
       obtain rfl := Option.some.inj H
       exact Tr.out (m := [(.bool false)]) [] (zP rfl zQ) (fun W hW => ⟨rfl, hW.low leB⟩)
      ·refine Tr.skip (Tr.zW (Tr.zA ?_))
       refine Tr.region ?_
       refine Tr.mv rfl rfl ?_
       refine Tr.va rfl (fun _ _ h1 h2 => zx (h1.ev rfl) (h1.ev rfl)) ?_
       refine Tr.asg rfl rfl ?_
       refine Tr.nil ?_
       exact Tr.zZ leL1 (w64 (x138 + 1)) H (.cons rfl (.cons rfl (.cons rfl .nil))) (.cons rfl (.cons rfl .nil))
    ·refine Tr.exit (Tr.zX (Tr.zX (Tr.zAC (Tr.zA ?_))))
     refine Tr.sr ?_
     refine Tr.asg rfl rfl ?_
     refine Tr.nil (Tr.zA ?_)
     refine Tr.ret ?_
     obtain rfl := Option.some.inj H
     exact Tr.out (m := [(.bool true)]) [] (zP rfl zQ) (fun W hW => ⟨rfl, hW.low leB⟩)

theorem F_slices_SortFunc_TRect_ok {w : Bs} (p0 : List zT) (Ap0_0 : Option Addr) (cp0_0 : Nat) (p1 : zT → zT → Option Int) (fid1 : Nat) (cap1 : List Value) (hg1 : ∀ args W, (callFunc fid1 args).run Tryz.prog W = .ok (.enter fid1 args) W) (hf1 : ∀ (w' : Bs), w.Ext w' → ∀ (z0 : zT) (z1 : zT), ∀ y, p1 z0 z1 = some y → Calls Tryz.prog fid1 (([(.agg #[(iv z0.X0), (iv z0.Y0), (iv z0.X1), (iv z0.Y1)]), (.agg #[(iv z1.X0), (iv z1.Y0), (iv z1.X1), (iv z1.Y1)])] : List Value) ++ cap1).toArray w'.W fun e W'' => e = .returned (iv y) ∧ HF w' W'' E0) (r : List zT) (H : srtF p0 p1 = some r) (hE : HF w w.W (LEn [ow Ap0_0 cp0_0 36 zN p0])) : Calls Tryz.prog 81 [(.slice Ap0_0 (p0).length cp0_0), (.func (.func fid1) #[] cap1.toArray)].toArray w.W fun e W' => ∃ u : Unit, e = .returned (.tuple #[]) ∧ ((r).length = (p0).length) ∧ HF w W' (LEn [ow Ap0_0 cp0_0 36 zN r]) :=
 sortFunc_rule (ρ := Tryz.srt81_ren) Tryz.srt81 (fun _ => run_isAgg ag_36) (fun _ => run_sizeOf sz_36) ef_TRect tr_TRect () hg1 hf1 H hE

theorem F_shape_SetOf_1_ok {w : Bs} (p0 : zT) (p1 : zT) (r : Int) (H : F_shape_SetOf_1 p0 p1 = some r) (hE : HF w w.W E0) : Calls Tryz.prog 82 [(.agg #[(iv p0.X0), (iv p0.Y0), (iv p0.X1), (iv p0.Y1)]), (.agg #[(iv p1.X0), (iv p1.Y0), (iv p1.X1), (iv p1.Y1)])].toArray w.W fun e W' => e = .returned (iv r) ∧ HF w W' E0 := by
 unfold F_shape_SetOf_1 at H
 have leB := Bs.Le.refl w
 refine Tr.enter (n := 10) Tryz.func82 rfl rfl rfl hE ?_
 refine Tr.sr ?_
 refine Tr.box 1 (cs := [(iv p0.X0), (iv p0.Y0), (iv p0.X1), (iv p0.Y1)]) (wn rfl) rfl rfl rfl fun b100 => ?_
 refine Tr.box 2 (cs := [(iv p1.X0), (iv p1.Y0), (iv p1.X1), (iv p1.Y1)]) (wn rfl) rfl rfl rfl fun b101 => ?_
 refine Tr.asg rfl rfl ?_
 refine Tr.nil (Tr.zA ?_)
 refine Tr.sr ?_
 refine Tr.va rfl (fun _ _ h1 h2 => zB fo_36_1 (h1.ev rfl)) ?_
 refine Tr.va rfl (fun _ _ h1 h2 => zC ag_3 (h1.ev rfl) (rdb h2 (vs := [(iv p0.X0), (iv p0.Y0), (iv p0.X1), (iv p0.Y1)]) (k := 1) rfl 1) rfl) ?_
 refine Tr.va rfl (fun _ _ h1 h2 => zB fo_36_1 (h1.ev rfl)) ?_
 refine Tr.va rfl (fun _ _ h1 h2 => zC ag_3 (h1.ev rfl) (rdb h2 (vs := [(iv p1.X0), (iv p1.Y0), (iv p1.X1), (iv p1.Y1)]) (k := 2) rfl 1) rfl) ?_
 refine Tr.va rfl (fun _ _ h1 h2 => run_sub (h1.ev rfl) (h1.ev rfl)) ?_
 refine Tr.asg rfl rfl ?_
 refine Tr.nil (Tr.zA ?_)
 refine Tr.ret ?_
 obtain rfl := Option.some.inj H
 exact Tr.out (m := [(iv (w64 (p0.Y0 - p1.Y0)))]) [] (zP rfl zQ) (fun W hW => ⟨rfl, hW.low leB⟩)

theorem F_slices_Sort_int_ok {w : Bs} (p0 : List Int) (Ap0_0 : Option Addr) (cp0_0 : Nat) (r : List Int) (H : srtI p0 = some r) (hE : HF w w.W (LEn [ow Ap0_0 cp0_0 3 zn p0])) : Calls Tryz.prog 83 [(.slice Ap0_0 (p0).length cp0_0)].toArray w.W fun e W' => ∃ u : Unit, e = .returned (.tuple #[]) ∧ ((r).length = (p0).length) ∧ HF w W' (LEn [ow Ap0_0 cp0_0 3 zn r]) :=
 sortI_rule (ρ := Tryz.sort83_ren) Tryz.sort83 rfl ef_i64 tr_i64 () H hE

theorem F_slices_Compact_int_ok {w : Bs} (p0 : List Int) (Ap0_0 : Option Addr) (cp0_0 : Nat) (r : List Int) (H : cpI p0 = some r) (hE : HF w w.W (LEn [ow Ap0_0 cp0_0 3 zn p0])) : Calls Tryz.prog 84 [(.slice Ap0_0 (p0).length cp0_0)].toArray w.W fun e W' => ∃ u : (Option Addr × Nat), e = .returned (.slice u.1 (r).length u.2) ∧ (SlF u.1 (r).length u.2) ∧ HF w W' (LEn [ow u.1 u.2 3 zn r]) :=
 compactI_rule (ρ := Tryz.cmpc84_ren) Tryz.cmpc84 rfl ef_i64 tr_i64 () H hE

theorem F_shape_SetOf_2_ok {w : Bs} (p0 : zT) (q0 : (List Int)) (Aq0_0 : Option Addr) (cq0_0 : Nat) (hq0_0 : Sl w.R w.W zn Aq0_0 cq0_0 q0) (bq0 : Nat) (hb0 : w.R bq0) (hc0 : zL w.W bq0 0 [(.slice Aq0_0 (q0).length cq0_0)]) (q1 : Int) (bq1 : Nat) (hb1 : w.R bq1) (hc1 : zL w.W bq1 0 [(iv q1)]) (r : Bool) (H : F_shape_SetOf_2 p0 q0 q1 = some r) (hE : HF w w.W E0) : Calls Tryz.prog 86 [(.agg #[(iv p0.X0), (iv p0.Y0), (iv p0.X1), (iv p0.Y1)]), (.pointer (some ⟨bq0, 0, none⟩)), (.pointer (some ⟨bq1, 0, none⟩))].toArray w.W fun e W' => e = .returned (.bool r) ∧ HF w W' E0 := by
 unfold F_shape_SetOf_2 at H
 have leB := Bs.Le.refl w
 refine Tr.enter (n := 12) Tryz.func86 rfl rfl rfl hE ?_
 refine Tr.sr ?_
 refine Tr.box 1 (cs := [(iv p0.X0), (iv p0.Y0), (iv p0.X1), (iv p0.Y1)]) (wn rfl) rfl rfl rfl fun b100 => ?_
 refine Tr.asg rfl rfl ?_
 refine Tr.nil (Tr.zA ?_)
 refine Tr.seq ?_
 refine Tr.draw (by kernel_rfl) (by kernel_rfl) ?_
 refine Tq.va rfl (fun _ _ h1 h2 => zB fo_36_3 (h1.ev rfl)) ?_
 refine Tq.va rfl (fun _ _ h1 h2 => zC ag_3 (h1.ev rfl) (rdb h2 (vs := [(iv p0.X0), (iv p0.Y0), (iv p0.X1), (iv p0.Y1)]) (k := 1) rfl 3) rfl) ?_
 refine Tq.va rfl (fun _ _ h1 h2 => zC ag_38 (h1.ev rfl) (rdR hb0 hc0 h2) rfl) ?_
 refine Tq.va rfl (fun _ _ h1 h2 => zC ag_3 (h1.ev rfl) (rdR hb1 hc1 h2) rfl) ?_
 obtain ⟨x101, hx101, H⟩ := bnd H
 obtain ⟨hx1010, hx1011, hx1012⟩ := zh hx101
 refine Tq.va rfl (fun _ _ h1 h2 => zH el_38 (h1.ev rfl) hq0_0.form (h1.ev rfl) hx1010 hx1011) ?_
 refine Tq.va rfl (fun _ _ h1 h2 => zC ag_3 (h1.ev rfl) (rdF ef_i64 hq0_0 hx1012 h2) rfl) ?_
 refine Tq.va rfl (fun _ _ h1 h2 => run_leq (h1.ev rfl) (h1.ev rfl)) ?_
 refine Tq.asg rfl rfl ?_
 refine Tq.nil (Tr.zA ?_)
 refine Tr.ret ?_
 obtain rfl := Option.some.inj H
 exact Tr.out (m := [(.bool (decide (p0.Y1 ≤ x101)))]) [] (zP rfl zQ) (fun W hW => ⟨rfl, hW.low leB⟩)

theorem F_slices_IndexFunc_Rect_ok {w : Bs} (p0 : (List zT)) (Ap0_0 : Option Addr) (cp0_0 : Nat) (hp0_0 : Sl w.R w.W zN Ap0_0 cp0_0 p0) (p1 : zT → Option Bool) (fid1 : Nat) (cap1 : List Value) (hg1 : ∀ args W, (callFunc fid1 args).run Tryz.prog W = .ok (.enter fid1 args) W) (hf1 : ∀ (w' : Bs), w.Ext w' → ∀ (z0 : zT), ∀ y, p1 z0 = some y → Calls Tryz.prog fid1 (([(.agg #[(iv z0.X0), (iv z0.Y0), (iv z0.X1), (iv z0.Y1)])] : List Value) ++ cap1).toArray w'.W fun e W'' => e = .returned (.bool y) ∧ HF w' W'' E0) (r : Int) (H : F_slices_IndexFunc_Rect p0 p1 = some r) (hE : HF w w.W E0) : Calls Tryz.prog 112 [(.slice Ap0_0 (p0).length cp0_0), (.func (.func fid1) #[] cap1.toArray)].toArray w.W fun e W' => e = .returned (iv r) ∧ HF w W' E0 := by
 unfold F_slices_IndexFunc_Rect at H
 have leB := Bs.Le.refl w
 refine Tr.enter (n := 19) Tryz.func112 rfl rfl rfl hE ?_
 refine Tr.sr ?_
 refine Tr.asg rfl rfl ?_
 refine Tr.nil (Tr.zA ?_)
 refine Tr.seq ?_
 refine Tr.sr ?_
 refine Tr.mv rfl rfl ?_
 refine Tr.va rfl (fun _ _ h1 h2 => zq un_31 (h1.ev rfl)) ?_
 refine Tr.mv rfl rfl ?_
 refine Tr.nil (Tr.zA ?_)
 refine Tr.block ?_
 refine Tr.loop (σ := (List zT) × Nat) (fun m w s => m = s.1.length + 1 ∧ s.1 = List.drop s.2 p0 ∧ s.2 ≤ p0.length ∧ F_slices_IndexFunc_Rect_L1 p1 s.1 s.2 = some r) (fun s => [(0, (.slice Ap0_0 (p0).length cp0_0)), (1, (.func (.func fid1) #[] cap1.toArray)), (7, (iv (p0.length : Int))), (8, (iv (s.2 : Int)))]) (fun s => []) (p0.length + 1) (p0, 0) ⟨rfl, rfl, Nat.zero_le _, H⟩ (.cons rfl (.cons rfl (.cons rfl (.cons rfl .nil)))) .nil (fun _ _ h => absurd h.1 (by simp)) ?_
 intro w leL1 m s hs
 obtain ⟨restL1, iL1⟩ := s
 obtain ⟨hmL1, hdL1, hiL1, H⟩ := hs
 replace hdL1 : restL1 = List.drop iL1 p0 := hdL1
 replace H : F_slices_IndexFunc_Rect_L1 p1 restL1 iL1 = some r := H
 replace hmL1 : m + 1 = restL1.length + 1 := hmL1
 replace hp0_0 := hp0_0.leR leL1
 replace hf1 := fun w' he => hf1 w' (leL1.ext.trans he)
 replace leB := leB.trans leL1
 obtain rfl : m = restL1.length := by omega
 clear hmL1
 show Tr _ _ (LF [(0, (.slice Ap0_0 (p0).length cp0_0)), (1, (.func (.func fid1) #[] cap1.toArray)), (7, (iv (p0.length : Int))), (8, (iv (iL1 : Int)))]) (LE []) _
 cases restL1 with
 | nil =>
  rw [F_slices_IndexFunc_Rect_L1.eq_1] at H
  refine Tr.sr ?_
  refine Tr.va rfl (fun _ _ h1 h2 => zz (h1.ev rfl) (h1.ev rfl)) ?_
  refine Tr.nil (Tr.zA ?_)
  refine Tr.seq ?_
  refine Tr.condF rfl (range_nil hdL1) ?_
  refine Tr.exit (Tr.zX (Tr.zX (Tr.zAC (Tr.zA ?_))))
  refine Tr.sr ?_
  refine Tr.asg rfl rfl ?_
  refine Tr.nil (Tr.zA ?_)
  refine Tr.ret ?_
  obtain rfl := Option.some.inj H
  exact Tr.out (m := [(iv (-1))]) [] (zP rfl zQ) (fun W hW => ⟨rfl, hW.low leB⟩)
 | cons xL1 restL1 =>
  rw [F_slices_IndexFunc_Rect_L1.eq_2] at H
  refine Tr.sr ?_
  refine Tr.va rfl (fun _ _ h1 h2 => zz (h1.ev rfl) (h1.ev rfl)) ?_
  refine Tr.nil (Tr.zA ?_)
  refine Tr.seq ?_
  refine Tr.condT rfl (range_on hdL1) ?_
  refine Tr.skip (Tr.zA ?_)
  refine Tr.seq ?_
  refine Tr.block ?_
  refine Tr.sr ?_
  refine Tr.mv rfl rfl ?_
  refine Tr.asg rfl rfl ?_
  refine Tr.nil (Tr.zA ?_)
  refine Tr.sr ?_
  refine Tr.mv rfl rfl ?_
  refine Tr.mv rfl rfl ?_
  refine Tr.mv rfl rfl ?_
  refine Tr.va rfl (fun _ _ h1 h2 => zH el_31 (h1.ev rfl) hp0_0.form (h1.ev rfl) (Int.natCast_nonneg _) (zo hdL1)) ?_
  refine Tr.va rfl (fun _ _ h1 h2 => zR (cs := [(iv xL1.X0), (iv xL1.Y0), (iv xL1.X1), (iv xL1.Y1)]) ag_36 sz_36 (h1.ev rfl) (zL.take (rdF ef_TRect hp0_0 (range_at hdL1) h2) 4) rfl) ?_
  obtain ⟨y103, hy103, H⟩ := bnd H
  refine Tr.callF (r := (.bool y103)) (wn rfl) rfl rfl hg1 (zF rfl zO) (fun W hW => hf1 hW.all hW.extAll xL1 _ hy103) ?_
  refine Tr.nil (Tr.zA ?_)
  refine Tr.cond rfl H (fun H => ?_) (fun H => ?_)
  ·refine Tr.sr ?_
   refine Tr.mv rfl rfl ?_
   refine Tr.asg rfl rfl ?_
   refine Tr.nil (Tr.zA ?_)
   refine Tr.ret (Tr.zAB (Tr.zU (Tr.zU (Tr.zAB (Tr.zU ?_)))))
   obtain rfl := Option.some.inj H
   exact Tr.out (m := [(iv (iL1 : Int))]) [] (zP rfl zQ) (fun W hW => ⟨rfl, hW.low leB⟩)
  ·refine Tr.skip (Tr.zW (Tr.zA ?_))
   refine Tr.region ?_
   refine Tr.va rfl (fun _ _ h1 h2 => zx (h1.ev rfl) (h1.ev rfl)) ?_
   refine Tr.mv rfl rfl ?_
   refine Tr.nil ?_
   exact Tr.zZ leL1 (restL1, (iL1 + 1)) ⟨rfl, range_tl hdL1, zo hdL1, H⟩ (.cons rfl (.cons rfl (.cons rfl (.cons (congrArg (fun z => some (Value.int .i64 z)) (range_up hdL1 hp0_0.form)) .nil)))) .nil

theorem F_slices_DeleteFunc_Rect_ok (N : Nat) {w : Bs} (p0 : (List zT)) (Ap0_0 : Option Addr) (cp0_0 : Nat) (p1 : zT → Option Bool) (fid1 : Nat) (cap1 : List Value) (hg1 : ∀ args W, (callFunc fid1 args).run Tryz.prog W = .ok (.enter fid1 args) W) (hf1 : ∀ (w' : Bs), w.Ext w' → ∀ (z0 : zT), ∀ y, p1 z0 = some y → Calls Tryz.prog fid1 (([(.agg #[(iv z0.X0), (iv z0.Y0), (iv z0.X1), (iv z0.Y1)])] : List Value) ++ cap1).toArray w'.W fun e W'' => e = .returned (.bool y) ∧ HF w' W'' E0) (r : (List zT)) (H : F_slices_DeleteFunc_Rect N p0 p1 = some r) (hE : HF w w.W (LEn [ow Ap0_0 cp0_0 36 zN p0])) : Calls Tryz.prog 85 [(.slice Ap0_0 (p0).length cp0_0), (.func (.func fid1) #[] cap1.toArray)].toArray w.W fun e W' => ∃ u : (Option Addr × Nat), e = .returned (.slice u.1 (r).length u.2) ∧ (SlF u.1 (r).length u.2) ∧ HF w W' (LEn [ow u.1 u.2 36 zN r]) := by
 unfold F_slices_DeleteFunc_Rect at H
 have hfhp0_0 := (hE.sl (k := 0) rfl).form
 have leB := Bs.Le.refl w
 refine Tr.enter (n := 42) Tryz.func85 rfl rfl rfl hE ?_
 refine Tr.sr ?_
 refine Tr.asg rfl rfl ?_
 refine Tr.nilOwn 1 36 zN ?_
 show Tr _ _ (uf _ 4 (.slice none (([] : List zT)).length 0)) _ _
 refine Tr.nil (Tr.zA ?_)
 refine Tr.sr ?_
 refine Tr.mv rfl rfl ?_
 refine Tr.mv rfl rfl ?_
 obtain ⟨y100, hy100, H⟩ := bnd H
 refine Tr.call0 (r := (iv y100)) (wn rfl) rfl Tryz.call112 (zF rfl (zF rfl zO)) (fun W hW => F_slices_IndexFunc_Rect_ok p0 Ap0_0 cp0_0 (hW.slCall (k := 0) rfl) p1 fid1 cap1 hg1 (fun w' he => hf1 w' (hW.extAll.trans he)) y100 hy100 (HF.start _)) ?_
 refine Tr.asg rfl rfl ?_
 refine Tr.nil (Tr.zA ?_)
 refine Tr.seq ?_
 refine Tr.sr ?_
 refine Tr.mv rfl rfl ?_
 refine Tr.va rfl (fun _ _ h1 h2 => run_eql (h1.ev rfl) (h1.ev rfl)) ?_
 refine Tr.nil (Tr.zA ?_)
 refine Tr.cond rfl H (fun H => ?_) (fun H => ?_)
 ·refine Tr.sr ?_
  refine Tr.mv rfl rfl ?_
  refine Tr.asg rfl rfl ?_
  refine Tr.nil (Tr.zA ?_)
  refine Tr.ret (Tr.zU ?_)
  obtain rfl := Option.some.inj H
  exact Tr.out (m := [(.slice Ap0_0 (p0).length cp0_0)]) [] (zP rfl zQ) (fun W hW => ⟨(Ap0_0, cp0_0), rfl, hfhp0_0, HF.lowE leB (hW.pick (ks := [0]) (by decide) (zM rfl zY)) ⟨ow_any _ _ _ _ tr_TRect, trivial⟩⟩)
 ·refine Tr.skip (Tr.zA ?_)
  refine Tr.seq ?_
  refine Tr.sr ?_
  refine Tr.mv rfl rfl ?_
  refine Tr.va rfl (fun _ _ h1 h2 => zx (h1.ev rfl) (h1.ev rfl)) ?_
  refine Tr.asg rfl rfl ?_
  refine Tr.nil (Tr.zA ?_)
  refine Tr.block ?_
  refine Tr.loop (σ := (List zT) × Int × Int) (fun m w s => zAH p1 m s.1 s.2.1 s.2.2 = some r ∧ (s.1).length = (p0).length) (fun s => [(0, (.slice Ap0_0 (s.1).length cp0_0)), (1, (.func (.func fid1) #[] cap1.toArray)), (5, (iv s.2.1)), (6, (iv s.2.2))]) (fun s => [(0, ow Ap0_0 cp0_0 36 zN s.1)]) N (p0, y100, (w64 (y100 + 1))) ⟨H, rfl⟩ (.cons rfl (.cons rfl (.cons rfl (.cons rfl .nil)))) (.cons rfl .nil) (fun _ _ h => noSome (h.1)) ?_
  intro w leL1 mL1 s hs
  obtain ⟨l120, x121, x122⟩ := s
  obtain ⟨H, hl120⟩ := hs
  replace H : zAH p1 (mL1 + 1) l120 x121 x122 = some r := H
  replace hf1 := fun w' he => hf1 w' (leL1.ext.trans he)
  replace leB := leB.trans leL1
  replace hl120 : (l120).length = (p0).length := hl120
  have hfl120 : SlF Ap0_0 (l120).length cp0_0 := (by rw [hl120]; exact hfhp0_0)
  rw [zAH.eq_2] at H
  show Tr _ _ (LF [(0, (.slice Ap0_0 (l120).length cp0_0)), (1, (.func (.func fid1) #[] cap1.toArray)), (5, (iv x121)), (6, (iv x122))]) (LE [(0, ow Ap0_0 cp0_0 36 zN l120)]) _
  refine Tr.seq ?_
  refine Tr.sr ?_
  refine Tr.mv rfl rfl ?_
  refine Tr.mv rfl rfl ?_
  refine Tr.va rfl (fun _ _ h1 h2 => zq un_31 (h1.ev rfl)) ?_
  refine Tr.va rfl (fun _ _ h1 h2 => zz (h1.ev rfl) (h1.ev rfl)) ?_
  refine Tr.nil (Tr.zA ?_)
  refine Tr.cond rfl H (fun H => ?_) (fun H => ?_)
  ·refine Tr.skip (Tr.zA ?_)
   refine Tr.seq ?_
   refine Tr.block ?_
   refine Tr.sr ?_
   refine Tr.mv rfl rfl ?_
   refine Tr.mv rfl rfl ?_
   obtain ⟨x123, hx123, H⟩ := bnd H
   obtain ⟨hx1230, hx1231, hx1232⟩ := zh hx123
   refine Tr.va rfl (fun _ _ h1 h2 => zH el_31 (h1.ev rfl) hfl120 (h1.ev rfl) hx1230 hx1231) ?_
   refine Tr.va rfl (fun _ _ h1 h2 => zR (cs := [(iv x123.X0), (iv x123.Y0), (iv x123.X1), (iv x123.Y1)]) ag_36 sz_36 (h1.ev rfl) (zL.take (rdo ef_TRect (k := 0) h2 rfl hx1232) 4) rfl) ?_
   refine Tr.alloc 4 (wn rfl) rfl ze_36 fun b124 => ?_
   refine Tr.store 4 (cs := [(iv x123.X0), (iv x123.Y0), (iv x123.X1), (iv x123.Y1)]) [(iv x123.X0), (iv x123.Y0), (iv x123.X1), (iv x123.Y1)] (wn rfl) rfl rfl rfl rfl sz_36 rfl rfl rfl ?_
   refine Tr.nil (Tr.zA ?_)
   refine Tr.sr ?_
   refine Tr.mv rfl rfl ?_
   refine Tr.va rfl (fun _ _ h1 h2 => zR (cs := [(iv x123.X0), (iv x123.Y0), (iv x123.X1), (iv x123.Y1)]) ag_36 sz_36 (h1.ev rfl) (zL.take (rdb h2 (vs := [(iv x123.X0), (iv x123.Y0), (iv x123.X1), (iv x123.Y1)]) (k := 4) rfl 0) 4) rfl) ?_
   obtain ⟨y125, hy125, H⟩ := bnd H
   refine Tr.callF (r := (.bool y125)) (wn rfl) rfl rfl hg1 (zF rfl zO) (fun W hW => hf1 hW.all hW.extAll x123 _ hy125) ?_
   refine Tr.va rfl (fun _ _ h1 h2 => run_not (h1.ev rfl)) ?_
   refine Tr.nil (Tr.zA ?_)
   refine Tr.cond rfl H (fun H => ?_) (fun H => ?_)
   ·refine Tr.sr ?_
    refine Tr.mv rfl rfl ?_
    refine Tr.mv rfl rfl ?_
    refine Tr.va rfl (fun _ _ h1 h2 => zR (cs := [(iv x123.X0), (iv x123.Y0), (iv x123.X1), (iv x123.Y1)]) ag_36 sz_36 (h1.ev rfl) (zL.take (rdb h2 (vs := [(iv x123.X0), (iv x123.Y0), (iv x123.X1), (iv x123.Y1)]) (k := 4) rfl 0) 4) rfl) ?_
    obtain ⟨x126, hx126, H⟩ := bnd H
    obtain ⟨hx1260, hx1261, hx1262⟩ := zh hx126
    refine Tr.va rfl (fun _ _ h1 h2 => zH el_31 (h1.ev rfl) hfl120 (h1.ev rfl) hx1260 hx1261) ?_
    obtain ⟨l127, hl127, H⟩ := bnd H
    have hnl127 := sets_len hl127
    refine Tr.storeEl 0 (t := zN) (l := l120) (i := x121) (fo := 0) (cs := [(iv x123.X0), (iv x123.Y0), (iv x123.X1), (iv x123.Y1)]) x123 (wn rfl) rfl rfl rfl rfl rfl hx1262 sz_36 rfl (fun u _ => ⟨u, trivial, rfl⟩) rfl hl127 ?_
    have hfl127 : SlF Ap0_0 (l127).length cp0_0 := by rw [hnl127]; exact hfl120
    have hsl127 := hnl127.trans hl120
    refine Tr.sel (lf := [(0, (.slice Ap0_0 (l127).length cp0_0)), (1, (.func (.func fid1) #[] cap1.toArray)), (5, (iv x121)), (6, (iv x122)), (7, (.pointer (some ⟨b124, 0, none⟩))), (16, (iv x122)), (17, (.slice Ap0_0 (l127).length cp0_0)), (18, (iv (l120.length : Int))), (19, (.bool (decide (x122 < (l120.length : Int))))), (22, (.slice Ap0_0 (l127).length cp0_0)), (23, (iv x122)), (25, (.agg #[(iv x123.X0), (iv x123.Y0), (iv x123.X1), (iv x123.Y1)])), (26, (.func (.func fid1) #[] cap1.toArray)), (27, (.agg #[(iv x123.X0), (iv x123.Y0), (iv x123.X1), (iv x123.Y1)])), (28, (.bool y125)), (29, (.bool (!y125))), (30, (.slice Ap0_0 (l127).length cp0_0)), (31, (iv x121)), (32, (.agg #[(iv x123.X0), (iv x123.Y0), (iv x123.X1), (iv x123.Y1)]))]) (le := [(0, ow Ap0_0 cp0_0 36 zN l127), (4, bx b124 #[(iv x123.X0), (iv x123.Y0), (iv x123.X1), (iv x123.Y1)] 36)]) (.cons (slenV rfl (by rw [hnl127])) (.cons rfl (.cons rfl (.cons rfl (.cons rfl (.cons rfl (.cons (slenV rfl (by rw [hnl127])) (.cons rfl (.cons rfl (.cons (slenV rfl (by rw [hnl127])) (.cons rfl (.cons rfl (.cons rfl (.cons rfl (.cons rfl (.cons rfl (.cons (slenV rfl (by rw [hnl127])) (.cons rfl (.cons rfl .nil))))))))))))))))))) (.cons rfl (.cons rfl .nil)) ?_
    refine Tr.nil (Tr.zA ?_)
    refine Tr.region ?_
    refine Tr.mv rfl rfl ?_
    refine Tr.va rfl (fun _ _ h1 h2 => zx (h1.ev rfl) (h1.ev rfl)) ?_
    refine Tr.asg rfl rfl ?_
    refine Tr.nil (Tr.zW (Tr.zA ?_))
    refine Tr.region ?_
    refine Tr.mv rfl rfl ?_
    refine Tr.va rfl (fun _ _ h1 h2 => zx (h1.ev rfl) (h1.ev rfl)) ?_
    refine Tr.asg rfl rfl ?_
    refine Tr.nil ?_
    exact Tr.zZ leL1 (l127, (w64 (x121 + 1)), (w64 (x122 + 1))) ⟨H, hsl127⟩ (.cons rfl (.cons rfl (.cons rfl (.cons rfl .nil)))) (.cons rfl .nil)
   ·refine Tr.skip (Tr.zW (Tr.zA ?_))
    refine Tr.region ?_
    refine Tr.mv rfl rfl ?_
    refine Tr.va rfl (fun _ _ h1 h2 => zx (h1.ev rfl) (h1.ev rfl)) ?_
    refine Tr.asg rfl rfl ?_
    refine Tr.nil ?_
    exact Tr.zZ leL1 (l120, x121, (w64 (x122 + 1))) ⟨H, hl120⟩ (.cons rfl (.cons rfl (.cons rfl (.cons rfl .nil)))) (.cons rfl .nil)
  ·refine Tr.exit (Tr.zX (Tr.zX (Tr.zAC (Tr.zA ?_))))
   refine Tr.sr ?_
   refine Tr.mv rfl rfl ?_
   refine Tr.mv rfl rfl ?_
   obtain ⟨l128, hl128, H⟩ := bnd H
   refine Tr.va rfl (fun _ _ h1 h2 => run_cutL el_31 (h1.ev rfl) hfl120 (h1.ev rfl) hl128) ?_
   have hnhcl128 := clr_len (zT.mk 0 0 0 0) hl128
   refine Tr.clearCut 0 (lo := x121) (t := zN) (l := l120) (zT.mk 0 0 0 0) (wn rfl) rfl hl128 rfl un_31 ze_36 ⟨(), tr_TRect _ _ _ _, ef_TRect _ _⟩ rfl rfl ?_
   have hfhcl128 : SlF Ap0_0 ((clr l120 x121 (l128).length (zT.mk 0 0 0 0))).length cp0_0 := by rw [hnhcl128]; exact hfl120
   have hshcl128 := hnhcl128.trans hl120
   refine Tr.sel (lf := [(0, (.slice Ap0_0 ((clr l120 x121 (l128).length (zT.mk 0 0 0 0))).length cp0_0)), (1, (.func (.func fid1) #[] cap1.toArray)), (5, (iv x121)), (6, (iv x122)), (16, (iv x122)), (17, (.slice Ap0_0 ((clr l120 x121 (l128).length (zT.mk 0 0 0 0))).length cp0_0)), (18, (iv (l120.length : Int))), (19, (.bool (decide (x122 < (l120.length : Int))))), (36, (.slice Ap0_0 ((clr l120 x121 (l128).length (zT.mk 0 0 0 0))).length cp0_0)), (37, (iv x121))]) (le := [(0, ow Ap0_0 cp0_0 36 zN (clr l120 x121 (l128).length (zT.mk 0 0 0 0)))]) (.cons (slenV rfl (by rw [hnhcl128])) (.cons rfl (.cons rfl (.cons rfl (.cons rfl (.cons (slenV rfl (by rw [hnhcl128])) (.cons rfl (.cons rfl (.cons (slenV rfl (by rw [hnhcl128])) (.cons rfl .nil)))))))))) (.cons rfl .nil) ?_
   refine Tr.nil (Tr.zA ?_)
   refine Tr.sr ?_
   refine Tr.mv rfl rfl ?_
   refine Tr.mv rfl rfl ?_
   obtain ⟨l129, hl129, H⟩ := bnd H
   refine Tr.va rfl (fun _ _ h1 h2 => run_pre el_31 (h1.ev rfl) hfhcl128 (h1.ev rfl) hl129) ?_
   refine Tr.asg rfl rfl ?_
   refine Tr.nil (Tr.zA ?_)
   refine Tr.ret ?_
   obtain rfl := Option.some.inj H
   refine Tr.shrinkP 0 hl129 rfl ?_
   exact Tr.out (m := [(.slice Ap0_0 (l129).length cp0_0)]) [] (zP rfl zQ) (fun W hW => ⟨(Ap0_0, cp0_0), rfl, (pre_form hfhcl128 hl129), HF.lowE leB (hW.pick (ks := [0]) (by decide) (zM rfl zY)) ⟨ow_any _ _ _ _ tr_TRect, trivial⟩⟩)

theorem F_shape_stretches_1_ok {w : Bs} (p0 : zT) (p1 : zT) (r : Int) (H : F_shape_stretches_1 p0 p1 = some r) (hE : HF w w.W E0) : Calls Tryz.prog 114 [(.agg #[(iv p0.X0), (iv p0.Y0), (iv p0.X1), (iv p0.Y1)]), (.agg #[(iv p1.X0), (iv p1.Y0), (iv p1.X1), (iv p1.Y1)])].toArray w.W fun e W' => e = .returned (iv r) ∧ HF w W' E0 := by
 unfold F_shape_stretches_1 at H
 have leB := Bs.Le.refl w
 refine Tr.enter (n := 10) Tryz.func114 rfl rfl rfl hE ?_
 refine Tr.sr ?_
 refine Tr.box 1 (cs := [(iv p0.X0), (iv p0.Y0), (iv p0.X1), (iv p0.Y1)]) (wn rfl) rfl rfl rfl fun b100 => ?_
 refine Tr.box 2 (cs := [(iv p1.X0), (iv p1.Y0), (iv p1.X1), (iv p1.Y1)]) (wn rfl) rfl rfl rfl fun b101 => ?_
 refine Tr.asg rfl rfl ?_
 refine Tr.nil (Tr.zA ?_)
 refine Tr.sr ?_
 refine Tr.va rfl (fun _ _ h1 h2 => zB fo_36_0 (h1.ev rfl)) ?_
 refine Tr.va rfl (fun _ _ h1 h2 => zC ag_3 (h1.ev rfl) (rdb h2 (vs := [(iv p0.X0), (iv p0.Y0), (iv p0.X1), (iv p0.Y1)]) (k := 1) rfl 0) rfl) ?_
 refine Tr.va rfl (fun _ _ h1 h2 => zB fo_36_0 (h1.ev rfl)) ?_
 refine Tr.va rfl (fun _ _ h1 h2 => zC ag_3 (h1.ev rfl) (rdb h2 (vs := [(iv p1.X0), (iv p1.Y0), (iv p1.X1), (iv p1.Y1)]) (k := 2) rfl 0) rfl) ?_
 refine Tr.va rfl (fun _ _ h1 h2 => run_sub (h1.ev rfl) (h1.ev rfl)) ?_
 refine Tr.asg rfl rfl ?_
 refine Tr.nil (Tr.zA ?_)
 refine Tr.ret ?_
 obtain rfl := Option.some.inj H
 exact Tr.out (m := [(iv (w64 (p0.X0 - p1.X0)))]) [] (zP rfl zQ) (fun W hW => ⟨rfl, hW.low leB⟩)

theorem F_shape_stretches_ok {w : Bs} (p0 : (List zT)) (Ap0_0 : Option Addr) (cp0_0 : Nat) (r : ((List Int) × (List zT))) (H : F_shape_stretches p0 = some r) (hE : HF w w.W (LEn [ow Ap0_0 cp0_0 36 zN p0, emp])) : Calls Tryz.prog 88 [(.slice Ap0_0 (p0).length cp0_0)].toArray w.W fun e W' => ∃ u : (Option Addr × Nat), e = .returned (.slice u.1 (r.1).length u.2) ∧ (SlF u.1 (r.1).length u.2 ∧ (r.2).length = (p0).length) ∧ HF w W' (LEn [ow Ap0_0 cp0_0 36 zN r.2, ow u.1 u.2 3 zn r.1]) := by
 unfold F_shape_stretches at H
 have hfhp0_0 := (hE.sl (k := 0) rfl).form
 have leB := Bs.Le.refl w
 refine Tr.enter (n := 48) Tryz.func88 rfl rfl rfl hE ?_
 refine Tr.sr ?_
 refine Tr.asg rfl rfl ?_
 refine Tr.nilOwn 1 3 zn ?_
 show Tr _ _ (uf _ 2 (.slice none (([] : List Int)).length 0)) _ _
 refine Tr.nil (Tr.zA ?_)
 refine Tr.sr ?_
 refine Tr.mv rfl rfl ?_
 obtain ⟨y100, hy100, H⟩ := bnd H
 refine Tr.callM [0] [ow Ap0_0 cp0_0 36 zN p0] (U := Unit) (fun u => (.tuple #[])) (fun u => (y100).length = (p0).length) (fun u => [ow Ap0_0 cp0_0 36 zN y100]) rfl (zM rfl zY) (fun _ => rfl) (wn rfl) rfl Tryz.call81 (zF rfl (zF rfl zO)) (fun W hW hp hE => F_slices_SortFunc_TRect_ok p0 Ap0_0 cp0_0 (fun z0 z1 => F_shape_stretches_1 z0 z1) 114 [] Tryz.call114 (fun w' he z0 z1 y hy => F_shape_stretches_1_ok z0 z1 y hy (HF.start _)) y100 hy100 hE) ?_
 intro u hu
 have gky100_0 := hu
 have hgky100_0 : (y100).length = (p0).length := gky100_0 --@phi
 have hfky100_0 : SlF Ap0_0 (y100).length cp0_0 := by rw [hgky100_0]; exact hfhp0_0
 have hsky100_0 := hgky100_0.trans rfl
 show Tr _ _ (uf _ 8 (.tuple #[])) (up _ 0 (ow Ap0_0 cp0_0 36 zN y100)) _
 refine Tr.sel (lf := [(0, (.slice Ap0_0 (y100).length cp0_0)), (2, (.slice none (([] : List Int)).length 0)), (7, (.slice Ap0_0 (y100).length cp0_0)), (8, (.tuple #[]))]) (le := [(0, ow Ap0_0 cp0_0 36 zN y100), (1, ow none 0 3 zn ([] : List Int))]) (.cons (slenV rfl (by rw [hgky100_0])) (.cons rfl (.cons (slenV rfl (by rw [hgky100_0])) (.cons rfl .nil)))) (.cons rfl (.cons rfl .nil)) ?_
 refine Tr.nil (Tr.zA ?_)
 refine Tr.sr ?_
 refine Tr.asg rfl rfl ?_
 refine Tr.nilOwn 2 3 zn ?_
 show Tr _ _ (uf _ 3 (.slice none (([] : List Int)).length 0)) _ _
 refine Tr.nil (Tr.zA ?_)
 refine Tr.seq ?_
 refine Tr.sr ?_
 refine Tr.mv rfl rfl ?_
 refine Tr.va rfl (fun _ _ h1 h2 => zq un_31 (h1.ev rfl)) ?_
 refine Tr.mv rfl rfl ?_
 refine Tr.nil (Tr.zA ?_)
 refine Tr.block ?_
 refine Tr.loop (σ := (List zT) × Nat × (List Int) × (Option Addr) × Nat) (fun m w s => m = s.1.length + 1 ∧ s.1 = List.drop s.2.1 y100 ∧ s.2.1 ≤ y100.length ∧ F_shape_stretches_L1 y100 s.1 s.2.1 s.2.2.1 = some r ∧ SlF s.2.2.2.1 (s.2.2.1).length s.2.2.2.2) (fun s => [(3, (.slice s.2.2.2.1 (s.2.2.1).length s.2.2.2.2)), (9, (.slice Ap0_0 (y100).length cp0_0)), (10, (iv (y100.length : Int))), (11, (iv (s.2.1 : Int)))]) (fun s => [(0, ow Ap0_0 cp0_0 36 zN y100), (2, ow s.2.2.2.1 s.2.2.2.2 3 zn s.2.2.1)]) (y100.length + 1) (y100, 0, ([] : List Int), none, 0) ⟨rfl, rfl, Nat.zero_le _, H, slf_nil⟩ (.cons rfl (.cons rfl (.cons rfl (.cons rfl .nil)))) (.cons rfl (.cons rfl .nil)) (fun _ _ h => absurd h.1 (by simp)) ?_
 intro w leL1 m s hs
 obtain ⟨restL1, iL1, l128, Al128, cl128⟩ := s
 obtain ⟨hmL1, hdL1, hiL1, H, hl128⟩ := hs
 replace hdL1 : restL1 = List.drop iL1 y100 := hdL1
 replace H : F_shape_stretches_L1 y100 restL1 iL1 l128 = some r := H
 replace hmL1 : m + 1 = restL1.length + 1 := hmL1
 replace leB := leB.trans leL1
 replace hl128 : SlF Al128 (l128).length cl128 := hl128
 obtain rfl : m = restL1.length := by omega
 clear hmL1
 show Tr _ _ (LF [(3, (.slice Al128 (l128).length cl128)), (9, (.slice Ap0_0 (y100).length cp0_0)), (10, (iv (y100.length : Int))), (11, (iv (iL1 : Int)))]) (LE [(0, ow Ap0_0 cp0_0 36 zN y100), (2, ow Al128 cl128 3 zn l128)]) _
 cases restL1 with
 | nil =>
  rw [F_shape_stretches_L1.eq_1] at H
  refine Tr.sr ?_
  refine Tr.va rfl (fun _ _ h1 h2 => zz (h1.ev rfl) (h1.ev rfl)) ?_
  refine Tr.nil (Tr.zA ?_)
  refine Tr.seq ?_
  refine Tr.condF rfl (range_nil hdL1) ?_
  refine Tr.exit (Tr.zX (Tr.zX (Tr.zAC (Tr.zA ?_))))
  refine Tr.sr ?_
  refine Tr.mv rfl rfl ?_
  refine Tr.asg rfl rfl ?_
  refine Tr.nil (Tr.zA ?_)
  refine Tr.ret ?_
  obtain rfl := Option.some.inj H
  exact Tr.out (m := [(.slice Al128 (l128).length cl128)]) [] (zP rfl zQ) (fun W hW => ⟨(Al128, cl128), rfl, ⟨hl128, hsky100_0⟩, HF.lowE leB (hW.pick (ks := [0, 2]) (by decide) (zM rfl (zM rfl zY))) ⟨ow_any _ _ _ _ tr_TRect, ow_any _ _ _ _ tr_i64, trivial⟩⟩)
 | cons xL1 restL1 =>
  rw [F_shape_stretches_L1.eq_2] at H
  refine Tr.sr ?_
  refine Tr.va rfl (fun _ _ h1 h2 => zz (h1.ev rfl) (h1.ev rfl)) ?_
  refine Tr.nil (Tr.zA ?_)
  refine Tr.seq ?_
  refine Tr.condT rfl (range_on hdL1) ?_
  refine Tr.skip (Tr.zA ?_)
  refine Tr.seq ?_
  refine Tr.block ?_
  refine Tr.sr ?_
  refine Tr.va rfl (fun _ _ h1 h2 => zH el_31 (h1.ev rfl) hfky100_0 (h1.ev rfl) (Int.natCast_nonneg _) (zo hdL1)) ?_
  refine Tr.va rfl (fun _ _ h1 h2 => zR (cs := [(iv xL1.X0), (iv xL1.Y0), (iv xL1.X1), (iv xL1.Y1)]) ag_36 sz_36 (h1.ev rfl) (zL.take (rdo ef_TRect (k := 0) h2 rfl (range_at hdL1)) 4) rfl) ?_
  refine Tr.alloc 7 (wn rfl) rfl ze_36 fun b129 => ?_
  refine Tr.store 7 (cs := [(iv xL1.X0), (iv xL1.Y0), (iv xL1.X1), (iv xL1.Y1)]) [(iv xL1.X0), (iv xL1.Y0), (iv xL1.X1), (iv xL1.Y1)] (wn rfl) rfl rfl rfl rfl sz_36 rfl rfl rfl ?_
  refine Tr.nil (Tr.zA ?_)
  refine Tr.sr ?_
  refine Tr.mv rfl rfl ?_
  refine Tr.va rfl (fun _ _ h1 h2 => zq un_38 (h1.ev rfl)) ?_
  refine Tr.va rfl (fun _ _ h1 h2 => run_sub (h1.ev rfl) (h1.ev rfl)) ?_
  refine Tr.asg rfl rfl ?_
  refine Tr.nil (Tr.zA ?_)
  refine Tr.seq ?_
  refine Tr.draw (by kernel_rfl) (by kernel_rfl) ?_
  refine Tq.mv rfl rfl ?_
  refine Tq.va rfl (fun _ _ h1 h2 => run_geq (h1.ev rfl) (h1.ev rfl)) ?_
  refine Tq.mv rfl rfl ?_
  obtain ⟨g131, hg131, H⟩ := bnd H
  refine Tq.mid 8 [(3, (.slice Al128 (l128).length cl128)), (5, (.pointer (some ⟨b129, 0, none⟩))), (6, (iv (w64 ((l128.length : Int) - 1)))), (9, (.slice Ap0_0 (y100).length cp0_0)), (10, (iv (y100.length : Int))), (11, (iv (iL1 : Int))), (28, (.bool g131))] ?_ ?_
  ·cases hg137 : (decide (0 ≤ (w64 ((l128.length : Int) - 1))))
   ·rw [hg137] at hg131
    rw [if_neg (by decide)] at hg131
    have H := hg131
    obtain rfl := Option.some.inj H
    refine Tq.pass rfl rfl rfl rfl rfl (by decide) ?_
    refine Tq.pass rfl rfl rfl rfl rfl (by decide) ?_
    refine Tq.pass rfl rfl rfl rfl rfl (by decide) ?_
    refine Tq.pass rfl rfl rfl rfl rfl (by decide) ?_
    refine Tq.pass rfl rfl rfl rfl rfl (by decide) ?_
    refine Tq.pass rfl rfl rfl rfl rfl (by decide) ?_
    refine Tq.pass rfl rfl rfl rfl rfl (by decide) ?_
    refine Tq.va rfl (fun _ _ h1 h2 => zf (h1.ev rfl) (h1.ev rfl)) ?_
    exact Tq.fin (.cons rfl (.cons rfl (.cons rfl (.cons rfl (.cons rfl (.cons rfl (.cons rfl .nil)))))))
   ·rw [hg137] at hg131
    rw [if_pos rfl] at hg131
    have H := hg131
    refine Tq.val (wg rfl rfl rfl) rfl (fun _ _ h1 h2 => zB fo_36_0 (h1.ev rfl)) ?_
    refine Tq.val (wg rfl rfl rfl) rfl (fun _ _ h1 h2 => zC ag_3 (h1.ev rfl) (rdb h2 (vs := [(iv xL1.X0), (iv xL1.Y0), (iv xL1.X1), (iv xL1.Y1)]) (k := 7) rfl 0) rfl) ?_
    refine Tq.val (wg rfl rfl rfl) rfl (fun _ _ h1 h2 => run_move (h1.ev rfl)) ?_
    refine Tq.val (wg rfl rfl rfl) rfl (fun _ _ h1 h2 => run_move (h1.ev rfl)) ?_
    obtain ⟨x132, hx132, H⟩ := bnd H
    obtain ⟨hx1320, hx1321, hx1322⟩ := zh hx132
    refine Tq.val (wg rfl rfl rfl) rfl (fun _ _ h1 h2 => zH el_38 (h1.ev rfl) hl128 (h1.ev rfl) hx1320 hx1321) ?_
    refine Tq.val (wg rfl rfl rfl) rfl (fun _ _ h1 h2 => zC ag_3 (h1.ev rfl) (rdo ef_i64 (k := 2) h2 rfl hx1322) rfl) ?_
    refine Tq.val (wg rfl rfl rfl) rfl (fun _ _ h1 h2 => run_leq (h1.ev rfl) (h1.ev rfl)) ?_
    refine Tq.va rfl (fun _ _ h1 h2 => ze (h1.ev rfl) (h1.ev rfl)) ?_
    obtain rfl := Option.some.inj H
    exact Tq.fin (.cons rfl (.cons rfl (.cons rfl (.cons rfl (.cons rfl (.cons rfl (.cons rfl .nil)))))))
  ·refine Tq.nil (Tr.zA ?_)
   refine Tr.cond rfl H (fun H => ?_) (fun H => ?_)
   ·refine Tr.drawTail 9 (by kernel_rfl) (by kernel_rfl) ?_
    refine Tq.mv rfl rfl ?_
    refine Tq.mv rfl rfl ?_
    refine Tq.mv rfl rfl ?_
    refine Tq.mv rfl rfl ?_
    obtain ⟨x133, hx133, H⟩ := bnd H
    obtain ⟨hx1330, hx1331, hx1332⟩ := zh hx133
    refine Tq.va rfl (fun _ _ h1 h2 => zH el_38 (h1.ev rfl) hl128 (h1.ev rfl) hx1330 hx1331) ?_
    refine Tq.va rfl (fun _ _ h1 h2 => zC ag_3 (h1.ev rfl) (rdo ef_i64 (k := 2) h2 rfl hx1332) rfl) ?_
    refine Tq.va rfl (fun _ _ h1 h2 => zB fo_36_2 (h1.ev rfl)) ?_
    refine Tq.va rfl (fun _ _ h1 h2 => zC ag_3 (h1.ev rfl) (rdb h2 (vs := [(iv xL1.X0), (iv xL1.Y0), (iv xL1.X1), (iv xL1.Y1)]) (k := 7) rfl 2) rfl) ?_
    refine Tq.va rfl (fun _ _ h1 h2 => run_max (h1.ev rfl) (h1.ev rfl) _) ?_
    refine Tq.nil ?_
    obtain ⟨x134, hx134, H⟩ := bnd H
    obtain ⟨hx1340, hx1341, hx1342⟩ := zh hx134
    refine Tr.va rfl (fun _ _ h1 h2 => zH el_38 (h1.ev rfl) hl128 (h1.ev rfl) hx1340 hx1341) ?_
    obtain ⟨l135, hl135, H⟩ := bnd H
    have hnl135 := sets_len hl135
    refine Tr.storeEl 2 (t := zn) (l := l128) (i := (w64 ((l128.length : Int) - 1))) (fo := 0) (cs := [(iv (max x133 xL1.X1))]) (max x133 xL1.X1) (wn rfl) rfl rfl rfl rfl rfl hx1342 sz_3 rfl (fun u _ => ⟨u, trivial, rfl⟩) rfl hl135 ?_
    have hfl135 : SlF Al128 (l135).length cl128 := by rw [hnl135]; exact hl128
    refine Tr.sel (lf := [(3, (.slice Al128 (l135).length cl128)), (5, (.pointer (some ⟨b129, 0, none⟩))), (6, (iv (w64 ((l128.length : Int) - 1)))), (9, (.slice Ap0_0 (y100).length cp0_0)), (10, (iv (y100.length : Int))), (11, (iv (iL1 : Int))), (28, (.bool g131)), (29, (.slice Al128 (l135).length cl128)), (30, (iv (w64 ((l128.length : Int) - 1)))), (31, (.slice Al128 (l135).length cl128)), (32, (iv (w64 ((l128.length : Int) - 1)))), (34, (iv x133)), (35, (.pointer (some ⟨b129, 2, none⟩))), (36, (iv xL1.X1)), (37, (iv (max x133 xL1.X1)))]) (le := [(0, ow Ap0_0 cp0_0 36 zN y100), (2, ow Al128 cl128 3 zn l135), (7, bx b129 #[(iv xL1.X0), (iv xL1.Y0), (iv xL1.X1), (iv xL1.Y1)] 36)]) (.cons (slenV rfl (by rw [hnl135])) (.cons rfl (.cons rfl (.cons rfl (.cons rfl (.cons rfl (.cons rfl (.cons (slenV rfl (by rw [hnl135])) (.cons rfl (.cons (slenV rfl (by rw [hnl135])) (.cons rfl (.cons rfl (.cons rfl (.cons rfl (.cons rfl .nil))))))))))))))) (.cons rfl (.cons rfl (.cons rfl .nil))) ?_
    refine Tr.nil (Tr.zW (Tr.zA ?_))
    refine Tr.region ?_
    refine Tr.va rfl (fun _ _ h1 h2 => zx (h1.ev rfl) (h1.ev rfl)) ?_
    refine Tr.mv rfl rfl ?_
    refine Tr.nil ?_
    exact Tr.zZ leL1 (restL1, (iL1 + 1), l135, Al128, cl128) ⟨rfl, range_tl hdL1, zo hdL1, H, hfl135⟩ (.cons rfl (.cons rfl (.cons rfl (.cons (congrArg (fun z => some (Value.int .i64 z)) (range_up hdL1 hfky100_0)) .nil)))) (.cons rfl (.cons rfl .nil))
   ·refine Tr.region ?_
    refine Tr.mv rfl rfl ?_
    refine Tr.va rfl (fun _ _ h1 h2 => zB fo_36_0 (h1.ev rfl)) ?_
    refine Tr.va rfl (fun _ _ h1 h2 => zC ag_3 (h1.ev rfl) (rdb h2 (vs := [(iv xL1.X0), (iv xL1.Y0), (iv xL1.X1), (iv xL1.Y1)]) (k := 7) rfl 0) rfl) ?_
    refine Tr.va rfl (fun _ _ h1 h2 => zB fo_36_2 (h1.ev rfl)) ?_
    refine Tr.va rfl (fun _ _ h1 h2 => zC ag_3 (h1.ev rfl) (rdb h2 (vs := [(iv xL1.X0), (iv xL1.Y0), (iv xL1.X1), (iv xL1.Y1)]) (k := 7) rfl 2) rfl) ?_
    refine Tr.buildSlice 8 (e := 3) (vs := [(0, (iv xL1.X0)), (1, (iv xL1.X1))]) (cs := [(iv xL1.X0), (iv xL1.X1)]) (wn rfl) rfl (zi rfl (zi rfl evs_nil)) (by kernel_rfl) fun b136 => ?_
    obtain ⟨l137, hl137, H⟩ := bnd H
    refine Tr.append 2 (t := zn) (l := l128) (l2 := [xL1.X0, xL1.X1]) (wn rfl) rfl rfl rfl rfl (fun W hW => ⟨[[(iv xL1.X0)], [(iv xL1.X1)]], (.cons ⟨(), trivial, rfl⟩ (.cons ⟨(), trivial, rfl⟩ .nil)), rdb hW (vs := [(iv xL1.X0), (iv xL1.X1)]) (k := 8) rfl 0⟩) un_38 sz_3 zl_3 (by decide) by_3 rfl hl137 fun Al137 cl137 hAl137 => ?_
    refine Tr.asg rfl rfl ?_
    refine Tr.nil (Tr.zW (Tr.zA ?_))
    refine Tr.region ?_
    refine Tr.va rfl (fun _ _ h1 h2 => zx (h1.ev rfl) (h1.ev rfl)) ?_
    refine Tr.mv rfl rfl ?_
    refine Tr.nil ?_
    exact Tr.zZ leL1 (restL1, (iL1 + 1), l137, Al137, cl137) ⟨rfl, range_tl hdL1, zo hdL1, H, hAl137⟩ (.cons rfl (.cons rfl (.cons rfl (.cons (congrArg (fun z => some (Value.int .i64 z)) (range_up hdL1 hfky100_0)) .nil)))) (.cons rfl (.cons rfl .nil))

theorem F_slices_Equal_int_ok {w : Bs} (p0 : (List Int)) (Ap0_0 : Option Addr) (cp0_0 : Nat) (hp0_0 : Sl w.R w.W zn Ap0_0 cp0_0 p0) (p1 : (List Int)) (Ap1_0 : Option Addr) (cp1_0 : Nat) (hp1_0 : Sl w.R w.W zn Ap1_0 cp1_0 p1) (r : Bool) (H : F_slices_Equal_int p0 p1 = some r) (hE : HF w w.W E0) : Calls Tryz.prog 113 [(.slice Ap0_0 (p0).length cp0_0), (.slice Ap1_0 (p1).length cp1_0)].toArray w.W fun e W' => e = .returned (.bool r) ∧ HF w W' E0 := by
 unfold F_slices_Equal_int at H
 have leB := Bs.Le.refl w
 refine Tr.enter (n := 26) Tryz.func113 rfl rfl rfl hE ?_
 refine Tr.sr ?_
 refine Tr.asg rfl rfl ?_
 refine Tr.nil (Tr.zA ?_)
 refine Tr.seq ?_
 refine Tr.sr ?_
 refine Tr.mv rfl rfl ?_
 refine Tr.va rfl (fun _ _ h1 h2 => zq un_38 (h1.ev rfl)) ?_
 refine Tr.mv rfl rfl ?_
 refine Tr.va rfl (fun _ _ h1 h2 => zq un_38 (h1.ev rfl)) ?_
 refine Tr.va rfl (fun _ _ h1 h2 => run_neq (h1.ev rfl) (h1.ev rfl)) ?_
 refine Tr.nil (Tr.zA ?_)
 refine Tr.cond rfl H (fun H => ?_) (fun H => ?_)
 ·refine Tr.sr ?_
  refine Tr.asg rfl rfl ?_
  refine Tr.nil (Tr.zA ?_)
  refine Tr.ret (Tr.zU ?_)
  obtain rfl := Option.some.inj H
  exact Tr.out (m := [(.bool false)]) [] (zP rfl zQ) (fun W hW => ⟨rfl, hW.low leB⟩)
 ·refine Tr.skip (Tr.zA ?_)
  refine Tr.seq ?_
  refine Tr.sr ?_
  refine Tr.mv rfl rfl ?_
  refine Tr.va rfl (fun _ _ h1 h2 => zq un_38 (h1.ev rfl)) ?_
  refine Tr.mv rfl rfl ?_
  refine Tr.nil (Tr.zA ?_)
  refine Tr.block ?_
  refine Tr.loop (σ := (List Int) × Nat) (fun m w s => m = s.1.length + 1 ∧ s.1 = List.drop s.2 p0 ∧ s.2 ≤ p0.length ∧ F_slices_Equal_int_L1 p1 s.1 s.2 = some r) (fun s => [(0, (.slice Ap0_0 (p0).length cp0_0)), (1, (.slice Ap1_0 (p1).length cp1_0)), (12, (iv (p0.length : Int))), (13, (iv (s.2 : Int)))]) (fun s => []) (p0.length + 1) (p0, 0) ⟨rfl, rfl, Nat.zero_le _, H⟩ (.cons rfl (.cons rfl (.cons rfl (.cons rfl .nil)))) .nil (fun _ _ h => absurd h.1 (by simp)) ?_
  intro w leL1 m s hs
  obtain ⟨restL1, iL1⟩ := s
  obtain ⟨hmL1, hdL1, hiL1, H⟩ := hs
  replace hdL1 : restL1 = List.drop iL1 p0 := hdL1
  replace H : F_slices_Equal_int_L1 p1 restL1 iL1 = some r := H
  replace hmL1 : m + 1 = restL1.length + 1 := hmL1
  replace hp0_0 := hp0_0.leR leL1
  replace hp1_0 := hp1_0.leR leL1
  replace leB := leB.trans leL1
  obtain rfl : m = restL1.length := by omega
  clear hmL1
  show Tr _ _ (LF [(0, (.slice Ap0_0 (p0).length cp0_0)), (1, (.slice Ap1_0 (p1).length cp1_0)), (12, (iv (p0.length : Int))), (13, (iv (iL1 : Int)))]) (LE []) _
  cases restL1 with
  | nil =>
   rw [F_slices_Equal_int_L1.eq_1] at H
   refine Tr.sr ?_
   refine Tr.va rfl (fun _ _ h1 h2 => zz (h1.ev rfl) (h1.ev rfl)) ?_
   refine Tr.nil (Tr.zA ?_)
   refine Tr.seq ?_
   refine Tr.condF rfl (range_nil hdL1) ?_
   refine Tr.exit (Tr.zX (Tr.zX (Tr.zAC (Tr.zA ?_))))
   refine Tr.sr ?_
   refine Tr.asg rfl rfl ?_
   refine Tr.nil (Tr.zA ?_)
   refine Tr.ret ?_
   obtain rfl := Option.some.inj H
   exact Tr.out (m := [(.bool true)]) [] (zP rfl zQ) (fun W hW => ⟨rfl, hW.low leB⟩)
  | cons xL1 restL1 =>
   rw [F_slices_Equal_int_L1.eq_2] at H
   refine Tr.sr ?_
   refine Tr.va rfl (fun _ _ h1 h2 => zz (h1.ev rfl) (h1.ev rfl)) ?_
   refine Tr.nil (Tr.zA ?_)
   refine Tr.seq ?_
   refine Tr.condT rfl (range_on hdL1) ?_
   refine Tr.skip (Tr.zA ?_)
   refine Tr.seq ?_
   refine Tr.block ?_
   refine Tr.sr ?_
   refine Tr.mv rfl rfl ?_
   refine Tr.asg rfl rfl ?_
   refine Tr.nil (Tr.zA ?_)
   refine Tr.seq ?_
   refine Tr.draw (by kernel_rfl) (by kernel_rfl) ?_
   refine Tq.mv rfl rfl ?_
   refine Tq.mv rfl rfl ?_
   refine Tq.va rfl (fun _ _ h1 h2 => zH el_38 (h1.ev rfl) hp0_0.form (h1.ev rfl) (Int.natCast_nonneg _) (zo hdL1)) ?_
   refine Tq.va rfl (fun _ _ h1 h2 => zC ag_3 (h1.ev rfl) (rdF ef_i64 hp0_0 (range_at hdL1) h2) rfl) ?_
   refine Tq.mv rfl rfl ?_
   refine Tq.mv rfl rfl ?_
   obtain ⟨x103, hx103, H⟩ := bnd H
   obtain ⟨hx1030, hx1031, hx1032⟩ := zh hx103
   refine Tq.va rfl (fun _ _ h1 h2 => zH el_38 (h1.ev rfl) hp1_0.form (h1.ev rfl) hx1030 hx1031) ?_
   refine Tq.va rfl (fun _ _ h1 h2 => zC ag_3 (h1.ev rfl) (rdF ef_i64 hp1_0 hx1032 h2) rfl) ?_
   refine Tq.va rfl (fun _ _ h1 h2 => run_neq (h1.ev rfl) (h1.ev rfl)) ?_
   refine Tq.nil (Tr.zA ?_)
   refine Tr.cond rfl H (fun H => ?_) (fun H => ?_)
   ·refine Tr.sr ?_
    refine Tr.asg rfl rfl ?_
    refine Tr.nil (Tr.zA ?_)
    refine Tr.ret (Tr.zAB (Tr.zU (Tr.zU (Tr.zAB (Tr.zU ?_)))))
    obtain rfl := Option.some.inj H
    exact Tr.out (m := [(.bool false)]) [] (zP rfl zQ) (fun W hW => ⟨rfl, hW.low leB⟩)
   ·refine Tr.skip (Tr.zW (Tr.zA ?_))
    refine Tr.region ?_
    refine Tr.va rfl (fun _ _ h1 h2 => zx (h1.ev rfl) (h1.ev rfl)) ?_
    refine Tr.mv rfl rfl ?_
    refine Tr.nil ?_
    exact Tr.zZ leL1 (restL1, (iL1 + 1)) ⟨rfl, range_tl hdL1, zo hdL1, H⟩ (.cons rfl (.cons rfl (.cons rfl (.cons (congrArg (fun z => some (Value.int .i64 z)) (range_up hdL1 hp0_0.form)) .nil)))) .nil

theorem F_shape_Set__push_ok {w : Bs} (p0 : (List zV)) (Ap0_0 : Option Addr) (cp0_0 : Nat) (p1 : zV) (Ap1_0 : Option Addr) (cp1_0 : Nat) (hp1_0 : Sl w.O w.W zn Ap1_0 cp1_0 p1.Xs) (r : (List zV)) (H : F_shape_Set__push p0 p1 = some r) (hE : HF w w.W (LEn [ow Ap0_0 cp0_0 107 zJ p0])) : Calls Tryz.prog 87 [(.slice Ap0_0 (p0).length cp0_0), (.agg #[(iv p1.Y0), (iv p1.Y1), (.slice Ap1_0 (p1.Xs).length cp1_0)])].toArray w.W fun e W' => ∃ (w' : Bs) (u : (Option Addr × Nat)), w.Le w' ∧ e = .returned (.slice u.1 (r).length u.2) ∧ (SlF u.1 (r).length u.2) ∧ HF w' W' (LEn [ow u.1 u.2 107 zJ r]) := by
 unfold F_shape_Set__push at H
 have hfhp0_0 := (hE.sl (k := 0) rfl).form
 have leB := Bs.Le.refl w
 refine Tr.enter (n := 54) Tryz.func87 rfl rfl rfl hE ?_
 refine Tr.sr ?_
 refine Tr.box 1 (cs := [(iv p1.Y0), (iv p1.Y1), (.slice Ap1_0 (p1.Xs).length cp1_0)]) (wn rfl) rfl rfl rfl fun b100 => ?_
 refine Tr.asg rfl rfl ?_
 refine Tr.nilOwn 2 107 zJ ?_
 show Tr _ _ (uf _ 4 (.slice none (([] : List zV)).length 0)) _ _
 refine Tr.nil (Tr.zA ?_)
 refine Tr.seq ?_
 refine Tr.sr ?_
 refine Tr.va rfl (fun _ _ h1 h2 => zB fo_107_2 (h1.ev rfl)) ?_
 refine Tr.va rfl (fun _ _ h1 h2 => zC ag_38 (h1.ev rfl) (rdb h2 (vs := [(iv p1.Y0), (iv p1.Y1), (.slice Ap1_0 (p1.Xs).length cp1_0)]) (k := 1) rfl 2) rfl) ?_
 refine Tr.va rfl (fun _ _ h1 h2 => zq un_38 (h1.ev rfl)) ?_
 refine Tr.va rfl (fun _ _ h1 h2 => run_eql (h1.ev rfl) (h1.ev rfl)) ?_
 refine Tr.mv rfl rfl ?_
 refine Tr.mid0 6 [(0, (.slice Ap0_0 (p0).length cp0_0)), (3, (.pointer (some ⟨b100, 0, none⟩))), (16, (.bool (((p1.Xs.length : Int) == 0) || (decide (p1.Y1 ≤ p1.Y0)))))] [(0, ow Ap0_0 cp0_0 107 zJ p0), (1, bx b100 #[(iv p1.Y0), (iv p1.Y1), (.slice Ap1_0 (p1.Xs).length cp1_0)] 107), (2, ow none 0 107 zJ ([] : List zV))] ?_ ?_
 ·cases hg114 : ((p1.Xs.length : Int) == 0)
  ·refine Tr.val (wg rfl rfl rfl) rfl (fun _ _ h1 h2 => zB fo_107_1 (h1.ev rfl)) ?_
   refine Tr.val (wg rfl rfl rfl) rfl (fun _ _ h1 h2 => zC ag_3 (h1.ev rfl) (rdb h2 (vs := [(iv p1.Y0), (iv p1.Y1), (.slice Ap1_0 (p1.Xs).length cp1_0)]) (k := 1) rfl 1) rfl) ?_
   refine Tr.val (wg rfl rfl rfl) rfl (fun _ _ h1 h2 => zB fo_107_0 (h1.ev rfl)) ?_
   refine Tr.val (wg rfl rfl rfl) rfl (fun _ _ h1 h2 => zC ag_3 (h1.ev rfl) (rdb h2 (vs := [(iv p1.Y0), (iv p1.Y1), (.slice Ap1_0 (p1.Xs).length cp1_0)]) (k := 1) rfl 0) rfl) ?_
   refine Tr.val (wg rfl rfl rfl) rfl (fun _ _ h1 h2 => run_leq (h1.ev rfl) (h1.ev rfl)) ?_
   refine Tr.va rfl (fun _ _ h1 h2 => zf (h1.ev rfl) (h1.ev rfl)) ?_
   exact Tr.nil (Tr.fin0 (.cons rfl (.cons rfl (.cons rfl .nil))) (.cons rfl (.cons rfl (.cons rfl .nil))))
  ·refine Tr.pass rfl rfl rfl rfl rfl (by decide) ?_
   refine Tr.pass rfl rfl rfl rfl rfl (by decide) ?_
   refine Tr.pass rfl rfl rfl rfl rfl (by decide) ?_
   refine Tr.pass rfl rfl rfl rfl rfl (by decide) ?_
   refine Tr.pass rfl rfl rfl rfl rfl (by decide) ?_
   refine Tr.va rfl (fun _ _ h1 h2 => ze (h1.ev rfl) (h1.ev rfl)) ?_
   exact Tr.nil (Tr.fin0 (.cons rfl (.cons rfl (.cons rfl .nil))) (.cons rfl (.cons rfl (.cons rfl .nil))))
 ·show Tr _ _ (LF [(0, (.slice Ap0_0 (p0).length cp0_0)), (3, (.pointer (some ⟨b100, 0, none⟩))), (16, (.bool (((p1.Xs.length : Int) == 0) || (decide (p1.Y1 ≤ p1.Y0)))))]) (LE [(0, ow Ap0_0 cp0_0 107 zJ p0), (1, bx b100 #[(iv p1.Y0), (iv p1.Y1), (.slice Ap1_0 (p1.Xs).length cp1_0)] 107), (2, ow none 0 107 zJ ([] : List zV))]) _
  refine Tr.nil (Tr.zA ?_)
  refine Tr.cond rfl H (fun H => ?_) (fun H => ?_)
  ·refine Tr.sr ?_
   refine Tr.mv rfl rfl ?_
   refine Tr.asg rfl rfl ?_
   refine Tr.nil (Tr.zA ?_)
   refine Tr.ret (Tr.zU ?_)
   obtain rfl := Option.some.inj H
   exact Tr.out (m := [(.slice Ap0_0 (p0).length cp0_0)]) [] (zP rfl zQ) (fun W hW => ⟨w, (Ap0_0, cp0_0), leB, rfl, hfhp0_0, hW.pick (ks := [0]) (by decide) (zM rfl zY)⟩)
  ·refine Tr.skip (Tr.zA ?_)
   refine Tr.seq ?_
   refine Tr.sr ?_
   refine Tr.mv rfl rfl ?_
   refine Tr.va rfl (fun _ _ h1 h2 => zq un_66 (h1.ev rfl)) ?_
   refine Tr.va rfl (fun _ _ h1 h2 => run_sub (h1.ev rfl) (h1.ev rfl)) ?_
   refine Tr.asg rfl rfl ?_
   refine Tr.nil (Tr.zA ?_)
   refine Tr.seq ?_
   refine Tr.draw (by kernel_rfl) (by kernel_rfl) ?_
   refine Tq.mv rfl rfl ?_
   refine Tq.va rfl (fun _ _ h1 h2 => run_geq (h1.ev rfl) (h1.ev rfl)) ?_
   refine Tq.mv rfl rfl ?_
   obtain ⟨g102, hg102, H⟩ := bnd H
   refine Tq.mid 9 [(0, (.slice Ap0_0 (p0).length cp0_0)), (3, (.pointer (some ⟨b100, 0, none⟩))), (5, (iv (w64 ((p0.length : Int) - 1)))), (32, (.bool g102))] ?_ ?_
   ·cases hg114 : (decide (0 ≤ (w64 ((p0.length : Int) - 1))))
    ·rw [hg114] at hg102
     rw [if_neg (by decide)] at hg102
     have H := hg102
     obtain rfl := Option.some.inj H
     refine Tq.pass rfl rfl rfl rfl rfl (by decide) ?_
     refine Tq.pass rfl rfl rfl rfl rfl (by decide) ?_
     refine Tq.pass rfl rfl rfl rfl rfl (by decide) ?_
     refine Tq.pass rfl rfl rfl rfl rfl (by decide) ?_
     refine Tq.pass rfl rfl rfl rfl rfl (by decide) ?_
     refine Tq.pass rfl rfl rfl rfl rfl (by decide) ?_
     refine Tq.pass rfl rfl rfl rfl rfl (by decide) ?_
     refine Tq.pass rfl rfl rfl rfl rfl (by decide) ?_
     refine Tq.va rfl (fun _ _ h1 h2 => zf (h1.ev rfl) (h1.ev rfl)) ?_
     exact Tq.fin (.cons rfl (.cons rfl (.cons rfl (.cons rfl .nil))))
    ·rw [hg114] at hg102
     rw [if_pos rfl] at hg102
     have H := hg102
     refine Tq.val (wg rfl rfl rfl) rfl (fun _ _ h1 h2 => run_move (h1.ev rfl)) ?_
     refine Tq.val (wg rfl rfl rfl) rfl (fun _ _ h1 h2 => run_move (h1.ev rfl)) ?_
     obtain ⟨x103, hx103, H⟩ := bnd H
     obtain ⟨hx1030, hx1031, hx1032⟩ := zh hx103
     refine Tq.val (wg rfl rfl rfl) rfl (fun _ _ h1 h2 => zH el_66 (h1.ev rfl) hfhp0_0 (h1.ev rfl) hx1030 hx1031) ?_
     refine Tq.val (wg rfl rfl rfl) rfl (fun _ _ h1 h2 => zB fo_107_1 (h1.ev rfl)) ?_
     refine Tq.val (wg rfl rfl rfl) rfl (fun _ _ h1 h2 => (HF.atN (k := 0) h2 rfl hx1032).elim fun u hu => zC ag_3 (h1.ev rfl) (hu.2.drop 1) rfl) ?_
     refine Tq.val (wg rfl rfl rfl) rfl (fun _ _ h1 h2 => zB fo_107_0 (h1.ev rfl)) ?_
     refine Tq.val (wg rfl rfl rfl) rfl (fun _ _ h1 h2 => zC ag_3 (h1.ev rfl) (rdb h2 (vs := [(iv p1.Y0), (iv p1.Y1), (.slice Ap1_0 (p1.Xs).length cp1_0)]) (k := 1) rfl 0) rfl) ?_
     refine Tq.val (wg rfl rfl rfl) rfl (fun _ _ h1 h2 => run_eql (h1.ev rfl) (h1.ev rfl)) ?_
     refine Tq.va rfl (fun _ _ h1 h2 => ze (h1.ev rfl) (h1.ev rfl)) ?_
     obtain rfl := Option.some.inj H
     exact Tq.fin (.cons rfl (.cons rfl (.cons rfl (.cons rfl .nil))))
   ·refine Tq.mv rfl rfl ?_
    obtain ⟨g107, hg107, H⟩ := bnd H
    refine Tq.mid 9 [(0, (.slice Ap0_0 (p0).length cp0_0)), (3, (.pointer (some ⟨b100, 0, none⟩))), (5, (iv (w64 ((p0.length : Int) - 1)))), (42, (.bool g107))] ?_ ?_
    ·cases hg114 : g102
     ·rw [hg114] at hg107
      rw [if_neg (by decide)] at hg107
      have H := hg107
      obtain rfl := Option.some.inj H
      refine Tq.pass rfl rfl rfl rfl rfl (by decide) ?_
      refine Tq.pass rfl rfl rfl rfl rfl (by decide) ?_
      refine Tq.pass rfl rfl rfl rfl rfl (by decide) ?_
      refine Tq.pass rfl rfl rfl rfl rfl (by decide) ?_
      refine Tq.pass rfl rfl rfl rfl rfl (by decide) ?_
      refine Tq.pass rfl rfl rfl rfl rfl (by decide) ?_
      refine Tq.pass rfl rfl rfl rfl rfl (by decide) ?_
      refine Tq.pass rfl rfl rfl rfl rfl (by decide) ?_
      refine Tq.va rfl (fun _ _ h1 h2 => zf (h1.ev rfl) (h1.ev rfl)) ?_
      exact Tq.fin (.cons rfl (.cons rfl (.cons rfl (.cons rfl .nil))))
     ·rw [hg114] at hg107
      rw [if_pos rfl] at hg107
      have H := hg107
      refine Tq.val (wg rfl rfl rfl) rfl (fun _ _ h1 h2 => run_move (h1.ev rfl)) ?_
      refine Tq.val (wg rfl rfl rfl) rfl (fun _ _ h1 h2 => run_move (h1.ev rfl)) ?_
      obtain ⟨x108, hx108, H⟩ := bnd H
      obtain ⟨hx1080, hx1081, hx1082⟩ := zh hx108
      refine Tq.val (wg rfl rfl rfl) rfl (fun _ _ h1 h2 => zH el_66 (h1.ev rfl) hfhp0_0 (h1.ev rfl) hx1080 hx1081) ?_
      refine Tq.val (wg rfl rfl rfl) rfl (fun _ _ h1 h2 => zB fo_107_2 (h1.ev rfl)) ?_
      refine Tq.valE (U := (zJ).Ad) (fun u => (zJ).ok w.O w.W u x108) (fun u => (.slice u.1 (x108.Xs).length u.2)) (wg rfl rfl rfl) rfl (ldN (κ := 0) (t := zJ) (V := fun u => (.slice u.1 (x108.Xs).length u.2)) rfl hx1082 (fun _ _ u h1 hc => zC ag_38 (h1.ev rfl) (hc.drop 2) rfl)) ?_
      intro u109 hoku109
      obtain ⟨Au109_0, cu109_0⟩ := u109
      have hoku109_0 := hoku109
      replace hoku109_0 : Sl w.O w.W zn Au109_0 cu109_0 x108.Xs := hoku109_0
      show Tq _ _ _ _ (uf _ 38 (.slice Au109_0 (x108.Xs).length cu109_0)) _ _ _
      refine Tq.val (wg rfl rfl rfl) rfl (fun _ _ h1 h2 => zB fo_107_2 (h1.ev rfl)) ?_
      refine Tq.val (wg rfl rfl rfl) rfl (fun _ _ h1 h2 => zC ag_38 (h1.ev rfl) (rdb h2 (vs := [(iv p1.Y0), (iv p1.Y1), (.slice Ap1_0 (p1.Xs).length cp1_0)]) (k := 1) rfl 2) rfl) ?_
      obtain ⟨y110, hy110, H⟩ := bnd H
      refine Tq.call0 (r := (.bool y110)) (wg rfl rfl rfl) rfl Tryz.call113 (zF rfl (zF rfl zO)) (fun W hW => F_slices_Equal_int_ok x108.Xs Au109_0 cu109_0 (hoku109_0.rl.ext hW.extAll) p1.Xs Ap1_0 cp1_0 (hp1_0.rl.ext hW.extAll) y110 hy110 (HF.start _)) ?_
      refine Tq.va rfl (fun _ _ h1 h2 => ze (h1.ev rfl) (h1.ev rfl)) ?_
      obtain rfl := Option.some.inj H
      exact Tq.fin (.cons rfl (.cons rfl (.cons rfl (.cons rfl .nil))))
    ·refine Tq.nil (Tr.zA ?_)
     refine Tr.cond rfl H (fun H => ?_) (fun H => ?_)
     ·refine Tr.sr ?_
      refine Tr.mv rfl rfl ?_
      refine Tr.mv rfl rfl ?_
      refine Tr.va rfl (fun _ _ h1 h2 => zB fo_107_1 (h1.ev rfl)) ?_
      refine Tr.va rfl (fun _ _ h1 h2 => zC ag_3 (h1.ev rfl) (rdb h2 (vs := [(iv p1.Y0), (iv p1.Y1), (.slice Ap1_0 (p1.Xs).length cp1_0)]) (k := 1) rfl 1) rfl) ?_
      obtain ⟨x111, hx111, H⟩ := bnd H
      obtain ⟨hx1110, hx1111, hx1112⟩ := zh hx111
      refine Tr.va rfl (fun _ _ h1 h2 => zH el_66 (h1.ev rfl) hfhp0_0 (h1.ev rfl) hx1110 hx1111) ?_
      refine Tr.va rfl (fun _ _ h1 h2 => zB fo_107_1 (h1.ev rfl)) ?_
      obtain ⟨l112, hl112, H⟩ := bnd H
      have hnl112 := sets_len hl112
      refine Tr.storeEl 0 (t := zJ) (l := p0) (i := (w64 ((p0.length : Int) - 1))) (fo := 1) (cs := [(iv p1.Y1)]) (zV.mk x111.Y0 p1.Y1 x111.Xs) (wn rfl) rfl rfl rfl rfl rfl hx1112 sz_3 rfl (fun u hu => ⟨u, hu, rfl⟩) rfl hl112 ?_
      have hfl112 : SlF Ap0_0 (l112).length cp0_0 := by rw [hnl112]; exact hfhp0_0
      have hsl112 := hnl112.trans rfl
      refine Tr.sel (lf := [(0, (.slice Ap0_0 (l112).length cp0_0)), (3, (.pointer (some ⟨b100, 0, none⟩))), (5, (iv (w64 ((p0.length : Int) - 1)))), (42, (.bool g107)), (43, (.slice Ap0_0 (l112).length cp0_0)), (44, (iv (w64 ((p0.length : Int) - 1)))), (45, (.pointer (some ⟨b100, 1, none⟩))), (46, (iv p1.Y1))]) (le := [(0, ow Ap0_0 cp0_0 107 zJ l112), (1, bx b100 #[(iv p1.Y0), (iv p1.Y1), (.slice Ap1_0 (p1.Xs).length cp1_0)] 107), (2, ow none 0 107 zJ ([] : List zV))]) (.cons (slenV rfl (by rw [hnl112])) (.cons rfl (.cons rfl (.cons rfl (.cons (slenV rfl (by rw [hnl112])) (.cons rfl (.cons rfl (.cons rfl .nil)))))))) (.cons rfl (.cons rfl (.cons rfl .nil))) ?_
      refine Tr.nil (Tr.zA ?_)
      refine Tr.sr ?_
      refine Tr.mv rfl rfl ?_
      refine Tr.asg rfl rfl ?_
      refine Tr.nil (Tr.zA ?_)
      refine Tr.ret (Tr.zU ?_)
      obtain rfl := Option.some.inj H
      exact Tr.out (m := [(.slice Ap0_0 (l112).length cp0_0)]) [] (zP rfl zQ) (fun W hW => ⟨w, (Ap0_0, cp0_0), leB, rfl, hfl112, hW.pick (ks := [0]) (by decide) (zM rfl zY)⟩)
     ·refine Tr.skip (Tr.zA ?_)
      refine Tr.sr ?_
      refine Tr.mv rfl rfl ?_
      refine Tr.va rfl (fun _ _ h1 h2 => zR (cs := [(iv p1.Y0), (iv p1.Y1), (.slice Ap1_0 (p1.Xs).length cp1_0)]) ag_107 sz_107 (h1.ev rfl) (zL.take (rdb h2 (vs := [(iv p1.Y0), (iv p1.Y1), (.slice Ap1_0 (p1.Xs).length cp1_0)]) (k := 1) rfl 0) 3) rfl) ?_
      refine Tr.buildSlice 3 (e := 107) (vs := [(0, (.agg #[(iv p1.Y0), (iv p1.Y1), (.slice Ap1_0 (p1.Xs).length cp1_0)]))]) (cs := [(iv p1.Y0), (iv p1.Y1), (.slice Ap1_0 (p1.Xs).length cp1_0)]) (wn rfl) rfl (zi rfl evs_nil) (by kernel_rfl) fun b113 => ?_
      obtain ⟨l114, hl114, H⟩ := bnd H
      refine Tr.append 0 (t := zJ) (l := p0) (l2 := [p1]) (wn rfl) rfl rfl rfl rfl (fun W hW => ⟨[[(iv p1.Y0), (iv p1.Y1), (.slice Ap1_0 (p1.Xs).length cp1_0)]], (.cons ⟨(Ap1_0, cp1_0), hp1_0, rfl⟩ .nil), rdb hW (vs := [(iv p1.Y0), (iv p1.Y1), (.slice Ap1_0 (p1.Xs).length cp1_0)]) (k := 3) rfl 0⟩) un_66 sz_107 zl_107 (by decide) by_107 rfl hl114 fun Al114 cl114 hAl114 => ?_
      refine Tr.asg rfl rfl ?_
      refine Tr.nil (Tr.zA ?_)
      refine Tr.ret ?_
      obtain rfl := Option.some.inj H
      exact Tr.out (m := [(.slice Al114 (l114).length cl114)]) [] (zP rfl zQ) (fun W hW => ⟨w, (Al114, cl114), leB, rfl, hAl114, hW.pick (ks := [0]) (by decide) (zM rfl zY)⟩)

theorem F_shape_SetOf_ok (N : Nat) {w : Bs} (p0 : (List zT)) (Ap0_0 : Option Addr) (cp0_0 : Nat) (hp0_0 : Sl w.R w.W zN Ap0_0 cp0_0 p0) (r : (List zV)) (H : F_shape_SetOf N p0 = some r) (hE : HF w w.W (LEn [emp])) : Calls Tryz.prog 59 [(.slice Ap0_0 (p0).length cp0_0)].toArray w.W fun e W' => ∃ (w' : Bs) (u : (Option Addr × Nat)), w.Le w' ∧ e = .returned (.slice u.1 (r).length u.2) ∧ (SlF u.1 (r).length u.2) ∧ HF w' W' (LEn [ow u.1 u.2 107 zJ r]) := by
 unfold F_shape_SetOf at H
 have leB := Bs.Le.refl w
 refine Tr.enter (n := 83) Tryz.func59 rfl rfl rfl hE ?_
 refine Tr.sr ?_
 refine Tr.asg rfl rfl ?_
 refine Tr.nilOwn 1 107 zJ ?_
 show Tr _ _ (uf _ 2 (.slice none (([] : List zV)).length 0)) _ _
 refine Tr.nil (Tr.zA ?_)
 refine Tr.sr ?_
 refine Tr.mv rfl rfl ?_
 obtain ⟨y100, hy100, H⟩ := bnd H
 refine Tr.callM [2] [emp] (U := (Option Addr × Nat)) (fun u => (.slice u.1 (y100).length u.2)) (fun u => SlF u.1 (y100).length u.2) (fun u => [ow u.1 u.2 36 zN y100]) rfl (zM rfl zY) (fun _ => rfl) (wn rfl) rfl Tryz.call80 (zF rfl zO) (fun W hW hp hE => F_slices_Clone_Rect_ok p0 Ap0_0 cp0_0 (hp0_0.ext (hW.extS hp)) y100 hy100 hE) ?_
 intro u hu
 obtain ⟨Ay100_0, cy100_0⟩ := u
 have gy100_0 := hu
 have hgy100_0 : SlF Ay100_0 (y100).length cy100_0 := gy100_0 --@phi
 show Tr _ _ (uf _ 11 (.slice Ay100_0 (y100).length cy100_0)) (up _ 2 (ow Ay100_0 cy100_0 36 zN y100)) _
 refine Tr.asg rfl rfl ?_
 refine Tr.nil (Tr.zA ?_)
 refine Tr.sr ?_
 refine Tr.mv rfl rfl ?_
 obtain ⟨y102, hy102, H⟩ := bnd H
 refine Tr.callM [2] [ow Ay100_0 cy100_0 36 zN y100] (U := Unit) (fun u => (.tuple #[])) (fun u => (y102).length = (y100).length) (fun u => [ow Ay100_0 cy100_0 36 zN y102]) rfl (zM rfl zY) (fun _ => rfl) (wn rfl) rfl Tryz.call81 (zF rfl (zF rfl zO)) (fun W hW hp hE => F_slices_SortFunc_TRect_ok y100 Ay100_0 cy100_0 (fun z0 z1 => F_shape_SetOf_1 z0 z1) 82 [] Tryz.call82 (fun w' he z0 z1 y hy => F_shape_SetOf_1_ok z0 z1 y hy (HF.start _)) y102 hy102 hE) ?_
 intro u hu
 have gky102_0 := hu
 have hgky102_0 : (y102).length = (y100).length := gky102_0 --@phi
 have hfky102_0 : SlF Ay100_0 (y102).length cy100_0 := by rw [hgky102_0]; exact hgy100_0
 show Tr _ _ (uf _ 13 (.tuple #[])) (up _ 2 (ow Ay100_0 cy100_0 36 zN y102)) _
 refine Tr.sel (lf := [(0, (.slice Ay100_0 (y102).length cy100_0)), (2, (.slice none (([] : List zV)).length 0)), (10, (.slice Ap0_0 (p0).length cp0_0)), (11, (.slice Ay100_0 (y102).length cy100_0)), (12, (.slice Ay100_0 (y102).length cy100_0)), (13, (.tuple #[]))]) (le := [(1, ow none 0 107 zJ ([] : List zV)), (2, ow Ay100_0 cy100_0 36 zN y102)]) (.cons (slenV rfl (by rw [hgky102_0])) (.cons rfl (.cons rfl (.cons (slenV rfl (by rw [hgky102_0])) (.cons (slenV rfl (by rw [hgky102_0])) (.cons rfl .nil)))))) (.cons rfl (.cons rfl .nil)) ?_
 refine Tr.nil (Tr.zA ?_)
 refine Tr.sr ?_
 refine Tr.alloc 3 (wn rfl) rfl ze_38 fun b104 => ?_
 refine Tr.nil (Tr.zA ?_)
 refine Tr.seq ?_
 refine Tr.sr ?_
 refine Tr.mv rfl rfl ?_
 refine Tr.va rfl (fun _ _ h1 h2 => zq un_31 (h1.ev rfl)) ?_
 refine Tr.mv rfl rfl ?_
 refine Tr.nil (Tr.zA ?_)
 refine Tr.block ?_
 refine Tr.nilOwn 12 3 zn ?_
 refine Tr.loop (σ := (List zT) × Nat × (List Int) × (Option Addr) × Nat) (fun m w s => m = s.1.length + 1 ∧ s.1 = List.drop s.2.1 y102 ∧ s.2.1 ≤ y102.length ∧ F_shape_SetOf_L1 N y102 s.1 s.2.1 s.2.2.1 = some r ∧ SlF s.2.2.2.1 (s.2.2.1).length s.2.2.2.2) (fun s => [(0, (.slice Ay100_0 (y102).length cy100_0)), (3, (.pointer (some ⟨b104, 0, none⟩))), (14, (.slice Ay100_0 (y102).length cy100_0)), (15, (iv (y102.length : Int))), (16, (iv (s.2.1 : Int)))]) (fun s => [(2, ow Ay100_0 cy100_0 36 zN y102), (3, bx b104 #[(.slice s.2.2.2.1 (s.2.2.1).length s.2.2.2.2)] 38), (12, ow s.2.2.2.1 s.2.2.2.2 3 zn s.2.2.1)]) (y102.length + 1) (y102, 0, ([] : List Int), none, 0) ⟨rfl, rfl, Nat.zero_le _, H, slf_nil⟩ (.cons rfl (.cons rfl (.cons rfl (.cons rfl (.cons rfl .nil))))) (.cons rfl (.cons rfl (.cons rfl .nil))) (fun _ _ h => absurd h.1 (by simp)) ?_
 intro w leL1 m s hs
 obtain ⟨restL1, iL1, l119, Al119, cl119⟩ := s
 obtain ⟨hmL1, hdL1, hiL1, H, hl119⟩ := hs
 replace hdL1 : restL1 = List.drop iL1 y102 := hdL1
 replace H : F_shape_SetOf_L1 N y102 restL1 iL1 l119 = some r := H
 replace hmL1 : m + 1 = restL1.length + 1 := hmL1
 replace leB := leB.trans leL1
 replace hl119 : SlF Al119 (l119).length cl119 := hl119
 obtain rfl : m = restL1.length := by omega
 clear hmL1
 show Tr _ _ (LF [(0, (.slice Ay100_0 (y102).length cy100_0)), (3, (.pointer (some ⟨b104, 0, none⟩))), (14, (.slice Ay100_0 (y102).length cy100_0)), (15, (iv (y102.length : Int))), (16, (iv (iL1 : Int)))]) (LE [(2, ow Ay100_0 cy100_0 36 zN y102), (3, bx b104 #[(.slice Al119 (l119).length cl119)] 38), (12, ow Al119 cl119 3 zn l119)]) _
 cases restL1 with
 | nil =>
  rw [F_shape_SetOf_L1.eq_1] at H
  refine Tr.sr ?_
  refine Tr.va rfl (fun _ _ h1 h2 => zz (h1.ev rfl) (h1.ev rfl)) ?_
  refine Tr.nil (Tr.zA ?_)
  refine Tr.seq ?_
  refine Tr.condF rfl (range_nil hdL1) ?_
  refine Tr.exit (Tr.zX (Tr.zX (Tr.zAC (Tr.zA ?_))))
  refine Tr.sr ?_
  refine Tr.va rfl (fun _ _ h1 h2 => zC ag_38 (h1.ev rfl) (rdb h2 (vs := [(.slice Al119 (l119).length cl119)]) (k := 3) rfl 0) rfl) ?_
  obtain ⟨y120, hy120, H⟩ := bnd H
  refine Tr.callM [12] [ow Al119 cl119 3 zn l119] (U := Unit) (fun u => (.tuple #[])) (fun u => (y120).length = (l119).length) (fun u => [ow Al119 cl119 3 zn y120]) rfl (zM rfl zY) (fun _ => rfl) (wn rfl) rfl Tryz.call83 (zF rfl zO) (fun W hW hp hE => F_slices_Sort_int_ok l119 Al119 cl119 y120 hy120 hE) ?_
  intro u hu
  have gky120_0 := hu
  have hgky120_0 : (y120).length = (l119).length := gky120_0 --@phi
  have hfky120_0 : SlF Al119 (y120).length cl119 := by rw [hgky120_0]; exact hl119
  show Tr _ _ (uf _ 29 (.tuple #[])) (up _ 12 (ow Al119 cl119 3 zn y120)) _
  refine Tr.sel (lf := [(0, (.slice Ay100_0 (y102).length cy100_0)), (3, (.pointer (some ⟨b104, 0, none⟩))), (14, (.slice Ay100_0 (y102).length cy100_0)), (15, (iv (y102.length : Int))), (16, (iv (iL1 : Int))), (17, (.bool (decide ((iL1 : Int) < (y102.length : Int))))), (28, (.slice Al119 (y120).length cl119)), (29, (.tuple #[]))]) (le := [(2, ow Ay100_0 cy100_0 36 zN y102), (3, bx b104 #[(.slice Al119 (y120).length cl119)] 38), (12, ow Al119 cl119 3 zn y120)]) (.cons rfl (.cons rfl (.cons rfl (.cons rfl (.cons rfl (.cons rfl (.cons (slenV rfl (by rw [hgky120_0])) (.cons rfl .nil)))))))) (.cons rfl (.cons (ebx rfl (by rw [hgky120_0])) (.cons rfl .nil))) ?_
  refine Tr.nil (Tr.zA ?_)
  refine Tr.sr ?_
  refine Tr.va rfl (fun _ _ h1 h2 => zC ag_38 (h1.ev rfl) (rdb h2 (vs := [(.slice Al119 (y120).length cl119)]) (k := 3) rfl 0) rfl) ?_
  obtain ⟨y122, hy122, H⟩ := bnd H
  refine Tr.callM [12] [ow Al119 cl119 3 zn y120] (U := (Option Addr × Nat)) (fun u => (.slice u.1 (y122).length u.2)) (fun u => SlF u.1 (y122).length u.2) (fun u => [ow u.1 u.2 3 zn y122]) rfl (zM rfl zY) (fun _ => rfl) (wn rfl) rfl Tryz.call84 (zF rfl zO) (fun W hW hp hE => F_slices_Compact_int_ok y120 Al119 cl119 y122 hy122 hE) ?_
  intro u hu
  obtain ⟨Ay122_0, cy122_0⟩ := u
  have gy122_0 := hu
  have hgy122_0 : SlF Ay122_0 (y122).length cy122_0 := gy122_0 --@phi
  show Tr _ _ (uf _ 31 (.slice Ay122_0 (y122).length cy122_0)) (up _ 12 (ow Ay122_0 cy122_0 3 zn y122)) _
  refine Tr.store 3 (cs := [(.slice Ay122_0 (y122).length cy122_0)]) [(.slice Ay122_0 (y122).length cy122_0)] (wn rfl) rfl rfl rfl rfl sz_38 rfl rfl rfl ?_
  refine Tr.nil (Tr.zA ?_)
  refine Tr.sr ?_
  refine Tr.asg rfl rfl ?_
  refine Tr.nilOwn 13 107 zJ ?_
  show Tr _ _ (uf _ 6 (.slice none (([] : List zV)).length 0)) _ _
  refine Tr.nil (Tr.zA ?_)
  refine Tr.sr ?_
  refine Tr.asg rfl rfl ?_
  refine Tr.nilOwn 14 36 zN ?_
  show Tr _ _ (uf _ 7 (.slice none (([] : List zT)).length 0)) _ _
  refine Tr.nil (Tr.zA ?_)
  refine Tr.sr ?_
  refine Tr.asg rfl rfl ?_
  refine Tr.nil (Tr.zA ?_)
  refine Tr.seq ?_
  refine Tr.sr ?_
  refine Tr.alloc 15 (wn rfl) rfl ze_3 fun b124 => ?_
  refine Tr.store 15 (cs := [(iv 0)]) [(iv 0)] (wn rfl) rfl rfl rfl rfl sz_3 rfl rfl rfl ?_
  refine Tr.nil (Tr.zA ?_)
  refine Tr.block ?_
  refine Tr.ren 15 29 rfl rfl rfl ?_
  refine Tr.loop (σ := Int × (List zV) × (List zT) × Int × Nat × (Option Addr) × Nat × (Option Addr) × Nat) (fun m w s => F_shape_SetOf_L4 N y102 y122 m s.1 s.2.1 s.2.2.1 s.2.2.2.1 = some r ∧ SlF s.2.2.2.2.2.1 (s.2.1).length s.2.2.2.2.2.2.1 ∧ SlF s.2.2.2.2.2.2.2.1 (s.2.2.1).length s.2.2.2.2.2.2.2.2) (fun s => [(0, (.slice Ay100_0 (y102).length cy100_0)), (3, (.pointer (some ⟨b104, 0, none⟩))), (6, (.slice s.2.2.2.2.2.1 (s.2.1).length s.2.2.2.2.2.2.1)), (7, (.slice s.2.2.2.2.2.2.2.1 (s.2.2.1).length s.2.2.2.2.2.2.2.2)), (8, (iv s.2.2.2.1)), (9, (.pointer (some ⟨s.2.2.2.2.1, 0, none⟩)))]) (fun s => [(2, ow Ay100_0 cy100_0 36 zN y102), (3, bx b104 #[(.slice Ay122_0 (y122).length cy122_0)] 38), (12, ow Ay122_0 cy122_0 3 zn y122), (13, ow s.2.2.2.2.2.1 s.2.2.2.2.2.2.1 107 zJ s.2.1), (14, ow s.2.2.2.2.2.2.2.1 s.2.2.2.2.2.2.2.2 36 zN s.2.2.1), (29, bx s.2.2.2.2.1 #[(iv s.1)] 3)]) N (0, ([] : List zV), ([] : List zT), 0, b124, none, 0, none, 0) ⟨H, slf_nil, slf_nil⟩ (.cons rfl (.cons rfl (.cons rfl (.cons rfl (.cons rfl (.cons rfl .nil)))))) (.cons rfl (.cons rfl (.cons rfl (.cons rfl (.cons rfl (.cons rfl .nil)))))) (fun _ _ h => noSome (h.1)) ?_
  intro w leL4 mL4 s hs
  obtain ⟨x229, l230, l231, x232, bv227, Al230, cl230, Al231, cl231⟩ := s
  obtain ⟨H, hl230, hl231⟩ := hs
  replace H : F_shape_SetOf_L4 N y102 y122 (mL4 + 1) x229 l230 l231 x232 = some r := H
  replace leB := leB.trans leL4
  replace leL1 := leL1.trans leL4
  replace hl230 : SlF Al230 (l230).length cl230 := hl230
  replace hl231 : SlF Al231 (l231).length cl231 := hl231
  rw [F_shape_SetOf_L4.eq_2] at H
  show Tr _ _ (LF [(0, (.slice Ay100_0 (y102).length cy100_0)), (3, (.pointer (some ⟨b104, 0, none⟩))), (6, (.slice Al230 (l230).length cl230)), (7, (.slice Al231 (l231).length cl231)), (8, (iv x232)), (9, (.pointer (some ⟨bv227, 0, none⟩)))]) (LE [(2, ow Ay100_0 cy100_0 36 zN y102), (3, bx b104 #[(.slice Ay122_0 (y122).length cy122_0)] 38), (12, ow Ay122_0 cy122_0 3 zn y122), (13, ow Al230 cl230 107 zJ l230), (14, ow Al231 cl231 36 zN l231), (29, bx bv227 #[(iv x229)] 3)]) _
  refine Tr.seq ?_
  refine Tr.sr ?_
  refine Tr.va rfl (fun _ _ h1 h2 => zC ag_3 (h1.ev rfl) (rdb h2 (vs := [(iv x229)]) (k := 29) rfl 0) rfl) ?_
  refine Tr.va rfl (fun _ _ h1 h2 => zx (h1.ev rfl) (h1.ev rfl)) ?_
  refine Tr.va rfl (fun _ _ h1 h2 => zC ag_38 (h1.ev rfl) (rdb h2 (vs := [(.slice Ay122_0 (y122).length cy122_0)]) (k := 3) rfl 0) rfl) ?_
  refine Tr.va rfl (fun _ _ h1 h2 => zq un_38 (h1.ev rfl)) ?_
  refine Tr.va rfl (fun _ _ h1 h2 => zz (h1.ev rfl) (h1.ev rfl)) ?_
  refine Tr.nil (Tr.zA ?_)
  refine Tr.cond rfl H (fun H => ?_) (fun H => ?_)
  ·refine Tr.skip (Tr.zA ?_)
   refine Tr.seq ?_
   refine Tr.block ?_
   refine Tr.sr ?_
   refine Tr.mv rfl rfl ?_
   refine Tr.mkFunc (vs := [(.pointer (some ⟨b104, 0, none⟩)), (.pointer (some ⟨bv227, 0, none⟩))]) (wn rfl) rfl (zF rfl (zF rfl zO)) ?_
   obtain ⟨y233, hy233, H⟩ := bnd H
   refine Tr.callM [14] [ow Al231 cl231 36 zN l231] (U := (Option Addr × Nat)) (fun u => (.slice u.1 (y233).length u.2)) (fun u => SlF u.1 (y233).length u.2) (fun u => [ow u.1 u.2 36 zN y233]) rfl (zM rfl zY) (fun _ => rfl) (wn rfl) rfl Tryz.call85 (zF rfl (zF rfl zO)) (fun W hW hp hE => F_slices_DeleteFunc_Rect_ok N l231 Al231 cl231 (fun z0 => F_shape_SetOf_2 z0 y122 x229) 86 [(.pointer (some ⟨b104, 0, none⟩)), (.pointer (some ⟨bv227, 0, none⟩))] Tryz.call86 (fun w' he z0 y hy => F_shape_SetOf_2_ok z0 y122 Ay122_0 cy122_0 ((hW.slS (k := 12) rfl hp rfl).ext he) b104 (he.r _ (hW.boxS (k := 3) rfl hp rfl)) (he.cells (hW.boxS (k := 3) rfl hp rfl) (hW.boxC (k := 3) rfl)) x229 bv227 (he.r _ (hW.boxS (k := 29) rfl hp rfl)) (he.cells (hW.boxS (k := 29) rfl hp rfl) (hW.boxC (k := 29) rfl)) y hy (HF.start _)) y233 hy233 hE) ?_
   intro u hu
   obtain ⟨Ay233_0, cy233_0⟩ := u
   have gy233_0 := hu
   have hgy233_0 : SlF Ay233_0 (y233).length cy233_0 := gy233_0 --@phi
   show Tr _ _ (uf _ 41 (.slice Ay233_0 (y233).length cy233_0)) (up _ 14 (ow Ay233_0 cy233_0 36 zN y233)) _
   refine Tr.asg rfl rfl ?_
   refine Tr.nil (Tr.zA ?_)
   refine Tr.seq ?_
   refine Tr.block ?_
   refine Tr.loop (σ := (List zT) × Int × (Option Addr) × Nat) (fun m w s => F_shape_SetOf_L5 y102 y122 x229 l230 (F_shape_SetOf_L4 N y102 y122 mL4) m s.1 s.2.1 = some r ∧ SlF s.2.2.1 (s.1).length s.2.2.2) (fun s => [(0, (.slice Ay100_0 (y102).length cy100_0)), (3, (.pointer (some ⟨b104, 0, none⟩))), (6, (.slice Al230 (l230).length cl230)), (7, (.slice s.2.2.1 (s.1).length s.2.2.2)), (8, (iv s.2.1)), (9, (.pointer (some ⟨bv227, 0, none⟩)))]) (fun s => [(2, ow Ay100_0 cy100_0 36 zN y102), (3, bx b104 #[(.slice Ay122_0 (y122).length cy122_0)] 38), (12, ow Ay122_0 cy122_0 3 zn y122), (13, ow Al230 cl230 107 zJ l230), (14, ow s.2.2.1 s.2.2.2 36 zN s.1), (29, bx bv227 #[(iv x229)] 3)]) N (y233, x232, Ay233_0, cy233_0) ⟨H, hgy233_0⟩ (.cons rfl (.cons rfl (.cons rfl (.cons rfl (.cons rfl (.cons rfl .nil)))))) (.cons rfl (.cons rfl (.cons rfl (.cons rfl (.cons rfl (.cons rfl .nil)))))) (fun _ _ h => noSome (h.1)) ?_
   intro w leL5 mL5 s hs
   obtain ⟨l257, x258, Al257, cl257⟩ := s
   obtain ⟨H, hl257⟩ := hs
   replace H : F_shape_SetOf_L5 y102 y122 x229 l230 (F_shape_SetOf_L4 N y102 y122 mL4) (mL5 + 1) l257 x258 = some r := H
   replace leB := leB.trans leL5
   replace leL1 := leL1.trans leL5
   replace leL4 := leL4.trans leL5
   replace hl257 : SlF Al257 (l257).length cl257 := hl257
   rw [F_shape_SetOf_L5.eq_2] at H
   show Tr _ _ (LF [(0, (.slice Ay100_0 (y102).length cy100_0)), (3, (.pointer (some ⟨b104, 0, none⟩))), (6, (.slice Al230 (l230).length cl230)), (7, (.slice Al257 (l257).length cl257)), (8, (iv x258)), (9, (.pointer (some ⟨bv227, 0, none⟩)))]) (LE [(2, ow Ay100_0 cy100_0 36 zN y102), (3, bx b104 #[(.slice Ay122_0 (y122).length cy122_0)] 38), (12, ow Ay122_0 cy122_0 3 zn y122), (13, ow Al230 cl230 107 zJ l230), (14, ow Al257 cl257 36 zN l257), (29, bx bv227 #[(iv x229)] 3)]) _
   refine Tr.seq ?_
   refine Tr.seq ?_
   refine Tr.draw (by kernel_rfl) (by kernel_rfl) ?_
   refine Tq.mv rfl rfl ?_
   refine Tq.mv rfl rfl ?_
   refine Tq.va rfl (fun _ _ h1 h2 => zq un_31 (h1.ev rfl)) ?_
   refine Tq.va rfl (fun _ _ h1 h2 => zz (h1.ev rfl) (h1.ev rfl)) ?_
   refine Tq.mv rfl rfl ?_
   obtain ⟨g261, hg261, H⟩ := bnd H
   refine Tq.mid 11 [(0, (.slice Ay100_0 (y102).length cy100_0)), (3, (.pointer (some ⟨b104, 0, none⟩))), (6, (.slice Al230 (l230).length cl230)), (7, (.slice Al257 (l257).length cl257)), (8, (iv x258)), (9, (.pointer (some ⟨bv227, 0, none⟩))), (57, (.bool g261))] ?_ ?_
   ·cases hg276 : (decide (x258 < (y102.length : Int)))
    ·rw [hg276] at hg261
     rw [if_neg (by decide)] at hg261
     have H := hg261
     obtain rfl := Option.some.inj H
     refine Tq.pass rfl rfl rfl rfl rfl (by decide) ?_
     refine Tq.pass rfl rfl rfl rfl rfl (by decide) ?_
     refine Tq.pass rfl rfl rfl rfl rfl (by decide) ?_
     refine Tq.pass rfl rfl rfl rfl rfl (by decide) ?_
     refine Tq.pass rfl rfl rfl rfl rfl (by decide) ?_
     refine Tq.pass rfl rfl rfl rfl rfl (by decide) ?_
     refine Tq.pass rfl rfl rfl rfl rfl (by decide) ?_
     refine Tq.pass rfl rfl rfl rfl rfl (by decide) ?_
     refine Tq.pass rfl rfl rfl rfl rfl (by decide) ?_
     refine Tq.pass rfl rfl rfl rfl rfl (by decide) ?_
     refine Tq.va rfl (fun _ _ h1 h2 => zf (h1.ev rfl) (h1.ev rfl)) ?_
     exact Tq.fin (.cons rfl (.cons rfl (.cons rfl (.cons rfl (.cons rfl (.cons rfl (.cons rfl .nil)))))))
    ·rw [hg276] at hg261
     rw [if_pos rfl] at hg261
     have H := hg261
     refine Tq.val (wg rfl rfl rfl) rfl (fun _ _ h1 h2 => run_move (h1.ev rfl)) ?_
     refine Tq.val (wg rfl rfl rfl) rfl (fun _ _ h1 h2 => run_move (h1.ev rfl)) ?_
     obtain ⟨x262, hx262, H⟩ := bnd H
     obtain ⟨hx2620, hx2621, hx2622⟩ := zh hx262
     refine Tq.val (wg rfl rfl rfl) rfl (fun _ _ h1 h2 => zH el_31 (h1.ev rfl) hfky102_0 (h1.ev rfl) hx2620 hx2621) ?_
     refine Tq.val (wg rfl rfl rfl) rfl (fun _ _ h1 h2 => zB fo_36_1 (h1.ev rfl)) ?_
     refine Tq.val (wg rfl rfl rfl) rfl (fun _ _ h1 h2 => zC ag_3 (h1.ev rfl) (zL.drop (rdo ef_TRect (k := 2) h2 rfl hx2622) 1) rfl) ?_
     refine Tq.val (wg rfl rfl rfl) rfl (fun _ _ h1 h2 => zC ag_38 (h1.ev rfl) (rdb h2 (vs := [(.slice Ay122_0 (y122).length cy122_0)]) (k := 3) rfl 0) rfl) ?_
     refine Tq.val (wg rfl rfl rfl) rfl (fun _ _ h1 h2 => zC ag_3 (h1.ev rfl) (rdb h2 (vs := [(iv x229)]) (k := 29) rfl 0) rfl) ?_
     obtain ⟨x263, hx263, H⟩ := bnd H
     obtain ⟨hx2630, hx2631, hx2632⟩ := zh hx263
     refine Tq.val (wg rfl rfl rfl) rfl (fun _ _ h1 h2 => zH el_38 (h1.ev rfl) hgy122_0 (h1.ev rfl) hx2630 hx2631) ?_
     refine Tq.val (wg rfl rfl rfl) rfl (fun _ _ h1 h2 => zC ag_3 (h1.ev rfl) (rdo ef_i64 (k := 12) h2 rfl hx2632) rfl) ?_
     refine Tq.val (wg rfl rfl rfl) rfl (fun _ _ h1 h2 => run_leq (h1.ev rfl) (h1.ev rfl)) ?_
     refine Tq.va rfl (fun _ _ h1 h2 => ze (h1.ev rfl) (h1.ev rfl)) ?_
     obtain rfl := Option.some.inj H
     exact Tq.fin (.cons rfl (.cons rfl (.cons rfl (.cons rfl (.cons rfl (.cons rfl (.cons rfl .nil)))))))
   ·refine Tq.nil (Tr.zA ?_)
    refine Tr.cond rfl H (fun H => ?_) (fun H => ?_)
    ·refine Tr.skip (Tr.zA ?_)
     refine Tr.block ?_
     refine Tr.region ?_
     refine Tr.mv rfl rfl ?_
     refine Tr.mv rfl rfl ?_
     refine Tr.mv rfl rfl ?_
     obtain ⟨x264, hx264, H⟩ := bnd H
     obtain ⟨hx2640, hx2641, hx2642⟩ := zh hx264
     refine Tr.va rfl (fun _ _ h1 h2 => zH el_31 (h1.ev rfl) hfky102_0 (h1.ev rfl) hx2640 hx2641) ?_
     refine Tr.va rfl (fun _ _ h1 h2 => zR (cs := [(iv x264.X0), (iv x264.Y0), (iv x264.X1), (iv x264.Y1)]) ag_36 sz_36 (h1.ev rfl) (zL.take (rdo ef_TRect (k := 2) h2 rfl hx2642) 4) rfl) ?_
     refine Tr.buildSlice 32 (e := 36) (vs := [(0, (.agg #[(iv x264.X0), (iv x264.Y0), (iv x264.X1), (iv x264.Y1)]))]) (cs := [(iv x264.X0), (iv x264.Y0), (iv x264.X1), (iv x264.Y1)]) (wn rfl) rfl (zi rfl evs_nil) (by kernel_rfl) fun b265 => ?_
     obtain ⟨l266, hl266, H⟩ := bnd H
     refine Tr.append 14 (t := zN) (l := l257) (l2 := [x264]) (wn rfl) rfl rfl rfl rfl (fun W hW => ⟨[[(iv x264.X0), (iv x264.Y0), (iv x264.X1), (iv x264.Y1)]], (.cons ⟨(), trivial, rfl⟩ .nil), rdb hW (vs := [(iv x264.X0), (iv x264.Y0), (iv x264.X1), (iv x264.Y1)]) (k := 32) rfl 0⟩) un_31 sz_36 zl_36 (by decide) by_36 rfl hl266 fun Al266 cl266 hAl266 => ?_
     refine Tr.mv rfl rfl ?_
     refine Tr.va rfl (fun _ _ h1 h2 => zx (h1.ev rfl) (h1.ev rfl)) ?_
     refine Tr.asg rfl rfl ?_
     refine Tr.asg rfl rfl ?_
     refine Tr.nil (Tr.zW ?_)
     exact Tr.zZ leL5 (l266, (w64 (x258 + 1)), Al266, cl266) ⟨H, hAl266⟩ (.cons rfl (.cons rfl (.cons rfl (.cons rfl (.cons rfl (.cons rfl .nil)))))) (.cons rfl (.cons rfl (.cons rfl (.cons rfl (.cons rfl (.cons rfl .nil))))))
    ·refine Tr.exit (Tr.zX (Tr.zX (Tr.zAC (Tr.zA ?_))))
     refine Tr.drawC 13 [(11, (ow Al257 cl257 36 zN l257).S)] [] (by kernel_rfl) (by kernel_rfl) fun sz267 hlosz267 hEsz267 => ?_
     refine Dr.quietP 0 (by kernel_rfl) rfl (wn rfl) rfl (by kernel_rfl) (fun _ _ h1 => run_move (h1.ev rfl)) rfl ?_
     refine Dr.quietZ 1 [(68, (.slice Ay122_0 (y122).length cy122_0))] [11] false (by kernel_rfl) rfl rfl (by kernel_rfl) (fun W W' h2 hsW hk => HF.keepZ (le := [(3, bx b104 #[(.slice Ay122_0 (y122).length cy122_0)] 38)]) (ks := [(14, (ow Al257 cl257 36 zN l257).S)]) (s0 := sz267) false h2 hk (fun h => absurd h (by decide)) (.cons rfl .nil) (fun b hb => hb.elim (fun ⟨p, hp, hf, hb⟩ => by simp only [List.mem_cons, List.not_mem_nil, or_false] at hp; rcases hp with rfl; exact .inl ⟨_, List.mem_cons_self, hb⟩) (fun hb => absurd hb.1 (by decide))) (List.forall_mem_cons.2 ⟨fun b hb => hb, (fun _ h => nomatch h)⟩) rfl) ?_ rfl rfl ?_
     ·refine Tq.va rfl (fun _ _ h1 h2 => zC ag_38 (h1.ev rfl) (rdb h2 (vs := [(.slice Ay122_0 (y122).length cy122_0)]) (k := 3) rfl 0) rfl) ?_
      exact Tq.fin (.cons rfl .nil)
     refine Dr.quietZ 2 [(69, (iv x229))] [11] false (by kernel_rfl) rfl rfl (by kernel_rfl) (fun W W' h2 hsW hk => HF.keepZ (le := [(29, bx bv227 #[(iv x229)] 3)]) (ks := [(14, (ow Al257 cl257 36 zN l257).S)]) (s0 := sz267) false h2 hk (fun h => absurd h (by decide)) (.cons rfl .nil) (fun b hb => hb.elim (fun ⟨p, hp, hf, hb⟩ => by simp only [List.mem_cons, List.not_mem_nil, or_false] at hp; rcases hp with rfl; exact .inl ⟨_, List.mem_cons_self, hb⟩) (fun hb => absurd hb.1 (by decide))) (List.forall_mem_cons.2 ⟨fun b hb => hb, (fun _ h => nomatch h)⟩) rfl) ?_ rfl rfl ?_
     ·refine Tq.va rfl (fun _ _ h1 h2 => zC ag_3 (h1.ev rfl) (rdb h2 (vs := [(iv x229)]) (k := 29) rfl 0) rfl) ?_
      exact Tq.fin (.cons rfl .nil)
     obtain ⟨x268, hx268, H⟩ := bnd H
     obtain ⟨hx2680, hx2681, hx2682⟩ := zh hx268
     refine Dr.quietP 3 (by kernel_rfl) rfl (wn rfl) rfl (by kernel_rfl) (fun _ _ h1 => zH el_38 (h1.ev rfl) hgy122_0 (h1.ev rfl) hx2680 hx2681) rfl ?_
     refine Dr.quietZ 4 [(71, (iv x268))] [11] false (by kernel_rfl) rfl rfl (by kernel_rfl) (fun W W' h2 hsW hk => HF.keepZ (le := [(12, ow Ay122_0 cy122_0 3 zn y122)]) (ks := [(14, (ow Al257 cl257 36 zN l257).S)]) (s0 := sz267) false h2 hk (fun h => absurd h (by decide)) (.cons rfl .nil) (fun b hb => hb.elim (fun ⟨p, hp, hf, hb⟩ => by simp only [List.mem_cons, List.not_mem_nil, or_false] at hp; rcases hp with rfl; exact .inl ⟨_, List.mem_cons_self, hb⟩) (fun hb => absurd hb.1 (by decide))) (List.forall_mem_cons.2 ⟨fun b hb => hb, (fun _ h => nomatch h)⟩) rfl) ?_ rfl rfl ?_
     ·refine Tq.va rfl (fun _ _ h1 h2 => zC ag_3 (h1.ev rfl) (rdo ef_i64 (k := 12) h2 rfl hx2682) rfl) ?_
      exact Tq.fin (.cons rfl .nil)
     refine Dr.quietZ 5 [(72, (.slice Ay122_0 (y122).length cy122_0))] [11] false (by kernel_rfl) rfl rfl (by kernel_rfl) (fun W W' h2 hsW hk => HF.keepZ (le := [(3, bx b104 #[(.slice Ay122_0 (y122).length cy122_0)] 38)]) (ks := [(14, (ow Al257 cl257 36 zN l257).S)]) (s0 := sz267) false h2 hk (fun h => absurd h (by decide)) (.cons rfl .nil) (fun b hb => hb.elim (fun ⟨p, hp, hf, hb⟩ => by simp only [List.mem_cons, List.not_mem_nil, or_false] at hp; rcases hp with rfl; exact .inl ⟨_, List.mem_cons_self, hb⟩) (fun hb => absurd hb.1 (by decide))) (List.forall_mem_cons.2 ⟨fun b hb => hb, (fun _ h => nomatch h)⟩) rfl) ?_ rfl rfl ?_
     ·refine Tq.va rfl (fun _ _ h1 h2 => zC ag_38 (h1.ev rfl) (rdb h2 (vs := [(.slice Ay122_0 (y122).length cy122_0)]) (k := 3) rfl 0) rfl) ?_
      exact Tq.fin (.cons rfl .nil)
     refine Dr.quietZ 6 [(73, (iv x229))] [11] false (by kernel_rfl) rfl rfl (by kernel_rfl) (fun W W' h2 hsW hk => HF.keepZ (le := [(29, bx bv227 #[(iv x229)] 3)]) (ks := [(14, (ow Al257 cl257 36 zN l257).S)]) (s0 := sz267) false h2 hk (fun h => absurd h (by decide)) (.cons rfl .nil) (fun b hb => hb.elim (fun ⟨p, hp, hf, hb⟩ => by simp only [List.mem_cons, List.not_mem_nil, or_false] at hp; rcases hp with rfl; exact .inl ⟨_, List.mem_cons_self, hb⟩) (fun hb => absurd hb.1 (by decide))) (List.forall_mem_cons.2 ⟨fun b hb => hb, (fun _ h => nomatch h)⟩) rfl) ?_ rfl rfl ?_
     ·refine Tq.va rfl (fun _ _ h1 h2 => zC ag_3 (h1.ev rfl) (rdb h2 (vs := [(iv x229)]) (k := 29) rfl 0) rfl) ?_
      exact Tq.fin (.cons rfl .nil)
     refine Dr.quietP 7 (by kernel_rfl) rfl (wn rfl) rfl (by kernel_rfl) (fun _ _ h1 => zx (h1.ev rfl) (h1.ev rfl)) rfl ?_
     obtain ⟨x269, hx269, H⟩ := bnd H
     obtain ⟨hx2690, hx2691, hx2692⟩ := zh hx269
     refine Dr.quietP 8 (by kernel_rfl) rfl (wn rfl) rfl (by kernel_rfl) (fun _ _ h1 => zH el_38 (h1.ev rfl) hgy122_0 (h1.ev rfl) hx2690 hx2691) rfl ?_
     refine Dr.quietZ 9 [(76, (iv x269))] [11] false (by kernel_rfl) rfl rfl (by kernel_rfl) (fun W W' h2 hsW hk => HF.keepZ (le := [(12, ow Ay122_0 cy122_0 3 zn y122)]) (ks := [(14, (ow Al257 cl257 36 zN l257).S)]) (s0 := sz267) false h2 hk (fun h => absurd h (by decide)) (.cons rfl .nil) (fun b hb => hb.elim (fun ⟨p, hp, hf, hb⟩ => by simp only [List.mem_cons, List.not_mem_nil, or_false] at hp; rcases hp with rfl; exact .inl ⟨_, List.mem_cons_self, hb⟩) (fun hb => absurd hb.1 (by decide))) (List.forall_mem_cons.2 ⟨fun b hb => hb, (fun _ h => nomatch h)⟩) rfl) ?_ rfl rfl ?_
     ·refine Tq.va rfl (fun _ _ h1 h2 => zC ag_3 (h1.ev rfl) (rdo ef_i64 (k := 12) h2 rfl hx2692) rfl) ?_
      exact Tq.fin (.cons rfl .nil)
     refine Dr.quiet 10 [(77, (.slice Al257 (l257).length cl257))] (by kernel_rfl) rfl rfl (by kernel_rfl) ?_ rfl rfl ?_
     ·refine Tq.mv rfl rfl ?_
      exact Tq.fin (.cons rfl .nil)
     obtain ⟨y270, hy270, H⟩ := bnd H
     refine Dr.one 11 (by kernel_rfl) ?_
     refine St.callM 11 [14, 33] [ow Al257 cl257 36 zN l257, emp] (U := (Option Addr × Nat)) (fun u => (.slice u.1 (y270.1).length u.2)) (fun u => SlF u.1 (y270.1).length u.2 ∧ (y270.2).length = (l257).length) (fun u => [ow Al257 cl257 36 zN y270.2, ow u.1 u.2 3 zn y270.1]) rfl (zM rfl (zM rfl zY)) (fun _ => rfl) (fun b ⟨e, he, hS⟩ => by simp only [List.mem_cons, List.not_mem_nil, or_false] at he; rcases he with rfl | rfl; exact .inl ⟨_, List.mem_cons_self, rfl, hS⟩; exact hS.elim) rfl (wn rfl) rfl Tryz.call88 (zF rfl zO) (fun W hW hp hE => F_shape_stretches_ok l257 Al257 cl257 y270 hy270 hE) ?_
     intro u hu hsy270
     obtain ⟨Ay270_0, cy270_0⟩ := u
     obtain ⟨gy270_0, gky270_0⟩ := hu
     have hgy270_0 : SlF Ay270_0 (y270.1).length cy270_0 := gy270_0
     have hgky270_0 : (y270.2).length = (l257).length := gky270_0
     have hfky270_0 : SlF Al257 (y270.2).length cl257 := by rw [hgky270_0]; exact hl257
     show Dr _ _ _ _ _ _ _ _ _ (uf _ 78 (.slice Ay270_0 (y270.1).length cy270_0)) (up (up _ 33 (ow Ay270_0 cy270_0 3 zn y270.1)) 14 (ow Al257 cl257 36 zN y270.2))
     refine Dr.use (lf := [(0, (.slice Ay100_0 (y102).length cy100_0)), (3, (.pointer (some ⟨b104, 0, none⟩))), (6, (.slice Al230 (l230).length cl230)), (7, (.slice Al257 (y270.2).length cl257)), (8, (iv x258)), (9, (.pointer (some ⟨bv227, 0, none⟩))), (57, (.bool g261)), (67, (.slice Al230 (l230).length cl230)), (68, (.slice Ay122_0 (y122).length cy122_0)), (69, (iv x229)), (70, (.pointer (some ⟨adB Ay122_0, adO Ay122_0 + (x229).toNat * 1, none⟩))), (71, (iv x268)), (72, (.slice Ay122_0 (y122).length cy122_0)), (73, (iv x229)), (74, (iv (w64 (x229 + 1)))), (75, (.pointer (some ⟨adB Ay122_0, adO Ay122_0 + ((w64 (x229 + 1))).toNat * 1, none⟩))), (76, (iv x269)), (77, (.slice Al257 (y270.2).length cl257)), (78, (.slice Ay270_0 (y270.1).length cy270_0))]) (le := [(2, ow Ay100_0 cy100_0 36 zN y102), (3, bx b104 #[(.slice Ay122_0 (y122).length cy122_0)] 38), (12, ow Ay122_0 cy122_0 3 zn y122), (13, ow Al230 cl230 107 zJ l230), (14, ow Al257 cl257 36 zN y270.2), (29, bx bv227 #[(iv x229)] 3), (33, ow Ay270_0 cy270_0 3 zn y270.1)]) ?_ rfl (.cons rfl (.cons rfl (.cons rfl (.cons (slenV rfl (by rw [hgky270_0])) (.cons rfl (.cons rfl (.cons rfl (.cons rfl (.cons rfl (.cons rfl (.cons rfl (.cons rfl (.cons rfl (.cons rfl (.cons rfl (.cons rfl (.cons rfl (.cons (slenV rfl (by rw [hgky270_0])) (.cons rfl .nil))))))))))))))))))) (.cons rfl (.cons rfl (.cons rfl (.cons rfl (.cons rfl (.cons rfl (.cons rfl .nil)))))))
     refine Dr.quiet 12 [(79, (.agg #[(iv x268), (iv x269), (.slice Ay270_0 (y270.1).length cy270_0)]))] (by kernel_rfl) rfl rfl (by kernel_rfl) ?_ rfl rfl ?_
     ·refine Tq.build (vs := [(0, (iv x268)), (1, (iv x269)), (2, (.slice Ay270_0 (y270.1).length cy270_0))]) (cs := [(iv x268), (iv x269), (.slice Ay270_0 (y270.1).length cy270_0)]) (wn rfl) rfl (zi rfl (zi rfl (zi rfl evs_nil))) (by kernel_rfl) ?_
      exact Tq.fin (.cons rfl .nil)
     refine Dr.tail (by kernel_rfl) ?_
     refine Tr.freeze 33 rfl fun w le273 hz272 => ?_
     replace leB := leB.trans le273
     replace leL1 := leL1.trans le273
     replace leL4 := leL4.trans le273
     replace leL5 := leL5.trans le273
     obtain ⟨y274, hy274, H⟩ := bnd H
     refine Tr.callG [13] [ow Al230 cl230 107 zJ l230] (U := (Option Addr × Nat)) (fun u => (.slice u.1 (y274).length u.2)) (fun O W u => SlF u.1 (y274).length u.2) (fun u => [ow u.1 u.2 107 zJ y274]) rfl (zM rfl zY) (fun _ => rfl) (wn rfl) rfl Tryz.call87 (zF rfl (zF rfl zO)) (fun W hW hp hE => F_shape_Set__push_ok l230 Al230 cl230 (zV.mk x268 x269 y270.1) Ay270_0 cy270_0 (hz272.extO (hW.extS hp)) y274 hy274 hE) ?_
     intro w u le275 hu
     obtain ⟨Ay274_0, cy274_0⟩ := u
     have gy274_0 := hu
     replace hz272 := hz272.le le275
     replace leB := leB.trans le275
     replace leL1 := leL1.trans le275
     replace leL4 := leL4.trans le275
     replace leL5 := leL5.trans le275
     have hgy274_0 : SlF Ay274_0 (y274).length cy274_0 := gy274_0 --@phi
     show Tr _ _ (uf _ 80 (.slice Ay274_0 (y274).length cy274_0)) (up _ 13 (ow Ay274_0 cy274_0 107 zJ y274)) _
     refine Tr.asg rfl rfl ?_
     refine Tr.nil (Tr.zW (Tr.zA ?_))
     refine Tr.seq ?_
     refine Tr.sr ?_
     refine Tr.va rfl (fun _ _ h1 h2 => zC ag_3 (h1.ev rfl) (rdb h2 (vs := [(iv x229)]) (k := 29) rfl 0) rfl) ?_
     refine Tr.nil (Tr.zA ?_)
     refine Tr.region ?_
     refine Tr.alloc 34 (wn rfl) rfl ze_3 fun b276 => ?_
     refine Tr.store 34 (cs := [(iv x229)]) [(iv x229)] (wn rfl) rfl rfl rfl rfl sz_3 rfl rfl rfl ?_
     refine Tr.nil (Tr.zA ?_)
     refine Tr.region ?_
     refine Tr.va rfl (fun _ _ h1 h2 => zC ag_3 (h1.ev rfl) (rdb h2 (vs := [(iv x229)]) (k := 34) rfl 0) rfl) ?_
     refine Tr.va rfl (fun _ _ h1 h2 => zx (h1.ev rfl) (h1.ev rfl)) ?_
     refine Tr.store 34 (cs := [(iv (w64 (x229 + 1)))]) [(iv (w64 (x229 + 1)))] (wn rfl) rfl rfl rfl rfl sz_3 rfl rfl rfl ?_
     refine Tr.nil ?_
     refine Tr.dropK 29 ?_
     refine Tr.ren 34 29 rfl rfl rfl ?_
     exact Tr.zZ leL4 ((w64 (x229 + 1)), y274, y270.2, x258, b276, Ay274_0, cy274_0, Al257, cl257) ⟨H, hgy274_0, hfky270_0⟩ (.cons rfl (.cons rfl (.cons rfl (.cons rfl (.cons rfl (.cons rfl .nil)))))) (.cons rfl (.cons rfl (.cons rfl (.cons rfl (.cons rfl (.cons rfl .nil))))))
  ·refine Tr.exit (Tr.zX (Tr.zX (Tr.zAC (Tr.zA ?_))))
   refine Tr.sr ?_
   refine Tr.mv rfl rfl ?_
   refine Tr.asg rfl rfl ?_
   refine Tr.nil (Tr.zA ?_)
   refine Tr.ret ?_
   obtain rfl := Option.some.inj H
   exact Tr.out (m := [(.slice Al230 (l230).length cl230)]) [] (zP rfl zQ) (fun W hW => ⟨w, (Al230, cl230), leB, rfl, hl230, hW.pick (ks := [13]) (by decide) (zM rfl zY)⟩)
 | cons xL1 restL1 =>
  rw [F_shape_SetOf_L1.eq_2] at H
  refine Tr.sr ?_
  refine Tr.va rfl (fun _ _ h1 h2 => zz (h1.ev rfl) (h1.ev rfl)) ?_
  refine Tr.nil (Tr.zA ?_)
  refine Tr.seq ?_
  refine Tr.condT rfl (range_on hdL1) ?_
  refine Tr.skip (Tr.zA ?_)
  refine Tr.seq ?_
  refine Tr.block ?_
  refine Tr.sr ?_
  refine Tr.va rfl (fun _ _ h1 h2 => zH el_31 (h1.ev rfl) hfky102_0 (h1.ev rfl) (Int.natCast_nonneg _) (zo hdL1)) ?_
  refine Tr.va rfl (fun _ _ h1 h2 => zR (cs := [(iv xL1.X0), (iv xL1.Y0), (iv xL1.X1), (iv xL1.Y1)]) ag_36 sz_36 (h1.ev rfl) (zL.take (rdo ef_TRect (k := 2) h2 rfl (range_at hdL1)) 4) rfl) ?_
  refine Tr.alloc 35 (wn rfl) rfl ze_36 fun b277 => ?_
  refine Tr.store 35 (cs := [(iv xL1.X0), (iv xL1.Y0), (iv xL1.X1), (iv xL1.Y1)]) [(iv xL1.X0), (iv xL1.Y0), (iv xL1.X1), (iv xL1.Y1)] (wn rfl) rfl rfl rfl rfl sz_36 rfl rfl rfl ?_
  refine Tr.nil (Tr.zA ?_)
  refine Tr.region ?_
  refine Tr.va rfl (fun _ _ h1 h2 => zC ag_38 (h1.ev rfl) (rdb h2 (vs := [(.slice Al119 (l119).length cl119)]) (k := 3) rfl 0) rfl) ?_
  refine Tr.va rfl (fun _ _ h1 h2 => zB fo_36_1 (h1.ev rfl)) ?_
  refine Tr.va rfl (fun _ _ h1 h2 => zC ag_3 (h1.ev rfl) (rdb h2 (vs := [(iv xL1.X0), (iv xL1.Y0), (iv xL1.X1), (iv xL1.Y1)]) (k := 35) rfl 1) rfl) ?_
  refine Tr.va rfl (fun _ _ h1 h2 => zB fo_36_3 (h1.ev rfl)) ?_
  refine Tr.va rfl (fun _ _ h1 h2 => zC ag_3 (h1.ev rfl) (rdb h2 (vs := [(iv xL1.X0), (iv xL1.Y0), (iv xL1.X1), (iv xL1.Y1)]) (k := 35) rfl 3) rfl) ?_
  refine Tr.buildSlice 36 (e := 3) (vs := [(0, (iv xL1.Y0)), (1, (iv xL1.Y1))]) (cs := [(iv xL1.Y0), (iv xL1.Y1)]) (wn rfl) rfl (zi rfl (zi rfl evs_nil)) (by kernel_rfl) fun b278 => ?_
  obtain ⟨l279, hl279, H⟩ := bnd H
  refine Tr.append 12 (t := zn) (l := l119) (l2 := [xL1.Y0, xL1.Y1]) (wn rfl) rfl rfl rfl rfl (fun W hW => ⟨[[(iv xL1.Y0)], [(iv xL1.Y1)]], (.cons ⟨(), trivial, rfl⟩ (.cons ⟨(), trivial, rfl⟩ .nil)), rdb hW (vs := [(iv xL1.Y0), (iv xL1.Y1)]) (k := 36) rfl 0⟩) un_38 sz_3 zl_3 (by decide) by_3 rfl hl279 fun Al279 cl279 hAl279 => ?_
  refine Tr.store 3 (cs := [(.slice Al279 (l279).length cl279)]) [(.slice Al279 (l279).length cl279)] (wn rfl) rfl rfl rfl rfl sz_38 rfl rfl rfl ?_
  refine Tr.nil (Tr.zW (Tr.zA ?_))
  refine Tr.region ?_
  refine Tr.va rfl (fun _ _ h1 h2 => zx (h1.ev rfl) (h1.ev rfl)) ?_
  refine Tr.mv rfl rfl ?_
  refine Tr.nil ?_
  exact Tr.zZ leL1 (restL1, (iL1 + 1), l279, Al279, cl279) ⟨rfl, range_tl hdL1, zo hdL1, H, hAl279⟩ (.cons rfl (.cons rfl (.cons rfl (.cons rfl (.cons (congrArg (fun z => some (Value.int .i64 z)) (range_up hdL1 hfky102_0)) .nil))))) (.cons rfl (.cons rfl (.cons rfl .nil)))

theorem F_plot_newMachine_ok (N : Nat) {w : Bs} (p0 : zt) (Ap0_0 : Option Addr) (cp0_0 : Nat) (hp0_0 : Sl w.O w.W zK Ap0_0 cp0_0 p0.Tools) (Ap0_1 : Option Addr) (cp0_1 : Nat) (hp0_1 : Sl w.O w.W zG Ap0_1 cp0_1 p0.Steps) (r : zAA) (H : F_plot_newMachine N p0 = some r) (hE : HF w w.W (LEn [emp, emp, emp])) : Calls Tryz.prog 55 [(.agg #[(iv p0.Unit), (.slice Ap0_0 (p0.Tools).length cp0_0), (.slice Ap0_1 (p0.Steps).length cp0_1)])].toArray w.W fun e W' => ∃ (w' : Bs) (u : (Option Addr × Nat) × (Option Addr × Nat) × (Option Addr × Nat) × (Option Addr × Nat) × (Option Addr × Nat)), w.Le w' ∧ e = .returned (.pointer (some ⟨u.2.2.2.2.2, 0, none⟩)) ∧ (Sl w'.O w'.W zK u.1.1 u.1.2 r.p.Tools ∧ Sl w'.O w'.W zG u.2.1.1 u.2.1.2 r.p.Steps ∧ SlF u.2.2.1.1 (r.tools).length u.2.2.1.2 ∧ SlF u.2.2.2.1.1 (r.image).length u.2.2.2.1.2 ∧ True) ∧ HF w' W' (LEn [ow u.2.2.1.1 u.2.2.1.2 66 fl_LTBand r.tools, ow u.2.2.2.1.1 u.2.2.2.1.2 107 zJ r.image, bx u.2.2.2.2.2 #[(iv r.p.Unit), (.slice u.1.1 (r.p.Tools).length u.1.2), (.slice u.2.1.1 (r.p.Steps).length u.2.1.2), (.slice u.2.2.1.1 (r.tools).length u.2.2.1.2), (.slice u.2.2.2.1.1 (r.image).length u.2.2.2.1.2), (.bool r.clear), (iv r.tool), (iv r.place.X), (iv r.place.Y), (.bool r.placed), (iv r.off), (iv r.on)] 77]) := by
 unfold F_plot_newMachine at H
 have leB := Bs.Le.refl w
 refine Tr.enter (n := 64) Tryz.func55 rfl rfl rfl hE ?_
 refine Tr.sr ?_
 refine Tr.box 1 (cs := [(iv p0.Unit), (.slice Ap0_0 (p0.Tools).length cp0_0), (.slice Ap0_1 (p0.Steps).length cp0_1)]) (wn rfl) rfl rfl rfl fun b100 => ?_
 refine Tr.asg rfl rfl ?_
 refine Tr.nil (Tr.zA ?_)
 refine Tr.sr ?_
 refine Tr.va rfl (fun _ _ h1 h2 => zR (cs := [(iv p0.Unit), (.slice Ap0_0 (p0.Tools).length cp0_0), (.slice Ap0_1 (p0.Steps).length cp0_1)]) ag_25 sz_25 (h1.ev rfl) (zL.take (rdb h2 (vs := [(iv p0.Unit), (.slice Ap0_0 (p0.Tools).length cp0_0), (.slice Ap0_1 (p0.Steps).length cp0_1)]) (k := 1) rfl 0) 3) rfl) ?_
 refine Tr.build (vs := [(0, (.agg #[(iv p0.Unit), (.slice Ap0_0 (p0.Tools).length cp0_0), (.slice Ap0_1 (p0.Steps).length cp0_1)])), (4, (iv (-1)))]) (cs := [(iv p0.Unit), (.slice Ap0_0 (p0.Tools).length cp0_0), (.slice Ap0_1 (p0.Steps).length cp0_1), (.slice none 0 0), (.slice none 0 0), (.bool false), (iv (-1)), (iv 0), (iv 0), (.bool false), (iv 0), (iv 0)]) (wn rfl) rfl (zi rfl (zi rfl evs_nil)) (by kernel_rfl) ?_
 refine Tr.box 2 (cs := [(iv p0.Unit), (.slice Ap0_0 (p0.Tools).length cp0_0), (.slice Ap0_1 (p0.Steps).length cp0_1), (.slice none 0 0), (.slice none 0 0), (.bool false), (iv (-1)), (iv 0), (iv 0), (.bool false), (iv 0), (iv 0)]) (wn rfl) rfl rfl rfl fun b101 => ?_
 refine Tr.asg rfl rfl ?_
 refine Tr.nil (Tr.zA ?_)
 refine Tr.seq ?_
 refine Tr.sr ?_
 refine Tr.va rfl (fun _ _ h1 h2 => zB fo_25_1 (h1.ev rfl)) ?_
 refine Tr.va rfl (fun _ _ h1 h2 => zC ag_22 (h1.ev rfl) (rdb h2 (vs := [(iv p0.Unit), (.slice Ap0_0 (p0.Tools).length cp0_0), (.slice Ap0_1 (p0.Steps).length cp0_1)]) (k := 1) rfl 1) rfl) ?_
 refine Tr.va rfl (fun _ _ h1 h2 => zq un_22 (h1.ev rfl)) ?_
 refine Tr.mv rfl rfl ?_
 refine Tr.nil (Tr.zA ?_)
 refine Tr.block ?_
 refine Tr.nilOwn 27 66 fl_LTBand ?_
 refine Tr.loop (σ := (List zS) × Nat × (List (List zV)) × (Option Addr) × Nat) (fun m w s => m = s.1.length + 1 ∧ s.1 = List.drop s.2.1 p0.Tools ∧ s.2.1 ≤ p0.Tools.length ∧ zAQ N p0 s.1 s.2.1 s.2.2.1 = some r ∧ SlF s.2.2.2.1 (s.2.2.1).length s.2.2.2.2) (fun s => [(1, (.pointer (some ⟨b100, 0, none⟩))), (3, (.pointer (some ⟨b101, 0, none⟩))), (13, (.slice Ap0_0 (p0.Tools).length cp0_0)), (14, (iv (p0.Tools.length : Int))), (15, (iv (s.2.1 : Int)))]) (fun s => [(1, bx b100 #[(iv p0.Unit), (.slice Ap0_0 (p0.Tools).length cp0_0), (.slice Ap0_1 (p0.Steps).length cp0_1)] 25), (2, bx b101 #[(iv p0.Unit), (.slice Ap0_0 (p0.Tools).length cp0_0), (.slice Ap0_1 (p0.Steps).length cp0_1), (.slice s.2.2.2.1 (s.2.2.1).length s.2.2.2.2), (.slice none 0 0), (.bool false), (iv (-1)), (iv 0), (iv 0), (.bool false), (iv 0), (iv 0)] 77), (27, ow s.2.2.2.1 s.2.2.2.2 66 fl_LTBand s.2.2.1)]) (p0.Tools.length + 1) (p0.Tools, 0, ([] : List (List zV)), none, 0) ⟨rfl, rfl, Nat.zero_le _, H, slf_nil⟩ (.cons rfl (.cons rfl (.cons rfl (.cons rfl (.cons rfl .nil))))) (.cons rfl (.cons rfl (.cons rfl .nil))) (fun _ _ h => absurd h.1 (by simp)) ?_
 intro w leL3 m s hs
 obtain ⟨restL3, iL3, l164, Al164, cl164⟩ := s
 obtain ⟨hmL3, hdL3, hiL3, H, hl164⟩ := hs
 replace hdL3 : restL3 = List.drop iL3 p0.Tools := hdL3
 replace H : zAQ N p0 restL3 iL3 l164 = some r := H
 replace hmL3 : m + 1 = restL3.length + 1 := hmL3
 replace hp0_0 := hp0_0.le leL3
 replace hp0_1 := hp0_1.le leL3
 replace leB := leB.trans leL3
 replace hl164 : SlF Al164 (l164).length cl164 := hl164
 obtain rfl : m = restL3.length := by omega
 clear hmL3
 show Tr _ _ (LF [(1, (.pointer (some ⟨b100, 0, none⟩))), (3, (.pointer (some ⟨b101, 0, none⟩))), (13, (.slice Ap0_0 (p0.Tools).length cp0_0)), (14, (iv (p0.Tools.length : Int))), (15, (iv (iL3 : Int)))]) (LE [(1, bx b100 #[(iv p0.Unit), (.slice Ap0_0 (p0.Tools).length cp0_0), (.slice Ap0_1 (p0.Steps).length cp0_1)] 25), (2, bx b101 #[(iv p0.Unit), (.slice Ap0_0 (p0.Tools).length cp0_0), (.slice Ap0_1 (p0.Steps).length cp0_1), (.slice Al164 (l164).length cl164), (.slice none 0 0), (.bool false), (iv (-1)), (iv 0), (iv 0), (.bool false), (iv 0), (iv 0)] 77), (27, ow Al164 cl164 66 fl_LTBand l164)]) _
 cases restL3 with
 | nil =>
  rw [zAQ.eq_1] at H
  refine Tr.sr ?_
  refine Tr.va rfl (fun _ _ h1 h2 => zz (h1.ev rfl) (h1.ev rfl)) ?_
  refine Tr.nil (Tr.zA ?_)
  refine Tr.seq ?_
  refine Tr.condF rfl (range_nil hdL3) ?_
  refine Tr.exit (Tr.zX (Tr.zX (Tr.zAC (Tr.zA ?_))))
  refine Tr.sr ?_
  refine Tr.mv rfl rfl ?_
  refine Tr.asg rfl rfl ?_
  refine Tr.nil (Tr.zA ?_)
  refine Tr.ret ?_
  obtain rfl := Option.some.inj H
  refine Tr.nilOwn 28 107 zJ ?_
  exact Tr.out (m := [(.pointer (some ⟨b101, 0, none⟩))]) [] (zP rfl zQ) (fun W hW => ⟨w, ((Ap0_0, cp0_0), (Ap0_1, cp0_1), (Al164, cl164), (none, 0), (none, b101)), leB, rfl, ⟨hp0_0, hp0_1, hl164, slf_nil, trivial⟩, hW.pick (ks := [27, 28, 2]) (by decide) (zM rfl (zM rfl (zM rfl zY)))⟩)
 | cons xL3 restL3 =>
  rw [zAQ.eq_2] at H
  refine Tr.sr ?_
  refine Tr.va rfl (fun _ _ h1 h2 => zz (h1.ev rfl) (h1.ev rfl)) ?_
  refine Tr.nil (Tr.zA ?_)
  refine Tr.seq ?_
  refine Tr.condT rfl (range_on hdL3) ?_
  refine Tr.skip (Tr.zA ?_)
  refine Tr.seq ?_
  refine Tr.block ?_
  refine Tr.sr ?_
  obtain ⟨u165, hRu165, hoku165, hcu165⟩ := (hp0_0).el (range_at hdL3)
  obtain ⟨Au165_0, cu165_0⟩ := u165
  have hoku165_0 := hoku165
  replace hoku165_0 : Sl w.O w.W zN Au165_0 cu165_0 xL3.Rects := hoku165_0
  replace hRu165 : w.R (adB Ap0_0) := Or.inl hRu165
  refine Tr.va rfl (fun _ _ h1 h2 => zH el_22 (h1.ev rfl) hp0_0.form (h1.ev rfl) (Int.natCast_nonneg _) (zo hdL3)) ?_
  refine Tr.va rfl (fun _ _ h1 h2 => zR (cs := [(sv xL3.Name), (.slice Au165_0 (xL3.Rects).length cu165_0)]) ag_64 sz_64 (h1.ev rfl) (zL.take (rdR hRu165 hcu165 h2) 2) rfl) ?_
  refine Tr.alloc 29 (wn rfl) rfl ze_64 fun b166 => ?_
  refine Tr.store 29 (cs := [(sv xL3.Name), (.slice Au165_0 (xL3.Rects).length cu165_0)]) [(sv xL3.Name), (.slice Au165_0 (xL3.Rects).length cu165_0)] (wn rfl) rfl rfl rfl rfl sz_64 rfl rfl rfl ?_
  refine Tr.nil (Tr.zA ?_)
  refine Tr.sr ?_
  refine Tr.asg rfl rfl ?_
  refine Tr.nilOwn 30 36 zN ?_
  show Tr _ _ (uf _ 6 (.slice none (([] : List zT)).length 0)) _ _
  refine Tr.nil (Tr.zA ?_)
  refine Tr.seq ?_
  refine Tr.sr ?_
  refine Tr.va rfl (fun _ _ h1 h2 => zB fo_64_1 (h1.ev rfl)) ?_
  refine Tr.va rfl (fun _ _ h1 h2 => zC ag_31 (h1.ev rfl) (rdb h2 (vs := [(sv xL3.Name), (.slice Au165_0 (xL3.Rects).length cu165_0)]) (k := 29) rfl 1) rfl) ?_
  refine Tr.va rfl (fun _ _ h1 h2 => zq un_31 (h1.ev rfl)) ?_
  refine Tr.mv rfl rfl ?_
  refine Tr.nil (Tr.zA ?_)
  refine Tr.block ?_
  refine Tr.loop (σ := (List zT) × Nat × (List zT) × (Option Addr) × Nat) (fun m w s => m = s.1.length + 1 ∧ s.1 = List.drop s.2.1 xL3.Rects ∧ s.2.1 ≤ xL3.Rects.length ∧ F_plot_newMachine_L4 N p0 l164 (zAQ N p0 restL3 (iL3 + 1)) s.1 s.2.1 s.2.2.1 = some r ∧ SlF s.2.2.2.1 (s.2.2.1).length s.2.2.2.2) (fun s => [(1, (.pointer (some ⟨b100, 0, none⟩))), (3, (.pointer (some ⟨b101, 0, none⟩))), (6, (.slice s.2.2.2.1 (s.2.2.1).length s.2.2.2.2)), (13, (.slice Ap0_0 (p0.Tools).length cp0_0)), (14, (iv (p0.Tools.length : Int))), (15, (iv (iL3 : Int))), (20, (.slice Au165_0 (xL3.Rects).length cu165_0)), (21, (iv (xL3.Rects.length : Int))), (22, (iv (s.2.1 : Int)))]) (fun s => [(1, bx b100 #[(iv p0.Unit), (.slice Ap0_0 (p0.Tools).length cp0_0), (.slice Ap0_1 (p0.Steps).length cp0_1)] 25), (2, bx b101 #[(iv p0.Unit), (.slice Ap0_0 (p0.Tools).length cp0_0), (.slice Ap0_1 (p0.Steps).length cp0_1), (.slice Al164 (l164).length cl164), (.slice none 0 0), (.bool false), (iv (-1)), (iv 0), (iv 0), (.bool false), (iv 0), (iv 0)] 77), (27, ow Al164 cl164 66 fl_LTBand l164), (30, ow s.2.2.2.1 s.2.2.2.2 36 zN s.2.2.1)]) (xL3.Rects.length + 1) (xL3.Rects, 0, ([] : List zT), none, 0) ⟨rfl, rfl, Nat.zero_le _, H, slf_nil⟩ (.cons rfl (.cons rfl (.cons rfl (.cons rfl (.cons rfl (.cons rfl (.cons rfl (.cons rfl (.cons rfl .nil))))))))) (.cons rfl (.cons rfl (.cons rfl (.cons rfl .nil)))) (fun _ _ h => absurd h.1 (by simp)) ?_
  intro w leL4 m s hs
  obtain ⟨restL4, iL4, l181, Al181, cl181⟩ := s
  obtain ⟨hmL4, hdL4, hiL4, H, hl181⟩ := hs
  replace hdL4 : restL4 = List.drop iL4 xL3.Rects := hdL4
  replace H : F_plot_newMachine_L4 N p0 l164 (zAQ N p0 restL3 (iL3 + 1)) restL4 iL4 l181 = some r := H
  replace hmL4 : m + 1 = restL4.length + 1 := hmL4
  replace hp0_0 := hp0_0.le leL4
  replace hp0_1 := hp0_1.le leL4
  replace hoku165_0 := hoku165_0.le leL4
  replace leB := leB.trans leL4
  replace leL3 := leL3.trans leL4
  replace hl181 : SlF Al181 (l181).length cl181 := hl181
  obtain rfl : m = restL4.length := by omega
  clear hmL4
  show Tr _ _ (LF [(1, (.pointer (some ⟨b100, 0, none⟩))), (3, (.pointer (some ⟨b101, 0, none⟩))), (6, (.slice Al181 (l181).length cl181)), (13, (.slice Ap0_0 (p0.Tools).length cp0_0)), (14, (iv (p0.Tools.length : Int))), (15, (iv (iL3 : Int))), (20, (.slice Au165_0 (xL3.Rects).length cu165_0)), (21, (iv (xL3.Rects.length : Int))), (22, (iv (iL4 : Int)))]) (LE [(1, bx b100 #[(iv p0.Unit), (.slice Ap0_0 (p0.Tools).length cp0_0), (.slice Ap0_1 (p0.Steps).length cp0_1)] 25), (2, bx b101 #[(iv p0.Unit), (.slice Ap0_0 (p0.Tools).length cp0_0), (.slice Ap0_1 (p0.Steps).length cp0_1), (.slice Al164 (l164).length cl164), (.slice none 0 0), (.bool false), (iv (-1)), (iv 0), (iv 0), (.bool false), (iv 0), (iv 0)] 77), (27, ow Al164 cl164 66 fl_LTBand l164), (30, ow Al181 cl181 36 zN l181)]) _
  cases restL4 with
  | nil =>
   rw [F_plot_newMachine_L4.eq_1] at H
   refine Tr.sr ?_
   refine Tr.va rfl (fun _ _ h1 h2 => zz (h1.ev rfl) (h1.ev rfl)) ?_
   refine Tr.nil (Tr.zA ?_)
   refine Tr.seq ?_
   refine Tr.condF rfl (range_nil hdL4) ?_
   refine Tr.exit (Tr.zX (Tr.zX (Tr.zAC (Tr.zA ?_))))
   refine Tr.drawC 9 [(8, (ow Al164 cl164 66 fl_LTBand l164).S)] [] (by kernel_rfl) (by kernel_rfl) fun sz182 hlosz182 hEsz182 => ?_
   refine Dr.quietP 0 (by kernel_rfl) rfl (wn rfl) rfl (by kernel_rfl) (fun _ _ h1 => run_move (h1.ev rfl)) rfl ?_
   refine Dr.quietP 1 (by kernel_rfl) rfl (wn rfl) rfl (by kernel_rfl) (fun _ _ h1 => run_move (h1.ev rfl)) rfl ?_
   refine Dr.quietP 2 (by kernel_rfl) rfl (wn rfl) rfl (by kernel_rfl) (fun _ _ h1 => zb (h1.ev rfl)) rfl ?_
   refine Dr.quietP 3 (by kernel_rfl) rfl (wn rfl) rfl (by kernel_rfl) (fun _ _ h1 => zB fo_77_1 (h1.ev rfl)) rfl ?_
   refine Dr.quiet 4 [(55, (.slice Al164 (l164).length cl164))] (by kernel_rfl) rfl rfl (by kernel_rfl) ?_ rfl rfl ?_
   ·refine Tq.va rfl (fun _ _ h1 h2 => zC ag_75 (h1.ev rfl) (rdb h2 (vs := [(iv p0.Unit), (.slice Ap0_0 (p0.Tools).length cp0_0), (.slice Ap0_1 (p0.Steps).length cp0_1), (.slice Al164 (l164).length cl164), (.slice none 0 0), (.bool false), (iv (-1)), (iv 0), (iv 0), (.bool false), (iv 0), (iv 0)]) (k := 2) rfl 3) rfl) ?_
    exact Tq.fin (.cons rfl .nil)
   refine Dr.quietP 5 (by kernel_rfl) rfl (wn rfl) rfl (by kernel_rfl) (fun _ _ h1 => run_move (h1.ev rfl)) rfl ?_
   obtain ⟨y183, hy183, H⟩ := bnd H
   refine Dr.one 6 (by kernel_rfl) ?_
   refine St.callG 6 [35] [emp] (U := (Option Addr × Nat)) (fun u => (.slice u.1 (y183).length u.2)) (fun O W u => SlF u.1 (y183).length u.2) (fun u => [ow u.1 u.2 107 zJ y183]) rfl (zM rfl zY) (fun _ => rfl) (insS_no rfl) rfl (wn rfl) rfl Tryz.call59 (zF rfl zO) (fun W hW hp hE => F_shape_SetOf_ok N l181 Al181 cl181 (hW.slS (k := 30) rfl hp rfl) y183 hy183 hE) ?_
   intro w u le184 hu hsy183
   obtain ⟨Ay183_0, cy183_0⟩ := u
   have gy183_0 := hu
   replace hp0_0 := hp0_0.le le184
   replace hp0_1 := hp0_1.le le184
   replace hoku165_0 := hoku165_0.le le184
   replace leB := leB.trans le184
   replace leL3 := leL3.trans le184
   replace leL4 := leL4.trans le184
   have hgy183_0 : SlF Ay183_0 (y183).length cy183_0 := gy183_0
   show Dr _ _ _ _ _ _ _ _ _ (uf _ 57 (.slice Ay183_0 (y183).length cy183_0)) (up _ 35 (ow Ay183_0 cy183_0 107 zJ y183))
   refine Dr.one 7 (by kernel_rfl) ?_
   refine St.freeze 35 rfl fun w le186 hz185 => ?_
   replace hp0_0 := hp0_0.le le186
   replace hp0_1 := hp0_1.le le186
   replace hoku165_0 := hoku165_0.le le186
   replace leB := leB.trans le186
   replace leL3 := leL3.trans le186
   replace leL4 := leL4.trans le186
   refine St.buildSlice 7 36 (e := 66) (vs := [(0, (.slice Ay183_0 (y183).length cy183_0))]) (cs := [(.slice Ay183_0 (y183).length cy183_0)]) rfl (wn rfl) rfl (zi rfl evs_nil) (by kernel_rfl) fun b187 hb187 => ?_
   obtain ⟨l188, hl188, H⟩ := bnd H
   refine Dr.one 8 (by kernel_rfl) ?_
   refine St.append 8 27 (t' := fl_LTBand) (ll := l164) (l2 := [y183]) (fun b hb => .inl ⟨_, List.mem_cons_self, rfl, hb⟩) rfl (wn rfl) rfl rfl rfl rfl (fun W hW => ⟨[[(.slice Ay183_0 (y183).length cy183_0)]], (.cons ⟨(Ay183_0, cy183_0), hz185, rfl⟩ .nil), rdb hW (vs := [(.slice Ay183_0 (y183).length cy183_0)]) (k := 36) rfl 0⟩) un_75 sz_66 zl_66 (by decide) by_66 rfl hl188 fun Al188 cl188 hAl188 => ?_
   refine Dr.tail (by kernel_rfl) ?_
   refine Tr.va rfl (fun _ _ h1 h2 => zb (h1.ev rfl)) ?_
   refine Tr.va rfl (fun _ _ h1 h2 => zB fo_77_1 (h1.ev rfl)) ?_
   refine Tr.store 2 (cs := [(.slice Al188 (l188).length cl188)]) [(iv p0.Unit), (.slice Ap0_0 (p0.Tools).length cp0_0), (.slice Ap0_1 (p0.Steps).length cp0_1), (.slice Al188 (l188).length cl188), (.slice none 0 0), (.bool false), (iv (-1)), (iv 0), (iv 0), (.bool false), (iv 0), (iv 0)] (wn rfl) rfl rfl rfl rfl sz_75 rfl rfl rfl ?_
   refine Tr.nil (Tr.zW (Tr.zA ?_))
   refine Tr.region ?_
   refine Tr.va rfl (fun _ _ h1 h2 => zx (h1.ev rfl) (h1.ev rfl)) ?_
   refine Tr.mv rfl rfl ?_
   refine Tr.nil ?_
   exact Tr.zZ leL3 (restL3, (iL3 + 1), l188, Al188, cl188) ⟨rfl, range_tl hdL3, zo hdL3, H, hAl188⟩ (.cons rfl (.cons rfl (.cons rfl (.cons rfl (.cons (congrArg (fun z => some (Value.int .i64 z)) (range_up hdL3 hp0_0.form)) .nil))))) (.cons rfl (.cons rfl (.cons rfl .nil)))
  | cons xL4 restL4 =>
   rw [F_plot_newMachine_L4.eq_2] at H
   refine Tr.sr ?_
   refine Tr.va rfl (fun _ _ h1 h2 => zz (h1.ev rfl) (h1.ev rfl)) ?_
   refine Tr.nil (Tr.zA ?_)
   refine Tr.seq ?_
   refine Tr.condT rfl (range_on hdL4) ?_
   refine Tr.skip (Tr.zA ?_)
   refine Tr.seq ?_
   refine Tr.block ?_
   refine Tr.sr ?_
   refine Tr.va rfl (fun _ _ h1 h2 => zH el_31 (h1.ev rfl) hoku165_0.form (h1.ev rfl) (Int.natCast_nonneg _) (zo hdL4)) ?_
   refine Tr.va rfl (fun _ _ h1 h2 => zR (cs := [(iv xL4.X0), (iv xL4.Y0), (iv xL4.X1), (iv xL4.Y1)]) ag_36 sz_36 (h1.ev rfl) (zL.take (rdF ef_TRect (hoku165_0.rl) (range_at hdL4) h2) 4) rfl) ?_
   refine Tr.alloc 37 (wn rfl) rfl ze_36 fun b189 => ?_
   refine Tr.store 37 (cs := [(iv xL4.X0), (iv xL4.Y0), (iv xL4.X1), (iv xL4.Y1)]) [(iv xL4.X0), (iv xL4.Y0), (iv xL4.X1), (iv xL4.Y1)] (wn rfl) rfl rfl rfl rfl sz_36 rfl rfl rfl ?_
   refine Tr.nil (Tr.zA ?_)
   refine Tr.region ?_
   refine Tr.mv rfl rfl ?_
   refine Tr.va rfl (fun _ _ h1 h2 => zB fo_36_0 (h1.ev rfl)) ?_
   refine Tr.va rfl (fun _ _ h1 h2 => zC ag_3 (h1.ev rfl) (rdb h2 (vs := [(iv xL4.X0), (iv xL4.Y0), (iv xL4.X1), (iv xL4.Y1)]) (k := 37) rfl 0) rfl) ?_
   refine Tr.va rfl (fun _ _ h1 h2 => zB fo_25_0 (h1.ev rfl)) ?_
   refine Tr.va rfl (fun _ _ h1 h2 => zC ag_3 (h1.ev rfl) (rdb h2 (vs := [(iv p0.Unit), (.slice Ap0_0 (p0.Tools).length cp0_0), (.slice Ap0_1 (p0.Steps).length cp0_1)]) (k := 1) rfl 0) rfl) ?_
   refine Tr.va rfl (fun _ _ h1 h2 => run_mul (h1.ev rfl) (h1.ev rfl)) ?_
   refine Tr.va rfl (fun _ _ h1 h2 => zB fo_36_1 (h1.ev rfl)) ?_
   refine Tr.va rfl (fun _ _ h1 h2 => zC ag_3 (h1.ev rfl) (rdb h2 (vs := [(iv xL4.X0), (iv xL4.Y0), (iv xL4.X1), (iv xL4.Y1)]) (k := 37) rfl 1) rfl) ?_
   refine Tr.va rfl (fun _ _ h1 h2 => zB fo_25_0 (h1.ev rfl)) ?_
   refine Tr.va rfl (fun _ _ h1 h2 => zC ag_3 (h1.ev rfl) (rdb h2 (vs := [(iv p0.Unit), (.slice Ap0_0 (p0.Tools).length cp0_0), (.slice Ap0_1 (p0.Steps).length cp0_1)]) (k := 1) rfl 0) rfl) ?_
   refine Tr.va rfl (fun _ _ h1 h2 => run_mul (h1.ev rfl) (h1.ev rfl)) ?_
   refine Tr.va rfl (fun _ _ h1 h2 => zB fo_36_2 (h1.ev rfl)) ?_
   refine Tr.va rfl (fun _ _ h1 h2 => zC ag_3 (h1.ev rfl) (rdb h2 (vs := [(iv xL4.X0), (iv xL4.Y0), (iv xL4.X1), (iv xL4.Y1)]) (k := 37) rfl 2) rfl) ?_
   refine Tr.va rfl (fun _ _ h1 h2 => zB fo_25_0 (h1.ev rfl)) ?_
   refine Tr.va rfl (fun _ _ h1 h2 => zC ag_3 (h1.ev rfl) (rdb h2 (vs := [(iv p0.Unit), (.slice Ap0_0 (p0.Tools).length cp0_0), (.slice Ap0_1 (p0.Steps).length cp0_1)]) (k := 1) rfl 0) rfl) ?_
   refine Tr.va rfl (fun _ _ h1 h2 => run_mul (h1.ev rfl) (h1.ev rfl)) ?_
   refine Tr.va rfl (fun _ _ h1 h2 => zB fo_36_3 (h1.ev rfl)) ?_
   refine Tr.va rfl (fun _ _ h1 h2 => zC ag_3 (h1.ev rfl) (rdb h2 (vs := [(iv xL4.X0), (iv xL4.Y0), (iv xL4.X1), (iv xL4.Y1)]) (k := 37) rfl 3) rfl) ?_
   refine Tr.va rfl (fun _ _ h1 h2 => zB fo_25_0 (h1.ev rfl)) ?_
   refine Tr.va rfl (fun _ _ h1 h2 => zC ag_3 (h1.ev rfl) (rdb h2 (vs := [(iv p0.Unit), (.slice Ap0_0 (p0.Tools).length cp0_0), (.slice Ap0_1 (p0.Steps).length cp0_1)]) (k := 1) rfl 0) rfl) ?_
   refine Tr.va rfl (fun _ _ h1 h2 => run_mul (h1.ev rfl) (h1.ev rfl)) ?_
   refine Tr.build (vs := [(0, (iv (w64 (xL4.X0 * p0.Unit)))), (1, (iv (w64 (xL4.Y0 * p0.Unit)))), (2, (iv (w64 (xL4.X1 * p0.Unit)))), (3, (iv (w64 (xL4.Y1 * p0.Unit))))]) (cs := [(iv (w64 (xL4.X0 * p0.Unit))), (iv (w64 (xL4.Y0 * p0.Unit))), (iv (w64 (xL4.X1 * p0.Unit))), (iv (w64 (xL4.Y1 * p0.Unit)))]) (wn rfl) rfl (zi rfl (zi rfl (zi rfl (zi rfl evs_nil)))) (by kernel_rfl) ?_
   refine Tr.buildSlice 38 (e := 36) (vs := [(0, (.agg #[(iv (w64 (xL4.X0 * p0.Unit))), (iv (w64 (xL4.Y0 * p0.Unit))), (iv (w64 (xL4.X1 * p0.Unit))), (iv (w64 (xL4.Y1 * p0.Unit)))]))]) (cs := [(iv (w64 (xL4.X0 * p0.Unit))), (iv (w64 (xL4.Y0 * p0.Unit))), (iv (w64 (xL4.X1 * p0.Unit))), (iv (w64 (xL4.Y1 * p0.Unit)))]) (wn rfl) rfl (zi rfl evs_nil) (by kernel_rfl) fun b190 => ?_
   obtain ⟨l191, hl191, H⟩ := bnd H
   refine Tr.append 30 (t := zN) (l := l181) (l2 := [(zT.mk (w64 (xL4.X0 * p0.Unit)) (w64 (xL4.Y0 * p0.Unit)) (w64 (xL4.X1 * p0.Unit)) (w64 (xL4.Y1 * p0.Unit)))]) (wn rfl) rfl rfl rfl rfl (fun W hW => ⟨[[(iv (w64 (xL4.X0 * p0.Unit))), (iv (w64 (xL4.Y0 * p0.Unit))), (iv (w64 (xL4.X1 * p0.Unit))), (iv (w64 (xL4.Y1 * p0.Unit)))]], (.cons ⟨(), trivial, rfl⟩ .nil), rdb hW (vs := [(iv (w64 (xL4.X0 * p0.Unit))), (iv (w64 (xL4.Y0 * p0.Unit))), (iv (w64 (xL4.X1 * p0.Unit))), (iv (w64 (xL4.Y1 * p0.Unit)))]) (k := 38) rfl 0⟩) un_31 sz_36 zl_36 (by decide) by_36 rfl hl191 fun Al191 cl191 hAl191 => ?_
   refine Tr.asg rfl rfl ?_
   refine Tr.nil (Tr.zW (Tr.zA ?_))
   refine Tr.region ?_
   refine Tr.va rfl (fun _ _ h1 h2 => zx (h1.ev rfl) (h1.ev rfl)) ?_
   refine Tr.mv rfl rfl ?_
   refine Tr.nil ?_
   exact Tr.zZ leL4 (restL4, (iL4 + 1), l191, Al191, cl191) ⟨rfl, range_tl hdL4, zo hdL4, H, hAl191⟩ (.cons rfl (.cons rfl (.cons rfl (.cons rfl (.cons rfl (.cons rfl (.cons rfl (.cons rfl (.cons (congrArg (fun z => some (Value.int .i64 z)) (range_up hdL4 hoku165_0.form)) .nil))))))))) (.cons rfl (.cons rfl (.cons rfl (.cons rfl .nil))))

theorem F_plot_machine__moved_ok {w : Bs} (p0 : zAA) (Ap0_0 : Option Addr) (cp0_0 : Nat) (hp0_0 : Sl w.R w.W zK Ap0_0 cp0_0 p0.p.Tools) (Ap0_1 : Option Addr) (cp0_1 : Nat) (hp0_1 : Sl w.R w.W zG Ap0_1 cp0_1 p0.p.Steps) (Ap0_2 : Option Addr) (cp0_2 : Nat) (hp0_2 : Sl w.R w.W fl_LTBand Ap0_2 cp0_2 p0.tools) (Ap0_3 : Option Addr) (cp0_3 : Nat) (hp0_3 : Sl w.R w.W zJ Ap0_3 cp0_3 p0.image) (bp0 : Nat) (hbp0 : w.R bp0) (hcp0 : zL w.W bp0 0 [(iv p0.p.Unit), (.slice Ap0_0 (p0.p.Tools).length cp0_0), (.slice Ap0_1 (p0.p.Steps).length cp0_1), (.slice Ap0_2 (p0.tools).length cp0_2), (.slice Ap0_3 (p0.image).length cp0_3), (.bool p0.clear), (iv p0.tool), (iv p0.place.X), (iv p0.place.Y), (.bool p0.placed), (iv p0.off), (iv p0.on)]) (p1 : zI) (p2 : zI) (r : zI) (H : F_plot_machine__moved p0 p1 p2 = some r) (hE : HF w w.W E0) : Calls Tryz.prog 103 [(.pointer (some ⟨bp0, 0, none⟩)), (.agg #[(iv p1.X), (iv p1.Y)]), (.agg #[(iv p2.X), (iv p2.Y)])].toArray w.W fun e W' => e = .returned (.agg #[(iv r.X), (iv r.Y)]) ∧ HF w W' E0 := by
 unfold F_plot_machine__moved at H
 have leB := Bs.Le.refl w
 refine Tr.enter (n := 30) Tryz.func103 rfl rfl rfl hE ?_
 refine Tr.sr ?_
 refine Tr.box 1 (cs := [(iv p1.X), (iv p1.Y)]) (wn rfl) rfl rfl rfl fun b100 => ?_
 refine Tr.box 2 (cs := [(iv p2.X), (iv p2.Y)]) (wn rfl) rfl rfl rfl fun b101 => ?_
 refine Tr.alloc 3 (wn rfl) rfl ze_43 fun b102 => ?_
 refine Tr.nil (Tr.zA ?_)
 refine Tr.seq ?_
 refine Tr.drawTail 22 (by kernel_rfl) (by kernel_rfl) ?_
 refine Tq.va rfl (fun _ _ h1 h2 => zB fo_43_0 (h1.ev rfl)) ?_
 refine Tq.va rfl (fun _ _ h1 h2 => zC ag_3 (h1.ev rfl) (rdb h2 (vs := [(iv p1.X), (iv p1.Y)]) (k := 1) rfl 0) rfl) ?_
 refine Tq.mv rfl rfl ?_
 refine Tq.va rfl (fun _ _ h1 h2 => zb (h1.ev rfl)) ?_
 refine Tq.va rfl (fun _ _ h1 h2 => zB fo_77_0 (h1.ev rfl)) ?_
 refine Tq.va rfl (fun _ _ h1 h2 => zB fo_25_0 (h1.ev rfl)) ?_
 refine Tq.va rfl (fun _ _ h1 h2 => zC ag_3 (h1.ev rfl) (zL.drop (zL.drop (rdR hbp0 hcp0 h2) 0) 0) rfl) ?_
 refine Tq.va rfl (fun _ _ h1 h2 => run_mul (h1.ev rfl) (h1.ev rfl)) ?_
 refine Tq.va rfl (fun _ _ h1 h2 => zB fo_43_0 (h1.ev rfl)) ?_
 refine Tq.va rfl (fun _ _ h1 h2 => zC ag_3 (h1.ev rfl) (rdb h2 (vs := [(iv p2.X), (iv p2.Y)]) (k := 2) rfl 0) rfl) ?_
 refine Tq.va rfl (fun _ _ h1 h2 => zx (h1.ev rfl) (h1.ev rfl)) ?_
 refine Tq.va rfl (fun _ _ h1 h2 => zB fo_43_1 (h1.ev rfl)) ?_
 refine Tq.va rfl (fun _ _ h1 h2 => zC ag_3 (h1.ev rfl) (rdb h2 (vs := [(iv p1.X), (iv p1.Y)]) (k := 1) rfl 1) rfl) ?_
 refine Tq.mv rfl rfl ?_
 refine Tq.va rfl (fun _ _ h1 h2 => zb (h1.ev rfl)) ?_
 refine Tq.va rfl (fun _ _ h1 h2 => zB fo_77_0 (h1.ev rfl)) ?_
 refine Tq.va rfl (fun _ _ h1 h2 => zB fo_25_0 (h1.ev rfl)) ?_
 refine Tq.va rfl (fun _ _ h1 h2 => zC ag_3 (h1.ev rfl) (zL.drop (zL.drop (rdR hbp0 hcp0 h2) 0) 0) rfl) ?_
 refine Tq.va rfl (fun _ _ h1 h2 => run_mul (h1.ev rfl) (h1.ev rfl)) ?_
 refine Tq.va rfl (fun _ _ h1 h2 => zB fo_43_1 (h1.ev rfl)) ?_
 refine Tq.va rfl (fun _ _ h1 h2 => zC ag_3 (h1.ev rfl) (rdb h2 (vs := [(iv p2.X), (iv p2.Y)]) (k := 2) rfl 1) rfl) ?_
 refine Tq.va rfl (fun _ _ h1 h2 => zx (h1.ev rfl) (h1.ev rfl)) ?_
 refine Tq.nil ?_
 refine Tr.build (vs := [(0, (iv (w64 ((w64 (p1.X * p0.p.Unit)) + p2.X)))), (1, (iv (w64 ((w64 (p1.Y * p0.p.Unit)) + p2.Y))))]) (cs := [(iv (w64 ((w64 (p1.X * p0.p.Unit)) + p2.X))), (iv (w64 ((w64 (p1.Y * p0.p.Unit)) + p2.Y)))]) (wn rfl) rfl (zi rfl (zi rfl evs_nil)) (by kernel_rfl) ?_
 refine Tr.store 3 (cs := [(iv (w64 ((w64 (p1.X * p0.p.Unit)) + p2.X))), (iv (w64 ((w64 (p1.Y * p0.p.Unit)) + p2.Y)))]) [(iv (w64 ((w64 (p1.X * p0.p.Unit)) + p2.X))), (iv (w64 ((w64 (p1.Y * p0.p.Unit)) + p2.Y)))] (wn rfl) rfl rfl rfl rfl sz_43 rfl rfl rfl ?_
 refine Tr.nil (Tr.zA ?_)
 refine Tr.ret ?_
 obtain rfl := Option.some.inj H
 exact Tr.out (m := [(.agg #[(iv (w64 ((w64 (p1.X * p0.p.Unit)) + p2.X))), (iv (w64 ((w64 (p1.Y * p0.p.Unit)) + p2.Y)))])]) [3] (res_cell rfl rfl ag_43 sz_43 zQ) (fun W hW => ⟨rfl, hW.low leB⟩)

theorem F_shape_within_ok {w : Bs} (p0 : Int) (p1 : Int) (p2 : Int) (r : Bool) (H : F_shape_within p0 p1 p2 = some r) (hE : HF w w.W E0) : Calls Tryz.prog 158 [(iv p0), (iv p1), (iv p2)].toArray w.W fun e W' => e = .returned (.bool r) ∧ HF w W' E0 := by
 unfold F_shape_within at H
 have leB := Bs.Le.refl w
 refine Tr.enter (n := 15) Tryz.func158 rfl rfl rfl hE ?_
 refine Tr.sr ?_
 refine Tr.asg rfl rfl ?_
 refine Tr.nil (Tr.zA ?_)
 refine Tr.sr ?_
 refine Tr.mv rfl rfl ?_
 refine Tr.mv rfl rfl ?_
 refine Tr.va rfl (fun _ _ h1 h2 => run_geq (h1.ev rfl) (h1.ev rfl)) ?_
 refine Tr.mv rfl rfl ?_
 refine Tr.mid0 4 [(14, (.bool ((decide (p1 ≤ p0)) && (decide (p0 ≤ p2)))))] [] ?_ ?_
 ·cases hg99 : (decide (p1 ≤ p0))
  ·refine Tr.pass rfl rfl rfl rfl rfl (by decide) ?_
   refine Tr.pass rfl rfl rfl rfl rfl (by decide) ?_
   refine Tr.pass rfl rfl rfl rfl rfl (by decide) ?_
   refine Tr.va rfl (fun _ _ h1 h2 => zf (h1.ev rfl) (h1.ev rfl)) ?_
   exact Tr.nil (Tr.fin0 (.cons rfl .nil) .nil)
  ·refine Tr.val (wg rfl rfl rfl) rfl (fun _ _ h1 h2 => run_move (h1.ev rfl)) ?_
   refine Tr.val (wg rfl rfl rfl) rfl (fun _ _ h1 h2 => run_move (h1.ev rfl)) ?_
   refine Tr.val (wg rfl rfl rfl) rfl (fun _ _ h1 h2 => run_leq (h1.ev rfl) (h1.ev rfl)) ?_
   refine Tr.va rfl (fun _ _ h1 h2 => ze (h1.ev rfl) (h1.ev rfl)) ?_
   exact Tr.nil (Tr.fin0 (.cons rfl .nil) .nil)
 ·show Tr _ _ (LF [(14, (.bool ((decide (p1 ≤ p0)) && (decide (p0 ≤ p2)))))]) (LE []) _
  refine Tr.asg rfl rfl ?_
  refine Tr.nil (Tr.zA ?_)
  refine Tr.ret ?_
  obtain rfl := Option.some.inj H
  exact Tr.out (m := [(.bool ((decide (p1 ≤ p0)) && (decide (p0 ≤ p2))))]) [] (zP rfl zQ) (fun W hW => ⟨rfl, hW.low leB⟩)

theorem F_shape_IsAt_ok {w : Bs} (p0 : Int) (r : Bool) (H : F_shape_IsAt p0 = some r) (hE : HF w w.W E0) : Calls Tryz.prog 129 [(iv p0)].toArray w.W fun e W' => e = .returned (.bool r) ∧ HF w W' E0 := by
 unfold F_shape_IsAt at H
 have leB := Bs.Le.refl w
 refine Tr.enter (n := 5) Tryz.func129 rfl rfl rfl hE ?_
 refine Tr.sr ?_
 refine Tr.asg rfl rfl ?_
 refine Tr.nil (Tr.zA ?_)
 refine Tr.sr ?_
 refine Tr.mv rfl rfl ?_
 obtain ⟨y100, hy100, H⟩ := bnd H
 refine Tr.call0 (r := (.bool y100)) (wn rfl) rfl Tryz.call158 (zF rfl (zF rfl (zF rfl zO))) (fun W hW => F_shape_within_ok p0 (-1000000) 1000000 y100 hy100 (HF.start _)) ?_
 refine Tr.asg rfl rfl ?_
 refine Tr.nil (Tr.zA ?_)
 refine Tr.ret ?_
 obtain rfl := Option.some.inj H
 exact Tr.out (m := [(.bool y100)]) [] (zP rfl zQ) (fun W hW => ⟨rfl, hW.low leB⟩)

theorem F_shape_IsPoint_ok {w : Bs} (p0 : zI) (r : Bool) (H : F_shape_IsPoint p0 = some r) (hE : HF w w.W E0) : Calls Tryz.prog 123 [(.agg #[(iv p0.X), (iv p0.Y)])].toArray w.W fun e W' => e = .returned (.bool r) ∧ HF w W' E0 := by
 unfold F_shape_IsPoint at H
 have leB := Bs.Le.refl w
 refine Tr.enter (n := 11) Tryz.func123 rfl rfl rfl hE ?_
 refine Tr.sr ?_
 refine Tr.box 1 (cs := [(iv p0.X), (iv p0.Y)]) (wn rfl) rfl rfl rfl fun b100 => ?_
 refine Tr.asg rfl rfl ?_
 refine Tr.nil (Tr.zA ?_)
 refine Tr.sr ?_
 refine Tr.va rfl (fun _ _ h1 h2 => zB fo_43_0 (h1.ev rfl)) ?_
 refine Tr.va rfl (fun _ _ h1 h2 => zC ag_3 (h1.ev rfl) (rdb h2 (vs := [(iv p0.X), (iv p0.Y)]) (k := 1) rfl 0) rfl) ?_
 obtain ⟨y101, hy101, H⟩ := bnd H
 refine Tr.call0 (r := (.bool y101)) (wn rfl) rfl Tryz.call129 (zF rfl zO) (fun W hW => F_shape_IsAt_ok p0.X y101 hy101 (HF.start _)) ?_
 refine Tr.mv rfl rfl ?_
 obtain ⟨g103, hg103, H⟩ := bnd H
 refine Tr.mid0 4 [(10, (.bool g103))] [(1, bx b100 #[(iv p0.X), (iv p0.Y)] 43)] ?_ ?_
 ·cases hg104 : y101
  ·rw [hg104] at hg103
   rw [if_neg (by decide)] at hg103
   have H := hg103
   obtain rfl := Option.some.inj H
   refine Tr.pass rfl rfl rfl rfl rfl (by decide) ?_
   refine Tr.pass rfl rfl rfl rfl rfl (by decide) ?_
   refine Tr.pass rfl rfl rfl rfl rfl (by decide) ?_
   refine Tr.va rfl (fun _ _ h1 h2 => zf (h1.ev rfl) (h1.ev rfl)) ?_
   exact Tr.nil (Tr.fin0 (.cons rfl .nil) (.cons rfl .nil))
  ·rw [hg104] at hg103
   rw [if_pos rfl] at hg103
   have H := hg103
   refine Tr.val (wg rfl rfl rfl) rfl (fun _ _ h1 h2 => zB fo_43_1 (h1.ev rfl)) ?_
   refine Tr.val (wg rfl rfl rfl) rfl (fun _ _ h1 h2 => zC ag_3 (h1.ev rfl) (rdb h2 (vs := [(iv p0.X), (iv p0.Y)]) (k := 1) rfl 1) rfl) ?_
   obtain ⟨y104, hy104, H⟩ := bnd H
   refine Tr.call0 (r := (.bool y104)) (wg rfl rfl rfl) rfl Tryz.call129 (zF rfl zO) (fun W hW => F_shape_IsAt_ok p0.Y y104 hy104 (HF.start _)) ?_
   refine Tr.va rfl (fun _ _ h1 h2 => ze (h1.ev rfl) (h1.ev rfl)) ?_
   obtain rfl := Option.some.inj H
   exact Tr.nil (Tr.fin0 (.cons rfl .nil) (.cons rfl .nil))
 ·show Tr _ _ (LF [(10, (.bool g103))]) (LE [(1, bx b100 #[(iv p0.X), (iv p0.Y)] 43)]) _
  refine Tr.asg rfl rfl ?_
  refine Tr.nil (Tr.zA ?_)
  refine Tr.ret ?_
  obtain rfl := Option.some.inj H
  exact Tr.out (m := [(.bool g103)]) [] (zP rfl zQ) (fun W hW => ⟨rfl, hW.low leB⟩)

theorem F_plot_far_ok {w : Bs} (p0 : zI) (p1 : zI) (r : Int) (H : F_plot_far p0 p1 = some r) (hE : HF w w.W E0) : Calls Tryz.prog 124 [(.agg #[(iv p0.X), (iv p0.Y)]), (.agg #[(iv p1.X), (iv p1.Y)])].toArray w.W fun e W' => e = .returned (iv r) ∧ HF w W' E0 := by
 unfold F_plot_far at H
 have leB := Bs.Le.refl w
 refine Tr.enter (n := 28) Tryz.func124 rfl rfl rfl hE ?_
 refine Tr.sr ?_
 refine Tr.box 1 (cs := [(iv p0.X), (iv p0.Y)]) (wn rfl) rfl rfl rfl fun b100 => ?_
 refine Tr.box 2 (cs := [(iv p1.X), (iv p1.Y)]) (wn rfl) rfl rfl rfl fun b101 => ?_
 refine Tr.asg rfl rfl ?_
 refine Tr.nil (Tr.zA ?_)
 refine Tr.sr ?_
 refine Tr.va rfl (fun _ _ h1 h2 => zB fo_43_0 (h1.ev rfl)) ?_
 refine Tr.va rfl (fun _ _ h1 h2 => zC ag_3 (h1.ev rfl) (rdb h2 (vs := [(iv p0.X), (iv p0.Y)]) (k := 1) rfl 0) rfl) ?_
 refine Tr.va rfl (fun _ _ h1 h2 => zB fo_43_0 (h1.ev rfl)) ?_
 refine Tr.va rfl (fun _ _ h1 h2 => zC ag_3 (h1.ev rfl) (rdb h2 (vs := [(iv p1.X), (iv p1.Y)]) (k := 2) rfl 0) rfl) ?_
 refine Tr.va rfl (fun _ _ h1 h2 => run_sub (h1.ev rfl) (h1.ev rfl)) ?_
 refine Tr.va rfl (fun _ _ h1 h2 => zB fo_43_0 (h1.ev rfl)) ?_
 refine Tr.va rfl (fun _ _ h1 h2 => zC ag_3 (h1.ev rfl) (rdb h2 (vs := [(iv p1.X), (iv p1.Y)]) (k := 2) rfl 0) rfl) ?_
 refine Tr.va rfl (fun _ _ h1 h2 => zB fo_43_0 (h1.ev rfl)) ?_
 refine Tr.va rfl (fun _ _ h1 h2 => zC ag_3 (h1.ev rfl) (rdb h2 (vs := [(iv p0.X), (iv p0.Y)]) (k := 1) rfl 0) rfl) ?_
 refine Tr.va rfl (fun _ _ h1 h2 => run_sub (h1.ev rfl) (h1.ev rfl)) ?_
 refine Tr.va rfl (fun _ _ h1 h2 => run_max (h1.ev rfl) (h1.ev rfl) _) ?_
 refine Tr.va rfl (fun _ _ h1 h2 => zB fo_43_1 (h1.ev rfl)) ?_
 refine Tr.va rfl (fun _ _ h1 h2 => zC ag_3 (h1.ev rfl) (rdb h2 (vs := [(iv p0.X), (iv p0.Y)]) (k := 1) rfl 1) rfl) ?_
 refine Tr.va rfl (fun _ _ h1 h2 => zB fo_43_1 (h1.ev rfl)) ?_
 refine Tr.va rfl (fun _ _ h1 h2 => zC ag_3 (h1.ev rfl) (rdb h2 (vs := [(iv p1.X), (iv p1.Y)]) (k := 2) rfl 1) rfl) ?_
 refine Tr.va rfl (fun _ _ h1 h2 => run_sub (h1.ev rfl) (h1.ev rfl)) ?_
 refine Tr.va rfl (fun _ _ h1 h2 => zB fo_43_1 (h1.ev rfl)) ?_
 refine Tr.va rfl (fun _ _ h1 h2 => zC ag_3 (h1.ev rfl) (rdb h2 (vs := [(iv p1.X), (iv p1.Y)]) (k := 2) rfl 1) rfl) ?_
 refine Tr.va rfl (fun _ _ h1 h2 => zB fo_43_1 (h1.ev rfl)) ?_
 refine Tr.va rfl (fun _ _ h1 h2 => zC ag_3 (h1.ev rfl) (rdb h2 (vs := [(iv p0.X), (iv p0.Y)]) (k := 1) rfl 1) rfl) ?_
 refine Tr.va rfl (fun _ _ h1 h2 => run_sub (h1.ev rfl) (h1.ev rfl)) ?_
 refine Tr.va rfl (fun _ _ h1 h2 => run_max (h1.ev rfl) (h1.ev rfl) _) ?_
 refine Tr.va rfl (fun _ _ h1 h2 => zx (h1.ev rfl) (h1.ev rfl)) ?_
 refine Tr.asg rfl rfl ?_
 refine Tr.nil (Tr.zA ?_)
 refine Tr.ret ?_
 obtain rfl := Option.some.inj H
 exact Tr.out (m := [(iv (w64 ((max (w64 (p0.X - p1.X)) (w64 (p1.X - p0.X))) + (max (w64 (p0.Y - p1.Y)) (w64 (p1.Y - p0.Y))))))]) [] (zP rfl zQ) (fun W hW => ⟨rfl, hW.low leB⟩)

theorem F_shape_Set__Rects_ok (N : Nat) {w : Bs} (p0 : (List zV)) (Ap0_0 : Option Addr) (cp0_0 : Nat) (hp0_0 : Sl w.R w.W zJ Ap0_0 cp0_0 p0) (r : (List zT)) (H : F_shape_Set__Rects N p0 = some r) (hE : HF w w.W (LEn [emp])) : Calls Tryz.prog 29 [(.slice Ap0_0 (p0).length cp0_0)].toArray w.W fun e W' => ∃ u : (Option Addr × Nat), e = .returned (.slice u.1 (r).length u.2) ∧ (SlF u.1 (r).length u.2) ∧ HF w W' (LEn [ow u.1 u.2 36 zN r]) := by
 unfold F_shape_Set__Rects at H
 have leB := Bs.Le.refl w
 refine Tr.enter (n := 41) Tryz.func29 rfl rfl rfl hE ?_
 refine Tr.sr ?_
 refine Tr.asg rfl rfl ?_
 refine Tr.nilOwn 1 36 zN ?_
 show Tr _ _ (uf _ 2 (.slice none (([] : List zT)).length 0)) _ _
 refine Tr.nil (Tr.zA ?_)
 refine Tr.sr ?_
 refine Tr.asg rfl rfl ?_
 refine Tr.nilOwn 2 36 zN ?_
 show Tr _ _ (uf _ 3 (.slice none (([] : List zT)).length 0)) _ _
 refine Tr.nil (Tr.zA ?_)
 refine Tr.seq ?_
 refine Tr.sr ?_
 refine Tr.mv rfl rfl ?_
 refine Tr.va rfl (fun _ _ h1 h2 => zq un_66 (h1.ev rfl)) ?_
 refine Tr.mv rfl rfl ?_
 refine Tr.nil (Tr.zA ?_)
 refine Tr.block ?_
 refine Tr.loop (σ := (List zV) × Nat × (List zT) × (Option Addr) × Nat) (fun m w s => m = s.1.length + 1 ∧ s.1 = List.drop s.2.1 p0 ∧ s.2.1 ≤ p0.length ∧ zAK N s.1 s.2.1 s.2.2.1 = some r ∧ SlF s.2.2.2.1 (s.2.2.1).length s.2.2.2.2) (fun s => [(3, (.slice s.2.2.2.1 (s.2.2.1).length s.2.2.2.2)), (7, (.slice Ap0_0 (p0).length cp0_0)), (8, (iv (p0.length : Int))), (9, (iv (s.2.1 : Int)))]) (fun s => [(2, ow s.2.2.2.1 s.2.2.2.2 36 zN s.2.2.1)]) (p0.length + 1) (p0, 0, ([] : List zT), none, 0) ⟨rfl, rfl, Nat.zero_le _, H, slf_nil⟩ (.cons rfl (.cons rfl (.cons rfl (.cons rfl .nil)))) (.cons rfl .nil) (fun _ _ h => absurd h.1 (by simp)) ?_
 intro w leL3 m s hs
 obtain ⟨restL3, iL3, l152, Al152, cl152⟩ := s
 obtain ⟨hmL3, hdL3, hiL3, H, hl152⟩ := hs
 replace hdL3 : restL3 = List.drop iL3 p0 := hdL3
 replace H : zAK N restL3 iL3 l152 = some r := H
 replace hmL3 : m + 1 = restL3.length + 1 := hmL3
 replace hp0_0 := hp0_0.leR leL3
 replace leB := leB.trans leL3
 replace hl152 : SlF Al152 (l152).length cl152 := hl152
 obtain rfl : m = restL3.length := by omega
 clear hmL3
 show Tr _ _ (LF [(3, (.slice Al152 (l152).length cl152)), (7, (.slice Ap0_0 (p0).length cp0_0)), (8, (iv (p0.length : Int))), (9, (iv (iL3 : Int)))]) (LE [(2, ow Al152 cl152 36 zN l152)]) _
 cases restL3 with
 | nil =>
  rw [zAK.eq_1] at H
  refine Tr.sr ?_
  refine Tr.va rfl (fun _ _ h1 h2 => zz (h1.ev rfl) (h1.ev rfl)) ?_
  refine Tr.nil (Tr.zA ?_)
  refine Tr.seq ?_
  refine Tr.condF rfl (range_nil hdL3) ?_
  refine Tr.exit (Tr.zX (Tr.zX (Tr.zAC (Tr.zA ?_))))
  refine Tr.sr ?_
  refine Tr.mv rfl rfl ?_
  refine Tr.asg rfl rfl ?_
  refine Tr.nil (Tr.zA ?_)
  refine Tr.ret ?_
  obtain rfl := Option.some.inj H
  exact Tr.out (m := [(.slice Al152 (l152).length cl152)]) [] (zP rfl zQ) (fun W hW => ⟨(Al152, cl152), rfl, hl152, HF.lowE leB (hW.pick (ks := [2]) (by decide) (zM rfl zY)) ⟨ow_any _ _ _ _ tr_TRect, trivial⟩⟩)
 | cons xL3 restL3 =>
  rw [zAK.eq_2] at H
  refine Tr.sr ?_
  refine Tr.va rfl (fun _ _ h1 h2 => zz (h1.ev rfl) (h1.ev rfl)) ?_
  refine Tr.nil (Tr.zA ?_)
  refine Tr.seq ?_
  refine Tr.condT rfl (range_on hdL3) ?_
  refine Tr.skip (Tr.zA ?_)
  refine Tr.seq ?_
  refine Tr.block ?_
  refine Tr.sr ?_
  obtain ⟨u153, hRu153, hoku153, hcu153⟩ := (hp0_0).el (range_at hdL3)
  obtain ⟨Au153_0, cu153_0⟩ := u153
  have hoku153_0 := hoku153
  replace hoku153_0 : Sl w.R w.W zn Au153_0 cu153_0 xL3.Xs := hoku153_0
  refine Tr.va rfl (fun _ _ h1 h2 => zH el_66 (h1.ev rfl) hp0_0.form (h1.ev rfl) (Int.natCast_nonneg _) (zo hdL3)) ?_
  refine Tr.va rfl (fun _ _ h1 h2 => zR (cs := [(iv xL3.Y0), (iv xL3.Y1), (.slice Au153_0 (xL3.Xs).length cu153_0)]) ag_107 sz_107 (h1.ev rfl) (zL.take (rdR hRu153 hcu153 h2) 3) rfl) ?_
  refine Tr.alloc 11 (wn rfl) rfl ze_107 fun b154 => ?_
  refine Tr.store 11 (cs := [(iv xL3.Y0), (iv xL3.Y1), (.slice Au153_0 (xL3.Xs).length cu153_0)]) [(iv xL3.Y0), (iv xL3.Y1), (.slice Au153_0 (xL3.Xs).length cu153_0)] (wn rfl) rfl rfl rfl rfl sz_107 rfl rfl rfl ?_
  refine Tr.nil (Tr.zA ?_)
  refine Tr.sr ?_
  refine Tr.asg rfl rfl ?_
  refine Tr.nil (Tr.zA ?_)
  refine Tr.block ?_
  refine Tr.loop (σ := (List zT) × Int × (Option Addr) × Nat) (fun m w s => F_shape_Set__Rects_L4 (zAK N restL3 (iL3 + 1)) xL3 m s.1 s.2.1 = some r ∧ SlF s.2.2.1 (s.1).length s.2.2.2) (fun s => [(3, (.slice s.2.2.1 (s.1).length s.2.2.2)), (5, (.pointer (some ⟨b154, 0, none⟩))), (6, (iv s.2.1)), (7, (.slice Ap0_0 (p0).length cp0_0)), (8, (iv (p0.length : Int))), (9, (iv (iL3 : Int)))]) (fun s => [(2, ow s.2.2.1 s.2.2.2 36 zN s.1), (11, bx b154 #[(iv xL3.Y0), (iv xL3.Y1), (.slice Au153_0 (xL3.Xs).length cu153_0)] 107)]) N (l152, 0, Al152, cl152) ⟨H, hl152⟩ (.cons rfl (.cons rfl (.cons rfl (.cons rfl (.cons rfl (.cons rfl .nil)))))) (.cons rfl (.cons rfl .nil)) (fun _ _ h => noSome (h.1)) ?_
  intro w leL4 mL4 s hs
  obtain ⟨l169, x170, Al169, cl169⟩ := s
  obtain ⟨H, hl169⟩ := hs
  replace H : F_shape_Set__Rects_L4 (zAK N restL3 (iL3 + 1)) xL3 (mL4 + 1) l169 x170 = some r := H
  replace hoku153_0 := hoku153_0.leR leL4
  replace hp0_0 := hp0_0.leR leL4
  replace leB := leB.trans leL4
  replace leL3 := leL3.trans leL4
  replace hl169 : SlF Al169 (l169).length cl169 := hl169
  rw [F_shape_Set__Rects_L4.eq_2] at H
  show Tr _ _ (LF [(3, (.slice Al169 (l169).length cl169)), (5, (.pointer (some ⟨b154, 0, none⟩))), (6, (iv x170)), (7, (.slice Ap0_0 (p0).length cp0_0)), (8, (iv (p0.length : Int))), (9, (iv (iL3 : Int)))]) (LE [(2, ow Al169 cl169 36 zN l169), (11, bx b154 #[(iv xL3.Y0), (iv xL3.Y1), (.slice Au153_0 (xL3.Xs).length cu153_0)] 107)]) _
  refine Tr.seq ?_
  refine Tr.sr ?_
  refine Tr.mv rfl rfl ?_
  refine Tr.va rfl (fun _ _ h1 h2 => zB fo_107_2 (h1.ev rfl)) ?_
  refine Tr.va rfl (fun _ _ h1 h2 => zC ag_38 (h1.ev rfl) (rdb h2 (vs := [(iv xL3.Y0), (iv xL3.Y1), (.slice Au153_0 (xL3.Xs).length cu153_0)]) (k := 11) rfl 2) rfl) ?_
  refine Tr.va rfl (fun _ _ h1 h2 => zq un_38 (h1.ev rfl)) ?_
  refine Tr.va rfl (fun _ _ h1 h2 => zz (h1.ev rfl) (h1.ev rfl)) ?_
  refine Tr.nil (Tr.zA ?_)
  refine Tr.cond rfl H (fun H => ?_) (fun H => ?_)
  ·refine Tr.skip (Tr.zA ?_)
   refine Tr.seq ?_
   refine Tr.block ?_
   obtain ⟨x172, hx172, H⟩ := bnd H
   obtain ⟨hx1720, hx1721, hx1722⟩ := zh hx172
   obtain ⟨x173, hx173, H⟩ := bnd H
   obtain ⟨hx1730, hx1731, hx1732⟩ := zh hx173
   refine Tr.drawF 18 [(17, .makeFunc (.func 0) #[] #[.tmp 36])] [(17, ⟨37, 14, (.func (.func 0) #[] #[(.agg #[(iv x172), (iv xL3.Y0), (iv x173), (iv xL3.Y1)])]), fun b => .slice (some ⟨b, 0, none⟩) 1 1, fun b => bx b #[(iv x172), (iv xL3.Y0), (iv x173), (iv xL3.Y1)] 36⟩)] [(3, (.slice Al169 (l169).length cl169)), (5, (.pointer (some ⟨b154, 0, none⟩))), (6, (iv x170)), (7, (.slice Ap0_0 (p0).length cp0_0)), (8, (iv (p0.length : Int))), (9, (iv (iL3 : Int))), (13, (iv x170)), (14, (.pointer (some ⟨b154, 2, none⟩))), (15, (.slice Au153_0 (xL3.Xs).length cu153_0)), (16, (iv (xL3.Xs.length : Int))), (17, (.bool (decide (x170 < (xL3.Xs.length : Int))))), (20, (.slice Al169 (l169).length cl169)), (21, (.pointer (some ⟨b154, 2, none⟩))), (22, (.slice Au153_0 (xL3.Xs).length cu153_0)), (23, (iv x170)), (24, (.pointer (some ⟨adB Au153_0, adO Au153_0 + (x170).toNat * 1, none⟩))), (25, (iv x172)), (26, (.pointer (some ⟨b154, 0, none⟩))), (27, (iv xL3.Y0)), (28, (.pointer (some ⟨b154, 2, none⟩))), (29, (.slice Au153_0 (xL3.Xs).length cu153_0)), (30, (iv x170)), (31, (iv (w64 (x170 + 1)))), (32, (.pointer (some ⟨adB Au153_0, adO Au153_0 + ((w64 (x170 + 1))).toNat * 1, none⟩))), (33, (iv x173)), (34, (.pointer (some ⟨b154, 1, none⟩))), (35, (iv xL3.Y1)), (36, (.agg #[(iv x172), (iv xL3.Y0), (iv x173), (iv xL3.Y1)])), (37, (.func (.func 0) #[] #[(.agg #[(iv x172), (iv xL3.Y0), (iv x173), (iv xL3.Y1)])]))] (by kernel_rfl) (by kernel_rfl) (by kernel_rfl) (by kernel_rfl) (by kernel_rfl) (by kernel_rfl) (by kernel_rfl) (fall_cons (fr_lit (vs := [(0, (.agg #[(iv x172), (iv xL3.Y0), (iv x173), (iv xL3.Y1)]))]) rfl rfl rfl (by kernel_rfl)) fall_nil) (fall_cons rfl fall_nil) (fall_cons rfl fall_nil) ?_ ?_
   ·refine Tq.mv rfl rfl ?_
    refine Tq.va rfl (fun _ _ h1 h2 => zB fo_107_2 (h1.ev rfl)) ?_
    refine Tq.va rfl (fun _ _ h1 h2 => zC ag_38 (h1.ev rfl) (rdb h2 (vs := [(iv xL3.Y0), (iv xL3.Y1), (.slice Au153_0 (xL3.Xs).length cu153_0)]) (k := 11) rfl 2) rfl) ?_
    refine Tq.mv rfl rfl ?_
    refine Tq.va rfl (fun _ _ h1 h2 => zH el_38 (h1.ev rfl) hoku153_0.form (h1.ev rfl) hx1720 hx1721) ?_
    refine Tq.va rfl (fun _ _ h1 h2 => zC ag_3 (h1.ev rfl) (rdF ef_i64 hoku153_0 hx1722 h2) rfl) ?_
    refine Tq.va rfl (fun _ _ h1 h2 => zB fo_107_0 (h1.ev rfl)) ?_
    refine Tq.va rfl (fun _ _ h1 h2 => zC ag_3 (h1.ev rfl) (rdb h2 (vs := [(iv xL3.Y0), (iv xL3.Y1), (.slice Au153_0 (xL3.Xs).length cu153_0)]) (k := 11) rfl 0) rfl) ?_
    refine Tq.va rfl (fun _ _ h1 h2 => zB fo_107_2 (h1.ev rfl)) ?_
    refine Tq.va rfl (fun _ _ h1 h2 => zC ag_38 (h1.ev rfl) (rdb h2 (vs := [(iv xL3.Y0), (iv xL3.Y1), (.slice Au153_0 (xL3.Xs).length cu153_0)]) (k := 11) rfl 2) rfl) ?_
    refine Tq.mv rfl rfl ?_
    refine Tq.va rfl (fun _ _ h1 h2 => zx (h1.ev rfl) (h1.ev rfl)) ?_
    refine Tq.va rfl (fun _ _ h1 h2 => zH el_38 (h1.ev rfl) hoku153_0.form (h1.ev rfl) hx1730 hx1731) ?_
    refine Tq.va rfl (fun _ _ h1 h2 => zC ag_3 (h1.ev rfl) (rdF ef_i64 hoku153_0 hx1732 h2) rfl) ?_
    refine Tq.va rfl (fun _ _ h1 h2 => zB fo_107_1 (h1.ev rfl)) ?_
    refine Tq.va rfl (fun _ _ h1 h2 => zC ag_3 (h1.ev rfl) (rdb h2 (vs := [(iv xL3.Y0), (iv xL3.Y1), (.slice Au153_0 (xL3.Xs).length cu153_0)]) (k := 11) rfl 1) rfl) ?_
    refine Tq.build (vs := [(0, (iv x172)), (1, (iv xL3.Y0)), (2, (iv x173)), (3, (iv xL3.Y1))]) (cs := [(iv x172), (iv xL3.Y0), (iv x173), (iv xL3.Y1)]) (wn rfl) rfl (zi rfl (zi rfl (zi rfl (zi rfl evs_nil)))) (by kernel_rfl) ?_
    refine Tq.mkFunc (vs := [(.agg #[(iv x172), (iv xL3.Y0), (iv x173), (iv xL3.Y1)])]) (wn rfl) rfl (zF rfl zO) ?_
    exact Tq.fin (.cons rfl (.cons rfl (.cons rfl (.cons rfl (.cons rfl (.cons rfl (.cons rfl (.cons rfl (.cons rfl (.cons rfl (.cons rfl (.cons rfl (.cons rfl (.cons rfl (.cons rfl (.cons rfl (.cons rfl (.cons rfl (.cons rfl (.cons rfl (.cons rfl (.cons rfl (.cons rfl (.cons rfl (.cons rfl (.cons rfl (.cons rfl (.cons rfl (.cons rfl .nil)))))))))))))))))))))))))))))
   ·intro bs171
    refine Tr.sel (lf := [(5, (.pointer (some ⟨b154, 0, none⟩))), (6, (iv x170)), (7, (.slice Ap0_0 (p0).length cp0_0)), (8, (iv (p0.length : Int))), (9, (iv (iL3 : Int))), (20, (.slice Al169 (l169).length cl169)), (37, (.slice (some ⟨(bs171 17), 0, none⟩) 1 1))]) (le := [(2, ow Al169 cl169 36 zN l169), (11, bx b154 #[(iv xL3.Y0), (iv xL3.Y1), (.slice Au153_0 (xL3.Xs).length cu153_0)] 107), (14, bx (bs171 17) #[(iv x172), (iv xL3.Y0), (iv x173), (iv xL3.Y1)] 36)]) (.cons rfl (.cons rfl (.cons rfl (.cons rfl (.cons rfl (.cons rfl (.cons rfl .nil))))))) (.cons rfl (.cons rfl (.cons rfl .nil))) ?_
    obtain ⟨l174, hl174, H⟩ := bnd H
    refine Tr.append 2 (t := zN) (l := l169) (l2 := [(zT.mk x172 xL3.Y0 x173 xL3.Y1)]) (wn rfl) rfl rfl rfl rfl (fun W hW => ⟨[[(iv x172), (iv xL3.Y0), (iv x173), (iv xL3.Y1)]], (.cons ⟨(), trivial, rfl⟩ .nil), rdb hW (vs := [(iv x172), (iv xL3.Y0), (iv x173), (iv xL3.Y1)]) (k := 14) rfl 0⟩) un_31 sz_36 zl_36 (by decide) by_36 rfl hl174 fun Al174 cl174 hAl174 => ?_
    refine Tr.asg rfl rfl ?_
    refine Tr.nil (Tr.zW (Tr.zA ?_))
    refine Tr.region ?_
    refine Tr.mv rfl rfl ?_
    refine Tr.va rfl (fun _ _ h1 h2 => zx (h1.ev rfl) (h1.ev rfl)) ?_
    refine Tr.asg rfl rfl ?_
    refine Tr.nil ?_
    exact Tr.zZ leL4 (l174, (w64 (x170 + 2)), Al174, cl174) ⟨H, hAl174⟩ (.cons rfl (.cons rfl (.cons rfl (.cons rfl (.cons rfl (.cons rfl .nil)))))) (.cons rfl (.cons rfl .nil))
  ·refine Tr.exit (Tr.zX (Tr.zX (Tr.zAC (Tr.zW (Tr.zA ?_)))))
   refine Tr.region ?_
   refine Tr.va rfl (fun _ _ h1 h2 => zx (h1.ev rfl) (h1.ev rfl)) ?_
   refine Tr.mv rfl rfl ?_
   refine Tr.nil ?_
   exact Tr.zZ leL3 (restL3, (iL3 + 1), l169, Al169, cl169) ⟨rfl, range_tl hdL3, zo hdL3, H, hl169⟩ (.cons rfl (.cons rfl (.cons rfl (.cons (congrArg (fun z => some (Value.int .i64 z)) (range_up hdL3 hp0_0.form)) .nil)))) (.cons rfl .nil)

theorem F_shape_Set__Spread_ok (N : Nat) {w : Bs} (p0 : (List zV)) (Ap0_0 : Option Addr) (cp0_0 : Nat) (hp0_0 : Sl w.R w.W zJ Ap0_0 cp0_0 p0) (p1 : Int) (p2 : Int) (p3 : Int) (p4 : Int) (r : (List zV)) (H : F_shape_Set__Spread N p0 p1 p2 p3 p4 = some r) (hE : HF w w.W (LEn [emp])) : Calls Tryz.prog 156 [(.slice Ap0_0 (p0).length cp0_0), (iv p1), (iv p2), (iv p3), (iv p4)].toArray w.W fun e W' => ∃ (w' : Bs) (u : (Option Addr × Nat)), w.Le w' ∧ e = .returned (.slice u.1 (r).length u.2) ∧ (SlF u.1 (r).length u.2) ∧ HF w' W' (LEn [ow u.1 u.2 107 zJ r]) := by
 unfold F_shape_Set__Spread at H
 have leB := Bs.Le.refl w
 refine Tr.enter (n := 46) Tryz.func156 rfl rfl rfl hE ?_
 refine Tr.sr ?_
 refine Tr.asg rfl rfl ?_
 refine Tr.nilOwn 1 107 zJ ?_
 show Tr _ _ (uf _ 10 (.slice none (([] : List zV)).length 0)) _ _
 refine Tr.nil (Tr.zA ?_)
 refine Tr.sr ?_
 refine Tr.mv rfl rfl ?_
 obtain ⟨y100, hy100, H⟩ := bnd H
 refine Tr.callM [2] [emp] (U := (Option Addr × Nat)) (fun u => (.slice u.1 (y100).length u.2)) (fun u => SlF u.1 (y100).length u.2) (fun u => [ow u.1 u.2 36 zN y100]) rfl (zM rfl zY) (fun _ => rfl) (wn rfl) rfl Tryz.call29 (zF rfl zO) (fun W hW hp hE => F_shape_Set__Rects_ok N p0 Ap0_0 cp0_0 (hp0_0.ext (hW.extS hp)) y100 hy100 hE) ?_
 intro u hu
 obtain ⟨Ay100_0, cy100_0⟩ := u
 have gy100_0 := hu
 have hgy100_0 : SlF Ay100_0 (y100).length cy100_0 := gy100_0 --@phi
 show Tr _ _ (uf _ 15 (.slice Ay100_0 (y100).length cy100_0)) (up _ 2 (ow Ay100_0 cy100_0 36 zN y100)) _
 refine Tr.asg rfl rfl ?_
 refine Tr.nil (Tr.zA ?_)
 refine Tr.seq ?_
 refine Tr.sr ?_
 refine Tr.mv rfl rfl ?_
 refine Tr.va rfl (fun _ _ h1 h2 => zq un_31 (h1.ev rfl)) ?_
 refine Tr.mv rfl rfl ?_
 refine Tr.nil (Tr.zA ?_)
 refine Tr.block ?_
 refine Tr.loop (σ := (List zT) × Int × (Option Addr) × Nat) (fun m w s => F_shape_Set__Spread_L1 N p1 p2 p3 p4 y100 m s.1 s.2.1 = some r ∧ SlF s.2.2.1 (s.1).length s.2.2.2) (fun s => [(1, (iv p1)), (2, (iv p2)), (3, (iv p3)), (4, (iv p4)), (11, (.slice s.2.2.1 (s.1).length s.2.2.2)), (16, (.slice s.2.2.1 (s.1).length s.2.2.2)), (17, (iv (y100.length : Int))), (18, (iv s.2.1))]) (fun s => [(2, ow s.2.2.1 s.2.2.2 36 zN s.1)]) N (y100, 0, Ay100_0, cy100_0) ⟨H, hgy100_0⟩ (.cons rfl (.cons rfl (.cons rfl (.cons rfl (.cons rfl (.cons rfl (.cons rfl (.cons rfl .nil)))))))) (.cons rfl .nil) (fun _ _ h => noSome (h.1)) ?_
 intro w leL1 mL1 s hs
 obtain ⟨l116, x117, Al116, cl116⟩ := s
 obtain ⟨H, hl116⟩ := hs
 replace H : F_shape_Set__Spread_L1 N p1 p2 p3 p4 y100 (mL1 + 1) l116 x117 = some r := H
 replace leB := leB.trans leL1
 replace hl116 : SlF Al116 (l116).length cl116 := hl116
 rw [F_shape_Set__Spread_L1.eq_2] at H
 show Tr _ _ (LF [(1, (iv p1)), (2, (iv p2)), (3, (iv p3)), (4, (iv p4)), (11, (.slice Al116 (l116).length cl116)), (16, (.slice Al116 (l116).length cl116)), (17, (iv (y100.length : Int))), (18, (iv x117))]) (LE [(2, ow Al116 cl116 36 zN l116)]) _
 refine Tr.sr ?_
 refine Tr.va rfl (fun _ _ h1 h2 => zz (h1.ev rfl) (h1.ev rfl)) ?_
 refine Tr.nil (Tr.zA ?_)
 refine Tr.seq ?_
 refine Tr.cond rfl H (fun H => ?_) (fun H => ?_)
 ·refine Tr.skip (Tr.zA ?_)
  refine Tr.seq ?_
  refine Tr.block ?_
  refine Tr.sr ?_
  refine Tr.mv rfl rfl ?_
  obtain ⟨x118, hx118, H⟩ := bnd H
  obtain ⟨hx1180, hx1181, hx1182⟩ := zh hx118
  refine Tr.va rfl (fun _ _ h1 h2 => zH el_31 (h1.ev rfl) hl116 (h1.ev rfl) hx1180 hx1181) ?_
  refine Tr.va rfl (fun _ _ h1 h2 => zR (cs := [(iv x118.X0), (iv x118.Y0), (iv x118.X1), (iv x118.Y1)]) ag_36 sz_36 (h1.ev rfl) (zL.take (rdo ef_TRect (k := 2) h2 rfl hx1182) 4) rfl) ?_
  refine Tr.alloc 5 (wn rfl) rfl ze_36 fun b119 => ?_
  refine Tr.asg rfl rfl ?_
  refine Tr.store 5 (cs := [(iv x118.X0), (iv x118.Y0), (iv x118.X1), (iv x118.Y1)]) [(iv x118.X0), (iv x118.Y0), (iv x118.X1), (iv x118.Y1)] (wn rfl) rfl rfl rfl rfl sz_36 rfl rfl rfl ?_
  refine Tr.nil (Tr.zA ?_)
  refine Tr.region ?_
  refine Tr.mv rfl rfl ?_
  refine Tr.mv rfl rfl ?_
  refine Tr.va rfl (fun _ _ h1 h2 => zB fo_36_0 (h1.ev rfl)) ?_
  refine Tr.va rfl (fun _ _ h1 h2 => zC ag_3 (h1.ev rfl) (rdb h2 (vs := [(iv x118.X0), (iv x118.Y0), (iv x118.X1), (iv x118.Y1)]) (k := 5) rfl 0) rfl) ?_
  refine Tr.mv rfl rfl ?_
  refine Tr.va rfl (fun _ _ h1 h2 => run_sub (h1.ev rfl) (h1.ev rfl)) ?_
  refine Tr.va rfl (fun _ _ h1 h2 => zB fo_36_1 (h1.ev rfl)) ?_
  refine Tr.va rfl (fun _ _ h1 h2 => zC ag_3 (h1.ev rfl) (rdb h2 (vs := [(iv x118.X0), (iv x118.Y0), (iv x118.X1), (iv x118.Y1)]) (k := 5) rfl 1) rfl) ?_
  refine Tr.mv rfl rfl ?_
  refine Tr.va rfl (fun _ _ h1 h2 => run_sub (h1.ev rfl) (h1.ev rfl)) ?_
  refine Tr.va rfl (fun _ _ h1 h2 => zB fo_36_2 (h1.ev rfl)) ?_
  refine Tr.va rfl (fun _ _ h1 h2 => zC ag_3 (h1.ev rfl) (rdb h2 (vs := [(iv x118.X0), (iv x118.Y0), (iv x118.X1), (iv x118.Y1)]) (k := 5) rfl 2) rfl) ?_
  refine Tr.mv rfl rfl ?_
  refine Tr.va rfl (fun _ _ h1 h2 => zx (h1.ev rfl) (h1.ev rfl)) ?_
  refine Tr.va rfl (fun _ _ h1 h2 => zB fo_36_3 (h1.ev rfl)) ?_
  refine Tr.va rfl (fun _ _ h1 h2 => zC ag_3 (h1.ev rfl) (rdb h2 (vs := [(iv x118.X0), (iv x118.Y0), (iv x118.X1), (iv x118.Y1)]) (k := 5) rfl 3) rfl) ?_
  refine Tr.mv rfl rfl ?_
  refine Tr.va rfl (fun _ _ h1 h2 => zx (h1.ev rfl) (h1.ev rfl)) ?_
  refine Tr.build (vs := [(0, (iv (w64 (x118.X0 - p1)))), (1, (iv (w64 (x118.Y0 - p3)))), (2, (iv (w64 (x118.X1 + p2)))), (3, (iv (w64 (x118.Y1 + p4))))]) (cs := [(iv (w64 (x118.X0 - p1))), (iv (w64 (x118.Y0 - p3))), (iv (w64 (x118.X1 + p2))), (iv (w64 (x118.Y1 + p4)))]) (wn rfl) rfl (zi rfl (zi rfl (zi rfl (zi rfl evs_nil)))) (by kernel_rfl) ?_
  obtain ⟨x120, hx120, H⟩ := bnd H
  obtain ⟨hx1200, hx1201, hx1202⟩ := zh hx120
  refine Tr.va rfl (fun _ _ h1 h2 => zH el_31 (h1.ev rfl) hl116 (h1.ev rfl) hx1200 hx1201) ?_
  obtain ⟨l121, hl121, H⟩ := bnd H
  have hnl121 := sets_len hl121
  refine Tr.storeEl 2 (t := zN) (l := l116) (i := x117) (fo := 0) (cs := [(iv (w64 (x118.X0 - p1))), (iv (w64 (x118.Y0 - p3))), (iv (w64 (x118.X1 + p2))), (iv (w64 (x118.Y1 + p4)))]) (zT.mk (w64 (x118.X0 - p1)) (w64 (x118.Y0 - p3)) (w64 (x118.X1 + p2)) (w64 (x118.Y1 + p4))) (wn rfl) rfl rfl rfl rfl rfl hx1202 sz_36 rfl (fun u _ => ⟨u, trivial, rfl⟩) rfl hl121 ?_
  have hfl121 : SlF Al116 (l121).length cl116 := by rw [hnl121]; exact hl116
  refine Tr.sel (lf := [(1, (iv p1)), (2, (iv p2)), (3, (iv p3)), (4, (iv p4)), (11, (.slice Al116 (l121).length cl116)), (12, (iv x117)), (13, (.pointer (some ⟨b119, 0, none⟩))), (16, (.slice Al116 (l121).length cl116)), (17, (iv (y100.length : Int))), (18, (iv x117)), (19, (.bool (decide (x117 < (y100.length : Int))))), (20, (iv x117)), (22, (.agg #[(iv x118.X0), (iv x118.Y0), (iv x118.X1), (iv x118.Y1)])), (23, (.slice Al116 (l121).length cl116)), (24, (iv x117)), (25, (.pointer (some ⟨b119, 0, none⟩))), (26, (iv x118.X0)), (27, (iv p1)), (28, (iv (w64 (x118.X0 - p1)))), (29, (.pointer (some ⟨b119, 1, none⟩))), (30, (iv x118.Y0)), (31, (iv p3)), (32, (iv (w64 (x118.Y0 - p3)))), (33, (.pointer (some ⟨b119, 2, none⟩))), (34, (iv x118.X1)), (35, (iv p2)), (36, (iv (w64 (x118.X1 + p2)))), (37, (.pointer (some ⟨b119, 3, none⟩))), (38, (iv x118.Y1)), (39, (iv p4)), (40, (iv (w64 (x118.Y1 + p4)))), (41, (.agg #[(iv (w64 (x118.X0 - p1))), (iv (w64 (x118.Y0 - p3))), (iv (w64 (x118.X1 + p2))), (iv (w64 (x118.Y1 + p4)))]))]) (le := [(2, ow Al116 cl116 36 zN l121), (5, bx b119 #[(iv x118.X0), (iv x118.Y0), (iv x118.X1), (iv x118.Y1)] 36)]) (.cons rfl (.cons rfl (.cons rfl (.cons rfl (.cons (slenV rfl (by rw [hnl121])) (.cons rfl (.cons rfl (.cons (slenV rfl (by rw [hnl121])) (.cons rfl (.cons rfl (.cons rfl (.cons rfl (.cons rfl (.cons (slenV rfl (by rw [hnl121])) (.cons rfl (.cons rfl (.cons rfl (.cons rfl (.cons rfl (.cons rfl (.cons rfl (.cons rfl (.cons rfl (.cons rfl (.cons rfl (.cons rfl (.cons rfl (.cons rfl (.cons rfl (.cons rfl (.cons rfl (.cons rfl .nil)))))))))))))))))))))))))))))))) (.cons rfl (.cons rfl .nil)) ?_
  refine Tr.nil (Tr.zW (Tr.zA ?_))
  refine Tr.region ?_
  refine Tr.va rfl (fun _ _ h1 h2 => zx (h1.ev rfl) (h1.ev rfl)) ?_
  refine Tr.mv rfl rfl ?_
  refine Tr.nil ?_
  exact Tr.zZ leL1 (l121, (w64 (x117 + 1)), Al116, cl116) ⟨H, hfl121⟩ (.cons rfl (.cons rfl (.cons rfl (.cons rfl (.cons rfl (.cons rfl (.cons rfl (.cons rfl .nil)))))))) (.cons rfl .nil)
 ·refine Tr.exit (Tr.zX (Tr.zX (Tr.zAC (Tr.zA ?_))))
  refine Tr.sr ?_
  refine Tr.mv rfl rfl ?_
  obtain ⟨y122, hy122, H⟩ := bnd H
  refine Tr.callG [6] [emp] (U := (Option Addr × Nat)) (fun u => (.slice u.1 (y122).length u.2)) (fun O W u => SlF u.1 (y122).length u.2) (fun u => [ow u.1 u.2 107 zJ y122]) rfl (zM rfl zY) (fun _ => rfl) (wn rfl) rfl Tryz.call59 (zF rfl zO) (fun W hW hp hE => F_shape_SetOf_ok N l116 Al116 cl116 (hW.slS (k := 2) rfl hp rfl) y122 hy122 hE) ?_
  intro w u le123 hu
  obtain ⟨Ay122_0, cy122_0⟩ := u
  have gy122_0 := hu
  replace leB := leB.trans le123
  replace leL1 := leL1.trans le123
  have hgy122_0 : SlF Ay122_0 (y122).length cy122_0 := gy122_0 --@phi
  show Tr _ _ (uf _ 45 (.slice Ay122_0 (y122).length cy122_0)) (up _ 6 (ow Ay122_0 cy122_0 107 zJ y122)) _
  refine Tr.asg rfl rfl ?_
  refine Tr.nil (Tr.zA ?_)
  refine Tr.ret ?_
  obtain rfl := Option.some.inj H
  exact Tr.out (m := [(.slice Ay122_0 (y122).length cy122_0)]) [] (zP rfl zQ) (fun W hW => ⟨w, (Ay122_0, cy122_0), leB, rfl, hgy122_0, hW.pick (ks := [6]) (by decide) (zM rfl zY)⟩)

theorem F_plot_swept_ok (N : Nat) {w : Bs} (p0 : (List zV)) (Ap0_0 : Option Addr) (cp0_0 : Nat) (hp0_0 : Sl w.R w.W zJ Ap0_0 cp0_0 p0) (p1 : zI) (p2 : zI) (r : (List zV)) (H : F_plot_swept N p0 p1 p2 = some r) (hE : HF w w.W (LEn [emp])) : Calls Tryz.prog 126 [(.slice Ap0_0 (p0).length cp0_0), (.agg #[(iv p1.X), (iv p1.Y)]), (.agg #[(iv p2.X), (iv p2.Y)])].toArray w.W fun e W' => ∃ (w' : Bs) (u : (Option Addr × Nat)), w.Le w' ∧ e = .returned (.slice u.1 (r).length u.2) ∧ (SlF u.1 (r).length u.2) ∧ HF w' W' (LEn [ow u.1 u.2 107 zJ r]) := by
 unfold F_plot_swept at H
 have leB := Bs.Le.refl w
 refine Tr.enter (n := 39) Tryz.func126 rfl rfl rfl hE ?_
 refine Tr.sr ?_
 refine Tr.box 1 (cs := [(iv p1.X), (iv p1.Y)]) (wn rfl) rfl rfl rfl fun b100 => ?_
 refine Tr.box 2 (cs := [(iv p2.X), (iv p2.Y)]) (wn rfl) rfl rfl rfl fun b101 => ?_
 refine Tr.asg rfl rfl ?_
 refine Tr.nilOwn 3 107 zJ ?_
 show Tr _ _ (uf _ 6 (.slice none (([] : List zV)).length 0)) _ _
 refine Tr.nil (Tr.zA ?_)
 refine Tr.seq ?_
 refine Tr.draw (by kernel_rfl) (by kernel_rfl) ?_
 refine Tq.va rfl (fun _ _ h1 h2 => zB fo_43_0 (h1.ev rfl)) ?_
 refine Tq.va rfl (fun _ _ h1 h2 => zC ag_3 (h1.ev rfl) (rdb h2 (vs := [(iv p1.X), (iv p1.Y)]) (k := 1) rfl 0) rfl) ?_
 refine Tq.va rfl (fun _ _ h1 h2 => zB fo_43_0 (h1.ev rfl)) ?_
 refine Tq.va rfl (fun _ _ h1 h2 => zC ag_3 (h1.ev rfl) (rdb h2 (vs := [(iv p2.X), (iv p2.Y)]) (k := 2) rfl 0) rfl) ?_
 refine Tq.va rfl (fun _ _ h1 h2 => run_min (h1.ev rfl) (h1.ev rfl) _) ?_
 refine Tq.va rfl (fun _ _ h1 h2 => zB fo_43_1 (h1.ev rfl)) ?_
 refine Tq.va rfl (fun _ _ h1 h2 => zC ag_3 (h1.ev rfl) (rdb h2 (vs := [(iv p1.X), (iv p1.Y)]) (k := 1) rfl 1) rfl) ?_
 refine Tq.va rfl (fun _ _ h1 h2 => zB fo_43_1 (h1.ev rfl)) ?_
 refine Tq.va rfl (fun _ _ h1 h2 => zC ag_3 (h1.ev rfl) (rdb h2 (vs := [(iv p2.X), (iv p2.Y)]) (k := 2) rfl 1) rfl) ?_
 refine Tq.va rfl (fun _ _ h1 h2 => run_min (h1.ev rfl) (h1.ev rfl) _) ?_
 refine Tq.va rfl (fun _ _ h1 h2 => zB fo_43_0 (h1.ev rfl)) ?_
 refine Tq.va rfl (fun _ _ h1 h2 => zC ag_3 (h1.ev rfl) (rdb h2 (vs := [(iv p1.X), (iv p1.Y)]) (k := 1) rfl 0) rfl) ?_
 refine Tq.va rfl (fun _ _ h1 h2 => zB fo_43_0 (h1.ev rfl)) ?_
 refine Tq.va rfl (fun _ _ h1 h2 => zC ag_3 (h1.ev rfl) (rdb h2 (vs := [(iv p2.X), (iv p2.Y)]) (k := 2) rfl 0) rfl) ?_
 refine Tq.va rfl (fun _ _ h1 h2 => run_max (h1.ev rfl) (h1.ev rfl) _) ?_
 refine Tq.va rfl (fun _ _ h1 h2 => zB fo_43_1 (h1.ev rfl)) ?_
 refine Tq.va rfl (fun _ _ h1 h2 => zC ag_3 (h1.ev rfl) (rdb h2 (vs := [(iv p1.X), (iv p1.Y)]) (k := 1) rfl 1) rfl) ?_
 refine Tq.va rfl (fun _ _ h1 h2 => zB fo_43_1 (h1.ev rfl)) ?_
 refine Tq.va rfl (fun _ _ h1 h2 => zC ag_3 (h1.ev rfl) (rdb h2 (vs := [(iv p2.X), (iv p2.Y)]) (k := 2) rfl 1) rfl) ?_
 refine Tq.va rfl (fun _ _ h1 h2 => run_max (h1.ev rfl) (h1.ev rfl) _) ?_
 refine Tq.asg rfl rfl ?_
 refine Tq.asg rfl rfl ?_
 refine Tq.asg rfl rfl ?_
 refine Tq.asg rfl rfl ?_
 refine Tq.nil (Tr.zA ?_)
 refine Tr.sr ?_
 refine Tr.mv rfl rfl ?_
 refine Tr.mv rfl rfl ?_
 refine Tr.va rfl (fun _ _ h1 h2 => run_neg (h1.ev rfl)) ?_
 refine Tr.mv rfl rfl ?_
 refine Tr.mv rfl rfl ?_
 refine Tr.va rfl (fun _ _ h1 h2 => run_neg (h1.ev rfl)) ?_
 refine Tr.mv rfl rfl ?_
 obtain ⟨y102, hy102, H⟩ := bnd H
 refine Tr.callG [4] [emp] (U := (Option Addr × Nat)) (fun u => (.slice u.1 (y102).length u.2)) (fun O W u => SlF u.1 (y102).length u.2) (fun u => [ow u.1 u.2 107 zJ y102]) rfl (zM rfl zY) (fun _ => rfl) (wn rfl) rfl Tryz.call156 (zF rfl (zF rfl (zF rfl (zF rfl (zF rfl zO))))) (fun W hW hp hE => F_shape_Set__Spread_ok N p0 Ap0_0 cp0_0 (hp0_0.ext (hW.extS hp)) (w64 (0 - (min p1.X p2.X))) (max p1.X p2.X) (w64 (0 - (min p1.Y p2.Y))) (max p1.Y p2.Y) y102 hy102 hE) ?_
 intro w u le103 hu
 obtain ⟨Ay102_0, cy102_0⟩ := u
 have gy102_0 := hu
 replace hp0_0 := hp0_0.leR le103
 replace leB := leB.trans le103
 have hgy102_0 : SlF Ay102_0 (y102).length cy102_0 := gy102_0 --@phi
 show Tr _ _ (uf _ 38 (.slice Ay102_0 (y102).length cy102_0)) (up _ 4 (ow Ay102_0 cy102_0 107 zJ y102)) _
 refine Tr.asg rfl rfl ?_
 refine Tr.nil (Tr.zA ?_)
 refine Tr.ret ?_
 obtain rfl := Option.some.inj H
 exact Tr.out (m := [(.slice Ay102_0 (y102).length cy102_0)]) [] (zP rfl zQ) (fun W hW => ⟨w, (Ay102_0, cy102_0), leB, rfl, hgy102_0, hW.pick (ks := [4]) (by decide) (zM rfl zY)⟩)

theorem F_shape_Set__Around_ok {w : Bs} (p0 : (List zV)) (Ap0_0 : Option Addr) (cp0_0 : Nat) (hp0_0 : Sl w.R w.W zJ Ap0_0 cp0_0 p0) (r : zT) (H : F_shape_Set__Around p0 = some r) (hE : HF w w.W E0) : Calls Tryz.prog 170 [(.slice Ap0_0 (p0).length cp0_0)].toArray w.W fun e W' => e = .returned (.agg #[(iv r.X0), (iv r.Y0), (iv r.X1), (iv r.Y1)]) ∧ HF w W' E0 := by
 unfold F_shape_Set__Around at H
 have leB := Bs.Le.refl w
 refine Tr.enter (n := 58) Tryz.func170 rfl rfl rfl hE ?_
 refine Tr.sr ?_
 refine Tr.alloc 1 (wn rfl) rfl ze_36 fun b100 => ?_
 refine Tr.nil (Tr.zA ?_)
 refine Tr.seq ?_
 obtain ⟨x102, hx102, H⟩ := bnd H
 obtain ⟨hx1020, hx1021, hx1022⟩ := zh hx102
 obtain ⟨u103, hRu103, hoku103, hcu103⟩ := (hp0_0).el hx1022
 obtain ⟨Au103_0, cu103_0⟩ := u103
 obtain ⟨x104, hx104, H⟩ := bnd H
 obtain ⟨hx1040, hx1041, hx1042⟩ := zh hx104
 obtain ⟨x105, hx105, H⟩ := bnd H
 obtain ⟨hx1050, hx1051, hx1052⟩ := zh hx105
 obtain ⟨u106, hRu106, hoku106, hcu106⟩ := (hp0_0).el hx1052
 obtain ⟨Au106_0, cu106_0⟩ := u106
 obtain ⟨x107, hx107, H⟩ := bnd H
 obtain ⟨hx1070, hx1071, hx1072⟩ := zh hx107
 obtain ⟨u108, hRu108, hoku108, hcu108⟩ := (hp0_0).el hx1072
 obtain ⟨Au108_0, cu108_0⟩ := u108
 obtain ⟨x109, hx109, H⟩ := bnd H
 obtain ⟨hx1090, hx1091, hx1092⟩ := zh hx109
 obtain ⟨x110, hx110, H⟩ := bnd H
 obtain ⟨hx1100, hx1101, hx1102⟩ := zh hx110
 obtain ⟨u111, hRu111, hoku111, hcu111⟩ := (hp0_0).el hx1102
 obtain ⟨Au111_0, cu111_0⟩ := u111
 refine Tr.drawF 25 [(24, .makeFunc (.func 0) #[] #[])] [(24, ⟨3, 2, (.func (.func 0) #[] #[]), fun b => .pointer (some ⟨b, 0, none⟩), fun b => bx b #[(iv 0), (iv 0), (iv 0), (iv 0)] 36⟩)] [(0, (.slice Ap0_0 (p0).length cp0_0)), (2, (.pointer (some ⟨b100, 0, none⟩))), (3, (.func (.func 0) #[] #[])), (6, (.slice Ap0_0 (p0).length cp0_0)), (7, (.pointer (some ⟨adB Ap0_0, adO Ap0_0 + ((0 : Int)).toNat * 3, none⟩))), (8, (.pointer (some ⟨adB Ap0_0, adO Ap0_0 + ((0 : Int)).toNat * 3 + 2, none⟩))), (9, (.slice Au103_0 (x102.Xs).length cu103_0)), (10, (.pointer (some ⟨adB Au103_0, adO Au103_0 + ((0 : Int)).toNat * 1, none⟩))), (11, (iv x104)), (12, (.slice Ap0_0 (p0).length cp0_0)), (13, (.pointer (some ⟨adB Ap0_0, adO Ap0_0 + ((0 : Int)).toNat * 3, none⟩))), (14, (.pointer (some ⟨adB Ap0_0, adO Ap0_0 + ((0 : Int)).toNat * 3 + 0, none⟩))), (15, (iv x105.Y0)), (16, (.slice Ap0_0 (p0).length cp0_0)), (17, (.pointer (some ⟨adB Ap0_0, adO Ap0_0 + ((0 : Int)).toNat * 3, none⟩))), (18, (.pointer (some ⟨adB Ap0_0, adO Ap0_0 + ((0 : Int)).toNat * 3 + 2, none⟩))), (19, (.slice Au108_0 (x107.Xs).length cu108_0)), (20, (.pointer (some ⟨adB Au108_0, adO Au108_0 + ((1 : Int)).toNat * 1, none⟩))), (21, (iv x109)), (22, (.slice Ap0_0 (p0).length cp0_0)), (23, (.slice Ap0_0 (p0).length cp0_0)), (24, (iv (p0.length : Int))), (25, (iv (w64 ((p0.length : Int) - 1)))), (26, (.pointer (some ⟨adB Ap0_0, adO Ap0_0 + ((w64 ((p0.length : Int) - 1))).toNat * 3, none⟩))), (27, (.pointer (some ⟨adB Ap0_0, adO Ap0_0 + ((w64 ((p0.length : Int) - 1))).toNat * 3 + 1, none⟩))), (28, (iv x110.Y1)), (29, (.agg #[(iv x104), (iv x105.Y0), (iv x109), (iv x110.Y1)]))] (by kernel_rfl) (by kernel_rfl) (by kernel_rfl) (by kernel_rfl) (by kernel_rfl) (by kernel_rfl) (by kernel_rfl) (fall_cons (fr_alloc rfl rfl ze_36) fall_nil) (fall_cons rfl fall_nil) (fall_cons rfl fall_nil) ?_ ?_
 ·refine Tq.mv rfl rfl ?_
  have hoku103_0 := hoku103
  replace hoku103_0 : Sl w.R w.W zn Au103_0 cu103_0 x102.Xs := hoku103_0
  refine Tq.va rfl (fun _ _ h1 h2 => zH el_66 (h1.ev rfl) hp0_0.form (h1.ev rfl) hx1020 hx1021) ?_
  refine Tq.va rfl (fun _ _ h1 h2 => zB fo_107_2 (h1.ev rfl)) ?_
  refine Tq.va rfl (fun _ _ h1 h2 => zC ag_38 (h1.ev rfl) (zL.drop (rdR hRu103 hcu103 h2) 2) rfl) ?_
  refine Tq.va rfl (fun _ _ h1 h2 => zH el_38 (h1.ev rfl) hoku103_0.form (h1.ev rfl) hx1040 hx1041) ?_
  refine Tq.va rfl (fun _ _ h1 h2 => zC ag_3 (h1.ev rfl) (rdF ef_i64 hoku103_0 hx1042 h2) rfl) ?_
  refine Tq.mv rfl rfl ?_
  have hoku106_0 := hoku106
  replace hoku106_0 : Sl w.R w.W zn Au106_0 cu106_0 x105.Xs := hoku106_0
  refine Tq.va rfl (fun _ _ h1 h2 => zH el_66 (h1.ev rfl) hp0_0.form (h1.ev rfl) hx1050 hx1051) ?_
  refine Tq.va rfl (fun _ _ h1 h2 => zB fo_107_0 (h1.ev rfl)) ?_
  refine Tq.va rfl (fun _ _ h1 h2 => zC ag_3 (h1.ev rfl) (zL.drop (rdR hRu106 hcu106 h2) 0) rfl) ?_
  refine Tq.mv rfl rfl ?_
  have hoku108_0 := hoku108
  replace hoku108_0 : Sl w.R w.W zn Au108_0 cu108_0 x107.Xs := hoku108_0
  refine Tq.va rfl (fun _ _ h1 h2 => zH el_66 (h1.ev rfl) hp0_0.form (h1.ev rfl) hx1070 hx1071) ?_
  refine Tq.va rfl (fun _ _ h1 h2 => zB fo_107_2 (h1.ev rfl)) ?_
  refine Tq.va rfl (fun _ _ h1 h2 => zC ag_38 (h1.ev rfl) (zL.drop (rdR hRu108 hcu108 h2) 2) rfl) ?_
  refine Tq.va rfl (fun _ _ h1 h2 => zH el_38 (h1.ev rfl) hoku108_0.form (h1.ev rfl) hx1090 hx1091) ?_
  refine Tq.va rfl (fun _ _ h1 h2 => zC ag_3 (h1.ev rfl) (rdF ef_i64 hoku108_0 hx1092 h2) rfl) ?_
  refine Tq.mv rfl rfl ?_
  refine Tq.mv rfl rfl ?_
  refine Tq.va rfl (fun _ _ h1 h2 => zq un_66 (h1.ev rfl)) ?_
  refine Tq.va rfl (fun _ _ h1 h2 => run_sub (h1.ev rfl) (h1.ev rfl)) ?_
  have hoku111_0 := hoku111
  replace hoku111_0 : Sl w.R w.W zn Au111_0 cu111_0 x110.Xs := hoku111_0
  refine Tq.va rfl (fun _ _ h1 h2 => zH el_66 (h1.ev rfl) hp0_0.form (h1.ev rfl) hx1100 hx1101) ?_
  refine Tq.va rfl (fun _ _ h1 h2 => zB fo_107_1 (h1.ev rfl)) ?_
  refine Tq.va rfl (fun _ _ h1 h2 => zC ag_3 (h1.ev rfl) (zL.drop (rdR hRu111 hcu111 h2) 1) rfl) ?_
  refine Tq.build (vs := [(0, (iv x104)), (1, (iv x105.Y0)), (2, (iv x109)), (3, (iv x110.Y1))]) (cs := [(iv x104), (iv x105.Y0), (iv x109), (iv x110.Y1)]) (wn rfl) rfl (zi rfl (zi rfl (zi rfl (zi rfl evs_nil)))) (by kernel_rfl) ?_
  refine Tq.mkFunc (vs := []) (wn rfl) rfl zO ?_
  exact Tq.fin (.cons rfl (.cons rfl (.cons rfl (.cons rfl (.cons rfl (.cons rfl (.cons rfl (.cons rfl (.cons rfl (.cons rfl (.cons rfl (.cons rfl (.cons rfl (.cons rfl (.cons rfl (.cons rfl (.cons rfl (.cons rfl (.cons rfl (.cons rfl (.cons rfl (.cons rfl (.cons rfl (.cons rfl (.cons rfl (.cons rfl (.cons rfl .nil)))))))))))))))))))))))))))
 ·intro bs101
  refine Tr.sel (lf := [(0, (.slice Ap0_0 (p0).length cp0_0)), (2, (.pointer (some ⟨b100, 0, none⟩))), (3, (.pointer (some ⟨(bs101 24), 0, none⟩))), (29, (.agg #[(iv x104), (iv x105.Y0), (iv x109), (iv x110.Y1)]))]) (le := [(1, bx b100 #[(iv 0), (iv 0), (iv 0), (iv 0)] 36), (2, bx (bs101 24) #[(iv 0), (iv 0), (iv 0), (iv 0)] 36)]) (.cons rfl (.cons rfl (.cons rfl (.cons rfl .nil)))) (.cons rfl (.cons rfl .nil)) ?_
  refine Tr.store 2 (cs := [(iv x104), (iv x105.Y0), (iv x109), (iv x110.Y1)]) [(iv x104), (iv x105.Y0), (iv x109), (iv x110.Y1)] (wn rfl) rfl rfl rfl rfl sz_36 rfl rfl rfl ?_
  refine Tr.nil (Tr.zA ?_)
  refine Tr.seq ?_
  refine Tr.sr ?_
  refine Tr.mv rfl rfl ?_
  refine Tr.va rfl (fun _ _ h1 h2 => zq un_66 (h1.ev rfl)) ?_
  refine Tr.mv rfl rfl ?_
  refine Tr.nil (Tr.zA ?_)
  refine Tr.block ?_
  refine Tr.loop (σ := (List zV) × Nat × Int × Int) (fun m w s => m = s.1.length + 1 ∧ s.1 = List.drop s.2.1 p0 ∧ s.2.1 ≤ p0.length ∧ F_shape_Set__Around_L1 x105 x110 s.1 s.2.1 s.2.2.1 s.2.2.2 = some r) (fun s => [(2, (.pointer (some ⟨b100, 0, none⟩))), (3, (.pointer (some ⟨(bs101 24), 0, none⟩))), (30, (.slice Ap0_0 (p0).length cp0_0)), (31, (iv (p0.length : Int))), (32, (iv (s.2.1 : Int)))]) (fun s => [(1, bx b100 #[(iv 0), (iv 0), (iv 0), (iv 0)] 36), (2, bx (bs101 24) #[(iv s.2.2.1), (iv x105.Y0), (iv s.2.2.2), (iv x110.Y1)] 36)]) (p0.length + 1) (p0, 0, x104, x109) ⟨rfl, rfl, Nat.zero_le _, H⟩ (.cons rfl (.cons rfl (.cons rfl (.cons rfl (.cons rfl .nil))))) (.cons rfl (.cons rfl .nil)) (fun _ _ h => absurd h.1 (by simp)) ?_
  intro w leL1 m s hs
  obtain ⟨restL1, iL1, x133, x134⟩ := s
  obtain ⟨hmL1, hdL1, hiL1, H⟩ := hs
  replace hdL1 : restL1 = List.drop iL1 p0 := hdL1
  replace H : F_shape_Set__Around_L1 x105 x110 restL1 iL1 x133 x134 = some r := H
  replace hmL1 : m + 1 = restL1.length + 1 := hmL1
  replace hp0_0 := hp0_0.leR leL1
  replace leB := leB.trans leL1
  obtain rfl : m = restL1.length := by omega
  clear hmL1
  show Tr _ _ (LF [(2, (.pointer (some ⟨b100, 0, none⟩))), (3, (.pointer (some ⟨(bs101 24), 0, none⟩))), (30, (.slice Ap0_0 (p0).length cp0_0)), (31, (iv (p0.length : Int))), (32, (iv (iL1 : Int)))]) (LE [(1, bx b100 #[(iv 0), (iv 0), (iv 0), (iv 0)] 36), (2, bx (bs101 24) #[(iv x133), (iv x105.Y0), (iv x134), (iv x110.Y1)] 36)]) _
  cases restL1 with
  | nil =>
   rw [F_shape_Set__Around_L1.eq_1] at H
   refine Tr.sr ?_
   refine Tr.va rfl (fun _ _ h1 h2 => zz (h1.ev rfl) (h1.ev rfl)) ?_
   refine Tr.nil (Tr.zA ?_)
   refine Tr.seq ?_
   refine Tr.condF rfl (range_nil hdL1) ?_
   refine Tr.exit (Tr.zX (Tr.zX (Tr.zAC (Tr.zA ?_))))
   refine Tr.sr ?_
   refine Tr.va rfl (fun _ _ h1 h2 => zR (cs := [(iv x133), (iv x105.Y0), (iv x134), (iv x110.Y1)]) ag_36 sz_36 (h1.ev rfl) (zL.take (rdb h2 (vs := [(iv x133), (iv x105.Y0), (iv x134), (iv x110.Y1)]) (k := 2) rfl 0) 4) rfl) ?_
   refine Tr.store 1 (cs := [(iv x133), (iv x105.Y0), (iv x134), (iv x110.Y1)]) [(iv x133), (iv x105.Y0), (iv x134), (iv x110.Y1)] (wn rfl) rfl rfl rfl rfl sz_36 rfl rfl rfl ?_
   refine Tr.nil (Tr.zA ?_)
   refine Tr.ret ?_
   obtain rfl := Option.some.inj H
   exact Tr.out (m := [(.agg #[(iv x133), (iv x105.Y0), (iv x134), (iv x110.Y1)])]) [1] (res_cell rfl rfl ag_36 sz_36 zQ) (fun W hW => ⟨rfl, hW.low leB⟩)
  | cons xL1 restL1 =>
   rw [F_shape_Set__Around_L1.eq_2] at H
   refine Tr.sr ?_
   refine Tr.va rfl (fun _ _ h1 h2 => zz (h1.ev rfl) (h1.ev rfl)) ?_
   refine Tr.nil (Tr.zA ?_)
   refine Tr.seq ?_
   refine Tr.condT rfl (range_on hdL1) ?_
   refine Tr.skip (Tr.zA ?_)
   refine Tr.seq ?_
   refine Tr.block ?_
   refine Tr.sr ?_
   obtain ⟨u135, hRu135, hoku135, hcu135⟩ := (hp0_0).el (range_at hdL1)
   obtain ⟨Au135_0, cu135_0⟩ := u135
   have hoku135_0 := hoku135
   replace hoku135_0 : Sl w.R w.W zn Au135_0 cu135_0 xL1.Xs := hoku135_0
   refine Tr.va rfl (fun _ _ h1 h2 => zH el_66 (h1.ev rfl) hp0_0.form (h1.ev rfl) (Int.natCast_nonneg _) (zo hdL1)) ?_
   refine Tr.va rfl (fun _ _ h1 h2 => zR (cs := [(iv xL1.Y0), (iv xL1.Y1), (.slice Au135_0 (xL1.Xs).length cu135_0)]) ag_107 sz_107 (h1.ev rfl) (zL.take (rdR hRu135 hcu135 h2) 3) rfl) ?_
   refine Tr.alloc 5 (wn rfl) rfl ze_107 fun b136 => ?_
   refine Tr.store 5 (cs := [(iv xL1.Y0), (iv xL1.Y1), (.slice Au135_0 (xL1.Xs).length cu135_0)]) [(iv xL1.Y0), (iv xL1.Y1), (.slice Au135_0 (xL1.Xs).length cu135_0)] (wn rfl) rfl rfl rfl rfl sz_107 rfl rfl rfl ?_
   refine Tr.nil (Tr.zA ?_)
   refine Tr.drawC 20 [(19, fun x => x = (bs101 24))] [] (by kernel_rfl) (by kernel_rfl) fun sz137 hlosz137 hEsz137 => ?_
   refine Dr.quiet 0 [(36, (.pointer (some ⟨(bs101 24), 0, none⟩)))] (by kernel_rfl) rfl rfl (by kernel_rfl) ?_ rfl rfl ?_
   ·refine Tq.va rfl (fun _ _ h1 h2 => zB fo_36_0 (h1.ev rfl)) ?_
    exact Tq.fin (.cons rfl .nil)
   refine Dr.quiet 1 [(37, (iv x133))] (by kernel_rfl) rfl rfl (by kernel_rfl) ?_ rfl rfl ?_
   ·refine Tq.va rfl (fun _ _ h1 h2 => zC ag_3 (h1.ev rfl) (rdb h2 (vs := [(iv x133), (iv x105.Y0), (iv x134), (iv x110.Y1)]) (k := 2) rfl 0) rfl) ?_
    exact Tq.fin (.cons rfl .nil)
   refine Dr.quiet 2 [(38, (.pointer (some ⟨b136, 2, none⟩)))] (by kernel_rfl) rfl rfl (by kernel_rfl) ?_ rfl rfl ?_
   ·refine Tq.va rfl (fun _ _ h1 h2 => zB fo_107_2 (h1.ev rfl)) ?_
    exact Tq.fin (.cons rfl .nil)
   refine Dr.quiet 3 [(39, (.slice Au135_0 (xL1.Xs).length cu135_0))] (by kernel_rfl) rfl rfl (by kernel_rfl) ?_ rfl rfl ?_
   ·refine Tq.va rfl (fun _ _ h1 h2 => zC ag_38 (h1.ev rfl) (rdb h2 (vs := [(iv xL1.Y0), (iv xL1.Y1), (.slice Au135_0 (xL1.Xs).length cu135_0)]) (k := 5) rfl 2) rfl) ?_
    exact Tq.fin (.cons rfl .nil)
   obtain ⟨x138, hx138, H⟩ := bnd H
   obtain ⟨hx1380, hx1381, hx1382⟩ := zh hx138
   refine Dr.quiet 4 [(40, (.pointer (some ⟨adB Au135_0, adO Au135_0 + ((0 : Int)).toNat * 1, none⟩)))] (by kernel_rfl) rfl rfl (by kernel_rfl) ?_ rfl rfl ?_
   ·refine Tq.va rfl (fun _ _ h1 h2 => zH el_38 (h1.ev rfl) hoku135_0.form (h1.ev rfl) hx1380 hx1381) ?_
    exact Tq.fin (.cons rfl .nil)
   refine Dr.quiet 5 [(41, (iv x138))] (by kernel_rfl) rfl rfl (by kernel_rfl) ?_ rfl rfl ?_
   ·refine Tq.va rfl (fun _ _ h1 h2 => zC ag_3 (h1.ev rfl) (rdF ef_i64 hoku135_0 hx1382 h2) rfl) ?_
    exact Tq.fin (.cons rfl .nil)
   refine Dr.quiet 6 [(42, (iv (min x133 x138)))] (by kernel_rfl) rfl rfl (by kernel_rfl) ?_ rfl rfl ?_
   ·refine Tq.va rfl (fun _ _ h1 h2 => run_min (h1.ev rfl) (h1.ev rfl) _) ?_
    exact Tq.fin (.cons rfl .nil)
   refine Dr.quiet 7 [(43, (.pointer (some ⟨(bs101 24), 2, none⟩)))] (by kernel_rfl) rfl rfl (by kernel_rfl) ?_ rfl rfl ?_
   ·refine Tq.va rfl (fun _ _ h1 h2 => zB fo_36_2 (h1.ev rfl)) ?_
    exact Tq.fin (.cons rfl .nil)
   refine Dr.quiet 8 [(44, (iv x134))] (by kernel_rfl) rfl rfl (by kernel_rfl) ?_ rfl rfl ?_
   ·refine Tq.va rfl (fun _ _ h1 h2 => zC ag_3 (h1.ev rfl) (rdb h2 (vs := [(iv x133), (iv x105.Y0), (iv x134), (iv x110.Y1)]) (k := 2) rfl 2) rfl) ?_
    exact Tq.fin (.cons rfl .nil)
   refine Dr.quietP 9 (by kernel_rfl) rfl (wn rfl) rfl (by kernel_rfl) (fun _ _ h1 => zB fo_107_2 (h1.ev rfl)) rfl ?_
   refine Dr.quietZ 10 [(46, (.slice Au135_0 (xL1.Xs).length cu135_0))] [19] false (by kernel_rfl) rfl rfl (by kernel_rfl) (fun W W' h2 hsW hk => HF.keepZ (le := [(5, bx b136 #[(iv xL1.Y0), (iv xL1.Y1), (.slice Au135_0 (xL1.Xs).length cu135_0)] 107)]) (ks := [(2, fun x => x = (bs101 24))]) (s0 := sz137) false h2 hk (fun h => absurd h (by decide)) (.cons rfl .nil) (fun b hb => hb.elim (fun ⟨p, hp, hf, hb⟩ => by simp only [List.mem_cons, List.not_mem_nil, or_false] at hp; rcases hp with rfl; exact .inl ⟨_, List.mem_cons_self, hb⟩) (fun hb => absurd hb.1 (by decide))) (List.forall_mem_cons.2 ⟨fun b hb => hb, (fun _ h => nomatch h)⟩) rfl) ?_ rfl rfl ?_
   ·refine Tq.va rfl (fun _ _ h1 h2 => zC ag_38 (h1.ev rfl) (rdb h2 (vs := [(iv xL1.Y0), (iv xL1.Y1), (.slice Au135_0 (xL1.Xs).length cu135_0)]) (k := 5) rfl 2) rfl) ?_
    exact Tq.fin (.cons rfl .nil)
   refine Dr.quietP 11 (by kernel_rfl) rfl (wn rfl) rfl (by kernel_rfl) (fun _ _ h1 => zB fo_107_2 (h1.ev rfl)) rfl ?_
   refine Dr.quietZ 12 [(48, (.slice Au135_0 (xL1.Xs).length cu135_0))] [19] false (by kernel_rfl) rfl rfl (by kernel_rfl) (fun W W' h2 hsW hk => HF.keepZ (le := [(5, bx b136 #[(iv xL1.Y0), (iv xL1.Y1), (.slice Au135_0 (xL1.Xs).length cu135_0)] 107)]) (ks := [(2, fun x => x = (bs101 24))]) (s0 := sz137) false h2 hk (fun h => absurd h (by decide)) (.cons rfl .nil) (fun b hb => hb.elim (fun ⟨p, hp, hf, hb⟩ => by simp only [List.mem_cons, List.not_mem_nil, or_false] at hp; rcases hp with rfl; exact .inl ⟨_, List.mem_cons_self, hb⟩) (fun hb => absurd hb.1 (by decide))) (List.forall_mem_cons.2 ⟨fun b hb => hb, (fun _ h => nomatch h)⟩) rfl) ?_ rfl rfl ?_
   ·refine Tq.va rfl (fun _ _ h1 h2 => zC ag_38 (h1.ev rfl) (rdb h2 (vs := [(iv xL1.Y0), (iv xL1.Y1), (.slice Au135_0 (xL1.Xs).length cu135_0)]) (k := 5) rfl 2) rfl) ?_
    exact Tq.fin (.cons rfl .nil)
   refine Dr.quietP 13 (by kernel_rfl) rfl (wn rfl) rfl (by kernel_rfl) (fun _ _ h1 => zq un_38 (h1.ev rfl)) rfl ?_
   refine Dr.quietP 14 (by kernel_rfl) rfl (wn rfl) rfl (by kernel_rfl) (fun _ _ h1 => run_sub (h1.ev rfl) (h1.ev rfl)) rfl ?_
   obtain ⟨x139, hx139, H⟩ := bnd H
   obtain ⟨hx1390, hx1391, hx1392⟩ := zh hx139
   refine Dr.quietP 15 (by kernel_rfl) rfl (wn rfl) rfl (by kernel_rfl) (fun _ _ h1 => zH el_38 (h1.ev rfl) hoku135_0.form (h1.ev rfl) hx1390 hx1391) rfl ?_
   refine Dr.quietZ 16 [(52, (iv x139))] [19] false (by kernel_rfl) rfl rfl (by kernel_rfl) (fun W W' h2 hsW hk => HF.keepZ (le := []) (ks := [(2, fun x => x = (bs101 24))]) (s0 := sz137) false h2 hk (fun h => absurd h (by decide)) .nil (fun b hb => hb.elim (fun ⟨p, hp, hf, hb⟩ => by simp only [List.mem_cons, List.not_mem_nil, or_false] at hp; rcases hp with rfl; exact .inl ⟨_, List.mem_cons_self, hb⟩) (fun hb => absurd hb.1 (by decide))) (List.forall_mem_cons.2 ⟨fun b hb => hb, (fun _ h => nomatch h)⟩) rfl) ?_ rfl rfl ?_
   ·refine Tq.va rfl (fun _ _ h1 h2 => zC ag_3 (h1.ev rfl) (rdF ef_i64 hoku135_0 hx1392 h2) rfl) ?_
    exact Tq.fin (.cons rfl .nil)
   refine Dr.quietP 17 (by kernel_rfl) rfl (wn rfl) rfl (by kernel_rfl) (fun _ _ h1 => run_max (h1.ev rfl) (h1.ev rfl) _) rfl ?_
   refine Dr.quiet 18 [(54, (.pointer (some ⟨(bs101 24), 0, none⟩)))] (by kernel_rfl) rfl rfl (by kernel_rfl) ?_ rfl rfl ?_
   ·refine Tq.va rfl (fun _ _ h1 h2 => zB fo_36_0 (h1.ev rfl)) ?_
    exact Tq.fin (.cons rfl .nil)
   refine Dr.one 19 (by kernel_rfl) ?_
   refine St.store 19 2 (cs := [(iv (min x133 x138))]) [(iv (min x133 x138)), (iv x105.Y0), (iv x134), (iv x110.Y1)] rfl (wn rfl) (.inl ⟨_, List.mem_cons_self, rfl, rfl⟩) rfl rfl rfl rfl sz_3 rfl rfl rfl ?_
   refine Dr.tail (by kernel_rfl) ?_
   refine Tr.va rfl (fun _ _ h1 h2 => zB fo_36_2 (h1.ev rfl)) ?_
   refine Tr.store 2 (cs := [(iv (max x134 x139))]) [(iv (min x133 x138)), (iv x105.Y0), (iv (max x134 x139)), (iv x110.Y1)] (wn rfl) rfl rfl rfl rfl sz_3 rfl rfl rfl ?_
   refine Tr.nil (Tr.zW (Tr.zA ?_))
   refine Tr.region ?_
   refine Tr.va rfl (fun _ _ h1 h2 => zx (h1.ev rfl) (h1.ev rfl)) ?_
   refine Tr.mv rfl rfl ?_
   refine Tr.nil ?_
   exact Tr.zZ leL1 (restL1, (iL1 + 1), (min x133 x138), (max x134 x139)) ⟨rfl, range_tl hdL1, zo hdL1, H⟩ (.cons rfl (.cons rfl (.cons rfl (.cons rfl (.cons (congrArg (fun z => some (Value.int .i64 z)) (range_up hdL1 hp0_0.form)) .nil))))) (.cons rfl (.cons rfl .nil))

theorem F_shape_isRect_ok {w : Bs} (p0 : zT) (r : Bool) (H : F_shape_isRect p0 = some r) (hE : HF w w.W E0) : Calls Tryz.prog 108 [(.agg #[(iv p0.X0), (iv p0.Y0), (iv p0.X1), (iv p0.Y1)])].toArray w.W fun e W' => e = .returned (.bool r) ∧ HF w W' E0 := by
 unfold F_shape_isRect at H
 have leB := Bs.Le.refl w
 refine Tr.enter (n := 21) Tryz.func108 rfl rfl rfl hE ?_
 refine Tr.sr ?_
 refine Tr.box 1 (cs := [(iv p0.X0), (iv p0.Y0), (iv p0.X1), (iv p0.Y1)]) (wn rfl) rfl rfl rfl fun b100 => ?_
 refine Tr.asg rfl rfl ?_
 refine Tr.nil (Tr.zA ?_)
 refine Tr.sr ?_
 refine Tr.va rfl (fun _ _ h1 h2 => zB fo_36_0 (h1.ev rfl)) ?_
 refine Tr.va rfl (fun _ _ h1 h2 => zC ag_3 (h1.ev rfl) (rdb h2 (vs := [(iv p0.X0), (iv p0.Y0), (iv p0.X1), (iv p0.Y1)]) (k := 1) rfl 0) rfl) ?_
 obtain ⟨y101, hy101, H⟩ := bnd H
 refine Tr.call0 (r := (.bool y101)) (wn rfl) rfl Tryz.call129 (zF rfl zO) (fun W hW => F_shape_IsAt_ok p0.X0 y101 hy101 (HF.start _)) ?_
 refine Tr.mv rfl rfl ?_
 obtain ⟨g103, hg103, H⟩ := bnd H
 refine Tr.mid0 4 [(1, (.pointer (some ⟨b100, 0, none⟩))), (10, (.bool g103))] [(1, bx b100 #[(iv p0.X0), (iv p0.Y0), (iv p0.X1), (iv p0.Y1)] 36)] ?_ ?_
 ·cases hg110 : y101
  ·rw [hg110] at hg103
   rw [if_neg (by decide)] at hg103
   have H := hg103
   obtain rfl := Option.some.inj H
   refine Tr.pass rfl rfl rfl rfl rfl (by decide) ?_
   refine Tr.pass rfl rfl rfl rfl rfl (by decide) ?_
   refine Tr.pass rfl rfl rfl rfl rfl (by decide) ?_
   refine Tr.va rfl (fun _ _ h1 h2 => zf (h1.ev rfl) (h1.ev rfl)) ?_
   exact Tr.nil (Tr.fin0 (.cons rfl (.cons rfl .nil)) (.cons rfl .nil))
  ·rw [hg110] at hg103
   rw [if_pos rfl] at hg103
   have H := hg103
   refine Tr.val (wg rfl rfl rfl) rfl (fun _ _ h1 h2 => zB fo_36_1 (h1.ev rfl)) ?_
   refine Tr.val (wg rfl rfl rfl) rfl (fun _ _ h1 h2 => zC ag_3 (h1.ev rfl) (rdb h2 (vs := [(iv p0.X0), (iv p0.Y0), (iv p0.X1), (iv p0.Y1)]) (k := 1) rfl 1) rfl) ?_
   obtain ⟨y104, hy104, H⟩ := bnd H
   refine Tr.call0 (r := (.bool y104)) (wg rfl rfl rfl) rfl Tryz.call129 (zF rfl zO) (fun W hW => F_shape_IsAt_ok p0.Y0 y104 hy104 (HF.start _)) ?_
   refine Tr.va rfl (fun _ _ h1 h2 => ze (h1.ev rfl) (h1.ev rfl)) ?_
   obtain rfl := Option.some.inj H
   exact Tr.nil (Tr.fin0 (.cons rfl (.cons rfl .nil)) (.cons rfl .nil))
 ·show Tr _ _ (LF [(1, (.pointer (some ⟨b100, 0, none⟩))), (10, (.bool g103))]) (LE [(1, bx b100 #[(iv p0.X0), (iv p0.Y0), (iv p0.X1), (iv p0.Y1)] 36)]) _
  refine Tr.mv rfl rfl ?_
  obtain ⟨g106, hg106, H⟩ := bnd H
  refine Tr.mid0 4 [(1, (.pointer (some ⟨b100, 0, none⟩))), (15, (.bool g106))] [(1, bx b100 #[(iv p0.X0), (iv p0.Y0), (iv p0.X1), (iv p0.Y1)] 36)] ?_ ?_
  ·cases hg110 : g103
   ·rw [hg110] at hg106
    rw [if_neg (by decide)] at hg106
    have H := hg106
    obtain rfl := Option.some.inj H
    refine Tr.pass rfl rfl rfl rfl rfl (by decide) ?_
    refine Tr.pass rfl rfl rfl rfl rfl (by decide) ?_
    refine Tr.pass rfl rfl rfl rfl rfl (by decide) ?_
    refine Tr.va rfl (fun _ _ h1 h2 => zf (h1.ev rfl) (h1.ev rfl)) ?_
    exact Tr.nil (Tr.fin0 (.cons rfl (.cons rfl .nil)) (.cons rfl .nil))
   ·rw [hg110] at hg106
    rw [if_pos rfl] at hg106
    have H := hg106
    refine Tr.val (wg rfl rfl rfl) rfl (fun _ _ h1 h2 => zB fo_36_2 (h1.ev rfl)) ?_
    refine Tr.val (wg rfl rfl rfl) rfl (fun _ _ h1 h2 => zC ag_3 (h1.ev rfl) (rdb h2 (vs := [(iv p0.X0), (iv p0.Y0), (iv p0.X1), (iv p0.Y1)]) (k := 1) rfl 2) rfl) ?_
    obtain ⟨y107, hy107, H⟩ := bnd H
    refine Tr.call0 (r := (.bool y107)) (wg rfl rfl rfl) rfl Tryz.call129 (zF rfl zO) (fun W hW => F_shape_IsAt_ok p0.X1 y107 hy107 (HF.start _)) ?_
    refine Tr.va rfl (fun _ _ h1 h2 => ze (h1.ev rfl) (h1.ev rfl)) ?_
    obtain rfl := Option.some.inj H
    exact Tr.nil (Tr.fin0 (.cons rfl (.cons rfl .nil)) (.cons rfl .nil))
  ·show Tr _ _ (LF [(1, (.pointer (some ⟨b100, 0, none⟩))), (15, (.bool g106))]) (LE [(1, bx b100 #[(iv p0.X0), (iv p0.Y0), (iv p0.X1), (iv p0.Y1)] 36)]) _
   refine Tr.mv rfl rfl ?_
   obtain ⟨g109, hg109, H⟩ := bnd H
   refine Tr.mid0 4 [(20, (.bool g109))] [(1, bx b100 #[(iv p0.X0), (iv p0.Y0), (iv p0.X1), (iv p0.Y1)] 36)] ?_ ?_
   ·cases hg110 : g106
    ·rw [hg110] at hg109
     rw [if_neg (by decide)] at hg109
     have H := hg109
     obtain rfl := Option.some.inj H
     refine Tr.pass rfl rfl rfl rfl rfl (by decide) ?_
     refine Tr.pass rfl rfl rfl rfl rfl (by decide) ?_
     refine Tr.pass rfl rfl rfl rfl rfl (by decide) ?_
     refine Tr.va rfl (fun _ _ h1 h2 => zf (h1.ev rfl) (h1.ev rfl)) ?_
     exact Tr.nil (Tr.fin0 (.cons rfl .nil) (.cons rfl .nil))
    ·rw [hg110] at hg109
     rw [if_pos rfl] at hg109
     have H := hg109
     refine Tr.val (wg rfl rfl rfl) rfl (fun _ _ h1 h2 => zB fo_36_3 (h1.ev rfl)) ?_
     refine Tr.val (wg rfl rfl rfl) rfl (fun _ _ h1 h2 => zC ag_3 (h1.ev rfl) (rdb h2 (vs := [(iv p0.X0), (iv p0.Y0), (iv p0.X1), (iv p0.Y1)]) (k := 1) rfl 3) rfl) ?_
     obtain ⟨y110, hy110, H⟩ := bnd H
     refine Tr.call0 (r := (.bool y110)) (wg rfl rfl rfl) rfl Tryz.call129 (zF rfl zO) (fun W hW => F_shape_IsAt_ok p0.Y1 y110 hy110 (HF.start _)) ?_
     refine Tr.va rfl (fun _ _ h1 h2 => ze (h1.ev rfl) (h1.ev rfl)) ?_
     obtain rfl := Option.some.inj H
     exact Tr.nil (Tr.fin0 (.cons rfl .nil) (.cons rfl .nil))
   ·show Tr _ _ (LF [(20, (.bool g109))]) (LE [(1, bx b100 #[(iv p0.X0), (iv p0.Y0), (iv p0.X1), (iv p0.Y1)] 36)]) _
    refine Tr.asg rfl rfl ?_
    refine Tr.nil (Tr.zA ?_)
    refine Tr.ret ?_
    obtain rfl := Option.some.inj H
    exact Tr.out (m := [(.bool g109)]) [] (zP rfl zQ) (fun W hW => ⟨rfl, hW.low leB⟩)

theorem F_shape_Set__Fits_ok {w : Bs} (p0 : (List zV)) (Ap0_0 : Option Addr) (cp0_0 : Nat) (hp0_0 : Sl w.R w.W zJ Ap0_0 cp0_0 p0) (r : Bool) (H : F_shape_Set__Fits p0 = some r) (hE : HF w w.W E0) : Calls Tryz.prog 154 [(.slice Ap0_0 (p0).length cp0_0)].toArray w.W fun e W' => e = .returned (.bool r) ∧ HF w W' E0 := by
 unfold F_shape_Set__Fits at H
 have leB := Bs.Le.refl w
 refine Tr.enter (n := 11) Tryz.func154 rfl rfl rfl hE ?_
 refine Tr.sr ?_
 refine Tr.asg rfl rfl ?_
 refine Tr.nil (Tr.zA ?_)
 refine Tr.sr ?_
 refine Tr.mv rfl rfl ?_
 refine Tr.va rfl (fun _ _ h1 h2 => zq un_66 (h1.ev rfl)) ?_
 refine Tr.va rfl (fun _ _ h1 h2 => run_eql (h1.ev rfl) (h1.ev rfl)) ?_
 refine Tr.mv rfl rfl ?_
 obtain ⟨g102, hg102, H⟩ := bnd H
 refine Tr.mid0 4 [(10, (.bool g102))] [] ?_ ?_
 ·cases hg104 : ((p0.length : Int) == 0)
  ·rw [hg104] at hg102
   rw [if_neg (by decide)] at hg102
   have H := hg102
   refine Tr.val (wg rfl rfl rfl) rfl (fun _ _ h1 h2 => run_move (h1.ev rfl)) ?_
   obtain ⟨y103, hy103, H⟩ := bnd H
   refine Tr.call0 (r := (.agg #[(iv y103.X0), (iv y103.Y0), (iv y103.X1), (iv y103.Y1)])) (wg rfl rfl rfl) rfl Tryz.call170 (zF rfl zO) (fun W hW => F_shape_Set__Around_ok p0 Ap0_0 cp0_0 (hp0_0.ext hW.extAll) y103 hy103 (HF.start _)) ?_
   obtain ⟨y104, hy104, H⟩ := bnd H
   refine Tr.call0 (r := (.bool y104)) (wg rfl rfl rfl) rfl Tryz.call108 (zF rfl zO) (fun W hW => F_shape_isRect_ok y103 y104 hy104 (HF.start _)) ?_
   refine Tr.va rfl (fun _ _ h1 h2 => zf (h1.ev rfl) (h1.ev rfl)) ?_
   obtain rfl := Option.some.inj H
   exact Tr.nil (Tr.fin0 (.cons rfl .nil) .nil)
  ·rw [hg104] at hg102
   rw [if_pos rfl] at hg102
   have H := hg102
   obtain rfl := Option.some.inj H
   refine Tr.pass rfl rfl rfl rfl rfl (by decide) ?_
   refine Tr.pass rfl rfl rfl rfl rfl (by decide) ?_
   refine Tr.pass rfl rfl rfl rfl rfl (by decide) ?_
   refine Tr.va rfl (fun _ _ h1 h2 => ze (h1.ev rfl) (h1.ev rfl)) ?_
   exact Tr.nil (Tr.fin0 (.cons rfl .nil) .nil)
 ·show Tr _ _ (LF [(10, (.bool g102))]) (LE []) _
  refine Tr.asg rfl rfl ?_
  refine Tr.nil (Tr.zA ?_)
  refine Tr.ret ?_
  obtain rfl := Option.some.inj H
  exact Tr.out (m := [(.bool g102)]) [] (zP rfl zQ) (fun W hW => ⟨rfl, hW.low leB⟩)

theorem F_shape_Set__at_ok {w : Bs} (p0 : (List zV)) (Ap0_0 : Option Addr) (cp0_0 : Nat) (hp0_0 : Sl w.O w.W zJ Ap0_0 cp0_0 p0) (p1 : Int) (p2 : Int) (r : ((List Int) × Int)) (H : F_shape_Set__at p0 p1 p2 = some r) (hE : HF w w.W (LEn [])) : Calls Tryz.prog 90 [(.slice Ap0_0 (p0).length cp0_0), (iv p1), (iv p2)].toArray w.W fun e W' => ∃ (w' : Bs) (u : (Option Addr × Nat)), w.Le w' ∧ e = .returned (.tuple #[(.slice u.1 (r.1).length u.2), (iv r.2)]) ∧ (Sl w'.O w'.W zn u.1 u.2 r.1) ∧ HF w' W' (LEn []) := by
 unfold F_shape_Set__at at H
 have leB := Bs.Le.refl w
 refine Tr.enter (n := 36) Tryz.func90 rfl rfl rfl hE ?_
 refine Tr.sr ?_
 refine Tr.asg rfl rfl ?_
 refine Tr.nilOwn 1 3 zn ?_
 show Tr _ _ (uf _ 6 (.slice none (([] : List Int)).length 0)) _ _
 refine Tr.asg rfl rfl ?_
 refine Tr.nil (Tr.zA ?_)
 refine Tr.seq ?_
 refine Tr.block ?_
 refine Tr.sr ?_
 refine Tr.mv rfl rfl ?_
 refine Tr.va rfl (fun _ _ h1 h2 => zq un_66 (h1.ev rfl)) ?_
 refine Tr.va rfl (fun _ _ h1 h2 => run_eql (h1.ev rfl) (h1.ev rfl)) ?_
 refine Tr.asg rfl rfl ?_
 refine Tr.nil (Tr.zA ?_)
 refine Tr.cond rfl H (fun H => ?_) (fun H => ?_)
 ·refine Tr.sr ?_
  refine Tr.mv rfl rfl ?_
  refine Tr.asg rfl rfl ?_
  refine Tr.nilOwn 2 3 zn ?_
  show Tr _ _ (uf _ 6 (.slice none (([] : List Int)).length 0)) _ _
  refine Tr.asg rfl rfl ?_
  refine Tr.nil (Tr.zA ?_)
  refine Tr.ret (Tr.zAB (Tr.zU ?_))
  obtain rfl := Option.some.inj H
  refine Tr.freeze 2 rfl fun w le101 hz100 => ?_
  replace hp0_0 := hp0_0.le le101
  replace leB := leB.trans le101
  exact Tr.out (m := [(.slice none (([] : List Int)).length 0), (iv p2)]) [] (zP rfl (zP rfl zQ)) (fun W hW => ⟨w, (none, 0), leB, rfl, hz100, hW.pick (ks := []) (by decide) zY⟩)
 ·refine Tr.sr ?_
  refine Tr.mv rfl rfl ?_
  refine Tr.mv rfl rfl ?_
  obtain ⟨x102, hx102, H⟩ := bnd H
  obtain ⟨hx1020, hx1021, hx1022⟩ := zh hx102
  obtain ⟨u103, hRu103, hoku103, hcu103⟩ := (hp0_0).el hx1022
  obtain ⟨Au103_0, cu103_0⟩ := u103
  have hoku103_0 := hoku103
  replace hoku103_0 : Sl w.O w.W zn Au103_0 cu103_0 x102.Xs := hoku103_0
  replace hRu103 : w.R (adB Ap0_0) := Or.inl hRu103
  refine Tr.va rfl (fun _ _ h1 h2 => zH el_66 (h1.ev rfl) hp0_0.form (h1.ev rfl) hx1020 hx1021) ?_
  refine Tr.va rfl (fun _ _ h1 h2 => zB fo_107_0 (h1.ev rfl)) ?_
  refine Tr.va rfl (fun _ _ h1 h2 => zC ag_3 (h1.ev rfl) (zL.drop (rdR hRu103 hcu103 h2) 0) rfl) ?_
  refine Tr.va rfl (fun _ _ h1 h2 => zz (h1.ev rfl) (h1.ev rfl)) ?_
  refine Tr.asg rfl rfl ?_
  refine Tr.nil (Tr.zA ?_)
  refine Tr.cond rfl H (fun H => ?_) (fun H => ?_)
  ·refine Tr.seq ?_
   refine Tr.draw (by kernel_rfl) (by kernel_rfl) ?_
   refine Tq.mv rfl rfl ?_
   refine Tq.mv rfl rfl ?_
   obtain ⟨x104, hx104, H⟩ := bnd H
   obtain ⟨hx1040, hx1041, hx1042⟩ := zh hx104
   obtain ⟨u105, hRu105, hoku105, hcu105⟩ := (hp0_0).el hx1042
   obtain ⟨Au105_0, cu105_0⟩ := u105
   have hoku105_0 := hoku105
   replace hoku105_0 : Sl w.O w.W zn Au105_0 cu105_0 x104.Xs := hoku105_0
   replace hRu105 : w.R (adB Ap0_0) := Or.inl hRu105
   refine Tq.va rfl (fun _ _ h1 h2 => zH el_66 (h1.ev rfl) hp0_0.form (h1.ev rfl) hx1040 hx1041) ?_
   refine Tq.va rfl (fun _ _ h1 h2 => zB fo_107_0 (h1.ev rfl)) ?_
   refine Tq.va rfl (fun _ _ h1 h2 => zC ag_3 (h1.ev rfl) (zL.drop (rdR hRu105 hcu105 h2) 0) rfl) ?_
   refine Tq.va rfl (fun _ _ h1 h2 => run_min (h1.ev rfl) (h1.ev rfl) _) ?_
   refine Tq.asg rfl rfl ?_
   refine Tq.asg rfl rfl ?_
   refine Tq.nil (Tr.zA ?_)
   refine Tr.ret (Tr.zAB (Tr.zU ?_))
   obtain rfl := Option.some.inj H
   exact Tr.out (m := [(.slice none 0 0), (iv (min p2 x104.Y0))]) [] (zP rfl (zP rfl zQ)) (fun W hW => ⟨w, (none, 0), leB, rfl, (Sl.nil _ _ _), hW.pick (ks := []) (by decide) zY⟩)
  ·refine Tr.skip (Tr.zW (Tr.zA ?_))
   refine Tr.seq ?_
   refine Tr.draw (by kernel_rfl) (by kernel_rfl) ?_
   refine Tq.mv rfl rfl ?_
   obtain ⟨x106, hx106, H⟩ := bnd H
   obtain ⟨hx1060, hx1061, hx1062⟩ := zh hx106
   obtain ⟨u107, hRu107, hoku107, hcu107⟩ := (hp0_0).el hx1062
   obtain ⟨Au107_0, cu107_0⟩ := u107
   have hoku107_0 := hoku107
   replace hoku107_0 : Sl w.O w.W zn Au107_0 cu107_0 x106.Xs := hoku107_0
   replace hRu107 : w.R (adB Ap0_0) := Or.inl hRu107
   refine Tq.va rfl (fun _ _ h1 h2 => zH el_66 (h1.ev rfl) hp0_0.form (h1.ev rfl) hx1060 hx1061) ?_
   refine Tq.va rfl (fun _ _ h1 h2 => zB fo_107_2 (h1.ev rfl)) ?_
   refine Tq.va rfl (fun _ _ h1 h2 => zC ag_38 (h1.ev rfl) (zL.drop (rdR hRu107 hcu107 h2) 2) rfl) ?_
   refine Tq.mv rfl rfl ?_
   refine Tq.mv rfl rfl ?_
   obtain ⟨x108, hx108, H⟩ := bnd H
   obtain ⟨hx1080, hx1081, hx1082⟩ := zh hx108
   obtain ⟨u109, hRu109, hoku109, hcu109⟩ := (hp0_0).el hx1082
   obtain ⟨Au109_0, cu109_0⟩ := u109
   have hoku109_0 := hoku109
   replace hoku109_0 : Sl w.O w.W zn Au109_0 cu109_0 x108.Xs := hoku109_0
   replace hRu109 : w.R (adB Ap0_0) := Or.inl hRu109
   refine Tq.va rfl (fun _ _ h1 h2 => zH el_66 (h1.ev rfl) hp0_0.form (h1.ev rfl) hx1080 hx1081) ?_
   refine Tq.va rfl (fun _ _ h1 h2 => zB fo_107_1 (h1.ev rfl)) ?_
   refine Tq.va rfl (fun _ _ h1 h2 => zC ag_3 (h1.ev rfl) (zL.drop (rdR hRu109 hcu109 h2) 1) rfl) ?_
   refine Tq.va rfl (fun _ _ h1 h2 => run_min (h1.ev rfl) (h1.ev rfl) _) ?_
   refine Tq.asg rfl rfl ?_
   refine Tq.asg rfl rfl ?_
   refine Tq.nil (Tr.zA ?_)
   refine Tr.ret ?_
   obtain rfl := Option.some.inj H
   exact Tr.out (m := [(.slice Au107_0 (x106.Xs).length cu107_0), (iv (min p2 x108.Y1))]) [] (zP rfl (zP rfl zQ)) (fun W hW => ⟨w, (Au107_0, cu107_0), leB, rfl, hoku107_0, hW.pick (ks := []) (by decide) zY⟩)

end Go.Proofs.YtoageaoknnnfbaaGreatDoor
