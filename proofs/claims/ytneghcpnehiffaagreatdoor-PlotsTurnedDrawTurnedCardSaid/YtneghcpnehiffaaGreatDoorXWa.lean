/- The walks: each function computes its plain function. -/
import Derived.Test.YtneghcpnehiffaaGreatDoorXF
namespace Go.Proofs.YtneghcpnehiffaaGreatDoor
open Go.RowKit
set_option maxRecDepth 100000
set_option maxHeartbeats 1000000
theorem zAN {w : Bs} (p0 : Int) (p1 : Int) (p2 : Int) (r : Bool) (H : Kw p0 p1 p2 = some r) (hE : HF w w.W E0) : Calls Tryz.prog 38 [iv p0, iv p1, iv p2].toArray w.W fun e W' => e = .returned (bV r) ∧ HF w W' E0 := by
 unfold Kw at H
 have leB := Bs.Le.refl w
 refine Tr.enter (n := 15) Tryz.func38 rfl rfl rfl hE (Tr.sr (Tr.asg rfl rfl (Tr.nil (Tr.zA (Tr.sr (Tr.mv rfl rfl (Tr.mv rfl rfl (Tr.va rfl (fun _ _ a c => zFA (a.ev rfl) (a.ev rfl)) (Tr.mv rfl rfl (Tr.Vw 4 [(14, bV ((decide (p1 ≤ p0)) && (decide (p0 ≤ p2))))] [] ?_ ?_))))))))))
 ·cases ziS : (decide (p1 ≤ p0))
  ·exact Tr.pass rfl rfl rfl rfl rfl (by decide) (Tr.pass rfl rfl rfl rfl rfl (by decide) (Tr.pass rfl rfl rfl rfl rfl (by decide) (Tr.va rfl (fun _ _ a c => zy (a.ev rfl) (a.ev rfl)) (Tr.nil (Tr.JD (.cons rfl .nil) .nil)))))
  ·exact Tr.val (wg rfl rfl rfl) rfl (fun _ _ a c => run_move (a.ev rfl)) (Tr.val (wg rfl rfl rfl) rfl (fun _ _ a c => run_move (a.ev rfl)) (Tr.val (wg rfl rfl rfl) rfl (fun _ _ a c => zAX (a.ev rfl) (a.ev rfl)) (Tr.va rfl (fun _ _ a c => zx (a.ev rfl) (a.ev rfl)) (Tr.nil (Tr.JD (.cons rfl .nil) .nil)))))
 ·show Tr _ _ (LF [(14, bV ((decide (p1 ≤ p0)) && (decide (p0 ≤ p2))))]) (LE []) _
  refine Tr.asg rfl rfl (Tr.nil (Tr.zA (Tr.ret ?_)))
  obtain rfl := oI H
  exact Tr.out (m := [bV ((decide (p1 ≤ p0)) && (decide (p0 ≤ p2)))]) [] (zU rfl zV) (fun W hW => ⟨rfl, hW.low leB⟩)

theorem zMg (N : Nat) {w : Bs} (p0 : ByteArray) (r : Bool) (H : WJ N p0 = some r) (hE : HF w w.W E0) : Calls Tryz.prog 65 [sv p0].toArray w.W fun e W' => e = .returned (bV r) ∧ HF w W' E0 := by
 unfold WJ at H
 have leB := Bs.Le.refl w
 refine Tr.enter (n := 59) Tryz.func65 rfl rfl rfl hE (Tr.sr (Tr.asg rfl rfl (Tr.nil (Tr.zA (Tr.seq (Tr.sr (Tr.mv rfl rfl (Tr.va rfl (fun _ _ a c => zOH zbz (a.ev rfl)) (Tr.mv rfl rfl (Tr.nil (Tr.zA (Tr.block (Tr.loop (σ := Int) (fun m w s => WG p0 m s = some r) (fun s => [(0, sv p0), (7, iv (p0.size : Int)), (8, iv s)]) (fun s => []) N 0 H (.cons rfl (.cons rfl (.cons rfl .nil))) .nil (fun _ _ h => zAg (h)) ?_)))))))))))))
 intro w Qc mL1 x105 hs
 have H := hs
 replace H : WG p0 (mL1 + 1) x105 = some r := H
 replace leB := leB.trans Qc
 rw [WG.eq_2] at H
 show Tr _ _ (LF [(0, sv p0), (7, iv (p0.size : Int)), (8, iv x105)]) (LE []) _
 refine Tr.sr (Tr.va rfl (fun _ _ a c => QD (a.ev rfl) (a.ev rfl)) (Tr.nil (Tr.zA (Tr.seq (Tr.cond rfl H (fun H => ?_) (fun H => ?_))))))
 ·refine Tr.skip (Tr.zA (Tr.seq (Tr.block (Tr.sr (Tr.mv rfl rfl (Tr.asg rfl rfl (Tr.nil (Tr.zA (Tr.sr (Tr.mv rfl rfl (Tr.mv rfl rfl ?_)))))))))))
  obtain ⟨c106, zmt, H⟩ := bnd H
  refine Tr.va rfl (fun _ _ a c => zUs zbz (a.ev rfl) (a.ev rfl) zmt) (Tr.asg rfl rfl (Tr.nil (Tr.zA (Tr.sr (Tr.mv rfl rfl (Tr.va rfl (fun _ _ a c => zFA (a.ev rfl) (a.ev rfl)) (Tr.mv rfl rfl (Tr.Vw 3 [(0, sv p0), (3, iv x105), (4, .int .u8 c106), (7, iv (p0.size : Int)), (8, iv x105), (19, bV ((decide (97 ≤ c106)) && (decide (c106 ≤ 122))))] [] ?_ ?_))))))))
  ·cases zCg : (decide (97 ≤ c106))
   ·exact Tr.pass rfl rfl rfl rfl rfl (by decide) (Tr.pass rfl rfl rfl rfl rfl (by decide) (Tr.va rfl (fun _ _ a c => zy (a.ev rfl) (a.ev rfl)) (Tr.nil (Tr.JD (.cons rfl (.cons rfl (.cons rfl (.cons rfl (.cons rfl (.cons rfl .nil)))))) .nil))))
   ·exact Tr.val (wg rfl rfl rfl) rfl (fun _ _ a c => run_move (a.ev rfl)) (Tr.val (wg rfl rfl rfl) rfl (fun _ _ a c => zAX (a.ev rfl) (a.ev rfl)) (Tr.va rfl (fun _ _ a c => zx (a.ev rfl) (a.ev rfl)) (Tr.nil (Tr.JD (.cons rfl (.cons rfl (.cons rfl (.cons rfl (.cons rfl (.cons rfl .nil)))))) .nil))))
  ·show Tr _ _ (LF [(0, sv p0), (3, iv x105), (4, .int .u8 c106), (7, iv (p0.size : Int)), (8, iv x105), (19, bV ((decide (97 ≤ c106)) && (decide (c106 ≤ 122))))]) (LE []) _
   refine Tr.mv rfl rfl (Tr.Vw 7 [(0, sv p0), (3, iv x105), (4, .int .u8 c106), (7, iv (p0.size : Int)), (8, iv x105), (27, bV (((decide (97 ≤ c106)) && (decide (c106 ≤ 122))) || ((decide (65 ≤ c106)) && (decide (c106 ≤ 90)))))] [] ?_ ?_)
   ·cases zCg : ((decide (97 ≤ c106)) && (decide (c106 ≤ 122)))
    ·refine Tr.val (wg rfl rfl rfl) rfl (fun _ _ a c => run_move (a.ev rfl)) (Tr.val (wg rfl rfl rfl) rfl (fun _ _ a c => zFA (a.ev rfl) (a.ev rfl)) (Tr.val (wg rfl rfl rfl) rfl (fun _ _ a c => run_move (a.ev rfl)) (Tr.Vw 3 [(0, sv p0), (3, iv x105), (4, .int .u8 c106), (7, iv (p0.size : Int)), (8, iv x105), (20, bV false), (26, bV ((decide (65 ≤ c106)) && (decide (c106 ≤ 90))))] [] ?_ ?_)))
     ·cases zCg : (decide (65 ≤ c106))
      ·exact Tr.pass rfl rfl rfl rfl rfl (by decide) (Tr.pass rfl rfl rfl rfl rfl (by decide) (Tr.val (wg rfl rfl rfl) rfl (fun _ _ a c => zy (a.ev rfl) (a.ev rfl)) (Tr.nil (Tr.JD (.cons rfl (.cons rfl (.cons rfl (.cons rfl (.cons rfl (.cons rfl (.cons rfl .nil))))))) .nil))))
      ·exact Tr.val (wg rfl rfl rfl) rfl (fun _ _ a c => run_move (a.ev rfl)) (Tr.val (wg rfl rfl rfl) rfl (fun _ _ a c => zAX (a.ev rfl) (a.ev rfl)) (Tr.val (wg rfl rfl rfl) rfl (fun _ _ a c => zx (a.ev rfl) (a.ev rfl)) (Tr.nil (Tr.JD (.cons rfl (.cons rfl (.cons rfl (.cons rfl (.cons rfl (.cons rfl (.cons rfl .nil))))))) .nil))))
     ·dsimp only
      exact Tr.va rfl (fun _ _ a c => zy (a.ev rfl) (a.ev rfl)) (Tr.nil (Tr.JD (.cons rfl (.cons rfl (.cons rfl (.cons rfl (.cons rfl (.cons rfl .nil)))))) .nil))
    ·refine Tr.pass rfl rfl rfl rfl rfl (by decide) (Tr.pass rfl rfl rfl rfl rfl (by decide) (Tr.pass rfl rfl rfl rfl rfl (by decide) (Tr.VA rfl rfl rfl rfl (by decide) (Tr.VA rfl rfl rfl rfl (by decide) (Tr.pass rfl rfl rfl rfl rfl (by decide) (Tr.va rfl (fun _ _ a c => zx (a.ev rfl) (a.ev rfl)) ?_))))))
     exact Tr.nil (Tr.JD (.cons rfl (.cons rfl (.cons rfl (.cons rfl (.cons rfl (.cons rfl .nil)))))) .nil)
   ·show Tr _ _ (LF [(0, sv p0), (3, iv x105), (4, .int .u8 c106), (7, iv (p0.size : Int)), (8, iv x105), (27, bV (((decide (97 ≤ c106)) && (decide (c106 ≤ 122))) || ((decide (65 ≤ c106)) && (decide (c106 ≤ 90)))))]) (LE []) _
    refine Tr.asg rfl rfl (Tr.nil (Tr.zA (Tr.sr (Tr.mv rfl rfl (Tr.va rfl (fun _ _ a c => KD (a.ev rfl)) (Tr.mv rfl rfl (Tr.Vw 19 [(0, sv p0), (7, iv (p0.size : Int)), (8, iv x105), (49, bV ((!(((decide (97 ≤ c106)) && (decide (c106 ≤ 122))) || ((decide (65 ≤ c106)) && (decide (c106 ≤ 90))))) && ((x105 == 0) || ((((decide (c106 < 48)) || (decide (57 < c106))) && (c106 != 95)) && (c106 != 45)))))] [] ?_ ?_)))))))
    ·cases zCg : (!(((decide (97 ≤ c106)) && (decide (c106 ≤ 122))) || ((decide (65 ≤ c106)) && (decide (c106 ≤ 90)))))
     ·refine Tr.pass rfl rfl rfl rfl rfl (by decide) (Tr.pass rfl rfl rfl rfl rfl (by decide) (Tr.pass rfl rfl rfl rfl rfl (by decide) (Tr.VA rfl rfl rfl rfl (by decide) (Tr.VA rfl rfl rfl rfl (by decide) (Tr.VA rfl rfl rfl rfl (by decide) (Tr.VA rfl rfl rfl rfl (by decide) ?_))))))
      refine Tr.VA rfl rfl rfl rfl (by decide) (Tr.VA rfl rfl rfl rfl (by decide) (Tr.VA rfl rfl rfl rfl (by decide) (Tr.VA rfl rfl rfl rfl (by decide) (Tr.VA rfl rfl rfl rfl (by decide) (Tr.VA rfl rfl rfl rfl (by decide) (Tr.VA rfl rfl rfl rfl (by decide) ?_))))))
      exact Tr.VA rfl rfl rfl rfl (by decide) (Tr.VA rfl rfl rfl rfl (by decide) (Tr.VA rfl rfl rfl rfl (by decide) (Tr.pass rfl rfl rfl rfl rfl (by decide) (Tr.va rfl (fun _ _ a c => zy (a.ev rfl) (a.ev rfl)) (Tr.nil (Tr.JD (.cons rfl (.cons rfl (.cons rfl (.cons rfl .nil)))) .nil))))))
     ·refine Tr.val (wg rfl rfl rfl) rfl (fun _ _ a c => run_move (a.ev rfl)) (Tr.val (wg rfl rfl rfl) rfl (fun _ _ a c => Ql (a.ev rfl) (a.ev rfl)) (Tr.val (wg rfl rfl rfl) rfl (fun _ _ a c => run_move (a.ev rfl)) (Tr.Vw 15 [(0, sv p0), (7, iv (p0.size : Int)), (8, iv x105), (30, bV true), (48, bV ((x105 == 0) || ((((decide (c106 < 48)) || (decide (57 < c106))) && (c106 != 95)) && (c106 != 45))))] [] ?_ ?_)))
      ·cases zCg : (x105 == 0)
       ·refine Tr.val (wg rfl rfl rfl) rfl (fun _ _ a c => run_move (a.ev rfl)) (Tr.val (wg rfl rfl rfl) rfl (fun _ _ a c => QD (a.ev rfl) (a.ev rfl)) (Tr.val (wg rfl rfl rfl) rfl (fun _ _ a c => run_move (a.ev rfl)) (Tr.Vw 3 [(0, sv p0), (4, .int .u8 c106), (7, iv (p0.size : Int)), (8, iv x105), (30, bV true), (33, bV false), (39, bV ((decide (c106 < 48)) || (decide (57 < c106))))] [] ?_ ?_)))
        ·cases zCg : (decide (c106 < 48))
         ·exact Tr.val (wg rfl rfl rfl) rfl (fun _ _ a c => run_move (a.ev rfl)) (Tr.val (wg rfl rfl rfl) rfl (fun _ _ a c => VS (a.ev rfl) (a.ev rfl)) (Tr.val (wg rfl rfl rfl) rfl (fun _ _ a c => zy (a.ev rfl) (a.ev rfl)) (Tr.nil (Tr.JD (.cons rfl (.cons rfl (.cons rfl (.cons rfl (.cons rfl (.cons rfl (.cons rfl .nil))))))) .nil))))
         ·exact Tr.pass rfl rfl rfl rfl rfl (by decide) (Tr.pass rfl rfl rfl rfl rfl (by decide) (Tr.val (wg rfl rfl rfl) rfl (fun _ _ a c => zx (a.ev rfl) (a.ev rfl)) (Tr.nil (Tr.JD (.cons rfl (.cons rfl (.cons rfl (.cons rfl (.cons rfl (.cons rfl (.cons rfl .nil))))))) .nil))))
        ·dsimp only
         refine Tr.val (wg rfl rfl rfl) rfl (fun _ _ a c => run_move (a.ev rfl)) (Tr.Vw 3 [(0, sv p0), (4, .int .u8 c106), (7, iv (p0.size : Int)), (8, iv x105), (30, bV true), (33, bV false), (43, bV (((decide (c106 < 48)) || (decide (57 < c106))) && (c106 != 95)))] [] ?_ ?_)
         ·cases zCg : ((decide (c106 < 48)) || (decide (57 < c106)))
          ·exact Tr.pass rfl rfl rfl rfl rfl (by decide) (Tr.pass rfl rfl rfl rfl rfl (by decide) (Tr.val (wg rfl rfl rfl) rfl (fun _ _ a c => zy (a.ev rfl) (a.ev rfl)) (Tr.nil (Tr.JD (.cons rfl (.cons rfl (.cons rfl (.cons rfl (.cons rfl (.cons rfl (.cons rfl .nil))))))) .nil))))
          ·exact Tr.val (wg rfl rfl rfl) rfl (fun _ _ a c => run_move (a.ev rfl)) (Tr.val (wg rfl rfl rfl) rfl (fun _ _ a c => Jm (a.ev rfl) (a.ev rfl)) (Tr.val (wg rfl rfl rfl) rfl (fun _ _ a c => zx (a.ev rfl) (a.ev rfl)) (Tr.nil (Tr.JD (.cons rfl (.cons rfl (.cons rfl (.cons rfl (.cons rfl (.cons rfl (.cons rfl .nil))))))) .nil))))
         ·dsimp only
          refine Tr.val (wg rfl rfl rfl) rfl (fun _ _ a c => run_move (a.ev rfl)) (Tr.Vw 3 [(0, sv p0), (7, iv (p0.size : Int)), (8, iv x105), (30, bV true), (33, bV false), (47, bV ((((decide (c106 < 48)) || (decide (57 < c106))) && (c106 != 95)) && (c106 != 45)))] [] ?_ ?_)
          ·cases zCg : (((decide (c106 < 48)) || (decide (57 < c106))) && (c106 != 95))
           ·exact Tr.pass rfl rfl rfl rfl rfl (by decide) (Tr.pass rfl rfl rfl rfl rfl (by decide) (Tr.val (wg rfl rfl rfl) rfl (fun _ _ a c => zy (a.ev rfl) (a.ev rfl)) (Tr.nil (Tr.JD (.cons rfl (.cons rfl (.cons rfl (.cons rfl (.cons rfl (.cons rfl .nil)))))) .nil))))
           ·exact Tr.val (wg rfl rfl rfl) rfl (fun _ _ a c => run_move (a.ev rfl)) (Tr.val (wg rfl rfl rfl) rfl (fun _ _ a c => Jm (a.ev rfl) (a.ev rfl)) (Tr.val (wg rfl rfl rfl) rfl (fun _ _ a c => zx (a.ev rfl) (a.ev rfl)) (Tr.nil (Tr.JD (.cons rfl (.cons rfl (.cons rfl (.cons rfl (.cons rfl (.cons rfl .nil)))))) .nil))))
          ·dsimp only
           exact Tr.val (wg rfl rfl rfl) rfl (fun _ _ a c => zy (a.ev rfl) (a.ev rfl)) (Tr.nil (Tr.JD (.cons rfl (.cons rfl (.cons rfl (.cons rfl (.cons rfl .nil))))) .nil))
       ·refine Tr.pass rfl rfl rfl rfl rfl (by decide) (Tr.pass rfl rfl rfl rfl rfl (by decide) (Tr.pass rfl rfl rfl rfl rfl (by decide) (Tr.VA rfl rfl rfl rfl (by decide) (Tr.VA rfl rfl rfl rfl (by decide) (Tr.pass rfl rfl rfl rfl rfl (by decide) (Tr.pass rfl rfl rfl rfl rfl (by decide) ?_))))))
        refine Tr.VA rfl rfl rfl rfl (by decide) (Tr.VA rfl rfl rfl rfl (by decide) (Tr.pass rfl rfl rfl rfl rfl (by decide) (Tr.pass rfl rfl rfl rfl rfl (by decide) (Tr.VA rfl rfl rfl rfl (by decide) (Tr.VA rfl rfl rfl rfl (by decide) (Tr.pass rfl rfl rfl rfl rfl (by decide) ?_))))))
        exact Tr.val (wg rfl rfl rfl) rfl (fun _ _ a c => zx (a.ev rfl) (a.ev rfl)) (Tr.nil (Tr.JD (.cons rfl (.cons rfl (.cons rfl (.cons rfl (.cons rfl .nil))))) .nil))
      ·dsimp only
       exact Tr.va rfl (fun _ _ a c => zx (a.ev rfl) (a.ev rfl)) (Tr.nil (Tr.JD (.cons rfl (.cons rfl (.cons rfl (.cons rfl .nil)))) .nil))
    ·show Tr _ _ (LF [(0, sv p0), (7, iv (p0.size : Int)), (8, iv x105), (49, bV ((!(((decide (97 ≤ c106)) && (decide (c106 ≤ 122))) || ((decide (65 ≤ c106)) && (decide (c106 ≤ 90))))) && ((x105 == 0) || ((((decide (c106 < 48)) || (decide (57 < c106))) && (c106 != 95)) && (c106 != 45)))))]) (LE []) _
     refine Tr.nil (Tr.zA (Tr.cond rfl H (fun H => ?_) (fun H => ?_)))
     ·refine Tr.sr (Tr.asg rfl rfl (Tr.nil (Tr.zA (Tr.ret (Tr.QP (Tr.zb (Tr.zb (Tr.QP (Tr.zb ?_)))))))))
      obtain rfl := oI H
      exact Tr.out (m := [bV false]) [] (zU rfl zV) (fun W hW => ⟨rfl, hW.low leB⟩)
     ·exact Tr.skip (Tr.zh (Tr.zA (Tr.region (Tr.va rfl (fun _ _ a c => zo (a.ev rfl) (a.ev rfl)) (Tr.mv rfl rfl (Tr.nil (Tr.zf Qc (w64 (x105 + 1)) H (.cons rfl (.cons rfl (.cons rfl .nil))) .nil)))))))
 ·refine Tr.exit (Tr.ze (Tr.ze (Tr.QK (Tr.zA (Tr.sr (Tr.mv rfl rfl (Tr.va rfl (fun _ _ a c => zOH zbz (a.ev rfl)) (Tr.va rfl (fun _ _ a c => zFA (a.ev rfl) (a.ev rfl)) (Tr.mv rfl rfl (Tr.Vw 4 [(58, bV ((decide (1 ≤ (p0.size : Int))) && (decide ((p0.size : Int) ≤ 40))))] [] ?_ ?_))))))))))
  ·cases zCg : (decide (1 ≤ (p0.size : Int)))
   ·exact Tr.pass rfl rfl rfl rfl rfl (by decide) (Tr.pass rfl rfl rfl rfl rfl (by decide) (Tr.pass rfl rfl rfl rfl rfl (by decide) (Tr.va rfl (fun _ _ a c => zy (a.ev rfl) (a.ev rfl)) (Tr.nil (Tr.JD (.cons rfl .nil) .nil)))))
   ·exact Tr.val (wg rfl rfl rfl) rfl (fun _ _ a c => run_move (a.ev rfl)) (Tr.val (wg rfl rfl rfl) rfl (fun _ _ a c => zOH zbz (a.ev rfl)) (Tr.val (wg rfl rfl rfl) rfl (fun _ _ a c => zAX (a.ev rfl) (a.ev rfl)) (Tr.va rfl (fun _ _ a c => zx (a.ev rfl) (a.ev rfl)) (Tr.nil (Tr.JD (.cons rfl .nil) .nil)))))
  ·show Tr _ _ (LF [(58, bV ((decide (1 ≤ (p0.size : Int))) && (decide ((p0.size : Int) ≤ 40))))]) (LE []) _
   refine Tr.asg rfl rfl (Tr.nil (Tr.zA (Tr.ret ?_)))
   obtain rfl := oI H
   exact Tr.out (m := [bV ((decide (1 ≤ (p0.size : Int))) && (decide ((p0.size : Int) ≤ 40)))]) [] (zU rfl zV) (fun W hW => ⟨rfl, hW.low leB⟩)

theorem zBQ {w : Bs} (p0 : Int) (p1 : Int) (r : Bool) (H : zAJ p0 p1 = some r) (hE : HF w w.W E0) : Calls Tryz.prog 66 [iv p0, iv p1].toArray w.W fun e W' => e = .returned (bV r) ∧ HF w W' E0 := by
 unfold zAJ at H
 have leB := Bs.Le.refl w
 refine Tr.enter (n := 11) Tryz.func66 rfl rfl rfl hE (Tr.sr (Tr.asg rfl rfl (Tr.nil (Tr.zA (Tr.seq (Tr.draw (by kernel_rfl) (by kernel_rfl) (Tq.mv rfl rfl (Tq.mv rfl rfl ?_))))))))
 obtain ⟨q100, zl3, H⟩ := bnd H
 refine Tq.va rfl (fun _ _ a c => zL1 (a.ev rfl) (a.ev rfl) zl3) (Tq.mv rfl rfl ?_)
 obtain ⟨q101, zl2, H⟩ := bnd H
 refine Tq.va rfl (fun _ _ a c => zL1 (a.ev rfl) (a.ev rfl) zl2) ?_
 obtain ⟨y102, hy102, H⟩ := bnd H
 refine Tq.Qa (r := (bV y102)) (wn rfl) rfl Tryz.call38 (zH rfl (zH rfl (zH rfl zP))) (fun W hW => zAN p0 q100 q101 y102 hy102 (HF.start _)) (Tq.asg rfl rfl (Tq.nil (Tr.zA (Tr.ret ?_))))
 obtain rfl := oI H
 exact Tr.out (m := [bV y102]) [] (zU rfl zV) (fun W hW => ⟨rfl, hW.low leB⟩)

theorem zJt (N : Nat) {w : Bs} (p0 : zg) (zF : Option Addr) (zG : Nat) (zT : Sl w.R w.W zR zF zG p0.Rects) (p1 : Int) (r : Int) (H : zBR N p0 p1 = some r) (hE : HF w w.W E0) : Calls Tryz.prog 39 [.agg #[sv p0.Name, sL zF p0.Rects zG], iv p1].toArray w.W fun e W' => e = .returned (iv r) ∧ HF w W' E0 := by
 unfold zBR at H
 have leB := Bs.Le.refl w
 refine Tr.enter (n := 65) Tryz.func39 rfl rfl rfl hE (Tr.sr (Tr.box 1 (cs := [sv p0.Name, sL zF p0.Rects zG]) (wn rfl) rfl rfl rfl fun zw => (Tr.asg rfl rfl (Tr.nil (Tr.zA (Tr.seq (Tr.sr (Tr.va rfl (fun _ _ a c => zB zLE (a.ev rfl)) (Tr.va rfl (fun _ _ a c => zD zPv (a.ev rfl) (rdb c (vs := [sv p0.Name, sL zF p0.Rects zG]) (k := 1) rfl 0) rfl) ?_)))))))))
 obtain ⟨y101, hy101, H⟩ := bnd H
 refine Tr.Qa (r := (bV y101)) (wn rfl) rfl Tryz.call65 (zH rfl zP) (fun W hW => zMg N p0.Name y101 hy101 (HF.start _)) (Tr.va rfl (fun _ _ a c => KD (a.ev rfl)) (Tr.nil (Tr.zA (Tr.cond rfl H (fun H => ?_) (fun H => ?_)))))
 ·refine Tr.sr (Tr.asg rfl rfl (Tr.nil (Tr.zA (Tr.ret (Tr.zb ?_)))))
  obtain rfl := oI H
  exact Tr.out (m := [iv 5]) [] (zU rfl zV) (fun W hW => ⟨rfl, hW.low leB⟩)
 ·refine Tr.skip (Tr.zA (Tr.seq (Tr.sr (Tr.va rfl (fun _ _ a c => zB zFE (a.ev rfl)) (Tr.va rfl (fun _ _ a c => zD zNC (a.ev rfl) (rdb c (vs := [sv p0.Name, sL zF p0.Rects zG]) (k := 1) rfl 1) rfl) (Tr.va rfl (fun _ _ a c => QF zA7 (a.ev rfl)) (Tr.va rfl (fun _ _ a c => Ql (a.ev rfl) (a.ev rfl)) (Tr.nil (Tr.zA (Tr.cond rfl H (fun H => ?_) (fun H => ?_)))))))))))
  ·refine Tr.sr (Tr.asg rfl rfl (Tr.nil (Tr.zA (Tr.ret (Tr.zb ?_)))))
   obtain rfl := oI H
   exact Tr.out (m := [iv 9]) [] (zU rfl zV) (fun W hW => ⟨rfl, hW.low leB⟩)
  ·refine Tr.skip (Tr.zA (Tr.seq (Tr.sr (Tr.va rfl (fun _ _ a c => zB zFE (a.ev rfl)) (Tr.va rfl (fun _ _ a c => zD zNC (a.ev rfl) (rdb c (vs := [sv p0.Name, sL zF p0.Rects zG]) (k := 1) rfl 1) rfl) (Tr.va rfl (fun _ _ a c => QF zA7 (a.ev rfl)) (Tr.va rfl (fun _ _ a c => VS (a.ev rfl) (a.ev rfl)) (Tr.nil (Tr.zA (Tr.cond rfl H (fun H => ?_) (fun H => ?_)))))))))))
   ·refine Tr.sr (Tr.asg rfl rfl (Tr.nil (Tr.zA (Tr.ret (Tr.zb ?_)))))
    obtain rfl := oI H
    exact Tr.out (m := [iv 2]) [] (zU rfl zV) (fun W hW => ⟨rfl, hW.low leB⟩)
   ·refine Tr.skip (Tr.zA (Tr.seq (Tr.sr (Tr.va rfl (fun _ _ a c => zB zFE (a.ev rfl)) (Tr.va rfl (fun _ _ a c => zD zNC (a.ev rfl) (rdb c (vs := [sv p0.Name, sL zF p0.Rects zG]) (k := 1) rfl 1) rfl) (Tr.va rfl (fun _ _ a c => QF zA7 (a.ev rfl)) (Tr.mv rfl rfl (Tr.nil (Tr.zA (Tr.block (Tr.loop (σ := (List zK) × Nat) (fun m w s => m = s.1.length + 1 ∧ s.1 = List.drop s.2 p0.Rects ∧ s.2 ≤ p0.Rects.length ∧ Kh p1 s.1 s.2 = some r) (fun s => [(1, iv p1), (20, sL zF p0.Rects zG), (21, iv (p0.Rects.length : Int)), (22, iv (s.2 : Int))]) (fun s => []) (p0.Rects.length + 1) (p0.Rects, 0) ⟨rfl, rfl, Nat.zero_le _, H⟩ (.cons rfl (.cons rfl (.cons rfl (.cons rfl .nil)))) .nil (fun _ _ h => absurd h.1 (by simp)) ?_)))))))))))
    intro w Qc m s hs
    obtain ⟨zY, iL1⟩ := s
    obtain ⟨Ki, QE, hiL1, H⟩ := hs
    replace QE : zY = List.drop iL1 p0.Rects := QE
    replace H : Kh p1 zY iL1 = some r := H
    replace Ki : m + 1 = zY.length + 1 := Ki
    replace zT := zT.leR Qc
    replace leB := leB.trans Qc
    obtain rfl : m = zY.length := by omega
    clear Ki
    dsimp only
    cases zY with
    | nil =>
     rw [Kh.eq_1] at H
     refine Tr.sr (Tr.va rfl (fun _ _ a c => QD (a.ev rfl) (a.ev rfl)) (Tr.nil (Tr.zA (Tr.seq (Tr.Vy rfl (JA QE) (Tr.exit (Tr.ze (Tr.ze (Tr.QK (Tr.zA (Tr.sr (Tr.asg rfl rfl (Tr.nil (Tr.zA (Tr.ret ?_)))))))))))))))
     obtain rfl := oI H
     exact Tr.out (m := [iv 0]) [] (zU rfl zV) (fun W hW => ⟨rfl, hW.low leB⟩)
    | cons xL1 zY =>
     rw [Kh.eq_2] at H
     refine Tr.sr (Tr.va rfl (fun _ _ a c => QD (a.ev rfl) (a.ev rfl)) (Tr.nil (Tr.zA (Tr.seq (Tr.Vx rfl (JU QE) (Tr.skip (Tr.zA (Tr.seq (Tr.block (Tr.sr (Tr.va rfl (fun _ _ a c => zL zB5 (a.ev rfl) zT.form (a.ev rfl) (Int.natCast_nonneg _) (QC QE)) (Tr.va rfl (fun _ _ a c => zX (cs := [iv xL1.X0, iv xL1.Y0, iv xL1.X1, iv xL1.Y1]) zAu KM (a.ev rfl) (zO.take (rdF VP zT (KH QE) c) 4) rfl) (Tr.alloc 3 (wn rfl) rfl zDE fun zKQ => (Tr.store 3 (cs := [iv xL1.X0, iv xL1.Y0, iv xL1.X1, iv xL1.Y1]) [iv xL1.X0, iv xL1.Y0, iv xL1.X1, iv xL1.Y1] (wn rfl) rfl rfl rfl rfl KM rfl rfl rfl (Tr.nil (Tr.zA (Tr.seq (Tr.sr (Tr.va rfl (fun _ _ a c => zB WX (a.ev rfl)) ?_)))))))))))))))))))
     refine Tr.va rfl (fun _ _ a c => zD zm (a.ev rfl) (rdb c (vs := [iv xL1.X0, iv xL1.Y0, iv xL1.X1, iv xL1.Y1]) (k := 3) rfl 0) rfl) (Tr.mv rfl rfl ?_)
     obtain ⟨zFa, zTY, H⟩ := bnd H
     refine Tr.Qa (r := (bV zFa)) (wn rfl) rfl Tryz.call66 (zH rfl (zH rfl zP)) (fun W hW => zBQ xL1.X0 p1 zFa zTY (HF.start _)) (Tr.va rfl (fun _ _ a c => KD (a.ev rfl)) (Tr.mv rfl rfl ?_))
     obtain ⟨zau, zQo, H⟩ := bnd H
     refine Tr.Vw 6 [(1, iv p1), (6, pV zKQ), (20, sL zF p0.Rects zG), (21, iv (p0.Rects.length : Int)), (22, iv (iL1 : Int)), (37, bV zau)] [(3, bx zKQ #[iv xL1.X0, iv xL1.Y0, iv xL1.X1, iv xL1.Y1] 40)] ?_ ?_
     ·cases zIE : (!zFa)
      ·rw [zIE] at zQo
       rw [if_neg (by decide)] at zQo
       have H := zQo
       refine Tr.val (wg rfl rfl rfl) rfl (fun _ _ a c => zB zAq (a.ev rfl)) (Tr.val (wg rfl rfl rfl) rfl (fun _ _ a c => zD zm (a.ev rfl) (rdb c (vs := [iv xL1.X0, iv xL1.Y0, iv xL1.X1, iv xL1.Y1]) (k := 3) rfl 1) rfl) (Tr.val (wg rfl rfl rfl) rfl (fun _ _ a c => run_move (a.ev rfl)) ?_))
       obtain ⟨zbt, zk2, H⟩ := bnd H
       refine Tr.Qa (r := (bV zbt)) (wg rfl rfl rfl) rfl Tryz.call66 (zH rfl (zH rfl zP)) (fun W hW => zBQ xL1.Y0 p1 zbt zk2 (HF.start _)) (Tr.val (wg rfl rfl rfl) rfl (fun _ _ a c => KD (a.ev rfl)) (Tr.va rfl (fun _ _ a c => zy (a.ev rfl) (a.ev rfl)) ?_))
       obtain rfl := oI H
       exact Tr.nil (Tr.JD (.cons rfl (.cons rfl (.cons rfl (.cons rfl (.cons rfl (.cons rfl .nil)))))) (.cons rfl .nil))
      ·rw [zIE] at zQo
       rw [if_pos rfl] at zQo
       have H := zQo
       obtain rfl := oI H
       exact Tr.pass rfl rfl rfl rfl rfl (by decide) (Tr.pass rfl rfl rfl rfl rfl (by decide) (Tr.pass rfl rfl rfl rfl rfl (by decide) (Tr.pass rfl rfl rfl rfl rfl (by decide) (Tr.pass rfl rfl rfl rfl rfl (by decide) (Tr.va rfl (fun _ _ a c => zx (a.ev rfl) (a.ev rfl)) (Tr.nil (Tr.JD (.cons rfl (.cons rfl (.cons rfl (.cons rfl (.cons rfl (.cons rfl .nil)))))) (.cons rfl .nil))))))))
     ·show Tr _ _ (LF [(1, iv p1), (6, pV zKQ), (20, sL zF p0.Rects zG), (21, iv (p0.Rects.length : Int)), (22, iv (iL1 : Int)), (37, bV zau)]) (LE [(3, bx zKQ #[iv xL1.X0, iv xL1.Y0, iv xL1.X1, iv xL1.Y1] 40)]) _
      refine Tr.mv rfl rfl ?_
      obtain ⟨zat, zAp, H⟩ := bnd H
      refine Tr.Vw 6 [(1, iv p1), (6, pV zKQ), (20, sL zF p0.Rects zG), (21, iv (p0.Rects.length : Int)), (22, iv (iL1 : Int)), (44, bV zat)] [(3, bx zKQ #[iv xL1.X0, iv xL1.Y0, iv xL1.X1, iv xL1.Y1] 40)] ?_ ?_
      ·cases zIE : zau
       ·rw [zIE] at zAp
        rw [if_neg (by decide)] at zAp
        have H := zAp
        refine Tr.val (wg rfl rfl rfl) rfl (fun _ _ a c => zB zC0 (a.ev rfl)) (Tr.val (wg rfl rfl rfl) rfl (fun _ _ a c => zD zm (a.ev rfl) (rdb c (vs := [iv xL1.X0, iv xL1.Y0, iv xL1.X1, iv xL1.Y1]) (k := 3) rfl 2) rfl) (Tr.val (wg rfl rfl rfl) rfl (fun _ _ a c => run_move (a.ev rfl)) ?_))
        obtain ⟨Vj, zTW, H⟩ := bnd H
        refine Tr.Qa (r := (bV Vj)) (wg rfl rfl rfl) rfl Tryz.call66 (zH rfl (zH rfl zP)) (fun W hW => zBQ xL1.X1 p1 Vj zTW (HF.start _)) (Tr.val (wg rfl rfl rfl) rfl (fun _ _ a c => KD (a.ev rfl)) (Tr.va rfl (fun _ _ a c => zy (a.ev rfl) (a.ev rfl)) ?_))
        obtain rfl := oI H
        exact Tr.nil (Tr.JD (.cons rfl (.cons rfl (.cons rfl (.cons rfl (.cons rfl (.cons rfl .nil)))))) (.cons rfl .nil))
       ·rw [zIE] at zAp
        rw [if_pos rfl] at zAp
        have H := zAp
        obtain rfl := oI H
        exact Tr.pass rfl rfl rfl rfl rfl (by decide) (Tr.pass rfl rfl rfl rfl rfl (by decide) (Tr.pass rfl rfl rfl rfl rfl (by decide) (Tr.pass rfl rfl rfl rfl rfl (by decide) (Tr.pass rfl rfl rfl rfl rfl (by decide) (Tr.va rfl (fun _ _ a c => zx (a.ev rfl) (a.ev rfl)) (Tr.nil (Tr.JD (.cons rfl (.cons rfl (.cons rfl (.cons rfl (.cons rfl (.cons rfl .nil)))))) (.cons rfl .nil))))))))
      ·show Tr _ _ (LF [(1, iv p1), (6, pV zKQ), (20, sL zF p0.Rects zG), (21, iv (p0.Rects.length : Int)), (22, iv (iL1 : Int)), (44, bV zat)]) (LE [(3, bx zKQ #[iv xL1.X0, iv xL1.Y0, iv xL1.X1, iv xL1.Y1] 40)]) _
       refine Tr.mv rfl rfl ?_
       obtain ⟨zc6, zQl, H⟩ := bnd H
       refine Tr.Vw 6 [(1, iv p1), (6, pV zKQ), (20, sL zF p0.Rects zG), (21, iv (p0.Rects.length : Int)), (22, iv (iL1 : Int)), (51, bV zc6)] [(3, bx zKQ #[iv xL1.X0, iv xL1.Y0, iv xL1.X1, iv xL1.Y1] 40)] ?_ ?_
       ·cases zIE : zat
        ·rw [zIE] at zQl
         rw [if_neg (by decide)] at zQl
         have H := zQl
         refine Tr.val (wg rfl rfl rfl) rfl (fun _ _ a c => zB zDe (a.ev rfl)) (Tr.val (wg rfl rfl rfl) rfl (fun _ _ a c => zD zm (a.ev rfl) (rdb c (vs := [iv xL1.X0, iv xL1.Y0, iv xL1.X1, iv xL1.Y1]) (k := 3) rfl 3) rfl) (Tr.val (wg rfl rfl rfl) rfl (fun _ _ a c => run_move (a.ev rfl)) ?_))
         obtain ⟨zGZ, zTU, H⟩ := bnd H
         refine Tr.Qa (r := (bV zGZ)) (wg rfl rfl rfl) rfl Tryz.call66 (zH rfl (zH rfl zP)) (fun W hW => zBQ xL1.Y1 p1 zGZ zTU (HF.start _)) (Tr.val (wg rfl rfl rfl) rfl (fun _ _ a c => KD (a.ev rfl)) (Tr.va rfl (fun _ _ a c => zy (a.ev rfl) (a.ev rfl)) ?_))
         obtain rfl := oI H
         exact Tr.nil (Tr.JD (.cons rfl (.cons rfl (.cons rfl (.cons rfl (.cons rfl (.cons rfl .nil)))))) (.cons rfl .nil))
        ·rw [zIE] at zQl
         rw [if_pos rfl] at zQl
         have H := zQl
         obtain rfl := oI H
         exact Tr.pass rfl rfl rfl rfl rfl (by decide) (Tr.pass rfl rfl rfl rfl rfl (by decide) (Tr.pass rfl rfl rfl rfl rfl (by decide) (Tr.pass rfl rfl rfl rfl rfl (by decide) (Tr.pass rfl rfl rfl rfl rfl (by decide) (Tr.va rfl (fun _ _ a c => zx (a.ev rfl) (a.ev rfl)) (Tr.nil (Tr.JD (.cons rfl (.cons rfl (.cons rfl (.cons rfl (.cons rfl (.cons rfl .nil)))))) (.cons rfl .nil))))))))
       ·show Tr _ _ (LF [(1, iv p1), (6, pV zKQ), (20, sL zF p0.Rects zG), (21, iv (p0.Rects.length : Int)), (22, iv (iL1 : Int)), (51, bV zc6)]) (LE [(3, bx zKQ #[iv xL1.X0, iv xL1.Y0, iv xL1.X1, iv xL1.Y1] 40)]) _
        refine Tr.nil (Tr.zA (Tr.cond rfl H (fun H => ?_) (fun H => ?_)))
        ·refine Tr.sr (Tr.asg rfl rfl (Tr.nil (Tr.zA (Tr.ret (Tr.zb (Tr.QP (Tr.zb (Tr.zb (Tr.QP (Tr.zb ?_))))))))))
         obtain rfl := oI H
         exact Tr.out (m := [iv 1]) [] (zU rfl zV) (fun W hW => ⟨rfl, hW.low leB⟩)
        ·refine Tr.skip (Tr.zA (Tr.sr (Tr.va rfl (fun _ _ a c => zB zC0 (a.ev rfl)) (Tr.va rfl (fun _ _ a c => zD zm (a.ev rfl) (rdb c (vs := [iv xL1.X0, iv xL1.Y0, iv xL1.X1, iv xL1.Y1]) (k := 3) rfl 2) rfl) (Tr.va rfl (fun _ _ a c => zB WX (a.ev rfl)) (Tr.va rfl (fun _ _ a c => zD zm (a.ev rfl) (rdb c (vs := [iv xL1.X0, iv xL1.Y0, iv xL1.X1, iv xL1.Y1]) (k := 3) rfl 0) rfl) (Tr.va rfl (fun _ _ a c => zAX (a.ev rfl) (a.ev rfl)) (Tr.mv rfl rfl (Tr.Vw 6 [(1, iv p1), (20, sL zF p0.Rects zG), (21, iv (p0.Rects.length : Int)), (22, iv (iL1 : Int)), (63, bV ((decide (xL1.X1 ≤ xL1.X0)) || (decide (xL1.Y1 ≤ xL1.Y0))))] [(3, bx zKQ #[iv xL1.X0, iv xL1.Y0, iv xL1.X1, iv xL1.Y1] 40)] ?_ ?_)))))))))
         ·cases zIE : (decide (xL1.X1 ≤ xL1.X0))
          ·exact Tr.val (wg rfl rfl rfl) rfl (fun _ _ a c => zB zDe (a.ev rfl)) (Tr.val (wg rfl rfl rfl) rfl (fun _ _ a c => zD zm (a.ev rfl) (rdb c (vs := [iv xL1.X0, iv xL1.Y0, iv xL1.X1, iv xL1.Y1]) (k := 3) rfl 3) rfl) (Tr.val (wg rfl rfl rfl) rfl (fun _ _ a c => zB zAq (a.ev rfl)) (Tr.val (wg rfl rfl rfl) rfl (fun _ _ a c => zD zm (a.ev rfl) (rdb c (vs := [iv xL1.X0, iv xL1.Y0, iv xL1.X1, iv xL1.Y1]) (k := 3) rfl 1) rfl) (Tr.val (wg rfl rfl rfl) rfl (fun _ _ a c => zAX (a.ev rfl) (a.ev rfl)) (Tr.va rfl (fun _ _ a c => zy (a.ev rfl) (a.ev rfl)) (Tr.nil (Tr.JD (.cons rfl (.cons rfl (.cons rfl (.cons rfl (.cons rfl .nil))))) (.cons rfl .nil))))))))
          ·exact Tr.pass rfl rfl rfl rfl rfl (by decide) (Tr.pass rfl rfl rfl rfl rfl (by decide) (Tr.pass rfl rfl rfl rfl rfl (by decide) (Tr.pass rfl rfl rfl rfl rfl (by decide) (Tr.pass rfl rfl rfl rfl rfl (by decide) (Tr.va rfl (fun _ _ a c => zx (a.ev rfl) (a.ev rfl)) (Tr.nil (Tr.JD (.cons rfl (.cons rfl (.cons rfl (.cons rfl (.cons rfl .nil))))) (.cons rfl .nil))))))))
         ·show Tr _ _ (LF [(1, iv p1), (20, sL zF p0.Rects zG), (21, iv (p0.Rects.length : Int)), (22, iv (iL1 : Int)), (63, bV ((decide (xL1.X1 ≤ xL1.X0)) || (decide (xL1.Y1 ≤ xL1.Y0))))]) (LE [(3, bx zKQ #[iv xL1.X0, iv xL1.Y0, iv xL1.X1, iv xL1.Y1] 40)]) _
          refine Tr.nil (Tr.zA (Tr.cond rfl H (fun H => ?_) (fun H => ?_)))
          ·refine Tr.sr (Tr.asg rfl rfl (Tr.nil (Tr.zA (Tr.ret (Tr.QP (Tr.zb (Tr.zb (Tr.QP (Tr.zb ?_)))))))))
           obtain rfl := oI H
           exact Tr.out (m := [iv 13]) [] (zU rfl zV) (fun W hW => ⟨rfl, hW.low leB⟩)
          ·exact Tr.skip (Tr.zh (Tr.zA (Tr.region (Tr.va rfl (fun _ _ a c => zo (a.ev rfl) (a.ev rfl)) (Tr.mv rfl rfl (Tr.nil (Tr.zf Qc (zY, (iL1 + 1)) ⟨rfl, Qe QE, QC QE, H⟩ (.cons rfl (.cons rfl (.cons rfl (.cons (congrArg (fun z => some (Value.int .i64 z)) (Qd QE zT.form)) .nil)))) .nil)))))))

theorem zGR {w : Bs} (p0 : Int) (r : Int) (H : zBN p0 = some r) (hE : HF w w.W E0) : Calls Tryz.prog 78 [iv p0].toArray w.W fun e W' => e = .returned (iv r) ∧ HF w W' E0 := by
 unfold zBN at H
 have leB := Bs.Le.refl w
 refine Tr.enter (n := 6) Tryz.func78 rfl rfl rfl hE (Tr.sr (Tr.asg rfl rfl (Tr.nil (Tr.zA (Tr.seq (Tr.sr (Tr.mv rfl rfl ?_)))))))
 obtain ⟨QT, zBG, H⟩ := bnd H
 refine Tr.Qa (r := (bV QT)) (wn rfl) rfl Tryz.call38 (zH rfl (zH rfl (zH rfl zP))) (fun W hW => zAN p0 1 100 QT zBG (HF.start _)) (Tr.nil (Tr.zA (Tr.cond rfl H (fun H => ?_) (fun H => ?_))))
 ·refine Tr.sr (Tr.mv rfl rfl (Tr.asg rfl rfl (Tr.nil (Tr.zA (Tr.ret (Tr.zb ?_))))))
  obtain rfl := oI H
  exact Tr.out (m := [iv p0]) [] (zU rfl zV) (fun W hW => ⟨rfl, hW.low leB⟩)
 ·refine Tr.skip (Tr.zA (Tr.sr (Tr.asg rfl rfl (Tr.nil (Tr.zA (Tr.ret ?_))))))
  obtain rfl := oI H
  exact Tr.out (m := [iv 1]) [] (zU rfl zV) (fun W hW => ⟨rfl, hW.low leB⟩)

theorem zNP {w : Bs} (p0 : zC) (zF : Option Addr) (zG : Nat) (zT : Sl w.R w.W zz zF zG p0.Points) (zN : Option Addr) (zM : Nat) (QV : Sl w.R w.W zJ zN zM p0.Steps) (r : Int) (H : zDm p0 = some r) (hE : HF w w.W E0) : Calls Tryz.prog 67 [.agg #[iv p0.Kind, sv p0.Name, iv p0.At.X, iv p0.At.Y, sL zF p0.Points zG, iv p0.NX, iv p0.NY, sL zN p0.Steps zM]].toArray w.W fun e W' => e = .returned (iv r) ∧ HF w W' E0 := by
 unfold zDm at H
 have leB := Bs.Le.refl w
 refine Tr.enter (n := 13) Tryz.func67 rfl rfl rfl hE (Tr.sr (Tr.box 1 (cs := [iv p0.Kind, sv p0.Name, iv p0.At.X, iv p0.At.Y, sL zF p0.Points zG, iv p0.NX, iv p0.NY, sL zN p0.Steps zM]) (wn rfl) rfl rfl rfl fun zw => (Tr.asg rfl rfl (Tr.nil (Tr.zA (Tr.sr (Tr.asg rfl rfl (Tr.nil (Tr.zA (Tr.seq (Tr.draw (by kernel_rfl) (by kernel_rfl) (Tq.mv rfl rfl (Tq.va rfl (fun _ _ a c => zB zJZ (a.ev rfl)) (Tq.va rfl (fun _ _ a c => zD zm (a.ev rfl) (rdb c (vs := [iv p0.Kind, sv p0.Name, iv p0.At.X, iv p0.At.Y, sL zF p0.Points zG, iv p0.NX, iv p0.NY, sL zN p0.Steps zM]) (k := 1) rfl 5) rfl) ?_))))))))))))))
 obtain ⟨y101, hy101, H⟩ := bnd H
 refine Tq.zLY (r := (iv y101)) (wn rfl) rfl rfl Tryz.call78 (zH rfl zP) (fun W hW => zGR p0.NX y101 hy101 (HF.start _)) (Tq.mv rfl rfl (Tq.va rfl (fun _ _ a c => zB zJY (a.ev rfl)) (Tq.va rfl (fun _ _ a c => zD zm (a.ev rfl) (rdb c (vs := [iv p0.Kind, sv p0.Name, iv p0.At.X, iv p0.At.Y, sL zF p0.Points zG, iv p0.NX, iv p0.NY, sL zN p0.Steps zM]) (k := 1) rfl 6) rfl) ?_)))
 obtain ⟨y102, hy102, H⟩ := bnd H
 refine Tq.zLY (r := (iv y102)) (wn rfl) rfl rfl Tryz.call78 (zH rfl zP) (fun W hW => zGR p0.NY y102 hy102 (HF.start _)) (Tq.va rfl (fun _ _ a c => zB4 (a.ev rfl) (a.ev rfl)) (Tq.asg rfl rfl (Tq.nil (Tr.zA (Tr.ret ?_)))))
 obtain rfl := oI H
 exact Tr.out (m := [iv (w64 (y101 * y102))]) [] (zU rfl zV) (fun W hW => ⟨rfl, hW.low leB⟩)

theorem zLh (N : Nat) (rec : (List zC) → Option Int) (hrec : ∀ {w : Bs} (p0 : (List zC)) (zF : Option Addr) (zG : Nat) (zT : Sl w.R w.W zJ zF zG p0) (r : Int) (H : rec p0 = some r) (hE : HF w w.W E0), Calls Tryz.prog 40 [sL zF p0 zG].toArray w.W fun e W' => e = .returned (iv r) ∧ HF w W' E0) {w : Bs} (p0 : (List zC)) (zF : Option Addr) (zG : Nat) (zT : Sl w.R w.W zJ zF zG p0) (r : Int) (H : zFt N rec p0 = some r) (hE : HF w w.W E0) : Calls Tryz.prog 40 [sL zF p0 zG].toArray w.W fun e W' => e = .returned (iv r) ∧ HF w W' E0 := by
 unfold zFt at H
 have leB := Bs.Le.refl w
 refine Tr.enter (n := 30) Tryz.func40 rfl rfl rfl hE (Tr.sr (Tr.asg rfl rfl (Tr.nil (Tr.zA (Tr.sr (Tr.asg rfl rfl (Tr.nil (Tr.zA (Tr.seq (Tr.sr (Tr.mv rfl rfl (Tr.va rfl (fun _ _ a c => QF zF8 (a.ev rfl)) (Tr.mv rfl rfl (Tr.nil (Tr.zA (Tr.block (Tr.loop (σ := (List zC) × Nat × Int) (fun m w s => m = s.1.length + 1 ∧ s.1 = List.drop s.2.1 p0 ∧ s.2.1 ≤ p0.length ∧ Ja rec s.1 s.2.1 s.2.2 = some r) (fun s => [(3, iv s.2.2), (6, sL zF p0 zG), (7, iv (p0.length : Int)), (8, iv (s.2.1 : Int))]) (fun s => []) (p0.length + 1) (p0, 0, 0) ⟨rfl, rfl, Nat.zero_le _, H⟩ (.cons rfl (.cons rfl (.cons rfl (.cons rfl .nil)))) .nil (fun _ _ h => absurd h.1 (by simp)) ?_)))))))))))))))))
 intro w WU m s hs
 obtain ⟨Qu, iL3, zN1⟩ := s
 obtain ⟨zHd, zAC, hiL3, H⟩ := hs
 replace zAC : Qu = List.drop iL3 p0 := zAC
 replace H : Ja rec Qu iL3 zN1 = some r := H
 replace zHd : m + 1 = Qu.length + 1 := zHd
 replace zT := zT.leR WU
 replace leB := leB.trans WU
 obtain rfl : m = Qu.length := by omega
 clear zHd
 dsimp only
 cases Qu with
 | nil =>
  rw [Ja.eq_1] at H
  refine Tr.sr (Tr.va rfl (fun _ _ a c => QD (a.ev rfl) (a.ev rfl)) (Tr.nil (Tr.zA (Tr.seq (Tr.Vy rfl (JA zAC) (Tr.exit (Tr.ze (Tr.ze (Tr.QK (Tr.zA (Tr.sr (Tr.mv rfl rfl (Tr.asg rfl rfl (Tr.nil (Tr.zA (Tr.ret ?_))))))))))))))))
  obtain rfl := oI H
  exact Tr.out (m := [iv zN1]) [] (zU rfl zV) (fun W hW => ⟨rfl, hW.low leB⟩)
 | cons xL3 Qu =>
  rw [Ja.eq_2] at H
  refine Tr.sr (Tr.va rfl (fun _ _ a c => QD (a.ev rfl) (a.ev rfl)) (Tr.nil (Tr.zA (Tr.seq (Tr.Vx rfl (JU zAC) (Tr.skip (Tr.zA (Tr.seq (Tr.block (Tr.sr ?_))))))))))
  obtain ⟨u127, hRu127, zco, hcu127⟩ := (zT).el (KH zAC)
  obtain ⟨⟨zFR, zFJ⟩, ⟨zER, zEL⟩⟩ := u127
  obtain ⟨zMM, zJN⟩ := WI.1 zco
  replace zMM : Sl w.R w.W zz zFR zFJ xL3.Points := zMM
  replace zJN : Sl w.R w.W zJ zER zEL xL3.Steps := zJN
  refine Tr.va rfl (fun _ _ a c => zL zIs (a.ev rfl) zT.form (a.ev rfl) (Int.natCast_nonneg _) (QC zAC)) (Tr.va rfl (fun _ _ a c => zX (cs := [iv xL3.Kind, sv xL3.Name, iv xL3.At.X, iv xL3.At.Y, sL zFR xL3.Points zFJ, iv xL3.NX, iv xL3.NY, sL zER xL3.Steps zEL]) zLb zET (a.ev rfl) (zO.take (rdR hRu127 hcu127 c) 8) rfl) (Tr.alloc 3 (wn rfl) rfl zSP fun zpG => (Tr.store 3 (cs := [iv xL3.Kind, sv xL3.Name, iv xL3.At.X, iv xL3.At.Y, sL zFR xL3.Points zFJ, iv xL3.NX, iv xL3.NY, sL zER xL3.Steps zEL]) [iv xL3.Kind, sv xL3.Name, iv xL3.At.X, iv xL3.At.Y, sL zFR xL3.Points zFJ, iv xL3.NX, iv xL3.NY, sL zER xL3.Steps zEL] (wn rfl) rfl rfl rfl rfl zET rfl rfl rfl (Tr.nil (Tr.zA (Tr.sr (Tr.mv rfl rfl (Tr.va rfl (fun _ _ a c => zo (a.ev rfl) (a.ev rfl)) (Tr.asg rfl rfl (Tr.nil (Tr.zA ?_)))))))))))
  have leJ132 := Bs.Le.refl w
  refine Tr.zIu (σ := Int) (fun w s => Ws (Ja rec Qu (iL3 + 1)) s = some r) (fun s => [(3, iv s), (6, sL zF p0 zG), (7, iv (p0.length : Int)), (8, iv (iL3 : Int))]) (fun s => []) ?_ ?_
  ·refine Tr.sr (Tr.va rfl (fun _ _ a c => zB zEF (a.ev rfl)) (Tr.va rfl (fun _ _ a c => zD zEg (a.ev rfl) (rdb c (vs := [iv xL3.Kind, sv xL3.Name, iv xL3.At.X, iv xL3.At.Y, sL zFR xL3.Points zFJ, iv xL3.NX, iv xL3.NY, sL zER xL3.Steps zEL]) (k := 3) rfl 7) rfl) (Tr.va rfl (fun _ _ a c => QF zF8 (a.ev rfl)) (Tr.va rfl (fun _ _ a c => VS (a.ev rfl) (a.ev rfl)) (Tr.nil (Tr.zA (Tr.cond rfl H (fun H => ?_) (fun H => ?_))))))))
   ·refine Tr.draw (by kernel_rfl) (by kernel_rfl) (Tq.mv rfl rfl (Tq.va rfl (fun _ _ a c => zX (cs := [iv xL3.Kind, sv xL3.Name, iv xL3.At.X, iv xL3.At.Y, sL zFR xL3.Points zFJ, iv xL3.NX, iv xL3.NY, sL zER xL3.Steps zEL]) zLb zET (a.ev rfl) (zO.take (rdb c (vs := [iv xL3.Kind, sv xL3.Name, iv xL3.At.X, iv xL3.At.Y, sL zFR xL3.Points zFJ, iv xL3.NX, iv xL3.NY, sL zER xL3.Steps zEL]) (k := 3) rfl 0) 8) rfl) ?_))
    obtain ⟨zYX, zkz, H⟩ := bnd H
    refine Tq.Qa (r := (iv zYX)) (wn rfl) rfl Tryz.call67 (zH rfl zP) (fun W hW => zNP xL3 zFR zFJ (zMM.ext hW.Qr) zER zEL (zJN.ext hW.Qr) zYX zkz (HF.start _)) (Tq.va rfl (fun _ _ a c => zB zEF (a.ev rfl)) (Tq.va rfl (fun _ _ a c => zD zEg (a.ev rfl) (rdb c (vs := [iv xL3.Kind, sv xL3.Name, iv xL3.At.X, iv xL3.At.Y, sL zFR xL3.Points zFJ, iv xL3.NX, iv xL3.NY, sL zER xL3.Steps zEL]) (k := 3) rfl 7) rfl) ?_))
    obtain ⟨zYW, zky, H⟩ := bnd H
    exact Tq.Qa (r := (iv zYW)) (wn rfl) rfl Tryz.call40 (zH rfl zP) (fun W hW => hrec xL3.Steps zER zEL (zJN.ext hW.Qr) zYW zky (HF.start _)) (Tq.va rfl (fun _ _ a c => zB4 (a.ev rfl) (a.ev rfl)) (Tq.va rfl (fun _ _ a c => zo (a.ev rfl) (a.ev rfl)) (Tq.asg rfl rfl (Tq.nil (Tr.zf leJ132 (w64 ((w64 (zN1 + 1)) + (w64 (zYX * zYW)))) H (.cons rfl (.cons rfl (.cons rfl (.cons rfl .nil)))) .nil)))))
   ·exact Tr.skip (Tr.zf leJ132 (w64 (zN1 + 1)) H (.cons rfl (.cons rfl (.cons rfl (.cons rfl .nil)))) .nil)
  ·intro w zXp hlJ133 hs
   have H := hs
   replace H : Ws (Ja rec Qu (iL3 + 1)) zXp = some r := H
   replace zT := zT.leR hlJ133
   replace leB := leB.trans hlJ133
   replace WU := WU.trans hlJ133
   unfold Ws at H
   show Tr _ _ (LF [(3, iv zXp), (6, sL zF p0 zG), (7, iv (p0.length : Int)), (8, iv (iL3 : Int))]) (LE []) _
   refine Tr.sr (Tr.mv rfl rfl (Tr.va rfl (fun _ _ a c => VS (a.ev rfl) (a.ev rfl)) (Tr.nil (Tr.zA (Tr.cond rfl H (fun H => ?_) (fun H => ?_))))))
   ·refine Tr.sr (Tr.asg rfl rfl (Tr.nil (Tr.zA (Tr.ret (Tr.QP (Tr.zb (Tr.zb (Tr.QP (Tr.zb ?_)))))))))
    obtain rfl := oI H
    exact Tr.out (m := [iv 3001]) [] (zU rfl zV) (fun W hW => ⟨rfl, hW.low leB⟩)
   ·exact Tr.skip (Tr.zh (Tr.zA (Tr.region (Tr.va rfl (fun _ _ a c => zo (a.ev rfl) (a.ev rfl)) (Tr.mv rfl rfl (Tr.nil (Tr.zf WU (Qu, (iL3 + 1), zXp) ⟨rfl, Qe zAC, QC zAC, H⟩ (.cons rfl (.cons rfl (.cons rfl (.cons (congrArg (fun z => some (Value.int .i64 z)) (Qd zAC zT.form)) .nil)))) .nil)))))))
theorem zIK : ∀ (N : Nat) {w : Bs} (p0 : (List zC)) (zF : Option Addr) (zG : Nat) (zT : Sl w.R w.W zJ zF zG p0) (r : Int) (H : zCc N p0 = some r) (hE : HF w w.W E0), Calls Tryz.prog 40 [sL zF p0 zG].toArray w.W fun e W' => e = .returned (iv r) ∧ HF w W' E0
 | 0 => by intros; rename_i H _; cases H
 | N + 1 => zLh N (zCc N) (zIK N)

theorem zBk {w : Bs} (p0 : Int) (r : zEN) (H : Vv p0 = some r) (hE : HF w w.W E0) : Calls Tryz.prog 17 [iv p0].toArray w.W fun e W' => e = .returned (.agg #[bV r.name, bV r.at_, bV r.points, bV r.repeat_]) ∧ HF w W' E0 := by
 unfold Vv at H
 have leB := Bs.Le.refl w
 refine Tr.enter (n := 19) Tryz.func17 rfl rfl rfl hE (Tr.sr (Tr.alloc 1 (wn rfl) rfl zdr fun zw => (Tr.nil (Tr.zA (Tr.seq (Tr.sr (Tr.mv rfl rfl (Tr.nil (Tr.zA (Tr.block (Tr.sr (Tr.va rfl (fun _ _ a c => Ql (a.ev rfl) (a.ev rfl)) (Tr.asg rfl rfl (Tr.nil (Tr.zA (Tr.cond rfl H (fun H => ?_) (fun H => ?_)))))))))))))))))
 ·refine Tr.sr (Tr.build (vs := [(0, bV true)]) (cs := [bV true, bV false, bV false, bV false]) (wn rfl) rfl (zi rfl QW) (by kernel_rfl) (Tr.store 1 (cs := [bV true, bV false, bV false, bV false]) [bV true, bV false, bV false, bV false] (wn rfl) rfl rfl rfl rfl zIZ rfl rfl rfl (Tr.nil (Tr.zA (Tr.ret (Tr.QP (Tr.zb ?_)))))))
  obtain rfl := oI H
  exact Tr.out (m := [.agg #[bV true, bV false, bV false, bV false]]) [1] (VI rfl rfl zUH zIZ zV) (fun W hW => ⟨rfl, hW.low leB⟩)
 ·have leJ102 := Bs.Le.refl w
  refine Tr.zIu (σ := Bool) (fun w s => VY p0 s = some r) (fun s => [(2, pV zw), (3, iv p0), (7, bV s)]) (fun s => [(1, bx zw #[bV false, bV false, bV false, bV false] 55)]) ?_ ?_
  ·refine Tr.sr (Tr.va rfl (fun _ _ a c => Ql (a.ev rfl) (a.ev rfl)) (Tr.asg rfl rfl (Tr.nil (Tr.zA (Tr.cond rfl H (fun H => ?_) (fun H => ?_))))))
   ·exact Tr.skip (Tr.zf leJ102 (p0 == 4) H (.cons rfl (.cons rfl (.cons rfl .nil))) (.cons rfl .nil))
   ·refine Tr.sr (Tr.va rfl (fun _ _ a c => Ql (a.ev rfl) (a.ev rfl)) (Tr.asg rfl rfl (Tr.nil (Tr.zA (Tr.cond rfl H (fun H => ?_) (fun H => ?_))))))
    ·exact Tr.skip (Tr.zf leJ102 (p0 == 5) H (.cons rfl (.cons rfl (.cons rfl .nil))) (.cons rfl .nil))
    ·exact Tr.region (Tr.va rfl (fun _ _ a c => Ql (a.ev rfl) (a.ev rfl)) (Tr.asg rfl rfl (Tr.nil (Tr.zf leJ102 (p0 == 6) H (.cons rfl (.cons rfl (.cons rfl .nil))) (.cons rfl .nil)))))
  ·intro w x101 hlJ103 hs
   have H := hs
   replace H : VY p0 x101 = some r := H
   replace leB := leB.trans hlJ103
   unfold VY at H
   show Tr _ _ (LF [(2, pV zw), (3, iv p0), (7, bV x101)]) (LE [(1, bx zw #[bV false, bV false, bV false, bV false] 55)]) _
   refine Tr.cond rfl H (fun H => ?_) (fun H => ?_)
   ·refine Tr.sr (Tr.build (vs := [(1, bV true)]) (cs := [bV false, bV true, bV false, bV false]) (wn rfl) rfl (zi rfl QW) (by kernel_rfl) (Tr.store 1 (cs := [bV false, bV true, bV false, bV false]) [bV false, bV true, bV false, bV false] (wn rfl) rfl rfl rfl rfl zIZ rfl rfl rfl (Tr.nil (Tr.zA (Tr.ret (Tr.QP (Tr.zb ?_)))))))
    obtain rfl := oI H
    exact Tr.out (m := [.agg #[bV false, bV true, bV false, bV false]]) [1] (VI rfl rfl zUH zIZ zV) (fun W hW => ⟨rfl, hW.low leB⟩)
   ·refine Tr.sr (Tr.va rfl (fun _ _ a c => Ql (a.ev rfl) (a.ev rfl)) (Tr.asg rfl rfl (Tr.nil (Tr.zA (Tr.cond rfl H (fun H => ?_) (fun H => ?_))))))
    ·refine Tr.sr (Tr.build (vs := [(2, bV true)]) (cs := [bV false, bV false, bV true, bV false]) (wn rfl) rfl (zi rfl QW) (by kernel_rfl) (Tr.store 1 (cs := [bV false, bV false, bV true, bV false]) [bV false, bV false, bV true, bV false] (wn rfl) rfl rfl rfl rfl zIZ rfl rfl rfl (Tr.nil (Tr.zA (Tr.ret (Tr.QP (Tr.zb ?_)))))))
     obtain rfl := oI H
     exact Tr.out (m := [.agg #[bV false, bV false, bV true, bV false]]) [1] (VI rfl rfl zUH zIZ zV) (fun W hW => ⟨rfl, hW.low leB⟩)
    ·refine Tr.sr (Tr.va rfl (fun _ _ a c => Ql (a.ev rfl) (a.ev rfl)) (Tr.asg rfl rfl (Tr.nil (Tr.zA (Tr.cond rfl H (fun H => ?_) (fun H => ?_))))))
     ·refine Tr.sr (Tr.build (vs := [(1, bV true), (3, bV true)]) (cs := [bV false, bV true, bV false, bV true]) (wn rfl) rfl (zi rfl (zi rfl QW)) (by kernel_rfl) (Tr.store 1 (cs := [bV false, bV true, bV false, bV true]) [bV false, bV true, bV false, bV true] (wn rfl) rfl rfl rfl rfl zIZ rfl rfl rfl (Tr.nil (Tr.zA (Tr.ret (Tr.QP (Tr.zb ?_)))))))
      obtain rfl := oI H
      exact Tr.out (m := [.agg #[bV false, bV true, bV false, bV true]]) [1] (VI rfl rfl zUH zIZ zV) (fun W hW => ⟨rfl, hW.low leB⟩)
     ·refine Tr.skip (Tr.zh (Tr.zA (Tr.sr (Tr.build (vs := []) (cs := [bV false, bV false, bV false, bV false]) (wn rfl) rfl QW (by kernel_rfl) (Tr.store 1 (cs := [bV false, bV false, bV false, bV false]) [bV false, bV false, bV false, bV false] (wn rfl) rfl rfl rfl rfl zIZ rfl rfl rfl (Tr.nil (Tr.zA (Tr.ret ?_))))))))
      obtain rfl := oI H
      exact Tr.out (m := [.agg #[bV false, bV false, bV false, bV false]]) [1] (VI rfl rfl zUH zIZ zV) (fun W hW => ⟨rfl, hW.low leB⟩)

theorem zKY {w : Bs} (p0 : zg) (zF : Option Addr) (zG : Nat) (zT : Sl w.R w.W zR zF zG p0.Rects) (q0 : ByteArray) (bq0 : Nat) (hb0 : w.R bq0) (hc0 : zO w.W bq0 0 [sv q0]) (r : Bool) (H : zC5 p0 q0 = some r) (hE : HF w w.W E0) : Calls Tryz.prog 113 [.agg #[sv p0.Name, sL zF p0.Rects zG], pV bq0].toArray w.W fun e W' => e = .returned (bV r) ∧ HF w W' E0 := by
 unfold zC5 at H
 have leB := Bs.Le.refl w
 refine Tr.enter (n := 8) Tryz.func113 rfl rfl rfl hE (Tr.sr (Tr.box 1 (cs := [sv p0.Name, sL zF p0.Rects zG]) (wn rfl) rfl rfl rfl fun zw => (Tr.asg rfl rfl (Tr.nil (Tr.zA (Tr.sr (Tr.va rfl (fun _ _ a c => zB zLE (a.ev rfl)) (Tr.va rfl (fun _ _ a c => zD zPv (a.ev rfl) (rdb c (vs := [sv p0.Name, sL zF p0.Rects zG]) (k := 1) rfl 0) rfl) (Tr.va rfl (fun _ _ a c => zD zPv (a.ev rfl) (rdR hb0 hc0 c) rfl) (Tr.va rfl (fun _ _ a c => zSp (a.ev rfl) (a.ev rfl)) (Tr.asg rfl rfl (Tr.nil (Tr.zA (Tr.ret ?_))))))))))))))
 obtain rfl := oI H
 exact Tr.out (m := [bV (sEq p0.Name q0)]) [] (zU rfl zV) (fun W hW => ⟨rfl, hW.low leB⟩)

theorem zB1 {w : Bs} (p0 : (List zg)) (zF : Option Addr) (zG : Nat) (zT : Sl w.R w.W zW zF zG p0) (q0 : ByteArray) (bq0 : Nat) (hb0 : w.R bq0) (hc0 : zO w.W bq0 0 [sv q0]) (r : Int) (H : KF p0 q0 = some r) (hE : HF w w.W E0) : Calls Tryz.prog 112 [sL zF p0 zG, .func (.func 113) #[] #[pV bq0]].toArray w.W fun e W' => e = .returned (iv r) ∧ HF w W' E0 := by
 unfold KF at H
 have leB := Bs.Le.refl w
 refine Tr.enter (n := 19) Tryz.func112 rfl rfl rfl hE (Tr.sr (Tr.asg rfl rfl (Tr.nil (Tr.zA (Tr.seq (Tr.sr (Tr.mv rfl rfl (Tr.va rfl (fun _ _ a c => QF zMi (a.ev rfl)) (Tr.mv rfl rfl (Tr.nil (Tr.zA (Tr.block (Tr.loop (σ := (List zg) × Nat) (fun m w s => m = s.1.length + 1 ∧ s.1 = List.drop s.2 p0 ∧ s.2 ≤ p0.length ∧ QU q0 s.1 s.2 = some r) (fun s => [(0, sL zF p0 zG), (1, .func (.func 113) #[] #[pV bq0]), (7, iv (p0.length : Int)), (8, iv (s.2 : Int))]) (fun s => []) (p0.length + 1) (p0, 0) ⟨rfl, rfl, Nat.zero_le _, H⟩ (.cons rfl (.cons rfl (.cons rfl (.cons rfl .nil)))) .nil (fun _ _ h => absurd h.1 (by simp)) ?_)))))))))))))
 intro w Qc m s hs
 obtain ⟨zY, iL1⟩ := s
 obtain ⟨Ki, QE, hiL1, H⟩ := hs
 replace QE : zY = List.drop iL1 p0 := QE
 replace H : QU q0 zY iL1 = some r := H
 replace Ki : m + 1 = zY.length + 1 := Ki
 replace zT := zT.leR Qc
 replace hc0 := Qc.ext.cells hb0 hc0
 replace hb0 := Qc.r _ hb0
 replace leB := leB.trans Qc
 obtain rfl : m = zY.length := by omega
 clear Ki
 dsimp only
 cases zY with
 | nil =>
  rw [QU.eq_1] at H
  refine Tr.sr (Tr.va rfl (fun _ _ a c => QD (a.ev rfl) (a.ev rfl)) (Tr.nil (Tr.zA (Tr.seq (Tr.Vy rfl (JA QE) (Tr.exit (Tr.ze (Tr.ze (Tr.QK (Tr.zA (Tr.sr (Tr.asg rfl rfl (Tr.nil (Tr.zA (Tr.ret ?_)))))))))))))))
  obtain rfl := oI H
  exact Tr.out (m := [iv (-1)]) [] (zU rfl zV) (fun W hW => ⟨rfl, hW.low leB⟩)
 | cons xL1 zY =>
  rw [QU.eq_2] at H
  refine Tr.sr (Tr.va rfl (fun _ _ a c => QD (a.ev rfl) (a.ev rfl)) (Tr.nil (Tr.zA (Tr.seq (Tr.Vx rfl (JU QE) (Tr.skip (Tr.zA (Tr.seq (Tr.block (Tr.sr (Tr.mv rfl rfl (Tr.asg rfl rfl (Tr.nil (Tr.zA (Tr.sr (Tr.mv rfl rfl (Tr.mv rfl rfl (Tr.mv rfl rfl ?_))))))))))))))))))
  obtain ⟨zoO, hRu104, zcu, hcu104⟩ := (zT).el (KH QE)
  obtain ⟨zSN, zR6⟩ := zoO
  have zMO := zcu
  replace zMO : Sl w.R w.W zR zSN zR6 xL1.Rects := zMO
  refine Tr.va rfl (fun _ _ a c => zL zLL (a.ev rfl) zT.form (a.ev rfl) (Int.natCast_nonneg _) (QC QE)) (Tr.va rfl (fun _ _ a c => zX (cs := [sv xL1.Name, sL zSN xL1.Rects zR6]) zUG zKi (a.ev rfl) (zO.take (rdR hRu104 hcu104 c) 2) rfl) ?_)
  obtain ⟨VD, zOk, H⟩ := bnd H
  refine Tr.zLY (r := (bV VD)) (wn rfl) rfl rfl Tryz.call113 (zH rfl zP) (fun W hW => zKY xL1 zSN zR6 (zMO.ext hW.Qr) q0 bq0 (hW.Qr.r _ hb0) (hW.Qr.cells hb0 hc0) VD zOk (HF.start _)) (Tr.nil (Tr.zA (Tr.cond rfl H (fun H => ?_) (fun H => ?_))))
  ·refine Tr.sr (Tr.mv rfl rfl (Tr.asg rfl rfl (Tr.nil (Tr.zA (Tr.ret (Tr.QP (Tr.zb (Tr.zb (Tr.QP (Tr.zb ?_))))))))))
   obtain rfl := oI H
   exact Tr.out (m := [iv (iL1 : Int)]) [] (zU rfl zV) (fun W hW => ⟨rfl, hW.low leB⟩)
  ·exact Tr.skip (Tr.zh (Tr.zA (Tr.region (Tr.va rfl (fun _ _ a c => zo (a.ev rfl) (a.ev rfl)) (Tr.mv rfl rfl (Tr.nil (Tr.zf Qc (zY, (iL1 + 1)) ⟨rfl, Qe QE, QC QE, H⟩ (.cons rfl (.cons rfl (.cons rfl (.cons (congrArg (fun z => some (Value.int .i64 z)) (Qd QE zT.form)) .nil)))) .nil)))))))

theorem zHB {w : Bs} (p0 : zt) (zF : Option Addr) (zG : Nat) (zT : Sl w.R w.W zW zF zG p0.Tools) (zN : Option Addr) (zM : Nat) (QV : Sl w.R w.W zJ zN zM p0.Steps) (p1 : ByteArray) (r : Int) (H : zBy p0 p1 = some r) (hE : HF w w.W E0) : Calls Tryz.prog 79 [.agg #[iv p0.Unit, sL zF p0.Tools zG, sL zN p0.Steps zM], sv p1].toArray w.W fun e W' => e = .returned (iv r) ∧ HF w W' E0 := by
 unfold zBy at H
 have leB := Bs.Le.refl w
 refine Tr.enter (n := 9) Tryz.func79 rfl rfl rfl hE (Tr.sr (Tr.box 1 (cs := [iv p0.Unit, sL zF p0.Tools zG, sL zN p0.Steps zM]) (wn rfl) rfl rfl rfl fun zw => (Tr.box 2 (cs := [sv p1]) (wn rfl) rfl rfl rfl fun Qw => (Tr.asg rfl rfl (Tr.nil (Tr.zA (Tr.sr (Tr.va rfl (fun _ _ a c => zB zEH (a.ev rfl)) (Tr.va rfl (fun _ _ a c => zD zLc (a.ev rfl) (rdb c (vs := [iv p0.Unit, sL zF p0.Tools zG, sL zN p0.Steps zM]) (k := 1) rfl 1) rfl) (Tr.zFi (vs := [pV Qw]) (wn rfl) rfl (zH rfl zP) ?_))))))))))
 obtain ⟨y102, hy102, H⟩ := bnd H
 refine Tr.Qa (r := (iv y102)) (wn rfl) rfl Tryz.call112 (zH rfl (zH rfl zP)) (fun W hW => zB1 p0.Tools zF zG (zT.ext hW.Qr) p1 Qw (hW.zbE (k := 2) rfl) (hW.zdU (k := 2) rfl) y102 hy102 (HF.start _)) (Tr.asg rfl rfl (Tr.nil (Tr.zA (Tr.ret ?_))))
 obtain rfl := oI H
 exact Tr.out (m := [iv y102]) [] (zU rfl zV) (fun W hW => ⟨rfl, hW.low leB⟩)

theorem zGS {w : Bs} (p0 : zI) (p1 : Int) (r : Bool) (H : zBP p0 p1 = some r) (hE : HF w w.W E0) : Calls Tryz.prog 80 [.agg #[iv p0.X, iv p0.Y], iv p1].toArray w.W fun e W' => e = .returned (bV r) ∧ HF w W' E0 := by
 unfold zBP at H
 have leB := Bs.Le.refl w
 refine Tr.enter (n := 15) Tryz.func80 rfl rfl rfl hE (Tr.sr (Tr.box 1 (cs := [iv p0.X, iv p0.Y]) (wn rfl) rfl rfl rfl fun zw => (Tr.asg rfl rfl (Tr.nil (Tr.zA (Tr.sr (Tr.va rfl (fun _ _ a c => zB Qy (a.ev rfl)) (Tr.va rfl (fun _ _ a c => zD zm (a.ev rfl) (rdb c (vs := [iv p0.X, iv p0.Y]) (k := 1) rfl 0) rfl) (Tr.mv rfl rfl ?_)))))))))
 obtain ⟨y101, hy101, H⟩ := bnd H
 refine Tr.Qa (r := (bV y101)) (wn rfl) rfl Tryz.call66 (zH rfl (zH rfl zP)) (fun W hW => zBQ p0.X p1 y101 hy101 (HF.start _)) (Tr.mv rfl rfl ?_)
 obtain ⟨zF4, zBH, H⟩ := bnd H
 refine Tr.Vw 5 [(14, bV zF4)] [(1, bx zw #[iv p0.X, iv p0.Y] 27)] ?_ ?_
 ·cases zIp : y101
  ·rw [zIp] at zBH
   rw [if_neg (by decide)] at zBH
   have H := zBH
   obtain rfl := oI H
   exact Tr.pass rfl rfl rfl rfl rfl (by decide) (Tr.pass rfl rfl rfl rfl rfl (by decide) (Tr.pass rfl rfl rfl rfl rfl (by decide) (Tr.pass rfl rfl rfl rfl rfl (by decide) (Tr.va rfl (fun _ _ a c => zy (a.ev rfl) (a.ev rfl)) (Tr.nil (Tr.JD (.cons rfl .nil) (.cons rfl .nil)))))))
  ·rw [zIp] at zBH
   rw [if_pos rfl] at zBH
   have H := zBH
   refine Tr.val (wg rfl rfl rfl) rfl (fun _ _ a c => zB Qx (a.ev rfl)) (Tr.val (wg rfl rfl rfl) rfl (fun _ _ a c => zD zm (a.ev rfl) (rdb c (vs := [iv p0.X, iv p0.Y]) (k := 1) rfl 1) rfl) (Tr.val (wg rfl rfl rfl) rfl (fun _ _ a c => run_move (a.ev rfl)) ?_))
   obtain ⟨y104, hy104, H⟩ := bnd H
   refine Tr.Qa (r := (bV y104)) (wg rfl rfl rfl) rfl Tryz.call66 (zH rfl (zH rfl zP)) (fun W hW => zBQ p0.Y p1 y104 hy104 (HF.start _)) (Tr.va rfl (fun _ _ a c => zx (a.ev rfl) (a.ev rfl)) ?_)
   obtain rfl := oI H
   exact Tr.nil (Tr.JD (.cons rfl .nil) (.cons rfl .nil))
 ·show Tr _ _ (LF [(14, bV zF4)]) (LE [(1, bx zw #[iv p0.X, iv p0.Y] 27)]) _
  refine Tr.asg rfl rfl (Tr.nil (Tr.zA (Tr.ret ?_)))
  obtain rfl := oI H
  exact Tr.out (m := [bV zF4]) [] (zU rfl zV) (fun W hW => ⟨rfl, hW.low leB⟩)

theorem zIV {w : Bs} (p0 : zI) (q0 : zt) (Aq0_0 : Option Addr) (cq0_0 : Nat) (zZ1 : Sl w.R w.W zW Aq0_0 cq0_0 q0.Tools) (Aq0_1 : Option Addr) (cq0_1 : Nat) (zor : Sl w.R w.W zJ Aq0_1 cq0_1 q0.Steps) (bq0 : Nat) (hb0 : w.R bq0) (hc0 : zO w.W bq0 0 [iv q0.Unit, sL Aq0_0 q0.Tools cq0_0, sL Aq0_1 q0.Steps cq0_1]) (r : Bool) (H : Ku p0 q0 = some r) (hE : HF w w.W E0) : Calls Tryz.prog 82 [.agg #[iv p0.X, iv p0.Y], pV bq0].toArray w.W fun e W' => e = .returned (bV r) ∧ HF w W' E0 := by
 unfold Ku at H
 have leB := Bs.Le.refl w
 refine Tr.enter (n := 9) Tryz.func82 rfl rfl rfl hE (Tr.sr (Tr.box 1 (cs := [iv p0.X, iv p0.Y]) (wn rfl) rfl rfl rfl fun zw => (Tr.asg rfl rfl (Tr.nil (Tr.zA (Tr.sr (Tr.va rfl (fun _ _ a c => zX (cs := [iv p0.X, iv p0.Y]) Kk JG (a.ev rfl) (zO.take (rdb c (vs := [iv p0.X, iv p0.Y]) (k := 1) rfl 0) 2) rfl) (Tr.va rfl (fun _ _ a c => zB Vg (a.ev rfl)) (Tr.va rfl (fun _ _ a c => zD zm (a.ev rfl) (zO.drop (rdR hb0 hc0 c) 0) rfl) ?_)))))))))
 obtain ⟨y101, hy101, H⟩ := bnd H
 refine Tr.Qa (r := (bV y101)) (wn rfl) rfl Tryz.call80 (zH rfl (zH rfl zP)) (fun W hW => zGS p0 q0.Unit y101 hy101 (HF.start _)) (Tr.va rfl (fun _ _ a c => KD (a.ev rfl)) (Tr.asg rfl rfl (Tr.nil (Tr.zA (Tr.ret ?_)))))
 obtain rfl := oI H
 exact Tr.out (m := [bV (!y101)]) [] (zU rfl zV) (fun W hW => ⟨rfl, hW.low leB⟩)

theorem zFM {w : Bs} (p0 : (List zI)) (zF : Option Addr) (zG : Nat) (zT : Sl w.R w.W zz zF zG p0) (p1 : zI → Option Bool) (fid1 : Nat) (cap1 : List Value) (hg1 : ∀ args W, (callFunc fid1 args).run Tryz.prog W = .ok (.enter fid1 args) W) (hf1 : ∀ (w' : Bs), w.Ext w' → ∀ (z0 : zI), ∀ y, p1 z0 = some y → Calls Tryz.prog fid1 (([.agg #[iv z0.X, iv z0.Y]] : List Value) ++ cap1).toArray w'.W fun e W'' => e = .returned (bV y) ∧ HF w' W'' E0) (r : Int) (H : VQ p0 p1 = some r) (hE : HF w w.W E0) : Calls Tryz.prog 114 [sL zF p0 zG, .func (.func fid1) #[] cap1.toArray].toArray w.W fun e W' => e = .returned (iv r) ∧ HF w W' E0 := by
 unfold VQ at H
 have leB := Bs.Le.refl w
 refine Tr.enter (n := 19) Tryz.func114 rfl rfl rfl hE (Tr.sr (Tr.asg rfl rfl (Tr.nil (Tr.zA (Tr.seq (Tr.sr (Tr.mv rfl rfl (Tr.va rfl (fun _ _ a c => QF zEy (a.ev rfl)) (Tr.mv rfl rfl (Tr.nil (Tr.zA (Tr.block (Tr.loop (σ := (List zI) × Nat) (fun m w s => m = s.1.length + 1 ∧ s.1 = List.drop s.2 p0 ∧ s.2 ≤ p0.length ∧ Qg p1 s.1 s.2 = some r) (fun s => [(0, sL zF p0 zG), (1, .func (.func fid1) #[] cap1.toArray), (7, iv (p0.length : Int)), (8, iv (s.2 : Int))]) (fun s => []) (p0.length + 1) (p0, 0) ⟨rfl, rfl, Nat.zero_le _, H⟩ (.cons rfl (.cons rfl (.cons rfl (.cons rfl .nil)))) .nil (fun _ _ h => absurd h.1 (by simp)) ?_)))))))))))))
 intro w Qc m s hs
 obtain ⟨zY, iL1⟩ := s
 obtain ⟨Ki, QE, hiL1, H⟩ := hs
 replace QE : zY = List.drop iL1 p0 := QE
 replace H : Qg p1 zY iL1 = some r := H
 replace Ki : m + 1 = zY.length + 1 := Ki
 replace zT := zT.leR Qc
 replace hf1 := fun w' he => hf1 w' (Qc.ext.trans he)
 replace leB := leB.trans Qc
 obtain rfl : m = zY.length := by omega
 clear Ki
 dsimp only
 cases zY with
 | nil =>
  rw [Qg.eq_1] at H
  refine Tr.sr (Tr.va rfl (fun _ _ a c => QD (a.ev rfl) (a.ev rfl)) (Tr.nil (Tr.zA (Tr.seq (Tr.Vy rfl (JA QE) (Tr.exit (Tr.ze (Tr.ze (Tr.QK (Tr.zA (Tr.sr (Tr.asg rfl rfl (Tr.nil (Tr.zA (Tr.ret ?_)))))))))))))))
  obtain rfl := oI H
  exact Tr.out (m := [iv (-1)]) [] (zU rfl zV) (fun W hW => ⟨rfl, hW.low leB⟩)
 | cons xL1 zY =>
  rw [Qg.eq_2] at H
  refine Tr.sr (Tr.va rfl (fun _ _ a c => QD (a.ev rfl) (a.ev rfl)) (Tr.nil (Tr.zA (Tr.seq (Tr.Vx rfl (JU QE) (Tr.skip (Tr.zA (Tr.seq (Tr.block (Tr.sr (Tr.mv rfl rfl (Tr.asg rfl rfl (Tr.nil (Tr.zA (Tr.sr (Tr.mv rfl rfl (Tr.mv rfl rfl (Tr.mv rfl rfl (Tr.va rfl (fun _ _ a c => zL zEc (a.ev rfl) zT.form (a.ev rfl) (Int.natCast_nonneg _) (QC QE)) (Tr.va rfl (fun _ _ a c => zX (cs := [iv xL1.X, iv xL1.Y]) Kk JG (a.ev rfl) (zO.take (rdF zAL zT (KH QE) c) 2) rfl) ?_))))))))))))))))))))
  obtain ⟨zk, zCr, H⟩ := bnd H
  refine Tr.zLY (r := (bV zk)) (wn rfl) rfl rfl hg1 (zH rfl zP) (fun W hW => hf1 hW.all hW.Qr xL1 _ zCr) (Tr.nil (Tr.zA (Tr.cond rfl H (fun H => ?_) (fun H => ?_))))
  ·refine Tr.sr (Tr.mv rfl rfl (Tr.asg rfl rfl (Tr.nil (Tr.zA (Tr.ret (Tr.QP (Tr.zb (Tr.zb (Tr.QP (Tr.zb ?_))))))))))
   obtain rfl := oI H
   exact Tr.out (m := [iv (iL1 : Int)]) [] (zU rfl zV) (fun W hW => ⟨rfl, hW.low leB⟩)
  ·exact Tr.skip (Tr.zh (Tr.zA (Tr.region (Tr.va rfl (fun _ _ a c => zo (a.ev rfl) (a.ev rfl)) (Tr.mv rfl rfl (Tr.nil (Tr.zf Qc (zY, (iL1 + 1)) ⟨rfl, Qe QE, QC QE, H⟩ (.cons rfl (.cons rfl (.cons rfl (.cons (congrArg (fun z => some (Value.int .i64 z)) (Qd QE zT.form)) .nil)))) .nil)))))))

theorem zBK {w : Bs} (p0 : (List zI)) (zF : Option Addr) (zG : Nat) (zT : Sl w.R w.W zz zF zG p0) (p1 : zI → Option Bool) (fid1 : Nat) (cap1 : List Value) (hg1 : ∀ args W, (callFunc fid1 args).run Tryz.prog W = .ok (.enter fid1 args) W) (hf1 : ∀ (w' : Bs), w.Ext w' → ∀ (z0 : zI), ∀ y, p1 z0 = some y → Calls Tryz.prog fid1 (([.agg #[iv z0.X, iv z0.Y]] : List Value) ++ cap1).toArray w'.W fun e W'' => e = .returned (bV y) ∧ HF w' W'' E0) (r : Bool) (H : JF p0 p1 = some r) (hE : HF w w.W E0) : Calls Tryz.prog 81 [sL zF p0 zG, .func (.func fid1) #[] cap1.toArray].toArray w.W fun e W' => e = .returned (bV r) ∧ HF w W' E0 := by
 unfold JF at H
 have leB := Bs.Le.refl w
 refine Tr.enter (n := 9) Tryz.func81 rfl rfl rfl hE (Tr.sr (Tr.asg rfl rfl (Tr.nil (Tr.zA (Tr.sr (Tr.mv rfl rfl (Tr.mv rfl rfl ?_)))))))
 obtain ⟨QT, zBG, H⟩ := bnd H
 refine Tr.Qa (r := (iv QT)) (wn rfl) rfl Tryz.call114 (zH rfl (zH rfl zP)) (fun W hW => zFM p0 zF zG (zT.ext hW.Qr) p1 fid1 cap1 hg1 (fun w' he => hf1 w' (hW.Qr.trans he)) QT zBG (HF.start _)) (Tr.va rfl (fun _ _ a c => zFA (a.ev rfl) (a.ev rfl)) (Tr.asg rfl rfl (Tr.nil (Tr.zA (Tr.ret ?_)))))
 obtain rfl := oI H
 exact Tr.out (m := [bV (decide (0 ≤ QT))]) [] (zU rfl zV) (fun W hW => ⟨rfl, hW.low leB⟩)

theorem zMe {w : Bs} (p0 : (List zI)) (zF : Option Addr) (zG : Nat) (zT : Sl w.R w.W zz zF zG p0) (r : Bool) (H : zCv p0 = some r) (hE : HF w w.W E0) : Calls Tryz.prog 83 [sL zF p0 zG].toArray w.W fun e W' => e = .returned (bV r) ∧ HF w W' E0 := by
 unfold zCv at H
 have leB := Bs.Le.refl w
 refine Tr.enter (n := 36) Tryz.func83 rfl rfl rfl hE (Tr.sr (Tr.asg rfl rfl (Tr.nil (Tr.zA (Tr.seq (Tr.sr (Tr.mv rfl rfl (Tr.va rfl (fun _ _ a c => QF zEy (a.ev rfl)) (Tr.va rfl (fun _ _ a c => QD (a.ev rfl) (a.ev rfl)) (Tr.nil (Tr.zA (Tr.cond rfl H (fun H => ?_) (fun H => ?_)))))))))))))
 ·refine Tr.sr (Tr.asg rfl rfl (Tr.nil (Tr.zA (Tr.ret (Tr.zb ?_)))))
  obtain rfl := oI H
  exact Tr.out (m := [bV false]) [] (zU rfl zV) (fun W hW => ⟨rfl, hW.low leB⟩)
 ·refine Tr.skip (Tr.zA (Tr.seq (Tr.sr (Tr.mv rfl rfl (Tr.va rfl (fun _ _ a c => QF zEy (a.ev rfl)) (Tr.mv rfl rfl (Tr.nil (Tr.zA (Tr.block (Tr.loop (σ := (List zI) × Nat) (fun m w s => m = s.1.length + 1 ∧ s.1 = List.drop s.2 p0 ∧ s.2 ≤ p0.length ∧ Vf p0 s.1 s.2 = some r) (fun s => [(0, sL zF p0 zG), (9, sL zF p0 zG), (10, iv (p0.length : Int)), (11, iv (s.2 : Int))]) (fun s => []) (p0.length + 1) (p0, 0) ⟨rfl, rfl, Nat.zero_le _, H⟩ (.cons rfl (.cons rfl (.cons rfl (.cons rfl .nil)))) .nil (fun _ _ h => absurd h.1 (by simp)) ?_))))))))))
  intro w Qc m s hs
  obtain ⟨zY, iL1⟩ := s
  obtain ⟨Ki, QE, hiL1, H⟩ := hs
  replace QE : zY = List.drop iL1 p0 := QE
  replace H : Vf p0 zY iL1 = some r := H
  replace Ki : m + 1 = zY.length + 1 := Ki
  replace zT := zT.leR Qc
  replace leB := leB.trans Qc
  obtain rfl : m = zY.length := by omega
  clear Ki
  dsimp only
  cases zY with
  | nil =>
   rw [Vf.eq_1] at H
   refine Tr.sr (Tr.va rfl (fun _ _ a c => QD (a.ev rfl) (a.ev rfl)) (Tr.nil (Tr.zA (Tr.seq (Tr.Vy rfl (JA QE) (Tr.exit (Tr.ze (Tr.ze (Tr.QK (Tr.zA (Tr.sr (Tr.asg rfl rfl (Tr.nil (Tr.zA (Tr.ret ?_)))))))))))))))
   obtain rfl := oI H
   exact Tr.out (m := [bV true]) [] (zU rfl zV) (fun W hW => ⟨rfl, hW.low leB⟩)
  | cons xL1 zY =>
   rw [Vf.eq_2] at H
   refine Tr.sr (Tr.va rfl (fun _ _ a c => QD (a.ev rfl) (a.ev rfl)) (Tr.nil (Tr.zA (Tr.seq (Tr.Vx rfl (JU QE) (Tr.skip (Tr.zA (Tr.seq (Tr.block (Tr.sr (Tr.mv rfl rfl (Tr.va rfl (fun _ _ a c => zL zEc (a.ev rfl) zT.form (a.ev rfl) (Int.natCast_nonneg _) (QC QE)) (Tr.va rfl (fun _ _ a c => zX (cs := [iv xL1.X, iv xL1.Y]) Kk JG (a.ev rfl) (zO.take (rdF zAL zT (KH QE) c) 2) rfl) (Tr.alloc 3 (wn rfl) rfl zF7 fun zpL => (Tr.asg rfl rfl (Tr.store 3 (cs := [iv xL1.X, iv xL1.Y]) [iv xL1.X, iv xL1.Y] (wn rfl) rfl rfl rfl rfl JG rfl rfl rfl (Tr.nil (Tr.zA (Tr.sr (Tr.mv rfl rfl (Tr.mv rfl rfl (Tr.va rfl (fun _ _ a c => zo (a.ev rfl) (a.ev rfl)) ?_))))))))))))))))))))))
   refine Tr.mv rfl rfl (Tr.va rfl (fun _ _ a c => QF zEy (a.ev rfl)) ?_)
   obtain ⟨q107, zl1, H⟩ := bnd H
   refine Tr.va rfl (fun _ _ a c => zLz (a.ev rfl) (a.ev rfl) zl1) ?_
   obtain ⟨zEt, zTb, H⟩ := bnd H
   obtain ⟨zOn, zOm, zOl⟩ := zq zTb
   refine Tr.va rfl (fun _ _ a c => zL zEc (a.ev rfl) zT.form (a.ev rfl) zOn zOm) (Tr.va rfl (fun _ _ a c => zX (cs := [iv zEt.X, iv zEt.Y]) Kk JG (a.ev rfl) (zO.take (rdF zAL zT zOl c) 2) rfl) (Tr.alloc 4 (wn rfl) rfl zF7 fun zpJ => (Tr.store 4 (cs := [iv zEt.X, iv zEt.Y]) [iv zEt.X, iv zEt.Y] (wn rfl) rfl rfl rfl rfl JG rfl rfl rfl (Tr.nil (Tr.zA (Tr.sr (Tr.va rfl (fun _ _ a c => zB Qy (a.ev rfl)) (Tr.va rfl (fun _ _ a c => zD zm (a.ev rfl) (rdb c (vs := [iv xL1.X, iv xL1.Y]) (k := 3) rfl 0) rfl) (Tr.va rfl (fun _ _ a c => zB Qy (a.ev rfl)) ?_)))))))))
   refine Tr.va rfl (fun _ _ a c => zD zm (a.ev rfl) (rdb c (vs := [iv zEt.X, iv zEt.Y]) (k := 4) rfl 0) rfl) (Tr.va rfl (fun _ _ a c => Ql (a.ev rfl) (a.ev rfl)) (Tr.va rfl (fun _ _ a c => zB Qx (a.ev rfl)) (Tr.va rfl (fun _ _ a c => zD zm (a.ev rfl) (rdb c (vs := [iv xL1.X, iv xL1.Y]) (k := 3) rfl 1) rfl) (Tr.va rfl (fun _ _ a c => zB Qx (a.ev rfl)) (Tr.va rfl (fun _ _ a c => zD zm (a.ev rfl) (rdb c (vs := [iv zEt.X, iv zEt.Y]) (k := 4) rfl 1) rfl) (Tr.va rfl (fun _ _ a c => Ql (a.ev rfl) (a.ev rfl)) ?_))))))
   refine Tr.va rfl (fun _ _ a c => zY8 zjP (a.ev rfl) (a.ev rfl)) (Tr.nil (Tr.zA (Tr.cond rfl H (fun H => ?_) (fun H => ?_))))
   ·refine Tr.sr (Tr.asg rfl rfl (Tr.nil (Tr.zA (Tr.ret (Tr.QP (Tr.zb (Tr.zb (Tr.QP (Tr.zb ?_)))))))))
    obtain rfl := oI H
    exact Tr.out (m := [bV false]) [] (zU rfl zV) (fun W hW => ⟨rfl, hW.low leB⟩)
   ·exact Tr.skip (Tr.zh (Tr.zA (Tr.region (Tr.va rfl (fun _ _ a c => zo (a.ev rfl) (a.ev rfl)) (Tr.mv rfl rfl (Tr.nil (Tr.zf Qc (zY, (iL1 + 1)) ⟨rfl, Qe QE, QC QE, H⟩ (.cons rfl (.cons rfl (.cons rfl (.cons (congrArg (fun z => some (Value.int .i64 z)) (Qd QE zT.form)) .nil)))) .nil)))))))

theorem zJu {w : Bs} (p0 : zt) (zF : Option Addr) (zG : Nat) (zT : Sl w.R w.W zW zF zG p0.Tools) (zN : Option Addr) (zM : Nat) (QV : Sl w.R w.W zJ zN zM p0.Steps) (p1 : zC) (QB : Option Addr) (QA : Nat) (Qt : Sl w.R w.W zz QB QA p1.Points) (Jz : Option Addr) (Jn : Nat) (zM3 : Sl w.R w.W zJ Jz Jn p1.Steps) (p2 : Int) (r : Int) (H : zBS p0 p1 p2 = some r) (hE : HF w w.W E0) : Calls Tryz.prog 68 [.agg #[iv p0.Unit, sL zF p0.Tools zG, sL zN p0.Steps zM], .agg #[iv p1.Kind, sv p1.Name, iv p1.At.X, iv p1.At.Y, sL QB p1.Points QA, iv p1.NX, iv p1.NY, sL Jz p1.Steps Jn], iv p2].toArray w.W fun e W' => e = .returned (iv r) ∧ HF w W' E0 := by
 unfold zBS at H
 have leB := Bs.Le.refl w
 refine Tr.enter (n := 120) Tryz.func68 rfl rfl rfl hE (Tr.sr (Tr.box 1 (cs := [iv p0.Unit, sL zF p0.Tools zG, sL zN p0.Steps zM]) (wn rfl) rfl rfl rfl fun zw => (Tr.box 2 (cs := [iv p1.Kind, sv p1.Name, iv p1.At.X, iv p1.At.Y, sL QB p1.Points QA, iv p1.NX, iv p1.NY, sL Jz p1.Steps Jn]) (wn rfl) rfl rfl rfl fun Qw => (Tr.asg rfl rfl (Tr.nil (Tr.zA (Tr.seq (Tr.sr (Tr.va rfl (fun _ _ a c => zB zEG (a.ev rfl)) (Tr.va rfl (fun _ _ a c => zD zm (a.ev rfl) (rdb c (vs := [iv p1.Kind, sv p1.Name, iv p1.At.X, iv p1.At.Y, sL QB p1.Points QA, iv p1.NX, iv p1.NY, sL Jz p1.Steps Jn]) (k := 2) rfl 0) rfl) ?_))))))))))
 obtain ⟨y102, hy102, H⟩ := bnd H
 refine Tr.Qa (r := (bV y102)) (wn rfl) rfl Tryz.call38 (zH rfl (zH rfl (zH rfl zP))) (fun W hW => zAN p1.Kind 1 8 y102 hy102 (HF.start _)) (Tr.va rfl (fun _ _ a c => KD (a.ev rfl)) (Tr.nil (Tr.zA (Tr.cond rfl H (fun H => ?_) (fun H => ?_)))))
 ·refine Tr.sr (Tr.asg rfl rfl (Tr.nil (Tr.zA (Tr.ret (Tr.zb ?_)))))
  obtain rfl := oI H
  exact Tr.out (m := [iv 4]) [] (zU rfl zV) (fun W hW => ⟨rfl, hW.low leB⟩)
 ·refine Tr.skip (Tr.zA (Tr.sr (Tr.va rfl (fun _ _ a c => zB zEG (a.ev rfl)) (Tr.va rfl (fun _ _ a c => zD zm (a.ev rfl) (rdb c (vs := [iv p1.Kind, sv p1.Name, iv p1.At.X, iv p1.At.Y, sL QB p1.Points QA, iv p1.NX, iv p1.NY, sL Jz p1.Steps Jn]) (k := 2) rfl 0) rfl) ?_))))
  obtain ⟨zk, zCr, H⟩ := bnd H
  refine Tr.Qa (r := (.agg #[bV zk.name, bV zk.at_, bV zk.points, bV zk.repeat_])) (wn rfl) rfl Tryz.call17 (zH rfl zP) (fun W hW => zBk p1.Kind zk zCr (HF.start _)) (Tr.alloc 3 (wn rfl) rfl zdr fun Vs => (Tr.store 3 (cs := [bV zk.name, bV zk.at_, bV zk.points, bV zk.repeat_]) [bV zk.name, bV zk.at_, bV zk.points, bV zk.repeat_] (wn rfl) rfl rfl rfl rfl zIZ rfl rfl rfl (Tr.nil (Tr.zA (Tr.seq (Tr.block ?_))))))
  have leJ106 := Bs.Le.refl w
  refine Tr.zIu (σ := Bool) (fun w s => Qv p0 p1 p2 zk s = some r) (fun s => [(2, iv p2), (3, pV zw), (4, pV Qw), (7, pV Vs), (15, bV s)]) (fun s => [(1, bx zw #[iv p0.Unit, sL zF p0.Tools zG, sL zN p0.Steps zM] 25), (2, bx Qw #[iv p1.Kind, sv p1.Name, iv p1.At.X, iv p1.At.Y, sL QB p1.Points QA, iv p1.NX, iv p1.NY, sL Jz p1.Steps Jn] 59), (3, bx Vs #[bV zk.name, bV zk.at_, bV zk.points, bV zk.repeat_] 55)]) ?_ ?_
  ·refine Tr.sr (Tr.va rfl (fun _ _ a c => zB zWV (a.ev rfl)) (Tr.va rfl (fun _ _ a c => zD zJr (a.ev rfl) (rdb c (vs := [bV zk.name, bV zk.at_, bV zk.points, bV zk.repeat_]) (k := 3) rfl 0) rfl) (Tr.va rfl (fun _ _ a c => KD (a.ev rfl)) (Tr.mv rfl rfl (Tr.Vw 4 [(2, iv p2), (3, pV zw), (4, pV Qw), (7, pV Vs), (23, bV ((!zk.name) && (!sEq p1.Name ByteArray.empty)))] [(1, bx zw #[iv p0.Unit, sL zF p0.Tools zG, sL zN p0.Steps zM] 25), (2, bx Qw #[iv p1.Kind, sv p1.Name, iv p1.At.X, iv p1.At.Y, sL QB p1.Points QA, iv p1.NX, iv p1.NY, sL Jz p1.Steps Jn] 59), (3, bx Vs #[bV zk.name, bV zk.at_, bV zk.points, bV zk.repeat_] 55)] ?_ ?_)))))
   ·cases zAp : (!zk.name)
    ·exact Tr.pass rfl rfl rfl rfl rfl (by decide) (Tr.pass rfl rfl rfl rfl rfl (by decide) (Tr.pass rfl rfl rfl rfl rfl (by decide) (Tr.va rfl (fun _ _ a c => zy (a.ev rfl) (a.ev rfl)) (Tr.nil (Tr.JD (.cons rfl (.cons rfl (.cons rfl (.cons rfl (.cons rfl .nil))))) (.cons rfl (.cons rfl (.cons rfl .nil))))))))
    ·exact Tr.val (wg rfl rfl rfl) rfl (fun _ _ a c => zB zNZ (a.ev rfl)) (Tr.val (wg rfl rfl rfl) rfl (fun _ _ a c => zD zPv (a.ev rfl) (rdb c (vs := [iv p1.Kind, sv p1.Name, iv p1.At.X, iv p1.At.Y, sL QB p1.Points QA, iv p1.NX, iv p1.NY, sL Jz p1.Steps Jn]) (k := 2) rfl 1) rfl) (Tr.val (wg rfl rfl rfl) rfl (fun _ _ a c => zY5 (a.ev rfl) (a.ev rfl)) (Tr.va rfl (fun _ _ a c => zx (a.ev rfl) (a.ev rfl)) (Tr.nil (Tr.JD (.cons rfl (.cons rfl (.cons rfl (.cons rfl (.cons rfl .nil))))) (.cons rfl (.cons rfl (.cons rfl .nil))))))))
   ·show Tr _ _ (LF [(2, iv p2), (3, pV zw), (4, pV Qw), (7, pV Vs), (23, bV ((!zk.name) && (!sEq p1.Name ByteArray.empty)))]) (LE [(1, bx zw #[iv p0.Unit, sL zF p0.Tools zG, sL zN p0.Steps zM] 25), (2, bx Qw #[iv p1.Kind, sv p1.Name, iv p1.At.X, iv p1.At.Y, sL QB p1.Points QA, iv p1.NX, iv p1.NY, sL Jz p1.Steps Jn] 59), (3, bx Vs #[bV zk.name, bV zk.at_, bV zk.points, bV zk.repeat_] 55)]) _
    refine Tr.asg rfl rfl (Tr.nil (Tr.zA (Tr.cond rfl H (fun H => ?_) (fun H => ?_))))
    ·exact Tr.skip (Tr.zf leJ106 ((!zk.name) && (!sEq p1.Name ByteArray.empty)) H (.cons rfl (.cons rfl (.cons rfl (.cons rfl (.cons rfl .nil))))) (.cons rfl (.cons rfl (.cons rfl .nil))))
    ·refine Tr.sr (Tr.va rfl (fun _ _ a c => zB zdB (a.ev rfl)) (Tr.va rfl (fun _ _ a c => zD zJr (a.ev rfl) (rdb c (vs := [bV zk.name, bV zk.at_, bV zk.points, bV zk.repeat_]) (k := 3) rfl 1) rfl) (Tr.va rfl (fun _ _ a c => KD (a.ev rfl)) (Tr.mv rfl rfl (Tr.Vw 5 [(2, iv p2), (3, pV zw), (4, pV Qw), (7, pV Vs), (32, bV ((!zk.at_) && (!(zBq p1.At (zI.mk 0 0)))))] [(1, bx zw #[iv p0.Unit, sL zF p0.Tools zG, sL zN p0.Steps zM] 25), (2, bx Qw #[iv p1.Kind, sv p1.Name, iv p1.At.X, iv p1.At.Y, sL QB p1.Points QA, iv p1.NX, iv p1.NY, sL Jz p1.Steps Jn] 59), (3, bx Vs #[bV zk.name, bV zk.at_, bV zk.points, bV zk.repeat_] 55)] ?_ ?_)))))
     ·cases zAp : (!zk.at_)
      ·exact Tr.pass rfl rfl rfl rfl rfl (by decide) (Tr.pass rfl rfl rfl rfl rfl (by decide) (Tr.pass rfl rfl rfl rfl rfl (by decide) (Tr.pass rfl rfl rfl rfl rfl (by decide) (Tr.va rfl (fun _ _ a c => zy (a.ev rfl) (a.ev rfl)) (Tr.nil (Tr.JD (.cons rfl (.cons rfl (.cons rfl (.cons rfl (.cons rfl .nil))))) (.cons rfl (.cons rfl (.cons rfl .nil)))))))))
      ·exact Tr.val (wg rfl rfl rfl) rfl (fun _ _ a c => zB zAD (a.ev rfl)) (Tr.val (wg rfl rfl rfl) rfl (fun _ _ a c => zX (cs := [iv p1.At.X, iv p1.At.Y]) Kk JG (a.ev rfl) (zO.take (rdb c (vs := [iv p1.Kind, sv p1.Name, iv p1.At.X, iv p1.At.Y, sL QB p1.Points QA, iv p1.NX, iv p1.NY, sL Jz p1.Steps Jn]) (k := 2) rfl 2) 2) rfl) (Tr.build (vs := []) (cs := [iv 0, iv 0]) (wg rfl rfl rfl) rfl QW (by kernel_rfl) (Tr.val (wg rfl rfl rfl) rfl (fun _ _ a c => zUr p1.At (zI.mk 0 0) (a.ev rfl) (a.ev rfl)) (Tr.va rfl (fun _ _ a c => zx (a.ev rfl) (a.ev rfl)) (Tr.nil (Tr.JD (.cons rfl (.cons rfl (.cons rfl (.cons rfl (.cons rfl .nil))))) (.cons rfl (.cons rfl (.cons rfl .nil)))))))))
     ·show Tr _ _ (LF [(2, iv p2), (3, pV zw), (4, pV Qw), (7, pV Vs), (32, bV ((!zk.at_) && (!(zBq p1.At (zI.mk 0 0)))))]) (LE [(1, bx zw #[iv p0.Unit, sL zF p0.Tools zG, sL zN p0.Steps zM] 25), (2, bx Qw #[iv p1.Kind, sv p1.Name, iv p1.At.X, iv p1.At.Y, sL QB p1.Points QA, iv p1.NX, iv p1.NY, sL Jz p1.Steps Jn] 59), (3, bx Vs #[bV zk.name, bV zk.at_, bV zk.points, bV zk.repeat_] 55)]) _
      refine Tr.asg rfl rfl (Tr.nil (Tr.zA (Tr.cond rfl H (fun H => ?_) (fun H => ?_))))
      ·exact Tr.skip (Tr.zf leJ106 ((!zk.at_) && (!(zBq p1.At (zI.mk 0 0)))) H (.cons rfl (.cons rfl (.cons rfl (.cons rfl (.cons rfl .nil))))) (.cons rfl (.cons rfl (.cons rfl .nil))))
      ·refine Tr.sr (Tr.va rfl (fun _ _ a c => zB zWU (a.ev rfl)) (Tr.va rfl (fun _ _ a c => zD zJr (a.ev rfl) (rdb c (vs := [bV zk.name, bV zk.at_, bV zk.points, bV zk.repeat_]) (k := 3) rfl 2) rfl) (Tr.va rfl (fun _ _ a c => KD (a.ev rfl)) (Tr.mv rfl rfl (Tr.Vw 5 [(2, iv p2), (3, pV zw), (4, pV Qw), (7, pV Vs), (41, bV ((!zk.points) && (decide (0 < (p1.Points.length : Int)))))] [(1, bx zw #[iv p0.Unit, sL zF p0.Tools zG, sL zN p0.Steps zM] 25), (2, bx Qw #[iv p1.Kind, sv p1.Name, iv p1.At.X, iv p1.At.Y, sL QB p1.Points QA, iv p1.NX, iv p1.NY, sL Jz p1.Steps Jn] 59), (3, bx Vs #[bV zk.name, bV zk.at_, bV zk.points, bV zk.repeat_] 55)] ?_ ?_)))))
       ·cases zAp : (!zk.points)
        ·exact Tr.pass rfl rfl rfl rfl rfl (by decide) (Tr.pass rfl rfl rfl rfl rfl (by decide) (Tr.pass rfl rfl rfl rfl rfl (by decide) (Tr.pass rfl rfl rfl rfl rfl (by decide) (Tr.va rfl (fun _ _ a c => zy (a.ev rfl) (a.ev rfl)) (Tr.nil (Tr.JD (.cons rfl (.cons rfl (.cons rfl (.cons rfl (.cons rfl .nil))))) (.cons rfl (.cons rfl (.cons rfl .nil)))))))))
        ·exact Tr.val (wg rfl rfl rfl) rfl (fun _ _ a c => zB zAY (a.ev rfl)) (Tr.val (wg rfl rfl rfl) rfl (fun _ _ a c => zD zEf (a.ev rfl) (rdb c (vs := [iv p1.Kind, sv p1.Name, iv p1.At.X, iv p1.At.Y, sL QB p1.Points QA, iv p1.NX, iv p1.NY, sL Jz p1.Steps Jn]) (k := 2) rfl 4) rfl) (Tr.val (wg rfl rfl rfl) rfl (fun _ _ a c => QF zEy (a.ev rfl)) (Tr.val (wg rfl rfl rfl) rfl (fun _ _ a c => VS (a.ev rfl) (a.ev rfl)) (Tr.va rfl (fun _ _ a c => zx (a.ev rfl) (a.ev rfl)) (Tr.nil (Tr.JD (.cons rfl (.cons rfl (.cons rfl (.cons rfl (.cons rfl .nil))))) (.cons rfl (.cons rfl (.cons rfl .nil)))))))))
       ·show Tr _ _ (LF [(2, iv p2), (3, pV zw), (4, pV Qw), (7, pV Vs), (41, bV ((!zk.points) && (decide (0 < (p1.Points.length : Int)))))]) (LE [(1, bx zw #[iv p0.Unit, sL zF p0.Tools zG, sL zN p0.Steps zM] 25), (2, bx Qw #[iv p1.Kind, sv p1.Name, iv p1.At.X, iv p1.At.Y, sL QB p1.Points QA, iv p1.NX, iv p1.NY, sL Jz p1.Steps Jn] 59), (3, bx Vs #[bV zk.name, bV zk.at_, bV zk.points, bV zk.repeat_] 55)]) _
        refine Tr.asg rfl rfl (Tr.nil (Tr.zA (Tr.cond rfl H (fun H => ?_) (fun H => ?_))))
        ·exact Tr.skip (Tr.zf leJ106 ((!zk.points) && (decide (0 < (p1.Points.length : Int)))) H (.cons rfl (.cons rfl (.cons rfl (.cons rfl (.cons rfl .nil))))) (.cons rfl (.cons rfl (.cons rfl .nil))))
        ·refine Tr.region (Tr.va rfl (fun _ _ a c => zB zWT (a.ev rfl)) (Tr.va rfl (fun _ _ a c => zD zJr (a.ev rfl) (rdb c (vs := [bV zk.name, bV zk.at_, bV zk.points, bV zk.repeat_]) (k := 3) rfl 3) rfl) (Tr.va rfl (fun _ _ a c => KD (a.ev rfl)) (Tr.mv rfl rfl (Tr.Vw 15 [(2, iv p2), (3, pV zw), (4, pV Qw), (7, pV Vs), (60, bV ((!zk.repeat_) && (((p1.NX != 0) || (p1.NY != 0)) || (decide (0 < (p1.Steps.length : Int))))))] [(1, bx zw #[iv p0.Unit, sL zF p0.Tools zG, sL zN p0.Steps zM] 25), (2, bx Qw #[iv p1.Kind, sv p1.Name, iv p1.At.X, iv p1.At.Y, sL QB p1.Points QA, iv p1.NX, iv p1.NY, sL Jz p1.Steps Jn] 59), (3, bx Vs #[bV zk.name, bV zk.at_, bV zk.points, bV zk.repeat_] 55)] ?_ ?_)))))
         ·cases zAp : (!zk.repeat_)
          ·refine Tr.pass rfl rfl rfl rfl rfl (by decide) (Tr.pass rfl rfl rfl rfl rfl (by decide) (Tr.pass rfl rfl rfl rfl rfl (by decide) (Tr.pass rfl rfl rfl rfl rfl (by decide) (Tr.VA rfl rfl rfl rfl (by decide) (Tr.VA rfl rfl rfl rfl (by decide) (Tr.VA rfl rfl rfl rfl (by decide) ?_))))))
           refine Tr.pass rfl rfl rfl rfl rfl (by decide) (Tr.pass rfl rfl rfl rfl rfl (by decide) (Tr.VA rfl rfl rfl rfl (by decide) (Tr.VA rfl rfl rfl rfl (by decide) (Tr.VA rfl rfl rfl rfl (by decide) (Tr.VA rfl rfl rfl rfl (by decide) (Tr.pass rfl rfl rfl rfl rfl (by decide) ?_))))))
           exact Tr.va rfl (fun _ _ a c => zy (a.ev rfl) (a.ev rfl)) (Tr.nil (Tr.JD (.cons rfl (.cons rfl (.cons rfl (.cons rfl (.cons rfl .nil))))) (.cons rfl (.cons rfl (.cons rfl .nil)))))
          ·refine Tr.val (wg rfl rfl rfl) rfl (fun _ _ a c => zB zJZ (a.ev rfl)) (Tr.val (wg rfl rfl rfl) rfl (fun _ _ a c => zD zm (a.ev rfl) (rdb c (vs := [iv p1.Kind, sv p1.Name, iv p1.At.X, iv p1.At.Y, sL QB p1.Points QA, iv p1.NX, iv p1.NY, sL Jz p1.Steps Jn]) (k := 2) rfl 5) rfl) (Tr.val (wg rfl rfl rfl) rfl (fun _ _ a c => Jm (a.ev rfl) (a.ev rfl)) (Tr.val (wg rfl rfl rfl) rfl (fun _ _ a c => run_move (a.ev rfl)) (Tr.Vw 4 [(2, iv p2), (3, pV zw), (4, pV Qw), (7, pV Vs), (45, bV true), (53, bV ((p1.NX != 0) || (p1.NY != 0)))] [(1, bx zw #[iv p0.Unit, sL zF p0.Tools zG, sL zN p0.Steps zM] 25), (2, bx Qw #[iv p1.Kind, sv p1.Name, iv p1.At.X, iv p1.At.Y, sL QB p1.Points QA, iv p1.NX, iv p1.NY, sL Jz p1.Steps Jn] 59), (3, bx Vs #[bV zk.name, bV zk.at_, bV zk.points, bV zk.repeat_] 55)] ?_ ?_))))
           ·cases zAp : (p1.NX != 0)
            ·exact Tr.val (wg rfl rfl rfl) rfl (fun _ _ a c => zB zJY (a.ev rfl)) (Tr.val (wg rfl rfl rfl) rfl (fun _ _ a c => zD zm (a.ev rfl) (rdb c (vs := [iv p1.Kind, sv p1.Name, iv p1.At.X, iv p1.At.Y, sL QB p1.Points QA, iv p1.NX, iv p1.NY, sL Jz p1.Steps Jn]) (k := 2) rfl 6) rfl) (Tr.val (wg rfl rfl rfl) rfl (fun _ _ a c => Jm (a.ev rfl) (a.ev rfl)) (Tr.val (wg rfl rfl rfl) rfl (fun _ _ a c => zy (a.ev rfl) (a.ev rfl)) (Tr.nil (Tr.JD (.cons rfl (.cons rfl (.cons rfl (.cons rfl (.cons rfl (.cons rfl .nil)))))) (.cons rfl (.cons rfl (.cons rfl .nil))))))))
            ·exact Tr.pass rfl rfl rfl rfl rfl (by decide) (Tr.pass rfl rfl rfl rfl rfl (by decide) (Tr.pass rfl rfl rfl rfl rfl (by decide) (Tr.val (wg rfl rfl rfl) rfl (fun _ _ a c => zx (a.ev rfl) (a.ev rfl)) (Tr.nil (Tr.JD (.cons rfl (.cons rfl (.cons rfl (.cons rfl (.cons rfl (.cons rfl .nil)))))) (.cons rfl (.cons rfl (.cons rfl .nil))))))))
           ·dsimp only
            refine Tr.val (wg rfl rfl rfl) rfl (fun _ _ a c => run_move (a.ev rfl)) (Tr.Vw 5 [(2, iv p2), (3, pV zw), (4, pV Qw), (7, pV Vs), (45, bV true), (59, bV (((p1.NX != 0) || (p1.NY != 0)) || (decide (0 < (p1.Steps.length : Int)))))] [(1, bx zw #[iv p0.Unit, sL zF p0.Tools zG, sL zN p0.Steps zM] 25), (2, bx Qw #[iv p1.Kind, sv p1.Name, iv p1.At.X, iv p1.At.Y, sL QB p1.Points QA, iv p1.NX, iv p1.NY, sL Jz p1.Steps Jn] 59), (3, bx Vs #[bV zk.name, bV zk.at_, bV zk.points, bV zk.repeat_] 55)] ?_ ?_)
            ·cases zAp : ((p1.NX != 0) || (p1.NY != 0))
             ·exact Tr.val (wg rfl rfl rfl) rfl (fun _ _ a c => zB zEF (a.ev rfl)) (Tr.val (wg rfl rfl rfl) rfl (fun _ _ a c => zD zEg (a.ev rfl) (rdb c (vs := [iv p1.Kind, sv p1.Name, iv p1.At.X, iv p1.At.Y, sL QB p1.Points QA, iv p1.NX, iv p1.NY, sL Jz p1.Steps Jn]) (k := 2) rfl 7) rfl) (Tr.val (wg rfl rfl rfl) rfl (fun _ _ a c => QF zF8 (a.ev rfl)) (Tr.val (wg rfl rfl rfl) rfl (fun _ _ a c => VS (a.ev rfl) (a.ev rfl)) (Tr.val (wg rfl rfl rfl) rfl (fun _ _ a c => zy (a.ev rfl) (a.ev rfl)) (Tr.nil (Tr.JD (.cons rfl (.cons rfl (.cons rfl (.cons rfl (.cons rfl (.cons rfl .nil)))))) (.cons rfl (.cons rfl (.cons rfl .nil)))))))))
             ·exact Tr.pass rfl rfl rfl rfl rfl (by decide) (Tr.pass rfl rfl rfl rfl rfl (by decide) (Tr.pass rfl rfl rfl rfl rfl (by decide) (Tr.pass rfl rfl rfl rfl rfl (by decide) (Tr.val (wg rfl rfl rfl) rfl (fun _ _ a c => zx (a.ev rfl) (a.ev rfl)) (Tr.nil (Tr.JD (.cons rfl (.cons rfl (.cons rfl (.cons rfl (.cons rfl (.cons rfl .nil)))))) (.cons rfl (.cons rfl (.cons rfl .nil)))))))))
            ·dsimp only
             exact Tr.va rfl (fun _ _ a c => zx (a.ev rfl) (a.ev rfl)) (Tr.nil (Tr.JD (.cons rfl (.cons rfl (.cons rfl (.cons rfl (.cons rfl .nil))))) (.cons rfl (.cons rfl (.cons rfl .nil)))))
         ·show Tr _ _ (LF [(2, iv p2), (3, pV zw), (4, pV Qw), (7, pV Vs), (60, bV ((!zk.repeat_) && (((p1.NX != 0) || (p1.NY != 0)) || (decide (0 < (p1.Steps.length : Int))))))]) (LE [(1, bx zw #[iv p0.Unit, sL zF p0.Tools zG, sL zN p0.Steps zM] 25), (2, bx Qw #[iv p1.Kind, sv p1.Name, iv p1.At.X, iv p1.At.Y, sL QB p1.Points QA, iv p1.NX, iv p1.NY, sL Jz p1.Steps Jn] 59), (3, bx Vs #[bV zk.name, bV zk.at_, bV zk.points, bV zk.repeat_] 55)]) _
          exact Tr.asg rfl rfl (Tr.nil (Tr.zf leJ106 ((!zk.repeat_) && (((p1.NX != 0) || (p1.NY != 0)) || (decide (0 < (p1.Steps.length : Int))))) H (.cons rfl (.cons rfl (.cons rfl (.cons rfl (.cons rfl .nil))))) (.cons rfl (.cons rfl (.cons rfl .nil)))))
  ·intro w x105 hlJ107 hs
   have H := hs
   replace H : Qv p0 p1 p2 zk x105 = some r := H
   replace zT := zT.leR hlJ107
   replace QV := QV.leR hlJ107
   replace Qt := Qt.leR hlJ107
   replace leB := leB.trans hlJ107
   unfold Qv at H
   show Tr _ _ (LF [(2, iv p2), (3, pV zw), (4, pV Qw), (7, pV Vs), (15, bV x105)]) (LE [(1, bx zw #[iv p0.Unit, sL zF p0.Tools zG, sL zN p0.Steps zM] 25), (2, bx Qw #[iv p1.Kind, sv p1.Name, iv p1.At.X, iv p1.At.Y, sL QB p1.Points QA, iv p1.NX, iv p1.NY, sL Jz p1.Steps Jn] 59), (3, bx Vs #[bV zk.name, bV zk.at_, bV zk.points, bV zk.repeat_] 55)]) _
   refine Tr.cond rfl H (fun H => ?_) (fun H => ?_)
   ·refine Tr.sr (Tr.asg rfl rfl (Tr.nil (Tr.zA (Tr.ret (Tr.QP (Tr.zb ?_))))))
    obtain rfl := oI H
    exact Tr.out (m := [iv 3]) [] (zU rfl zV) (fun W hW => ⟨rfl, hW.low leB⟩)
   ·refine Tr.sr (Tr.va rfl (fun _ _ a c => zB zWV (a.ev rfl)) (Tr.va rfl (fun _ _ a c => zD zJr (a.ev rfl) (rdb c (vs := [bV zk.name, bV zk.at_, bV zk.points, bV zk.repeat_]) (k := 3) rfl 0) rfl) (Tr.mv rfl rfl ?_)))
    obtain ⟨zPo, zG1, H⟩ := bnd H
    refine Tr.Vw 6 [(2, iv p2), (3, pV zw), (4, pV Qw), (7, pV Vs), (70, bV zPo)] [(1, bx zw #[iv p0.Unit, sL zF p0.Tools zG, sL zN p0.Steps zM] 25), (2, bx Qw #[iv p1.Kind, sv p1.Name, iv p1.At.X, iv p1.At.Y, sL QB p1.Points QA, iv p1.NX, iv p1.NY, sL Jz p1.Steps Jn] 59), (3, bx Vs #[bV zk.name, bV zk.at_, bV zk.points, bV zk.repeat_] 55)] ?_ ?_
    ·cases zAp : zk.name
     ·rw [zAp] at zG1
      rw [if_neg (by decide)] at zG1
      have H := zG1
      obtain rfl := oI H
      exact Tr.pass rfl rfl rfl rfl rfl (by decide) (Tr.pass rfl rfl rfl rfl rfl (by decide) (Tr.pass rfl rfl rfl rfl rfl (by decide) (Tr.pass rfl rfl rfl rfl rfl (by decide) (Tr.pass rfl rfl rfl rfl rfl (by decide) (Tr.va rfl (fun _ _ a c => zy (a.ev rfl) (a.ev rfl)) (Tr.nil (Tr.JD (.cons rfl (.cons rfl (.cons rfl (.cons rfl (.cons rfl .nil))))) (.cons rfl (.cons rfl (.cons rfl .nil))))))))))
     ·rw [zAp] at zG1
      rw [if_pos rfl] at zG1
      have H := zG1
      refine Tr.val (wg rfl rfl rfl) rfl (fun _ _ a c => zX (cs := [iv p0.Unit, sL zF p0.Tools zG, sL zN p0.Steps zM]) Wt Kn (a.ev rfl) (zO.take (rdb c (vs := [iv p0.Unit, sL zF p0.Tools zG, sL zN p0.Steps zM]) (k := 1) rfl 0) 3) rfl) (Tr.val (wg rfl rfl rfl) rfl (fun _ _ a c => zB zNZ (a.ev rfl)) (Tr.val (wg rfl rfl rfl) rfl (fun _ _ a c => zD zPv (a.ev rfl) (rdb c (vs := [iv p1.Kind, sv p1.Name, iv p1.At.X, iv p1.At.Y, sL QB p1.Points QA, iv p1.NX, iv p1.NY, sL Jz p1.Steps Jn]) (k := 2) rfl 1) rfl) ?_))
      obtain ⟨zCn, zK6, H⟩ := bnd H
      refine Tr.Qa (r := (iv zCn)) (wg rfl rfl rfl) rfl Tryz.call79 (zH rfl (zH rfl zP)) (fun W hW => zHB p0 zF zG (zT.ext hW.Qr) zN zM (QV.ext hW.Qr) p1.Name zCn zK6 (HF.start _)) (Tr.val (wg rfl rfl rfl) rfl (fun _ _ a c => QD (a.ev rfl) (a.ev rfl)) (Tr.va rfl (fun _ _ a c => zx (a.ev rfl) (a.ev rfl)) ?_))
      obtain rfl := oI H
      exact Tr.nil (Tr.JD (.cons rfl (.cons rfl (.cons rfl (.cons rfl (.cons rfl .nil))))) (.cons rfl (.cons rfl (.cons rfl .nil))))
    ·show Tr _ _ (LF [(2, iv p2), (3, pV zw), (4, pV Qw), (7, pV Vs), (70, bV zPo)]) (LE [(1, bx zw #[iv p0.Unit, sL zF p0.Tools zG, sL zN p0.Steps zM] 25), (2, bx Qw #[iv p1.Kind, sv p1.Name, iv p1.At.X, iv p1.At.Y, sL QB p1.Points QA, iv p1.NX, iv p1.NY, sL Jz p1.Steps Jn] 59), (3, bx Vs #[bV zk.name, bV zk.at_, bV zk.points, bV zk.repeat_] 55)]) _
     refine Tr.asg rfl rfl (Tr.nil (Tr.zA (Tr.cond rfl H (fun H => ?_) (fun H => ?_))))
     ·refine Tr.sr (Tr.asg rfl rfl (Tr.nil (Tr.zA (Tr.ret (Tr.QP (Tr.zb ?_))))))
      obtain rfl := oI H
      exact Tr.out (m := [iv 5]) [] (zU rfl zV) (fun W hW => ⟨rfl, hW.low leB⟩)
     ·refine Tr.sr (Tr.va rfl (fun _ _ a c => zB zAD (a.ev rfl)) (Tr.va rfl (fun _ _ a c => zX (cs := [iv p1.At.X, iv p1.At.Y]) Kk JG (a.ev rfl) (zO.take (rdb c (vs := [iv p1.Kind, sv p1.Name, iv p1.At.X, iv p1.At.Y, sL QB p1.Points QA, iv p1.NX, iv p1.NY, sL Jz p1.Steps Jn]) (k := 2) rfl 2) 2) rfl) (Tr.va rfl (fun _ _ a c => zB Vg (a.ev rfl)) (Tr.va rfl (fun _ _ a c => zD zm (a.ev rfl) (rdb c (vs := [iv p0.Unit, sL zF p0.Tools zG, sL zN p0.Steps zM]) (k := 1) rfl 0) rfl) ?_))))
      obtain ⟨zJk, zZp, H⟩ := bnd H
      refine Tr.Qa (r := (bV zJk)) (wn rfl) rfl Tryz.call80 (zH rfl (zH rfl zP)) (fun W hW => zGS p1.At p0.Unit zJk zZp (HF.start _)) (Tr.va rfl (fun _ _ a c => KD (a.ev rfl)) (Tr.mv rfl rfl ?_))
      obtain ⟨zc9, zQr, H⟩ := bnd H
      refine Tr.Vw 5 [(2, iv p2), (4, pV Qw), (7, pV Vs), (83, bV zc9)] [(1, bx zw #[iv p0.Unit, sL zF p0.Tools zG, sL zN p0.Steps zM] 25), (2, bx Qw #[iv p1.Kind, sv p1.Name, iv p1.At.X, iv p1.At.Y, sL QB p1.Points QA, iv p1.NX, iv p1.NY, sL Jz p1.Steps Jn] 59), (3, bx Vs #[bV zk.name, bV zk.at_, bV zk.points, bV zk.repeat_] 55)] ?_ ?_
      ·cases zAp : (!zJk)
       ·rw [zAp] at zQr
        rw [if_neg (by decide)] at zQr
        have H := zQr
        refine Tr.val (wg rfl rfl rfl) rfl (fun _ _ a c => zB zAY (a.ev rfl)) (Tr.val (wg rfl rfl rfl) rfl (fun _ _ a c => zD zEf (a.ev rfl) (rdb c (vs := [iv p1.Kind, sv p1.Name, iv p1.At.X, iv p1.At.Y, sL QB p1.Points QA, iv p1.NX, iv p1.NY, sL Jz p1.Steps Jn]) (k := 2) rfl 4) rfl) (Tr.zFi (vs := [pV zw]) (wg rfl rfl rfl) rfl (zH rfl zP) ?_))
        obtain ⟨y114, hy114, H⟩ := bnd H
        refine Tr.Qa (r := (bV y114)) (wg rfl rfl rfl) rfl Tryz.call81 (zH rfl (zH rfl zP)) (fun W hW => zBK p1.Points QB QA (Qt.ext hW.Qr) (fun z0 => Ku z0 p0) 82 [pV zw] Tryz.call82 (fun w' he z0 y hy => zIV z0 p0 zF zG (zT.ext (hW.Qr.trans he)) zN zM (QV.ext (hW.Qr.trans he)) zw (he.r _ (hW.zbE (k := 1) rfl)) (he.cells (hW.zbE (k := 1) rfl) (hW.zdU (k := 1) rfl)) y hy (HF.start _)) y114 hy114 (HF.start _)) (Tr.va rfl (fun _ _ a c => zy (a.ev rfl) (a.ev rfl)) ?_)
        obtain rfl := oI H
        exact Tr.nil (Tr.JD (.cons rfl (.cons rfl (.cons rfl (.cons rfl .nil)))) (.cons rfl (.cons rfl (.cons rfl .nil))))
       ·rw [zAp] at zQr
        rw [if_pos rfl] at zQr
        have H := zQr
        obtain rfl := oI H
        exact Tr.pass rfl rfl rfl rfl rfl (by decide) (Tr.pass rfl rfl rfl rfl rfl (by decide) (Tr.pass rfl rfl rfl rfl rfl (by decide) (Tr.pass rfl rfl rfl rfl rfl (by decide) (Tr.va rfl (fun _ _ a c => zx (a.ev rfl) (a.ev rfl)) (Tr.nil (Tr.JD (.cons rfl (.cons rfl (.cons rfl (.cons rfl .nil)))) (.cons rfl (.cons rfl (.cons rfl .nil)))))))))
      ·show Tr _ _ (LF [(2, iv p2), (4, pV Qw), (7, pV Vs), (83, bV zc9)]) (LE [(1, bx zw #[iv p0.Unit, sL zF p0.Tools zG, sL zN p0.Steps zM] 25), (2, bx Qw #[iv p1.Kind, sv p1.Name, iv p1.At.X, iv p1.At.Y, sL QB p1.Points QA, iv p1.NX, iv p1.NY, sL Jz p1.Steps Jn] 59), (3, bx Vs #[bV zk.name, bV zk.at_, bV zk.points, bV zk.repeat_] 55)]) _
       refine Tr.asg rfl rfl (Tr.nil (Tr.zA (Tr.cond rfl H (fun H => ?_) (fun H => ?_))))
       ·refine Tr.sr (Tr.asg rfl rfl (Tr.nil (Tr.zA (Tr.ret (Tr.QP (Tr.zb ?_))))))
        obtain rfl := oI H
        exact Tr.out (m := [iv 1]) [] (zU rfl zV) (fun W hW => ⟨rfl, hW.low leB⟩)
       ·refine Tr.sr (Tr.va rfl (fun _ _ a c => zB zAY (a.ev rfl)) (Tr.va rfl (fun _ _ a c => zD zEf (a.ev rfl) (rdb c (vs := [iv p1.Kind, sv p1.Name, iv p1.At.X, iv p1.At.Y, sL QB p1.Points QA, iv p1.NX, iv p1.NY, sL Jz p1.Steps Jn]) (k := 2) rfl 4) rfl) (Tr.va rfl (fun _ _ a c => QF zEy (a.ev rfl)) (Tr.va rfl (fun _ _ a c => VS (a.ev rfl) (a.ev rfl)) (Tr.asg rfl rfl (Tr.nil (Tr.zA (Tr.cond rfl H (fun H => ?_) (fun H => ?_)))))))))
        ·refine Tr.sr (Tr.asg rfl rfl (Tr.nil (Tr.zA (Tr.ret (Tr.QP (Tr.zb ?_))))))
         obtain rfl := oI H
         exact Tr.out (m := [iv 2]) [] (zU rfl zV) (fun W hW => ⟨rfl, hW.low leB⟩)
        ·refine Tr.sr (Tr.va rfl (fun _ _ a c => zB zWU (a.ev rfl)) (Tr.va rfl (fun _ _ a c => zD zJr (a.ev rfl) (rdb c (vs := [bV zk.name, bV zk.at_, bV zk.points, bV zk.repeat_]) (k := 3) rfl 2) rfl) (Tr.mv rfl rfl ?_)))
         obtain ⟨zc8, zQp, H⟩ := bnd H
         refine Tr.Vw 5 [(2, iv p2), (4, pV Qw), (7, pV Vs), (97, bV zc8)] [(1, bx zw #[iv p0.Unit, sL zF p0.Tools zG, sL zN p0.Steps zM] 25), (2, bx Qw #[iv p1.Kind, sv p1.Name, iv p1.At.X, iv p1.At.Y, sL QB p1.Points QA, iv p1.NX, iv p1.NY, sL Jz p1.Steps Jn] 59), (3, bx Vs #[bV zk.name, bV zk.at_, bV zk.points, bV zk.repeat_] 55)] ?_ ?_
         ·cases zAp : zk.points
          ·rw [zAp] at zQp
           rw [if_neg (by decide)] at zQp
           have H := zQp
           obtain rfl := oI H
           exact Tr.pass rfl rfl rfl rfl rfl (by decide) (Tr.pass rfl rfl rfl rfl rfl (by decide) (Tr.pass rfl rfl rfl rfl rfl (by decide) (Tr.pass rfl rfl rfl rfl rfl (by decide) (Tr.va rfl (fun _ _ a c => zy (a.ev rfl) (a.ev rfl)) (Tr.nil (Tr.JD (.cons rfl (.cons rfl (.cons rfl (.cons rfl .nil)))) (.cons rfl (.cons rfl (.cons rfl .nil)))))))))
          ·rw [zAp] at zQp
           rw [if_pos rfl] at zQp
           have H := zQp
           refine Tr.val (wg rfl rfl rfl) rfl (fun _ _ a c => zB zAY (a.ev rfl)) (Tr.val (wg rfl rfl rfl) rfl (fun _ _ a c => zD zEf (a.ev rfl) (rdb c (vs := [iv p1.Kind, sv p1.Name, iv p1.At.X, iv p1.At.Y, sL QB p1.Points QA, iv p1.NX, iv p1.NY, sL Jz p1.Steps Jn]) (k := 2) rfl 4) rfl) ?_)
           obtain ⟨zJj, zZo, H⟩ := bnd H
           refine Tr.Qa (r := (bV zJj)) (wg rfl rfl rfl) rfl Tryz.call83 (zH rfl zP) (fun W hW => zMe p1.Points QB QA (Qt.ext hW.Qr) zJj zZo (HF.start _)) (Tr.val (wg rfl rfl rfl) rfl (fun _ _ a c => KD (a.ev rfl)) (Tr.va rfl (fun _ _ a c => zx (a.ev rfl) (a.ev rfl)) ?_))
           obtain rfl := oI H
           exact Tr.nil (Tr.JD (.cons rfl (.cons rfl (.cons rfl (.cons rfl .nil)))) (.cons rfl (.cons rfl (.cons rfl .nil))))
         ·show Tr _ _ (LF [(2, iv p2), (4, pV Qw), (7, pV Vs), (97, bV zc8)]) (LE [(1, bx zw #[iv p0.Unit, sL zF p0.Tools zG, sL zN p0.Steps zM] 25), (2, bx Qw #[iv p1.Kind, sv p1.Name, iv p1.At.X, iv p1.At.Y, sL QB p1.Points QA, iv p1.NX, iv p1.NY, sL Jz p1.Steps Jn] 59), (3, bx Vs #[bV zk.name, bV zk.at_, bV zk.points, bV zk.repeat_] 55)]) _
          refine Tr.asg rfl rfl (Tr.nil (Tr.zA (Tr.cond rfl H (fun H => ?_) (fun H => ?_))))
          ·refine Tr.sr (Tr.asg rfl rfl (Tr.nil (Tr.zA (Tr.ret (Tr.QP (Tr.zb ?_))))))
           obtain rfl := oI H
           exact Tr.out (m := [iv 3]) [] (zU rfl zV) (fun W hW => ⟨rfl, hW.low leB⟩)
          ·refine Tr.skip (Tr.zh (Tr.zA (Tr.seq (Tr.sr (Tr.va rfl (fun _ _ a c => zB zWT (a.ev rfl)) (Tr.va rfl (fun _ _ a c => zD zJr (a.ev rfl) (rdb c (vs := [bV zk.name, bV zk.at_, bV zk.points, bV zk.repeat_]) (k := 3) rfl 3) rfl) (Tr.va rfl (fun _ _ a c => KD (a.ev rfl)) (Tr.nil (Tr.zA (Tr.cond rfl H (fun H => ?_) (fun H => ?_)))))))))))
           ·refine Tr.sr (Tr.asg rfl rfl (Tr.nil (Tr.zA (Tr.ret (Tr.zb ?_)))))
            obtain rfl := oI H
            exact Tr.out (m := [iv 0]) [] (zU rfl zV) (fun W hW => ⟨rfl, hW.low leB⟩)
           ·refine Tr.skip (Tr.zA (Tr.seq (Tr.block (Tr.sr (Tr.va rfl (fun _ _ a c => zB zJZ (a.ev rfl)) (Tr.va rfl (fun _ _ a c => zD zm (a.ev rfl) (rdb c (vs := [iv p1.Kind, sv p1.Name, iv p1.At.X, iv p1.At.Y, sL QB p1.Points QA, iv p1.NX, iv p1.NY, sL Jz p1.Steps Jn]) (k := 2) rfl 5) rfl) ?_))))))
            obtain ⟨zYY, zk3, H⟩ := bnd H
            refine Tr.Qa (r := (bV zYY)) (wn rfl) rfl Tryz.call38 (zH rfl (zH rfl (zH rfl zP))) (fun W hW => zAN p1.NX 1 100 zYY zk3 (HF.start _)) (Tr.va rfl (fun _ _ a c => KD (a.ev rfl)) (Tr.mv rfl rfl ?_))
            obtain ⟨zc7, zQm, H⟩ := bnd H
            refine Tr.Vw 5 [(2, iv p2), (4, pV Qw), (111, bV zc7)] [(1, bx zw #[iv p0.Unit, sL zF p0.Tools zG, sL zN p0.Steps zM] 25), (2, bx Qw #[iv p1.Kind, sv p1.Name, iv p1.At.X, iv p1.At.Y, sL QB p1.Points QA, iv p1.NX, iv p1.NY, sL Jz p1.Steps Jn] 59), (3, bx Vs #[bV zk.name, bV zk.at_, bV zk.points, bV zk.repeat_] 55)] ?_ ?_
            ·cases zAp : (!zYY)
             ·rw [zAp] at zQm
              rw [if_neg (by decide)] at zQm
              have H := zQm
              refine Tr.val (wg rfl rfl rfl) rfl (fun _ _ a c => zB zJY (a.ev rfl)) (Tr.val (wg rfl rfl rfl) rfl (fun _ _ a c => zD zm (a.ev rfl) (rdb c (vs := [iv p1.Kind, sv p1.Name, iv p1.At.X, iv p1.At.Y, sL QB p1.Points QA, iv p1.NX, iv p1.NY, sL Jz p1.Steps Jn]) (k := 2) rfl 6) rfl) ?_)
              obtain ⟨zJ7, zZn, H⟩ := bnd H
              refine Tr.Qa (r := (bV zJ7)) (wg rfl rfl rfl) rfl Tryz.call38 (zH rfl (zH rfl (zH rfl zP))) (fun W hW => zAN p1.NY 1 100 zJ7 zZn (HF.start _)) (Tr.val (wg rfl rfl rfl) rfl (fun _ _ a c => KD (a.ev rfl)) (Tr.va rfl (fun _ _ a c => zy (a.ev rfl) (a.ev rfl)) ?_))
              obtain rfl := oI H
              exact Tr.nil (Tr.JD (.cons rfl (.cons rfl (.cons rfl .nil))) (.cons rfl (.cons rfl (.cons rfl .nil))))
             ·rw [zAp] at zQm
              rw [if_pos rfl] at zQm
              have H := zQm
              obtain rfl := oI H
              exact Tr.pass rfl rfl rfl rfl rfl (by decide) (Tr.pass rfl rfl rfl rfl rfl (by decide) (Tr.pass rfl rfl rfl rfl rfl (by decide) (Tr.pass rfl rfl rfl rfl rfl (by decide) (Tr.va rfl (fun _ _ a c => zx (a.ev rfl) (a.ev rfl)) (Tr.nil (Tr.JD (.cons rfl (.cons rfl (.cons rfl .nil))) (.cons rfl (.cons rfl (.cons rfl .nil)))))))))
            ·show Tr _ _ (LF [(2, iv p2), (4, pV Qw), (111, bV zc7)]) (LE [(1, bx zw #[iv p0.Unit, sL zF p0.Tools zG, sL zN p0.Steps zM] 25), (2, bx Qw #[iv p1.Kind, sv p1.Name, iv p1.At.X, iv p1.At.Y, sL QB p1.Points QA, iv p1.NX, iv p1.NY, sL Jz p1.Steps Jn] 59), (3, bx Vs #[bV zk.name, bV zk.at_, bV zk.points, bV zk.repeat_] 55)]) _
             refine Tr.asg rfl rfl (Tr.nil (Tr.zA (Tr.cond rfl H (fun H => ?_) (fun H => ?_))))
             ·refine Tr.sr (Tr.asg rfl rfl (Tr.nil (Tr.zA (Tr.ret (Tr.QP (Tr.zb ?_))))))
              obtain rfl := oI H
              exact Tr.out (m := [iv 1]) [] (zU rfl zV) (fun W hW => ⟨rfl, hW.low leB⟩)
             ·refine Tr.sr (Tr.va rfl (fun _ _ a c => zB zEF (a.ev rfl)) (Tr.va rfl (fun _ _ a c => zD zEg (a.ev rfl) (rdb c (vs := [iv p1.Kind, sv p1.Name, iv p1.At.X, iv p1.At.Y, sL QB p1.Points QA, iv p1.NX, iv p1.NY, sL Jz p1.Steps Jn]) (k := 2) rfl 7) rfl) (Tr.va rfl (fun _ _ a c => QF zF8 (a.ev rfl)) (Tr.va rfl (fun _ _ a c => Ql (a.ev rfl) (a.ev rfl)) (Tr.asg rfl rfl (Tr.nil (Tr.zA (Tr.cond rfl H (fun H => ?_) (fun H => ?_)))))))))
              ·refine Tr.sr (Tr.asg rfl rfl (Tr.nil (Tr.zA (Tr.ret (Tr.QP (Tr.zb ?_))))))
               obtain rfl := oI H
               exact Tr.out (m := [iv 9]) [] (zU rfl zV) (fun W hW => ⟨rfl, hW.low leB⟩)
              ·refine Tr.sr (Tr.mv rfl rfl (Tr.va rfl (fun _ _ a c => zFA (a.ev rfl) (a.ev rfl)) (Tr.asg rfl rfl (Tr.nil (Tr.zA (Tr.cond rfl H (fun H => ?_) (fun H => ?_)))))))
               ·refine Tr.sr (Tr.asg rfl rfl (Tr.nil (Tr.zA (Tr.ret (Tr.QP (Tr.zb ?_))))))
                obtain rfl := oI H
                exact Tr.out (m := [iv 2]) [] (zU rfl zV) (fun W hW => ⟨rfl, hW.low leB⟩)
               ·refine Tr.skip (Tr.zh (Tr.zA (Tr.sr (Tr.asg rfl rfl (Tr.nil (Tr.zA (Tr.ret ?_)))))))
                obtain rfl := oI H
                exact Tr.out (m := [iv 0]) [] (zU rfl zV) (fun W hW => ⟨rfl, hW.low leB⟩)

theorem zHz (N : Nat) (rec : zt → (List zC) → Int → Option Int) (hrec : ∀ {w : Bs} (p0 : zt) (zF : Option Addr) (zG : Nat) (zT : Sl w.R w.W zW zF zG p0.Tools) (zN : Option Addr) (zM : Nat) (QV : Sl w.R w.W zJ zN zM p0.Steps) (p1 : (List zC)) (QB : Option Addr) (QA : Nat) (Qt : Sl w.R w.W zJ QB QA p1) (p2 : Int) (r : Int) (H : rec p0 p1 p2 = some r) (hE : HF w w.W E0), Calls Tryz.prog 41 [.agg #[iv p0.Unit, sL zF p0.Tools zG, sL zN p0.Steps zM], sL QB p1 QA, iv p2].toArray w.W fun e W' => e = .returned (iv r) ∧ HF w W' E0) {w : Bs} (p0 : zt) (zF : Option Addr) (zG : Nat) (zT : Sl w.R w.W zW zF zG p0.Tools) (zN : Option Addr) (zM : Nat) (QV : Sl w.R w.W zJ zN zM p0.Steps) (p1 : (List zC)) (QB : Option Addr) (QA : Nat) (Qt : Sl w.R w.W zJ QB QA p1) (p2 : Int) (r : Int) (H : zCm N rec p0 p1 p2 = some r) (hE : HF w w.W E0) : Calls Tryz.prog 41 [.agg #[iv p0.Unit, sL zF p0.Tools zG, sL zN p0.Steps zM], sL QB p1 QA, iv p2].toArray w.W fun e W' => e = .returned (iv r) ∧ HF w W' E0 := by
 unfold zCm at H
 have leB := Bs.Le.refl w
 refine Tr.enter (n := 34) Tryz.func41 rfl rfl rfl hE (Tr.sr (Tr.box 1 (cs := [iv p0.Unit, sL zF p0.Tools zG, sL zN p0.Steps zM]) (wn rfl) rfl rfl rfl fun zw => (Tr.asg rfl rfl (Tr.nil (Tr.zA (Tr.seq (Tr.sr (Tr.mv rfl rfl (Tr.va rfl (fun _ _ a c => QF zF8 (a.ev rfl)) (Tr.mv rfl rfl (Tr.nil (Tr.zA (Tr.block (Tr.loop (σ := (List zC) × Nat) (fun m w s => m = s.1.length + 1 ∧ s.1 = List.drop s.2 p1 ∧ s.2 ≤ p1.length ∧ KZ p0 p2 rec s.1 s.2 = some r) (fun s => [(2, iv p2), (3, pV zw), (11, sL QB p1 QA), (12, iv (p1.length : Int)), (13, iv (s.2 : Int))]) (fun s => [(1, bx zw #[iv p0.Unit, sL zF p0.Tools zG, sL zN p0.Steps zM] 25)]) (p1.length + 1) (p1, 0) ⟨rfl, rfl, Nat.zero_le _, H⟩ (.cons rfl (.cons rfl (.cons rfl (.cons rfl (.cons rfl .nil))))) (.cons rfl .nil) (fun _ _ h => absurd h.1 (by simp)) ?_))))))))))))))
 intro w Qc m s hs
 obtain ⟨zY, iL1⟩ := s
 obtain ⟨Ki, QE, hiL1, H⟩ := hs
 replace QE : zY = List.drop iL1 p1 := QE
 replace H : KZ p0 p2 rec zY iL1 = some r := H
 replace Ki : m + 1 = zY.length + 1 := Ki
 replace zT := zT.leR Qc
 replace QV := QV.leR Qc
 replace Qt := Qt.leR Qc
 replace leB := leB.trans Qc
 obtain rfl : m = zY.length := by omega
 clear Ki
 dsimp only
 cases zY with
 | nil =>
  rw [KZ.eq_1] at H
  refine Tr.sr (Tr.va rfl (fun _ _ a c => QD (a.ev rfl) (a.ev rfl)) (Tr.nil (Tr.zA (Tr.seq (Tr.Vy rfl (JA QE) (Tr.exit (Tr.ze (Tr.ze (Tr.QK (Tr.zA (Tr.sr (Tr.asg rfl rfl (Tr.nil (Tr.zA (Tr.ret ?_)))))))))))))))
  obtain rfl := oI H
  exact Tr.out (m := [iv 0]) [] (zU rfl zV) (fun W hW => ⟨rfl, hW.low leB⟩)
 | cons xL1 zY =>
  rw [KZ.eq_2] at H
  refine Tr.sr (Tr.va rfl (fun _ _ a c => QD (a.ev rfl) (a.ev rfl)) (Tr.nil (Tr.zA (Tr.seq (Tr.Vx rfl (JU QE) (Tr.skip (Tr.zA (Tr.seq (Tr.block (Tr.sr ?_))))))))))
  obtain ⟨ze1, hRu107, zRg, hcu107⟩ := (Qt).el (KH QE)
  obtain ⟨⟨zC8, zC4⟩, ⟨zFS, zFK⟩⟩ := ze1
  obtain ⟨zD8, zJQ⟩ := WI.1 zRg
  replace zD8 : Sl w.R w.W zz zC8 zC4 xL1.Points := zD8
  replace zJQ : Sl w.R w.W zJ zFS zFK xL1.Steps := zJQ
  refine Tr.va rfl (fun _ _ a c => zL zIs (a.ev rfl) Qt.form (a.ev rfl) (Int.natCast_nonneg _) (QC QE)) (Tr.va rfl (fun _ _ a c => zX (cs := [iv xL1.Kind, sv xL1.Name, iv xL1.At.X, iv xL1.At.Y, sL zC8 xL1.Points zC4, iv xL1.NX, iv xL1.NY, sL zFS xL1.Steps zFK]) zLb zET (a.ev rfl) (zO.take (rdR hRu107 hcu107 c) 8) rfl) (Tr.alloc 3 (wn rfl) rfl zSP fun zpK => (Tr.store 3 (cs := [iv xL1.Kind, sv xL1.Name, iv xL1.At.X, iv xL1.At.Y, sL zC8 xL1.Points zC4, iv xL1.NX, iv xL1.NY, sL zFS xL1.Steps zFK]) [iv xL1.Kind, sv xL1.Name, iv xL1.At.X, iv xL1.At.Y, sL zC8 xL1.Points zC4, iv xL1.NX, iv xL1.NY, sL zFS xL1.Steps zFK] (wn rfl) rfl rfl rfl rfl zET rfl rfl rfl (Tr.nil (Tr.zA (Tr.seq (Tr.sr (Tr.va rfl (fun _ _ a c => zX (cs := [iv p0.Unit, sL zF p0.Tools zG, sL zN p0.Steps zM]) Wt Kn (a.ev rfl) (zO.take (rdb c (vs := [iv p0.Unit, sL zF p0.Tools zG, sL zN p0.Steps zM]) (k := 1) rfl 0) 3) rfl) (Tr.va rfl (fun _ _ a c => zX (cs := [iv xL1.Kind, sv xL1.Name, iv xL1.At.X, iv xL1.At.Y, sL zC8 xL1.Points zC4, iv xL1.NX, iv xL1.NY, sL zFS xL1.Steps zFK]) zLb zET (a.ev rfl) (zO.take (rdb c (vs := [iv xL1.Kind, sv xL1.Name, iv xL1.At.X, iv xL1.At.Y, sL zC8 xL1.Points zC4, iv xL1.NX, iv xL1.NY, sL zFS xL1.Steps zFK]) (k := 3) rfl 0) 8) rfl) (Tr.mv rfl rfl ?_))))))))))
  obtain ⟨KW, zTZ, H⟩ := bnd H
  refine Tr.Qa (r := (iv KW)) (wn rfl) rfl Tryz.call68 (zH rfl (zH rfl (zH rfl zP))) (fun W hW => zJu p0 zF zG (zT.ext hW.Qr) zN zM (QV.ext hW.Qr) xL1 zC8 zC4 (zD8.ext hW.Qr) zFS zFK (zJQ.ext hW.Qr) p2 KW zTZ (HF.start _)) (Tr.asg rfl rfl (Tr.nil (Tr.zA (Tr.sr (Tr.mv rfl rfl (Tr.va rfl (fun _ _ a c => Jm (a.ev rfl) (a.ev rfl)) (Tr.nil (Tr.zA (Tr.cond rfl H (fun H => ?_) (fun H => ?_))))))))))
  ·refine Tr.sr (Tr.mv rfl rfl (Tr.asg rfl rfl (Tr.nil (Tr.zA (Tr.ret (Tr.zb (Tr.QP (Tr.zb (Tr.zb (Tr.QP (Tr.zb ?_)))))))))))
   obtain rfl := oI H
   exact Tr.out (m := [iv KW]) [] (zU rfl zV) (fun W hW => ⟨rfl, hW.low leB⟩)
  ·refine Tr.skip (Tr.zA (Tr.sr (Tr.va rfl (fun _ _ a c => zX (cs := [iv p0.Unit, sL zF p0.Tools zG, sL zN p0.Steps zM]) Wt Kn (a.ev rfl) (zO.take (rdb c (vs := [iv p0.Unit, sL zF p0.Tools zG, sL zN p0.Steps zM]) (k := 1) rfl 0) 3) rfl) (Tr.va rfl (fun _ _ a c => zB zEF (a.ev rfl)) (Tr.va rfl (fun _ _ a c => zD zEg (a.ev rfl) (rdb c (vs := [iv xL1.Kind, sv xL1.Name, iv xL1.At.X, iv xL1.At.Y, sL zC8 xL1.Points zC4, iv xL1.NX, iv xL1.NY, sL zFS xL1.Steps zFK]) (k := 3) rfl 7) rfl) (Tr.mv rfl rfl (Tr.va rfl (fun _ _ a c => zo (a.ev rfl) (a.ev rfl)) ?_)))))))
   obtain ⟨zCn, zK6, H⟩ := bnd H
   refine Tr.Qa (r := (iv zCn)) (wn rfl) rfl Tryz.call41 (zH rfl (zH rfl (zH rfl zP))) (fun W hW => hrec p0 zF zG (zT.ext hW.Qr) zN zM (QV.ext hW.Qr) xL1.Steps zFS zFK (zJQ.ext hW.Qr) (w64 (p2 + 1)) zCn zK6 (HF.start _)) (Tr.asg rfl rfl (Tr.nil (Tr.zA (Tr.sr (Tr.mv rfl rfl (Tr.va rfl (fun _ _ a c => Jm (a.ev rfl) (a.ev rfl)) (Tr.nil (Tr.zA (Tr.cond rfl H (fun H => ?_) (fun H => ?_))))))))))
   ·refine Tr.sr (Tr.mv rfl rfl (Tr.asg rfl rfl (Tr.nil (Tr.zA (Tr.ret (Tr.QP (Tr.zb (Tr.zb (Tr.QP (Tr.zb ?_))))))))))
    obtain rfl := oI H
    exact Tr.out (m := [iv zCn]) [] (zU rfl zV) (fun W hW => ⟨rfl, hW.low leB⟩)
   ·exact Tr.skip (Tr.zh (Tr.zA (Tr.region (Tr.va rfl (fun _ _ a c => zo (a.ev rfl) (a.ev rfl)) (Tr.mv rfl rfl (Tr.nil (Tr.zf Qc (zY, (iL1 + 1)) ⟨rfl, Qe QE, QC QE, H⟩ (.cons rfl (.cons rfl (.cons rfl (.cons rfl (.cons (congrArg (fun z => some (Value.int .i64 z)) (Qd QE Qt.form)) .nil))))) (.cons rfl .nil))))))))
theorem zEn : ∀ (N : Nat) {w : Bs} (p0 : zt) (zF : Option Addr) (zG : Nat) (zT : Sl w.R w.W zW zF zG p0.Tools) (zN : Option Addr) (zM : Nat) (QV : Sl w.R w.W zJ zN zM p0.Steps) (p1 : (List zC)) (QB : Option Addr) (QA : Nat) (Qt : Sl w.R w.W zJ QB QA p1) (p2 : Int) (r : Int) (H : zA0 N p0 p1 p2 = some r) (hE : HF w w.W E0), Calls Tryz.prog 41 [.agg #[iv p0.Unit, sL zF p0.Tools zG, sL zN p0.Steps zM], sL QB p1 QA, iv p2].toArray w.W fun e W' => e = .returned (iv r) ∧ HF w W' E0
 | 0 => by intros; rename_i H _; cases H
 | N + 1 => zHz N (zA0 N) (zEn N)

theorem Wz (N : Nat) {w : Bs} (p0 : zt) (zF : Option Addr) (zG : Nat) (zT : Sl w.R w.W zW zF zG p0.Tools) (zN : Option Addr) (zM : Nat) (QV : Sl w.R w.W zJ zN zM p0.Steps) (r : Int) (H : Jl N p0 = some r) (hE : HF w w.W E0) : Calls Tryz.prog 13 [.agg #[iv p0.Unit, sL zF p0.Tools zG, sL zN p0.Steps zM]].toArray w.W fun e W' => e = .returned (iv r) ∧ HF w W' E0 := by
 unfold Jl at H
 have leB := Bs.Le.refl w
 refine Tr.enter (n := 52) Tryz.func13 rfl rfl rfl hE (Tr.sr (Tr.box 1 (cs := [iv p0.Unit, sL zF p0.Tools zG, sL zN p0.Steps zM]) (wn rfl) rfl rfl rfl fun zw => (Tr.asg rfl rfl (Tr.nil (Tr.zA (Tr.seq (Tr.sr (Tr.va rfl (fun _ _ a c => zB Vg (a.ev rfl)) (Tr.va rfl (fun _ _ a c => zD zm (a.ev rfl) (rdb c (vs := [iv p0.Unit, sL zF p0.Tools zG, sL zN p0.Steps zM]) (k := 1) rfl 0) rfl) ?_)))))))))
 obtain ⟨y101, hy101, H⟩ := bnd H
 refine Tr.Qa (r := (bV y101)) (wn rfl) rfl Tryz.call38 (zH rfl (zH rfl (zH rfl zP))) (fun W hW => zAN p0.Unit 1 1000 y101 hy101 (HF.start _)) (Tr.va rfl (fun _ _ a c => KD (a.ev rfl)) (Tr.nil (Tr.zA (Tr.cond rfl H (fun H => ?_) (fun H => ?_)))))
 ·refine Tr.sr (Tr.asg rfl rfl (Tr.nil (Tr.zA (Tr.ret (Tr.zb ?_)))))
  obtain rfl := oI H
  exact Tr.out (m := [iv 1]) [] (zU rfl zV) (fun W hW => ⟨rfl, hW.low leB⟩)
 ·refine Tr.skip (Tr.zA (Tr.seq (Tr.sr (Tr.va rfl (fun _ _ a c => zB zEH (a.ev rfl)) (Tr.va rfl (fun _ _ a c => zD zLc (a.ev rfl) (rdb c (vs := [iv p0.Unit, sL zF p0.Tools zG, sL zN p0.Steps zM]) (k := 1) rfl 1) rfl) (Tr.va rfl (fun _ _ a c => QF zMi (a.ev rfl)) (Tr.va rfl (fun _ _ a c => VS (a.ev rfl) (a.ev rfl)) (Tr.nil (Tr.zA (Tr.cond rfl H (fun H => ?_) (fun H => ?_)))))))))))
  ·refine Tr.sr (Tr.asg rfl rfl (Tr.nil (Tr.zA (Tr.ret (Tr.zb ?_)))))
   obtain rfl := oI H
   exact Tr.out (m := [iv 2]) [] (zU rfl zV) (fun W hW => ⟨rfl, hW.low leB⟩)
  ·refine Tr.skip (Tr.zA (Tr.seq (Tr.sr (Tr.va rfl (fun _ _ a c => zB zEH (a.ev rfl)) (Tr.va rfl (fun _ _ a c => zD zLc (a.ev rfl) (rdb c (vs := [iv p0.Unit, sL zF p0.Tools zG, sL zN p0.Steps zM]) (k := 1) rfl 1) rfl) (Tr.va rfl (fun _ _ a c => QF zMi (a.ev rfl)) (Tr.mv rfl rfl (Tr.nil (Tr.zA (Tr.block (Tr.loop (σ := (List zg) × Nat) (fun m w s => m = s.1.length + 1 ∧ s.1 = List.drop s.2 p0.Tools ∧ s.2 ≤ p0.Tools.length ∧ KL N p0 s.1 s.2 = some r) (fun s => [(1, pV zw), (15, sL zF p0.Tools zG), (16, iv (p0.Tools.length : Int)), (17, iv (s.2 : Int))]) (fun s => [(1, bx zw #[iv p0.Unit, sL zF p0.Tools zG, sL zN p0.Steps zM] 25)]) (p0.Tools.length + 1) (p0.Tools, 0) ⟨rfl, rfl, Nat.zero_le _, H⟩ (.cons rfl (.cons rfl (.cons rfl (.cons rfl .nil)))) (.cons rfl .nil) (fun _ _ h => absurd h.1 (by simp)) ?_)))))))))))
   intro w Qc m s hs
   obtain ⟨zY, iL1⟩ := s
   obtain ⟨Ki, QE, hiL1, H⟩ := hs
   replace QE : zY = List.drop iL1 p0.Tools := QE
   replace H : KL N p0 zY iL1 = some r := H
   replace Ki : m + 1 = zY.length + 1 := Ki
   replace zT := zT.leR Qc
   replace QV := QV.leR Qc
   replace leB := leB.trans Qc
   obtain rfl : m = zY.length := by omega
   clear Ki
   dsimp only
   cases zY with
   | nil =>
    rw [KL.eq_1] at H
    refine Tr.sr (Tr.va rfl (fun _ _ a c => QD (a.ev rfl) (a.ev rfl)) (Tr.nil (Tr.zA (Tr.seq (Tr.Vy rfl (JA QE) (Tr.exit (Tr.ze (Tr.ze (Tr.QK (Tr.zA (Tr.seq (Tr.sr (Tr.va rfl (fun _ _ a c => zB zGH (a.ev rfl)) (Tr.va rfl (fun _ _ a c => zD zEg (a.ev rfl) (rdb c (vs := [iv p0.Unit, sL zF p0.Tools zG, sL zN p0.Steps zM]) (k := 1) rfl 2) rfl) ?_))))))))))))))
    obtain ⟨y112, hy112, H⟩ := bnd H
    refine Tr.Qa (r := (iv y112)) (wn rfl) rfl Tryz.call40 (zH rfl zP) (fun W hW => zIK N p0.Steps zN zM (QV.ext hW.Qr) y112 hy112 (HF.start _)) (Tr.va rfl (fun _ _ a c => VS (a.ev rfl) (a.ev rfl)) (Tr.nil (Tr.zA (Tr.cond rfl H (fun H => ?_) (fun H => ?_)))))
    ·refine Tr.sr (Tr.asg rfl rfl (Tr.nil (Tr.zA (Tr.ret (Tr.zb ?_)))))
     obtain rfl := oI H
     exact Tr.out (m := [iv 2]) [] (zU rfl zV) (fun W hW => ⟨rfl, hW.low leB⟩)
    ·refine Tr.skip (Tr.zA (Tr.sr (Tr.va rfl (fun _ _ a c => zX (cs := [iv p0.Unit, sL zF p0.Tools zG, sL zN p0.Steps zM]) Wt Kn (a.ev rfl) (zO.take (rdb c (vs := [iv p0.Unit, sL zF p0.Tools zG, sL zN p0.Steps zM]) (k := 1) rfl 0) 3) rfl) (Tr.va rfl (fun _ _ a c => zB zGH (a.ev rfl)) (Tr.va rfl (fun _ _ a c => zD zEg (a.ev rfl) (rdb c (vs := [iv p0.Unit, sL zF p0.Tools zG, sL zN p0.Steps zM]) (k := 1) rfl 2) rfl) ?_)))))
     obtain ⟨y113, hy113, H⟩ := bnd H
     refine Tr.Qa (r := (iv y113)) (wn rfl) rfl Tryz.call41 (zH rfl (zH rfl (zH rfl zP))) (fun W hW => zEn N p0 zF zG (zT.ext hW.Qr) zN zM (QV.ext hW.Qr) p0.Steps zN zM (QV.ext hW.Qr) 0 y113 hy113 (HF.start _)) (Tr.asg rfl rfl (Tr.nil (Tr.zA (Tr.ret ?_))))
     obtain rfl := oI H
     exact Tr.out (m := [iv y113]) [] (zU rfl zV) (fun W hW => ⟨rfl, hW.low leB⟩)
   | cons xL1 zY =>
    rw [KL.eq_2] at H
    refine Tr.sr (Tr.va rfl (fun _ _ a c => QD (a.ev rfl) (a.ev rfl)) (Tr.nil (Tr.zA (Tr.seq (Tr.Vx rfl (JU QE) (Tr.skip (Tr.zA (Tr.seq (Tr.block (Tr.sr (Tr.mv rfl rfl ?_)))))))))))
    obtain ⟨zoK, hRu114, zcq, hcu114⟩ := (zT).el (KH QE)
    obtain ⟨zGV, zGL⟩ := zoK
    have zMN := zcq
    replace zMN : Sl w.R w.W zR zGV zGL xL1.Rects := zMN
    refine Tr.va rfl (fun _ _ a c => zL zLL (a.ev rfl) zT.form (a.ev rfl) (Int.natCast_nonneg _) (QC QE)) (Tr.va rfl (fun _ _ a c => zX (cs := [sv xL1.Name, sL zGV xL1.Rects zGL]) zUG zKi (a.ev rfl) (zO.take (rdR hRu114 hcu114 c) 2) rfl) (Tr.alloc 3 (wn rfl) rfl zYL fun zKQ => (Tr.asg rfl rfl (Tr.store 3 (cs := [sv xL1.Name, sL zGV xL1.Rects zGL]) [sv xL1.Name, sL zGV xL1.Rects zGL] (wn rfl) rfl rfl rfl rfl zKi rfl rfl rfl (Tr.nil (Tr.zA (Tr.seq (Tr.sr (Tr.va rfl (fun _ _ a c => zX (cs := [sv xL1.Name, sL zGV xL1.Rects zGL]) zUG zKi (a.ev rfl) (zO.take (rdb c (vs := [sv xL1.Name, sL zGV xL1.Rects zGL]) (k := 3) rfl 0) 2) rfl) (Tr.va rfl (fun _ _ a c => zB Vg (a.ev rfl)) (Tr.va rfl (fun _ _ a c => zD zm (a.ev rfl) (rdb c (vs := [iv p0.Unit, sL zF p0.Tools zG, sL zN p0.Steps zM]) (k := 1) rfl 0) rfl) ?_)))))))))))
    obtain ⟨zFa, zTY, H⟩ := bnd H
    refine Tr.Qa (r := (iv zFa)) (wn rfl) rfl Tryz.call39 (zH rfl (zH rfl zP)) (fun W hW => zJt N xL1 zGV zGL (zMN.ext hW.Qr) p0.Unit zFa zTY (HF.start _)) (Tr.asg rfl rfl (Tr.nil (Tr.zA (Tr.sr (Tr.mv rfl rfl (Tr.va rfl (fun _ _ a c => Jm (a.ev rfl) (a.ev rfl)) (Tr.nil (Tr.zA (Tr.cond rfl H (fun H => ?_) (fun H => ?_))))))))))
    ·refine Tr.sr (Tr.mv rfl rfl (Tr.asg rfl rfl (Tr.nil (Tr.zA (Tr.ret (Tr.zb (Tr.QP (Tr.zb (Tr.zb (Tr.QP (Tr.zb ?_)))))))))))
     obtain rfl := oI H
     exact Tr.out (m := [iv zFa]) [] (zU rfl zV) (fun W hW => ⟨rfl, hW.low leB⟩)
    ·refine Tr.skip (Tr.zA (Tr.seq (Tr.draw (by kernel_rfl) (by kernel_rfl) (Tq.mv rfl rfl (Tq.va rfl (fun _ _ a c => VS (a.ev rfl) (a.ev rfl)) (Tq.mv rfl rfl ?_))))))
     obtain ⟨zif, zQn, H⟩ := bnd H
     refine Tq.mid 11 [(1, pV zw), (15, sL zF p0.Tools zG), (16, iv (p0.Tools.length : Int)), (17, iv (iL1 : Int)), (42, bV zif)] ?_ ?_
     ·cases zAp : (decide (0 < (iL1 : Int)))
      ·rw [zAp] at zQn
       rw [if_neg (by decide)] at zQn
       have H := zQn
       obtain rfl := oI H
       refine Tq.pass rfl rfl rfl rfl rfl (by decide) (Tq.pass rfl rfl rfl rfl rfl (by decide) (Tq.pass rfl rfl rfl rfl rfl (by decide) (Tq.pass rfl rfl rfl rfl rfl (by decide) (Tq.pass rfl rfl rfl rfl rfl (by decide) (Tq.pass rfl rfl rfl rfl rfl (by decide) (Tq.pass rfl rfl rfl rfl rfl (by decide) ?_))))))
       exact Tq.pass rfl rfl rfl rfl rfl (by decide) (Tq.pass rfl rfl rfl rfl rfl (by decide) (Tq.pass rfl rfl rfl rfl rfl (by decide) (Tq.va rfl (fun _ _ a c => zy (a.ev rfl) (a.ev rfl)) (Tq.fin (.cons rfl (.cons rfl (.cons rfl (.cons rfl (.cons rfl .nil)))))))))
      ·rw [zAp] at zQn
       rw [if_pos rfl] at zQn
       have H := zQn
       refine Tq.val (wg rfl rfl rfl) rfl (fun _ _ a c => zB zLE (a.ev rfl)) (Tq.val (wg rfl rfl rfl) rfl (fun _ _ a c => zD zPv (a.ev rfl) (rdb c (vs := [sv xL1.Name, sL zGV xL1.Rects zGL]) (k := 3) rfl 0) rfl) (Tq.val (wg rfl rfl rfl) rfl (fun _ _ a c => zB zEH (a.ev rfl)) (Tq.val (wg rfl rfl rfl) rfl (fun _ _ a c => zD zLc (a.ev rfl) (rdb c (vs := [iv p0.Unit, sL zF p0.Tools zG, sL zN p0.Steps zM]) (k := 1) rfl 1) rfl) (Tq.val (wg rfl rfl rfl) rfl (fun _ _ a c => run_move (a.ev rfl)) (Tq.val (wg rfl rfl rfl) rfl (fun _ _ a c => zAA (a.ev rfl) (a.ev rfl)) ?_)))))
       obtain ⟨zYc, zZv, H⟩ := bnd H
       obtain ⟨hx1200, hx1201, hx1202⟩ := zq zZv
       obtain ⟨zoJ, hRu121, zcp, hcu121⟩ := (zT).el hx1202
       obtain ⟨znv, znl⟩ := zoJ
       have zi5 := zcp
       refine Tq.val (wg rfl rfl rfl) rfl (fun _ _ a c => zL zLL (a.ev rfl) zT.form (a.ev rfl) hx1200 hx1201) (Tq.val (wg rfl rfl rfl) rfl (fun _ _ a c => zB zLE (a.ev rfl)) (Tq.val (wg rfl rfl rfl) rfl (fun _ _ a c => zD zPv (a.ev rfl) (zO.drop (rdR hRu121 hcu121 c) 0) rfl) (Tq.val (wg rfl rfl rfl) rfl (fun _ _ a c => zY7 (a.ev rfl) (a.ev rfl)) (Tq.va rfl (fun _ _ a c => zx (a.ev rfl) (a.ev rfl)) ?_))))
       obtain rfl := oI H
       exact Tq.fin (.cons rfl (.cons rfl (.cons rfl (.cons rfl (.cons rfl .nil)))))
     ·refine Tq.nil (Tr.zA (Tr.cond rfl H (fun H => ?_) (fun H => ?_)))
      ·refine Tr.sr (Tr.asg rfl rfl (Tr.nil (Tr.zA (Tr.ret (Tr.QP (Tr.zb (Tr.zb (Tr.QP (Tr.zb ?_)))))))))
       obtain rfl := oI H
       exact Tr.out (m := [iv 8]) [] (zU rfl zV) (fun W hW => ⟨rfl, hW.low leB⟩)
      ·exact Tr.skip (Tr.zh (Tr.zA (Tr.region (Tr.va rfl (fun _ _ a c => zo (a.ev rfl) (a.ev rfl)) (Tr.mv rfl rfl (Tr.nil (Tr.zf Qc (zY, (iL1 + 1)) ⟨rfl, Qe QE, QC QE, H⟩ (.cons rfl (.cons rfl (.cons rfl (.cons (congrArg (fun z => some (Value.int .i64 z)) (Qd QE zT.form)) .nil)))) (.cons rfl .nil))))))))

theorem zDk {w : Bs} (p0 : (List zK)) (zF : Option Addr) (zG : Nat) (zT : Sl w.R w.W zR zF zG p0) (r : (List zK)) (H : VL p0 = some r) (hE : HF w w.W (LEn [emp])) : Calls Tryz.prog 46 [sL zF p0 zG].toArray w.W fun e W' => ∃ u : (Option Addr × Nat), e = .returned (sL u.1 r u.2) ∧ (SlF u.1 r.length u.2) ∧ HF w W' (LEn [ow u.1 u.2 40 zR r]) := by
 unfold VL at H
 have leB := Bs.Le.refl w
 refine Tr.enter (n := 8) Tryz.func46 rfl rfl rfl hE (Tr.sr (Tr.asg rfl rfl (Tr.JI 1 40 zR ?_)))
 show Tr _ _ (uf _ 2 (sL none (([] : List zK)) 0)) _ _
 refine Tr.nil (Tr.zA (Tr.seq (Tr.sr (Tr.mv rfl rfl (Tr.va rfl (fun _ _ a c => zHQ zA7 (a.ev rfl) (a.ev rfl)) (Tr.nil (Tr.zA ?_)))))))
 cases zF with
 | none =>
  have hl0 := zKl zT.form
  replace H : (some ([] : List zK)) = some r := by simpa [apd, hl0] using H
  refine Tr.Vx rfl rfl (Tr.sr (Tr.asg rfl rfl (Tr.JI 2 40 zR ?_)))
  show Tr _ _ (uf _ 2 (sL none (([] : List zK)) 0)) _ _
  refine Tr.nil (Tr.zA (Tr.ret (Tr.zb ?_)))
  obtain rfl := oI H
  exact Tr.out (m := [sL none (([] : List zK)) 0]) [] (zU rfl zV) (fun W hW => ⟨(none, 0), rfl, Kj, HF.zGc leB (hW.pick (ks := [2]) (by decide) (zQ rfl za)) ⟨zCJ _ _ _ _ WN, trivial⟩⟩)
 | some a102 =>
  refine Tr.Vy rfl rfl (Tr.skip (Tr.zA (Tr.sr (Tr.buildSlice 3 (e := 40) (vs := []) (cs := []) (wn rfl) rfl QW (by kernel_rfl) fun zw => (Tr.mv rfl rfl (Tr.own 3 zR ([] : List zK) (css := []) rfl .nil rfl (by decide) (zDb rfl) ?_))))))
  obtain ⟨zKJ, zOy, H⟩ := bnd H
  refine Tr.zLZ 3 (t := zR) (l := ([] : List zK)) (l2 := p0) (wn rfl) rfl rfl rfl rfl (apT WN (fun W hW => (Sl.inB zT hW))) zA7 KM zSO (by decide) zUC rfl zOy fun zJA zIw hAl101 => (Tr.asg rfl rfl (Tr.nil (Tr.zA (Tr.ret ?_))))
  obtain rfl := oI H
  exact Tr.out (m := [sL zJA zKJ zIw]) [] (zU rfl zV) (fun W hW => ⟨(zJA, zIw), rfl, hAl101, HF.zGc leB (hW.pick (ks := [3]) (by decide) (zQ rfl za)) ⟨zCJ _ _ _ _ WN, trivial⟩⟩)

theorem zAT {w : Bs} (p0 : List zK) (zF : Option Addr) (zG : Nat) (p1 : zK → zK → Option Int) (fid1 : Nat) (cap1 : List Value) (hg1 : ∀ args W, (callFunc fid1 args).run Tryz.prog W = .ok (.enter fid1 args) W) (hf1 : ∀ (w' : Bs), w.Ext w' → ∀ (z0 : zK) (z1 : zK), ∀ y, p1 z0 z1 = some y → Calls Tryz.prog fid1 (([.agg #[iv z0.X0, iv z0.Y0, iv z0.X1, iv z0.Y1], .agg #[iv z1.X0, iv z1.Y0, iv z1.X1, iv z1.Y1]] : List Value) ++ cap1).toArray w'.W fun e W'' => e = .returned (iv y) ∧ HF w' W'' E0) (r : List zK) (H : zOB p0 p1 = some r) (hE : HF w w.W (LEn [ow zF zG 40 zR p0])) : Calls Tryz.prog 49 [sL zF p0 zG, .func (.func fid1) #[] cap1.toArray].toArray w.W fun e W' => ∃ u : Unit, e = .returned (.tuple #[]) ∧ (r.length = p0.length) ∧ HF w W' (LEn [ow zF zG 40 zR r]) :=
 zPi (ρ := Tryz.zP7) Tryz.zjg (fun _ => zJF zAu) (fun _ => run_sizeOf KM) VP WN () hg1 hf1 H hE

theorem zKX {w : Bs} (p0 : zK) (p1 : zK) (r : Int) (H : zAm p0 p1 = some r) (hE : HF w w.W E0) : Calls Tryz.prog 50 [.agg #[iv p0.X0, iv p0.Y0, iv p0.X1, iv p0.Y1], .agg #[iv p1.X0, iv p1.Y0, iv p1.X1, iv p1.Y1]].toArray w.W fun e W' => e = .returned (iv r) ∧ HF w W' E0 := by
 unfold zAm at H
 have leB := Bs.Le.refl w
 refine Tr.enter (n := 10) Tryz.func50 rfl rfl rfl hE (Tr.sr (Tr.box 1 (cs := [iv p0.X0, iv p0.Y0, iv p0.X1, iv p0.Y1]) (wn rfl) rfl rfl rfl fun zw => (Tr.box 2 (cs := [iv p1.X0, iv p1.Y0, iv p1.X1, iv p1.Y1]) (wn rfl) rfl rfl rfl fun Qw => (Tr.asg rfl rfl (Tr.nil (Tr.zA (Tr.sr (Tr.va rfl (fun _ _ a c => zB zAq (a.ev rfl)) (Tr.va rfl (fun _ _ a c => zD zm (a.ev rfl) (rdb c (vs := [iv p0.X0, iv p0.Y0, iv p0.X1, iv p0.Y1]) (k := 1) rfl 1) rfl) (Tr.va rfl (fun _ _ a c => zB zAq (a.ev rfl)) (Tr.va rfl (fun _ _ a c => zD zm (a.ev rfl) (rdb c (vs := [iv p1.X0, iv p1.Y0, iv p1.X1, iv p1.Y1]) (k := 2) rfl 1) rfl) ?_)))))))))))
 refine Tr.va rfl (fun _ _ a c => zAA (a.ev rfl) (a.ev rfl)) (Tr.asg rfl rfl (Tr.nil (Tr.zA (Tr.ret ?_))))
 obtain rfl := oI H
 exact Tr.out (m := [iv (w64 (p0.Y0 - p1.Y0))]) [] (zU rfl zV) (fun W hW => ⟨rfl, hW.low leB⟩)

theorem zEi {w : Bs} (p0 : List Int) (zF : Option Addr) (zG : Nat) (r : List Int) (H : zSl p0 = some r) (hE : HF w w.W (LEn [ow zF zG 3 QR p0])) : Calls Tryz.prog 51 [sL zF p0 zG].toArray w.W fun e W' => ∃ u : Unit, e = .returned (.tuple #[]) ∧ (r.length = p0.length) ∧ HF w W' (LEn [ow zF zG 3 QR r]) :=
 zUm (ρ := Tryz.zOD) Tryz.zfA rfl WF zRM () H hE

theorem zDM {w : Bs} (p0 : List Int) (zF : Option Addr) (zG : Nat) (r : List Int) (H : cpI p0 = some r) (hE : HF w w.W (LEn [ow zF zG 3 QR p0])) : Calls Tryz.prog 52 [sL zF p0 zG].toArray w.W fun e W' => ∃ u : (Option Addr × Nat), e = .returned (sL u.1 r u.2) ∧ (SlF u.1 r.length u.2) ∧ HF w W' (LEn [ow u.1 u.2 3 QR r]) :=
 zPq (ρ := Tryz.zPH) Tryz.zis rfl WF zRM () H hE

theorem zKW {w : Bs} (p0 : zK) (q0 : (List Int)) (Aq0_0 : Option Addr) (cq0_0 : Nat) (zZ1 : Sl w.R w.W QR Aq0_0 cq0_0 q0) (bq0 : Nat) (hb0 : w.R bq0) (hc0 : zO w.W bq0 0 [sL Aq0_0 q0 cq0_0]) (q1 : Int) (bq1 : Nat) (hb1 : w.R bq1) (hc1 : zO w.W bq1 0 [iv q1]) (r : Bool) (H : zAl p0 q0 q1 = some r) (hE : HF w w.W E0) : Calls Tryz.prog 54 [.agg #[iv p0.X0, iv p0.Y0, iv p0.X1, iv p0.Y1], pV bq0, pV bq1].toArray w.W fun e W' => e = .returned (bV r) ∧ HF w W' E0 := by
 unfold zAl at H
 have leB := Bs.Le.refl w
 refine Tr.enter (n := 12) Tryz.func54 rfl rfl rfl hE (Tr.sr (Tr.box 1 (cs := [iv p0.X0, iv p0.Y0, iv p0.X1, iv p0.Y1]) (wn rfl) rfl rfl rfl fun zw => (Tr.asg rfl rfl (Tr.nil (Tr.zA (Tr.seq (Tr.draw (by kernel_rfl) (by kernel_rfl) (Tq.va rfl (fun _ _ a c => zB zDe (a.ev rfl)) (Tq.va rfl (fun _ _ a c => zD zm (a.ev rfl) (rdb c (vs := [iv p0.X0, iv p0.Y0, iv p0.X1, iv p0.Y1]) (k := 1) rfl 3) rfl) (Tq.va rfl (fun _ _ a c => zD zCt (a.ev rfl) (rdR hb0 hc0 c) rfl) (Tq.va rfl (fun _ _ a c => zD zm (a.ev rfl) (rdR hb1 hc1 c) rfl) ?_)))))))))))
 obtain ⟨x101, hx101, H⟩ := bnd H
 obtain ⟨ziN, ziM, ziL⟩ := zq hx101
 refine Tq.va rfl (fun _ _ a c => zL zAr (a.ev rfl) zZ1.form (a.ev rfl) ziN ziM) (Tq.va rfl (fun _ _ a c => zD zm (a.ev rfl) (rdF WF zZ1 ziL c) rfl) (Tq.va rfl (fun _ _ a c => zAX (a.ev rfl) (a.ev rfl)) (Tq.asg rfl rfl (Tq.nil (Tr.zA (Tr.ret ?_))))))
 obtain rfl := oI H
 exact Tr.out (m := [bV (decide (p0.Y1 ≤ x101))]) [] (zU rfl zV) (fun W hW => ⟨rfl, hW.low leB⟩)

theorem zFp {w : Bs} (p0 : (List zK)) (zF : Option Addr) (zG : Nat) (zT : Sl w.R w.W zR zF zG p0) (p1 : zK → Option Bool) (fid1 : Nat) (cap1 : List Value) (hg1 : ∀ args W, (callFunc fid1 args).run Tryz.prog W = .ok (.enter fid1 args) W) (hf1 : ∀ (w' : Bs), w.Ext w' → ∀ (z0 : zK), ∀ y, p1 z0 = some y → Calls Tryz.prog fid1 (([.agg #[iv z0.X0, iv z0.Y0, iv z0.X1, iv z0.Y1]] : List Value) ++ cap1).toArray w'.W fun e W'' => e = .returned (bV y) ∧ HF w' W'' E0) (r : Int) (H : WZ p0 p1 = some r) (hE : HF w w.W E0) : Calls Tryz.prog 72 [sL zF p0 zG, .func (.func fid1) #[] cap1.toArray].toArray w.W fun e W' => e = .returned (iv r) ∧ HF w W' E0 := by
 unfold WZ at H
 have leB := Bs.Le.refl w
 refine Tr.enter (n := 19) Tryz.func72 rfl rfl rfl hE (Tr.sr (Tr.asg rfl rfl (Tr.nil (Tr.zA (Tr.seq (Tr.sr (Tr.mv rfl rfl (Tr.va rfl (fun _ _ a c => QF zA7 (a.ev rfl)) (Tr.mv rfl rfl (Tr.nil (Tr.zA (Tr.block (Tr.loop (σ := (List zK) × Nat) (fun m w s => m = s.1.length + 1 ∧ s.1 = List.drop s.2 p0 ∧ s.2 ≤ p0.length ∧ JH p1 s.1 s.2 = some r) (fun s => [(0, sL zF p0 zG), (1, .func (.func fid1) #[] cap1.toArray), (7, iv (p0.length : Int)), (8, iv (s.2 : Int))]) (fun s => []) (p0.length + 1) (p0, 0) ⟨rfl, rfl, Nat.zero_le _, H⟩ (.cons rfl (.cons rfl (.cons rfl (.cons rfl .nil)))) .nil (fun _ _ h => absurd h.1 (by simp)) ?_)))))))))))))
 intro w Qc m s hs
 obtain ⟨zY, iL1⟩ := s
 obtain ⟨Ki, QE, hiL1, H⟩ := hs
 replace QE : zY = List.drop iL1 p0 := QE
 replace H : JH p1 zY iL1 = some r := H
 replace Ki : m + 1 = zY.length + 1 := Ki
 replace zT := zT.leR Qc
 replace hf1 := fun w' he => hf1 w' (Qc.ext.trans he)
 replace leB := leB.trans Qc
 obtain rfl : m = zY.length := by omega
 clear Ki
 dsimp only
 cases zY with
 | nil =>
  rw [JH.eq_1] at H
  refine Tr.sr (Tr.va rfl (fun _ _ a c => QD (a.ev rfl) (a.ev rfl)) (Tr.nil (Tr.zA (Tr.seq (Tr.Vy rfl (JA QE) (Tr.exit (Tr.ze (Tr.ze (Tr.QK (Tr.zA (Tr.sr (Tr.asg rfl rfl (Tr.nil (Tr.zA (Tr.ret ?_)))))))))))))))
  obtain rfl := oI H
  exact Tr.out (m := [iv (-1)]) [] (zU rfl zV) (fun W hW => ⟨rfl, hW.low leB⟩)
 | cons xL1 zY =>
  rw [JH.eq_2] at H
  refine Tr.sr (Tr.va rfl (fun _ _ a c => QD (a.ev rfl) (a.ev rfl)) (Tr.nil (Tr.zA (Tr.seq (Tr.Vx rfl (JU QE) (Tr.skip (Tr.zA (Tr.seq (Tr.block (Tr.sr (Tr.mv rfl rfl (Tr.asg rfl rfl (Tr.nil (Tr.zA (Tr.sr (Tr.mv rfl rfl (Tr.mv rfl rfl (Tr.mv rfl rfl (Tr.va rfl (fun _ _ a c => zL zB5 (a.ev rfl) zT.form (a.ev rfl) (Int.natCast_nonneg _) (QC QE)) (Tr.va rfl (fun _ _ a c => zX (cs := [iv xL1.X0, iv xL1.Y0, iv xL1.X1, iv xL1.Y1]) zAu KM (a.ev rfl) (zO.take (rdF VP zT (KH QE) c) 4) rfl) ?_))))))))))))))))))))
  obtain ⟨zk, zCr, H⟩ := bnd H
  refine Tr.zLY (r := (bV zk)) (wn rfl) rfl rfl hg1 (zH rfl zP) (fun W hW => hf1 hW.all hW.Qr xL1 _ zCr) (Tr.nil (Tr.zA (Tr.cond rfl H (fun H => ?_) (fun H => ?_))))
  ·refine Tr.sr (Tr.mv rfl rfl (Tr.asg rfl rfl (Tr.nil (Tr.zA (Tr.ret (Tr.QP (Tr.zb (Tr.zb (Tr.QP (Tr.zb ?_))))))))))
   obtain rfl := oI H
   exact Tr.out (m := [iv (iL1 : Int)]) [] (zU rfl zV) (fun W hW => ⟨rfl, hW.low leB⟩)
  ·exact Tr.skip (Tr.zh (Tr.zA (Tr.region (Tr.va rfl (fun _ _ a c => zo (a.ev rfl) (a.ev rfl)) (Tr.mv rfl rfl (Tr.nil (Tr.zf Qc (zY, (iL1 + 1)) ⟨rfl, Qe QE, QC QE, H⟩ (.cons rfl (.cons rfl (.cons rfl (.cons (congrArg (fun z => some (Value.int .i64 z)) (Qd QE zT.form)) .nil)))) .nil)))))))

theorem zFN (N : Nat) {w : Bs} (p0 : (List zK)) (zF : Option Addr) (zG : Nat) (p1 : zK → Option Bool) (fid1 : Nat) (cap1 : List Value) (hg1 : ∀ args W, (callFunc fid1 args).run Tryz.prog W = .ok (.enter fid1 args) W) (hf1 : ∀ (w' : Bs), w.Ext w' → ∀ (z0 : zK), ∀ y, p1 z0 = some y → Calls Tryz.prog fid1 (([.agg #[iv z0.X0, iv z0.Y0, iv z0.X1, iv z0.Y1]] : List Value) ++ cap1).toArray w'.W fun e W'' => e = .returned (bV y) ∧ HF w' W'' E0) (r : (List zK)) (H : VR N p0 p1 = some r) (hE : HF w w.W (LEn [ow zF zG 40 zR p0])) : Calls Tryz.prog 53 [sL zF p0 zG, .func (.func fid1) #[] cap1.toArray].toArray w.W fun e W' => ∃ u : (Option Addr × Nat), e = .returned (sL u.1 r u.2) ∧ (SlF u.1 r.length u.2) ∧ HF w W' (LEn [ow u.1 u.2 40 zR r]) := by
 unfold VR at H
 have zCZ := (hE.sl (k := 0) rfl).form
 have leB := Bs.Le.refl w
 refine Tr.enter (n := 42) Tryz.func53 rfl rfl rfl hE (Tr.sr (Tr.asg rfl rfl (Tr.JI 1 40 zR ?_)))
 show Tr _ _ (uf _ 4 (sL none (([] : List zK)) 0)) _ _
 refine Tr.nil (Tr.zA (Tr.sr (Tr.mv rfl rfl (Tr.mv rfl rfl ?_))))
 obtain ⟨QT, zBG, H⟩ := bnd H
 refine Tr.Qa (r := (iv QT)) (wn rfl) rfl Tryz.call72 (zH rfl (zH rfl zP)) (fun W hW => zFp p0 zF zG (hW.zCj (k := 0) rfl) p1 fid1 cap1 hg1 (fun w' he => hf1 w' (hW.Qr.trans he)) QT zBG (HF.start _)) (Tr.asg rfl rfl (Tr.nil (Tr.zA (Tr.seq (Tr.sr (Tr.mv rfl rfl (Tr.va rfl (fun _ _ a c => Ql (a.ev rfl) (a.ev rfl)) (Tr.nil (Tr.zA (Tr.cond rfl H (fun H => ?_) (fun H => ?_)))))))))))
 ·refine Tr.sr (Tr.mv rfl rfl (Tr.asg rfl rfl (Tr.nil (Tr.zA (Tr.ret (Tr.zb ?_))))))
  obtain rfl := oI H
  exact Tr.out (m := [sL zF p0 zG]) [] (zU rfl zV) (fun W hW => ⟨(zF, zG), rfl, zCZ, HF.zGc leB (hW.pick (ks := [0]) (by decide) (zQ rfl za)) ⟨zCJ _ _ _ _ WN, trivial⟩⟩)
 ·refine Tr.skip (Tr.zA (Tr.seq (Tr.sr (Tr.mv rfl rfl (Tr.va rfl (fun _ _ a c => zo (a.ev rfl) (a.ev rfl)) (Tr.asg rfl rfl (Tr.nil (Tr.zA (Tr.block (Tr.loop (σ := (List zK) × Int × Int) (fun m w s => Qq p1 m s.1 s.2.1 s.2.2 = some r ∧ s.1.length = p0.length) (fun s => [(0, sL zF s.1 zG), (1, .func (.func fid1) #[] cap1.toArray), (5, iv s.2.1), (6, iv s.2.2)]) (fun s => [(0, ow zF zG 40 zR s.1)]) N (p0, QT, (w64 (QT + 1))) ⟨H, rfl⟩ (.cons rfl (.cons rfl (.cons rfl (.cons rfl .nil)))) (.cons rfl .nil) (fun _ _ h => zAg (h.1)) ?_))))))))))
  intro w Qc mL1 s hs
  obtain ⟨zFD, zE6, zF1⟩ := s
  obtain ⟨H, zQU⟩ := hs
  replace H : Qq p1 (mL1 + 1) zFD zE6 zF1 = some r := H
  replace hf1 := fun w' he => hf1 w' (Qc.ext.trans he)
  replace leB := leB.trans Qc
  replace zQU : zFD.length = p0.length := zQU
  have zO1 : SlF zF zFD.length zG := (by rw [zQU]; exact zCZ)
  rw [Qq.eq_2] at H
  dsimp only
  refine Tr.seq (Tr.sr (Tr.mv rfl rfl (Tr.mv rfl rfl (Tr.va rfl (fun _ _ a c => QF zA7 (a.ev rfl)) (Tr.va rfl (fun _ _ a c => QD (a.ev rfl) (a.ev rfl)) (Tr.nil (Tr.zA (Tr.cond rfl H (fun H => ?_) (fun H => ?_)))))))))
  ·refine Tr.skip (Tr.zA (Tr.seq (Tr.block (Tr.sr (Tr.mv rfl rfl (Tr.mv rfl rfl ?_))))))
   obtain ⟨WM, zlp, H⟩ := bnd H
   obtain ⟨hx1230, hx1231, hx1232⟩ := zq zlp
   refine Tr.va rfl (fun _ _ a c => zL zB5 (a.ev rfl) zO1 (a.ev rfl) hx1230 hx1231) (Tr.va rfl (fun _ _ a c => zX (cs := [iv WM.X0, iv WM.Y0, iv WM.X1, iv WM.Y1]) zAu KM (a.ev rfl) (zO.take (rdo VP (k := 0) c rfl hx1232) 4) rfl) (Tr.alloc 4 (wn rfl) rfl zDE fun zdY => (Tr.store 4 (cs := [iv WM.X0, iv WM.Y0, iv WM.X1, iv WM.Y1]) [iv WM.X0, iv WM.Y0, iv WM.X1, iv WM.Y1] (wn rfl) rfl rfl rfl rfl KM rfl rfl rfl (Tr.nil (Tr.zA (Tr.sr (Tr.mv rfl rfl (Tr.va rfl (fun _ _ a c => zX (cs := [iv WM.X0, iv WM.Y0, iv WM.X1, iv WM.Y1]) zAu KM (a.ev rfl) (zO.take (rdb c (vs := [iv WM.X0, iv WM.Y0, iv WM.X1, iv WM.Y1]) (k := 4) rfl 0) 4) rfl) ?_))))))))
   obtain ⟨zGZ, zTU, H⟩ := bnd H
   refine Tr.zLY (r := (bV zGZ)) (wn rfl) rfl rfl hg1 (zH rfl zP) (fun W hW => hf1 hW.all hW.Qr WM _ zTU) (Tr.va rfl (fun _ _ a c => KD (a.ev rfl)) (Tr.nil (Tr.zA (Tr.cond rfl H (fun H => ?_) (fun H => ?_)))))
   ·refine Tr.sr (Tr.mv rfl rfl (Tr.mv rfl rfl (Tr.va rfl (fun _ _ a c => zX (cs := [iv WM.X0, iv WM.Y0, iv WM.X1, iv WM.Y1]) zAu KM (a.ev rfl) (zO.take (rdb c (vs := [iv WM.X0, iv WM.Y0, iv WM.X1, iv WM.Y1]) (k := 4) rfl 0) 4) rfl) ?_)))
    obtain ⟨zN1, zlm, H⟩ := bnd H
    obtain ⟨zh1, zh0, zhz⟩ := zq zlm
    refine Tr.va rfl (fun _ _ a c => zL zB5 (a.ev rfl) zO1 (a.ev rfl) zh1 zh0) ?_
    obtain ⟨zRb, zeP, H⟩ := bnd H
    have zMP := zCG zeP
    refine Tr.zCz 0 (t := zR) (l := zFD) (i := zE6) (fo := 0) (cs := [iv WM.X0, iv WM.Y0, iv WM.X1, iv WM.Y1]) WM (wn rfl) rfl rfl rfl rfl rfl zhz KM rfl (fun u _ => ⟨u, trivial, rfl⟩) rfl zeP ?_
    have zoe : SlF zF zRb.length zG := by rw [zMP]; exact zO1
    have hsl127 := zMP.trans zQU
    exact Tr.sel (lf := [(0, sL zF zRb zG), (1, .func (.func fid1) #[] cap1.toArray), (5, iv zE6), (6, iv zF1), (7, pV zdY), (16, iv zF1), (17, sL zF zRb zG), (18, iv (zFD.length : Int)), (19, bV (decide (zF1 < (zFD.length : Int)))), (22, sL zF zRb zG), (23, iv zF1), (25, .agg #[iv WM.X0, iv WM.Y0, iv WM.X1, iv WM.Y1]), (26, .func (.func fid1) #[] cap1.toArray), (27, .agg #[iv WM.X0, iv WM.Y0, iv WM.X1, iv WM.Y1]), (28, bV zGZ), (29, bV (!zGZ)), (30, sL zF zRb zG), (31, iv zE6), (32, .agg #[iv WM.X0, iv WM.Y0, iv WM.X1, iv WM.Y1])]) (le := [(0, ow zF zG 40 zR zRb), (4, bx zdY #[iv WM.X0, iv WM.Y0, iv WM.X1, iv WM.Y1] 40)]) (.cons (Km rfl (by unfold sL; rw [zMP])) (.cons rfl (.cons rfl (.cons rfl (.cons rfl (.cons rfl (.cons (Km rfl (by unfold sL; rw [zMP])) (.cons rfl (.cons rfl (.cons (Km rfl (by unfold sL; rw [zMP])) (.cons rfl (.cons rfl (.cons rfl (.cons rfl (.cons rfl (.cons rfl (.cons (Km rfl (by unfold sL; rw [zMP])) (.cons rfl (.cons rfl .nil))))))))))))))))))) (.cons rfl (.cons rfl .nil)) (Tr.nil (Tr.zA (Tr.region (Tr.mv rfl rfl (Tr.va rfl (fun _ _ a c => zo (a.ev rfl) (a.ev rfl)) (Tr.asg rfl rfl (Tr.nil (Tr.zh (Tr.zA (Tr.region (Tr.mv rfl rfl (Tr.va rfl (fun _ _ a c => zo (a.ev rfl) (a.ev rfl)) (Tr.asg rfl rfl (Tr.nil (Tr.zf Qc (zRb, (w64 (zE6 + 1)), (w64 (zF1 + 1))) ⟨H, hsl127⟩ (.cons rfl (.cons rfl (.cons rfl (.cons rfl .nil)))) (.cons rfl .nil))))))))))))))))
   ·exact Tr.skip (Tr.zh (Tr.zA (Tr.region (Tr.mv rfl rfl (Tr.va rfl (fun _ _ a c => zo (a.ev rfl) (a.ev rfl)) (Tr.asg rfl rfl (Tr.nil (Tr.zf Qc (zFD, zE6, (w64 (zF1 + 1))) ⟨H, zQU⟩ (.cons rfl (.cons rfl (.cons rfl (.cons rfl .nil)))) (.cons rfl .nil)))))))))
  ·refine Tr.exit (Tr.ze (Tr.ze (Tr.QK (Tr.zA (Tr.sr (Tr.mv rfl rfl (Tr.mv rfl rfl ?_)))))))
   obtain ⟨zCk, zIm, H⟩ := bnd H
   refine Tr.va rfl (fun _ _ a c => zIc zB5 (a.ev rfl) zO1 (a.ev rfl) zIm) ?_
   have hnhcl128 := zdT (zK.mk 0 0 0 0) zIm
   refine Tr.za9 0 (lo := zE6) (t := zR) (l := zFD) (zK.mk 0 0 0 0) (wn rfl) rfl zIm rfl zA7 zDE ⟨(), WN _ _ _ _, VP _ _⟩ rfl rfl ?_
   have zTs : SlF zF ((clr zFD zE6 zCk.length (zK.mk 0 0 0 0))).length zG := by rw [hnhcl128]; exact zO1
   have hshcl128 := hnhcl128.trans zQU
   refine Tr.sel (lf := [(0, sL zF ((clr zFD zE6 zCk.length (zK.mk 0 0 0 0))) zG), (1, .func (.func fid1) #[] cap1.toArray), (5, iv zE6), (6, iv zF1), (16, iv zF1), (17, sL zF ((clr zFD zE6 zCk.length (zK.mk 0 0 0 0))) zG), (18, iv (zFD.length : Int)), (19, bV (decide (zF1 < (zFD.length : Int)))), (36, sL zF ((clr zFD zE6 zCk.length (zK.mk 0 0 0 0))) zG), (37, iv zE6)]) (le := [(0, ow zF zG 40 zR (clr zFD zE6 zCk.length (zK.mk 0 0 0 0)))]) (.cons (Km rfl (by unfold sL; rw [hnhcl128])) (.cons rfl (.cons rfl (.cons rfl (.cons rfl (.cons (Km rfl (by unfold sL; rw [hnhcl128])) (.cons rfl (.cons rfl (.cons (Km rfl (by unfold sL; rw [hnhcl128])) (.cons rfl .nil)))))))))) (.cons rfl .nil) (Tr.nil (Tr.zA (Tr.sr (Tr.mv rfl rfl (Tr.mv rfl rfl ?_)))))
   obtain ⟨zNL, zQT, H⟩ := bnd H
   refine Tr.va rfl (fun _ _ a c => zVu zB5 (a.ev rfl) zTs (a.ev rfl) zQT) (Tr.asg rfl rfl (Tr.nil (Tr.zA (Tr.ret ?_))))
   obtain rfl := oI H
   exact Tr.zVr 0 zQT rfl (Tr.out (m := [sL zF zNL zG]) [] (zU rfl zV) (fun W hW => ⟨(zF, zG), rfl, (zON zTs zQT), HF.zGc leB (hW.pick (ks := [0]) (by decide) (zQ rfl za)) ⟨zCJ _ _ _ _ WN, trivial⟩⟩))

theorem zHs {w : Bs} (p0 : zK) (p1 : zK) (r : Int) (H : Vp p0 p1 = some r) (hE : HF w w.W E0) : Calls Tryz.prog 74 [.agg #[iv p0.X0, iv p0.Y0, iv p0.X1, iv p0.Y1], .agg #[iv p1.X0, iv p1.Y0, iv p1.X1, iv p1.Y1]].toArray w.W fun e W' => e = .returned (iv r) ∧ HF w W' E0 := by
 unfold Vp at H
 have leB := Bs.Le.refl w
 refine Tr.enter (n := 10) Tryz.func74 rfl rfl rfl hE (Tr.sr (Tr.box 1 (cs := [iv p0.X0, iv p0.Y0, iv p0.X1, iv p0.Y1]) (wn rfl) rfl rfl rfl fun zw => (Tr.box 2 (cs := [iv p1.X0, iv p1.Y0, iv p1.X1, iv p1.Y1]) (wn rfl) rfl rfl rfl fun Qw => (Tr.asg rfl rfl (Tr.nil (Tr.zA (Tr.sr (Tr.va rfl (fun _ _ a c => zB WX (a.ev rfl)) (Tr.va rfl (fun _ _ a c => zD zm (a.ev rfl) (rdb c (vs := [iv p0.X0, iv p0.Y0, iv p0.X1, iv p0.Y1]) (k := 1) rfl 0) rfl) (Tr.va rfl (fun _ _ a c => zB WX (a.ev rfl)) (Tr.va rfl (fun _ _ a c => zD zm (a.ev rfl) (rdb c (vs := [iv p1.X0, iv p1.Y0, iv p1.X1, iv p1.Y1]) (k := 2) rfl 0) rfl) ?_)))))))))))
 refine Tr.va rfl (fun _ _ a c => zAA (a.ev rfl) (a.ev rfl)) (Tr.asg rfl rfl (Tr.nil (Tr.zA (Tr.ret ?_))))
 obtain rfl := oI H
 exact Tr.out (m := [iv (w64 (p0.X0 - p1.X0))]) [] (zU rfl zV) (fun W hW => ⟨rfl, hW.low leB⟩)

theorem zI2 {w : Bs} (p0 : (List zK)) (zF : Option Addr) (zG : Nat) (r : ((List Int) × (List zK))) (H : zAv p0 = some r) (hE : HF w w.W (LEn [ow zF zG 40 zR p0, emp])) : Calls Tryz.prog 56 [sL zF p0 zG].toArray w.W fun e W' => ∃ u : (Option Addr × Nat), e = .returned (sL u.1 r.1 u.2) ∧ (SlF u.1 r.1.length u.2 ∧ r.2.length = p0.length) ∧ HF w W' (LEn [ow zF zG 40 zR r.2, ow u.1 u.2 3 QR r.1]) := by
 unfold zAv at H
 have zCZ := (hE.sl (k := 0) rfl).form
 have leB := Bs.Le.refl w
 refine Tr.enter (n := 48) Tryz.func56 rfl rfl rfl hE (Tr.sr (Tr.asg rfl rfl (Tr.JI 1 3 QR ?_)))
 show Tr _ _ (uf _ 2 (sL none (([] : List Int)) 0)) _ _
 refine Tr.nil (Tr.zA (Tr.sr (Tr.mv rfl rfl ?_)))
 obtain ⟨QT, zBG, H⟩ := bnd H
 refine Tr.VB [0] [ow zF zG 40 zR p0] (U := Unit) (fun u => (.tuple #[])) (fun u => QT.length = p0.length) (fun u => [ow zF zG 40 zR QT]) rfl (zQ rfl za) (fun _ => rfl) (wn rfl) rfl Tryz.call49 (zH rfl (zH rfl zP)) (fun W hW hp hE => zAT p0 zF zG (fun z0 z1 => Vp z0 z1) 74 [] Tryz.call74 (fun w' he z0 z1 y hy => zHs z0 z1 y hy (HF.start _)) QT zBG hE) ?_
 intro u hu
 have gky100_0 := hu
 have zJU : QT.length = p0.length := gky100_0 --@phi
 have zMV : SlF zF QT.length zG := by rw [zJU]; exact zCZ
 have hsky100_0 := zJU.trans rfl
 show Tr _ _ (uf _ 8 (.tuple #[])) (up _ 0 (ow zF zG 40 zR QT)) _
 refine Tr.sel (lf := [(0, sL zF QT zG), (2, sL none (([] : List Int)) 0), (7, sL zF QT zG), (8, (.tuple #[]))]) (le := [(0, ow zF zG 40 zR QT), (1, ow none 0 3 QR ([] : List Int))]) (.cons (Km rfl (by unfold sL; rw [zJU])) (.cons rfl (.cons (Km rfl (by unfold sL; rw [zJU])) (.cons rfl .nil)))) (.cons rfl (.cons rfl .nil)) (Tr.nil (Tr.zA (Tr.sr (Tr.asg rfl rfl (Tr.JI 2 3 QR ?_)))))
 show Tr _ _ (uf _ 3 (sL none (([] : List Int)) 0)) _ _
 refine Tr.nil (Tr.zA (Tr.seq (Tr.sr (Tr.mv rfl rfl (Tr.va rfl (fun _ _ a c => QF zA7 (a.ev rfl)) (Tr.mv rfl rfl (Tr.nil (Tr.zA (Tr.block (Tr.loop (σ := (List zK) × Nat × (List Int) × (Option Addr) × Nat) (fun m w s => m = s.1.length + 1 ∧ s.1 = List.drop s.2.1 QT ∧ s.2.1 ≤ QT.length ∧ JV QT s.1 s.2.1 s.2.2.1 = some r ∧ SlF s.2.2.2.1 s.2.2.1.length s.2.2.2.2) (fun s => [(3, sL s.2.2.2.1 s.2.2.1 s.2.2.2.2), (9, sL zF QT zG), (10, iv (QT.length : Int)), (11, iv (s.2.1 : Int))]) (fun s => [(0, ow zF zG 40 zR QT), (2, ow s.2.2.2.1 s.2.2.2.2 3 QR s.2.2.1)]) (QT.length + 1) (QT, 0, ([] : List Int), none, 0) ⟨rfl, rfl, Nat.zero_le _, H, Kj⟩ (.cons rfl (.cons rfl (.cons rfl (.cons rfl .nil)))) (.cons rfl (.cons rfl .nil)) (fun _ _ h => absurd h.1 (by simp)) ?_))))))))))
 intro w Qc m s hs
 obtain ⟨zY, iL1, zCk, zJ6, zJ1⟩ := s
 obtain ⟨Ki, QE, hiL1, H, zIm⟩ := hs
 replace QE : zY = List.drop iL1 QT := QE
 replace H : JV QT zY iL1 zCk = some r := H
 replace Ki : m + 1 = zY.length + 1 := Ki
 replace leB := leB.trans Qc
 replace zIm : SlF zJ6 zCk.length zJ1 := zIm
 obtain rfl : m = zY.length := by omega
 clear Ki
 dsimp only
 cases zY with
 | nil =>
  rw [JV.eq_1] at H
  refine Tr.sr (Tr.va rfl (fun _ _ a c => QD (a.ev rfl) (a.ev rfl)) (Tr.nil (Tr.zA (Tr.seq (Tr.Vy rfl (JA QE) (Tr.exit (Tr.ze (Tr.ze (Tr.QK (Tr.zA (Tr.sr (Tr.mv rfl rfl (Tr.asg rfl rfl (Tr.nil (Tr.zA (Tr.ret ?_))))))))))))))))
  obtain rfl := oI H
  exact Tr.out (m := [sL zJ6 zCk zJ1]) [] (zU rfl zV) (fun W hW => ⟨(zJ6, zJ1), rfl, ⟨zIm, hsky100_0⟩, HF.zGc leB (hW.pick (ks := [0, 2]) (by decide) (zQ rfl (zQ rfl za))) ⟨zCJ _ _ _ _ WN, zCJ _ _ _ _ zRM, trivial⟩⟩)
 | cons xL1 zY =>
  rw [JV.eq_2] at H
  refine Tr.sr (Tr.va rfl (fun _ _ a c => QD (a.ev rfl) (a.ev rfl)) (Tr.nil (Tr.zA (Tr.seq (Tr.Vx rfl (JU QE) (Tr.skip (Tr.zA (Tr.seq (Tr.block (Tr.sr (Tr.va rfl (fun _ _ a c => zL zB5 (a.ev rfl) zMV (a.ev rfl) (Int.natCast_nonneg _) (QC QE)) (Tr.va rfl (fun _ _ a c => zX (cs := [iv xL1.X0, iv xL1.Y0, iv xL1.X1, iv xL1.Y1]) zAu KM (a.ev rfl) (zO.take (rdo VP (k := 0) c rfl (KH QE)) 4) rfl) (Tr.alloc 7 (wn rfl) rfl zDE fun zbQ => (Tr.store 7 (cs := [iv xL1.X0, iv xL1.Y0, iv xL1.X1, iv xL1.Y1]) [iv xL1.X0, iv xL1.Y0, iv xL1.X1, iv xL1.Y1] (wn rfl) rfl rfl rfl rfl KM rfl rfl rfl (Tr.nil (Tr.zA (Tr.sr (Tr.mv rfl rfl (Tr.va rfl (fun _ _ a c => QF zCe (a.ev rfl)) ?_)))))))))))))))))))
  refine Tr.va rfl (fun _ _ a c => zAA (a.ev rfl) (a.ev rfl)) (Tr.asg rfl rfl (Tr.nil (Tr.zA (Tr.seq (Tr.draw (by kernel_rfl) (by kernel_rfl) (Tq.mv rfl rfl (Tq.va rfl (fun _ _ a c => zFA (a.ev rfl) (a.ev rfl)) (Tq.mv rfl rfl ?_))))))))
  obtain ⟨zc5, zQj, H⟩ := bnd H
  refine Tq.mid 8 [(3, sL zJ6 zCk zJ1), (5, pV zbQ), (6, iv (w64 ((zCk.length : Int) - 1))), (9, sL zF QT zG), (10, iv (QT.length : Int)), (11, iv (iL1 : Int)), (28, bV zc5)] ?_ ?_
  ·cases zeY : (decide (0 ≤ (w64 ((zCk.length : Int) - 1))))
   ·rw [zeY] at zQj
    rw [if_neg (by decide)] at zQj
    have H := zQj
    obtain rfl := oI H
    refine Tq.pass rfl rfl rfl rfl rfl (by decide) (Tq.pass rfl rfl rfl rfl rfl (by decide) (Tq.pass rfl rfl rfl rfl rfl (by decide) (Tq.pass rfl rfl rfl rfl rfl (by decide) (Tq.pass rfl rfl rfl rfl rfl (by decide) (Tq.pass rfl rfl rfl rfl rfl (by decide) (Tq.pass rfl rfl rfl rfl rfl (by decide) ?_))))))
    exact Tq.va rfl (fun _ _ a c => zy (a.ev rfl) (a.ev rfl)) (Tq.fin (.cons rfl (.cons rfl (.cons rfl (.cons rfl (.cons rfl (.cons rfl (.cons rfl .nil))))))))
   ·rw [zeY] at zQj
    rw [if_pos rfl] at zQj
    have H := zQj
    refine Tq.val (wg rfl rfl rfl) rfl (fun _ _ a c => zB WX (a.ev rfl)) (Tq.val (wg rfl rfl rfl) rfl (fun _ _ a c => zD zm (a.ev rfl) (rdb c (vs := [iv xL1.X0, iv xL1.Y0, iv xL1.X1, iv xL1.Y1]) (k := 7) rfl 0) rfl) (Tq.val (wg rfl rfl rfl) rfl (fun _ _ a c => run_move (a.ev rfl)) (Tq.val (wg rfl rfl rfl) rfl (fun _ _ a c => run_move (a.ev rfl)) ?_)))
    obtain ⟨zjO, zlk, H⟩ := bnd H
    obtain ⟨zhs, zhr, zhq⟩ := zq zlk
    refine Tq.val (wg rfl rfl rfl) rfl (fun _ _ a c => zL zAr (a.ev rfl) zIm (a.ev rfl) zhs zhr) (Tq.val (wg rfl rfl rfl) rfl (fun _ _ a c => zD zm (a.ev rfl) (rdo WF (k := 2) c rfl zhq) rfl) (Tq.val (wg rfl rfl rfl) rfl (fun _ _ a c => zAX (a.ev rfl) (a.ev rfl)) (Tq.va rfl (fun _ _ a c => zx (a.ev rfl) (a.ev rfl)) ?_)))
    obtain rfl := oI H
    exact Tq.fin (.cons rfl (.cons rfl (.cons rfl (.cons rfl (.cons rfl (.cons rfl (.cons rfl .nil)))))))
  ·refine Tq.nil (Tr.zA (Tr.cond rfl H (fun H => ?_) (fun H => ?_)))
   ·refine Tr.Vm 9 (by kernel_rfl) (by kernel_rfl) (Tq.mv rfl rfl (Tq.mv rfl rfl (Tq.mv rfl rfl (Tq.mv rfl rfl ?_))))
    obtain ⟨zEs, zlj, H⟩ := bnd H
    obtain ⟨zhp, zho, zhn⟩ := zq zlj
    refine Tq.va rfl (fun _ _ a c => zL zAr (a.ev rfl) zIm (a.ev rfl) zhp zho) (Tq.va rfl (fun _ _ a c => zD zm (a.ev rfl) (rdo WF (k := 2) c rfl zhn) rfl) (Tq.va rfl (fun _ _ a c => zB zC0 (a.ev rfl)) (Tq.va rfl (fun _ _ a c => zD zm (a.ev rfl) (rdb c (vs := [iv xL1.X0, iv xL1.Y0, iv xL1.X1, iv xL1.Y1]) (k := 7) rfl 2) rfl) (Tq.va rfl (fun _ _ a c => zED (a.ev rfl) (a.ev rfl) _) (Tq.nil ?_)))))
    obtain ⟨zHM, zli, H⟩ := bnd H
    obtain ⟨zhm, zhl, zhk⟩ := zq zli
    refine Tr.va rfl (fun _ _ a c => zL zAr (a.ev rfl) zIm (a.ev rfl) zhm zhl) ?_
    obtain ⟨zTK, zeO, H⟩ := bnd H
    have zRm := zCG zeO
    refine Tr.zCz 2 (t := QR) (l := zCk) (i := (w64 ((zCk.length : Int) - 1))) (fo := 0) (cs := [iv (max zEs xL1.X1)]) (max zEs xL1.X1) (wn rfl) rfl rfl rfl rfl rfl zhk zE8 rfl (fun u _ => ⟨u, trivial, rfl⟩) rfl zeO ?_
    have ziX : SlF zJ6 zTK.length zJ1 := by rw [zRm]; exact zIm
    exact Tr.sel (lf := [(3, sL zJ6 zTK zJ1), (5, pV zbQ), (6, iv (w64 ((zCk.length : Int) - 1))), (9, sL zF QT zG), (10, iv (QT.length : Int)), (11, iv (iL1 : Int)), (28, bV zc5), (29, sL zJ6 zTK zJ1), (30, iv (w64 ((zCk.length : Int) - 1))), (31, sL zJ6 zTK zJ1), (32, iv (w64 ((zCk.length : Int) - 1))), (34, iv zEs), (35, .pointer (some ⟨zbQ, 2, none⟩)), (36, iv xL1.X1), (37, iv (max zEs xL1.X1))]) (le := [(0, ow zF zG 40 zR QT), (2, ow zJ6 zJ1 3 QR zTK), (7, bx zbQ #[iv xL1.X0, iv xL1.Y0, iv xL1.X1, iv xL1.Y1] 40)]) (.cons (Km rfl (by unfold sL; rw [zRm])) (.cons rfl (.cons rfl (.cons rfl (.cons rfl (.cons rfl (.cons rfl (.cons (Km rfl (by unfold sL; rw [zRm])) (.cons rfl (.cons (Km rfl (by unfold sL; rw [zRm])) (.cons rfl (.cons rfl (.cons rfl (.cons rfl (.cons rfl .nil))))))))))))))) (.cons rfl (.cons rfl (.cons rfl .nil))) (Tr.nil (Tr.zh (Tr.zA (Tr.region (Tr.va rfl (fun _ _ a c => zo (a.ev rfl) (a.ev rfl)) (Tr.mv rfl rfl (Tr.nil (Tr.zf Qc (zY, (iL1 + 1), zTK, zJ6, zJ1) ⟨rfl, Qe QE, QC QE, H, ziX⟩ (.cons rfl (.cons rfl (.cons rfl (.cons (congrArg (fun z => some (Value.int .i64 z)) (Qd QE zMV)) .nil)))) (.cons rfl (.cons rfl .nil))))))))))
   ·refine Tr.region (Tr.mv rfl rfl (Tr.va rfl (fun _ _ a c => zB WX (a.ev rfl)) (Tr.va rfl (fun _ _ a c => zD zm (a.ev rfl) (rdb c (vs := [iv xL1.X0, iv xL1.Y0, iv xL1.X1, iv xL1.Y1]) (k := 7) rfl 0) rfl) (Tr.va rfl (fun _ _ a c => zB zC0 (a.ev rfl)) (Tr.va rfl (fun _ _ a c => zD zm (a.ev rfl) (rdb c (vs := [iv xL1.X0, iv xL1.Y0, iv xL1.X1, iv xL1.Y1]) (k := 7) rfl 2) rfl) (Tr.buildSlice 8 (e := 3) (vs := [(0, iv xL1.X0), (1, iv xL1.X1)]) (cs := [iv xL1.X0, iv xL1.X1]) (wn rfl) rfl (zi rfl (zi rfl QW)) (by kernel_rfl) fun zdX => ?_))))))
    obtain ⟨zfc, zmK, H⟩ := bnd H
    exact Tr.append 2 (t := QR) (l := zCk) (l2 := [xL1.X0, xL1.X1]) (wn rfl) rfl rfl rfl rfl (fun W hW => ⟨[[iv xL1.X0], [iv xL1.X1]], (.cons ⟨(), trivial, rfl⟩ (.cons ⟨(), trivial, rfl⟩ .nil)), rdb hW (vs := [iv xL1.X0, iv xL1.X1]) (k := 8) rfl 0⟩) zCe zE8 zYK (by decide) zbI rfl zmK fun znV znA hAl137 => (Tr.asg rfl rfl (Tr.nil (Tr.zh (Tr.zA (Tr.region (Tr.va rfl (fun _ _ a c => zo (a.ev rfl) (a.ev rfl)) (Tr.mv rfl rfl (Tr.nil (Tr.zf Qc (zY, (iL1 + 1), zfc, znV, znA) ⟨rfl, Qe QE, QC QE, H, hAl137⟩ (.cons rfl (.cons rfl (.cons rfl (.cons (congrArg (fun z => some (Value.int .i64 z)) (Qd QE zMV)) .nil)))) (.cons rfl (.cons rfl .nil)))))))))))

theorem zIT {w : Bs} (p0 : (List Int)) (zF : Option Addr) (zG : Nat) (zT : Sl w.R w.W QR zF zG p0) (p1 : (List Int)) (QB : Option Addr) (QA : Nat) (Qt : Sl w.R w.W QR QB QA p1) (r : Bool) (H : zAU p0 p1 = some r) (hE : HF w w.W E0) : Calls Tryz.prog 73 [sL zF p0 zG, sL QB p1 QA].toArray w.W fun e W' => e = .returned (bV r) ∧ HF w W' E0 := by
 unfold zAU at H
 have leB := Bs.Le.refl w
 refine Tr.enter (n := 26) Tryz.func73 rfl rfl rfl hE (Tr.sr (Tr.asg rfl rfl (Tr.nil (Tr.zA (Tr.seq (Tr.sr (Tr.mv rfl rfl (Tr.va rfl (fun _ _ a c => QF zCe (a.ev rfl)) (Tr.mv rfl rfl (Tr.va rfl (fun _ _ a c => QF zCe (a.ev rfl)) (Tr.va rfl (fun _ _ a c => Jm (a.ev rfl) (a.ev rfl)) (Tr.nil (Tr.zA (Tr.cond rfl H (fun H => ?_) (fun H => ?_)))))))))))))))
 ·refine Tr.sr (Tr.asg rfl rfl (Tr.nil (Tr.zA (Tr.ret (Tr.zb ?_)))))
  obtain rfl := oI H
  exact Tr.out (m := [bV false]) [] (zU rfl zV) (fun W hW => ⟨rfl, hW.low leB⟩)
 ·refine Tr.skip (Tr.zA (Tr.seq (Tr.sr (Tr.mv rfl rfl (Tr.va rfl (fun _ _ a c => QF zCe (a.ev rfl)) (Tr.mv rfl rfl (Tr.nil (Tr.zA (Tr.block (Tr.loop (σ := (List Int) × Nat) (fun m w s => m = s.1.length + 1 ∧ s.1 = List.drop s.2 p0 ∧ s.2 ≤ p0.length ∧ Jd p1 s.1 s.2 = some r) (fun s => [(0, sL zF p0 zG), (1, sL QB p1 QA), (12, iv (p0.length : Int)), (13, iv (s.2 : Int))]) (fun s => []) (p0.length + 1) (p0, 0) ⟨rfl, rfl, Nat.zero_le _, H⟩ (.cons rfl (.cons rfl (.cons rfl (.cons rfl .nil)))) .nil (fun _ _ h => absurd h.1 (by simp)) ?_))))))))))
  intro w Qc m s hs
  obtain ⟨zY, iL1⟩ := s
  obtain ⟨Ki, QE, hiL1, H⟩ := hs
  replace QE : zY = List.drop iL1 p0 := QE
  replace H : Jd p1 zY iL1 = some r := H
  replace Ki : m + 1 = zY.length + 1 := Ki
  replace zT := zT.leR Qc
  replace Qt := Qt.leR Qc
  replace leB := leB.trans Qc
  obtain rfl : m = zY.length := by omega
  clear Ki
  dsimp only
  cases zY with
  | nil =>
   rw [Jd.eq_1] at H
   refine Tr.sr (Tr.va rfl (fun _ _ a c => QD (a.ev rfl) (a.ev rfl)) (Tr.nil (Tr.zA (Tr.seq (Tr.Vy rfl (JA QE) (Tr.exit (Tr.ze (Tr.ze (Tr.QK (Tr.zA (Tr.sr (Tr.asg rfl rfl (Tr.nil (Tr.zA (Tr.ret ?_)))))))))))))))
   obtain rfl := oI H
   exact Tr.out (m := [bV true]) [] (zU rfl zV) (fun W hW => ⟨rfl, hW.low leB⟩)
  | cons xL1 zY =>
   rw [Jd.eq_2] at H
   refine Tr.sr (Tr.va rfl (fun _ _ a c => QD (a.ev rfl) (a.ev rfl)) (Tr.nil (Tr.zA (Tr.seq (Tr.Vx rfl (JU QE) (Tr.skip (Tr.zA (Tr.seq (Tr.block (Tr.sr (Tr.mv rfl rfl (Tr.asg rfl rfl (Tr.nil (Tr.zA (Tr.seq (Tr.draw (by kernel_rfl) (by kernel_rfl) (Tq.mv rfl rfl (Tq.mv rfl rfl (Tq.va rfl (fun _ _ a c => zL zAr (a.ev rfl) zT.form (a.ev rfl) (Int.natCast_nonneg _) (QC QE)) (Tq.va rfl (fun _ _ a c => zD zm (a.ev rfl) (rdF WF zT (KH QE) c) rfl) (Tq.mv rfl rfl (Tq.mv rfl rfl ?_))))))))))))))))))))))
   obtain ⟨x103, zTc, H⟩ := bnd H
   obtain ⟨zOt, zOs, zOr⟩ := zq zTc
   refine Tq.va rfl (fun _ _ a c => zL zAr (a.ev rfl) Qt.form (a.ev rfl) zOt zOs) (Tq.va rfl (fun _ _ a c => zD zm (a.ev rfl) (rdF WF Qt zOr c) rfl) (Tq.va rfl (fun _ _ a c => Jm (a.ev rfl) (a.ev rfl)) (Tq.nil (Tr.zA (Tr.cond rfl H (fun H => ?_) (fun H => ?_))))))
   ·refine Tr.sr (Tr.asg rfl rfl (Tr.nil (Tr.zA (Tr.ret (Tr.QP (Tr.zb (Tr.zb (Tr.QP (Tr.zb ?_)))))))))
    obtain rfl := oI H
    exact Tr.out (m := [bV false]) [] (zU rfl zV) (fun W hW => ⟨rfl, hW.low leB⟩)
   ·exact Tr.skip (Tr.zh (Tr.zA (Tr.region (Tr.va rfl (fun _ _ a c => zo (a.ev rfl) (a.ev rfl)) (Tr.mv rfl rfl (Tr.nil (Tr.zf Qc (zY, (iL1 + 1)) ⟨rfl, Qe QE, QC QE, H⟩ (.cons rfl (.cons rfl (.cons rfl (.cons (congrArg (fun z => some (Value.int .i64 z)) (Qd QE zT.form)) .nil)))) .nil)))))))

theorem zCP {w : Bs} (p0 : (List zZ)) (zF : Option Addr) (zG : Nat) (p1 : zZ) (QB : Option Addr) (QA : Nat) (Qt : Sl w.O w.W QR QB QA p1.Xs) (r : (List zZ)) (H : JZ p0 p1 = some r) (hE : HF w w.W (LEn [ow zF zG 80 zS p0])) : Calls Tryz.prog 55 [sL zF p0 zG, .agg #[iv p1.Y0, iv p1.Y1, sL QB p1.Xs QA]].toArray w.W fun e W' => ∃ (w' : Bs) (u : (Option Addr × Nat)), w.Le w' ∧ e = .returned (sL u.1 r u.2) ∧ (SlF u.1 r.length u.2) ∧ HF w' W' (LEn [ow u.1 u.2 80 zS r]) := by
 unfold JZ at H
 have zCZ := (hE.sl (k := 0) rfl).form
 have leB := Bs.Le.refl w
 refine Tr.enter (n := 54) Tryz.func55 rfl rfl rfl hE (Tr.sr (Tr.box 1 (cs := [iv p1.Y0, iv p1.Y1, sL QB p1.Xs QA]) (wn rfl) rfl rfl rfl fun zw => (Tr.asg rfl rfl (Tr.JI 2 80 zS ?_))))
 show Tr _ _ (uf _ 4 (sL none (([] : List zZ)) 0)) _ _
 refine Tr.nil (Tr.zA (Tr.seq (Tr.sr (Tr.va rfl (fun _ _ a c => zB zCa (a.ev rfl)) (Tr.va rfl (fun _ _ a c => zD zCt (a.ev rfl) (rdb c (vs := [iv p1.Y0, iv p1.Y1, sL QB p1.Xs QA]) (k := 1) rfl 2) rfl) (Tr.va rfl (fun _ _ a c => QF zCe (a.ev rfl)) (Tr.va rfl (fun _ _ a c => Ql (a.ev rfl) (a.ev rfl)) (Tr.mv rfl rfl (Tr.Vw 6 [(0, sL zF p0 zG), (3, pV zw), (16, bV (((p1.Xs.length : Int) == 0) || (decide (p1.Y1 ≤ p1.Y0))))] [(0, ow zF zG 80 zS p0), (1, bx zw #[iv p1.Y0, iv p1.Y1, sL QB p1.Xs QA] 80), (2, ow none 0 80 zS ([] : List zZ))] ?_ ?_)))))))))
 ·cases zQq : ((p1.Xs.length : Int) == 0)
  ·exact Tr.val (wg rfl rfl rfl) rfl (fun _ _ a c => zB zDd (a.ev rfl)) (Tr.val (wg rfl rfl rfl) rfl (fun _ _ a c => zD zm (a.ev rfl) (rdb c (vs := [iv p1.Y0, iv p1.Y1, sL QB p1.Xs QA]) (k := 1) rfl 1) rfl) (Tr.val (wg rfl rfl rfl) rfl (fun _ _ a c => zB zGF (a.ev rfl)) (Tr.val (wg rfl rfl rfl) rfl (fun _ _ a c => zD zm (a.ev rfl) (rdb c (vs := [iv p1.Y0, iv p1.Y1, sL QB p1.Xs QA]) (k := 1) rfl 0) rfl) (Tr.val (wg rfl rfl rfl) rfl (fun _ _ a c => zAX (a.ev rfl) (a.ev rfl)) (Tr.va rfl (fun _ _ a c => zy (a.ev rfl) (a.ev rfl)) (Tr.nil (Tr.JD (.cons rfl (.cons rfl (.cons rfl .nil))) (.cons rfl (.cons rfl (.cons rfl .nil))))))))))
  ·exact Tr.pass rfl rfl rfl rfl rfl (by decide) (Tr.pass rfl rfl rfl rfl rfl (by decide) (Tr.pass rfl rfl rfl rfl rfl (by decide) (Tr.pass rfl rfl rfl rfl rfl (by decide) (Tr.pass rfl rfl rfl rfl rfl (by decide) (Tr.va rfl (fun _ _ a c => zx (a.ev rfl) (a.ev rfl)) (Tr.nil (Tr.JD (.cons rfl (.cons rfl (.cons rfl .nil))) (.cons rfl (.cons rfl (.cons rfl .nil))))))))))
 ·show Tr _ _ (LF [(0, sL zF p0 zG), (3, pV zw), (16, bV (((p1.Xs.length : Int) == 0) || (decide (p1.Y1 ≤ p1.Y0))))]) (LE [(0, ow zF zG 80 zS p0), (1, bx zw #[iv p1.Y0, iv p1.Y1, sL QB p1.Xs QA] 80), (2, ow none 0 80 zS ([] : List zZ))]) _
  refine Tr.nil (Tr.zA (Tr.cond rfl H (fun H => ?_) (fun H => ?_)))
  ·refine Tr.sr (Tr.mv rfl rfl (Tr.asg rfl rfl (Tr.nil (Tr.zA (Tr.ret (Tr.zb ?_))))))
   obtain rfl := oI H
   exact Tr.out (m := [sL zF p0 zG]) [] (zU rfl zV) (fun W hW => ⟨w, (zF, zG), leB, rfl, zCZ, hW.pick (ks := [0]) (by decide) (zQ rfl za)⟩)
  ·refine Tr.skip (Tr.zA (Tr.seq (Tr.sr (Tr.mv rfl rfl (Tr.va rfl (fun _ _ a c => QF zEz (a.ev rfl)) (Tr.va rfl (fun _ _ a c => zAA (a.ev rfl) (a.ev rfl)) (Tr.asg rfl rfl (Tr.nil (Tr.zA (Tr.seq (Tr.draw (by kernel_rfl) (by kernel_rfl) (Tq.mv rfl rfl (Tq.va rfl (fun _ _ a c => zFA (a.ev rfl) (a.ev rfl)) (Tq.mv rfl rfl ?_))))))))))))))
   obtain ⟨zPp, zG2, H⟩ := bnd H
   refine Tq.mid 9 [(0, sL zF p0 zG), (3, pV zw), (5, iv (w64 ((p0.length : Int) - 1))), (32, bV zPp)] ?_ ?_
   ·cases zQq : (decide (0 ≤ (w64 ((p0.length : Int) - 1))))
    ·rw [zQq] at zG2
     rw [if_neg (by decide)] at zG2
     have H := zG2
     obtain rfl := oI H
     refine Tq.pass rfl rfl rfl rfl rfl (by decide) (Tq.pass rfl rfl rfl rfl rfl (by decide) (Tq.pass rfl rfl rfl rfl rfl (by decide) (Tq.pass rfl rfl rfl rfl rfl (by decide) (Tq.pass rfl rfl rfl rfl rfl (by decide) (Tq.pass rfl rfl rfl rfl rfl (by decide) (Tq.pass rfl rfl rfl rfl rfl (by decide) ?_))))))
     exact Tq.pass rfl rfl rfl rfl rfl (by decide) (Tq.va rfl (fun _ _ a c => zy (a.ev rfl) (a.ev rfl)) (Tq.fin (.cons rfl (.cons rfl (.cons rfl (.cons rfl .nil))))))
    ·rw [zQq] at zG2
     rw [if_pos rfl] at zG2
     have H := zG2
     refine Tq.val (wg rfl rfl rfl) rfl (fun _ _ a c => run_move (a.ev rfl)) (Tq.val (wg rfl rfl rfl) rfl (fun _ _ a c => run_move (a.ev rfl)) ?_)
     obtain ⟨x103, zTc, H⟩ := bnd H
     obtain ⟨zOt, zOs, zOr⟩ := zq zTc
     refine Tq.val (wg rfl rfl rfl) rfl (fun _ _ a c => zL zCh (a.ev rfl) zCZ (a.ev rfl) zOt zOs) (Tq.val (wg rfl rfl rfl) rfl (fun _ _ a c => zB zDd (a.ev rfl)) (Tq.val (wg rfl rfl rfl) rfl (fun _ _ a c => (HF.atN (k := 0) c rfl zOr).elim fun u hu => zD zm (a.ev rfl) (hu.2.drop 1) rfl) (Tq.val (wg rfl rfl rfl) rfl (fun _ _ a c => zB zGF (a.ev rfl)) (Tq.val (wg rfl rfl rfl) rfl (fun _ _ a c => zD zm (a.ev rfl) (rdb c (vs := [iv p1.Y0, iv p1.Y1, sL QB p1.Xs QA]) (k := 1) rfl 0) rfl) (Tq.val (wg rfl rfl rfl) rfl (fun _ _ a c => Ql (a.ev rfl) (a.ev rfl)) (Tq.va rfl (fun _ _ a c => zx (a.ev rfl) (a.ev rfl)) ?_))))))
     obtain rfl := oI H
     exact Tq.fin (.cons rfl (.cons rfl (.cons rfl (.cons rfl .nil))))
   ·refine Tq.mv rfl rfl ?_
    obtain ⟨zKL, zCL, H⟩ := bnd H
    refine Tq.mid 9 [(0, sL zF p0 zG), (3, pV zw), (5, iv (w64 ((p0.length : Int) - 1))), (42, bV zKL)] ?_ ?_
    ·cases zQq : zPp
     ·rw [zQq] at zCL
      rw [if_neg (by decide)] at zCL
      have H := zCL
      obtain rfl := oI H
      refine Tq.pass rfl rfl rfl rfl rfl (by decide) (Tq.pass rfl rfl rfl rfl rfl (by decide) (Tq.pass rfl rfl rfl rfl rfl (by decide) (Tq.pass rfl rfl rfl rfl rfl (by decide) (Tq.pass rfl rfl rfl rfl rfl (by decide) (Tq.pass rfl rfl rfl rfl rfl (by decide) (Tq.pass rfl rfl rfl rfl rfl (by decide) ?_))))))
      exact Tq.pass rfl rfl rfl rfl rfl (by decide) (Tq.va rfl (fun _ _ a c => zy (a.ev rfl) (a.ev rfl)) (Tq.fin (.cons rfl (.cons rfl (.cons rfl (.cons rfl .nil))))))
     ·rw [zQq] at zCL
      rw [if_pos rfl] at zCL
      have H := zCL
      refine Tq.val (wg rfl rfl rfl) rfl (fun _ _ a c => run_move (a.ev rfl)) (Tq.val (wg rfl rfl rfl) rfl (fun _ _ a c => run_move (a.ev rfl)) ?_)
      obtain ⟨zEt, zTb, H⟩ := bnd H
      obtain ⟨zOn, zOm, zOl⟩ := zq zTb
      refine Tq.val (wg rfl rfl rfl) rfl (fun _ _ a c => zL zCh (a.ev rfl) zCZ (a.ev rfl) zOn zOm) (Tq.val (wg rfl rfl rfl) rfl (fun _ _ a c => zB zCa (a.ev rfl)) (Tq.zYg (U := (zS).Ad) (fun u => (zS).ok w.O w.W u zEt) (fun u => (sL u.1 zEt.Xs u.2)) (wg rfl rfl rfl) rfl (ldN (κ := 0) (t := zS) (V := fun u => (sL u.1 zEt.Xs u.2)) rfl zOl (fun _ _ u a hc => zD zCt (a.ev rfl) (hc.drop 2) rfl)) ?_))
      intro ze0 zRf
      obtain ⟨zSM, zR5⟩ := ze0
      have zJO := zRf
      replace zJO : Sl w.O w.W QR zSM zR5 zEt.Xs := zJO
      dsimp only
      refine Tq.val (wg rfl rfl rfl) rfl (fun _ _ a c => zB zCa (a.ev rfl)) (Tq.val (wg rfl rfl rfl) rfl (fun _ _ a c => zD zCt (a.ev rfl) (rdb c (vs := [iv p1.Y0, iv p1.Y1, sL QB p1.Xs QA]) (k := 1) rfl 2) rfl) ?_)
      obtain ⟨zCn, zK6, H⟩ := bnd H
      refine Tq.Qa (r := (bV zCn)) (wg rfl rfl rfl) rfl Tryz.call73 (zH rfl (zH rfl zP)) (fun W hW => zIT zEt.Xs zSM zR5 (zJO.rl.ext hW.Qr) p1.Xs QB QA (Qt.rl.ext hW.Qr) zCn zK6 (HF.start _)) (Tq.va rfl (fun _ _ a c => zx (a.ev rfl) (a.ev rfl)) ?_)
      obtain rfl := oI H
      exact Tq.fin (.cons rfl (.cons rfl (.cons rfl (.cons rfl .nil))))
    ·refine Tq.nil (Tr.zA (Tr.cond rfl H (fun H => ?_) (fun H => ?_)))
     ·refine Tr.sr (Tr.mv rfl rfl (Tr.mv rfl rfl (Tr.va rfl (fun _ _ a c => zB zDd (a.ev rfl)) (Tr.va rfl (fun _ _ a c => zD zm (a.ev rfl) (rdb c (vs := [iv p1.Y0, iv p1.Y1, sL QB p1.Xs QA]) (k := 1) rfl 1) rfl) ?_))))
      obtain ⟨zYd, zlr, H⟩ := bnd H
      obtain ⟨zh8, zh7, zh6⟩ := zq zlr
      refine Tr.va rfl (fun _ _ a c => zL zCh (a.ev rfl) zCZ (a.ev rfl) zh8 zh7) (Tr.va rfl (fun _ _ a c => zB zDd (a.ev rfl)) ?_)
      obtain ⟨zU6, zeT, H⟩ := bnd H
      have zRq := zCG zeT
      refine Tr.zCz 0 (t := zS) (l := p0) (i := (w64 ((p0.length : Int) - 1))) (fo := 1) (cs := [iv p1.Y1]) (zZ.mk zYd.Y0 p1.Y1 zYd.Xs) (wn rfl) rfl rfl rfl rfl rfl zh6 zE8 rfl (fun u hu => ⟨u, hu, rfl⟩) rfl zeT ?_
      have zia : SlF zF zU6.length zG := by rw [zRq]; exact zCZ
      have hsl112 := zRq.trans rfl
      refine Tr.sel (lf := [(0, sL zF zU6 zG), (3, pV zw), (5, iv (w64 ((p0.length : Int) - 1))), (42, bV zKL), (43, sL zF zU6 zG), (44, iv (w64 ((p0.length : Int) - 1))), (45, .pointer (some ⟨zw, 1, none⟩)), (46, iv p1.Y1)]) (le := [(0, ow zF zG 80 zS zU6), (1, bx zw #[iv p1.Y0, iv p1.Y1, sL QB p1.Xs QA] 80), (2, ow none 0 80 zS ([] : List zZ))]) (.cons (Km rfl (by unfold sL; rw [zRq])) (.cons rfl (.cons rfl (.cons rfl (.cons (Km rfl (by unfold sL; rw [zRq])) (.cons rfl (.cons rfl (.cons rfl .nil)))))))) (.cons rfl (.cons rfl (.cons rfl .nil))) (Tr.nil (Tr.zA (Tr.sr (Tr.mv rfl rfl (Tr.asg rfl rfl (Tr.nil (Tr.zA (Tr.ret (Tr.zb ?_)))))))))
      obtain rfl := oI H
      exact Tr.out (m := [sL zF zU6 zG]) [] (zU rfl zV) (fun W hW => ⟨w, (zF, zG), leB, rfl, zia, hW.pick (ks := [0]) (by decide) (zQ rfl za)⟩)
     ·refine Tr.skip (Tr.zA (Tr.sr (Tr.mv rfl rfl (Tr.va rfl (fun _ _ a c => zX (cs := [iv p1.Y0, iv p1.Y1, sL QB p1.Xs QA]) zXA zMl (a.ev rfl) (zO.take (rdb c (vs := [iv p1.Y0, iv p1.Y1, sL QB p1.Xs QA]) (k := 1) rfl 0) 3) rfl) (Tr.buildSlice 3 (e := 80) (vs := [(0, .agg #[iv p1.Y0, iv p1.Y1, sL QB p1.Xs QA])]) (cs := [iv p1.Y0, iv p1.Y1, sL QB p1.Xs QA]) (wn rfl) rfl (zi rfl QW) (by kernel_rfl) fun zVc => ?_)))))
      obtain ⟨zfe, zmM, H⟩ := bnd H
      refine Tr.append 0 (t := zS) (l := p0) (l2 := [p1]) (wn rfl) rfl rfl rfl rfl (fun W hW => ⟨[[iv p1.Y0, iv p1.Y1, sL QB p1.Xs QA]], (.cons ⟨(QB, QA), Qt, rfl⟩ .nil), rdb hW (vs := [iv p1.Y0, iv p1.Y1, sL QB p1.Xs QA]) (k := 3) rfl 0⟩) zEz zMl zjC (by decide) znD rfl zmM fun zep zeg hAl114 => (Tr.asg rfl rfl (Tr.nil (Tr.zA (Tr.ret ?_))))
      obtain rfl := oI H
      exact Tr.out (m := [sL zep zfe zeg]) [] (zU rfl zV) (fun W hW => ⟨w, (zep, zeg), leB, rfl, hAl114, hW.pick (ks := [0]) (by decide) (zQ rfl za)⟩)

end Go.Proofs.YtneghcpnehiffaaGreatDoor
