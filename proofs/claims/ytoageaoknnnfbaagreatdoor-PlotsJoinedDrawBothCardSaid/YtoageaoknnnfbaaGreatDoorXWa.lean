/- The walks: each function computes its plain function. -/
import Derived.Test.YtoageaoknnnfbaaGreatDoorXF
namespace Go.Proofs.YtoageaoknnnfbaaGreatDoor
open Go.RowKit
set_option maxRecDepth 100000
set_option maxHeartbeats 1000000
theorem zAM {w : Bs} (p0 : Int) (p1 : Int) (p2 : Int) (r : Bool) (H : VA p0 p1 p2 = some r) (hE : HF w w.W E0) : Calls Tryz.prog 22 [iv p0, iv p1, iv p2].toArray w.W fun e W' => e = .returned (bV r) ∧ HF w W' E0 := by
 unfold VA at H
 have leB := Bs.Le.refl w
 refine Tr.enter (n := 15) Tryz.func22 rfl rfl rfl hE ?_
 refine Tr.sr (Tr.asg rfl rfl (Tr.nil (Tr.zA (Tr.sr (Tr.mv rfl rfl (Tr.mv rfl rfl (Tr.va rfl (fun _ _ a c => zFN (a.ev rfl) (a.ev rfl)) ?_)))))))
 refine Tr.mv rfl rfl (Tr.Vr 4 [(14, bV ((decide (p1 ≤ p0)) && (decide (p0 ≤ p2))))] [] ?_ ?_)
 ·cases zgn : (decide (p1 ≤ p0))
  ·refine Tr.pass rfl rfl rfl rfl rfl (by decide) ?_
   refine Tr.pass rfl rfl rfl rfl rfl (by decide) ?_
   refine Tr.pass rfl rfl rfl rfl rfl (by decide) ?_
   refine Tr.va rfl (fun _ _ a c => zx (a.ev rfl) (a.ev rfl)) ?_
   exact Tr.nil (Tr.JM (.cons rfl .nil) .nil)
  ·refine Tr.val (wg rfl rfl rfl) rfl (fun _ _ a c => run_move (a.ev rfl)) ?_
   refine Tr.val (wg rfl rfl rfl) rfl (fun _ _ a c => run_move (a.ev rfl)) ?_
   refine Tr.val (wg rfl rfl rfl) rfl (fun _ _ a c => zAW (a.ev rfl) (a.ev rfl)) ?_
   refine Tr.va rfl (fun _ _ a c => zw (a.ev rfl) (a.ev rfl)) ?_
   exact Tr.nil (Tr.JM (.cons rfl .nil) .nil)
 ·show Tr _ _ (LF [(14, bV ((decide (p1 ≤ p0)) && (decide (p0 ≤ p2))))]) (LE []) _
  refine Tr.asg rfl rfl (Tr.nil (Tr.zA (Tr.ret ?_)))
  obtain rfl := oI H
  exact Tr.out (m := [bV ((decide (p1 ≤ p0)) && (decide (p0 ≤ p2)))]) [] (zW rfl zX) (fun W hW => ⟨rfl, hW.low leB⟩)

theorem zNA (N : Nat) {w : Bs} (p0 : ByteArray) (r : Bool) (H : WF N p0 = some r) (hE : HF w w.W E0) : Calls Tryz.prog 71 [sv p0].toArray w.W fun e W' => e = .returned (bV r) ∧ HF w W' E0 := by
 unfold WF at H
 have leB := Bs.Le.refl w
 refine Tr.enter (n := 59) Tryz.func71 rfl rfl rfl hE ?_
 refine Tr.sr (Tr.asg rfl rfl (Tr.nil (Tr.zA (Tr.seq (Tr.sr (Tr.mv rfl rfl (Tr.va rfl (fun _ _ a c => zOw zbd (a.ev rfl)) ?_)))))))
 refine Tr.mv rfl rfl (Tr.nil (Tr.zA (Tr.block (Tr.loop (σ := Int) (fun m w s => WA p0 m s = some r) (fun s => [(0, sv p0), (7, iv (p0.size : Int)), (8, iv s)]) (fun s => []) N 0 H (.cons rfl (.cons rfl (.cons rfl .nil))) .nil (fun _ _ h => zA0 (h)) ?_))))
 intro w Qd mL1 x105 hs
 have H := hs
 replace H : WA p0 (mL1 + 1) x105 = some r := H
 replace leB := leB.trans Qd
 rw [WA.eq_2] at H
 show Tr _ _ (LF [(0, sv p0), (7, iv (p0.size : Int)), (8, iv x105)]) (LE []) _
 refine Tr.sr (Tr.va rfl (fun _ _ a c => QI (a.ev rfl) (a.ev rfl)) ?_)
 refine Tr.nil (Tr.zA (Tr.seq (Tr.cond rfl H (fun H => ?_) (fun H => ?_))))
 ·refine Tr.skip (Tr.zA (Tr.seq (Tr.block (Tr.sr (Tr.mv rfl rfl (Tr.asg rfl rfl (Tr.nil (Tr.zA (Tr.sr (Tr.mv rfl rfl ?_))))))))))
  refine Tr.mv rfl rfl ?_
  obtain ⟨c106, zk0, H⟩ := bnd H
  refine Tr.va rfl (fun _ _ a c => zVK zbd (a.ev rfl) (a.ev rfl) zk0) ?_
  refine Tr.asg rfl rfl (Tr.nil (Tr.zA (Tr.sr (Tr.mv rfl rfl (Tr.va rfl (fun _ _ a c => zFN (a.ev rfl) (a.ev rfl)) ?_)))))
  refine Tr.mv rfl rfl (Tr.Vr 3 [(0, sv p0), (3, iv x105), (4, .int .u8 c106), (7, iv (p0.size : Int)), (8, iv x105), (19, bV ((decide (97 ≤ c106)) && (decide (c106 ≤ 122))))] [] ?_ ?_)
  ·cases zF9 : (decide (97 ≤ c106))
   ·refine Tr.pass rfl rfl rfl rfl rfl (by decide) ?_
    refine Tr.pass rfl rfl rfl rfl rfl (by decide) ?_
    refine Tr.va rfl (fun _ _ a c => zx (a.ev rfl) (a.ev rfl)) ?_
    exact Tr.nil (Tr.JM (.cons rfl (.cons rfl (.cons rfl (.cons rfl (.cons rfl (.cons rfl .nil)))))) .nil)
   ·refine Tr.val (wg rfl rfl rfl) rfl (fun _ _ a c => run_move (a.ev rfl)) ?_
    refine Tr.val (wg rfl rfl rfl) rfl (fun _ _ a c => zAW (a.ev rfl) (a.ev rfl)) ?_
    refine Tr.va rfl (fun _ _ a c => zw (a.ev rfl) (a.ev rfl)) ?_
    exact Tr.nil (Tr.JM (.cons rfl (.cons rfl (.cons rfl (.cons rfl (.cons rfl (.cons rfl .nil)))))) .nil)
  ·show Tr _ _ (LF [(0, sv p0), (3, iv x105), (4, .int .u8 c106), (7, iv (p0.size : Int)), (8, iv x105), (19, bV ((decide (97 ≤ c106)) && (decide (c106 ≤ 122))))]) (LE []) _
   refine Tr.mv rfl rfl (Tr.Vr 7 [(0, sv p0), (3, iv x105), (4, .int .u8 c106), (7, iv (p0.size : Int)), (8, iv x105), (27, bV (((decide (97 ≤ c106)) && (decide (c106 ≤ 122))) || ((decide (65 ≤ c106)) && (decide (c106 ≤ 90)))))] [] ?_ ?_)
   ·cases zF9 : ((decide (97 ≤ c106)) && (decide (c106 ≤ 122)))
    ·refine Tr.val (wg rfl rfl rfl) rfl (fun _ _ a c => run_move (a.ev rfl)) ?_
     refine Tr.val (wg rfl rfl rfl) rfl (fun _ _ a c => zFN (a.ev rfl) (a.ev rfl)) ?_
     refine Tr.val (wg rfl rfl rfl) rfl (fun _ _ a c => run_move (a.ev rfl)) ?_
     refine Tr.Vr 3 [(0, sv p0), (3, iv x105), (4, .int .u8 c106), (7, iv (p0.size : Int)), (8, iv x105), (20, bV false), (26, bV ((decide (65 ≤ c106)) && (decide (c106 ≤ 90))))] [] ?_ ?_
     ·cases zF9 : (decide (65 ≤ c106))
      ·refine Tr.pass rfl rfl rfl rfl rfl (by decide) ?_
       refine Tr.pass rfl rfl rfl rfl rfl (by decide) ?_
       refine Tr.val (wg rfl rfl rfl) rfl (fun _ _ a c => zx (a.ev rfl) (a.ev rfl)) ?_
       exact Tr.nil (Tr.JM (.cons rfl (.cons rfl (.cons rfl (.cons rfl (.cons rfl (.cons rfl (.cons rfl .nil))))))) .nil)
      ·refine Tr.val (wg rfl rfl rfl) rfl (fun _ _ a c => run_move (a.ev rfl)) ?_
       refine Tr.val (wg rfl rfl rfl) rfl (fun _ _ a c => zAW (a.ev rfl) (a.ev rfl)) ?_
       refine Tr.val (wg rfl rfl rfl) rfl (fun _ _ a c => zw (a.ev rfl) (a.ev rfl)) ?_
       exact Tr.nil (Tr.JM (.cons rfl (.cons rfl (.cons rfl (.cons rfl (.cons rfl (.cons rfl (.cons rfl .nil))))))) .nil)
     ·show Tr _ _ (LF [(0, sv p0), (3, iv x105), (4, .int .u8 c106), (7, iv (p0.size : Int)), (8, iv x105), (20, bV false), (26, bV ((decide (65 ≤ c106)) && (decide (c106 ≤ 90))))]) (LE []) _
      refine Tr.va rfl (fun _ _ a c => zx (a.ev rfl) (a.ev rfl)) ?_
      exact Tr.nil (Tr.JM (.cons rfl (.cons rfl (.cons rfl (.cons rfl (.cons rfl (.cons rfl .nil)))))) .nil)
    ·refine Tr.pass rfl rfl rfl rfl rfl (by decide) ?_
     refine Tr.pass rfl rfl rfl rfl rfl (by decide) ?_
     refine Tr.pass rfl rfl rfl rfl rfl (by decide) ?_
     refine Tr.VL rfl rfl rfl rfl (by decide) ?_
     refine Tr.VL rfl rfl rfl rfl (by decide) ?_
     refine Tr.pass rfl rfl rfl rfl rfl (by decide) ?_
     refine Tr.va rfl (fun _ _ a c => zw (a.ev rfl) (a.ev rfl)) ?_
     exact Tr.nil (Tr.JM (.cons rfl (.cons rfl (.cons rfl (.cons rfl (.cons rfl (.cons rfl .nil)))))) .nil)
   ·show Tr _ _ (LF [(0, sv p0), (3, iv x105), (4, .int .u8 c106), (7, iv (p0.size : Int)), (8, iv x105), (27, bV (((decide (97 ≤ c106)) && (decide (c106 ≤ 122))) || ((decide (65 ≤ c106)) && (decide (c106 ≤ 90)))))]) (LE []) _
    refine Tr.asg rfl rfl (Tr.nil (Tr.zA (Tr.sr (Tr.mv rfl rfl (Tr.va rfl (fun _ _ a c => Km (a.ev rfl)) ?_)))))
    refine Tr.mv rfl rfl (Tr.Vr 19 [(0, sv p0), (7, iv (p0.size : Int)), (8, iv x105), (49, bV ((!(((decide (97 ≤ c106)) && (decide (c106 ≤ 122))) || ((decide (65 ≤ c106)) && (decide (c106 ≤ 90))))) && ((x105 == 0) || ((((decide (c106 < 48)) || (decide (57 < c106))) && (c106 != 95)) && (c106 != 45)))))] [] ?_ ?_)
    ·cases zF9 : (!(((decide (97 ≤ c106)) && (decide (c106 ≤ 122))) || ((decide (65 ≤ c106)) && (decide (c106 ≤ 90)))))
     ·refine Tr.pass rfl rfl rfl rfl rfl (by decide) ?_
      refine Tr.pass rfl rfl rfl rfl rfl (by decide) ?_
      refine Tr.pass rfl rfl rfl rfl rfl (by decide) ?_
      refine Tr.VL rfl rfl rfl rfl (by decide) ?_
      refine Tr.VL rfl rfl rfl rfl (by decide) ?_
      refine Tr.VL rfl rfl rfl rfl (by decide) ?_
      refine Tr.VL rfl rfl rfl rfl (by decide) ?_
      refine Tr.VL rfl rfl rfl rfl (by decide) ?_
      refine Tr.VL rfl rfl rfl rfl (by decide) ?_
      refine Tr.VL rfl rfl rfl rfl (by decide) ?_
      refine Tr.VL rfl rfl rfl rfl (by decide) ?_
      refine Tr.VL rfl rfl rfl rfl (by decide) ?_
      refine Tr.VL rfl rfl rfl rfl (by decide) ?_
      refine Tr.VL rfl rfl rfl rfl (by decide) ?_
      refine Tr.VL rfl rfl rfl rfl (by decide) ?_
      refine Tr.VL rfl rfl rfl rfl (by decide) ?_
      refine Tr.VL rfl rfl rfl rfl (by decide) ?_
      refine Tr.pass rfl rfl rfl rfl rfl (by decide) ?_
      refine Tr.va rfl (fun _ _ a c => zx (a.ev rfl) (a.ev rfl)) ?_
      exact Tr.nil (Tr.JM (.cons rfl (.cons rfl (.cons rfl (.cons rfl .nil)))) .nil)
     ·refine Tr.val (wg rfl rfl rfl) rfl (fun _ _ a c => run_move (a.ev rfl)) ?_
      refine Tr.val (wg rfl rfl rfl) rfl (fun _ _ a c => Qn (a.ev rfl) (a.ev rfl)) ?_
      refine Tr.val (wg rfl rfl rfl) rfl (fun _ _ a c => run_move (a.ev rfl)) ?_
      refine Tr.Vr 15 [(0, sv p0), (7, iv (p0.size : Int)), (8, iv x105), (30, bV true), (48, bV ((x105 == 0) || ((((decide (c106 < 48)) || (decide (57 < c106))) && (c106 != 95)) && (c106 != 45))))] [] ?_ ?_
      ·cases zF9 : (x105 == 0)
       ·refine Tr.val (wg rfl rfl rfl) rfl (fun _ _ a c => run_move (a.ev rfl)) ?_
        refine Tr.val (wg rfl rfl rfl) rfl (fun _ _ a c => QI (a.ev rfl) (a.ev rfl)) ?_
        refine Tr.val (wg rfl rfl rfl) rfl (fun _ _ a c => run_move (a.ev rfl)) ?_
        refine Tr.Vr 3 [(0, sv p0), (4, .int .u8 c106), (7, iv (p0.size : Int)), (8, iv x105), (30, bV true), (33, bV false), (39, bV ((decide (c106 < 48)) || (decide (57 < c106))))] [] ?_ ?_
        ·cases zF9 : (decide (c106 < 48))
         ·refine Tr.val (wg rfl rfl rfl) rfl (fun _ _ a c => run_move (a.ev rfl)) ?_
          refine Tr.val (wg rfl rfl rfl) rfl (fun _ _ a c => VY (a.ev rfl) (a.ev rfl)) ?_
          refine Tr.val (wg rfl rfl rfl) rfl (fun _ _ a c => zx (a.ev rfl) (a.ev rfl)) ?_
          exact Tr.nil (Tr.JM (.cons rfl (.cons rfl (.cons rfl (.cons rfl (.cons rfl (.cons rfl (.cons rfl .nil))))))) .nil)
         ·refine Tr.pass rfl rfl rfl rfl rfl (by decide) ?_
          refine Tr.pass rfl rfl rfl rfl rfl (by decide) ?_
          refine Tr.val (wg rfl rfl rfl) rfl (fun _ _ a c => zw (a.ev rfl) (a.ev rfl)) ?_
          exact Tr.nil (Tr.JM (.cons rfl (.cons rfl (.cons rfl (.cons rfl (.cons rfl (.cons rfl (.cons rfl .nil))))))) .nil)
        ·show Tr _ _ (LF [(0, sv p0), (4, .int .u8 c106), (7, iv (p0.size : Int)), (8, iv x105), (30, bV true), (33, bV false), (39, bV ((decide (c106 < 48)) || (decide (57 < c106))))]) (LE []) _
         refine Tr.val (wg rfl rfl rfl) rfl (fun _ _ a c => run_move (a.ev rfl)) ?_
         refine Tr.Vr 3 [(0, sv p0), (4, .int .u8 c106), (7, iv (p0.size : Int)), (8, iv x105), (30, bV true), (33, bV false), (43, bV (((decide (c106 < 48)) || (decide (57 < c106))) && (c106 != 95)))] [] ?_ ?_
         ·cases zF9 : ((decide (c106 < 48)) || (decide (57 < c106)))
          ·refine Tr.pass rfl rfl rfl rfl rfl (by decide) ?_
           refine Tr.pass rfl rfl rfl rfl rfl (by decide) ?_
           refine Tr.val (wg rfl rfl rfl) rfl (fun _ _ a c => zx (a.ev rfl) (a.ev rfl)) ?_
           exact Tr.nil (Tr.JM (.cons rfl (.cons rfl (.cons rfl (.cons rfl (.cons rfl (.cons rfl (.cons rfl .nil))))))) .nil)
          ·refine Tr.val (wg rfl rfl rfl) rfl (fun _ _ a c => run_move (a.ev rfl)) ?_
           refine Tr.val (wg rfl rfl rfl) rfl (fun _ _ a c => KY (a.ev rfl) (a.ev rfl)) ?_
           refine Tr.val (wg rfl rfl rfl) rfl (fun _ _ a c => zw (a.ev rfl) (a.ev rfl)) ?_
           exact Tr.nil (Tr.JM (.cons rfl (.cons rfl (.cons rfl (.cons rfl (.cons rfl (.cons rfl (.cons rfl .nil))))))) .nil)
         ·show Tr _ _ (LF [(0, sv p0), (4, .int .u8 c106), (7, iv (p0.size : Int)), (8, iv x105), (30, bV true), (33, bV false), (43, bV (((decide (c106 < 48)) || (decide (57 < c106))) && (c106 != 95)))]) (LE []) _
          refine Tr.val (wg rfl rfl rfl) rfl (fun _ _ a c => run_move (a.ev rfl)) ?_
          refine Tr.Vr 3 [(0, sv p0), (7, iv (p0.size : Int)), (8, iv x105), (30, bV true), (33, bV false), (47, bV ((((decide (c106 < 48)) || (decide (57 < c106))) && (c106 != 95)) && (c106 != 45)))] [] ?_ ?_
          ·cases zF9 : (((decide (c106 < 48)) || (decide (57 < c106))) && (c106 != 95))
           ·refine Tr.pass rfl rfl rfl rfl rfl (by decide) ?_
            refine Tr.pass rfl rfl rfl rfl rfl (by decide) ?_
            refine Tr.val (wg rfl rfl rfl) rfl (fun _ _ a c => zx (a.ev rfl) (a.ev rfl)) ?_
            exact Tr.nil (Tr.JM (.cons rfl (.cons rfl (.cons rfl (.cons rfl (.cons rfl (.cons rfl .nil)))))) .nil)
           ·refine Tr.val (wg rfl rfl rfl) rfl (fun _ _ a c => run_move (a.ev rfl)) ?_
            refine Tr.val (wg rfl rfl rfl) rfl (fun _ _ a c => KY (a.ev rfl) (a.ev rfl)) ?_
            refine Tr.val (wg rfl rfl rfl) rfl (fun _ _ a c => zw (a.ev rfl) (a.ev rfl)) ?_
            exact Tr.nil (Tr.JM (.cons rfl (.cons rfl (.cons rfl (.cons rfl (.cons rfl (.cons rfl .nil)))))) .nil)
          ·show Tr _ _ (LF [(0, sv p0), (7, iv (p0.size : Int)), (8, iv x105), (30, bV true), (33, bV false), (47, bV ((((decide (c106 < 48)) || (decide (57 < c106))) && (c106 != 95)) && (c106 != 45)))]) (LE []) _
           refine Tr.val (wg rfl rfl rfl) rfl (fun _ _ a c => zx (a.ev rfl) (a.ev rfl)) ?_
           exact Tr.nil (Tr.JM (.cons rfl (.cons rfl (.cons rfl (.cons rfl (.cons rfl .nil))))) .nil)
       ·refine Tr.pass rfl rfl rfl rfl rfl (by decide) ?_
        refine Tr.pass rfl rfl rfl rfl rfl (by decide) ?_
        refine Tr.pass rfl rfl rfl rfl rfl (by decide) ?_
        refine Tr.VL rfl rfl rfl rfl (by decide) ?_
        refine Tr.VL rfl rfl rfl rfl (by decide) ?_
        refine Tr.pass rfl rfl rfl rfl rfl (by decide) ?_
        refine Tr.pass rfl rfl rfl rfl rfl (by decide) ?_
        refine Tr.VL rfl rfl rfl rfl (by decide) ?_
        refine Tr.VL rfl rfl rfl rfl (by decide) ?_
        refine Tr.pass rfl rfl rfl rfl rfl (by decide) ?_
        refine Tr.pass rfl rfl rfl rfl rfl (by decide) ?_
        refine Tr.VL rfl rfl rfl rfl (by decide) ?_
        refine Tr.VL rfl rfl rfl rfl (by decide) ?_
        refine Tr.pass rfl rfl rfl rfl rfl (by decide) ?_
        refine Tr.val (wg rfl rfl rfl) rfl (fun _ _ a c => zw (a.ev rfl) (a.ev rfl)) ?_
        exact Tr.nil (Tr.JM (.cons rfl (.cons rfl (.cons rfl (.cons rfl (.cons rfl .nil))))) .nil)
      ·show Tr _ _ (LF [(0, sv p0), (7, iv (p0.size : Int)), (8, iv x105), (30, bV true), (48, bV ((x105 == 0) || ((((decide (c106 < 48)) || (decide (57 < c106))) && (c106 != 95)) && (c106 != 45))))]) (LE []) _
       refine Tr.va rfl (fun _ _ a c => zw (a.ev rfl) (a.ev rfl)) ?_
       exact Tr.nil (Tr.JM (.cons rfl (.cons rfl (.cons rfl (.cons rfl .nil)))) .nil)
    ·show Tr _ _ (LF [(0, sv p0), (7, iv (p0.size : Int)), (8, iv x105), (49, bV ((!(((decide (97 ≤ c106)) && (decide (c106 ≤ 122))) || ((decide (65 ≤ c106)) && (decide (c106 ≤ 90))))) && ((x105 == 0) || ((((decide (c106 < 48)) || (decide (57 < c106))) && (c106 != 95)) && (c106 != 45)))))]) (LE []) _
     refine Tr.nil (Tr.zA (Tr.cond rfl H (fun H => ?_) (fun H => ?_)))
     ·refine Tr.sr (Tr.asg rfl rfl (Tr.nil (Tr.zA (Tr.ret (Tr.QT (Tr.zi (Tr.zi (Tr.QT (Tr.zi ?_)))))))))
      obtain rfl := oI H
      exact Tr.out (m := [bV false]) [] (zW rfl zX) (fun W hW => ⟨rfl, hW.low leB⟩)
     ·refine Tr.skip (Tr.zl (Tr.zA (Tr.region (Tr.va rfl (fun _ _ a c => QK (a.ev rfl) (a.ev rfl)) ?_))))
      exact Tr.mv rfl rfl (Tr.nil (Tr.zn Qd (w64 (x105 + 1)) H (.cons rfl (.cons rfl (.cons rfl .nil))) .nil))
 ·refine Tr.exit (Tr.zk (Tr.zk (Tr.QV (Tr.zA (Tr.sr (Tr.mv rfl rfl (Tr.va rfl (fun _ _ a c => zOw zbd (a.ev rfl)) ?_)))))))
  refine Tr.va rfl (fun _ _ a c => zFN (a.ev rfl) (a.ev rfl)) ?_
  refine Tr.mv rfl rfl (Tr.Vr 4 [(58, bV ((decide (1 ≤ (p0.size : Int))) && (decide ((p0.size : Int) ≤ 40))))] [] ?_ ?_)
  ·cases zF9 : (decide (1 ≤ (p0.size : Int)))
   ·refine Tr.pass rfl rfl rfl rfl rfl (by decide) ?_
    refine Tr.pass rfl rfl rfl rfl rfl (by decide) ?_
    refine Tr.pass rfl rfl rfl rfl rfl (by decide) ?_
    refine Tr.va rfl (fun _ _ a c => zx (a.ev rfl) (a.ev rfl)) ?_
    exact Tr.nil (Tr.JM (.cons rfl .nil) .nil)
   ·refine Tr.val (wg rfl rfl rfl) rfl (fun _ _ a c => run_move (a.ev rfl)) ?_
    refine Tr.val (wg rfl rfl rfl) rfl (fun _ _ a c => zOw zbd (a.ev rfl)) ?_
    refine Tr.val (wg rfl rfl rfl) rfl (fun _ _ a c => zAW (a.ev rfl) (a.ev rfl)) ?_
    refine Tr.va rfl (fun _ _ a c => zw (a.ev rfl) (a.ev rfl)) ?_
    exact Tr.nil (Tr.JM (.cons rfl .nil) .nil)
  ·show Tr _ _ (LF [(58, bV ((decide (1 ≤ (p0.size : Int))) && (decide ((p0.size : Int) ≤ 40))))]) (LE []) _
   refine Tr.asg rfl rfl (Tr.nil (Tr.zA (Tr.ret ?_)))
   obtain rfl := oI H
   exact Tr.out (m := [bV ((decide (1 ≤ (p0.size : Int))) && (decide ((p0.size : Int) ≤ 40)))]) [] (zW rfl zX) (fun W hW => ⟨rfl, hW.low leB⟩)

theorem zBM {w : Bs} (p0 : Int) (p1 : Int) (r : Bool) (H : zAG p0 p1 = some r) (hE : HF w w.W E0) : Calls Tryz.prog 72 [iv p0, iv p1].toArray w.W fun e W' => e = .returned (bV r) ∧ HF w W' E0 := by
 unfold zAG at H
 have leB := Bs.Le.refl w
 refine Tr.enter (n := 11) Tryz.func72 rfl rfl rfl hE ?_
 refine Tr.sr (Tr.asg rfl rfl (Tr.nil (Tr.zA (Tr.seq (Tr.draw (by kernel_rfl) (by kernel_rfl) ?_)))))
 refine Tq.mv rfl rfl (Tq.mv rfl rfl ?_)
 obtain ⟨q100, zj7, H⟩ := bnd H
 refine Tq.va rfl (fun _ _ a c => zVL (a.ev rfl) (a.ev rfl) zj7) ?_
 refine Tq.mv rfl rfl ?_
 obtain ⟨q101, zj6, H⟩ := bnd H
 refine Tq.va rfl (fun _ _ a c => zVL (a.ev rfl) (a.ev rfl) zj6) ?_
 obtain ⟨y102, hy102, H⟩ := bnd H
 refine Tq.JI (r := (bV y102)) (wn rfl) rfl Tryz.call22 (zI rfl (zI rfl (zI rfl zT))) (fun W hW => zAM p0 q100 q101 y102 hy102 (HF.start _)) ?_
 refine Tq.asg rfl rfl (Tq.nil (Tr.zA (Tr.ret ?_)))
 obtain rfl := oI H
 exact Tr.out (m := [bV y102]) [] (zW rfl zX) (fun W hW => ⟨rfl, hW.low leB⟩)

theorem zKU (N : Nat) {w : Bs} (p0 : zV) (zC : Option Addr) (zD : Nat) (zU : Sl w.R w.W zK zC zD p0.Rects) (p1 : Int) (r : Int) (H : zBN N p0 p1 = some r) (hE : HF w w.W E0) : Calls Tryz.prog 41 [.agg #[sv p0.Name, sL zC p0.Rects zD], iv p1].toArray w.W fun e W' => e = .returned (iv r) ∧ HF w W' E0 := by
 unfold zBN at H
 have leB := Bs.Le.refl w
 refine Tr.enter (n := 65) Tryz.func41 rfl rfl rfl hE ?_
 refine Tr.sr (Tr.box 1 (cs := [sv p0.Name, sL zC p0.Rects zD]) (wn rfl) rfl rfl rfl fun QE => ?_)
 refine Tr.asg rfl rfl (Tr.nil (Tr.zA (Tr.seq (Tr.sr (Tr.va rfl (fun _ _ a c => zB zHu (a.ev rfl)) ?_)))))
 refine Tr.va rfl (fun _ _ a c => zF zKy (a.ev rfl) (rdb c (vs := [sv p0.Name, sL zC p0.Rects zD]) (k := 1) rfl 0) rfl) ?_
 obtain ⟨y101, hy101, H⟩ := bnd H
 refine Tr.JI (r := (bV y101)) (wn rfl) rfl Tryz.call71 (zI rfl zT) (fun W hW => zNA N p0.Name y101 hy101 (HF.start _)) ?_
 refine Tr.va rfl (fun _ _ a c => Km (a.ev rfl)) ?_
 refine Tr.nil (Tr.zA (Tr.cond rfl H (fun H => ?_) (fun H => ?_)))
 ·refine Tr.sr (Tr.asg rfl rfl (Tr.nil (Tr.zA (Tr.ret (Tr.zi ?_)))))
  obtain rfl := oI H
  exact Tr.out (m := [iv 5]) [] (zW rfl zX) (fun W hW => ⟨rfl, hW.low leB⟩)
 ·refine Tr.skip (Tr.zA (Tr.seq (Tr.sr (Tr.va rfl (fun _ _ a c => zB zFS (a.ev rfl)) ?_))))
  refine Tr.va rfl (fun _ _ a c => zF zNX (a.ev rfl) (rdb c (vs := [sv p0.Name, sL zC p0.Rects zD]) (k := 1) rfl 1) rfl) ?_
  refine Tr.va rfl (fun _ _ a c => QJ zA8 (a.ev rfl)) ?_
  refine Tr.va rfl (fun _ _ a c => Qn (a.ev rfl) (a.ev rfl)) ?_
  refine Tr.nil (Tr.zA (Tr.cond rfl H (fun H => ?_) (fun H => ?_)))
  ·refine Tr.sr (Tr.asg rfl rfl (Tr.nil (Tr.zA (Tr.ret (Tr.zi ?_)))))
   obtain rfl := oI H
   exact Tr.out (m := [iv 9]) [] (zW rfl zX) (fun W hW => ⟨rfl, hW.low leB⟩)
  ·refine Tr.skip (Tr.zA (Tr.seq (Tr.sr (Tr.va rfl (fun _ _ a c => zB zFS (a.ev rfl)) ?_))))
   refine Tr.va rfl (fun _ _ a c => zF zNX (a.ev rfl) (rdb c (vs := [sv p0.Name, sL zC p0.Rects zD]) (k := 1) rfl 1) rfl) ?_
   refine Tr.va rfl (fun _ _ a c => QJ zA8 (a.ev rfl)) ?_
   refine Tr.va rfl (fun _ _ a c => VY (a.ev rfl) (a.ev rfl)) ?_
   refine Tr.nil (Tr.zA (Tr.cond rfl H (fun H => ?_) (fun H => ?_)))
   ·refine Tr.sr (Tr.asg rfl rfl (Tr.nil (Tr.zA (Tr.ret (Tr.zi ?_)))))
    obtain rfl := oI H
    exact Tr.out (m := [iv 2]) [] (zW rfl zX) (fun W hW => ⟨rfl, hW.low leB⟩)
   ·refine Tr.skip (Tr.zA (Tr.seq (Tr.sr (Tr.va rfl (fun _ _ a c => zB zFS (a.ev rfl)) ?_))))
    refine Tr.va rfl (fun _ _ a c => zF zNX (a.ev rfl) (rdb c (vs := [sv p0.Name, sL zC p0.Rects zD]) (k := 1) rfl 1) rfl) ?_
    refine Tr.va rfl (fun _ _ a c => QJ zA8 (a.ev rfl)) ?_
    refine Tr.mv rfl rfl (Tr.nil (Tr.zA (Tr.block (Tr.loop (σ := (List zS) × Nat) (fun m w s => m = s.1.length + 1 ∧ s.1 = List.drop s.2 p0.Rects ∧ s.2 ≤ p0.Rects.length ∧ Kh p1 s.1 s.2 = some r) (fun s => [(1, iv p1), (20, sL zC p0.Rects zD), (21, iv (p0.Rects.length : Int)), (22, iv (s.2 : Int))]) (fun s => []) (p0.Rects.length + 1) (p0.Rects, 0) ⟨rfl, rfl, Nat.zero_le _, H⟩ (.cons rfl (.cons rfl (.cons rfl (.cons rfl .nil)))) .nil (fun _ _ h => absurd h.1 (by simp)) ?_))))
    intro w Qd m s hs
    obtain ⟨zY, iL1⟩ := s
    obtain ⟨Kj, QF, hiL1, H⟩ := hs
    replace QF : zY = List.drop iL1 p0.Rects := QF
    replace H : Kh p1 zY iL1 = some r := H
    replace Kj : m + 1 = zY.length + 1 := Kj
    replace zU := zU.leR Qd
    replace leB := leB.trans Qd
    obtain rfl : m = zY.length := by omega
    clear Kj
    show Tr _ _ (LF [(1, iv p1), (20, sL zC p0.Rects zD), (21, iv (p0.Rects.length : Int)), (22, iv (iL1 : Int))]) (LE []) _
    cases zY with
    | nil =>
     rw [Kh.eq_1] at H
     refine Tr.sr (Tr.va rfl (fun _ _ a c => QI (a.ev rfl) (a.ev rfl)) ?_)
     refine Tr.nil (Tr.zA (Tr.seq (Tr.WL rfl (JS QF) ?_)))
     refine Tr.exit (Tr.zk (Tr.zk (Tr.QV (Tr.zA (Tr.sr (Tr.asg rfl rfl (Tr.nil (Tr.zA (Tr.ret ?_)))))))))
     obtain rfl := oI H
     exact Tr.out (m := [iv 0]) [] (zW rfl zX) (fun W hW => ⟨rfl, hW.low leB⟩)
    | cons xL1 zY =>
     rw [Kh.eq_2] at H
     refine Tr.sr (Tr.va rfl (fun _ _ a c => QI (a.ev rfl) (a.ev rfl)) ?_)
     refine Tr.nil (Tr.zA (Tr.seq (Tr.WK rfl (Jt QF) ?_)))
     refine Tr.skip (Tr.zA (Tr.seq (Tr.block (Tr.sr (Tr.va rfl (fun _ _ a c => zM zCj (a.ev rfl) zU.form (a.ev rfl) (Int.natCast_nonneg _) (QB QF)) ?_)))))
     refine Tr.va rfl (fun _ _ a c => zZ (cs := [iv xL1.X0, iv xL1.Y0, iv xL1.X1, iv xL1.Y1]) zBz Ku (a.ev rfl) (zR.take (rdF Vg zU (KL QF) c) 4) rfl) ?_
     refine Tr.alloc 3 (wn rfl) rfl zD3 fun zKx => ?_
     refine Tr.store 3 (cs := [iv xL1.X0, iv xL1.Y0, iv xL1.X1, iv xL1.Y1]) [iv xL1.X0, iv xL1.Y0, iv xL1.X1, iv xL1.Y1] (wn rfl) rfl rfl rfl rfl Ku rfl rfl rfl ?_
     refine Tr.nil (Tr.zA (Tr.seq (Tr.sr (Tr.va rfl (fun _ _ a c => zB WR (a.ev rfl)) ?_))))
     refine Tr.va rfl (fun _ _ a c => zF QH (a.ev rfl) (rdb c (vs := [iv xL1.X0, iv xL1.Y0, iv xL1.X1, iv xL1.Y1]) (k := 3) rfl 0) rfl) ?_
     refine Tr.mv rfl rfl ?_
     obtain ⟨zE1, zTx, H⟩ := bnd H
     refine Tr.JI (r := (bV zE1)) (wn rfl) rfl Tryz.call72 (zI rfl (zI rfl zT)) (fun W hW => zBM xL1.X0 p1 zE1 zTx (HF.start _)) ?_
     refine Tr.va rfl (fun _ _ a c => Km (a.ev rfl)) ?_
     refine Tr.mv rfl rfl ?_
     obtain ⟨zad, zRD, H⟩ := bnd H
     refine Tr.Vr 6 [(1, iv p1), (6, pV zKx), (20, sL zC p0.Rects zD), (21, iv (p0.Rects.length : Int)), (22, iv (iL1 : Int)), (37, bV zad)] [(3, bx zKx #[iv xL1.X0, iv xL1.Y0, iv xL1.X1, iv xL1.Y1] 36)] ?_ ?_
     ·cases zD6 : (!zE1)
      ·rw [zD6] at zRD
       rw [if_neg (by decide)] at zRD
       have H := zRD
       refine Tr.val (wg rfl rfl rfl) rfl (fun _ _ a c => zB zAk (a.ev rfl)) ?_
       refine Tr.val (wg rfl rfl rfl) rfl (fun _ _ a c => zF QH (a.ev rfl) (rdb c (vs := [iv xL1.X0, iv xL1.Y0, iv xL1.X1, iv xL1.Y1]) (k := 3) rfl 1) rfl) ?_
       refine Tr.val (wg rfl rfl rfl) rfl (fun _ _ a c => run_move (a.ev rfl)) ?_
       obtain ⟨zbU, zjC, H⟩ := bnd H
       refine Tr.JI (r := (bV zbU)) (wg rfl rfl rfl) rfl Tryz.call72 (zI rfl (zI rfl zT)) (fun W hW => zBM xL1.Y0 p1 zbU zjC (HF.start _)) ?_
       refine Tr.val (wg rfl rfl rfl) rfl (fun _ _ a c => Km (a.ev rfl)) ?_
       refine Tr.va rfl (fun _ _ a c => zx (a.ev rfl) (a.ev rfl)) ?_
       obtain rfl := oI H
       exact Tr.nil (Tr.JM (.cons rfl (.cons rfl (.cons rfl (.cons rfl (.cons rfl (.cons rfl .nil)))))) (.cons rfl .nil))
      ·rw [zD6] at zRD
       rw [if_pos rfl] at zRD
       have H := zRD
       obtain rfl := oI H
       refine Tr.pass rfl rfl rfl rfl rfl (by decide) ?_
       refine Tr.pass rfl rfl rfl rfl rfl (by decide) ?_
       refine Tr.pass rfl rfl rfl rfl rfl (by decide) ?_
       refine Tr.pass rfl rfl rfl rfl rfl (by decide) ?_
       refine Tr.pass rfl rfl rfl rfl rfl (by decide) ?_
       refine Tr.va rfl (fun _ _ a c => zw (a.ev rfl) (a.ev rfl)) ?_
       exact Tr.nil (Tr.JM (.cons rfl (.cons rfl (.cons rfl (.cons rfl (.cons rfl (.cons rfl .nil)))))) (.cons rfl .nil))
     ·show Tr _ _ (LF [(1, iv p1), (6, pV zKx), (20, sL zC p0.Rects zD), (21, iv (p0.Rects.length : Int)), (22, iv (iL1 : Int)), (37, bV zad)]) (LE [(3, bx zKx #[iv xL1.X0, iv xL1.Y0, iv xL1.X1, iv xL1.Y1] 36)]) _
      refine Tr.mv rfl rfl ?_
      obtain ⟨zac, Wt, H⟩ := bnd H
      refine Tr.Vr 6 [(1, iv p1), (6, pV zKx), (20, sL zC p0.Rects zD), (21, iv (p0.Rects.length : Int)), (22, iv (iL1 : Int)), (44, bV zac)] [(3, bx zKx #[iv xL1.X0, iv xL1.Y0, iv xL1.X1, iv xL1.Y1] 36)] ?_ ?_
      ·cases zD6 : zad
       ·rw [zD6] at Wt
        rw [if_neg (by decide)] at Wt
        have H := Wt
        refine Tr.val (wg rfl rfl rfl) rfl (fun _ _ a c => zB zC5 (a.ev rfl)) ?_
        refine Tr.val (wg rfl rfl rfl) rfl (fun _ _ a c => zF QH (a.ev rfl) (rdb c (vs := [iv xL1.X0, iv xL1.Y0, iv xL1.X1, iv xL1.Y1]) (k := 3) rfl 2) rfl) ?_
        refine Tr.val (wg rfl rfl rfl) rfl (fun _ _ a c => run_move (a.ev rfl)) ?_
        obtain ⟨Kq, zPQ, H⟩ := bnd H
        refine Tr.JI (r := (bV Kq)) (wg rfl rfl rfl) rfl Tryz.call72 (zI rfl (zI rfl zT)) (fun W hW => zBM xL1.X1 p1 Kq zPQ (HF.start _)) ?_
        refine Tr.val (wg rfl rfl rfl) rfl (fun _ _ a c => Km (a.ev rfl)) ?_
        refine Tr.va rfl (fun _ _ a c => zx (a.ev rfl) (a.ev rfl)) ?_
        obtain rfl := oI H
        exact Tr.nil (Tr.JM (.cons rfl (.cons rfl (.cons rfl (.cons rfl (.cons rfl (.cons rfl .nil)))))) (.cons rfl .nil))
       ·rw [zD6] at Wt
        rw [if_pos rfl] at Wt
        have H := Wt
        obtain rfl := oI H
        refine Tr.pass rfl rfl rfl rfl rfl (by decide) ?_
        refine Tr.pass rfl rfl rfl rfl rfl (by decide) ?_
        refine Tr.pass rfl rfl rfl rfl rfl (by decide) ?_
        refine Tr.pass rfl rfl rfl rfl rfl (by decide) ?_
        refine Tr.pass rfl rfl rfl rfl rfl (by decide) ?_
        refine Tr.va rfl (fun _ _ a c => zw (a.ev rfl) (a.ev rfl)) ?_
        exact Tr.nil (Tr.JM (.cons rfl (.cons rfl (.cons rfl (.cons rfl (.cons rfl (.cons rfl .nil)))))) (.cons rfl .nil))
      ·show Tr _ _ (LF [(1, iv p1), (6, pV zKx), (20, sL zC p0.Rects zD), (21, iv (p0.Rects.length : Int)), (22, iv (iL1 : Int)), (44, bV zac)]) (LE [(3, bx zKx #[iv xL1.X0, iv xL1.Y0, iv xL1.X1, iv xL1.Y1] 36)]) _
       refine Tr.mv rfl rfl ?_
       obtain ⟨zQV, zHL, H⟩ := bnd H
       refine Tr.Vr 6 [(1, iv p1), (6, pV zKx), (20, sL zC p0.Rects zD), (21, iv (p0.Rects.length : Int)), (22, iv (iL1 : Int)), (51, bV zQV)] [(3, bx zKx #[iv xL1.X0, iv xL1.Y0, iv xL1.X1, iv xL1.Y1] 36)] ?_ ?_
       ·cases zD6 : zac
        ·rw [zD6] at zHL
         rw [if_neg (by decide)] at zHL
         have H := zHL
         refine Tr.val (wg rfl rfl rfl) rfl (fun _ _ a c => zB zDi (a.ev rfl)) ?_
         refine Tr.val (wg rfl rfl rfl) rfl (fun _ _ a c => zF QH (a.ev rfl) (rdb c (vs := [iv xL1.X0, iv xL1.Y0, iv xL1.X1, iv xL1.Y1]) (k := 3) rfl 3) rfl) ?_
         refine Tr.val (wg rfl rfl rfl) rfl (fun _ _ a c => run_move (a.ev rfl)) ?_
         obtain ⟨zD1, zPP, H⟩ := bnd H
         refine Tr.JI (r := (bV zD1)) (wg rfl rfl rfl) rfl Tryz.call72 (zI rfl (zI rfl zT)) (fun W hW => zBM xL1.Y1 p1 zD1 zPP (HF.start _)) ?_
         refine Tr.val (wg rfl rfl rfl) rfl (fun _ _ a c => Km (a.ev rfl)) ?_
         refine Tr.va rfl (fun _ _ a c => zx (a.ev rfl) (a.ev rfl)) ?_
         obtain rfl := oI H
         exact Tr.nil (Tr.JM (.cons rfl (.cons rfl (.cons rfl (.cons rfl (.cons rfl (.cons rfl .nil)))))) (.cons rfl .nil))
        ·rw [zD6] at zHL
         rw [if_pos rfl] at zHL
         have H := zHL
         obtain rfl := oI H
         refine Tr.pass rfl rfl rfl rfl rfl (by decide) ?_
         refine Tr.pass rfl rfl rfl rfl rfl (by decide) ?_
         refine Tr.pass rfl rfl rfl rfl rfl (by decide) ?_
         refine Tr.pass rfl rfl rfl rfl rfl (by decide) ?_
         refine Tr.pass rfl rfl rfl rfl rfl (by decide) ?_
         refine Tr.va rfl (fun _ _ a c => zw (a.ev rfl) (a.ev rfl)) ?_
         exact Tr.nil (Tr.JM (.cons rfl (.cons rfl (.cons rfl (.cons rfl (.cons rfl (.cons rfl .nil)))))) (.cons rfl .nil))
       ·show Tr _ _ (LF [(1, iv p1), (6, pV zKx), (20, sL zC p0.Rects zD), (21, iv (p0.Rects.length : Int)), (22, iv (iL1 : Int)), (51, bV zQV)]) (LE [(3, bx zKx #[iv xL1.X0, iv xL1.Y0, iv xL1.X1, iv xL1.Y1] 36)]) _
        refine Tr.nil (Tr.zA (Tr.cond rfl H (fun H => ?_) (fun H => ?_)))
        ·refine Tr.sr (Tr.asg rfl rfl (Tr.nil (Tr.zA (Tr.ret (Tr.zi (Tr.QT (Tr.zi (Tr.zi (Tr.QT (Tr.zi ?_))))))))))
         obtain rfl := oI H
         exact Tr.out (m := [iv 1]) [] (zW rfl zX) (fun W hW => ⟨rfl, hW.low leB⟩)
        ·refine Tr.skip (Tr.zA (Tr.sr (Tr.va rfl (fun _ _ a c => zB zC5 (a.ev rfl)) ?_)))
         refine Tr.va rfl (fun _ _ a c => zF QH (a.ev rfl) (rdb c (vs := [iv xL1.X0, iv xL1.Y0, iv xL1.X1, iv xL1.Y1]) (k := 3) rfl 2) rfl) ?_
         refine Tr.va rfl (fun _ _ a c => zB WR (a.ev rfl)) ?_
         refine Tr.va rfl (fun _ _ a c => zF QH (a.ev rfl) (rdb c (vs := [iv xL1.X0, iv xL1.Y0, iv xL1.X1, iv xL1.Y1]) (k := 3) rfl 0) rfl) ?_
         refine Tr.va rfl (fun _ _ a c => zAW (a.ev rfl) (a.ev rfl)) ?_
         refine Tr.mv rfl rfl (Tr.Vr 6 [(1, iv p1), (20, sL zC p0.Rects zD), (21, iv (p0.Rects.length : Int)), (22, iv (iL1 : Int)), (63, bV ((decide (xL1.X1 ≤ xL1.X0)) || (decide (xL1.Y1 ≤ xL1.Y0))))] [(3, bx zKx #[iv xL1.X0, iv xL1.Y0, iv xL1.X1, iv xL1.Y1] 36)] ?_ ?_)
         ·cases zD6 : (decide (xL1.X1 ≤ xL1.X0))
          ·refine Tr.val (wg rfl rfl rfl) rfl (fun _ _ a c => zB zDi (a.ev rfl)) ?_
           refine Tr.val (wg rfl rfl rfl) rfl (fun _ _ a c => zF QH (a.ev rfl) (rdb c (vs := [iv xL1.X0, iv xL1.Y0, iv xL1.X1, iv xL1.Y1]) (k := 3) rfl 3) rfl) ?_
           refine Tr.val (wg rfl rfl rfl) rfl (fun _ _ a c => zB zAk (a.ev rfl)) ?_
           refine Tr.val (wg rfl rfl rfl) rfl (fun _ _ a c => zF QH (a.ev rfl) (rdb c (vs := [iv xL1.X0, iv xL1.Y0, iv xL1.X1, iv xL1.Y1]) (k := 3) rfl 1) rfl) ?_
           refine Tr.val (wg rfl rfl rfl) rfl (fun _ _ a c => zAW (a.ev rfl) (a.ev rfl)) ?_
           refine Tr.va rfl (fun _ _ a c => zx (a.ev rfl) (a.ev rfl)) ?_
           exact Tr.nil (Tr.JM (.cons rfl (.cons rfl (.cons rfl (.cons rfl (.cons rfl .nil))))) (.cons rfl .nil))
          ·refine Tr.pass rfl rfl rfl rfl rfl (by decide) ?_
           refine Tr.pass rfl rfl rfl rfl rfl (by decide) ?_
           refine Tr.pass rfl rfl rfl rfl rfl (by decide) ?_
           refine Tr.pass rfl rfl rfl rfl rfl (by decide) ?_
           refine Tr.pass rfl rfl rfl rfl rfl (by decide) ?_
           refine Tr.va rfl (fun _ _ a c => zw (a.ev rfl) (a.ev rfl)) ?_
           exact Tr.nil (Tr.JM (.cons rfl (.cons rfl (.cons rfl (.cons rfl (.cons rfl .nil))))) (.cons rfl .nil))
         ·show Tr _ _ (LF [(1, iv p1), (20, sL zC p0.Rects zD), (21, iv (p0.Rects.length : Int)), (22, iv (iL1 : Int)), (63, bV ((decide (xL1.X1 ≤ xL1.X0)) || (decide (xL1.Y1 ≤ xL1.Y0))))]) (LE [(3, bx zKx #[iv xL1.X0, iv xL1.Y0, iv xL1.X1, iv xL1.Y1] 36)]) _
          refine Tr.nil (Tr.zA (Tr.cond rfl H (fun H => ?_) (fun H => ?_)))
          ·refine Tr.sr (Tr.asg rfl rfl (Tr.nil (Tr.zA (Tr.ret (Tr.QT (Tr.zi (Tr.zi (Tr.QT (Tr.zi ?_)))))))))
           obtain rfl := oI H
           exact Tr.out (m := [iv 13]) [] (zW rfl zX) (fun W hW => ⟨rfl, hW.low leB⟩)
          ·refine Tr.skip (Tr.zl (Tr.zA (Tr.region (Tr.va rfl (fun _ _ a c => QK (a.ev rfl) (a.ev rfl)) ?_))))
           exact Tr.mv rfl rfl (Tr.nil (Tr.zn Qd (zY, (iL1 + 1)) ⟨rfl, Qu QF, QB QF, H⟩ (.cons rfl (.cons rfl (.cons rfl (.cons (congrArg (fun z => some (Value.int .i64 z)) (Qt QF zU.form)) .nil)))) .nil))

theorem zGp {w : Bs} (p0 : Int) (r : Int) (H : zAV p0 = some r) (hE : HF w w.W E0) : Calls Tryz.prog 95 [iv p0].toArray w.W fun e W' => e = .returned (iv r) ∧ HF w W' E0 := by
 unfold zAV at H
 have leB := Bs.Le.refl w
 refine Tr.enter (n := 6) Tryz.func95 rfl rfl rfl hE ?_
 refine Tr.sr (Tr.asg rfl rfl (Tr.nil (Tr.zA (Tr.seq (Tr.sr (Tr.mv rfl rfl ?_))))))
 obtain ⟨zy, Ws, H⟩ := bnd H
 refine Tr.JI (r := (bV zy)) (wn rfl) rfl Tryz.call22 (zI rfl (zI rfl (zI rfl zT))) (fun W hW => zAM p0 1 100 zy Ws (HF.start _)) ?_
 refine Tr.nil (Tr.zA (Tr.cond rfl H (fun H => ?_) (fun H => ?_)))
 ·refine Tr.sr (Tr.mv rfl rfl (Tr.asg rfl rfl (Tr.nil (Tr.zA (Tr.ret (Tr.zi ?_))))))
  obtain rfl := oI H
  exact Tr.out (m := [iv p0]) [] (zW rfl zX) (fun W hW => ⟨rfl, hW.low leB⟩)
 ·refine Tr.skip (Tr.zA (Tr.sr (Tr.asg rfl rfl (Tr.nil (Tr.zA (Tr.ret ?_))))))
  obtain rfl := oI H
  exact Tr.out (m := [iv 1]) [] (zW rfl zX) (fun W hW => ⟨rfl, hW.low leB⟩)

theorem zNl {w : Bs} (p0 : zG) (zC : Option Addr) (zD : Nat) (zU : Sl w.R w.W QU zC zD p0.Points) (zO : Option Addr) (zN : Nat) (Qe : Sl w.R w.W zH zO zN p0.Steps) (r : Int) (H : zDv p0 = some r) (hE : HF w w.W E0) : Calls Tryz.prog 73 [.agg #[iv p0.Kind, sv p0.Name, iv p0.At.X, iv p0.At.Y, sL zC p0.Points zD, iv p0.NX, iv p0.NY, sL zO p0.Steps zN]].toArray w.W fun e W' => e = .returned (iv r) ∧ HF w W' E0 := by
 unfold zDv at H
 have leB := Bs.Le.refl w
 refine Tr.enter (n := 13) Tryz.func73 rfl rfl rfl hE ?_
 refine Tr.sr (Tr.box 1 (cs := [iv p0.Kind, sv p0.Name, iv p0.At.X, iv p0.At.Y, sL zC p0.Points zD, iv p0.NX, iv p0.NY, sL zO p0.Steps zN]) (wn rfl) rfl rfl rfl fun QE => ?_)
 refine Tr.asg rfl rfl (Tr.nil (Tr.zA (Tr.sr (Tr.asg rfl rfl (Tr.nil (Tr.zA (Tr.seq (Tr.draw (by kernel_rfl) (by kernel_rfl) ?_))))))))
 refine Tq.mv rfl rfl (Tq.va rfl (fun _ _ a c => zB zLg (a.ev rfl)) ?_)
 refine Tq.va rfl (fun _ _ a c => zF QH (a.ev rfl) (rdb c (vs := [iv p0.Kind, sv p0.Name, iv p0.At.X, iv p0.At.Y, sL zC p0.Points zD, iv p0.NX, iv p0.NY, sL zO p0.Steps zN]) (k := 1) rfl 5) rfl) ?_
 obtain ⟨y101, hy101, H⟩ := bnd H
 refine Tq.zNW (r := (iv y101)) (wn rfl) rfl rfl Tryz.call95 (zI rfl zT) (fun W hW => zGp p0.NX y101 hy101 (HF.start _)) ?_
 refine Tq.mv rfl rfl (Tq.va rfl (fun _ _ a c => zB zLf (a.ev rfl)) ?_)
 refine Tq.va rfl (fun _ _ a c => zF QH (a.ev rfl) (rdb c (vs := [iv p0.Kind, sv p0.Name, iv p0.At.X, iv p0.At.Y, sL zC p0.Points zD, iv p0.NX, iv p0.NY, sL zO p0.Steps zN]) (k := 1) rfl 6) rfl) ?_
 obtain ⟨y102, hy102, H⟩ := bnd H
 refine Tq.zNW (r := (iv y102)) (wn rfl) rfl rfl Tryz.call95 (zI rfl zT) (fun W hW => zGp p0.NY y102 hy102 (HF.start _)) ?_
 refine Tq.va rfl (fun _ _ a c => zBu (a.ev rfl) (a.ev rfl)) ?_
 refine Tq.asg rfl rfl (Tq.nil (Tr.zA (Tr.ret ?_)))
 obtain rfl := oI H
 exact Tr.out (m := [iv (w64 (y101 * y102))]) [] (zW rfl zX) (fun W hW => ⟨rfl, hW.low leB⟩)

theorem zL3 (N : Nat) (rec : (List zG) → Option Int) (hrec : ∀ {w : Bs} (p0 : (List zG)) (zC : Option Addr) (zD : Nat) (zU : Sl w.R w.W zH zC zD p0) (r : Int) (H : rec p0 = some r) (hE : HF w w.W E0), Calls Tryz.prog 42 [sL zC p0 zD].toArray w.W fun e W' => e = .returned (iv r) ∧ HF w W' E0) {w : Bs} (p0 : (List zG)) (zC : Option Addr) (zD : Nat) (zU : Sl w.R w.W zH zC zD p0) (r : Int) (H : zGL N rec p0 = some r) (hE : HF w w.W E0) : Calls Tryz.prog 42 [sL zC p0 zD].toArray w.W fun e W' => e = .returned (iv r) ∧ HF w W' E0 := by
 unfold zGL at H
 have leB := Bs.Le.refl w
 refine Tr.enter (n := 30) Tryz.func42 rfl rfl rfl hE ?_
 refine Tr.sr (Tr.asg rfl rfl (Tr.nil (Tr.zA (Tr.sr (Tr.asg rfl rfl (Tr.nil (Tr.zA (Tr.seq (Tr.sr (Tr.mv rfl rfl ?_))))))))))
 refine Tr.va rfl (fun _ _ a c => QJ zGV (a.ev rfl)) ?_
 refine Tr.mv rfl rfl (Tr.nil (Tr.zA (Tr.block (Tr.loop (σ := (List zG) × Nat × Int) (fun m w s => m = s.1.length + 1 ∧ s.1 = List.drop s.2.1 p0 ∧ s.2.1 ≤ p0.length ∧ Jj rec s.1 s.2.1 s.2.2 = some r) (fun s => [(3, iv s.2.2), (6, sL zC p0 zD), (7, iv (p0.length : Int)), (8, iv (s.2.1 : Int))]) (fun s => []) (p0.length + 1) (p0, 0, 0) ⟨rfl, rfl, Nat.zero_le _, H⟩ (.cons rfl (.cons rfl (.cons rfl (.cons rfl .nil)))) .nil (fun _ _ h => absurd h.1 (by simp)) ?_))))
 intro w Vl m s hs
 obtain ⟨JF, iL3, zNd⟩ := s
 obtain ⟨zHs, zAA, hiL3, H⟩ := hs
 replace zAA : JF = List.drop iL3 p0 := zAA
 replace H : Jj rec JF iL3 zNd = some r := H
 replace zHs : m + 1 = JF.length + 1 := zHs
 replace zU := zU.leR Vl
 replace leB := leB.trans Vl
 obtain rfl : m = JF.length := by omega
 clear zHs
 show Tr _ _ (LF [(3, iv zNd), (6, sL zC p0 zD), (7, iv (p0.length : Int)), (8, iv (iL3 : Int))]) (LE []) _
 cases JF with
 | nil =>
  rw [Jj.eq_1] at H
  refine Tr.sr (Tr.va rfl (fun _ _ a c => QI (a.ev rfl) (a.ev rfl)) ?_)
  refine Tr.nil (Tr.zA (Tr.seq (Tr.WL rfl (JS zAA) ?_)))
  refine Tr.exit (Tr.zk (Tr.zk (Tr.QV (Tr.zA (Tr.sr (Tr.mv rfl rfl (Tr.asg rfl rfl (Tr.nil (Tr.zA (Tr.ret ?_))))))))))
  obtain rfl := oI H
  exact Tr.out (m := [iv zNd]) [] (zW rfl zX) (fun W hW => ⟨rfl, hW.low leB⟩)
 | cons xL3 JF =>
  rw [Jj.eq_2] at H
  refine Tr.sr (Tr.va rfl (fun _ _ a c => QI (a.ev rfl) (a.ev rfl)) ?_)
  refine Tr.nil (Tr.zA (Tr.seq (Tr.WK rfl (Jt zAA) ?_)))
  refine Tr.skip (Tr.zA (Tr.seq (Tr.block (Tr.sr ?_))))
  obtain ⟨u127, hRu127, zcK, hcu127⟩ := (zU).el (KL zAA)
  obtain ⟨⟨zFf, zFV⟩, ⟨zEZ, zES⟩⟩ := u127
  obtain ⟨zMh, zJt⟩ := Kn.1 zcK
  replace zMh : Sl w.R w.W QU zFf zFV xL3.Points := zMh
  replace zJt : Sl w.R w.W zH zEZ zES xL3.Steps := zJt
  refine Tr.va rfl (fun _ _ a c => zM zFH (a.ev rfl) zU.form (a.ev rfl) (Int.natCast_nonneg _) (QB zAA)) ?_
  refine Tr.va rfl (fun _ _ a c => zZ (cs := [iv xL3.Kind, sv xL3.Name, iv xL3.At.X, iv xL3.At.Y, sL zFf xL3.Points zFV, iv xL3.NX, iv xL3.NY, sL zEZ xL3.Steps zES]) zP6 zGW (a.ev rfl) (zR.take (rdR hRu127 hcu127 c) 8) rfl) ?_
  refine Tr.alloc 3 (wn rfl) rfl zV4 fun znc => ?_
  refine Tr.store 3 (cs := [iv xL3.Kind, sv xL3.Name, iv xL3.At.X, iv xL3.At.Y, sL zFf xL3.Points zFV, iv xL3.NX, iv xL3.NY, sL zEZ xL3.Steps zES]) [iv xL3.Kind, sv xL3.Name, iv xL3.At.X, iv xL3.At.Y, sL zFf xL3.Points zFV, iv xL3.NX, iv xL3.NY, sL zEZ xL3.Steps zES] (wn rfl) rfl rfl rfl rfl zGW rfl rfl rfl ?_
  refine Tr.nil (Tr.zA (Tr.sr (Tr.mv rfl rfl (Tr.va rfl (fun _ _ a c => QK (a.ev rfl) (a.ev rfl)) ?_))))
  refine Tr.asg rfl rfl (Tr.nil (Tr.zA ?_))
  have leJ132 := Bs.Le.refl w
  refine Tr.zMx (σ := Int) (fun w s => Wo (Jj rec JF (iL3 + 1)) s = some r) (fun s => [(3, iv s), (6, sL zC p0 zD), (7, iv (p0.length : Int)), (8, iv (iL3 : Int))]) (fun s => []) ?_ ?_
  ·refine Tr.sr (Tr.va rfl (fun _ _ a c => zB zC4 (a.ev rfl)) ?_)
   refine Tr.va rfl (fun _ _ a c => zF zDp (a.ev rfl) (rdb c (vs := [iv xL3.Kind, sv xL3.Name, iv xL3.At.X, iv xL3.At.Y, sL zFf xL3.Points zFV, iv xL3.NX, iv xL3.NY, sL zEZ xL3.Steps zES]) (k := 3) rfl 7) rfl) ?_
   refine Tr.va rfl (fun _ _ a c => QJ zGV (a.ev rfl)) ?_
   refine Tr.va rfl (fun _ _ a c => VY (a.ev rfl) (a.ev rfl)) ?_
   refine Tr.nil (Tr.zA (Tr.cond rfl H (fun H => ?_) (fun H => ?_)))
   ·refine Tr.draw (by kernel_rfl) (by kernel_rfl) ?_
    refine Tq.mv rfl rfl (Tq.va rfl (fun _ _ a c => zZ (cs := [iv xL3.Kind, sv xL3.Name, iv xL3.At.X, iv xL3.At.Y, sL zFf xL3.Points zFV, iv xL3.NX, iv xL3.NY, sL zEZ xL3.Steps zES]) zP6 zGW (a.ev rfl) (zR.take (rdb c (vs := [iv xL3.Kind, sv xL3.Name, iv xL3.At.X, iv xL3.At.Y, sL zFf xL3.Points zFV, iv xL3.NX, iv xL3.NY, sL zEZ xL3.Steps zES]) (k := 3) rfl 0) 8) rfl) ?_)
    obtain ⟨zYR, zjB, H⟩ := bnd H
    refine Tq.JI (r := (iv zYR)) (wn rfl) rfl Tryz.call73 (zI rfl zT) (fun W hW => zNl xL3 zFf zFV (zMh.ext hW.Qx) zEZ zES (zJt.ext hW.Qx) zYR zjB (HF.start _)) ?_
    refine Tq.va rfl (fun _ _ a c => zB zC4 (a.ev rfl)) ?_
    refine Tq.va rfl (fun _ _ a c => zF zDp (a.ev rfl) (rdb c (vs := [iv xL3.Kind, sv xL3.Name, iv xL3.At.X, iv xL3.At.Y, sL zFf xL3.Points zFV, iv xL3.NX, iv xL3.NY, sL zEZ xL3.Steps zES]) (k := 3) rfl 7) rfl) ?_
    obtain ⟨zYQ, zjA, H⟩ := bnd H
    refine Tq.JI (r := (iv zYQ)) (wn rfl) rfl Tryz.call42 (zI rfl zT) (fun W hW => hrec xL3.Steps zEZ zES (zJt.ext hW.Qx) zYQ zjA (HF.start _)) ?_
    refine Tq.va rfl (fun _ _ a c => zBu (a.ev rfl) (a.ev rfl)) ?_
    refine Tq.va rfl (fun _ _ a c => QK (a.ev rfl) (a.ev rfl)) ?_
    exact Tq.asg rfl rfl (Tq.nil (Tr.zn leJ132 (w64 ((w64 (zNd + 1)) + (w64 (zYR * zYQ)))) H (.cons rfl (.cons rfl (.cons rfl (.cons rfl .nil)))) .nil))
   ·exact Tr.skip (Tr.zn leJ132 (w64 (zNd + 1)) H (.cons rfl (.cons rfl (.cons rfl (.cons rfl .nil)))) .nil)
  ·intro w zXj hlJ133 hs
   have H := hs
   replace H : Wo (Jj rec JF (iL3 + 1)) zXj = some r := H
   replace zU := zU.leR hlJ133
   replace leB := leB.trans hlJ133
   replace Vl := Vl.trans hlJ133
   unfold Wo at H
   show Tr _ _ (LF [(3, iv zXj), (6, sL zC p0 zD), (7, iv (p0.length : Int)), (8, iv (iL3 : Int))]) (LE []) _
   refine Tr.sr (Tr.mv rfl rfl (Tr.va rfl (fun _ _ a c => VY (a.ev rfl) (a.ev rfl)) ?_))
   refine Tr.nil (Tr.zA (Tr.cond rfl H (fun H => ?_) (fun H => ?_)))
   ·refine Tr.sr (Tr.asg rfl rfl (Tr.nil (Tr.zA (Tr.ret (Tr.QT (Tr.zi (Tr.zi (Tr.QT (Tr.zi ?_)))))))))
    obtain rfl := oI H
    exact Tr.out (m := [iv 3001]) [] (zW rfl zX) (fun W hW => ⟨rfl, hW.low leB⟩)
   ·refine Tr.skip (Tr.zl (Tr.zA (Tr.region (Tr.va rfl (fun _ _ a c => QK (a.ev rfl) (a.ev rfl)) ?_))))
    exact Tr.mv rfl rfl (Tr.nil (Tr.zn Vl (JF, (iL3 + 1), zXj) ⟨rfl, Qu zAA, QB zAA, H⟩ (.cons rfl (.cons rfl (.cons rfl (.cons (congrArg (fun z => some (Value.int .i64 z)) (Qt zAA zU.form)) .nil)))) .nil))
theorem zIY : ∀ (N : Nat) {w : Bs} (p0 : (List zG)) (zC : Option Addr) (zD : Nat) (zU : Sl w.R w.W zH zC zD p0) (r : Int) (H : zCc N p0 = some r) (hE : HF w w.W E0), Calls Tryz.prog 42 [sL zC p0 zD].toArray w.W fun e W' => e = .returned (iv r) ∧ HF w W' E0
 | 0 => by intros; rename_i H _; cases H
 | N + 1 => zL3 N (zCc N) (zIY N)

theorem zK6 {w : Bs} (p0 : Int) (r : zEU) (H : zBh p0 = some r) (hE : HF w w.W E0) : Calls Tryz.prog 93 [iv p0].toArray w.W fun e W' => e = .returned (.agg #[bV r.name, bV r.at_, bV r.points, bV r.repeat_]) ∧ HF w W' E0 := by
 unfold zBh at H
 have leB := Bs.Le.refl w
 refine Tr.enter (n := 19) Tryz.func93 rfl rfl rfl hE ?_
 refine Tr.sr (Tr.alloc 1 (wn rfl) rfl zYO fun QE => ?_)
 refine Tr.nil (Tr.zA (Tr.seq (Tr.sr (Tr.mv rfl rfl (Tr.nil (Tr.zA (Tr.block (Tr.sr (Tr.va rfl (fun _ _ a c => Qn (a.ev rfl) (a.ev rfl)) ?_)))))))))
 refine Tr.asg rfl rfl (Tr.nil (Tr.zA (Tr.cond rfl H (fun H => ?_) (fun H => ?_))))
 ·refine Tr.sr (Tr.build (vs := [(0, bV true)]) (cs := [bV true, bV false, bV false, bV false]) (wn rfl) rfl (zq rfl Qi) (by kernel_rfl) ?_)
  refine Tr.store 1 (cs := [bV true, bV false, bV false, bV false]) [bV true, bV false, bV false, bV false] (wn rfl) rfl rfl rfl rfl zFq rfl rfl rfl ?_
  refine Tr.nil (Tr.zA (Tr.ret (Tr.QT (Tr.zi ?_))))
  obtain rfl := oI H
  exact Tr.out (m := [.agg #[bV true, bV false, bV false, bV false]]) [1] (Wq rfl rfl zP7 zFq zX) (fun W hW => ⟨rfl, hW.low leB⟩)
 ·have leJ102 := Bs.Le.refl w
  refine Tr.zMx (σ := Bool) (fun w s => Vf p0 s = some r) (fun s => [(2, pV QE), (3, iv p0), (7, bV s)]) (fun s => [(1, bx QE #[bV false, bV false, bV false, bV false] 149)]) ?_ ?_
  ·refine Tr.sr (Tr.va rfl (fun _ _ a c => Qn (a.ev rfl) (a.ev rfl)) ?_)
   refine Tr.asg rfl rfl (Tr.nil (Tr.zA (Tr.cond rfl H (fun H => ?_) (fun H => ?_))))
   ·exact Tr.skip (Tr.zn leJ102 (p0 == 4) H (.cons rfl (.cons rfl (.cons rfl .nil))) (.cons rfl .nil))
   ·refine Tr.sr (Tr.va rfl (fun _ _ a c => Qn (a.ev rfl) (a.ev rfl)) ?_)
    refine Tr.asg rfl rfl (Tr.nil (Tr.zA (Tr.cond rfl H (fun H => ?_) (fun H => ?_))))
    ·exact Tr.skip (Tr.zn leJ102 (p0 == 5) H (.cons rfl (.cons rfl (.cons rfl .nil))) (.cons rfl .nil))
    ·refine Tr.region (Tr.va rfl (fun _ _ a c => Qn (a.ev rfl) (a.ev rfl)) ?_)
     exact Tr.asg rfl rfl (Tr.nil (Tr.zn leJ102 (p0 == 6) H (.cons rfl (.cons rfl (.cons rfl .nil))) (.cons rfl .nil)))
  ·intro w x101 hlJ103 hs
   have H := hs
   replace H : Vf p0 x101 = some r := H
   replace leB := leB.trans hlJ103
   unfold Vf at H
   show Tr _ _ (LF [(2, pV QE), (3, iv p0), (7, bV x101)]) (LE [(1, bx QE #[bV false, bV false, bV false, bV false] 149)]) _
   refine Tr.cond rfl H (fun H => ?_) (fun H => ?_)
   ·refine Tr.sr (Tr.build (vs := [(1, bV true)]) (cs := [bV false, bV true, bV false, bV false]) (wn rfl) rfl (zq rfl Qi) (by kernel_rfl) ?_)
    refine Tr.store 1 (cs := [bV false, bV true, bV false, bV false]) [bV false, bV true, bV false, bV false] (wn rfl) rfl rfl rfl rfl zFq rfl rfl rfl ?_
    refine Tr.nil (Tr.zA (Tr.ret (Tr.QT (Tr.zi ?_))))
    obtain rfl := oI H
    exact Tr.out (m := [.agg #[bV false, bV true, bV false, bV false]]) [1] (Wq rfl rfl zP7 zFq zX) (fun W hW => ⟨rfl, hW.low leB⟩)
   ·refine Tr.sr (Tr.va rfl (fun _ _ a c => Qn (a.ev rfl) (a.ev rfl)) ?_)
    refine Tr.asg rfl rfl (Tr.nil (Tr.zA (Tr.cond rfl H (fun H => ?_) (fun H => ?_))))
    ·refine Tr.sr (Tr.build (vs := [(2, bV true)]) (cs := [bV false, bV false, bV true, bV false]) (wn rfl) rfl (zq rfl Qi) (by kernel_rfl) ?_)
     refine Tr.store 1 (cs := [bV false, bV false, bV true, bV false]) [bV false, bV false, bV true, bV false] (wn rfl) rfl rfl rfl rfl zFq rfl rfl rfl ?_
     refine Tr.nil (Tr.zA (Tr.ret (Tr.QT (Tr.zi ?_))))
     obtain rfl := oI H
     exact Tr.out (m := [.agg #[bV false, bV false, bV true, bV false]]) [1] (Wq rfl rfl zP7 zFq zX) (fun W hW => ⟨rfl, hW.low leB⟩)
    ·refine Tr.sr (Tr.va rfl (fun _ _ a c => Qn (a.ev rfl) (a.ev rfl)) ?_)
     refine Tr.asg rfl rfl (Tr.nil (Tr.zA (Tr.cond rfl H (fun H => ?_) (fun H => ?_))))
     ·refine Tr.sr (Tr.build (vs := [(1, bV true), (3, bV true)]) (cs := [bV false, bV true, bV false, bV true]) (wn rfl) rfl (zq rfl (zq rfl Qi)) (by kernel_rfl) ?_)
      refine Tr.store 1 (cs := [bV false, bV true, bV false, bV true]) [bV false, bV true, bV false, bV true] (wn rfl) rfl rfl rfl rfl zFq rfl rfl rfl ?_
      refine Tr.nil (Tr.zA (Tr.ret (Tr.QT (Tr.zi ?_))))
      obtain rfl := oI H
      exact Tr.out (m := [.agg #[bV false, bV true, bV false, bV true]]) [1] (Wq rfl rfl zP7 zFq zX) (fun W hW => ⟨rfl, hW.low leB⟩)
     ·refine Tr.skip (Tr.zl (Tr.zA (Tr.sr (Tr.build (vs := []) (cs := [bV false, bV false, bV false, bV false]) (wn rfl) rfl Qi (by kernel_rfl) ?_))))
      refine Tr.store 1 (cs := [bV false, bV false, bV false, bV false]) [bV false, bV false, bV false, bV false] (wn rfl) rfl rfl rfl rfl zFq rfl rfl rfl ?_
      refine Tr.nil (Tr.zA (Tr.ret ?_))
      obtain rfl := oI H
      exact Tr.out (m := [.agg #[bV false, bV false, bV false, bV false]]) [1] (Wq rfl rfl zP7 zFq zX) (fun W hW => ⟨rfl, hW.low leB⟩)

theorem zK5 {w : Bs} (p0 : zV) (zC : Option Addr) (zD : Nat) (zU : Sl w.R w.W zK zC zD p0.Rects) (q0 : ByteArray) (bq0 : Nat) (hb0 : w.R bq0) (hc0 : zR w.W bq0 0 [sv q0]) (r : Bool) (H : zC9 p0 q0 = some r) (hE : HF w w.W E0) : Calls Tryz.prog 117 [.agg #[sv p0.Name, sL zC p0.Rects zD], pV bq0].toArray w.W fun e W' => e = .returned (bV r) ∧ HF w W' E0 := by
 unfold zC9 at H
 have leB := Bs.Le.refl w
 refine Tr.enter (n := 8) Tryz.func117 rfl rfl rfl hE ?_
 refine Tr.sr (Tr.box 1 (cs := [sv p0.Name, sL zC p0.Rects zD]) (wn rfl) rfl rfl rfl fun QE => ?_)
 refine Tr.asg rfl rfl (Tr.nil (Tr.zA (Tr.sr (Tr.va rfl (fun _ _ a c => zB zHu (a.ev rfl)) ?_))))
 refine Tr.va rfl (fun _ _ a c => zF zKy (a.ev rfl) (rdb c (vs := [sv p0.Name, sL zC p0.Rects zD]) (k := 1) rfl 0) rfl) ?_
 refine Tr.va rfl (fun _ _ a c => zF zKy (a.ev rfl) (rdR hb0 hc0 c) rfl) ?_
 refine Tr.va rfl (fun _ _ a c => zTH (a.ev rfl) (a.ev rfl)) ?_
 refine Tr.asg rfl rfl (Tr.nil (Tr.zA (Tr.ret ?_)))
 obtain rfl := oI H
 exact Tr.out (m := [bV (sEq p0.Name q0)]) [] (zW rfl zX) (fun W hW => ⟨rfl, hW.low leB⟩)

theorem zBr {w : Bs} (p0 : (List zV)) (zC : Option Addr) (zD : Nat) (zU : Sl w.R w.W zP zC zD p0) (q0 : ByteArray) (bq0 : Nat) (hb0 : w.R bq0) (hc0 : zR w.W bq0 0 [sv q0]) (r : Int) (H : KJ p0 q0 = some r) (hE : HF w w.W E0) : Calls Tryz.prog 116 [sL zC p0 zD, .func (.func 117) #[] #[pV bq0]].toArray w.W fun e W' => e = .returned (iv r) ∧ HF w W' E0 := by
 unfold KJ at H
 have leB := Bs.Le.refl w
 refine Tr.enter (n := 19) Tryz.func116 rfl rfl rfl hE ?_
 refine Tr.sr (Tr.asg rfl rfl (Tr.nil (Tr.zA (Tr.seq (Tr.sr (Tr.mv rfl rfl (Tr.va rfl (fun _ _ a c => QJ zKW (a.ev rfl)) ?_)))))))
 refine Tr.mv rfl rfl (Tr.nil (Tr.zA (Tr.block (Tr.loop (σ := (List zV) × Nat) (fun m w s => m = s.1.length + 1 ∧ s.1 = List.drop s.2 p0 ∧ s.2 ≤ p0.length ∧ Qb q0 s.1 s.2 = some r) (fun s => [(0, sL zC p0 zD), (1, .func (.func 117) #[] #[pV bq0]), (7, iv (p0.length : Int)), (8, iv (s.2 : Int))]) (fun s => []) (p0.length + 1) (p0, 0) ⟨rfl, rfl, Nat.zero_le _, H⟩ (.cons rfl (.cons rfl (.cons rfl (.cons rfl .nil)))) .nil (fun _ _ h => absurd h.1 (by simp)) ?_))))
 intro w Qd m s hs
 obtain ⟨zY, iL1⟩ := s
 obtain ⟨Kj, QF, hiL1, H⟩ := hs
 replace QF : zY = List.drop iL1 p0 := QF
 replace H : Qb q0 zY iL1 = some r := H
 replace Kj : m + 1 = zY.length + 1 := Kj
 replace zU := zU.leR Qd
 replace hc0 := Qd.ext.cells hb0 hc0
 replace hb0 := Qd.r _ hb0
 replace leB := leB.trans Qd
 obtain rfl : m = zY.length := by omega
 clear Kj
 show Tr _ _ (LF [(0, sL zC p0 zD), (1, .func (.func 117) #[] #[pV bq0]), (7, iv (p0.length : Int)), (8, iv (iL1 : Int))]) (LE []) _
 cases zY with
 | nil =>
  rw [Qb.eq_1] at H
  refine Tr.sr (Tr.va rfl (fun _ _ a c => QI (a.ev rfl) (a.ev rfl)) ?_)
  refine Tr.nil (Tr.zA (Tr.seq (Tr.WL rfl (JS QF) ?_)))
  refine Tr.exit (Tr.zk (Tr.zk (Tr.QV (Tr.zA (Tr.sr (Tr.asg rfl rfl (Tr.nil (Tr.zA (Tr.ret ?_)))))))))
  obtain rfl := oI H
  exact Tr.out (m := [iv (-1)]) [] (zW rfl zX) (fun W hW => ⟨rfl, hW.low leB⟩)
 | cons xL1 zY =>
  rw [Qb.eq_2] at H
  refine Tr.sr (Tr.va rfl (fun _ _ a c => QI (a.ev rfl) (a.ev rfl)) ?_)
  refine Tr.nil (Tr.zA (Tr.seq (Tr.WK rfl (Jt QF) ?_)))
  refine Tr.skip (Tr.zA (Tr.seq (Tr.block (Tr.sr (Tr.mv rfl rfl (Tr.asg rfl rfl (Tr.nil (Tr.zA (Tr.sr (Tr.mv rfl rfl ?_))))))))))
  refine Tr.mv rfl rfl (Tr.mv rfl rfl ?_)
  obtain ⟨zmd, hRu104, zcR, hcu104⟩ := (zU).el (KL QF)
  obtain ⟨zSn, zSS⟩ := zmd
  have zMj := zcR
  replace zMj : Sl w.R w.W zK zSn zSS xL1.Rects := zMj
  refine Tr.va rfl (fun _ _ a c => zM zKa (a.ev rfl) zU.form (a.ev rfl) (Int.natCast_nonneg _) (QB QF)) ?_
  refine Tr.va rfl (fun _ _ a c => zZ (cs := [sv xL1.Name, sL zSn xL1.Rects zSS]) zP5 zG8 (a.ev rfl) (zR.take (rdR hRu104 hcu104 c) 2) rfl) ?_
  obtain ⟨zA7, zPR, H⟩ := bnd H
  refine Tr.zNW (r := (bV zA7)) (wn rfl) rfl rfl Tryz.call117 (zI rfl zT) (fun W hW => zK5 xL1 zSn zSS (zMj.ext hW.Qx) q0 bq0 (hW.Qx.r _ hb0) (hW.Qx.cells hb0 hc0) zA7 zPR (HF.start _)) ?_
  refine Tr.nil (Tr.zA (Tr.cond rfl H (fun H => ?_) (fun H => ?_)))
  ·refine Tr.sr (Tr.mv rfl rfl (Tr.asg rfl rfl (Tr.nil (Tr.zA (Tr.ret (Tr.QT (Tr.zi (Tr.zi (Tr.QT (Tr.zi ?_))))))))))
   obtain rfl := oI H
   exact Tr.out (m := [iv (iL1 : Int)]) [] (zW rfl zX) (fun W hW => ⟨rfl, hW.low leB⟩)
  ·refine Tr.skip (Tr.zl (Tr.zA (Tr.region (Tr.va rfl (fun _ _ a c => QK (a.ev rfl) (a.ev rfl)) ?_))))
   exact Tr.mv rfl rfl (Tr.nil (Tr.zn Qd (zY, (iL1 + 1)) ⟨rfl, Qu QF, QB QF, H⟩ (.cons rfl (.cons rfl (.cons rfl (.cons (congrArg (fun z => some (Value.int .i64 z)) (Qt QF zU.form)) .nil)))) .nil))

theorem zHY {w : Bs} (p0 : zm) (zC : Option Addr) (zD : Nat) (zU : Sl w.R w.W zP zC zD p0.Tools) (zO : Option Addr) (zN : Nat) (Qe : Sl w.R w.W zH zO zN p0.Steps) (p1 : ByteArray) (r : Int) (H : zBn p0 p1 = some r) (hE : HF w w.W E0) : Calls Tryz.prog 96 [.agg #[iv p0.Unit, sL zC p0.Tools zD, sL zO p0.Steps zN], sv p1].toArray w.W fun e W' => e = .returned (iv r) ∧ HF w W' E0 := by
 unfold zBn at H
 have leB := Bs.Le.refl w
 refine Tr.enter (n := 9) Tryz.func96 rfl rfl rfl hE ?_
 refine Tr.sr (Tr.box 1 (cs := [iv p0.Unit, sL zC p0.Tools zD, sL zO p0.Steps zN]) (wn rfl) rfl rfl rfl fun QE => ?_)
 refine Tr.box 2 (cs := [sv p1]) (wn rfl) rfl rfl rfl fun Qw => ?_
 refine Tr.asg rfl rfl (Tr.nil (Tr.zA (Tr.sr (Tr.va rfl (fun _ _ a c => zB zEO (a.ev rfl)) ?_))))
 refine Tr.va rfl (fun _ _ a c => zF zLu (a.ev rfl) (rdb c (vs := [iv p0.Unit, sL zC p0.Tools zD, sL zO p0.Steps zN]) (k := 1) rfl 1) rfl) ?_
 refine Tr.zE5 (vs := [pV Qw]) (wn rfl) rfl (zI rfl zT) ?_
 obtain ⟨y102, hy102, H⟩ := bnd H
 refine Tr.JI (r := (iv y102)) (wn rfl) rfl Tryz.call116 (zI rfl (zI rfl zT)) (fun W hW => zBr p0.Tools zC zD (zU.ext hW.Qx) p1 Qw (hW.za0 (k := 2) rfl) (hW.zcn (k := 2) rfl) y102 hy102 (HF.start _)) ?_
 refine Tr.asg rfl rfl (Tr.nil (Tr.zA (Tr.ret ?_)))
 obtain rfl := oI H
 exact Tr.out (m := [iv y102]) [] (zW rfl zX) (fun W hW => ⟨rfl, hW.low leB⟩)

theorem zGq {w : Bs} (p0 : zJ) (p1 : Int) (r : Bool) (H : zBL p0 p1 = some r) (hE : HF w w.W E0) : Calls Tryz.prog 97 [.agg #[iv p0.X, iv p0.Y], iv p1].toArray w.W fun e W' => e = .returned (bV r) ∧ HF w W' E0 := by
 unfold zBL at H
 have leB := Bs.Le.refl w
 refine Tr.enter (n := 15) Tryz.func97 rfl rfl rfl hE ?_
 refine Tr.sr (Tr.box 1 (cs := [iv p0.X, iv p0.Y]) (wn rfl) rfl rfl rfl fun QE => ?_)
 refine Tr.asg rfl rfl (Tr.nil (Tr.zA (Tr.sr (Tr.va rfl (fun _ _ a c => zB Vm (a.ev rfl)) ?_))))
 refine Tr.va rfl (fun _ _ a c => zF QH (a.ev rfl) (rdb c (vs := [iv p0.X, iv p0.Y]) (k := 1) rfl 0) rfl) ?_
 refine Tr.mv rfl rfl ?_
 obtain ⟨y101, hy101, H⟩ := bnd H
 refine Tr.JI (r := (bV y101)) (wn rfl) rfl Tryz.call72 (zI rfl (zI rfl zT)) (fun W hW => zBM p0.X p1 y101 hy101 (HF.start _)) ?_
 refine Tr.mv rfl rfl ?_
 obtain ⟨zJF, zCC, H⟩ := bnd H
 refine Tr.Vr 5 [(14, bV zJF)] [(1, bx QE #[iv p0.X, iv p0.Y] 43)] ?_ ?_
 ·cases zNN : y101
  ·rw [zNN] at zCC
   rw [if_neg (by decide)] at zCC
   have H := zCC
   obtain rfl := oI H
   refine Tr.pass rfl rfl rfl rfl rfl (by decide) ?_
   refine Tr.pass rfl rfl rfl rfl rfl (by decide) ?_
   refine Tr.pass rfl rfl rfl rfl rfl (by decide) ?_
   refine Tr.pass rfl rfl rfl rfl rfl (by decide) ?_
   refine Tr.va rfl (fun _ _ a c => zx (a.ev rfl) (a.ev rfl)) ?_
   exact Tr.nil (Tr.JM (.cons rfl .nil) (.cons rfl .nil))
  ·rw [zNN] at zCC
   rw [if_pos rfl] at zCC
   have H := zCC
   refine Tr.val (wg rfl rfl rfl) rfl (fun _ _ a c => zB VZ (a.ev rfl)) ?_
   refine Tr.val (wg rfl rfl rfl) rfl (fun _ _ a c => zF QH (a.ev rfl) (rdb c (vs := [iv p0.X, iv p0.Y]) (k := 1) rfl 1) rfl) ?_
   refine Tr.val (wg rfl rfl rfl) rfl (fun _ _ a c => run_move (a.ev rfl)) ?_
   obtain ⟨y104, hy104, H⟩ := bnd H
   refine Tr.JI (r := (bV y104)) (wg rfl rfl rfl) rfl Tryz.call72 (zI rfl (zI rfl zT)) (fun W hW => zBM p0.Y p1 y104 hy104 (HF.start _)) ?_
   refine Tr.va rfl (fun _ _ a c => zw (a.ev rfl) (a.ev rfl)) ?_
   obtain rfl := oI H
   exact Tr.nil (Tr.JM (.cons rfl .nil) (.cons rfl .nil))
 ·show Tr _ _ (LF [(14, bV zJF)]) (LE [(1, bx QE #[iv p0.X, iv p0.Y] 43)]) _
  refine Tr.asg rfl rfl (Tr.nil (Tr.zA (Tr.ret ?_)))
  obtain rfl := oI H
  exact Tr.out (m := [bV zJF]) [] (zW rfl zX) (fun W hW => ⟨rfl, hW.low leB⟩)

theorem zIm {w : Bs} (p0 : zJ) (q0 : zm) (Aq0_0 : Option Addr) (cq0_0 : Nat) (zZt : Sl w.R w.W zP Aq0_0 cq0_0 q0.Tools) (Aq0_1 : Option Addr) (cq0_1 : Nat) (zm8 : Sl w.R w.W zH Aq0_1 cq0_1 q0.Steps) (bq0 : Nat) (hb0 : w.R bq0) (hc0 : zR w.W bq0 0 [iv q0.Unit, sL Aq0_0 q0.Tools cq0_0, sL Aq0_1 q0.Steps cq0_1]) (r : Bool) (H : Ky p0 q0 = some r) (hE : HF w w.W E0) : Calls Tryz.prog 99 [.agg #[iv p0.X, iv p0.Y], pV bq0].toArray w.W fun e W' => e = .returned (bV r) ∧ HF w W' E0 := by
 unfold Ky at H
 have leB := Bs.Le.refl w
 refine Tr.enter (n := 9) Tryz.func99 rfl rfl rfl hE ?_
 refine Tr.sr (Tr.box 1 (cs := [iv p0.X, iv p0.Y]) (wn rfl) rfl rfl rfl fun QE => ?_)
 refine Tr.asg rfl rfl (Tr.nil (Tr.zA (Tr.sr (Tr.va rfl (fun _ _ a c => zZ (cs := [iv p0.X, iv p0.Y]) VP Js (a.ev rfl) (zR.take (rdb c (vs := [iv p0.X, iv p0.Y]) (k := 1) rfl 0) 2) rfl) ?_))))
 refine Tr.va rfl (fun _ _ a c => zB WS (a.ev rfl)) ?_
 refine Tr.va rfl (fun _ _ a c => zF QH (a.ev rfl) (zR.drop (rdR hb0 hc0 c) 0) rfl) ?_
 obtain ⟨y101, hy101, H⟩ := bnd H
 refine Tr.JI (r := (bV y101)) (wn rfl) rfl Tryz.call97 (zI rfl (zI rfl zT)) (fun W hW => zGq p0 q0.Unit y101 hy101 (HF.start _)) ?_
 refine Tr.va rfl (fun _ _ a c => Km (a.ev rfl)) ?_
 refine Tr.asg rfl rfl (Tr.nil (Tr.zA (Tr.ret ?_)))
 obtain rfl := oI H
 exact Tr.out (m := [bV (!y101)]) [] (zW rfl zX) (fun W hW => ⟨rfl, hW.low leB⟩)

theorem zFZ {w : Bs} (p0 : (List zJ)) (zC : Option Addr) (zD : Nat) (zU : Sl w.R w.W QU zC zD p0) (p1 : zJ → Option Bool) (fid1 : Nat) (cap1 : List Value) (hg1 : ∀ args W, (callFunc fid1 args).run Tryz.prog W = .ok (.enter fid1 args) W) (hf1 : ∀ (w' : Bs), w.Ext w' → ∀ (z0 : zJ), ∀ y, p1 z0 = some y → Calls Tryz.prog fid1 (([.agg #[iv z0.X, iv z0.Y]] : List Value) ++ cap1).toArray w'.W fun e W'' => e = .returned (bV y) ∧ HF w' W'' E0) (r : Int) (H : VU p0 p1 = some r) (hE : HF w w.W E0) : Calls Tryz.prog 118 [sL zC p0 zD, .func (.func fid1) #[] cap1.toArray].toArray w.W fun e W' => e = .returned (iv r) ∧ HF w W' E0 := by
 unfold VU at H
 have leB := Bs.Le.refl w
 refine Tr.enter (n := 19) Tryz.func118 rfl rfl rfl hE ?_
 refine Tr.sr (Tr.asg rfl rfl (Tr.nil (Tr.zA (Tr.seq (Tr.sr (Tr.mv rfl rfl (Tr.va rfl (fun _ _ a c => QJ zGU (a.ev rfl)) ?_)))))))
 refine Tr.mv rfl rfl (Tr.nil (Tr.zA (Tr.block (Tr.loop (σ := (List zJ) × Nat) (fun m w s => m = s.1.length + 1 ∧ s.1 = List.drop s.2 p0 ∧ s.2 ≤ p0.length ∧ Qm p1 s.1 s.2 = some r) (fun s => [(0, sL zC p0 zD), (1, .func (.func fid1) #[] cap1.toArray), (7, iv (p0.length : Int)), (8, iv (s.2 : Int))]) (fun s => []) (p0.length + 1) (p0, 0) ⟨rfl, rfl, Nat.zero_le _, H⟩ (.cons rfl (.cons rfl (.cons rfl (.cons rfl .nil)))) .nil (fun _ _ h => absurd h.1 (by simp)) ?_))))
 intro w Qd m s hs
 obtain ⟨zY, iL1⟩ := s
 obtain ⟨Kj, QF, hiL1, H⟩ := hs
 replace QF : zY = List.drop iL1 p0 := QF
 replace H : Qm p1 zY iL1 = some r := H
 replace Kj : m + 1 = zY.length + 1 := Kj
 replace zU := zU.leR Qd
 replace hf1 := fun w' he => hf1 w' (Qd.ext.trans he)
 replace leB := leB.trans Qd
 obtain rfl : m = zY.length := by omega
 clear Kj
 show Tr _ _ (LF [(0, sL zC p0 zD), (1, .func (.func fid1) #[] cap1.toArray), (7, iv (p0.length : Int)), (8, iv (iL1 : Int))]) (LE []) _
 cases zY with
 | nil =>
  rw [Qm.eq_1] at H
  refine Tr.sr (Tr.va rfl (fun _ _ a c => QI (a.ev rfl) (a.ev rfl)) ?_)
  refine Tr.nil (Tr.zA (Tr.seq (Tr.WL rfl (JS QF) ?_)))
  refine Tr.exit (Tr.zk (Tr.zk (Tr.QV (Tr.zA (Tr.sr (Tr.asg rfl rfl (Tr.nil (Tr.zA (Tr.ret ?_)))))))))
  obtain rfl := oI H
  exact Tr.out (m := [iv (-1)]) [] (zW rfl zX) (fun W hW => ⟨rfl, hW.low leB⟩)
 | cons xL1 zY =>
  rw [Qm.eq_2] at H
  refine Tr.sr (Tr.va rfl (fun _ _ a c => QI (a.ev rfl) (a.ev rfl)) ?_)
  refine Tr.nil (Tr.zA (Tr.seq (Tr.WK rfl (Jt QF) ?_)))
  refine Tr.skip (Tr.zA (Tr.seq (Tr.block (Tr.sr (Tr.mv rfl rfl (Tr.asg rfl rfl (Tr.nil (Tr.zA (Tr.sr (Tr.mv rfl rfl ?_))))))))))
  refine Tr.mv rfl rfl (Tr.mv rfl rfl (Tr.va rfl (fun _ _ a c => zM zLi (a.ev rfl) zU.form (a.ev rfl) (Int.natCast_nonneg _) (QB QF)) ?_))
  refine Tr.va rfl (fun _ _ a c => zZ (cs := [iv xL1.X, iv xL1.Y]) VP Js (a.ev rfl) (zR.take (rdF zCY zU (KL QF) c) 2) rfl) ?_
  obtain ⟨zo, zDf, H⟩ := bnd H
  refine Tr.zNW (r := (bV zo)) (wn rfl) rfl rfl hg1 (zI rfl zT) (fun W hW => hf1 hW.all hW.Qx xL1 _ zDf) ?_
  refine Tr.nil (Tr.zA (Tr.cond rfl H (fun H => ?_) (fun H => ?_)))
  ·refine Tr.sr (Tr.mv rfl rfl (Tr.asg rfl rfl (Tr.nil (Tr.zA (Tr.ret (Tr.QT (Tr.zi (Tr.zi (Tr.QT (Tr.zi ?_))))))))))
   obtain rfl := oI H
   exact Tr.out (m := [iv (iL1 : Int)]) [] (zW rfl zX) (fun W hW => ⟨rfl, hW.low leB⟩)
  ·refine Tr.skip (Tr.zl (Tr.zA (Tr.region (Tr.va rfl (fun _ _ a c => QK (a.ev rfl) (a.ev rfl)) ?_))))
   exact Tr.mv rfl rfl (Tr.nil (Tr.zn Qd (zY, (iL1 + 1)) ⟨rfl, Qu QF, QB QF, H⟩ (.cons rfl (.cons rfl (.cons rfl (.cons (congrArg (fun z => some (Value.int .i64 z)) (Qt QF zU.form)) .nil)))) .nil))

theorem zBH {w : Bs} (p0 : (List zJ)) (zC : Option Addr) (zD : Nat) (zU : Sl w.R w.W QU zC zD p0) (p1 : zJ → Option Bool) (fid1 : Nat) (cap1 : List Value) (hg1 : ∀ args W, (callFunc fid1 args).run Tryz.prog W = .ok (.enter fid1 args) W) (hf1 : ∀ (w' : Bs), w.Ext w' → ∀ (z0 : zJ), ∀ y, p1 z0 = some y → Calls Tryz.prog fid1 (([.agg #[iv z0.X, iv z0.Y]] : List Value) ++ cap1).toArray w'.W fun e W'' => e = .returned (bV y) ∧ HF w' W'' E0) (r : Bool) (H : JR p0 p1 = some r) (hE : HF w w.W E0) : Calls Tryz.prog 98 [sL zC p0 zD, .func (.func fid1) #[] cap1.toArray].toArray w.W fun e W' => e = .returned (bV r) ∧ HF w W' E0 := by
 unfold JR at H
 have leB := Bs.Le.refl w
 refine Tr.enter (n := 9) Tryz.func98 rfl rfl rfl hE ?_
 refine Tr.sr (Tr.asg rfl rfl (Tr.nil (Tr.zA (Tr.sr (Tr.mv rfl rfl (Tr.mv rfl rfl ?_))))))
 obtain ⟨zy, Ws, H⟩ := bnd H
 refine Tr.JI (r := (iv zy)) (wn rfl) rfl Tryz.call118 (zI rfl (zI rfl zT)) (fun W hW => zFZ p0 zC zD (zU.ext hW.Qx) p1 fid1 cap1 hg1 (fun w' he => hf1 w' (hW.Qx.trans he)) zy Ws (HF.start _)) ?_
 refine Tr.va rfl (fun _ _ a c => zFN (a.ev rfl) (a.ev rfl)) ?_
 refine Tr.asg rfl rfl (Tr.nil (Tr.zA (Tr.ret ?_)))
 obtain rfl := oI H
 exact Tr.out (m := [bV (decide (0 ≤ zy))]) [] (zW rfl zX) (fun W hW => ⟨rfl, hW.low leB⟩)

theorem zM7 {w : Bs} (p0 : (List zJ)) (zC : Option Addr) (zD : Nat) (zU : Sl w.R w.W QU zC zD p0) (r : Bool) (H : zCy p0 = some r) (hE : HF w w.W E0) : Calls Tryz.prog 100 [sL zC p0 zD].toArray w.W fun e W' => e = .returned (bV r) ∧ HF w W' E0 := by
 unfold zCy at H
 have leB := Bs.Le.refl w
 refine Tr.enter (n := 36) Tryz.func100 rfl rfl rfl hE ?_
 refine Tr.sr (Tr.asg rfl rfl (Tr.nil (Tr.zA (Tr.seq (Tr.sr (Tr.mv rfl rfl (Tr.va rfl (fun _ _ a c => QJ zGU (a.ev rfl)) ?_)))))))
 refine Tr.va rfl (fun _ _ a c => QI (a.ev rfl) (a.ev rfl)) ?_
 refine Tr.nil (Tr.zA (Tr.cond rfl H (fun H => ?_) (fun H => ?_)))
 ·refine Tr.sr (Tr.asg rfl rfl (Tr.nil (Tr.zA (Tr.ret (Tr.zi ?_)))))
  obtain rfl := oI H
  exact Tr.out (m := [bV false]) [] (zW rfl zX) (fun W hW => ⟨rfl, hW.low leB⟩)
 ·refine Tr.skip (Tr.zA (Tr.seq (Tr.sr (Tr.mv rfl rfl (Tr.va rfl (fun _ _ a c => QJ zGU (a.ev rfl)) ?_)))))
  refine Tr.mv rfl rfl (Tr.nil (Tr.zA (Tr.block (Tr.loop (σ := (List zJ) × Nat) (fun m w s => m = s.1.length + 1 ∧ s.1 = List.drop s.2 p0 ∧ s.2 ≤ p0.length ∧ Vi p0 s.1 s.2 = some r) (fun s => [(0, sL zC p0 zD), (9, sL zC p0 zD), (10, iv (p0.length : Int)), (11, iv (s.2 : Int))]) (fun s => []) (p0.length + 1) (p0, 0) ⟨rfl, rfl, Nat.zero_le _, H⟩ (.cons rfl (.cons rfl (.cons rfl (.cons rfl .nil)))) .nil (fun _ _ h => absurd h.1 (by simp)) ?_))))
  intro w Qd m s hs
  obtain ⟨zY, iL1⟩ := s
  obtain ⟨Kj, QF, hiL1, H⟩ := hs
  replace QF : zY = List.drop iL1 p0 := QF
  replace H : Vi p0 zY iL1 = some r := H
  replace Kj : m + 1 = zY.length + 1 := Kj
  replace zU := zU.leR Qd
  replace leB := leB.trans Qd
  obtain rfl : m = zY.length := by omega
  clear Kj
  show Tr _ _ (LF [(0, sL zC p0 zD), (9, sL zC p0 zD), (10, iv (p0.length : Int)), (11, iv (iL1 : Int))]) (LE []) _
  cases zY with
  | nil =>
   rw [Vi.eq_1] at H
   refine Tr.sr (Tr.va rfl (fun _ _ a c => QI (a.ev rfl) (a.ev rfl)) ?_)
   refine Tr.nil (Tr.zA (Tr.seq (Tr.WL rfl (JS QF) ?_)))
   refine Tr.exit (Tr.zk (Tr.zk (Tr.QV (Tr.zA (Tr.sr (Tr.asg rfl rfl (Tr.nil (Tr.zA (Tr.ret ?_)))))))))
   obtain rfl := oI H
   exact Tr.out (m := [bV true]) [] (zW rfl zX) (fun W hW => ⟨rfl, hW.low leB⟩)
  | cons xL1 zY =>
   rw [Vi.eq_2] at H
   refine Tr.sr (Tr.va rfl (fun _ _ a c => QI (a.ev rfl) (a.ev rfl)) ?_)
   refine Tr.nil (Tr.zA (Tr.seq (Tr.WK rfl (Jt QF) ?_)))
   refine Tr.skip (Tr.zA (Tr.seq (Tr.block (Tr.sr (Tr.mv rfl rfl (Tr.va rfl (fun _ _ a c => zM zLi (a.ev rfl) zU.form (a.ev rfl) (Int.natCast_nonneg _) (QB QF)) ?_))))))
   refine Tr.va rfl (fun _ _ a c => zZ (cs := [iv xL1.X, iv xL1.Y]) VP Js (a.ev rfl) (zR.take (rdF zCY zU (KL QF) c) 2) rfl) ?_
   refine Tr.alloc 3 (wn rfl) rfl zIo fun zm2 => ?_
   refine Tr.asg rfl rfl (Tr.store 3 (cs := [iv xL1.X, iv xL1.Y]) [iv xL1.X, iv xL1.Y] (wn rfl) rfl rfl rfl rfl Js rfl rfl rfl ?_)
   refine Tr.nil (Tr.zA (Tr.sr (Tr.mv rfl rfl (Tr.mv rfl rfl (Tr.va rfl (fun _ _ a c => QK (a.ev rfl) (a.ev rfl)) ?_)))))
   refine Tr.mv rfl rfl (Tr.va rfl (fun _ _ a c => QJ zGU (a.ev rfl)) ?_)
   obtain ⟨q107, zj3, H⟩ := bnd H
   refine Tr.va rfl (fun _ _ a c => zRi (a.ev rfl) (a.ev rfl) zj3) ?_
   obtain ⟨zEd, zT1, H⟩ := bnd H
   obtain ⟨zPX, zPW, zPV⟩ := zz zT1
   refine Tr.va rfl (fun _ _ a c => zM zLi (a.ev rfl) zU.form (a.ev rfl) zPX zPW) ?_
   refine Tr.va rfl (fun _ _ a c => zZ (cs := [iv zEd.X, iv zEd.Y]) VP Js (a.ev rfl) (zR.take (rdF zCY zU zPV c) 2) rfl) ?_
   refine Tr.alloc 4 (wn rfl) rfl zIo fun zng => ?_
   refine Tr.store 4 (cs := [iv zEd.X, iv zEd.Y]) [iv zEd.X, iv zEd.Y] (wn rfl) rfl rfl rfl rfl Js rfl rfl rfl ?_
   refine Tr.nil (Tr.zA (Tr.sr (Tr.va rfl (fun _ _ a c => zB Vm (a.ev rfl)) ?_)))
   refine Tr.va rfl (fun _ _ a c => zF QH (a.ev rfl) (rdb c (vs := [iv xL1.X, iv xL1.Y]) (k := 3) rfl 0) rfl) ?_
   refine Tr.va rfl (fun _ _ a c => zB Vm (a.ev rfl)) ?_
   refine Tr.va rfl (fun _ _ a c => zF QH (a.ev rfl) (rdb c (vs := [iv zEd.X, iv zEd.Y]) (k := 4) rfl 0) rfl) ?_
   refine Tr.va rfl (fun _ _ a c => Qn (a.ev rfl) (a.ev rfl)) ?_
   refine Tr.va rfl (fun _ _ a c => zB VZ (a.ev rfl)) ?_
   refine Tr.va rfl (fun _ _ a c => zF QH (a.ev rfl) (rdb c (vs := [iv xL1.X, iv xL1.Y]) (k := 3) rfl 1) rfl) ?_
   refine Tr.va rfl (fun _ _ a c => zB VZ (a.ev rfl)) ?_
   refine Tr.va rfl (fun _ _ a c => zF QH (a.ev rfl) (rdb c (vs := [iv zEd.X, iv zEd.Y]) (k := 4) rfl 1) rfl) ?_
   refine Tr.va rfl (fun _ _ a c => Qn (a.ev rfl) (a.ev rfl)) ?_
   refine Tr.va rfl (fun _ _ a c => zY2 zhg (a.ev rfl) (a.ev rfl)) ?_
   refine Tr.nil (Tr.zA (Tr.cond rfl H (fun H => ?_) (fun H => ?_)))
   ·refine Tr.sr (Tr.asg rfl rfl (Tr.nil (Tr.zA (Tr.ret (Tr.QT (Tr.zi (Tr.zi (Tr.QT (Tr.zi ?_)))))))))
    obtain rfl := oI H
    exact Tr.out (m := [bV false]) [] (zW rfl zX) (fun W hW => ⟨rfl, hW.low leB⟩)
   ·refine Tr.skip (Tr.zl (Tr.zA (Tr.region (Tr.va rfl (fun _ _ a c => QK (a.ev rfl) (a.ev rfl)) ?_))))
    exact Tr.mv rfl rfl (Tr.nil (Tr.zn Qd (zY, (iL1 + 1)) ⟨rfl, Qu QF, QB QF, H⟩ (.cons rfl (.cons rfl (.cons rfl (.cons (congrArg (fun z => some (Value.int .i64 z)) (Qt QF zU.form)) .nil)))) .nil))

theorem zKV {w : Bs} (p0 : zm) (zC : Option Addr) (zD : Nat) (zU : Sl w.R w.W zP zC zD p0.Tools) (zO : Option Addr) (zN : Nat) (Qe : Sl w.R w.W zH zO zN p0.Steps) (p1 : zG) (zh : Option Addr) (zg : Nat) (Qh : Sl w.R w.W QU zh zg p1.Points) (Qc : Option Addr) (Qa : Nat) (zDg : Sl w.R w.W zH Qc Qa p1.Steps) (p2 : Int) (r : Int) (H : zBO p0 p1 p2 = some r) (hE : HF w w.W E0) : Calls Tryz.prog 74 [.agg #[iv p0.Unit, sL zC p0.Tools zD, sL zO p0.Steps zN], .agg #[iv p1.Kind, sv p1.Name, iv p1.At.X, iv p1.At.Y, sL zh p1.Points zg, iv p1.NX, iv p1.NY, sL Qc p1.Steps Qa], iv p2].toArray w.W fun e W' => e = .returned (iv r) ∧ HF w W' E0 := by
 unfold zBO at H
 have leB := Bs.Le.refl w
 refine Tr.enter (n := 120) Tryz.func74 rfl rfl rfl hE ?_
 refine Tr.sr (Tr.box 1 (cs := [iv p0.Unit, sL zC p0.Tools zD, sL zO p0.Steps zN]) (wn rfl) rfl rfl rfl fun QE => ?_)
 refine Tr.box 2 (cs := [iv p1.Kind, sv p1.Name, iv p1.At.X, iv p1.At.Y, sL zh p1.Points zg, iv p1.NX, iv p1.NY, sL Qc p1.Steps Qa]) (wn rfl) rfl rfl rfl fun Qw => ?_
 refine Tr.asg rfl rfl (Tr.nil (Tr.zA (Tr.seq (Tr.sr (Tr.va rfl (fun _ _ a c => zB zHv (a.ev rfl)) ?_)))))
 refine Tr.va rfl (fun _ _ a c => zF QH (a.ev rfl) (rdb c (vs := [iv p1.Kind, sv p1.Name, iv p1.At.X, iv p1.At.Y, sL zh p1.Points zg, iv p1.NX, iv p1.NY, sL Qc p1.Steps Qa]) (k := 2) rfl 0) rfl) ?_
 obtain ⟨y102, hy102, H⟩ := bnd H
 refine Tr.JI (r := (bV y102)) (wn rfl) rfl Tryz.call22 (zI rfl (zI rfl (zI rfl zT))) (fun W hW => zAM p1.Kind 1 8 y102 hy102 (HF.start _)) ?_
 refine Tr.va rfl (fun _ _ a c => Km (a.ev rfl)) ?_
 refine Tr.nil (Tr.zA (Tr.cond rfl H (fun H => ?_) (fun H => ?_)))
 ·refine Tr.sr (Tr.asg rfl rfl (Tr.nil (Tr.zA (Tr.ret (Tr.zi ?_)))))
  obtain rfl := oI H
  exact Tr.out (m := [iv 4]) [] (zW rfl zX) (fun W hW => ⟨rfl, hW.low leB⟩)
 ·refine Tr.skip (Tr.zA (Tr.sr (Tr.va rfl (fun _ _ a c => zB zHv (a.ev rfl)) ?_)))
  refine Tr.va rfl (fun _ _ a c => zF QH (a.ev rfl) (rdb c (vs := [iv p1.Kind, sv p1.Name, iv p1.At.X, iv p1.At.Y, sL zh p1.Points zg, iv p1.NX, iv p1.NY, sL Qc p1.Steps Qa]) (k := 2) rfl 0) rfl) ?_
  obtain ⟨zo, zDf, H⟩ := bnd H
  refine Tr.JI (r := (.agg #[bV zo.name, bV zo.at_, bV zo.points, bV zo.repeat_])) (wn rfl) rfl Tryz.call93 (zI rfl zT) (fun W hW => zK6 p1.Kind zo zDf (HF.start _)) ?_
  refine Tr.alloc 3 (wn rfl) rfl zYO fun VN => ?_
  refine Tr.store 3 (cs := [bV zo.name, bV zo.at_, bV zo.points, bV zo.repeat_]) [bV zo.name, bV zo.at_, bV zo.points, bV zo.repeat_] (wn rfl) rfl rfl rfl rfl zFq rfl rfl rfl ?_
  refine Tr.nil (Tr.zA (Tr.seq (Tr.block ?_)))
  have leJ106 := Bs.Le.refl w
  refine Tr.zMx (σ := Bool) (fun w s => JL p0 p1 p2 zo s = some r) (fun s => [(2, iv p2), (3, pV QE), (4, pV Qw), (7, pV VN), (15, bV s)]) (fun s => [(1, bx QE #[iv p0.Unit, sL zC p0.Tools zD, sL zO p0.Steps zN] 25), (2, bx Qw #[iv p1.Kind, sv p1.Name, iv p1.At.X, iv p1.At.Y, sL zh p1.Points zg, iv p1.NX, iv p1.NY, sL Qc p1.Steps Qa] 46), (3, bx VN #[bV zo.name, bV zo.at_, bV zo.points, bV zo.repeat_] 149)]) ?_ ?_
  ·refine Tr.sr (Tr.va rfl (fun _ _ a c => zB zUN (a.ev rfl)) ?_)
   refine Tr.va rfl (fun _ _ a c => zF zM3 (a.ev rfl) (rdb c (vs := [bV zo.name, bV zo.at_, bV zo.points, bV zo.repeat_]) (k := 3) rfl 0) rfl) ?_
   refine Tr.va rfl (fun _ _ a c => Km (a.ev rfl)) ?_
   refine Tr.mv rfl rfl (Tr.Vr 4 [(2, iv p2), (3, pV QE), (4, pV Qw), (7, pV VN), (23, bV ((!zo.name) && (!sEq p1.Name ByteArray.empty)))] [(1, bx QE #[iv p0.Unit, sL zC p0.Tools zD, sL zO p0.Steps zN] 25), (2, bx Qw #[iv p1.Kind, sv p1.Name, iv p1.At.X, iv p1.At.Y, sL zh p1.Points zg, iv p1.NX, iv p1.NY, sL Qc p1.Steps Qa] 46), (3, bx VN #[bV zo.name, bV zo.at_, bV zo.points, bV zo.repeat_] 149)] ?_ ?_)
   ·cases Wt : (!zo.name)
    ·refine Tr.pass rfl rfl rfl rfl rfl (by decide) ?_
     refine Tr.pass rfl rfl rfl rfl rfl (by decide) ?_
     refine Tr.pass rfl rfl rfl rfl rfl (by decide) ?_
     refine Tr.va rfl (fun _ _ a c => zx (a.ev rfl) (a.ev rfl)) ?_
     exact Tr.nil (Tr.JM (.cons rfl (.cons rfl (.cons rfl (.cons rfl (.cons rfl .nil))))) (.cons rfl (.cons rfl (.cons rfl .nil))))
    ·refine Tr.val (wg rfl rfl rfl) rfl (fun _ _ a c => zB zJ4 (a.ev rfl)) ?_
     refine Tr.val (wg rfl rfl rfl) rfl (fun _ _ a c => zF zKy (a.ev rfl) (rdb c (vs := [iv p1.Kind, sv p1.Name, iv p1.At.X, iv p1.At.Y, sL zh p1.Points zg, iv p1.NX, iv p1.NY, sL Qc p1.Steps Qa]) (k := 2) rfl 1) rfl) ?_
     refine Tr.val (wg rfl rfl rfl) rfl (fun _ _ a c => zYz (a.ev rfl) (a.ev rfl)) ?_
     refine Tr.va rfl (fun _ _ a c => zw (a.ev rfl) (a.ev rfl)) ?_
     exact Tr.nil (Tr.JM (.cons rfl (.cons rfl (.cons rfl (.cons rfl (.cons rfl .nil))))) (.cons rfl (.cons rfl (.cons rfl .nil))))
   ·show Tr _ _ (LF [(2, iv p2), (3, pV QE), (4, pV Qw), (7, pV VN), (23, bV ((!zo.name) && (!sEq p1.Name ByteArray.empty)))]) (LE [(1, bx QE #[iv p0.Unit, sL zC p0.Tools zD, sL zO p0.Steps zN] 25), (2, bx Qw #[iv p1.Kind, sv p1.Name, iv p1.At.X, iv p1.At.Y, sL zh p1.Points zg, iv p1.NX, iv p1.NY, sL Qc p1.Steps Qa] 46), (3, bx VN #[bV zo.name, bV zo.at_, bV zo.points, bV zo.repeat_] 149)]) _
    refine Tr.asg rfl rfl (Tr.nil (Tr.zA (Tr.cond rfl H (fun H => ?_) (fun H => ?_))))
    ·exact Tr.skip (Tr.zn leJ106 ((!zo.name) && (!sEq p1.Name ByteArray.empty)) H (.cons rfl (.cons rfl (.cons rfl (.cons rfl (.cons rfl .nil))))) (.cons rfl (.cons rfl (.cons rfl .nil))))
    ·refine Tr.sr (Tr.va rfl (fun _ _ a c => zB zaf (a.ev rfl)) ?_)
     refine Tr.va rfl (fun _ _ a c => zF zM3 (a.ev rfl) (rdb c (vs := [bV zo.name, bV zo.at_, bV zo.points, bV zo.repeat_]) (k := 3) rfl 1) rfl) ?_
     refine Tr.va rfl (fun _ _ a c => Km (a.ev rfl)) ?_
     refine Tr.mv rfl rfl (Tr.Vr 5 [(2, iv p2), (3, pV QE), (4, pV Qw), (7, pV VN), (32, bV ((!zo.at_) && (!(zBg p1.At (zJ.mk 0 0)))))] [(1, bx QE #[iv p0.Unit, sL zC p0.Tools zD, sL zO p0.Steps zN] 25), (2, bx Qw #[iv p1.Kind, sv p1.Name, iv p1.At.X, iv p1.At.Y, sL zh p1.Points zg, iv p1.NX, iv p1.NY, sL Qc p1.Steps Qa] 46), (3, bx VN #[bV zo.name, bV zo.at_, bV zo.points, bV zo.repeat_] 149)] ?_ ?_)
     ·cases Wt : (!zo.at_)
      ·refine Tr.pass rfl rfl rfl rfl rfl (by decide) ?_
       refine Tr.pass rfl rfl rfl rfl rfl (by decide) ?_
       refine Tr.pass rfl rfl rfl rfl rfl (by decide) ?_
       refine Tr.pass rfl rfl rfl rfl rfl (by decide) ?_
       refine Tr.va rfl (fun _ _ a c => zx (a.ev rfl) (a.ev rfl)) ?_
       exact Tr.nil (Tr.JM (.cons rfl (.cons rfl (.cons rfl (.cons rfl (.cons rfl .nil))))) (.cons rfl (.cons rfl (.cons rfl .nil))))
      ·refine Tr.val (wg rfl rfl rfl) rfl (fun _ _ a c => zB zDh (a.ev rfl)) ?_
       refine Tr.val (wg rfl rfl rfl) rfl (fun _ _ a c => zZ (cs := [iv p1.At.X, iv p1.At.Y]) VP Js (a.ev rfl) (zR.take (rdb c (vs := [iv p1.Kind, sv p1.Name, iv p1.At.X, iv p1.At.Y, sL zh p1.Points zg, iv p1.NX, iv p1.NY, sL Qc p1.Steps Qa]) (k := 2) rfl 2) 2) rfl) ?_
       refine Tr.build (vs := []) (cs := [iv 0, iv 0]) (wg rfl rfl rfl) rfl Qi (by kernel_rfl) ?_
       refine Tr.val (wg rfl rfl rfl) rfl (fun _ _ a c => zVI p1.At (zJ.mk 0 0) (a.ev rfl) (a.ev rfl)) ?_
       refine Tr.va rfl (fun _ _ a c => zw (a.ev rfl) (a.ev rfl)) ?_
       exact Tr.nil (Tr.JM (.cons rfl (.cons rfl (.cons rfl (.cons rfl (.cons rfl .nil))))) (.cons rfl (.cons rfl (.cons rfl .nil))))
     ·show Tr _ _ (LF [(2, iv p2), (3, pV QE), (4, pV Qw), (7, pV VN), (32, bV ((!zo.at_) && (!(zBg p1.At (zJ.mk 0 0)))))]) (LE [(1, bx QE #[iv p0.Unit, sL zC p0.Tools zD, sL zO p0.Steps zN] 25), (2, bx Qw #[iv p1.Kind, sv p1.Name, iv p1.At.X, iv p1.At.Y, sL zh p1.Points zg, iv p1.NX, iv p1.NY, sL Qc p1.Steps Qa] 46), (3, bx VN #[bV zo.name, bV zo.at_, bV zo.points, bV zo.repeat_] 149)]) _
      refine Tr.asg rfl rfl (Tr.nil (Tr.zA (Tr.cond rfl H (fun H => ?_) (fun H => ?_))))
      ·exact Tr.skip (Tr.zn leJ106 ((!zo.at_) && (!(zBg p1.At (zJ.mk 0 0)))) H (.cons rfl (.cons rfl (.cons rfl (.cons rfl (.cons rfl .nil))))) (.cons rfl (.cons rfl (.cons rfl .nil))))
      ·refine Tr.sr (Tr.va rfl (fun _ _ a c => zB zUM (a.ev rfl)) ?_)
       refine Tr.va rfl (fun _ _ a c => zF zM3 (a.ev rfl) (rdb c (vs := [bV zo.name, bV zo.at_, bV zo.points, bV zo.repeat_]) (k := 3) rfl 2) rfl) ?_
       refine Tr.va rfl (fun _ _ a c => Km (a.ev rfl)) ?_
       refine Tr.mv rfl rfl (Tr.Vr 5 [(2, iv p2), (3, pV QE), (4, pV Qw), (7, pV VN), (41, bV ((!zo.points) && (decide (0 < (p1.Points.length : Int)))))] [(1, bx QE #[iv p0.Unit, sL zC p0.Tools zD, sL zO p0.Steps zN] 25), (2, bx Qw #[iv p1.Kind, sv p1.Name, iv p1.At.X, iv p1.At.Y, sL zh p1.Points zg, iv p1.NX, iv p1.NY, sL Qc p1.Steps Qa] 46), (3, bx VN #[bV zo.name, bV zo.at_, bV zo.points, bV zo.repeat_] 149)] ?_ ?_)
       ·cases Wt : (!zo.points)
        ·refine Tr.pass rfl rfl rfl rfl rfl (by decide) ?_
         refine Tr.pass rfl rfl rfl rfl rfl (by decide) ?_
         refine Tr.pass rfl rfl rfl rfl rfl (by decide) ?_
         refine Tr.pass rfl rfl rfl rfl rfl (by decide) ?_
         refine Tr.va rfl (fun _ _ a c => zx (a.ev rfl) (a.ev rfl)) ?_
         exact Tr.nil (Tr.JM (.cons rfl (.cons rfl (.cons rfl (.cons rfl (.cons rfl .nil))))) (.cons rfl (.cons rfl (.cons rfl .nil))))
        ·refine Tr.val (wg rfl rfl rfl) rfl (fun _ _ a c => zB zCW (a.ev rfl)) ?_
         refine Tr.val (wg rfl rfl rfl) rfl (fun _ _ a c => zF zIW (a.ev rfl) (rdb c (vs := [iv p1.Kind, sv p1.Name, iv p1.At.X, iv p1.At.Y, sL zh p1.Points zg, iv p1.NX, iv p1.NY, sL Qc p1.Steps Qa]) (k := 2) rfl 4) rfl) ?_
         refine Tr.val (wg rfl rfl rfl) rfl (fun _ _ a c => QJ zGU (a.ev rfl)) ?_
         refine Tr.val (wg rfl rfl rfl) rfl (fun _ _ a c => VY (a.ev rfl) (a.ev rfl)) ?_
         refine Tr.va rfl (fun _ _ a c => zw (a.ev rfl) (a.ev rfl)) ?_
         exact Tr.nil (Tr.JM (.cons rfl (.cons rfl (.cons rfl (.cons rfl (.cons rfl .nil))))) (.cons rfl (.cons rfl (.cons rfl .nil))))
       ·show Tr _ _ (LF [(2, iv p2), (3, pV QE), (4, pV Qw), (7, pV VN), (41, bV ((!zo.points) && (decide (0 < (p1.Points.length : Int)))))]) (LE [(1, bx QE #[iv p0.Unit, sL zC p0.Tools zD, sL zO p0.Steps zN] 25), (2, bx Qw #[iv p1.Kind, sv p1.Name, iv p1.At.X, iv p1.At.Y, sL zh p1.Points zg, iv p1.NX, iv p1.NY, sL Qc p1.Steps Qa] 46), (3, bx VN #[bV zo.name, bV zo.at_, bV zo.points, bV zo.repeat_] 149)]) _
        refine Tr.asg rfl rfl (Tr.nil (Tr.zA (Tr.cond rfl H (fun H => ?_) (fun H => ?_))))
        ·exact Tr.skip (Tr.zn leJ106 ((!zo.points) && (decide (0 < (p1.Points.length : Int)))) H (.cons rfl (.cons rfl (.cons rfl (.cons rfl (.cons rfl .nil))))) (.cons rfl (.cons rfl (.cons rfl .nil))))
        ·refine Tr.region (Tr.va rfl (fun _ _ a c => zB zUL (a.ev rfl)) ?_)
         refine Tr.va rfl (fun _ _ a c => zF zM3 (a.ev rfl) (rdb c (vs := [bV zo.name, bV zo.at_, bV zo.points, bV zo.repeat_]) (k := 3) rfl 3) rfl) ?_
         refine Tr.va rfl (fun _ _ a c => Km (a.ev rfl)) ?_
         refine Tr.mv rfl rfl (Tr.Vr 15 [(2, iv p2), (3, pV QE), (4, pV Qw), (7, pV VN), (60, bV ((!zo.repeat_) && (((p1.NX != 0) || (p1.NY != 0)) || (decide (0 < (p1.Steps.length : Int))))))] [(1, bx QE #[iv p0.Unit, sL zC p0.Tools zD, sL zO p0.Steps zN] 25), (2, bx Qw #[iv p1.Kind, sv p1.Name, iv p1.At.X, iv p1.At.Y, sL zh p1.Points zg, iv p1.NX, iv p1.NY, sL Qc p1.Steps Qa] 46), (3, bx VN #[bV zo.name, bV zo.at_, bV zo.points, bV zo.repeat_] 149)] ?_ ?_)
         ·cases Wt : (!zo.repeat_)
          ·refine Tr.pass rfl rfl rfl rfl rfl (by decide) ?_
           refine Tr.pass rfl rfl rfl rfl rfl (by decide) ?_
           refine Tr.pass rfl rfl rfl rfl rfl (by decide) ?_
           refine Tr.pass rfl rfl rfl rfl rfl (by decide) ?_
           refine Tr.VL rfl rfl rfl rfl (by decide) ?_
           refine Tr.VL rfl rfl rfl rfl (by decide) ?_
           refine Tr.VL rfl rfl rfl rfl (by decide) ?_
           refine Tr.pass rfl rfl rfl rfl rfl (by decide) ?_
           refine Tr.pass rfl rfl rfl rfl rfl (by decide) ?_
           refine Tr.VL rfl rfl rfl rfl (by decide) ?_
           refine Tr.VL rfl rfl rfl rfl (by decide) ?_
           refine Tr.VL rfl rfl rfl rfl (by decide) ?_
           refine Tr.VL rfl rfl rfl rfl (by decide) ?_
           refine Tr.pass rfl rfl rfl rfl rfl (by decide) ?_
           refine Tr.va rfl (fun _ _ a c => zx (a.ev rfl) (a.ev rfl)) ?_
           exact Tr.nil (Tr.JM (.cons rfl (.cons rfl (.cons rfl (.cons rfl (.cons rfl .nil))))) (.cons rfl (.cons rfl (.cons rfl .nil))))
          ·refine Tr.val (wg rfl rfl rfl) rfl (fun _ _ a c => zB zLg (a.ev rfl)) ?_
           refine Tr.val (wg rfl rfl rfl) rfl (fun _ _ a c => zF QH (a.ev rfl) (rdb c (vs := [iv p1.Kind, sv p1.Name, iv p1.At.X, iv p1.At.Y, sL zh p1.Points zg, iv p1.NX, iv p1.NY, sL Qc p1.Steps Qa]) (k := 2) rfl 5) rfl) ?_
           refine Tr.val (wg rfl rfl rfl) rfl (fun _ _ a c => KY (a.ev rfl) (a.ev rfl)) ?_
           refine Tr.val (wg rfl rfl rfl) rfl (fun _ _ a c => run_move (a.ev rfl)) ?_
           refine Tr.Vr 4 [(2, iv p2), (3, pV QE), (4, pV Qw), (7, pV VN), (45, bV true), (53, bV ((p1.NX != 0) || (p1.NY != 0)))] [(1, bx QE #[iv p0.Unit, sL zC p0.Tools zD, sL zO p0.Steps zN] 25), (2, bx Qw #[iv p1.Kind, sv p1.Name, iv p1.At.X, iv p1.At.Y, sL zh p1.Points zg, iv p1.NX, iv p1.NY, sL Qc p1.Steps Qa] 46), (3, bx VN #[bV zo.name, bV zo.at_, bV zo.points, bV zo.repeat_] 149)] ?_ ?_
           ·cases Wt : (p1.NX != 0)
            ·refine Tr.val (wg rfl rfl rfl) rfl (fun _ _ a c => zB zLf (a.ev rfl)) ?_
             refine Tr.val (wg rfl rfl rfl) rfl (fun _ _ a c => zF QH (a.ev rfl) (rdb c (vs := [iv p1.Kind, sv p1.Name, iv p1.At.X, iv p1.At.Y, sL zh p1.Points zg, iv p1.NX, iv p1.NY, sL Qc p1.Steps Qa]) (k := 2) rfl 6) rfl) ?_
             refine Tr.val (wg rfl rfl rfl) rfl (fun _ _ a c => KY (a.ev rfl) (a.ev rfl)) ?_
             refine Tr.val (wg rfl rfl rfl) rfl (fun _ _ a c => zx (a.ev rfl) (a.ev rfl)) ?_
             exact Tr.nil (Tr.JM (.cons rfl (.cons rfl (.cons rfl (.cons rfl (.cons rfl (.cons rfl .nil)))))) (.cons rfl (.cons rfl (.cons rfl .nil))))
            ·refine Tr.pass rfl rfl rfl rfl rfl (by decide) ?_
             refine Tr.pass rfl rfl rfl rfl rfl (by decide) ?_
             refine Tr.pass rfl rfl rfl rfl rfl (by decide) ?_
             refine Tr.val (wg rfl rfl rfl) rfl (fun _ _ a c => zw (a.ev rfl) (a.ev rfl)) ?_
             exact Tr.nil (Tr.JM (.cons rfl (.cons rfl (.cons rfl (.cons rfl (.cons rfl (.cons rfl .nil)))))) (.cons rfl (.cons rfl (.cons rfl .nil))))
           ·show Tr _ _ (LF [(2, iv p2), (3, pV QE), (4, pV Qw), (7, pV VN), (45, bV true), (53, bV ((p1.NX != 0) || (p1.NY != 0)))]) (LE [(1, bx QE #[iv p0.Unit, sL zC p0.Tools zD, sL zO p0.Steps zN] 25), (2, bx Qw #[iv p1.Kind, sv p1.Name, iv p1.At.X, iv p1.At.Y, sL zh p1.Points zg, iv p1.NX, iv p1.NY, sL Qc p1.Steps Qa] 46), (3, bx VN #[bV zo.name, bV zo.at_, bV zo.points, bV zo.repeat_] 149)]) _
            refine Tr.val (wg rfl rfl rfl) rfl (fun _ _ a c => run_move (a.ev rfl)) ?_
            refine Tr.Vr 5 [(2, iv p2), (3, pV QE), (4, pV Qw), (7, pV VN), (45, bV true), (59, bV (((p1.NX != 0) || (p1.NY != 0)) || (decide (0 < (p1.Steps.length : Int)))))] [(1, bx QE #[iv p0.Unit, sL zC p0.Tools zD, sL zO p0.Steps zN] 25), (2, bx Qw #[iv p1.Kind, sv p1.Name, iv p1.At.X, iv p1.At.Y, sL zh p1.Points zg, iv p1.NX, iv p1.NY, sL Qc p1.Steps Qa] 46), (3, bx VN #[bV zo.name, bV zo.at_, bV zo.points, bV zo.repeat_] 149)] ?_ ?_
            ·cases Wt : ((p1.NX != 0) || (p1.NY != 0))
             ·refine Tr.val (wg rfl rfl rfl) rfl (fun _ _ a c => zB zC4 (a.ev rfl)) ?_
              refine Tr.val (wg rfl rfl rfl) rfl (fun _ _ a c => zF zDp (a.ev rfl) (rdb c (vs := [iv p1.Kind, sv p1.Name, iv p1.At.X, iv p1.At.Y, sL zh p1.Points zg, iv p1.NX, iv p1.NY, sL Qc p1.Steps Qa]) (k := 2) rfl 7) rfl) ?_
              refine Tr.val (wg rfl rfl rfl) rfl (fun _ _ a c => QJ zGV (a.ev rfl)) ?_
              refine Tr.val (wg rfl rfl rfl) rfl (fun _ _ a c => VY (a.ev rfl) (a.ev rfl)) ?_
              refine Tr.val (wg rfl rfl rfl) rfl (fun _ _ a c => zx (a.ev rfl) (a.ev rfl)) ?_
              exact Tr.nil (Tr.JM (.cons rfl (.cons rfl (.cons rfl (.cons rfl (.cons rfl (.cons rfl .nil)))))) (.cons rfl (.cons rfl (.cons rfl .nil))))
             ·refine Tr.pass rfl rfl rfl rfl rfl (by decide) ?_
              refine Tr.pass rfl rfl rfl rfl rfl (by decide) ?_
              refine Tr.pass rfl rfl rfl rfl rfl (by decide) ?_
              refine Tr.pass rfl rfl rfl rfl rfl (by decide) ?_
              refine Tr.val (wg rfl rfl rfl) rfl (fun _ _ a c => zw (a.ev rfl) (a.ev rfl)) ?_
              exact Tr.nil (Tr.JM (.cons rfl (.cons rfl (.cons rfl (.cons rfl (.cons rfl (.cons rfl .nil)))))) (.cons rfl (.cons rfl (.cons rfl .nil))))
            ·show Tr _ _ (LF [(2, iv p2), (3, pV QE), (4, pV Qw), (7, pV VN), (45, bV true), (59, bV (((p1.NX != 0) || (p1.NY != 0)) || (decide (0 < (p1.Steps.length : Int)))))]) (LE [(1, bx QE #[iv p0.Unit, sL zC p0.Tools zD, sL zO p0.Steps zN] 25), (2, bx Qw #[iv p1.Kind, sv p1.Name, iv p1.At.X, iv p1.At.Y, sL zh p1.Points zg, iv p1.NX, iv p1.NY, sL Qc p1.Steps Qa] 46), (3, bx VN #[bV zo.name, bV zo.at_, bV zo.points, bV zo.repeat_] 149)]) _
             refine Tr.va rfl (fun _ _ a c => zw (a.ev rfl) (a.ev rfl)) ?_
             exact Tr.nil (Tr.JM (.cons rfl (.cons rfl (.cons rfl (.cons rfl (.cons rfl .nil))))) (.cons rfl (.cons rfl (.cons rfl .nil))))
         ·show Tr _ _ (LF [(2, iv p2), (3, pV QE), (4, pV Qw), (7, pV VN), (60, bV ((!zo.repeat_) && (((p1.NX != 0) || (p1.NY != 0)) || (decide (0 < (p1.Steps.length : Int))))))]) (LE [(1, bx QE #[iv p0.Unit, sL zC p0.Tools zD, sL zO p0.Steps zN] 25), (2, bx Qw #[iv p1.Kind, sv p1.Name, iv p1.At.X, iv p1.At.Y, sL zh p1.Points zg, iv p1.NX, iv p1.NY, sL Qc p1.Steps Qa] 46), (3, bx VN #[bV zo.name, bV zo.at_, bV zo.points, bV zo.repeat_] 149)]) _
          exact Tr.asg rfl rfl (Tr.nil (Tr.zn leJ106 ((!zo.repeat_) && (((p1.NX != 0) || (p1.NY != 0)) || (decide (0 < (p1.Steps.length : Int))))) H (.cons rfl (.cons rfl (.cons rfl (.cons rfl (.cons rfl .nil))))) (.cons rfl (.cons rfl (.cons rfl .nil)))))
  ·intro w x105 hlJ107 hs
   have H := hs
   replace H : JL p0 p1 p2 zo x105 = some r := H
   replace zU := zU.leR hlJ107
   replace Qe := Qe.leR hlJ107
   replace Qh := Qh.leR hlJ107
   replace leB := leB.trans hlJ107
   unfold JL at H
   show Tr _ _ (LF [(2, iv p2), (3, pV QE), (4, pV Qw), (7, pV VN), (15, bV x105)]) (LE [(1, bx QE #[iv p0.Unit, sL zC p0.Tools zD, sL zO p0.Steps zN] 25), (2, bx Qw #[iv p1.Kind, sv p1.Name, iv p1.At.X, iv p1.At.Y, sL zh p1.Points zg, iv p1.NX, iv p1.NY, sL Qc p1.Steps Qa] 46), (3, bx VN #[bV zo.name, bV zo.at_, bV zo.points, bV zo.repeat_] 149)]) _
   refine Tr.cond rfl H (fun H => ?_) (fun H => ?_)
   ·refine Tr.sr (Tr.asg rfl rfl (Tr.nil (Tr.zA (Tr.ret (Tr.QT (Tr.zi ?_))))))
    obtain rfl := oI H
    exact Tr.out (m := [iv 3]) [] (zW rfl zX) (fun W hW => ⟨rfl, hW.low leB⟩)
   ·refine Tr.sr (Tr.va rfl (fun _ _ a c => zB zUN (a.ev rfl)) ?_)
    refine Tr.va rfl (fun _ _ a c => zF zM3 (a.ev rfl) (rdb c (vs := [bV zo.name, bV zo.at_, bV zo.points, bV zo.repeat_]) (k := 3) rfl 0) rfl) ?_
    refine Tr.mv rfl rfl ?_
    obtain ⟨zQX, zHO, H⟩ := bnd H
    refine Tr.Vr 6 [(2, iv p2), (3, pV QE), (4, pV Qw), (7, pV VN), (70, bV zQX)] [(1, bx QE #[iv p0.Unit, sL zC p0.Tools zD, sL zO p0.Steps zN] 25), (2, bx Qw #[iv p1.Kind, sv p1.Name, iv p1.At.X, iv p1.At.Y, sL zh p1.Points zg, iv p1.NX, iv p1.NY, sL Qc p1.Steps Qa] 46), (3, bx VN #[bV zo.name, bV zo.at_, bV zo.points, bV zo.repeat_] 149)] ?_ ?_
    ·cases Wt : zo.name
     ·rw [Wt] at zHO
      rw [if_neg (by decide)] at zHO
      have H := zHO
      obtain rfl := oI H
      refine Tr.pass rfl rfl rfl rfl rfl (by decide) ?_
      refine Tr.pass rfl rfl rfl rfl rfl (by decide) ?_
      refine Tr.pass rfl rfl rfl rfl rfl (by decide) ?_
      refine Tr.pass rfl rfl rfl rfl rfl (by decide) ?_
      refine Tr.pass rfl rfl rfl rfl rfl (by decide) ?_
      refine Tr.va rfl (fun _ _ a c => zx (a.ev rfl) (a.ev rfl)) ?_
      exact Tr.nil (Tr.JM (.cons rfl (.cons rfl (.cons rfl (.cons rfl (.cons rfl .nil))))) (.cons rfl (.cons rfl (.cons rfl .nil))))
     ·rw [Wt] at zHO
      rw [if_pos rfl] at zHO
      have H := zHO
      refine Tr.val (wg rfl rfl rfl) rfl (fun _ _ a c => zZ (cs := [iv p0.Unit, sL zC p0.Tools zD, sL zO p0.Steps zN]) WU VD (a.ev rfl) (zR.take (rdb c (vs := [iv p0.Unit, sL zC p0.Tools zD, sL zO p0.Steps zN]) (k := 1) rfl 0) 3) rfl) ?_
      refine Tr.val (wg rfl rfl rfl) rfl (fun _ _ a c => zB zJ4 (a.ev rfl)) ?_
      refine Tr.val (wg rfl rfl rfl) rfl (fun _ _ a c => zF zKy (a.ev rfl) (rdb c (vs := [iv p1.Kind, sv p1.Name, iv p1.At.X, iv p1.At.Y, sL zh p1.Points zg, iv p1.NX, iv p1.NY, sL Qc p1.Steps Qa]) (k := 2) rfl 1) rfl) ?_
      obtain ⟨zAc, zI7, H⟩ := bnd H
      refine Tr.JI (r := (iv zAc)) (wg rfl rfl rfl) rfl Tryz.call96 (zI rfl (zI rfl zT)) (fun W hW => zHY p0 zC zD (zU.ext hW.Qx) zO zN (Qe.ext hW.Qx) p1.Name zAc zI7 (HF.start _)) ?_
      refine Tr.val (wg rfl rfl rfl) rfl (fun _ _ a c => QI (a.ev rfl) (a.ev rfl)) ?_
      refine Tr.va rfl (fun _ _ a c => zw (a.ev rfl) (a.ev rfl)) ?_
      obtain rfl := oI H
      exact Tr.nil (Tr.JM (.cons rfl (.cons rfl (.cons rfl (.cons rfl (.cons rfl .nil))))) (.cons rfl (.cons rfl (.cons rfl .nil))))
    ·show Tr _ _ (LF [(2, iv p2), (3, pV QE), (4, pV Qw), (7, pV VN), (70, bV zQX)]) (LE [(1, bx QE #[iv p0.Unit, sL zC p0.Tools zD, sL zO p0.Steps zN] 25), (2, bx Qw #[iv p1.Kind, sv p1.Name, iv p1.At.X, iv p1.At.Y, sL zh p1.Points zg, iv p1.NX, iv p1.NY, sL Qc p1.Steps Qa] 46), (3, bx VN #[bV zo.name, bV zo.at_, bV zo.points, bV zo.repeat_] 149)]) _
     refine Tr.asg rfl rfl (Tr.nil (Tr.zA (Tr.cond rfl H (fun H => ?_) (fun H => ?_))))
     ·refine Tr.sr (Tr.asg rfl rfl (Tr.nil (Tr.zA (Tr.ret (Tr.QT (Tr.zi ?_))))))
      obtain rfl := oI H
      exact Tr.out (m := [iv 5]) [] (zW rfl zX) (fun W hW => ⟨rfl, hW.low leB⟩)
     ·refine Tr.sr (Tr.va rfl (fun _ _ a c => zB zDh (a.ev rfl)) ?_)
      refine Tr.va rfl (fun _ _ a c => zZ (cs := [iv p1.At.X, iv p1.At.Y]) VP Js (a.ev rfl) (zR.take (rdb c (vs := [iv p1.Kind, sv p1.Name, iv p1.At.X, iv p1.At.Y, sL zh p1.Points zg, iv p1.NX, iv p1.NY, sL Qc p1.Steps Qa]) (k := 2) rfl 2) 2) rfl) ?_
      refine Tr.va rfl (fun _ _ a c => zB WS (a.ev rfl)) ?_
      refine Tr.va rfl (fun _ _ a c => zF QH (a.ev rfl) (rdb c (vs := [iv p0.Unit, sL zC p0.Tools zD, sL zO p0.Steps zN]) (k := 1) rfl 0) rfl) ?_
      obtain ⟨zFK, zTy, H⟩ := bnd H
      refine Tr.JI (r := (bV zFK)) (wn rfl) rfl Tryz.call97 (zI rfl (zI rfl zT)) (fun W hW => zGq p1.At p0.Unit zFK zTy (HF.start _)) ?_
      refine Tr.va rfl (fun _ _ a c => Km (a.ev rfl)) ?_
      refine Tr.mv rfl rfl ?_
      obtain ⟨zNi, zHN, H⟩ := bnd H
      refine Tr.Vr 5 [(2, iv p2), (4, pV Qw), (7, pV VN), (83, bV zNi)] [(1, bx QE #[iv p0.Unit, sL zC p0.Tools zD, sL zO p0.Steps zN] 25), (2, bx Qw #[iv p1.Kind, sv p1.Name, iv p1.At.X, iv p1.At.Y, sL zh p1.Points zg, iv p1.NX, iv p1.NY, sL Qc p1.Steps Qa] 46), (3, bx VN #[bV zo.name, bV zo.at_, bV zo.points, bV zo.repeat_] 149)] ?_ ?_
      ·cases Wt : (!zFK)
       ·rw [Wt] at zHN
        rw [if_neg (by decide)] at zHN
        have H := zHN
        refine Tr.val (wg rfl rfl rfl) rfl (fun _ _ a c => zB zCW (a.ev rfl)) ?_
        refine Tr.val (wg rfl rfl rfl) rfl (fun _ _ a c => zF zIW (a.ev rfl) (rdb c (vs := [iv p1.Kind, sv p1.Name, iv p1.At.X, iv p1.At.Y, sL zh p1.Points zg, iv p1.NX, iv p1.NY, sL Qc p1.Steps Qa]) (k := 2) rfl 4) rfl) ?_
        refine Tr.zE5 (vs := [pV QE]) (wg rfl rfl rfl) rfl (zI rfl zT) ?_
        obtain ⟨y114, hy114, H⟩ := bnd H
        refine Tr.JI (r := (bV y114)) (wg rfl rfl rfl) rfl Tryz.call98 (zI rfl (zI rfl zT)) (fun W hW => zBH p1.Points zh zg (Qh.ext hW.Qx) (fun z0 => Ky z0 p0) 99 [pV QE] Tryz.call99 (fun w' he z0 y hy => zIm z0 p0 zC zD (zU.ext (hW.Qx.trans he)) zO zN (Qe.ext (hW.Qx.trans he)) QE (he.r _ (hW.za0 (k := 1) rfl)) (he.cells (hW.za0 (k := 1) rfl) (hW.zcn (k := 1) rfl)) y hy (HF.start _)) y114 hy114 (HF.start _)) ?_
        refine Tr.va rfl (fun _ _ a c => zx (a.ev rfl) (a.ev rfl)) ?_
        obtain rfl := oI H
        exact Tr.nil (Tr.JM (.cons rfl (.cons rfl (.cons rfl (.cons rfl .nil)))) (.cons rfl (.cons rfl (.cons rfl .nil))))
       ·rw [Wt] at zHN
        rw [if_pos rfl] at zHN
        have H := zHN
        obtain rfl := oI H
        refine Tr.pass rfl rfl rfl rfl rfl (by decide) ?_
        refine Tr.pass rfl rfl rfl rfl rfl (by decide) ?_
        refine Tr.pass rfl rfl rfl rfl rfl (by decide) ?_
        refine Tr.pass rfl rfl rfl rfl rfl (by decide) ?_
        refine Tr.va rfl (fun _ _ a c => zw (a.ev rfl) (a.ev rfl)) ?_
        exact Tr.nil (Tr.JM (.cons rfl (.cons rfl (.cons rfl (.cons rfl .nil)))) (.cons rfl (.cons rfl (.cons rfl .nil))))
      ·show Tr _ _ (LF [(2, iv p2), (4, pV Qw), (7, pV VN), (83, bV zNi)]) (LE [(1, bx QE #[iv p0.Unit, sL zC p0.Tools zD, sL zO p0.Steps zN] 25), (2, bx Qw #[iv p1.Kind, sv p1.Name, iv p1.At.X, iv p1.At.Y, sL zh p1.Points zg, iv p1.NX, iv p1.NY, sL Qc p1.Steps Qa] 46), (3, bx VN #[bV zo.name, bV zo.at_, bV zo.points, bV zo.repeat_] 149)]) _
       refine Tr.asg rfl rfl (Tr.nil (Tr.zA (Tr.cond rfl H (fun H => ?_) (fun H => ?_))))
       ·refine Tr.sr (Tr.asg rfl rfl (Tr.nil (Tr.zA (Tr.ret (Tr.QT (Tr.zi ?_))))))
        obtain rfl := oI H
        exact Tr.out (m := [iv 1]) [] (zW rfl zX) (fun W hW => ⟨rfl, hW.low leB⟩)
       ·refine Tr.sr (Tr.va rfl (fun _ _ a c => zB zCW (a.ev rfl)) ?_)
        refine Tr.va rfl (fun _ _ a c => zF zIW (a.ev rfl) (rdb c (vs := [iv p1.Kind, sv p1.Name, iv p1.At.X, iv p1.At.Y, sL zh p1.Points zg, iv p1.NX, iv p1.NY, sL Qc p1.Steps Qa]) (k := 2) rfl 4) rfl) ?_
        refine Tr.va rfl (fun _ _ a c => QJ zGU (a.ev rfl)) ?_
        refine Tr.va rfl (fun _ _ a c => VY (a.ev rfl) (a.ev rfl)) ?_
        refine Tr.asg rfl rfl (Tr.nil (Tr.zA (Tr.cond rfl H (fun H => ?_) (fun H => ?_))))
        ·refine Tr.sr (Tr.asg rfl rfl (Tr.nil (Tr.zA (Tr.ret (Tr.QT (Tr.zi ?_))))))
         obtain rfl := oI H
         exact Tr.out (m := [iv 2]) [] (zW rfl zX) (fun W hW => ⟨rfl, hW.low leB⟩)
        ·refine Tr.sr (Tr.va rfl (fun _ _ a c => zB zUM (a.ev rfl)) ?_)
         refine Tr.va rfl (fun _ _ a c => zF zM3 (a.ev rfl) (rdb c (vs := [bV zo.name, bV zo.at_, bV zo.points, bV zo.repeat_]) (k := 3) rfl 2) rfl) ?_
         refine Tr.mv rfl rfl ?_
         obtain ⟨zcd, zRE, H⟩ := bnd H
         refine Tr.Vr 5 [(2, iv p2), (4, pV Qw), (7, pV VN), (97, bV zcd)] [(1, bx QE #[iv p0.Unit, sL zC p0.Tools zD, sL zO p0.Steps zN] 25), (2, bx Qw #[iv p1.Kind, sv p1.Name, iv p1.At.X, iv p1.At.Y, sL zh p1.Points zg, iv p1.NX, iv p1.NY, sL Qc p1.Steps Qa] 46), (3, bx VN #[bV zo.name, bV zo.at_, bV zo.points, bV zo.repeat_] 149)] ?_ ?_
         ·cases Wt : zo.points
          ·rw [Wt] at zRE
           rw [if_neg (by decide)] at zRE
           have H := zRE
           obtain rfl := oI H
           refine Tr.pass rfl rfl rfl rfl rfl (by decide) ?_
           refine Tr.pass rfl rfl rfl rfl rfl (by decide) ?_
           refine Tr.pass rfl rfl rfl rfl rfl (by decide) ?_
           refine Tr.pass rfl rfl rfl rfl rfl (by decide) ?_
           refine Tr.va rfl (fun _ _ a c => zx (a.ev rfl) (a.ev rfl)) ?_
           exact Tr.nil (Tr.JM (.cons rfl (.cons rfl (.cons rfl (.cons rfl .nil)))) (.cons rfl (.cons rfl (.cons rfl .nil))))
          ·rw [Wt] at zRE
           rw [if_pos rfl] at zRE
           have H := zRE
           refine Tr.val (wg rfl rfl rfl) rfl (fun _ _ a c => zB zCW (a.ev rfl)) ?_
           refine Tr.val (wg rfl rfl rfl) rfl (fun _ _ a c => zF zIW (a.ev rfl) (rdb c (vs := [iv p1.Kind, sv p1.Name, iv p1.At.X, iv p1.At.Y, sL zh p1.Points zg, iv p1.NX, iv p1.NY, sL Qc p1.Steps Qa]) (k := 2) rfl 4) rfl) ?_
           obtain ⟨zB5, zZk, H⟩ := bnd H
           refine Tr.JI (r := (bV zB5)) (wg rfl rfl rfl) rfl Tryz.call100 (zI rfl zT) (fun W hW => zM7 p1.Points zh zg (Qh.ext hW.Qx) zB5 zZk (HF.start _)) ?_
           refine Tr.val (wg rfl rfl rfl) rfl (fun _ _ a c => Km (a.ev rfl)) ?_
           refine Tr.va rfl (fun _ _ a c => zw (a.ev rfl) (a.ev rfl)) ?_
           obtain rfl := oI H
           exact Tr.nil (Tr.JM (.cons rfl (.cons rfl (.cons rfl (.cons rfl .nil)))) (.cons rfl (.cons rfl (.cons rfl .nil))))
         ·show Tr _ _ (LF [(2, iv p2), (4, pV Qw), (7, pV VN), (97, bV zcd)]) (LE [(1, bx QE #[iv p0.Unit, sL zC p0.Tools zD, sL zO p0.Steps zN] 25), (2, bx Qw #[iv p1.Kind, sv p1.Name, iv p1.At.X, iv p1.At.Y, sL zh p1.Points zg, iv p1.NX, iv p1.NY, sL Qc p1.Steps Qa] 46), (3, bx VN #[bV zo.name, bV zo.at_, bV zo.points, bV zo.repeat_] 149)]) _
          refine Tr.asg rfl rfl (Tr.nil (Tr.zA (Tr.cond rfl H (fun H => ?_) (fun H => ?_))))
          ·refine Tr.sr (Tr.asg rfl rfl (Tr.nil (Tr.zA (Tr.ret (Tr.QT (Tr.zi ?_))))))
           obtain rfl := oI H
           exact Tr.out (m := [iv 3]) [] (zW rfl zX) (fun W hW => ⟨rfl, hW.low leB⟩)
          ·refine Tr.skip (Tr.zl (Tr.zA (Tr.seq (Tr.sr (Tr.va rfl (fun _ _ a c => zB zUL (a.ev rfl)) ?_)))))
           refine Tr.va rfl (fun _ _ a c => zF zM3 (a.ev rfl) (rdb c (vs := [bV zo.name, bV zo.at_, bV zo.points, bV zo.repeat_]) (k := 3) rfl 3) rfl) ?_
           refine Tr.va rfl (fun _ _ a c => Km (a.ev rfl)) ?_
           refine Tr.nil (Tr.zA (Tr.cond rfl H (fun H => ?_) (fun H => ?_)))
           ·refine Tr.sr (Tr.asg rfl rfl (Tr.nil (Tr.zA (Tr.ret (Tr.zi ?_)))))
            obtain rfl := oI H
            exact Tr.out (m := [iv 0]) [] (zW rfl zX) (fun W hW => ⟨rfl, hW.low leB⟩)
           ·refine Tr.skip (Tr.zA (Tr.seq (Tr.block (Tr.sr (Tr.va rfl (fun _ _ a c => zB zLg (a.ev rfl)) ?_)))))
            refine Tr.va rfl (fun _ _ a c => zF QH (a.ev rfl) (rdb c (vs := [iv p1.Kind, sv p1.Name, iv p1.At.X, iv p1.At.Y, sL zh p1.Points zg, iv p1.NX, iv p1.NY, sL Qc p1.Steps Qa]) (k := 2) rfl 5) rfl) ?_
            obtain ⟨zYS, zjD, H⟩ := bnd H
            refine Tr.JI (r := (bV zYS)) (wn rfl) rfl Tryz.call22 (zI rfl (zI rfl (zI rfl zT))) (fun W hW => zAM p1.NX 1 100 zYS zjD (HF.start _)) ?_
            refine Tr.va rfl (fun _ _ a c => Km (a.ev rfl)) ?_
            refine Tr.mv rfl rfl ?_
            obtain ⟨zQW, zHM, H⟩ := bnd H
            refine Tr.Vr 5 [(2, iv p2), (4, pV Qw), (111, bV zQW)] [(1, bx QE #[iv p0.Unit, sL zC p0.Tools zD, sL zO p0.Steps zN] 25), (2, bx Qw #[iv p1.Kind, sv p1.Name, iv p1.At.X, iv p1.At.Y, sL zh p1.Points zg, iv p1.NX, iv p1.NY, sL Qc p1.Steps Qa] 46), (3, bx VN #[bV zo.name, bV zo.at_, bV zo.points, bV zo.repeat_] 149)] ?_ ?_
            ·cases Wt : (!zYS)
             ·rw [Wt] at zHM
              rw [if_neg (by decide)] at zHM
              have H := zHM
              refine Tr.val (wg rfl rfl rfl) rfl (fun _ _ a c => zB zLf (a.ev rfl)) ?_
              refine Tr.val (wg rfl rfl rfl) rfl (fun _ _ a c => zF QH (a.ev rfl) (rdb c (vs := [iv p1.Kind, sv p1.Name, iv p1.At.X, iv p1.At.Y, sL zh p1.Points zg, iv p1.NX, iv p1.NY, sL Qc p1.Steps Qa]) (k := 2) rfl 6) rfl) ?_
              obtain ⟨zGN, zTw, H⟩ := bnd H
              refine Tr.JI (r := (bV zGN)) (wg rfl rfl rfl) rfl Tryz.call22 (zI rfl (zI rfl (zI rfl zT))) (fun W hW => zAM p1.NY 1 100 zGN zTw (HF.start _)) ?_
              refine Tr.val (wg rfl rfl rfl) rfl (fun _ _ a c => Km (a.ev rfl)) ?_
              refine Tr.va rfl (fun _ _ a c => zx (a.ev rfl) (a.ev rfl)) ?_
              obtain rfl := oI H
              exact Tr.nil (Tr.JM (.cons rfl (.cons rfl (.cons rfl .nil))) (.cons rfl (.cons rfl (.cons rfl .nil))))
             ·rw [Wt] at zHM
              rw [if_pos rfl] at zHM
              have H := zHM
              obtain rfl := oI H
              refine Tr.pass rfl rfl rfl rfl rfl (by decide) ?_
              refine Tr.pass rfl rfl rfl rfl rfl (by decide) ?_
              refine Tr.pass rfl rfl rfl rfl rfl (by decide) ?_
              refine Tr.pass rfl rfl rfl rfl rfl (by decide) ?_
              refine Tr.va rfl (fun _ _ a c => zw (a.ev rfl) (a.ev rfl)) ?_
              exact Tr.nil (Tr.JM (.cons rfl (.cons rfl (.cons rfl .nil))) (.cons rfl (.cons rfl (.cons rfl .nil))))
            ·show Tr _ _ (LF [(2, iv p2), (4, pV Qw), (111, bV zQW)]) (LE [(1, bx QE #[iv p0.Unit, sL zC p0.Tools zD, sL zO p0.Steps zN] 25), (2, bx Qw #[iv p1.Kind, sv p1.Name, iv p1.At.X, iv p1.At.Y, sL zh p1.Points zg, iv p1.NX, iv p1.NY, sL Qc p1.Steps Qa] 46), (3, bx VN #[bV zo.name, bV zo.at_, bV zo.points, bV zo.repeat_] 149)]) _
             refine Tr.asg rfl rfl (Tr.nil (Tr.zA (Tr.cond rfl H (fun H => ?_) (fun H => ?_))))
             ·refine Tr.sr (Tr.asg rfl rfl (Tr.nil (Tr.zA (Tr.ret (Tr.QT (Tr.zi ?_))))))
              obtain rfl := oI H
              exact Tr.out (m := [iv 1]) [] (zW rfl zX) (fun W hW => ⟨rfl, hW.low leB⟩)
             ·refine Tr.sr (Tr.va rfl (fun _ _ a c => zB zC4 (a.ev rfl)) ?_)
              refine Tr.va rfl (fun _ _ a c => zF zDp (a.ev rfl) (rdb c (vs := [iv p1.Kind, sv p1.Name, iv p1.At.X, iv p1.At.Y, sL zh p1.Points zg, iv p1.NX, iv p1.NY, sL Qc p1.Steps Qa]) (k := 2) rfl 7) rfl) ?_
              refine Tr.va rfl (fun _ _ a c => QJ zGV (a.ev rfl)) ?_
              refine Tr.va rfl (fun _ _ a c => Qn (a.ev rfl) (a.ev rfl)) ?_
              refine Tr.asg rfl rfl (Tr.nil (Tr.zA (Tr.cond rfl H (fun H => ?_) (fun H => ?_))))
              ·refine Tr.sr (Tr.asg rfl rfl (Tr.nil (Tr.zA (Tr.ret (Tr.QT (Tr.zi ?_))))))
               obtain rfl := oI H
               exact Tr.out (m := [iv 9]) [] (zW rfl zX) (fun W hW => ⟨rfl, hW.low leB⟩)
              ·refine Tr.sr (Tr.mv rfl rfl (Tr.va rfl (fun _ _ a c => zFN (a.ev rfl) (a.ev rfl)) ?_))
               refine Tr.asg rfl rfl (Tr.nil (Tr.zA (Tr.cond rfl H (fun H => ?_) (fun H => ?_))))
               ·refine Tr.sr (Tr.asg rfl rfl (Tr.nil (Tr.zA (Tr.ret (Tr.QT (Tr.zi ?_))))))
                obtain rfl := oI H
                exact Tr.out (m := [iv 2]) [] (zW rfl zX) (fun W hW => ⟨rfl, hW.low leB⟩)
               ·refine Tr.skip (Tr.zl (Tr.zA (Tr.sr (Tr.asg rfl rfl (Tr.nil (Tr.zA (Tr.ret ?_)))))))
                obtain rfl := oI H
                exact Tr.out (m := [iv 0]) [] (zW rfl zX) (fun W hW => ⟨rfl, hW.low leB⟩)

theorem zIF (N : Nat) (rec : zm → (List zG) → Int → Option Int) (hrec : ∀ {w : Bs} (p0 : zm) (zC : Option Addr) (zD : Nat) (zU : Sl w.R w.W zP zC zD p0.Tools) (zO : Option Addr) (zN : Nat) (Qe : Sl w.R w.W zH zO zN p0.Steps) (p1 : (List zG)) (zh : Option Addr) (zg : Nat) (Qh : Sl w.R w.W zH zh zg p1) (p2 : Int) (r : Int) (H : rec p0 p1 p2 = some r) (hE : HF w w.W E0), Calls Tryz.prog 43 [.agg #[iv p0.Unit, sL zC p0.Tools zD, sL zO p0.Steps zN], sL zh p1 zg, iv p2].toArray w.W fun e W' => e = .returned (iv r) ∧ HF w W' E0) {w : Bs} (p0 : zm) (zC : Option Addr) (zD : Nat) (zU : Sl w.R w.W zP zC zD p0.Tools) (zO : Option Addr) (zN : Nat) (Qe : Sl w.R w.W zH zO zN p0.Steps) (p1 : (List zG)) (zh : Option Addr) (zg : Nat) (Qh : Sl w.R w.W zH zh zg p1) (p2 : Int) (r : Int) (H : zCp N rec p0 p1 p2 = some r) (hE : HF w w.W E0) : Calls Tryz.prog 43 [.agg #[iv p0.Unit, sL zC p0.Tools zD, sL zO p0.Steps zN], sL zh p1 zg, iv p2].toArray w.W fun e W' => e = .returned (iv r) ∧ HF w W' E0 := by
 unfold zCp at H
 have leB := Bs.Le.refl w
 refine Tr.enter (n := 34) Tryz.func43 rfl rfl rfl hE ?_
 refine Tr.sr (Tr.box 1 (cs := [iv p0.Unit, sL zC p0.Tools zD, sL zO p0.Steps zN]) (wn rfl) rfl rfl rfl fun QE => ?_)
 refine Tr.asg rfl rfl (Tr.nil (Tr.zA (Tr.seq (Tr.sr (Tr.mv rfl rfl (Tr.va rfl (fun _ _ a c => QJ zGV (a.ev rfl)) ?_))))))
 refine Tr.mv rfl rfl (Tr.nil (Tr.zA (Tr.block (Tr.loop (σ := (List zG) × Nat) (fun m w s => m = s.1.length + 1 ∧ s.1 = List.drop s.2 p1 ∧ s.2 ≤ p1.length ∧ KX p0 p2 rec s.1 s.2 = some r) (fun s => [(2, iv p2), (3, pV QE), (11, sL zh p1 zg), (12, iv (p1.length : Int)), (13, iv (s.2 : Int))]) (fun s => [(1, bx QE #[iv p0.Unit, sL zC p0.Tools zD, sL zO p0.Steps zN] 25)]) (p1.length + 1) (p1, 0) ⟨rfl, rfl, Nat.zero_le _, H⟩ (.cons rfl (.cons rfl (.cons rfl (.cons rfl (.cons rfl .nil))))) (.cons rfl .nil) (fun _ _ h => absurd h.1 (by simp)) ?_))))
 intro w Qd m s hs
 obtain ⟨zY, iL1⟩ := s
 obtain ⟨Kj, QF, hiL1, H⟩ := hs
 replace QF : zY = List.drop iL1 p1 := QF
 replace H : KX p0 p2 rec zY iL1 = some r := H
 replace Kj : m + 1 = zY.length + 1 := Kj
 replace zU := zU.leR Qd
 replace Qe := Qe.leR Qd
 replace Qh := Qh.leR Qd
 replace leB := leB.trans Qd
 obtain rfl : m = zY.length := by omega
 clear Kj
 show Tr _ _ (LF [(2, iv p2), (3, pV QE), (11, sL zh p1 zg), (12, iv (p1.length : Int)), (13, iv (iL1 : Int))]) (LE [(1, bx QE #[iv p0.Unit, sL zC p0.Tools zD, sL zO p0.Steps zN] 25)]) _
 cases zY with
 | nil =>
  rw [KX.eq_1] at H
  refine Tr.sr (Tr.va rfl (fun _ _ a c => QI (a.ev rfl) (a.ev rfl)) ?_)
  refine Tr.nil (Tr.zA (Tr.seq (Tr.WL rfl (JS QF) ?_)))
  refine Tr.exit (Tr.zk (Tr.zk (Tr.QV (Tr.zA (Tr.sr (Tr.asg rfl rfl (Tr.nil (Tr.zA (Tr.ret ?_)))))))))
  obtain rfl := oI H
  exact Tr.out (m := [iv 0]) [] (zW rfl zX) (fun W hW => ⟨rfl, hW.low leB⟩)
 | cons xL1 zY =>
  rw [KX.eq_2] at H
  refine Tr.sr (Tr.va rfl (fun _ _ a c => QI (a.ev rfl) (a.ev rfl)) ?_)
  refine Tr.nil (Tr.zA (Tr.seq (Tr.WK rfl (Jt QF) ?_)))
  refine Tr.skip (Tr.zA (Tr.seq (Tr.block (Tr.sr ?_))))
  obtain ⟨zds, hRu107, zR8, hcu107⟩ := (Qh).el (KL QF)
  obtain ⟨⟨zDA, zC7⟩, ⟨zFg, zFW⟩⟩ := zds
  obtain ⟨zEI, zJw⟩ := Kn.1 zR8
  replace zEI : Sl w.R w.W QU zDA zC7 xL1.Points := zEI
  replace zJw : Sl w.R w.W zH zFg zFW xL1.Steps := zJw
  refine Tr.va rfl (fun _ _ a c => zM zFH (a.ev rfl) Qh.form (a.ev rfl) (Int.natCast_nonneg _) (QB QF)) ?_
  refine Tr.va rfl (fun _ _ a c => zZ (cs := [iv xL1.Kind, sv xL1.Name, iv xL1.At.X, iv xL1.At.Y, sL zDA xL1.Points zC7, iv xL1.NX, iv xL1.NY, sL zFg xL1.Steps zFW]) zP6 zGW (a.ev rfl) (zR.take (rdR hRu107 hcu107 c) 8) rfl) ?_
  refine Tr.alloc 3 (wn rfl) rfl zV4 fun zDH => ?_
  refine Tr.store 3 (cs := [iv xL1.Kind, sv xL1.Name, iv xL1.At.X, iv xL1.At.Y, sL zDA xL1.Points zC7, iv xL1.NX, iv xL1.NY, sL zFg xL1.Steps zFW]) [iv xL1.Kind, sv xL1.Name, iv xL1.At.X, iv xL1.At.Y, sL zDA xL1.Points zC7, iv xL1.NX, iv xL1.NY, sL zFg xL1.Steps zFW] (wn rfl) rfl rfl rfl rfl zGW rfl rfl rfl ?_
  refine Tr.nil (Tr.zA (Tr.seq (Tr.sr (Tr.va rfl (fun _ _ a c => zZ (cs := [iv p0.Unit, sL zC p0.Tools zD, sL zO p0.Steps zN]) WU VD (a.ev rfl) (zR.take (rdb c (vs := [iv p0.Unit, sL zC p0.Tools zD, sL zO p0.Steps zN]) (k := 1) rfl 0) 3) rfl) ?_))))
  refine Tr.va rfl (fun _ _ a c => zZ (cs := [iv xL1.Kind, sv xL1.Name, iv xL1.At.X, iv xL1.At.Y, sL zDA xL1.Points zC7, iv xL1.NX, iv xL1.NY, sL zFg xL1.Steps zFW]) zP6 zGW (a.ev rfl) (zR.take (rdb c (vs := [iv xL1.Kind, sv xL1.Name, iv xL1.At.X, iv xL1.At.Y, sL zDA xL1.Points zC7, iv xL1.NX, iv xL1.NY, sL zFg xL1.Steps zFW]) (k := 3) rfl 0) 8) rfl) ?_
  refine Tr.mv rfl rfl ?_
  obtain ⟨zG6, zZl, H⟩ := bnd H
  refine Tr.JI (r := (iv zG6)) (wn rfl) rfl Tryz.call74 (zI rfl (zI rfl (zI rfl zT))) (fun W hW => zKV p0 zC zD (zU.ext hW.Qx) zO zN (Qe.ext hW.Qx) xL1 zDA zC7 (zEI.ext hW.Qx) zFg zFW (zJw.ext hW.Qx) p2 zG6 zZl (HF.start _)) ?_
  refine Tr.asg rfl rfl (Tr.nil (Tr.zA (Tr.sr (Tr.mv rfl rfl (Tr.va rfl (fun _ _ a c => KY (a.ev rfl) (a.ev rfl)) ?_)))))
  refine Tr.nil (Tr.zA (Tr.cond rfl H (fun H => ?_) (fun H => ?_)))
  ·refine Tr.sr (Tr.mv rfl rfl (Tr.asg rfl rfl (Tr.nil (Tr.zA (Tr.ret (Tr.zi (Tr.QT (Tr.zi (Tr.zi (Tr.QT (Tr.zi ?_)))))))))))
   obtain rfl := oI H
   exact Tr.out (m := [iv zG6]) [] (zW rfl zX) (fun W hW => ⟨rfl, hW.low leB⟩)
  ·refine Tr.skip (Tr.zA (Tr.sr (Tr.va rfl (fun _ _ a c => zZ (cs := [iv p0.Unit, sL zC p0.Tools zD, sL zO p0.Steps zN]) WU VD (a.ev rfl) (zR.take (rdb c (vs := [iv p0.Unit, sL zC p0.Tools zD, sL zO p0.Steps zN]) (k := 1) rfl 0) 3) rfl) ?_)))
   refine Tr.va rfl (fun _ _ a c => zB zC4 (a.ev rfl)) ?_
   refine Tr.va rfl (fun _ _ a c => zF zDp (a.ev rfl) (rdb c (vs := [iv xL1.Kind, sv xL1.Name, iv xL1.At.X, iv xL1.At.Y, sL zDA xL1.Points zC7, iv xL1.NX, iv xL1.NY, sL zFg xL1.Steps zFW]) (k := 3) rfl 7) rfl) ?_
   refine Tr.mv rfl rfl (Tr.va rfl (fun _ _ a c => QK (a.ev rfl) (a.ev rfl)) ?_)
   obtain ⟨zAc, zI7, H⟩ := bnd H
   refine Tr.JI (r := (iv zAc)) (wn rfl) rfl Tryz.call43 (zI rfl (zI rfl (zI rfl zT))) (fun W hW => hrec p0 zC zD (zU.ext hW.Qx) zO zN (Qe.ext hW.Qx) xL1.Steps zFg zFW (zJw.ext hW.Qx) (w64 (p2 + 1)) zAc zI7 (HF.start _)) ?_
   refine Tr.asg rfl rfl (Tr.nil (Tr.zA (Tr.sr (Tr.mv rfl rfl (Tr.va rfl (fun _ _ a c => KY (a.ev rfl) (a.ev rfl)) ?_)))))
   refine Tr.nil (Tr.zA (Tr.cond rfl H (fun H => ?_) (fun H => ?_)))
   ·refine Tr.sr (Tr.mv rfl rfl (Tr.asg rfl rfl (Tr.nil (Tr.zA (Tr.ret (Tr.QT (Tr.zi (Tr.zi (Tr.QT (Tr.zi ?_))))))))))
    obtain rfl := oI H
    exact Tr.out (m := [iv zAc]) [] (zW rfl zX) (fun W hW => ⟨rfl, hW.low leB⟩)
   ·refine Tr.skip (Tr.zl (Tr.zA (Tr.region (Tr.va rfl (fun _ _ a c => QK (a.ev rfl) (a.ev rfl)) ?_))))
    exact Tr.mv rfl rfl (Tr.nil (Tr.zn Qd (zY, (iL1 + 1)) ⟨rfl, Qu QF, QB QF, H⟩ (.cons rfl (.cons rfl (.cons rfl (.cons rfl (.cons (congrArg (fun z => some (Value.int .i64 z)) (Qt QF Qh.form)) .nil))))) (.cons rfl .nil)))
theorem zEt : ∀ (N : Nat) {w : Bs} (p0 : zm) (zC : Option Addr) (zD : Nat) (zU : Sl w.R w.W zP zC zD p0.Tools) (zO : Option Addr) (zN : Nat) (Qe : Sl w.R w.W zH zO zN p0.Steps) (p1 : (List zG)) (zh : Option Addr) (zg : Nat) (Qh : Sl w.R w.W zH zh zg p1) (p2 : Int) (r : Int) (H : zAv N p0 p1 p2 = some r) (hE : HF w w.W E0), Calls Tryz.prog 43 [.agg #[iv p0.Unit, sL zC p0.Tools zD, sL zO p0.Steps zN], sL zh p1 zg, iv p2].toArray w.W fun e W' => e = .returned (iv r) ∧ HF w W' E0
 | 0 => by intros; rename_i H _; cases H
 | N + 1 => zIF N (zAv N) (zEt N)

theorem Wx (N : Nat) {w : Bs} (p0 : zm) (zC : Option Addr) (zD : Nat) (zU : Sl w.R w.W zP zC zD p0.Tools) (zO : Option Addr) (zN : Nat) (Qe : Sl w.R w.W zH zO zN p0.Steps) (r : Int) (H : Jv N p0 = some r) (hE : HF w w.W E0) : Calls Tryz.prog 21 [.agg #[iv p0.Unit, sL zC p0.Tools zD, sL zO p0.Steps zN]].toArray w.W fun e W' => e = .returned (iv r) ∧ HF w W' E0 := by
 unfold Jv at H
 have leB := Bs.Le.refl w
 refine Tr.enter (n := 52) Tryz.func21 rfl rfl rfl hE ?_
 refine Tr.sr (Tr.box 1 (cs := [iv p0.Unit, sL zC p0.Tools zD, sL zO p0.Steps zN]) (wn rfl) rfl rfl rfl fun QE => ?_)
 refine Tr.asg rfl rfl (Tr.nil (Tr.zA (Tr.seq (Tr.sr (Tr.va rfl (fun _ _ a c => zB WS (a.ev rfl)) ?_)))))
 refine Tr.va rfl (fun _ _ a c => zF QH (a.ev rfl) (rdb c (vs := [iv p0.Unit, sL zC p0.Tools zD, sL zO p0.Steps zN]) (k := 1) rfl 0) rfl) ?_
 obtain ⟨y101, hy101, H⟩ := bnd H
 refine Tr.JI (r := (bV y101)) (wn rfl) rfl Tryz.call22 (zI rfl (zI rfl (zI rfl zT))) (fun W hW => zAM p0.Unit 1 1000 y101 hy101 (HF.start _)) ?_
 refine Tr.va rfl (fun _ _ a c => Km (a.ev rfl)) ?_
 refine Tr.nil (Tr.zA (Tr.cond rfl H (fun H => ?_) (fun H => ?_)))
 ·refine Tr.sr (Tr.asg rfl rfl (Tr.nil (Tr.zA (Tr.ret (Tr.zi ?_)))))
  obtain rfl := oI H
  exact Tr.out (m := [iv 1]) [] (zW rfl zX) (fun W hW => ⟨rfl, hW.low leB⟩)
 ·refine Tr.skip (Tr.zA (Tr.seq (Tr.sr (Tr.va rfl (fun _ _ a c => zB zEO (a.ev rfl)) ?_))))
  refine Tr.va rfl (fun _ _ a c => zF zLu (a.ev rfl) (rdb c (vs := [iv p0.Unit, sL zC p0.Tools zD, sL zO p0.Steps zN]) (k := 1) rfl 1) rfl) ?_
  refine Tr.va rfl (fun _ _ a c => QJ zKW (a.ev rfl)) ?_
  refine Tr.va rfl (fun _ _ a c => VY (a.ev rfl) (a.ev rfl)) ?_
  refine Tr.nil (Tr.zA (Tr.cond rfl H (fun H => ?_) (fun H => ?_)))
  ·refine Tr.sr (Tr.asg rfl rfl (Tr.nil (Tr.zA (Tr.ret (Tr.zi ?_)))))
   obtain rfl := oI H
   exact Tr.out (m := [iv 2]) [] (zW rfl zX) (fun W hW => ⟨rfl, hW.low leB⟩)
  ·refine Tr.skip (Tr.zA (Tr.seq (Tr.sr (Tr.va rfl (fun _ _ a c => zB zEO (a.ev rfl)) ?_))))
   refine Tr.va rfl (fun _ _ a c => zF zLu (a.ev rfl) (rdb c (vs := [iv p0.Unit, sL zC p0.Tools zD, sL zO p0.Steps zN]) (k := 1) rfl 1) rfl) ?_
   refine Tr.va rfl (fun _ _ a c => QJ zKW (a.ev rfl)) ?_
   refine Tr.mv rfl rfl (Tr.nil (Tr.zA (Tr.block (Tr.loop (σ := (List zV) × Nat) (fun m w s => m = s.1.length + 1 ∧ s.1 = List.drop s.2 p0.Tools ∧ s.2 ≤ p0.Tools.length ∧ KO N p0 s.1 s.2 = some r) (fun s => [(1, pV QE), (15, sL zC p0.Tools zD), (16, iv (p0.Tools.length : Int)), (17, iv (s.2 : Int))]) (fun s => [(1, bx QE #[iv p0.Unit, sL zC p0.Tools zD, sL zO p0.Steps zN] 25)]) (p0.Tools.length + 1) (p0.Tools, 0) ⟨rfl, rfl, Nat.zero_le _, H⟩ (.cons rfl (.cons rfl (.cons rfl (.cons rfl .nil)))) (.cons rfl .nil) (fun _ _ h => absurd h.1 (by simp)) ?_))))
   intro w Qd m s hs
   obtain ⟨zY, iL1⟩ := s
   obtain ⟨Kj, QF, hiL1, H⟩ := hs
   replace QF : zY = List.drop iL1 p0.Tools := QF
   replace H : KO N p0 zY iL1 = some r := H
   replace Kj : m + 1 = zY.length + 1 := Kj
   replace zU := zU.leR Qd
   replace Qe := Qe.leR Qd
   replace leB := leB.trans Qd
   obtain rfl : m = zY.length := by omega
   clear Kj
   show Tr _ _ (LF [(1, pV QE), (15, sL zC p0.Tools zD), (16, iv (p0.Tools.length : Int)), (17, iv (iL1 : Int))]) (LE [(1, bx QE #[iv p0.Unit, sL zC p0.Tools zD, sL zO p0.Steps zN] 25)]) _
   cases zY with
   | nil =>
    rw [KO.eq_1] at H
    refine Tr.sr (Tr.va rfl (fun _ _ a c => QI (a.ev rfl) (a.ev rfl)) ?_)
    refine Tr.nil (Tr.zA (Tr.seq (Tr.WL rfl (JS QF) ?_)))
    refine Tr.exit (Tr.zk (Tr.zk (Tr.QV (Tr.zA (Tr.seq (Tr.sr (Tr.va rfl (fun _ _ a c => zB zDj (a.ev rfl)) ?_)))))))
    refine Tr.va rfl (fun _ _ a c => zF zDp (a.ev rfl) (rdb c (vs := [iv p0.Unit, sL zC p0.Tools zD, sL zO p0.Steps zN]) (k := 1) rfl 2) rfl) ?_
    obtain ⟨y112, hy112, H⟩ := bnd H
    refine Tr.JI (r := (iv y112)) (wn rfl) rfl Tryz.call42 (zI rfl zT) (fun W hW => zIY N p0.Steps zO zN (Qe.ext hW.Qx) y112 hy112 (HF.start _)) ?_
    refine Tr.va rfl (fun _ _ a c => VY (a.ev rfl) (a.ev rfl)) ?_
    refine Tr.nil (Tr.zA (Tr.cond rfl H (fun H => ?_) (fun H => ?_)))
    ·refine Tr.sr (Tr.asg rfl rfl (Tr.nil (Tr.zA (Tr.ret (Tr.zi ?_)))))
     obtain rfl := oI H
     exact Tr.out (m := [iv 2]) [] (zW rfl zX) (fun W hW => ⟨rfl, hW.low leB⟩)
    ·refine Tr.skip (Tr.zA (Tr.sr (Tr.va rfl (fun _ _ a c => zZ (cs := [iv p0.Unit, sL zC p0.Tools zD, sL zO p0.Steps zN]) WU VD (a.ev rfl) (zR.take (rdb c (vs := [iv p0.Unit, sL zC p0.Tools zD, sL zO p0.Steps zN]) (k := 1) rfl 0) 3) rfl) ?_)))
     refine Tr.va rfl (fun _ _ a c => zB zDj (a.ev rfl)) ?_
     refine Tr.va rfl (fun _ _ a c => zF zDp (a.ev rfl) (rdb c (vs := [iv p0.Unit, sL zC p0.Tools zD, sL zO p0.Steps zN]) (k := 1) rfl 2) rfl) ?_
     obtain ⟨y113, hy113, H⟩ := bnd H
     refine Tr.JI (r := (iv y113)) (wn rfl) rfl Tryz.call43 (zI rfl (zI rfl (zI rfl zT))) (fun W hW => zEt N p0 zC zD (zU.ext hW.Qx) zO zN (Qe.ext hW.Qx) p0.Steps zO zN (Qe.ext hW.Qx) 0 y113 hy113 (HF.start _)) ?_
     refine Tr.asg rfl rfl (Tr.nil (Tr.zA (Tr.ret ?_)))
     obtain rfl := oI H
     exact Tr.out (m := [iv y113]) [] (zW rfl zX) (fun W hW => ⟨rfl, hW.low leB⟩)
   | cons xL1 zY =>
    rw [KO.eq_2] at H
    refine Tr.sr (Tr.va rfl (fun _ _ a c => QI (a.ev rfl) (a.ev rfl)) ?_)
    refine Tr.nil (Tr.zA (Tr.seq (Tr.WK rfl (Jt QF) ?_)))
    refine Tr.skip (Tr.zA (Tr.seq (Tr.block (Tr.sr (Tr.mv rfl rfl ?_)))))
    obtain ⟨zmZ, hRu114, zcN, hcu114⟩ := (zU).el (KL QF)
    obtain ⟨zGt, zGj⟩ := zmZ
    have zMi := zcN
    replace zMi : Sl w.R w.W zK zGt zGj xL1.Rects := zMi
    refine Tr.va rfl (fun _ _ a c => zM zKa (a.ev rfl) zU.form (a.ev rfl) (Int.natCast_nonneg _) (QB QF)) ?_
    refine Tr.va rfl (fun _ _ a c => zZ (cs := [sv xL1.Name, sL zGt xL1.Rects zGj]) zP5 zG8 (a.ev rfl) (zR.take (rdR hRu114 hcu114 c) 2) rfl) ?_
    refine Tr.alloc 3 (wn rfl) rfl zV3 fun zKx => ?_
    refine Tr.asg rfl rfl (Tr.store 3 (cs := [sv xL1.Name, sL zGt xL1.Rects zGj]) [sv xL1.Name, sL zGt xL1.Rects zGj] (wn rfl) rfl rfl rfl rfl zG8 rfl rfl rfl ?_)
    refine Tr.nil (Tr.zA (Tr.seq (Tr.sr (Tr.va rfl (fun _ _ a c => zZ (cs := [sv xL1.Name, sL zGt xL1.Rects zGj]) zP5 zG8 (a.ev rfl) (zR.take (rdb c (vs := [sv xL1.Name, sL zGt xL1.Rects zGj]) (k := 3) rfl 0) 2) rfl) ?_))))
    refine Tr.va rfl (fun _ _ a c => zB WS (a.ev rfl)) ?_
    refine Tr.va rfl (fun _ _ a c => zF QH (a.ev rfl) (rdb c (vs := [iv p0.Unit, sL zC p0.Tools zD, sL zO p0.Steps zN]) (k := 1) rfl 0) rfl) ?_
    obtain ⟨zE1, zTx, H⟩ := bnd H
    refine Tr.JI (r := (iv zE1)) (wn rfl) rfl Tryz.call41 (zI rfl (zI rfl zT)) (fun W hW => zKU N xL1 zGt zGj (zMi.ext hW.Qx) p0.Unit zE1 zTx (HF.start _)) ?_
    refine Tr.asg rfl rfl (Tr.nil (Tr.zA (Tr.sr (Tr.mv rfl rfl (Tr.va rfl (fun _ _ a c => KY (a.ev rfl) (a.ev rfl)) ?_)))))
    refine Tr.nil (Tr.zA (Tr.cond rfl H (fun H => ?_) (fun H => ?_)))
    ·refine Tr.sr (Tr.mv rfl rfl (Tr.asg rfl rfl (Tr.nil (Tr.zA (Tr.ret (Tr.zi (Tr.QT (Tr.zi (Tr.zi (Tr.QT (Tr.zi ?_)))))))))))
     obtain rfl := oI H
     exact Tr.out (m := [iv zE1]) [] (zW rfl zX) (fun W hW => ⟨rfl, hW.low leB⟩)
    ·refine Tr.skip (Tr.zA (Tr.seq (Tr.draw (by kernel_rfl) (by kernel_rfl) ?_)))
     refine Tq.mv rfl rfl (Tq.va rfl (fun _ _ a c => VY (a.ev rfl) (a.ev rfl)) ?_)
     refine Tq.mv rfl rfl ?_
     obtain ⟨zgw, zRC, H⟩ := bnd H
     refine Tq.mid 11 [(1, pV QE), (15, sL zC p0.Tools zD), (16, iv (p0.Tools.length : Int)), (17, iv (iL1 : Int)), (42, bV zgw)] ?_ ?_
     ·cases Wt : (decide (0 < (iL1 : Int)))
      ·rw [Wt] at zRC
       rw [if_neg (by decide)] at zRC
       have H := zRC
       obtain rfl := oI H
       refine Tq.pass rfl rfl rfl rfl rfl (by decide) ?_
       refine Tq.pass rfl rfl rfl rfl rfl (by decide) ?_
       refine Tq.pass rfl rfl rfl rfl rfl (by decide) ?_
       refine Tq.pass rfl rfl rfl rfl rfl (by decide) ?_
       refine Tq.pass rfl rfl rfl rfl rfl (by decide) ?_
       refine Tq.pass rfl rfl rfl rfl rfl (by decide) ?_
       refine Tq.pass rfl rfl rfl rfl rfl (by decide) ?_
       refine Tq.pass rfl rfl rfl rfl rfl (by decide) ?_
       refine Tq.pass rfl rfl rfl rfl rfl (by decide) ?_
       refine Tq.pass rfl rfl rfl rfl rfl (by decide) ?_
       refine Tq.va rfl (fun _ _ a c => zx (a.ev rfl) (a.ev rfl)) ?_
       exact Tq.fin (.cons rfl (.cons rfl (.cons rfl (.cons rfl (.cons rfl .nil)))))
      ·rw [Wt] at zRC
       rw [if_pos rfl] at zRC
       have H := zRC
       refine Tq.val (wg rfl rfl rfl) rfl (fun _ _ a c => zB zHu (a.ev rfl)) ?_
       refine Tq.val (wg rfl rfl rfl) rfl (fun _ _ a c => zF zKy (a.ev rfl) (rdb c (vs := [sv xL1.Name, sL zGt xL1.Rects zGj]) (k := 3) rfl 0) rfl) ?_
       refine Tq.val (wg rfl rfl rfl) rfl (fun _ _ a c => zB zEO (a.ev rfl)) ?_
       refine Tq.val (wg rfl rfl rfl) rfl (fun _ _ a c => zF zLu (a.ev rfl) (rdb c (vs := [iv p0.Unit, sL zC p0.Tools zD, sL zO p0.Steps zN]) (k := 1) rfl 1) rfl) ?_
       refine Tq.val (wg rfl rfl rfl) rfl (fun _ _ a c => run_move (a.ev rfl)) ?_
       refine Tq.val (wg rfl rfl rfl) rfl (fun _ _ a c => Wy (a.ev rfl) (a.ev rfl)) ?_
       obtain ⟨zYX, zZq, H⟩ := bnd H
       obtain ⟨hx1200, hx1201, hx1202⟩ := zz zZq
       obtain ⟨zmY, hRu121, zcM, hcu121⟩ := (zU).el hx1202
       obtain ⟨zl2, zlp⟩ := zmY
       have zhN := zcM
       refine Tq.val (wg rfl rfl rfl) rfl (fun _ _ a c => zM zKa (a.ev rfl) zU.form (a.ev rfl) hx1200 hx1201) ?_
       refine Tq.val (wg rfl rfl rfl) rfl (fun _ _ a c => zB zHu (a.ev rfl)) ?_
       refine Tq.val (wg rfl rfl rfl) rfl (fun _ _ a c => zF zKy (a.ev rfl) (zR.drop (rdR hRu121 hcu121 c) 0) rfl) ?_
       refine Tq.val (wg rfl rfl rfl) rfl (fun _ _ a c => zY1 (a.ev rfl) (a.ev rfl)) ?_
       refine Tq.va rfl (fun _ _ a c => zw (a.ev rfl) (a.ev rfl)) ?_
       obtain rfl := oI H
       exact Tq.fin (.cons rfl (.cons rfl (.cons rfl (.cons rfl (.cons rfl .nil)))))
     ·refine Tq.nil (Tr.zA (Tr.cond rfl H (fun H => ?_) (fun H => ?_)))
      ·refine Tr.sr (Tr.asg rfl rfl (Tr.nil (Tr.zA (Tr.ret (Tr.QT (Tr.zi (Tr.zi (Tr.QT (Tr.zi ?_)))))))))
       obtain rfl := oI H
       exact Tr.out (m := [iv 8]) [] (zW rfl zX) (fun W hW => ⟨rfl, hW.low leB⟩)
      ·refine Tr.skip (Tr.zl (Tr.zA (Tr.region (Tr.va rfl (fun _ _ a c => QK (a.ev rfl) (a.ev rfl)) ?_))))
       exact Tr.mv rfl rfl (Tr.nil (Tr.zn Qd (zY, (iL1 + 1)) ⟨rfl, Qu QF, QB QF, H⟩ (.cons rfl (.cons rfl (.cons rfl (.cons (congrArg (fun z => some (Value.int .i64 z)) (Qt QF zU.form)) .nil)))) (.cons rfl .nil)))

theorem zDs {w : Bs} (p0 : (List zS)) (zC : Option Addr) (zD : Nat) (zU : Sl w.R w.W zK zC zD p0) (r : (List zS)) (H : Kg p0 = some r) (hE : HF w w.W (LEn [emp])) : Calls Tryz.prog 80 [sL zC p0 zD].toArray w.W fun e W' => ∃ u : (Option Addr × Nat), e = .returned (sL u.1 r u.2) ∧ (SlF u.1 r.length u.2) ∧ HF w W' (LEn [ow u.1 u.2 36 zK r]) := by
 unfold Kg at H
 have leB := Bs.Le.refl w
 refine Tr.enter (n := 8) Tryz.func80 rfl rfl rfl hE ?_
 refine Tr.sr (Tr.asg rfl rfl (Tr.JU 1 36 zK ?_))
 show Tr _ _ (uf _ 2 (sL none (([] : List zS)) 0)) _ _
 refine Tr.nil (Tr.zA (Tr.seq (Tr.sr (Tr.mv rfl rfl (Tr.va rfl (fun _ _ a c => zHn zA8 (a.ev rfl) (a.ev rfl)) ?_)))))
 refine Tr.nil (Tr.zA ?_)
 cases zC with
 | none =>
  have hl0 := zLF zU.form
  replace H : (some ([] : List zS)) = some r := by simpa [apd, hl0] using H
  refine Tr.WK rfl rfl ?_
  refine Tr.sr (Tr.asg rfl rfl (Tr.JU 2 36 zK ?_))
  show Tr _ _ (uf _ 2 (sL none (([] : List zS)) 0)) _ _
  refine Tr.nil (Tr.zA (Tr.ret (Tr.zi ?_)))
  obtain rfl := oI H
  exact Tr.out (m := [sL none (([] : List zS)) 0]) [] (zW rfl zX) (fun W hW => ⟨(none, 0), rfl, Kk, HF.zFO leB (hW.pick (ks := [2]) (by decide) (zQ rfl zf)) ⟨zCA _ _ _ _ WI, trivial⟩⟩)
 | some a102 =>
  refine Tr.WL rfl rfl ?_
  refine Tr.skip (Tr.zA (Tr.sr (Tr.buildSlice 3 (e := 36) (vs := []) (cs := []) (wn rfl) rfl Qi (by kernel_rfl) fun QE => ?_)))
  refine Tr.mv rfl rfl (Tr.own 3 zK ([] : List zS) (css := []) rfl .nil rfl (by decide) (zCR rfl) ?_)
  obtain ⟨zKu, zPi, H⟩ := bnd H
  refine Tr.zLs 3 (t := zK) (l := ([] : List zS)) (l2 := p0) (wn rfl) rfl rfl rfl rfl (apT WI (fun W hW => (Sl.inB zU hW))) zA8 Ku zSo (by decide) zUc rfl zPi fun zJc zJO hAl101 => ?_
  refine Tr.asg rfl rfl (Tr.nil (Tr.zA (Tr.ret ?_)))
  obtain rfl := oI H
  exact Tr.out (m := [sL zJc zKu zJO]) [] (zW rfl zX) (fun W hW => ⟨(zJc, zJO), rfl, hAl101, HF.zFO leB (hW.pick (ks := [3]) (by decide) (zQ rfl zf)) ⟨zCA _ _ _ _ WI, trivial⟩⟩)

theorem zAS {w : Bs} (p0 : List zS) (zC : Option Addr) (zD : Nat) (p1 : zS → zS → Option Int) (fid1 : Nat) (cap1 : List Value) (hg1 : ∀ args W, (callFunc fid1 args).run Tryz.prog W = .ok (.enter fid1 args) W) (hf1 : ∀ (w' : Bs), w.Ext w' → ∀ (z0 : zS) (z1 : zS), ∀ y, p1 z0 z1 = some y → Calls Tryz.prog fid1 (([.agg #[iv z0.X0, iv z0.Y0, iv z0.X1, iv z0.Y1], .agg #[iv z1.X0, iv z1.Y0, iv z1.X1, iv z1.Y1]] : List Value) ++ cap1).toArray w'.W fun e W'' => e = .returned (iv y) ∧ HF w' W'' E0) (r : List zS) (H : zOp p0 p1 = some r) (hE : HF w w.W (LEn [ow zC zD 36 zK p0])) : Calls Tryz.prog 81 [sL zC p0 zD, .func (.func fid1) #[] cap1.toArray].toArray w.W fun e W' => ∃ u : Unit, e = .returned (.tuple #[]) ∧ (r.length = p0.length) ∧ HF w W' (LEn [ow zC zD 36 zK r]) :=
 zQP (ρ := Tryz.zQk) Tryz.zhw (fun _ => zJj zBz) (fun _ => run_sizeOf Ku) Vg WI () hg1 hf1 H hE

theorem zK4 {w : Bs} (p0 : zS) (p1 : zS) (r : Int) (H : zAh p0 p1 = some r) (hE : HF w w.W E0) : Calls Tryz.prog 82 [.agg #[iv p0.X0, iv p0.Y0, iv p0.X1, iv p0.Y1], .agg #[iv p1.X0, iv p1.Y0, iv p1.X1, iv p1.Y1]].toArray w.W fun e W' => e = .returned (iv r) ∧ HF w W' E0 := by
 unfold zAh at H
 have leB := Bs.Le.refl w
 refine Tr.enter (n := 10) Tryz.func82 rfl rfl rfl hE ?_
 refine Tr.sr (Tr.box 1 (cs := [iv p0.X0, iv p0.Y0, iv p0.X1, iv p0.Y1]) (wn rfl) rfl rfl rfl fun QE => ?_)
 refine Tr.box 2 (cs := [iv p1.X0, iv p1.Y0, iv p1.X1, iv p1.Y1]) (wn rfl) rfl rfl rfl fun Qw => ?_
 refine Tr.asg rfl rfl (Tr.nil (Tr.zA (Tr.sr (Tr.va rfl (fun _ _ a c => zB zAk (a.ev rfl)) ?_))))
 refine Tr.va rfl (fun _ _ a c => zF QH (a.ev rfl) (rdb c (vs := [iv p0.X0, iv p0.Y0, iv p0.X1, iv p0.Y1]) (k := 1) rfl 1) rfl) ?_
 refine Tr.va rfl (fun _ _ a c => zB zAk (a.ev rfl)) ?_
 refine Tr.va rfl (fun _ _ a c => zF QH (a.ev rfl) (rdb c (vs := [iv p1.X0, iv p1.Y0, iv p1.X1, iv p1.Y1]) (k := 2) rfl 1) rfl) ?_
 refine Tr.va rfl (fun _ _ a c => Wy (a.ev rfl) (a.ev rfl)) ?_
 refine Tr.asg rfl rfl (Tr.nil (Tr.zA (Tr.ret ?_)))
 obtain rfl := oI H
 exact Tr.out (m := [iv (w64 (p0.Y0 - p1.Y0))]) [] (zW rfl zX) (fun W hW => ⟨rfl, hW.low leB⟩)

theorem zEq {w : Bs} (p0 : List Int) (zC : Option Addr) (zD : Nat) (r : List Int) (H : zTC p0 = some r) (hE : HF w w.W (LEn [ow zC zD 3 QG p0])) : Calls Tryz.prog 83 [sL zC p0 zD].toArray w.W fun e W' => ∃ u : Unit, e = .returned (.tuple #[]) ∧ (r.length = p0.length) ∧ HF w W' (LEn [ow zC zD 3 QG r]) :=
 zVB (ρ := Tryz.zOr) Tryz.zd1 rfl Vx zRf () H hE

theorem zDQ {w : Bs} (p0 : List Int) (zC : Option Addr) (zD : Nat) (r : List Int) (H : cpI p0 = some r) (hE : HF w w.W (LEn [ow zC zD 3 QG p0])) : Calls Tryz.prog 84 [sL zC p0 zD].toArray w.W fun e W' => ∃ u : (Option Addr × Nat), e = .returned (sL u.1 r u.2) ∧ (SlF u.1 r.length u.2) ∧ HF w W' (LEn [ow u.1 u.2 3 QG r]) :=
 zQZ (ρ := Tryz.zPt) Tryz.zg7 rfl Vx zRf () H hE

theorem zK3 {w : Bs} (p0 : zS) (q0 : (List Int)) (Aq0_0 : Option Addr) (cq0_0 : Nat) (zZt : Sl w.R w.W QG Aq0_0 cq0_0 q0) (bq0 : Nat) (hb0 : w.R bq0) (hc0 : zR w.W bq0 0 [sL Aq0_0 q0 cq0_0]) (q1 : Int) (bq1 : Nat) (hb1 : w.R bq1) (hc1 : zR w.W bq1 0 [iv q1]) (r : Bool) (H : zAg p0 q0 q1 = some r) (hE : HF w w.W E0) : Calls Tryz.prog 86 [.agg #[iv p0.X0, iv p0.Y0, iv p0.X1, iv p0.Y1], pV bq0, pV bq1].toArray w.W fun e W' => e = .returned (bV r) ∧ HF w W' E0 := by
 unfold zAg at H
 have leB := Bs.Le.refl w
 refine Tr.enter (n := 12) Tryz.func86 rfl rfl rfl hE ?_
 refine Tr.sr (Tr.box 1 (cs := [iv p0.X0, iv p0.Y0, iv p0.X1, iv p0.Y1]) (wn rfl) rfl rfl rfl fun QE => ?_)
 refine Tr.asg rfl rfl (Tr.nil (Tr.zA (Tr.seq (Tr.draw (by kernel_rfl) (by kernel_rfl) ?_))))
 refine Tq.va rfl (fun _ _ a c => zB zDi (a.ev rfl)) ?_
 refine Tq.va rfl (fun _ _ a c => zF QH (a.ev rfl) (rdb c (vs := [iv p0.X0, iv p0.Y0, iv p0.X1, iv p0.Y1]) (k := 1) rfl 3) rfl) ?_
 refine Tq.va rfl (fun _ _ a c => zF zCx (a.ev rfl) (rdR hb0 hc0 c) rfl) ?_
 refine Tq.va rfl (fun _ _ a c => zF QH (a.ev rfl) (rdR hb1 hc1 c) rfl) ?_
 obtain ⟨x101, hx101, H⟩ := bnd H
 obtain ⟨zgj, zgi, zgh⟩ := zz hx101
 refine Tq.va rfl (fun _ _ a c => zM zAl (a.ev rfl) zZt.form (a.ev rfl) zgj zgi) ?_
 refine Tq.va rfl (fun _ _ a c => zF QH (a.ev rfl) (rdF Vx zZt zgh c) rfl) ?_
 refine Tq.va rfl (fun _ _ a c => zAW (a.ev rfl) (a.ev rfl)) ?_
 refine Tq.asg rfl rfl (Tq.nil (Tr.zA (Tr.ret ?_)))
 obtain rfl := oI H
 exact Tr.out (m := [bV (decide (p0.Y1 ≤ x101))]) [] (zW rfl zX) (fun W hW => ⟨rfl, hW.low leB⟩)

theorem zGF {w : Bs} (p0 : (List zS)) (zC : Option Addr) (zD : Nat) (zU : Sl w.R w.W zK zC zD p0) (p1 : zS → Option Bool) (fid1 : Nat) (cap1 : List Value) (hg1 : ∀ args W, (callFunc fid1 args).run Tryz.prog W = .ok (.enter fid1 args) W) (hf1 : ∀ (w' : Bs), w.Ext w' → ∀ (z0 : zS), ∀ y, p1 z0 = some y → Calls Tryz.prog fid1 (([.agg #[iv z0.X0, iv z0.Y0, iv z0.X1, iv z0.Y1]] : List Value) ++ cap1).toArray w'.W fun e W'' => e = .returned (bV y) ∧ HF w' W'' E0) (r : Int) (H : WV p0 p1 = some r) (hE : HF w w.W E0) : Calls Tryz.prog 112 [sL zC p0 zD, .func (.func fid1) #[] cap1.toArray].toArray w.W fun e W' => e = .returned (iv r) ∧ HF w W' E0 := by
 unfold WV at H
 have leB := Bs.Le.refl w
 refine Tr.enter (n := 19) Tryz.func112 rfl rfl rfl hE ?_
 refine Tr.sr (Tr.asg rfl rfl (Tr.nil (Tr.zA (Tr.seq (Tr.sr (Tr.mv rfl rfl (Tr.va rfl (fun _ _ a c => QJ zA8 (a.ev rfl)) ?_)))))))
 refine Tr.mv rfl rfl (Tr.nil (Tr.zA (Tr.block (Tr.loop (σ := (List zS) × Nat) (fun m w s => m = s.1.length + 1 ∧ s.1 = List.drop s.2 p0 ∧ s.2 ≤ p0.length ∧ JV p1 s.1 s.2 = some r) (fun s => [(0, sL zC p0 zD), (1, .func (.func fid1) #[] cap1.toArray), (7, iv (p0.length : Int)), (8, iv (s.2 : Int))]) (fun s => []) (p0.length + 1) (p0, 0) ⟨rfl, rfl, Nat.zero_le _, H⟩ (.cons rfl (.cons rfl (.cons rfl (.cons rfl .nil)))) .nil (fun _ _ h => absurd h.1 (by simp)) ?_))))
 intro w Qd m s hs
 obtain ⟨zY, iL1⟩ := s
 obtain ⟨Kj, QF, hiL1, H⟩ := hs
 replace QF : zY = List.drop iL1 p0 := QF
 replace H : JV p1 zY iL1 = some r := H
 replace Kj : m + 1 = zY.length + 1 := Kj
 replace zU := zU.leR Qd
 replace hf1 := fun w' he => hf1 w' (Qd.ext.trans he)
 replace leB := leB.trans Qd
 obtain rfl : m = zY.length := by omega
 clear Kj
 show Tr _ _ (LF [(0, sL zC p0 zD), (1, .func (.func fid1) #[] cap1.toArray), (7, iv (p0.length : Int)), (8, iv (iL1 : Int))]) (LE []) _
 cases zY with
 | nil =>
  rw [JV.eq_1] at H
  refine Tr.sr (Tr.va rfl (fun _ _ a c => QI (a.ev rfl) (a.ev rfl)) ?_)
  refine Tr.nil (Tr.zA (Tr.seq (Tr.WL rfl (JS QF) ?_)))
  refine Tr.exit (Tr.zk (Tr.zk (Tr.QV (Tr.zA (Tr.sr (Tr.asg rfl rfl (Tr.nil (Tr.zA (Tr.ret ?_)))))))))
  obtain rfl := oI H
  exact Tr.out (m := [iv (-1)]) [] (zW rfl zX) (fun W hW => ⟨rfl, hW.low leB⟩)
 | cons xL1 zY =>
  rw [JV.eq_2] at H
  refine Tr.sr (Tr.va rfl (fun _ _ a c => QI (a.ev rfl) (a.ev rfl)) ?_)
  refine Tr.nil (Tr.zA (Tr.seq (Tr.WK rfl (Jt QF) ?_)))
  refine Tr.skip (Tr.zA (Tr.seq (Tr.block (Tr.sr (Tr.mv rfl rfl (Tr.asg rfl rfl (Tr.nil (Tr.zA (Tr.sr (Tr.mv rfl rfl ?_))))))))))
  refine Tr.mv rfl rfl (Tr.mv rfl rfl (Tr.va rfl (fun _ _ a c => zM zCj (a.ev rfl) zU.form (a.ev rfl) (Int.natCast_nonneg _) (QB QF)) ?_))
  refine Tr.va rfl (fun _ _ a c => zZ (cs := [iv xL1.X0, iv xL1.Y0, iv xL1.X1, iv xL1.Y1]) zBz Ku (a.ev rfl) (zR.take (rdF Vg zU (KL QF) c) 4) rfl) ?_
  obtain ⟨zo, zDf, H⟩ := bnd H
  refine Tr.zNW (r := (bV zo)) (wn rfl) rfl rfl hg1 (zI rfl zT) (fun W hW => hf1 hW.all hW.Qx xL1 _ zDf) ?_
  refine Tr.nil (Tr.zA (Tr.cond rfl H (fun H => ?_) (fun H => ?_)))
  ·refine Tr.sr (Tr.mv rfl rfl (Tr.asg rfl rfl (Tr.nil (Tr.zA (Tr.ret (Tr.QT (Tr.zi (Tr.zi (Tr.QT (Tr.zi ?_))))))))))
   obtain rfl := oI H
   exact Tr.out (m := [iv (iL1 : Int)]) [] (zW rfl zX) (fun W hW => ⟨rfl, hW.low leB⟩)
  ·refine Tr.skip (Tr.zl (Tr.zA (Tr.region (Tr.va rfl (fun _ _ a c => QK (a.ev rfl) (a.ev rfl)) ?_))))
   exact Tr.mv rfl rfl (Tr.nil (Tr.zn Qd (zY, (iL1 + 1)) ⟨rfl, Qu QF, QB QF, H⟩ (.cons rfl (.cons rfl (.cons rfl (.cons (congrArg (fun z => some (Value.int .i64 z)) (Qt QF zU.form)) .nil)))) .nil))

theorem zFa (N : Nat) {w : Bs} (p0 : (List zS)) (zC : Option Addr) (zD : Nat) (p1 : zS → Option Bool) (fid1 : Nat) (cap1 : List Value) (hg1 : ∀ args W, (callFunc fid1 args).run Tryz.prog W = .ok (.enter fid1 args) W) (hf1 : ∀ (w' : Bs), w.Ext w' → ∀ (z0 : zS), ∀ y, p1 z0 = some y → Calls Tryz.prog fid1 (([.agg #[iv z0.X0, iv z0.Y0, iv z0.X1, iv z0.Y1]] : List Value) ++ cap1).toArray w'.W fun e W'' => e = .returned (bV y) ∧ HF w' W'' E0) (r : (List zS)) (H : VV N p0 p1 = some r) (hE : HF w w.W (LEn [ow zC zD 36 zK p0])) : Calls Tryz.prog 85 [sL zC p0 zD, .func (.func fid1) #[] cap1.toArray].toArray w.W fun e W' => ∃ u : (Option Addr × Nat), e = .returned (sL u.1 r u.2) ∧ (SlF u.1 r.length u.2) ∧ HF w W' (LEn [ow u.1 u.2 36 zK r]) := by
 unfold VV at H
 have zCV := (hE.sl (k := 0) rfl).form
 have leB := Bs.Le.refl w
 refine Tr.enter (n := 42) Tryz.func85 rfl rfl rfl hE ?_
 refine Tr.sr (Tr.asg rfl rfl (Tr.JU 1 36 zK ?_))
 show Tr _ _ (uf _ 4 (sL none (([] : List zS)) 0)) _ _
 refine Tr.nil (Tr.zA (Tr.sr (Tr.mv rfl rfl (Tr.mv rfl rfl ?_))))
 obtain ⟨zy, Ws, H⟩ := bnd H
 refine Tr.JI (r := (iv zy)) (wn rfl) rfl Tryz.call112 (zI rfl (zI rfl zT)) (fun W hW => zGF p0 zC zD (hW.zEA (k := 0) rfl) p1 fid1 cap1 hg1 (fun w' he => hf1 w' (hW.Qx.trans he)) zy Ws (HF.start _)) ?_
 refine Tr.asg rfl rfl (Tr.nil (Tr.zA (Tr.seq (Tr.sr (Tr.mv rfl rfl (Tr.va rfl (fun _ _ a c => Qn (a.ev rfl) (a.ev rfl)) ?_))))))
 refine Tr.nil (Tr.zA (Tr.cond rfl H (fun H => ?_) (fun H => ?_)))
 ·refine Tr.sr (Tr.mv rfl rfl (Tr.asg rfl rfl (Tr.nil (Tr.zA (Tr.ret (Tr.zi ?_))))))
  obtain rfl := oI H
  exact Tr.out (m := [sL zC p0 zD]) [] (zW rfl zX) (fun W hW => ⟨(zC, zD), rfl, zCV, HF.zFO leB (hW.pick (ks := [0]) (by decide) (zQ rfl zf)) ⟨zCA _ _ _ _ WI, trivial⟩⟩)
 ·refine Tr.skip (Tr.zA (Tr.seq (Tr.sr (Tr.mv rfl rfl (Tr.va rfl (fun _ _ a c => QK (a.ev rfl) (a.ev rfl)) ?_)))))
  refine Tr.asg rfl rfl (Tr.nil (Tr.zA (Tr.block (Tr.loop (σ := (List zS) × Int × Int) (fun m w s => JB p1 m s.1 s.2.1 s.2.2 = some r ∧ s.1.length = p0.length) (fun s => [(0, sL zC s.1 zD), (1, .func (.func fid1) #[] cap1.toArray), (5, iv s.2.1), (6, iv s.2.2)]) (fun s => [(0, ow zC zD 36 zK s.1)]) N (p0, zy, (w64 (zy + 1))) ⟨H, rfl⟩ (.cons rfl (.cons rfl (.cons rfl (.cons rfl .nil)))) (.cons rfl .nil) (fun _ _ h => zA0 (h.1)) ?_))))
  intro w Qd mL1 s hs
  obtain ⟨zEj, zCP, zD2⟩ := s
  obtain ⟨H, zQ1⟩ := hs
  replace H : JB p1 (mL1 + 1) zEj zCP zD2 = some r := H
  replace hf1 := fun w' he => hf1 w' (Qd.ext.trans he)
  replace leB := leB.trans Qd
  replace zQ1 : zEj.length = p0.length := zQ1
  have zPk : SlF zC zEj.length zD := (by rw [zQ1]; exact zCV)
  rw [JB.eq_2] at H
  show Tr _ _ (LF [(0, sL zC zEj zD), (1, .func (.func fid1) #[] cap1.toArray), (5, iv zCP), (6, iv zD2)]) (LE [(0, ow zC zD 36 zK zEj)]) _
  refine Tr.seq (Tr.sr (Tr.mv rfl rfl (Tr.mv rfl rfl (Tr.va rfl (fun _ _ a c => QJ zA8 (a.ev rfl)) ?_))))
  refine Tr.va rfl (fun _ _ a c => QI (a.ev rfl) (a.ev rfl)) ?_
  refine Tr.nil (Tr.zA (Tr.cond rfl H (fun H => ?_) (fun H => ?_)))
  ·refine Tr.skip (Tr.zA (Tr.seq (Tr.block (Tr.sr (Tr.mv rfl rfl (Tr.mv rfl rfl ?_))))))
   obtain ⟨WH, zjt, H⟩ := bnd H
   obtain ⟨hx1230, hx1231, hx1232⟩ := zz zjt
   refine Tr.va rfl (fun _ _ a c => zM zCj (a.ev rfl) zPk (a.ev rfl) hx1230 hx1231) ?_
   refine Tr.va rfl (fun _ _ a c => zZ (cs := [iv WH.X0, iv WH.Y0, iv WH.X1, iv WH.Y1]) zBz Ku (a.ev rfl) (zR.take (rdo Vg (k := 0) c rfl hx1232) 4) rfl) ?_
   refine Tr.alloc 4 (wn rfl) rfl zD3 fun zcr => ?_
   refine Tr.store 4 (cs := [iv WH.X0, iv WH.Y0, iv WH.X1, iv WH.Y1]) [iv WH.X0, iv WH.Y0, iv WH.X1, iv WH.Y1] (wn rfl) rfl rfl rfl rfl Ku rfl rfl rfl ?_
   refine Tr.nil (Tr.zA (Tr.sr (Tr.mv rfl rfl (Tr.va rfl (fun _ _ a c => zZ (cs := [iv WH.X0, iv WH.Y0, iv WH.X1, iv WH.Y1]) zBz Ku (a.ev rfl) (zR.take (rdb c (vs := [iv WH.X0, iv WH.Y0, iv WH.X1, iv WH.Y1]) (k := 4) rfl 0) 4) rfl) ?_))))
   obtain ⟨zD1, zPP, H⟩ := bnd H
   refine Tr.zNW (r := (bV zD1)) (wn rfl) rfl rfl hg1 (zI rfl zT) (fun W hW => hf1 hW.all hW.Qx WH _ zPP) ?_
   refine Tr.va rfl (fun _ _ a c => Km (a.ev rfl)) ?_
   refine Tr.nil (Tr.zA (Tr.cond rfl H (fun H => ?_) (fun H => ?_)))
   ·refine Tr.sr (Tr.mv rfl rfl (Tr.mv rfl rfl (Tr.va rfl (fun _ _ a c => zZ (cs := [iv WH.X0, iv WH.Y0, iv WH.X1, iv WH.Y1]) zBz Ku (a.ev rfl) (zR.take (rdb c (vs := [iv WH.X0, iv WH.Y0, iv WH.X1, iv WH.Y1]) (k := 4) rfl 0) 4) rfl) ?_)))
    obtain ⟨zNd, zjs, H⟩ := bnd H
    obtain ⟨zgR, zgQ, zgP⟩ := zz zjs
    refine Tr.va rfl (fun _ _ a c => zM zCj (a.ev rfl) zPk (a.ev rfl) zgR zgQ) ?_
    obtain ⟨zR1, zdX, H⟩ := bnd H
    have zMk := zG9 zdX
    refine Tr.zHj 0 (t := zK) (l := zEj) (i := zCP) (fo := 0) (cs := [iv WH.X0, iv WH.Y0, iv WH.X1, iv WH.Y1]) WH (wn rfl) rfl rfl rfl rfl rfl zgP Ku rfl (fun u _ => ⟨u, trivial, rfl⟩) rfl zdX ?_
    have zms : SlF zC zR1.length zD := by rw [zMk]; exact zPk
    have hsl127 := zMk.trans zQ1
    refine Tr.sel (lf := [(0, sL zC zR1 zD), (1, .func (.func fid1) #[] cap1.toArray), (5, iv zCP), (6, iv zD2), (7, pV zcr), (16, iv zD2), (17, sL zC zR1 zD), (18, iv (zEj.length : Int)), (19, bV (decide (zD2 < (zEj.length : Int)))), (22, sL zC zR1 zD), (23, iv zD2), (25, .agg #[iv WH.X0, iv WH.Y0, iv WH.X1, iv WH.Y1]), (26, .func (.func fid1) #[] cap1.toArray), (27, .agg #[iv WH.X0, iv WH.Y0, iv WH.X1, iv WH.Y1]), (28, bV zD1), (29, bV (!zD1)), (30, sL zC zR1 zD), (31, iv zCP), (32, .agg #[iv WH.X0, iv WH.Y0, iv WH.X1, iv WH.Y1])]) (le := [(0, ow zC zD 36 zK zR1), (4, bx zcr #[iv WH.X0, iv WH.Y0, iv WH.X1, iv WH.Y1] 36)]) (.cons (VK rfl (by unfold sL; rw [zMk])) (.cons rfl (.cons rfl (.cons rfl (.cons rfl (.cons rfl (.cons (VK rfl (by unfold sL; rw [zMk])) (.cons rfl (.cons rfl (.cons (VK rfl (by unfold sL; rw [zMk])) (.cons rfl (.cons rfl (.cons rfl (.cons rfl (.cons rfl (.cons rfl (.cons (VK rfl (by unfold sL; rw [zMk])) (.cons rfl (.cons rfl .nil))))))))))))))))))) (.cons rfl (.cons rfl .nil)) ?_
    refine Tr.nil (Tr.zA (Tr.region (Tr.mv rfl rfl (Tr.va rfl (fun _ _ a c => QK (a.ev rfl) (a.ev rfl)) ?_))))
    refine Tr.asg rfl rfl (Tr.nil (Tr.zl (Tr.zA (Tr.region (Tr.mv rfl rfl (Tr.va rfl (fun _ _ a c => QK (a.ev rfl) (a.ev rfl)) ?_))))))
    exact Tr.asg rfl rfl (Tr.nil (Tr.zn Qd (zR1, (w64 (zCP + 1)), (w64 (zD2 + 1))) ⟨H, hsl127⟩ (.cons rfl (.cons rfl (.cons rfl (.cons rfl .nil)))) (.cons rfl .nil)))
   ·refine Tr.skip (Tr.zl (Tr.zA (Tr.region (Tr.mv rfl rfl (Tr.va rfl (fun _ _ a c => QK (a.ev rfl) (a.ev rfl)) ?_)))))
    exact Tr.asg rfl rfl (Tr.nil (Tr.zn Qd (zEj, zCP, (w64 (zD2 + 1))) ⟨H, zQ1⟩ (.cons rfl (.cons rfl (.cons rfl (.cons rfl .nil)))) (.cons rfl .nil)))
  ·refine Tr.exit (Tr.zk (Tr.zk (Tr.QV (Tr.zA (Tr.sr (Tr.mv rfl rfl (Tr.mv rfl rfl ?_)))))))
   obtain ⟨zCB, zI9, H⟩ := bnd H
   refine Tr.va rfl (fun _ _ a c => zIz zCj (a.ev rfl) zPk (a.ev rfl) zI9) ?_
   have hnhcl128 := zcm (zS.mk 0 0 0 0) zI9
   refine Tr.zau 0 (lo := zCP) (t := zK) (l := zEj) (zS.mk 0 0 0 0) (wn rfl) rfl zI9 rfl zA8 zD3 ⟨(), WI _ _ _ _, Vg _ _⟩ rfl rfl ?_
   have zUG : SlF zC ((clr zEj zCP zCB.length (zS.mk 0 0 0 0))).length zD := by rw [hnhcl128]; exact zPk
   have hshcl128 := hnhcl128.trans zQ1
   refine Tr.sel (lf := [(0, sL zC ((clr zEj zCP zCB.length (zS.mk 0 0 0 0))) zD), (1, .func (.func fid1) #[] cap1.toArray), (5, iv zCP), (6, iv zD2), (16, iv zD2), (17, sL zC ((clr zEj zCP zCB.length (zS.mk 0 0 0 0))) zD), (18, iv (zEj.length : Int)), (19, bV (decide (zD2 < (zEj.length : Int)))), (36, sL zC ((clr zEj zCP zCB.length (zS.mk 0 0 0 0))) zD), (37, iv zCP)]) (le := [(0, ow zC zD 36 zK (clr zEj zCP zCB.length (zS.mk 0 0 0 0)))]) (.cons (VK rfl (by unfold sL; rw [hnhcl128])) (.cons rfl (.cons rfl (.cons rfl (.cons rfl (.cons (VK rfl (by unfold sL; rw [hnhcl128])) (.cons rfl (.cons rfl (.cons (VK rfl (by unfold sL; rw [hnhcl128])) (.cons rfl .nil)))))))))) (.cons rfl .nil) ?_
   refine Tr.nil (Tr.zA (Tr.sr (Tr.mv rfl rfl (Tr.mv rfl rfl ?_))))
   obtain ⟨zeM, zaC, H⟩ := bnd H
   refine Tr.va rfl (fun _ _ a c => zWD zCj (a.ev rfl) zUG (a.ev rfl) zaC) ?_
   refine Tr.asg rfl rfl (Tr.nil (Tr.zA (Tr.ret ?_)))
   obtain rfl := oI H
   refine Tr.zV9 0 zaC rfl ?_
   exact Tr.out (m := [sL zC zeM zD]) [] (zW rfl zX) (fun W hW => ⟨(zC, zD), rfl, (zO3 zUG zaC), HF.zFO leB (hW.pick (ks := [0]) (by decide) (zQ rfl zf)) ⟨zCA _ _ _ _ WI, trivial⟩⟩)

theorem zH9 {w : Bs} (p0 : zS) (p1 : zS) (r : Int) (H : Vo p0 p1 = some r) (hE : HF w w.W E0) : Calls Tryz.prog 114 [.agg #[iv p0.X0, iv p0.Y0, iv p0.X1, iv p0.Y1], .agg #[iv p1.X0, iv p1.Y0, iv p1.X1, iv p1.Y1]].toArray w.W fun e W' => e = .returned (iv r) ∧ HF w W' E0 := by
 unfold Vo at H
 have leB := Bs.Le.refl w
 refine Tr.enter (n := 10) Tryz.func114 rfl rfl rfl hE ?_
 refine Tr.sr (Tr.box 1 (cs := [iv p0.X0, iv p0.Y0, iv p0.X1, iv p0.Y1]) (wn rfl) rfl rfl rfl fun QE => ?_)
 refine Tr.box 2 (cs := [iv p1.X0, iv p1.Y0, iv p1.X1, iv p1.Y1]) (wn rfl) rfl rfl rfl fun Qw => ?_
 refine Tr.asg rfl rfl (Tr.nil (Tr.zA (Tr.sr (Tr.va rfl (fun _ _ a c => zB WR (a.ev rfl)) ?_))))
 refine Tr.va rfl (fun _ _ a c => zF QH (a.ev rfl) (rdb c (vs := [iv p0.X0, iv p0.Y0, iv p0.X1, iv p0.Y1]) (k := 1) rfl 0) rfl) ?_
 refine Tr.va rfl (fun _ _ a c => zB WR (a.ev rfl)) ?_
 refine Tr.va rfl (fun _ _ a c => zF QH (a.ev rfl) (rdb c (vs := [iv p1.X0, iv p1.Y0, iv p1.X1, iv p1.Y1]) (k := 2) rfl 0) rfl) ?_
 refine Tr.va rfl (fun _ _ a c => Wy (a.ev rfl) (a.ev rfl)) ?_
 refine Tr.asg rfl rfl (Tr.nil (Tr.zA (Tr.ret ?_)))
 obtain rfl := oI H
 exact Tr.out (m := [iv (w64 (p0.X0 - p1.X0))]) [] (zW rfl zX) (fun W hW => ⟨rfl, hW.low leB⟩)

theorem zJR {w : Bs} (p0 : (List zS)) (zC : Option Addr) (zD : Nat) (r : ((List Int) × (List zS))) (H : zAp p0 = some r) (hE : HF w w.W (LEn [ow zC zD 36 zK p0, emp])) : Calls Tryz.prog 88 [sL zC p0 zD].toArray w.W fun e W' => ∃ u : (Option Addr × Nat), e = .returned (sL u.1 r.1 u.2) ∧ (SlF u.1 r.1.length u.2 ∧ r.2.length = p0.length) ∧ HF w W' (LEn [ow zC zD 36 zK r.2, ow u.1 u.2 3 QG r.1]) := by
 unfold zAp at H
 have zCV := (hE.sl (k := 0) rfl).form
 have leB := Bs.Le.refl w
 refine Tr.enter (n := 48) Tryz.func88 rfl rfl rfl hE ?_
 refine Tr.sr (Tr.asg rfl rfl (Tr.JU 1 3 QG ?_))
 show Tr _ _ (uf _ 2 (sL none (([] : List Int)) 0)) _ _
 refine Tr.nil (Tr.zA (Tr.sr (Tr.mv rfl rfl ?_)))
 obtain ⟨zy, Ws, H⟩ := bnd H
 refine Tr.VM [0] [ow zC zD 36 zK p0] (U := Unit) (fun u => (.tuple #[])) (fun u => zy.length = p0.length) (fun u => [ow zC zD 36 zK zy]) rfl (zQ rfl zf) (fun _ => rfl) (wn rfl) rfl Tryz.call81 (zI rfl (zI rfl zT)) (fun W hW hp hE => zAS p0 zC zD (fun z0 z1 => Vo z0 z1) 114 [] Tryz.call114 (fun w' he z0 z1 y hy => zH9 z0 z1 y hy (HF.start _)) zy Ws hE) ?_
 intro u hu
 have gky100_0 := hu
 have zJ0 : zy.length = p0.length := gky100_0 --@phi
 have zMq : SlF zC zy.length zD := by rw [zJ0]; exact zCV
 have hsky100_0 := zJ0.trans rfl
 show Tr _ _ (uf _ 8 (.tuple #[])) (up _ 0 (ow zC zD 36 zK zy)) _
 refine Tr.sel (lf := [(0, sL zC zy zD), (2, sL none (([] : List Int)) 0), (7, sL zC zy zD), (8, (.tuple #[]))]) (le := [(0, ow zC zD 36 zK zy), (1, ow none 0 3 QG ([] : List Int))]) (.cons (VK rfl (by unfold sL; rw [zJ0])) (.cons rfl (.cons (VK rfl (by unfold sL; rw [zJ0])) (.cons rfl .nil)))) (.cons rfl (.cons rfl .nil)) ?_
 refine Tr.nil (Tr.zA (Tr.sr (Tr.asg rfl rfl (Tr.JU 2 3 QG ?_))))
 show Tr _ _ (uf _ 3 (sL none (([] : List Int)) 0)) _ _
 refine Tr.nil (Tr.zA (Tr.seq (Tr.sr (Tr.mv rfl rfl (Tr.va rfl (fun _ _ a c => QJ zA8 (a.ev rfl)) ?_)))))
 refine Tr.mv rfl rfl (Tr.nil (Tr.zA (Tr.block (Tr.loop (σ := (List zS) × Nat × (List Int) × (Option Addr) × Nat) (fun m w s => m = s.1.length + 1 ∧ s.1 = List.drop s.2.1 zy ∧ s.2.1 ≤ zy.length ∧ Jd zy s.1 s.2.1 s.2.2.1 = some r ∧ SlF s.2.2.2.1 s.2.2.1.length s.2.2.2.2) (fun s => [(3, sL s.2.2.2.1 s.2.2.1 s.2.2.2.2), (9, sL zC zy zD), (10, iv (zy.length : Int)), (11, iv (s.2.1 : Int))]) (fun s => [(0, ow zC zD 36 zK zy), (2, ow s.2.2.2.1 s.2.2.2.2 3 QG s.2.2.1)]) (zy.length + 1) (zy, 0, ([] : List Int), none, 0) ⟨rfl, rfl, Nat.zero_le _, H, Kk⟩ (.cons rfl (.cons rfl (.cons rfl (.cons rfl .nil)))) (.cons rfl (.cons rfl .nil)) (fun _ _ h => absurd h.1 (by simp)) ?_))))
 intro w Qd m s hs
 obtain ⟨zY, iL1, zCB, zIb, zIV⟩ := s
 obtain ⟨Kj, QF, hiL1, H, zI9⟩ := hs
 replace QF : zY = List.drop iL1 zy := QF
 replace H : Jd zy zY iL1 zCB = some r := H
 replace Kj : m + 1 = zY.length + 1 := Kj
 replace leB := leB.trans Qd
 replace zI9 : SlF zIb zCB.length zIV := zI9
 obtain rfl : m = zY.length := by omega
 clear Kj
 show Tr _ _ (LF [(3, sL zIb zCB zIV), (9, sL zC zy zD), (10, iv (zy.length : Int)), (11, iv (iL1 : Int))]) (LE [(0, ow zC zD 36 zK zy), (2, ow zIb zIV 3 QG zCB)]) _
 cases zY with
 | nil =>
  rw [Jd.eq_1] at H
  refine Tr.sr (Tr.va rfl (fun _ _ a c => QI (a.ev rfl) (a.ev rfl)) ?_)
  refine Tr.nil (Tr.zA (Tr.seq (Tr.WL rfl (JS QF) ?_)))
  refine Tr.exit (Tr.zk (Tr.zk (Tr.QV (Tr.zA (Tr.sr (Tr.mv rfl rfl (Tr.asg rfl rfl (Tr.nil (Tr.zA (Tr.ret ?_))))))))))
  obtain rfl := oI H
  exact Tr.out (m := [sL zIb zCB zIV]) [] (zW rfl zX) (fun W hW => ⟨(zIb, zIV), rfl, ⟨zI9, hsky100_0⟩, HF.zFO leB (hW.pick (ks := [0, 2]) (by decide) (zQ rfl (zQ rfl zf))) ⟨zCA _ _ _ _ WI, zCA _ _ _ _ zRf, trivial⟩⟩)
 | cons xL1 zY =>
  rw [Jd.eq_2] at H
  refine Tr.sr (Tr.va rfl (fun _ _ a c => QI (a.ev rfl) (a.ev rfl)) ?_)
  refine Tr.nil (Tr.zA (Tr.seq (Tr.WK rfl (Jt QF) ?_)))
  refine Tr.skip (Tr.zA (Tr.seq (Tr.block (Tr.sr (Tr.va rfl (fun _ _ a c => zM zCj (a.ev rfl) zMq (a.ev rfl) (Int.natCast_nonneg _) (QB QF)) ?_)))))
  refine Tr.va rfl (fun _ _ a c => zZ (cs := [iv xL1.X0, iv xL1.Y0, iv xL1.X1, iv xL1.Y1]) zBz Ku (a.ev rfl) (zR.take (rdo Vg (k := 0) c rfl (KL QF)) 4) rfl) ?_
  refine Tr.alloc 7 (wn rfl) rfl zD3 fun za9 => ?_
  refine Tr.store 7 (cs := [iv xL1.X0, iv xL1.Y0, iv xL1.X1, iv xL1.Y1]) [iv xL1.X0, iv xL1.Y0, iv xL1.X1, iv xL1.Y1] (wn rfl) rfl rfl rfl rfl Ku rfl rfl rfl ?_
  refine Tr.nil (Tr.zA (Tr.sr (Tr.mv rfl rfl (Tr.va rfl (fun _ _ a c => QJ zCg (a.ev rfl)) ?_))))
  refine Tr.va rfl (fun _ _ a c => Wy (a.ev rfl) (a.ev rfl)) ?_
  refine Tr.asg rfl rfl (Tr.nil (Tr.zA (Tr.seq (Tr.draw (by kernel_rfl) (by kernel_rfl) ?_))))
  refine Tq.mv rfl rfl (Tq.va rfl (fun _ _ a c => zFN (a.ev rfl) (a.ev rfl)) ?_)
  refine Tq.mv rfl rfl ?_
  obtain ⟨zcb, zRA, H⟩ := bnd H
  refine Tq.mid 8 [(3, sL zIb zCB zIV), (5, pV za9), (6, iv (w64 ((zCB.length : Int) - 1))), (9, sL zC zy zD), (10, iv (zy.length : Int)), (11, iv (iL1 : Int)), (28, bV zcb)] ?_ ?_
  ·cases zdd : (decide (0 ≤ (w64 ((zCB.length : Int) - 1))))
   ·rw [zdd] at zRA
    rw [if_neg (by decide)] at zRA
    have H := zRA
    obtain rfl := oI H
    refine Tq.pass rfl rfl rfl rfl rfl (by decide) ?_
    refine Tq.pass rfl rfl rfl rfl rfl (by decide) ?_
    refine Tq.pass rfl rfl rfl rfl rfl (by decide) ?_
    refine Tq.pass rfl rfl rfl rfl rfl (by decide) ?_
    refine Tq.pass rfl rfl rfl rfl rfl (by decide) ?_
    refine Tq.pass rfl rfl rfl rfl rfl (by decide) ?_
    refine Tq.pass rfl rfl rfl rfl rfl (by decide) ?_
    refine Tq.va rfl (fun _ _ a c => zx (a.ev rfl) (a.ev rfl)) ?_
    exact Tq.fin (.cons rfl (.cons rfl (.cons rfl (.cons rfl (.cons rfl (.cons rfl (.cons rfl .nil)))))))
   ·rw [zdd] at zRA
    rw [if_pos rfl] at zRA
    have H := zRA
    refine Tq.val (wg rfl rfl rfl) rfl (fun _ _ a c => zB WR (a.ev rfl)) ?_
    refine Tq.val (wg rfl rfl rfl) rfl (fun _ _ a c => zF QH (a.ev rfl) (rdb c (vs := [iv xL1.X0, iv xL1.Y0, iv xL1.X1, iv xL1.Y1]) (k := 7) rfl 0) rfl) ?_
    refine Tq.val (wg rfl rfl rfl) rfl (fun _ _ a c => run_move (a.ev rfl)) ?_
    refine Tq.val (wg rfl rfl rfl) rfl (fun _ _ a c => run_move (a.ev rfl)) ?_
    obtain ⟨zhe, zjo, H⟩ := bnd H
    obtain ⟨zgF, zgE, zgD⟩ := zz zjo
    refine Tq.val (wg rfl rfl rfl) rfl (fun _ _ a c => zM zAl (a.ev rfl) zI9 (a.ev rfl) zgF zgE) ?_
    refine Tq.val (wg rfl rfl rfl) rfl (fun _ _ a c => zF QH (a.ev rfl) (rdo Vx (k := 2) c rfl zgD) rfl) ?_
    refine Tq.val (wg rfl rfl rfl) rfl (fun _ _ a c => zAW (a.ev rfl) (a.ev rfl)) ?_
    refine Tq.va rfl (fun _ _ a c => zw (a.ev rfl) (a.ev rfl)) ?_
    obtain rfl := oI H
    exact Tq.fin (.cons rfl (.cons rfl (.cons rfl (.cons rfl (.cons rfl (.cons rfl (.cons rfl .nil)))))))
  ·refine Tq.nil (Tr.zA (Tr.cond rfl H (fun H => ?_) (fun H => ?_)))
   ·refine Tr.zCv 9 (by kernel_rfl) (by kernel_rfl) ?_
    refine Tq.mv rfl rfl (Tq.mv rfl rfl (Tq.mv rfl rfl (Tq.mv rfl rfl ?_)))
    obtain ⟨zEc, zjn, H⟩ := bnd H
    obtain ⟨zgC, zgB, zgA⟩ := zz zjn
    refine Tq.va rfl (fun _ _ a c => zM zAl (a.ev rfl) zI9 (a.ev rfl) zgC zgB) ?_
    refine Tq.va rfl (fun _ _ a c => zF QH (a.ev rfl) (rdo Vx (k := 2) c rfl zgA) rfl) ?_
    refine Tq.va rfl (fun _ _ a c => zB zC5 (a.ev rfl)) ?_
    refine Tq.va rfl (fun _ _ a c => zF QH (a.ev rfl) (rdb c (vs := [iv xL1.X0, iv xL1.Y0, iv xL1.X1, iv xL1.Y1]) (k := 7) rfl 2) rfl) ?_
    refine Tq.va rfl (fun _ _ a c => zGZ (a.ev rfl) (a.ev rfl) _) ?_
    refine Tq.nil ?_
    obtain ⟨zG7, zjm, H⟩ := bnd H
    obtain ⟨zf9, zf8, zf7⟩ := zz zjm
    refine Tr.va rfl (fun _ _ a c => zM zAl (a.ev rfl) zI9 (a.ev rfl) zf9 zf8) ?_
    obtain ⟨zTn, zdV, H⟩ := bnd H
    have zSD := zG9 zdV
    refine Tr.zHj 2 (t := QG) (l := zCB) (i := (w64 ((zCB.length : Int) - 1))) (fo := 0) (cs := [iv (max zEc xL1.X1)]) (max zEc xL1.X1) (wn rfl) rfl rfl rfl rfl rfl zf7 zKQ rfl (fun u _ => ⟨u, trivial, rfl⟩) rfl zdV ?_
    have zgp : SlF zIb zTn.length zIV := by rw [zSD]; exact zI9
    refine Tr.sel (lf := [(3, sL zIb zTn zIV), (5, pV za9), (6, iv (w64 ((zCB.length : Int) - 1))), (9, sL zC zy zD), (10, iv (zy.length : Int)), (11, iv (iL1 : Int)), (28, bV zcb), (29, sL zIb zTn zIV), (30, iv (w64 ((zCB.length : Int) - 1))), (31, sL zIb zTn zIV), (32, iv (w64 ((zCB.length : Int) - 1))), (34, iv zEc), (35, .pointer (some ⟨za9, 2, none⟩)), (36, iv xL1.X1), (37, iv (max zEc xL1.X1))]) (le := [(0, ow zC zD 36 zK zy), (2, ow zIb zIV 3 QG zTn), (7, bx za9 #[iv xL1.X0, iv xL1.Y0, iv xL1.X1, iv xL1.Y1] 36)]) (.cons (VK rfl (by unfold sL; rw [zSD])) (.cons rfl (.cons rfl (.cons rfl (.cons rfl (.cons rfl (.cons rfl (.cons (VK rfl (by unfold sL; rw [zSD])) (.cons rfl (.cons (VK rfl (by unfold sL; rw [zSD])) (.cons rfl (.cons rfl (.cons rfl (.cons rfl (.cons rfl .nil))))))))))))))) (.cons rfl (.cons rfl (.cons rfl .nil))) ?_
    refine Tr.nil (Tr.zl (Tr.zA (Tr.region (Tr.va rfl (fun _ _ a c => QK (a.ev rfl) (a.ev rfl)) ?_))))
    exact Tr.mv rfl rfl (Tr.nil (Tr.zn Qd (zY, (iL1 + 1), zTn, zIb, zIV) ⟨rfl, Qu QF, QB QF, H, zgp⟩ (.cons rfl (.cons rfl (.cons rfl (.cons (congrArg (fun z => some (Value.int .i64 z)) (Qt QF zMq)) .nil)))) (.cons rfl (.cons rfl .nil))))
   ·refine Tr.region (Tr.mv rfl rfl (Tr.va rfl (fun _ _ a c => zB WR (a.ev rfl)) ?_))
    refine Tr.va rfl (fun _ _ a c => zF QH (a.ev rfl) (rdb c (vs := [iv xL1.X0, iv xL1.Y0, iv xL1.X1, iv xL1.Y1]) (k := 7) rfl 0) rfl) ?_
    refine Tr.va rfl (fun _ _ a c => zB zC5 (a.ev rfl)) ?_
    refine Tr.va rfl (fun _ _ a c => zF QH (a.ev rfl) (rdb c (vs := [iv xL1.X0, iv xL1.Y0, iv xL1.X1, iv xL1.Y1]) (k := 7) rfl 2) rfl) ?_
    refine Tr.buildSlice 8 (e := 3) (vs := [(0, iv xL1.X0), (1, iv xL1.X1)]) (cs := [iv xL1.X0, iv xL1.X1]) (wn rfl) rfl (zq rfl (zq rfl Qi)) (by kernel_rfl) fun zcq => ?_
    obtain ⟨zeK, zkR, H⟩ := bnd H
    refine Tr.append 2 (t := QG) (l := zCB) (l2 := [xL1.X0, xL1.X1]) (wn rfl) rfl rfl rfl rfl (fun W hW => ⟨[[iv xL1.X0], [iv xL1.X1]], (.cons ⟨(), trivial, rfl⟩ (.cons ⟨(), trivial, rfl⟩ .nil)), rdb hW (vs := [iv xL1.X0, iv xL1.X1]) (k := 8) rfl 0⟩) zCg zKQ zYN (by decide) za5 rfl zkR fun zlT zlC hAl137 => ?_
    refine Tr.asg rfl rfl (Tr.nil (Tr.zl (Tr.zA (Tr.region (Tr.va rfl (fun _ _ a c => QK (a.ev rfl) (a.ev rfl)) ?_)))))
    exact Tr.mv rfl rfl (Tr.nil (Tr.zn Qd (zY, (iL1 + 1), zeK, zlT, zlC) ⟨rfl, Qu QF, QB QF, H, hAl137⟩ (.cons rfl (.cons rfl (.cons rfl (.cons (congrArg (fun z => some (Value.int .i64 z)) (Qt QF zMq)) .nil)))) (.cons rfl (.cons rfl .nil))))

theorem zIk {w : Bs} (p0 : (List Int)) (zC : Option Addr) (zD : Nat) (zU : Sl w.R w.W QG zC zD p0) (p1 : (List Int)) (zh : Option Addr) (zg : Nat) (Qh : Sl w.R w.W QG zh zg p1) (r : Bool) (H : zAT p0 p1 = some r) (hE : HF w w.W E0) : Calls Tryz.prog 113 [sL zC p0 zD, sL zh p1 zg].toArray w.W fun e W' => e = .returned (bV r) ∧ HF w W' E0 := by
 unfold zAT at H
 have leB := Bs.Le.refl w
 refine Tr.enter (n := 26) Tryz.func113 rfl rfl rfl hE ?_
 refine Tr.sr (Tr.asg rfl rfl (Tr.nil (Tr.zA (Tr.seq (Tr.sr (Tr.mv rfl rfl (Tr.va rfl (fun _ _ a c => QJ zCg (a.ev rfl)) ?_)))))))
 refine Tr.mv rfl rfl (Tr.va rfl (fun _ _ a c => QJ zCg (a.ev rfl)) ?_)
 refine Tr.va rfl (fun _ _ a c => KY (a.ev rfl) (a.ev rfl)) ?_
 refine Tr.nil (Tr.zA (Tr.cond rfl H (fun H => ?_) (fun H => ?_)))
 ·refine Tr.sr (Tr.asg rfl rfl (Tr.nil (Tr.zA (Tr.ret (Tr.zi ?_)))))
  obtain rfl := oI H
  exact Tr.out (m := [bV false]) [] (zW rfl zX) (fun W hW => ⟨rfl, hW.low leB⟩)
 ·refine Tr.skip (Tr.zA (Tr.seq (Tr.sr (Tr.mv rfl rfl (Tr.va rfl (fun _ _ a c => QJ zCg (a.ev rfl)) ?_)))))
  refine Tr.mv rfl rfl (Tr.nil (Tr.zA (Tr.block (Tr.loop (σ := (List Int) × Nat) (fun m w s => m = s.1.length + 1 ∧ s.1 = List.drop s.2 p0 ∧ s.2 ≤ p0.length ∧ Jl p1 s.1 s.2 = some r) (fun s => [(0, sL zC p0 zD), (1, sL zh p1 zg), (12, iv (p0.length : Int)), (13, iv (s.2 : Int))]) (fun s => []) (p0.length + 1) (p0, 0) ⟨rfl, rfl, Nat.zero_le _, H⟩ (.cons rfl (.cons rfl (.cons rfl (.cons rfl .nil)))) .nil (fun _ _ h => absurd h.1 (by simp)) ?_))))
  intro w Qd m s hs
  obtain ⟨zY, iL1⟩ := s
  obtain ⟨Kj, QF, hiL1, H⟩ := hs
  replace QF : zY = List.drop iL1 p0 := QF
  replace H : Jl p1 zY iL1 = some r := H
  replace Kj : m + 1 = zY.length + 1 := Kj
  replace zU := zU.leR Qd
  replace Qh := Qh.leR Qd
  replace leB := leB.trans Qd
  obtain rfl : m = zY.length := by omega
  clear Kj
  show Tr _ _ (LF [(0, sL zC p0 zD), (1, sL zh p1 zg), (12, iv (p0.length : Int)), (13, iv (iL1 : Int))]) (LE []) _
  cases zY with
  | nil =>
   rw [Jl.eq_1] at H
   refine Tr.sr (Tr.va rfl (fun _ _ a c => QI (a.ev rfl) (a.ev rfl)) ?_)
   refine Tr.nil (Tr.zA (Tr.seq (Tr.WL rfl (JS QF) ?_)))
   refine Tr.exit (Tr.zk (Tr.zk (Tr.QV (Tr.zA (Tr.sr (Tr.asg rfl rfl (Tr.nil (Tr.zA (Tr.ret ?_)))))))))
   obtain rfl := oI H
   exact Tr.out (m := [bV true]) [] (zW rfl zX) (fun W hW => ⟨rfl, hW.low leB⟩)
  | cons xL1 zY =>
   rw [Jl.eq_2] at H
   refine Tr.sr (Tr.va rfl (fun _ _ a c => QI (a.ev rfl) (a.ev rfl)) ?_)
   refine Tr.nil (Tr.zA (Tr.seq (Tr.WK rfl (Jt QF) ?_)))
   refine Tr.skip (Tr.zA (Tr.seq (Tr.block (Tr.sr (Tr.mv rfl rfl (Tr.asg rfl rfl (Tr.nil (Tr.zA (Tr.seq (Tr.draw (by kernel_rfl) (by kernel_rfl) ?_))))))))))
   refine Tq.mv rfl rfl (Tq.mv rfl rfl (Tq.va rfl (fun _ _ a c => zM zAl (a.ev rfl) zU.form (a.ev rfl) (Int.natCast_nonneg _) (QB QF)) ?_))
   refine Tq.va rfl (fun _ _ a c => zF QH (a.ev rfl) (rdF Vx zU (KL QF) c) rfl) ?_
   refine Tq.mv rfl rfl (Tq.mv rfl rfl ?_)
   obtain ⟨x103, zT2, H⟩ := bnd H
   obtain ⟨zPd, zPc, zPb⟩ := zz zT2
   refine Tq.va rfl (fun _ _ a c => zM zAl (a.ev rfl) Qh.form (a.ev rfl) zPd zPc) ?_
   refine Tq.va rfl (fun _ _ a c => zF QH (a.ev rfl) (rdF Vx Qh zPb c) rfl) ?_
   refine Tq.va rfl (fun _ _ a c => KY (a.ev rfl) (a.ev rfl)) ?_
   refine Tq.nil (Tr.zA (Tr.cond rfl H (fun H => ?_) (fun H => ?_)))
   ·refine Tr.sr (Tr.asg rfl rfl (Tr.nil (Tr.zA (Tr.ret (Tr.QT (Tr.zi (Tr.zi (Tr.QT (Tr.zi ?_)))))))))
    obtain rfl := oI H
    exact Tr.out (m := [bV false]) [] (zW rfl zX) (fun W hW => ⟨rfl, hW.low leB⟩)
   ·refine Tr.skip (Tr.zl (Tr.zA (Tr.region (Tr.va rfl (fun _ _ a c => QK (a.ev rfl) (a.ev rfl)) ?_))))
    exact Tr.mv rfl rfl (Tr.nil (Tr.zn Qd (zY, (iL1 + 1)) ⟨rfl, Qu QF, QB QF, H⟩ (.cons rfl (.cons rfl (.cons rfl (.cons (congrArg (fun z => some (Value.int .i64 z)) (Qt QF zU.form)) .nil)))) .nil))

theorem zCI {w : Bs} (p0 : (List ze)) (zC : Option Addr) (zD : Nat) (p1 : ze) (zh : Option Addr) (zg : Nat) (Qh : Sl w.O w.W QG zh zg p1.Xs) (r : (List ze)) (H : Ji p0 p1 = some r) (hE : HF w w.W (LEn [ow zC zD 107 zL p0])) : Calls Tryz.prog 87 [sL zC p0 zD, .agg #[iv p1.Y0, iv p1.Y1, sL zh p1.Xs zg]].toArray w.W fun e W' => ∃ (w' : Bs) (u : (Option Addr × Nat)), w.Le w' ∧ e = .returned (sL u.1 r u.2) ∧ (SlF u.1 r.length u.2) ∧ HF w' W' (LEn [ow u.1 u.2 107 zL r]) := by
 unfold Ji at H
 have zCV := (hE.sl (k := 0) rfl).form
 have leB := Bs.Le.refl w
 refine Tr.enter (n := 54) Tryz.func87 rfl rfl rfl hE ?_
 refine Tr.sr (Tr.box 1 (cs := [iv p1.Y0, iv p1.Y1, sL zh p1.Xs zg]) (wn rfl) rfl rfl rfl fun QE => ?_)
 refine Tr.asg rfl rfl (Tr.JU 2 107 zL ?_)
 show Tr _ _ (uf _ 4 (sL none (([] : List ze)) 0)) _ _
 refine Tr.nil (Tr.zA (Tr.seq (Tr.sr (Tr.va rfl (fun _ _ a c => zB zBB (a.ev rfl)) ?_))))
 refine Tr.va rfl (fun _ _ a c => zF zCx (a.ev rfl) (rdb c (vs := [iv p1.Y0, iv p1.Y1, sL zh p1.Xs zg]) (k := 1) rfl 2) rfl) ?_
 refine Tr.va rfl (fun _ _ a c => QJ zCg (a.ev rfl)) ?_
 refine Tr.va rfl (fun _ _ a c => Qn (a.ev rfl) (a.ev rfl)) ?_
 refine Tr.mv rfl rfl (Tr.Vr 6 [(0, sL zC p0 zD), (3, pV QE), (16, bV (((p1.Xs.length : Int) == 0) || (decide (p1.Y1 ≤ p1.Y0))))] [(0, ow zC zD 107 zL p0), (1, bx QE #[iv p1.Y0, iv p1.Y1, sL zh p1.Xs zg] 107), (2, ow none 0 107 zL ([] : List ze))] ?_ ?_)
 ·cases zJE : ((p1.Xs.length : Int) == 0)
  ·refine Tr.val (wg rfl rfl rfl) rfl (fun _ _ a c => zB zCD (a.ev rfl)) ?_
   refine Tr.val (wg rfl rfl rfl) rfl (fun _ _ a c => zF QH (a.ev rfl) (rdb c (vs := [iv p1.Y0, iv p1.Y1, sL zh p1.Xs zg]) (k := 1) rfl 1) rfl) ?_
   refine Tr.val (wg rfl rfl rfl) rfl (fun _ _ a c => zB zEn (a.ev rfl)) ?_
   refine Tr.val (wg rfl rfl rfl) rfl (fun _ _ a c => zF QH (a.ev rfl) (rdb c (vs := [iv p1.Y0, iv p1.Y1, sL zh p1.Xs zg]) (k := 1) rfl 0) rfl) ?_
   refine Tr.val (wg rfl rfl rfl) rfl (fun _ _ a c => zAW (a.ev rfl) (a.ev rfl)) ?_
   refine Tr.va rfl (fun _ _ a c => zx (a.ev rfl) (a.ev rfl)) ?_
   exact Tr.nil (Tr.JM (.cons rfl (.cons rfl (.cons rfl .nil))) (.cons rfl (.cons rfl (.cons rfl .nil))))
  ·refine Tr.pass rfl rfl rfl rfl rfl (by decide) ?_
   refine Tr.pass rfl rfl rfl rfl rfl (by decide) ?_
   refine Tr.pass rfl rfl rfl rfl rfl (by decide) ?_
   refine Tr.pass rfl rfl rfl rfl rfl (by decide) ?_
   refine Tr.pass rfl rfl rfl rfl rfl (by decide) ?_
   refine Tr.va rfl (fun _ _ a c => zw (a.ev rfl) (a.ev rfl)) ?_
   exact Tr.nil (Tr.JM (.cons rfl (.cons rfl (.cons rfl .nil))) (.cons rfl (.cons rfl (.cons rfl .nil))))
 ·show Tr _ _ (LF [(0, sL zC p0 zD), (3, pV QE), (16, bV (((p1.Xs.length : Int) == 0) || (decide (p1.Y1 ≤ p1.Y0))))]) (LE [(0, ow zC zD 107 zL p0), (1, bx QE #[iv p1.Y0, iv p1.Y1, sL zh p1.Xs zg] 107), (2, ow none 0 107 zL ([] : List ze))]) _
  refine Tr.nil (Tr.zA (Tr.cond rfl H (fun H => ?_) (fun H => ?_)))
  ·refine Tr.sr (Tr.mv rfl rfl (Tr.asg rfl rfl (Tr.nil (Tr.zA (Tr.ret (Tr.zi ?_))))))
   obtain rfl := oI H
   exact Tr.out (m := [sL zC p0 zD]) [] (zW rfl zX) (fun W hW => ⟨w, (zC, zD), leB, rfl, zCV, hW.pick (ks := [0]) (by decide) (zQ rfl zf)⟩)
  ·refine Tr.skip (Tr.zA (Tr.seq (Tr.sr (Tr.mv rfl rfl (Tr.va rfl (fun _ _ a c => QJ zFD (a.ev rfl)) ?_)))))
   refine Tr.va rfl (fun _ _ a c => Wy (a.ev rfl) (a.ev rfl)) ?_
   refine Tr.asg rfl rfl (Tr.nil (Tr.zA (Tr.seq (Tr.draw (by kernel_rfl) (by kernel_rfl) ?_))))
   refine Tq.mv rfl rfl (Tq.va rfl (fun _ _ a c => zFN (a.ev rfl) (a.ev rfl)) ?_)
   refine Tq.mv rfl rfl ?_
   obtain ⟨zQY, zHP, H⟩ := bnd H
   refine Tq.mid 9 [(0, sL zC p0 zD), (3, pV QE), (5, iv (w64 ((p0.length : Int) - 1))), (32, bV zQY)] ?_ ?_
   ·cases zJE : (decide (0 ≤ (w64 ((p0.length : Int) - 1))))
    ·rw [zJE] at zHP
     rw [if_neg (by decide)] at zHP
     have H := zHP
     obtain rfl := oI H
     refine Tq.pass rfl rfl rfl rfl rfl (by decide) ?_
     refine Tq.pass rfl rfl rfl rfl rfl (by decide) ?_
     refine Tq.pass rfl rfl rfl rfl rfl (by decide) ?_
     refine Tq.pass rfl rfl rfl rfl rfl (by decide) ?_
     refine Tq.pass rfl rfl rfl rfl rfl (by decide) ?_
     refine Tq.pass rfl rfl rfl rfl rfl (by decide) ?_
     refine Tq.pass rfl rfl rfl rfl rfl (by decide) ?_
     refine Tq.pass rfl rfl rfl rfl rfl (by decide) ?_
     refine Tq.va rfl (fun _ _ a c => zx (a.ev rfl) (a.ev rfl)) ?_
     exact Tq.fin (.cons rfl (.cons rfl (.cons rfl (.cons rfl .nil))))
    ·rw [zJE] at zHP
     rw [if_pos rfl] at zHP
     have H := zHP
     refine Tq.val (wg rfl rfl rfl) rfl (fun _ _ a c => run_move (a.ev rfl)) ?_
     refine Tq.val (wg rfl rfl rfl) rfl (fun _ _ a c => run_move (a.ev rfl)) ?_
     obtain ⟨x103, zT2, H⟩ := bnd H
     obtain ⟨zPd, zPc, zPb⟩ := zz zT2
     refine Tq.val (wg rfl rfl rfl) rfl (fun _ _ a c => zM zCi (a.ev rfl) zCV (a.ev rfl) zPd zPc) ?_
     refine Tq.val (wg rfl rfl rfl) rfl (fun _ _ a c => zB zCD (a.ev rfl)) ?_
     refine Tq.val (wg rfl rfl rfl) rfl (fun _ _ a c => (HF.atN (k := 0) c rfl zPb).elim fun u hu => zF QH (a.ev rfl) (hu.2.drop 1) rfl) ?_
     refine Tq.val (wg rfl rfl rfl) rfl (fun _ _ a c => zB zEn (a.ev rfl)) ?_
     refine Tq.val (wg rfl rfl rfl) rfl (fun _ _ a c => zF QH (a.ev rfl) (rdb c (vs := [iv p1.Y0, iv p1.Y1, sL zh p1.Xs zg]) (k := 1) rfl 0) rfl) ?_
     refine Tq.val (wg rfl rfl rfl) rfl (fun _ _ a c => Qn (a.ev rfl) (a.ev rfl)) ?_
     refine Tq.va rfl (fun _ _ a c => zw (a.ev rfl) (a.ev rfl)) ?_
     obtain rfl := oI H
     exact Tq.fin (.cons rfl (.cons rfl (.cons rfl (.cons rfl .nil))))
   ·refine Tq.mv rfl rfl ?_
    obtain ⟨zcf, zRF, H⟩ := bnd H
    refine Tq.mid 9 [(0, sL zC p0 zD), (3, pV QE), (5, iv (w64 ((p0.length : Int) - 1))), (42, bV zcf)] ?_ ?_
    ·cases zJE : zQY
     ·rw [zJE] at zRF
      rw [if_neg (by decide)] at zRF
      have H := zRF
      obtain rfl := oI H
      refine Tq.pass rfl rfl rfl rfl rfl (by decide) ?_
      refine Tq.pass rfl rfl rfl rfl rfl (by decide) ?_
      refine Tq.pass rfl rfl rfl rfl rfl (by decide) ?_
      refine Tq.pass rfl rfl rfl rfl rfl (by decide) ?_
      refine Tq.pass rfl rfl rfl rfl rfl (by decide) ?_
      refine Tq.pass rfl rfl rfl rfl rfl (by decide) ?_
      refine Tq.pass rfl rfl rfl rfl rfl (by decide) ?_
      refine Tq.pass rfl rfl rfl rfl rfl (by decide) ?_
      refine Tq.va rfl (fun _ _ a c => zx (a.ev rfl) (a.ev rfl)) ?_
      exact Tq.fin (.cons rfl (.cons rfl (.cons rfl (.cons rfl .nil))))
     ·rw [zJE] at zRF
      rw [if_pos rfl] at zRF
      have H := zRF
      refine Tq.val (wg rfl rfl rfl) rfl (fun _ _ a c => run_move (a.ev rfl)) ?_
      refine Tq.val (wg rfl rfl rfl) rfl (fun _ _ a c => run_move (a.ev rfl)) ?_
      obtain ⟨zEd, zT1, H⟩ := bnd H
      obtain ⟨zPX, zPW, zPV⟩ := zz zT1
      refine Tq.val (wg rfl rfl rfl) rfl (fun _ _ a c => zM zCi (a.ev rfl) zCV (a.ev rfl) zPX zPW) ?_
      refine Tq.val (wg rfl rfl rfl) rfl (fun _ _ a c => zB zBB (a.ev rfl)) ?_
      refine Tq.zS5 (U := (zL).Ad) (fun u => (zL).ok w.O w.W u zEd) (fun u => (sL u.1 zEd.Xs u.2)) (wg rfl rfl rfl) rfl (ldN (κ := 0) (t := zL) (V := fun u => (sL u.1 zEd.Xs u.2)) rfl zPV (fun _ _ u a hc => zF zCx (a.ev rfl) (hc.drop 2) rfl)) ?_
      intro zdr zR7
      obtain ⟨zOT, zN9⟩ := zdr
      have zJu := zR7
      replace zJu : Sl w.O w.W QG zOT zN9 zEd.Xs := zJu
      show Tq _ _ _ _ (uf _ 38 (sL zOT zEd.Xs zN9)) _ _ _
      refine Tq.val (wg rfl rfl rfl) rfl (fun _ _ a c => zB zBB (a.ev rfl)) ?_
      refine Tq.val (wg rfl rfl rfl) rfl (fun _ _ a c => zF zCx (a.ev rfl) (rdb c (vs := [iv p1.Y0, iv p1.Y1, sL zh p1.Xs zg]) (k := 1) rfl 2) rfl) ?_
      obtain ⟨zAc, zI7, H⟩ := bnd H
      refine Tq.JI (r := (bV zAc)) (wg rfl rfl rfl) rfl Tryz.call113 (zI rfl (zI rfl zT)) (fun W hW => zIk zEd.Xs zOT zN9 (zJu.rl.ext hW.Qx) p1.Xs zh zg (Qh.rl.ext hW.Qx) zAc zI7 (HF.start _)) ?_
      refine Tq.va rfl (fun _ _ a c => zw (a.ev rfl) (a.ev rfl)) ?_
      obtain rfl := oI H
      exact Tq.fin (.cons rfl (.cons rfl (.cons rfl (.cons rfl .nil))))
    ·refine Tq.nil (Tr.zA (Tr.cond rfl H (fun H => ?_) (fun H => ?_)))
     ·refine Tr.sr (Tr.mv rfl rfl (Tr.mv rfl rfl (Tr.va rfl (fun _ _ a c => zB zCD (a.ev rfl)) ?_)))
      refine Tr.va rfl (fun _ _ a c => zF QH (a.ev rfl) (rdb c (vs := [iv p1.Y0, iv p1.Y1, sL zh p1.Xs zg]) (k := 1) rfl 1) rfl) ?_
      obtain ⟨zYY, zjw, H⟩ := bnd H
      obtain ⟨zgU, zgT, zgS⟩ := zz zjw
      refine Tr.va rfl (fun _ _ a c => zM zCi (a.ev rfl) zCV (a.ev rfl) zgU zgT) ?_
      refine Tr.va rfl (fun _ _ a c => zB zCD (a.ev rfl)) ?_
      obtain ⟨zVU, zdZ, H⟩ := bnd H
      have zSF := zG9 zdZ
      refine Tr.zHj 0 (t := zL) (l := p0) (i := (w64 ((p0.length : Int) - 1))) (fo := 1) (cs := [iv p1.Y1]) (ze.mk zYY.Y0 p1.Y1 zYY.Xs) (wn rfl) rfl rfl rfl rfl rfl zgS zKQ rfl (fun u hu => ⟨u, hu, rfl⟩) rfl zdZ ?_
      have zgr : SlF zC zVU.length zD := by rw [zSF]; exact zCV
      have hsl112 := zSF.trans rfl
      refine Tr.sel (lf := [(0, sL zC zVU zD), (3, pV QE), (5, iv (w64 ((p0.length : Int) - 1))), (42, bV zcf), (43, sL zC zVU zD), (44, iv (w64 ((p0.length : Int) - 1))), (45, .pointer (some ⟨QE, 1, none⟩)), (46, iv p1.Y1)]) (le := [(0, ow zC zD 107 zL zVU), (1, bx QE #[iv p1.Y0, iv p1.Y1, sL zh p1.Xs zg] 107), (2, ow none 0 107 zL ([] : List ze))]) (.cons (VK rfl (by unfold sL; rw [zSF])) (.cons rfl (.cons rfl (.cons rfl (.cons (VK rfl (by unfold sL; rw [zSF])) (.cons rfl (.cons rfl (.cons rfl .nil)))))))) (.cons rfl (.cons rfl (.cons rfl .nil))) ?_
      refine Tr.nil (Tr.zA (Tr.sr (Tr.mv rfl rfl (Tr.asg rfl rfl (Tr.nil (Tr.zA (Tr.ret (Tr.zi ?_))))))))
      obtain rfl := oI H
      exact Tr.out (m := [sL zC zVU zD]) [] (zW rfl zX) (fun W hW => ⟨w, (zC, zD), leB, rfl, zgr, hW.pick (ks := [0]) (by decide) (zQ rfl zf)⟩)
     ·refine Tr.skip (Tr.zA (Tr.sr (Tr.mv rfl rfl (Tr.va rfl (fun _ _ a c => zZ (cs := [iv p1.Y0, iv p1.Y1, sL zh p1.Xs zg]) zSa zIt (a.ev rfl) (zR.take (rdb c (vs := [iv p1.Y0, iv p1.Y1, sL zh p1.Xs zg]) (k := 1) rfl 0) 3) rfl) ?_))))
      refine Tr.buildSlice 3 (e := 107) (vs := [(0, .agg #[iv p1.Y0, iv p1.Y1, sL zh p1.Xs zg])]) (cs := [iv p1.Y0, iv p1.Y1, sL zh p1.Xs zg]) (wn rfl) rfl (zq rfl Qi) (by kernel_rfl) fun znf => ?_
      obtain ⟨zeN, zkT, H⟩ := bnd H
      refine Tr.append 0 (t := zL) (l := p0) (l2 := [p1]) (wn rfl) rfl rfl rfl rfl (fun W hW => ⟨[[iv p1.Y0, iv p1.Y1, sL zh p1.Xs zg]], (.cons ⟨(zh, zg), Qh, rfl⟩ .nil), rdb hW (vs := [iv p1.Y0, iv p1.Y1, sL zh p1.Xs zg]) (k := 3) rfl 0⟩) zFD zIt zdn (by decide) zg9 rfl zkT fun zdm zdh hAl114 => ?_
      refine Tr.asg rfl rfl (Tr.nil (Tr.zA (Tr.ret ?_)))
      obtain rfl := oI H
      exact Tr.out (m := [sL zdm zeN zdh]) [] (zW rfl zX) (fun W hW => ⟨w, (zdm, zdh), leB, rfl, hAl114, hW.pick (ks := [0]) (by decide) (zQ rfl zf)⟩)

end Go.Proofs.YtoageaoknnnfbaaGreatDoor
