/- The walks: each function computes its plain function. -/
import Derived.Test.YtokanbmnoghafaaGreatDoorXF
namespace Go.Proofs.YtokanbmnoghafaaGreatDoor
open Go.RowKit
set_option maxRecDepth 100000
set_option maxHeartbeats 1000000
theorem VS {w : Bs} (p0 : Int) (p1 : Int) (p2 : Int) (r : Bool) (H : Jh p0 p1 p2 = some r) (hE : HF w w.W E0) : Calls Tryz.prog 25 [(iv p0), (iv p1), (iv p2)].toArray w.W fun e W' => e = .returned (.bool r) ∧ HF w W' E0 := by
 unfold Jh at H
 have leB := Bs.Le.refl w
 refine Tr.enter (n := 15) Tryz.func25 rfl rfl rfl hE ?_
 refine Tr.sr (Tr.asg rfl rfl (Tr.nil (Tr.zA (Tr.sr (Tr.mv rfl rfl (Tr.mv rfl rfl (Tr.va rfl (fun _ _ h1 h2 => zCW (h1.ev rfl) (h1.ev rfl)) ?_)))))))
 refine Tr.mv rfl rfl (Tr.KY 4 [(14, (.bool ((decide (p1 ≤ p0)) && (decide (p0 ≤ p2)))))] [] ?_ ?_)
 ·cases hg99 : (decide (p1 ≤ p0))
  ·refine Tr.pass rfl rfl rfl rfl rfl (by decide) ?_
   refine Tr.pass rfl rfl rfl rfl rfl (by decide) ?_
   refine Tr.pass rfl rfl rfl rfl rfl (by decide) ?_
   refine Tr.va rfl (fun _ _ h1 h2 => zh (h1.ev rfl) (h1.ev rfl)) ?_
   exact Tr.nil (Tr.Qc (.cons rfl .nil) .nil)
  ·refine Tr.val (wg rfl rfl rfl) rfl (fun _ _ h1 h2 => run_move (h1.ev rfl)) ?_
   refine Tr.val (wg rfl rfl rfl) rfl (fun _ _ h1 h2 => run_move (h1.ev rfl)) ?_
   refine Tr.val (wg rfl rfl rfl) rfl (fun _ _ h1 h2 => zEU (h1.ev rfl) (h1.ev rfl)) ?_
   refine Tr.va rfl (fun _ _ h1 h2 => zg (h1.ev rfl) (h1.ev rfl)) ?_
   exact Tr.nil (Tr.Qc (.cons rfl .nil) .nil)
 ·show Tr _ _ (LF [(14, (.bool ((decide (p1 ≤ p0)) && (decide (p0 ≤ p2)))))]) (LE []) _
  refine Tr.asg rfl rfl (Tr.nil (Tr.zA (Tr.ret ?_)))
  obtain rfl := Option.some.inj H
  exact Tr.out (m := [(.bool ((decide (p1 ≤ p0)) && (decide (p0 ≤ p2))))]) [] (zQ rfl zT) (fun W hW => ⟨rfl, hW.low leB⟩)

theorem zGz (N : Nat) {w : Bs} (p0 : ByteArray) (r : Bool) (H : KP N p0 = some r) (hE : HF w w.W E0) : Calls Tryz.prog 47 [(sv p0)].toArray w.W fun e W' => e = .returned (.bool r) ∧ HF w W' E0 := by
 unfold KP at H
 have leB := Bs.Le.refl w
 refine Tr.enter (n := 59) Tryz.func47 rfl rfl rfl hE ?_
 refine Tr.sr (Tr.asg rfl rfl (Tr.nil (Tr.zA (Tr.seq (Tr.sr (Tr.mv rfl rfl (Tr.va rfl (fun _ _ h1 h2 => zAJ zFR (h1.ev rfl)) ?_)))))))
 refine Tr.mv rfl rfl (Tr.nil (Tr.zA (Tr.block (Tr.loop (σ := Int) (fun m w s => Qv p0 m s = some r) (fun s => [(0, (sv p0)), (7, (iv (p0.size : Int))), (8, (iv s))]) (fun s => []) N 0 H (.cons rfl (.cons rfl (.cons rfl .nil))) .nil (fun _ _ h => zEE (h)) ?_))))
 intro w Qy mL1 x105 hs
 have H := hs
 replace H : Qv p0 (mL1 + 1) x105 = some r := H
 replace leB := leB.trans Qy
 rw [Qv.eq_2] at H
 show Tr _ _ (LF [(0, (sv p0)), (7, (iv (p0.size : Int))), (8, (iv x105))]) (LE []) _
 refine Tr.sr (Tr.va rfl (fun _ _ h1 h2 => Qm (h1.ev rfl) (h1.ev rfl)) ?_)
 refine Tr.nil (Tr.zA (Tr.seq (Tr.cond rfl H (fun H => ?_) (fun H => ?_))))
 ·refine Tr.skip (Tr.zA (Tr.seq (Tr.block (Tr.sr (Tr.mv rfl rfl (Tr.asg rfl rfl (Tr.nil (Tr.zA (Tr.sr (Tr.mv rfl rfl ?_))))))))))
  refine Tr.mv rfl rfl ?_
  obtain ⟨c106, hc106, H⟩ := bnd H
  refine Tr.va rfl (fun _ _ h1 h2 => zIS zFR (h1.ev rfl) (h1.ev rfl) hc106) ?_
  refine Tr.asg rfl rfl (Tr.nil (Tr.zA (Tr.sr (Tr.mv rfl rfl (Tr.va rfl (fun _ _ h1 h2 => zCW (h1.ev rfl) (h1.ev rfl)) ?_)))))
  refine Tr.mv rfl rfl (Tr.KY 3 [(0, (sv p0)), (3, (iv x105)), (4, (.int .u8 c106)), (7, (iv (p0.size : Int))), (8, (iv x105)), (19, (.bool ((decide (97 ≤ c106)) && (decide (c106 ≤ 122)))))] [] ?_ ?_)
  ·cases zFv : (decide (97 ≤ c106))
   ·refine Tr.pass rfl rfl rfl rfl rfl (by decide) ?_
    refine Tr.pass rfl rfl rfl rfl rfl (by decide) ?_
    refine Tr.va rfl (fun _ _ h1 h2 => zh (h1.ev rfl) (h1.ev rfl)) ?_
    exact Tr.nil (Tr.Qc (.cons rfl (.cons rfl (.cons rfl (.cons rfl (.cons rfl (.cons rfl .nil)))))) .nil)
   ·refine Tr.val (wg rfl rfl rfl) rfl (fun _ _ h1 h2 => run_move (h1.ev rfl)) ?_
    refine Tr.val (wg rfl rfl rfl) rfl (fun _ _ h1 h2 => zEU (h1.ev rfl) (h1.ev rfl)) ?_
    refine Tr.va rfl (fun _ _ h1 h2 => zg (h1.ev rfl) (h1.ev rfl)) ?_
    exact Tr.nil (Tr.Qc (.cons rfl (.cons rfl (.cons rfl (.cons rfl (.cons rfl (.cons rfl .nil)))))) .nil)
  ·show Tr _ _ (LF [(0, (sv p0)), (3, (iv x105)), (4, (.int .u8 c106)), (7, (iv (p0.size : Int))), (8, (iv x105)), (19, (.bool ((decide (97 ≤ c106)) && (decide (c106 ≤ 122)))))]) (LE []) _
   refine Tr.mv rfl rfl (Tr.KY 7 [(0, (sv p0)), (3, (iv x105)), (4, (.int .u8 c106)), (7, (iv (p0.size : Int))), (8, (iv x105)), (27, (.bool (((decide (97 ≤ c106)) && (decide (c106 ≤ 122))) || ((decide (65 ≤ c106)) && (decide (c106 ≤ 90))))))] [] ?_ ?_)
   ·cases zFv : ((decide (97 ≤ c106)) && (decide (c106 ≤ 122)))
    ·refine Tr.val (wg rfl rfl rfl) rfl (fun _ _ h1 h2 => run_move (h1.ev rfl)) ?_
     refine Tr.val (wg rfl rfl rfl) rfl (fun _ _ h1 h2 => zCW (h1.ev rfl) (h1.ev rfl)) ?_
     refine Tr.val (wg rfl rfl rfl) rfl (fun _ _ h1 h2 => run_move (h1.ev rfl)) ?_
     refine Tr.KY 3 [(0, (sv p0)), (3, (iv x105)), (4, (.int .u8 c106)), (7, (iv (p0.size : Int))), (8, (iv x105)), (20, (.bool false)), (26, (.bool ((decide (65 ≤ c106)) && (decide (c106 ≤ 90)))))] [] ?_ ?_
     ·cases zFv : (decide (65 ≤ c106))
      ·refine Tr.pass rfl rfl rfl rfl rfl (by decide) ?_
       refine Tr.pass rfl rfl rfl rfl rfl (by decide) ?_
       refine Tr.val (wg rfl rfl rfl) rfl (fun _ _ h1 h2 => zh (h1.ev rfl) (h1.ev rfl)) ?_
       exact Tr.nil (Tr.Qc (.cons rfl (.cons rfl (.cons rfl (.cons rfl (.cons rfl (.cons rfl (.cons rfl .nil))))))) .nil)
      ·refine Tr.val (wg rfl rfl rfl) rfl (fun _ _ h1 h2 => run_move (h1.ev rfl)) ?_
       refine Tr.val (wg rfl rfl rfl) rfl (fun _ _ h1 h2 => zEU (h1.ev rfl) (h1.ev rfl)) ?_
       refine Tr.val (wg rfl rfl rfl) rfl (fun _ _ h1 h2 => zg (h1.ev rfl) (h1.ev rfl)) ?_
       exact Tr.nil (Tr.Qc (.cons rfl (.cons rfl (.cons rfl (.cons rfl (.cons rfl (.cons rfl (.cons rfl .nil))))))) .nil)
     ·show Tr _ _ (LF [(0, (sv p0)), (3, (iv x105)), (4, (.int .u8 c106)), (7, (iv (p0.size : Int))), (8, (iv x105)), (20, (.bool false)), (26, (.bool ((decide (65 ≤ c106)) && (decide (c106 ≤ 90)))))]) (LE []) _
      refine Tr.va rfl (fun _ _ h1 h2 => zh (h1.ev rfl) (h1.ev rfl)) ?_
      exact Tr.nil (Tr.Qc (.cons rfl (.cons rfl (.cons rfl (.cons rfl (.cons rfl (.cons rfl .nil)))))) .nil)
    ·refine Tr.pass rfl rfl rfl rfl rfl (by decide) ?_
     refine Tr.pass rfl rfl rfl rfl rfl (by decide) ?_
     refine Tr.pass rfl rfl rfl rfl rfl (by decide) ?_
     refine Tr.Kj rfl rfl rfl rfl (by decide) ?_
     refine Tr.Kj rfl rfl rfl rfl (by decide) ?_
     refine Tr.pass rfl rfl rfl rfl rfl (by decide) ?_
     refine Tr.va rfl (fun _ _ h1 h2 => zg (h1.ev rfl) (h1.ev rfl)) ?_
     exact Tr.nil (Tr.Qc (.cons rfl (.cons rfl (.cons rfl (.cons rfl (.cons rfl (.cons rfl .nil)))))) .nil)
   ·show Tr _ _ (LF [(0, (sv p0)), (3, (iv x105)), (4, (.int .u8 c106)), (7, (iv (p0.size : Int))), (8, (iv x105)), (27, (.bool (((decide (97 ≤ c106)) && (decide (c106 ≤ 122))) || ((decide (65 ≤ c106)) && (decide (c106 ≤ 90))))))]) (LE []) _
    refine Tr.asg rfl rfl (Tr.nil (Tr.zA (Tr.sr (Tr.mv rfl rfl (Tr.va rfl (fun _ _ h1 h2 => JA (h1.ev rfl)) ?_)))))
    refine Tr.mv rfl rfl (Tr.KY 19 [(0, (sv p0)), (7, (iv (p0.size : Int))), (8, (iv x105)), (49, (.bool ((!(((decide (97 ≤ c106)) && (decide (c106 ≤ 122))) || ((decide (65 ≤ c106)) && (decide (c106 ≤ 90))))) && ((x105 == 0) || ((((decide (c106 < 48)) || (decide (57 < c106))) && (c106 != 95)) && (c106 != 45))))))] [] ?_ ?_)
    ·cases zFv : (!(((decide (97 ≤ c106)) && (decide (c106 ≤ 122))) || ((decide (65 ≤ c106)) && (decide (c106 ≤ 90)))))
     ·refine Tr.pass rfl rfl rfl rfl rfl (by decide) ?_
      refine Tr.pass rfl rfl rfl rfl rfl (by decide) ?_
      refine Tr.pass rfl rfl rfl rfl rfl (by decide) ?_
      refine Tr.Kj rfl rfl rfl rfl (by decide) ?_
      refine Tr.Kj rfl rfl rfl rfl (by decide) ?_
      refine Tr.Kj rfl rfl rfl rfl (by decide) ?_
      refine Tr.Kj rfl rfl rfl rfl (by decide) ?_
      refine Tr.Kj rfl rfl rfl rfl (by decide) ?_
      refine Tr.Kj rfl rfl rfl rfl (by decide) ?_
      refine Tr.Kj rfl rfl rfl rfl (by decide) ?_
      refine Tr.Kj rfl rfl rfl rfl (by decide) ?_
      refine Tr.Kj rfl rfl rfl rfl (by decide) ?_
      refine Tr.Kj rfl rfl rfl rfl (by decide) ?_
      refine Tr.Kj rfl rfl rfl rfl (by decide) ?_
      refine Tr.Kj rfl rfl rfl rfl (by decide) ?_
      refine Tr.Kj rfl rfl rfl rfl (by decide) ?_
      refine Tr.Kj rfl rfl rfl rfl (by decide) ?_
      refine Tr.pass rfl rfl rfl rfl rfl (by decide) ?_
      refine Tr.va rfl (fun _ _ h1 h2 => zh (h1.ev rfl) (h1.ev rfl)) ?_
      exact Tr.nil (Tr.Qc (.cons rfl (.cons rfl (.cons rfl (.cons rfl .nil)))) .nil)
     ·refine Tr.val (wg rfl rfl rfl) rfl (fun _ _ h1 h2 => run_move (h1.ev rfl)) ?_
      refine Tr.val (wg rfl rfl rfl) rfl (fun _ _ h1 h2 => Jy (h1.ev rfl) (h1.ev rfl)) ?_
      refine Tr.val (wg rfl rfl rfl) rfl (fun _ _ h1 h2 => run_move (h1.ev rfl)) ?_
      refine Tr.KY 15 [(0, (sv p0)), (7, (iv (p0.size : Int))), (8, (iv x105)), (30, (.bool true)), (48, (.bool ((x105 == 0) || ((((decide (c106 < 48)) || (decide (57 < c106))) && (c106 != 95)) && (c106 != 45)))))] [] ?_ ?_
      ·cases zFv : (x105 == 0)
       ·refine Tr.val (wg rfl rfl rfl) rfl (fun _ _ h1 h2 => run_move (h1.ev rfl)) ?_
        refine Tr.val (wg rfl rfl rfl) rfl (fun _ _ h1 h2 => Qm (h1.ev rfl) (h1.ev rfl)) ?_
        refine Tr.val (wg rfl rfl rfl) rfl (fun _ _ h1 h2 => run_move (h1.ev rfl)) ?_
        refine Tr.KY 3 [(0, (sv p0)), (4, (.int .u8 c106)), (7, (iv (p0.size : Int))), (8, (iv x105)), (30, (.bool true)), (33, (.bool false)), (39, (.bool ((decide (c106 < 48)) || (decide (57 < c106)))))] [] ?_ ?_
        ·cases zFv : (decide (c106 < 48))
         ·refine Tr.val (wg rfl rfl rfl) rfl (fun _ _ h1 h2 => run_move (h1.ev rfl)) ?_
          refine Tr.val (wg rfl rfl rfl) rfl (fun _ _ h1 h2 => WB (h1.ev rfl) (h1.ev rfl)) ?_
          refine Tr.val (wg rfl rfl rfl) rfl (fun _ _ h1 h2 => zh (h1.ev rfl) (h1.ev rfl)) ?_
          exact Tr.nil (Tr.Qc (.cons rfl (.cons rfl (.cons rfl (.cons rfl (.cons rfl (.cons rfl (.cons rfl .nil))))))) .nil)
         ·refine Tr.pass rfl rfl rfl rfl rfl (by decide) ?_
          refine Tr.pass rfl rfl rfl rfl rfl (by decide) ?_
          refine Tr.val (wg rfl rfl rfl) rfl (fun _ _ h1 h2 => zg (h1.ev rfl) (h1.ev rfl)) ?_
          exact Tr.nil (Tr.Qc (.cons rfl (.cons rfl (.cons rfl (.cons rfl (.cons rfl (.cons rfl (.cons rfl .nil))))))) .nil)
        ·show Tr _ _ (LF [(0, (sv p0)), (4, (.int .u8 c106)), (7, (iv (p0.size : Int))), (8, (iv x105)), (30, (.bool true)), (33, (.bool false)), (39, (.bool ((decide (c106 < 48)) || (decide (57 < c106)))))]) (LE []) _
         refine Tr.val (wg rfl rfl rfl) rfl (fun _ _ h1 h2 => run_move (h1.ev rfl)) ?_
         refine Tr.KY 3 [(0, (sv p0)), (4, (.int .u8 c106)), (7, (iv (p0.size : Int))), (8, (iv x105)), (30, (.bool true)), (33, (.bool false)), (43, (.bool (((decide (c106 < 48)) || (decide (57 < c106))) && (c106 != 95))))] [] ?_ ?_
         ·cases zFv : ((decide (c106 < 48)) || (decide (57 < c106)))
          ·refine Tr.pass rfl rfl rfl rfl rfl (by decide) ?_
           refine Tr.pass rfl rfl rfl rfl rfl (by decide) ?_
           refine Tr.val (wg rfl rfl rfl) rfl (fun _ _ h1 h2 => zh (h1.ev rfl) (h1.ev rfl)) ?_
           exact Tr.nil (Tr.Qc (.cons rfl (.cons rfl (.cons rfl (.cons rfl (.cons rfl (.cons rfl (.cons rfl .nil))))))) .nil)
          ·refine Tr.val (wg rfl rfl rfl) rfl (fun _ _ h1 h2 => run_move (h1.ev rfl)) ?_
           refine Tr.val (wg rfl rfl rfl) rfl (fun _ _ h1 h2 => Jw (h1.ev rfl) (h1.ev rfl)) ?_
           refine Tr.val (wg rfl rfl rfl) rfl (fun _ _ h1 h2 => zg (h1.ev rfl) (h1.ev rfl)) ?_
           exact Tr.nil (Tr.Qc (.cons rfl (.cons rfl (.cons rfl (.cons rfl (.cons rfl (.cons rfl (.cons rfl .nil))))))) .nil)
         ·show Tr _ _ (LF [(0, (sv p0)), (4, (.int .u8 c106)), (7, (iv (p0.size : Int))), (8, (iv x105)), (30, (.bool true)), (33, (.bool false)), (43, (.bool (((decide (c106 < 48)) || (decide (57 < c106))) && (c106 != 95))))]) (LE []) _
          refine Tr.val (wg rfl rfl rfl) rfl (fun _ _ h1 h2 => run_move (h1.ev rfl)) ?_
          refine Tr.KY 3 [(0, (sv p0)), (7, (iv (p0.size : Int))), (8, (iv x105)), (30, (.bool true)), (33, (.bool false)), (47, (.bool ((((decide (c106 < 48)) || (decide (57 < c106))) && (c106 != 95)) && (c106 != 45))))] [] ?_ ?_
          ·cases zFv : (((decide (c106 < 48)) || (decide (57 < c106))) && (c106 != 95))
           ·refine Tr.pass rfl rfl rfl rfl rfl (by decide) ?_
            refine Tr.pass rfl rfl rfl rfl rfl (by decide) ?_
            refine Tr.val (wg rfl rfl rfl) rfl (fun _ _ h1 h2 => zh (h1.ev rfl) (h1.ev rfl)) ?_
            exact Tr.nil (Tr.Qc (.cons rfl (.cons rfl (.cons rfl (.cons rfl (.cons rfl (.cons rfl .nil)))))) .nil)
           ·refine Tr.val (wg rfl rfl rfl) rfl (fun _ _ h1 h2 => run_move (h1.ev rfl)) ?_
            refine Tr.val (wg rfl rfl rfl) rfl (fun _ _ h1 h2 => Jw (h1.ev rfl) (h1.ev rfl)) ?_
            refine Tr.val (wg rfl rfl rfl) rfl (fun _ _ h1 h2 => zg (h1.ev rfl) (h1.ev rfl)) ?_
            exact Tr.nil (Tr.Qc (.cons rfl (.cons rfl (.cons rfl (.cons rfl (.cons rfl (.cons rfl .nil)))))) .nil)
          ·show Tr _ _ (LF [(0, (sv p0)), (7, (iv (p0.size : Int))), (8, (iv x105)), (30, (.bool true)), (33, (.bool false)), (47, (.bool ((((decide (c106 < 48)) || (decide (57 < c106))) && (c106 != 95)) && (c106 != 45))))]) (LE []) _
           refine Tr.val (wg rfl rfl rfl) rfl (fun _ _ h1 h2 => zh (h1.ev rfl) (h1.ev rfl)) ?_
           exact Tr.nil (Tr.Qc (.cons rfl (.cons rfl (.cons rfl (.cons rfl (.cons rfl .nil))))) .nil)
       ·refine Tr.pass rfl rfl rfl rfl rfl (by decide) ?_
        refine Tr.pass rfl rfl rfl rfl rfl (by decide) ?_
        refine Tr.pass rfl rfl rfl rfl rfl (by decide) ?_
        refine Tr.Kj rfl rfl rfl rfl (by decide) ?_
        refine Tr.Kj rfl rfl rfl rfl (by decide) ?_
        refine Tr.pass rfl rfl rfl rfl rfl (by decide) ?_
        refine Tr.pass rfl rfl rfl rfl rfl (by decide) ?_
        refine Tr.Kj rfl rfl rfl rfl (by decide) ?_
        refine Tr.Kj rfl rfl rfl rfl (by decide) ?_
        refine Tr.pass rfl rfl rfl rfl rfl (by decide) ?_
        refine Tr.pass rfl rfl rfl rfl rfl (by decide) ?_
        refine Tr.Kj rfl rfl rfl rfl (by decide) ?_
        refine Tr.Kj rfl rfl rfl rfl (by decide) ?_
        refine Tr.pass rfl rfl rfl rfl rfl (by decide) ?_
        refine Tr.val (wg rfl rfl rfl) rfl (fun _ _ h1 h2 => zg (h1.ev rfl) (h1.ev rfl)) ?_
        exact Tr.nil (Tr.Qc (.cons rfl (.cons rfl (.cons rfl (.cons rfl (.cons rfl .nil))))) .nil)
      ·show Tr _ _ (LF [(0, (sv p0)), (7, (iv (p0.size : Int))), (8, (iv x105)), (30, (.bool true)), (48, (.bool ((x105 == 0) || ((((decide (c106 < 48)) || (decide (57 < c106))) && (c106 != 95)) && (c106 != 45)))))]) (LE []) _
       refine Tr.va rfl (fun _ _ h1 h2 => zg (h1.ev rfl) (h1.ev rfl)) ?_
       exact Tr.nil (Tr.Qc (.cons rfl (.cons rfl (.cons rfl (.cons rfl .nil)))) .nil)
    ·show Tr _ _ (LF [(0, (sv p0)), (7, (iv (p0.size : Int))), (8, (iv x105)), (49, (.bool ((!(((decide (97 ≤ c106)) && (decide (c106 ≤ 122))) || ((decide (65 ≤ c106)) && (decide (c106 ≤ 90))))) && ((x105 == 0) || ((((decide (c106 < 48)) || (decide (57 < c106))) && (c106 != 95)) && (c106 != 45))))))]) (LE []) _
     refine Tr.nil (Tr.zA (Tr.cond rfl H (fun H => ?_) (fun H => ?_)))
     ·refine Tr.sr (Tr.asg rfl rfl (Tr.nil (Tr.zA (Tr.ret (Tr.zm (Tr.zO (Tr.zO (Tr.zm (Tr.zO ?_)))))))))
      obtain rfl := Option.some.inj H
      exact Tr.out (m := [(.bool false)]) [] (zQ rfl zT) (fun W hW => ⟨rfl, hW.low leB⟩)
     ·refine Tr.skip (Tr.zx (Tr.zA (Tr.region (Tr.va rfl (fun _ _ h1 h2 => Qo (h1.ev rfl) (h1.ev rfl)) ?_))))
      exact Tr.mv rfl rfl (Tr.nil (Tr.QF Qy (w64 (x105 + 1)) H (.cons rfl (.cons rfl (.cons rfl .nil))) .nil))
 ·refine Tr.exit (Tr.QK (Tr.QK (Tr.JV (Tr.zA (Tr.sr (Tr.mv rfl rfl (Tr.va rfl (fun _ _ h1 h2 => zAJ zFR (h1.ev rfl)) ?_)))))))
  refine Tr.va rfl (fun _ _ h1 h2 => zCW (h1.ev rfl) (h1.ev rfl)) ?_
  refine Tr.mv rfl rfl (Tr.KY 4 [(58, (.bool ((decide (1 ≤ (p0.size : Int))) && (decide ((p0.size : Int) ≤ 40)))))] [] ?_ ?_)
  ·cases zFv : (decide (1 ≤ (p0.size : Int)))
   ·refine Tr.pass rfl rfl rfl rfl rfl (by decide) ?_
    refine Tr.pass rfl rfl rfl rfl rfl (by decide) ?_
    refine Tr.pass rfl rfl rfl rfl rfl (by decide) ?_
    refine Tr.va rfl (fun _ _ h1 h2 => zh (h1.ev rfl) (h1.ev rfl)) ?_
    exact Tr.nil (Tr.Qc (.cons rfl .nil) .nil)
   ·refine Tr.val (wg rfl rfl rfl) rfl (fun _ _ h1 h2 => run_move (h1.ev rfl)) ?_
    refine Tr.val (wg rfl rfl rfl) rfl (fun _ _ h1 h2 => zAJ zFR (h1.ev rfl)) ?_
    refine Tr.val (wg rfl rfl rfl) rfl (fun _ _ h1 h2 => zEU (h1.ev rfl) (h1.ev rfl)) ?_
    refine Tr.va rfl (fun _ _ h1 h2 => zg (h1.ev rfl) (h1.ev rfl)) ?_
    exact Tr.nil (Tr.Qc (.cons rfl .nil) .nil)
  ·show Tr _ _ (LF [(58, (.bool ((decide (1 ≤ (p0.size : Int))) && (decide ((p0.size : Int) ≤ 40)))))]) (LE []) _
   refine Tr.asg rfl rfl (Tr.nil (Tr.zA (Tr.ret ?_)))
   obtain rfl := Option.some.inj H
   exact Tr.out (m := [(.bool ((decide (1 ≤ (p0.size : Int))) && (decide ((p0.size : Int) ≤ 40))))]) [] (zQ rfl zT) (fun W hW => ⟨rfl, hW.low leB⟩)

theorem Vp {w : Bs} (p0 : Int) (p1 : Int) (r : Bool) (H : VO p0 p1 = some r) (hE : HF w w.W E0) : Calls Tryz.prog 48 [(iv p0), (iv p1)].toArray w.W fun e W' => e = .returned (.bool r) ∧ HF w W' E0 := by
 unfold VO at H
 have leB := Bs.Le.refl w
 refine Tr.enter (n := 11) Tryz.func48 rfl rfl rfl hE ?_
 refine Tr.sr (Tr.asg rfl rfl (Tr.nil (Tr.zA (Tr.seq (Tr.draw (by kernel_rfl) (by kernel_rfl) ?_)))))
 refine Tq.mv rfl rfl (Tq.mv rfl rfl ?_)
 obtain ⟨q100, hq100, H⟩ := bnd H
 refine Tq.va rfl (fun _ _ h1 h2 => run_dv (h1.ev rfl) (h1.ev rfl) hq100) ?_
 refine Tq.mv rfl rfl ?_
 obtain ⟨q101, hq101, H⟩ := bnd H
 refine Tq.va rfl (fun _ _ h1 h2 => run_dv (h1.ev rfl) (h1.ev rfl) hq101) ?_
 obtain ⟨y102, hy102, H⟩ := bnd H
 refine Tq.Qr (r := (.bool y102)) (wn rfl) rfl Tryz.call25 (zI rfl (zI rfl (zI rfl zb))) (fun W hW => VS p0 q100 q101 y102 hy102 (HF.start _)) ?_
 refine Tq.asg rfl rfl (Tq.nil (Tr.zA (Tr.ret ?_)))
 obtain rfl := Option.some.inj H
 exact Tr.out (m := [(.bool y102)]) [] (zQ rfl zT) (fun W hW => ⟨rfl, hW.low leB⟩)

theorem zEl (N : Nat) {w : Bs} (p0 : zS) (zF : Option Addr) (zG : Nat) (zl : Sl w.R w.W KR zF zG p0.Rects) (p1 : Int) (r : Int) (H : Vq N p0 p1 = some r) (hE : HF w w.W E0) : Calls Tryz.prog 26 [(.agg #[(sv p0.Name), (.slice zF p0.Rects.length zG)]), (iv p1)].toArray w.W fun e W' => e = .returned (iv r) ∧ HF w W' E0 := by
 unfold Vq at H
 have leB := Bs.Le.refl w
 refine Tr.enter (n := 65) Tryz.func26 rfl rfl rfl hE ?_
 refine Tr.sr (Tr.box 1 (cs := [(sv p0.Name), (.slice zF p0.Rects.length zG)]) (wn rfl) rfl rfl rfl fun QG => ?_)
 refine Tr.asg rfl rfl (Tr.nil (Tr.zA (Tr.seq (Tr.sr (Tr.va rfl (fun _ _ h1 h2 => zD zDZ (h1.ev rfl)) ?_)))))
 refine Tr.va rfl (fun _ _ h1 h2 => zH zB2 (h1.ev rfl) (rdb h2 (vs := [(sv p0.Name), (.slice zF p0.Rects.length zG)]) (k := 1) rfl 0) rfl) ?_
 obtain ⟨y101, hy101, H⟩ := bnd H
 refine Tr.Qr (r := (.bool y101)) (wn rfl) rfl Tryz.call47 (zI rfl zb) (fun W hW => zGz N p0.Name y101 hy101 (HF.start _)) ?_
 refine Tr.va rfl (fun _ _ h1 h2 => JA (h1.ev rfl)) ?_
 refine Tr.nil (Tr.zA (Tr.cond rfl H (fun H => ?_) (fun H => ?_)))
 ·refine Tr.sr (Tr.asg rfl rfl (Tr.nil (Tr.zA (Tr.ret (Tr.zO ?_)))))
  obtain rfl := Option.some.inj H
  exact Tr.out (m := [(iv 5)]) [] (zQ rfl zT) (fun W hW => ⟨rfl, hW.low leB⟩)
 ·refine Tr.skip (Tr.zA (Tr.seq (Tr.sr (Tr.va rfl (fun _ _ h1 h2 => zD zCb (h1.ev rfl)) ?_))))
  refine Tr.va rfl (fun _ _ h1 h2 => zH zI4 (h1.ev rfl) (rdb h2 (vs := [(sv p0.Name), (.slice zF p0.Rects.length zG)]) (k := 1) rfl 1) rfl) ?_
  refine Tr.va rfl (fun _ _ h1 h2 => QL zG1 (h1.ev rfl)) ?_
  refine Tr.va rfl (fun _ _ h1 h2 => Jy (h1.ev rfl) (h1.ev rfl)) ?_
  refine Tr.nil (Tr.zA (Tr.cond rfl H (fun H => ?_) (fun H => ?_)))
  ·refine Tr.sr (Tr.asg rfl rfl (Tr.nil (Tr.zA (Tr.ret (Tr.zO ?_)))))
   obtain rfl := Option.some.inj H
   exact Tr.out (m := [(iv 9)]) [] (zQ rfl zT) (fun W hW => ⟨rfl, hW.low leB⟩)
  ·refine Tr.skip (Tr.zA (Tr.seq (Tr.sr (Tr.va rfl (fun _ _ h1 h2 => zD zCb (h1.ev rfl)) ?_))))
   refine Tr.va rfl (fun _ _ h1 h2 => zH zI4 (h1.ev rfl) (rdb h2 (vs := [(sv p0.Name), (.slice zF p0.Rects.length zG)]) (k := 1) rfl 1) rfl) ?_
   refine Tr.va rfl (fun _ _ h1 h2 => QL zG1 (h1.ev rfl)) ?_
   refine Tr.va rfl (fun _ _ h1 h2 => WB (h1.ev rfl) (h1.ev rfl)) ?_
   refine Tr.nil (Tr.zA (Tr.cond rfl H (fun H => ?_) (fun H => ?_)))
   ·refine Tr.sr (Tr.asg rfl rfl (Tr.nil (Tr.zA (Tr.ret (Tr.zO ?_)))))
    obtain rfl := Option.some.inj H
    exact Tr.out (m := [(iv 2)]) [] (zQ rfl zT) (fun W hW => ⟨rfl, hW.low leB⟩)
   ·refine Tr.skip (Tr.zA (Tr.seq (Tr.sr (Tr.va rfl (fun _ _ h1 h2 => zD zCb (h1.ev rfl)) ?_))))
    refine Tr.va rfl (fun _ _ h1 h2 => zH zI4 (h1.ev rfl) (rdb h2 (vs := [(sv p0.Name), (.slice zF p0.Rects.length zG)]) (k := 1) rfl 1) rfl) ?_
    refine Tr.va rfl (fun _ _ h1 h2 => QL zG1 (h1.ev rfl)) ?_
    refine Tr.mv rfl rfl (Tr.nil (Tr.zA (Tr.block (Tr.loop (σ := (List JO) × Nat) (fun m w s => m = s.1.length + 1 ∧ s.1 = List.drop s.2 p0.Rects ∧ s.2 ≤ p0.Rects.length ∧ JW p1 s.1 s.2 = some r) (fun s => [(1, (iv p1)), (20, (.slice zF p0.Rects.length zG)), (21, (iv (p0.Rects.length : Int))), (22, (iv (s.2 : Int)))]) (fun s => []) (p0.Rects.length + 1) (p0.Rects, 0) ⟨rfl, rfl, Nat.zero_le _, H⟩ (.cons rfl (.cons rfl (.cons rfl (.cons rfl .nil)))) .nil (fun _ _ h => absurd h.1 (by simp)) ?_))))
    intro w Qy m s hs
    obtain ⟨ze, iL1⟩ := s
    obtain ⟨WF, QM, hiL1, H⟩ := hs
    replace QM : ze = List.drop iL1 p0.Rects := QM
    replace H : JW p1 ze iL1 = some r := H
    replace WF : m + 1 = ze.length + 1 := WF
    replace zl := zl.leR Qy
    replace leB := leB.trans Qy
    obtain rfl : m = ze.length := by omega
    clear WF
    show Tr _ _ (LF [(1, (iv p1)), (20, (.slice zF p0.Rects.length zG)), (21, (iv (p0.Rects.length : Int))), (22, (iv (iL1 : Int)))]) (LE []) _
    cases ze with
    | nil =>
     rw [JW.eq_1] at H
     refine Tr.sr (Tr.va rfl (fun _ _ h1 h2 => Qm (h1.ev rfl) (h1.ev rfl)) ?_)
     refine Tr.nil (Tr.zA (Tr.seq (Tr.zCJ rfl (VR QM) ?_)))
     refine Tr.exit (Tr.QK (Tr.QK (Tr.JV (Tr.zA (Tr.sr (Tr.asg rfl rfl (Tr.nil (Tr.zA (Tr.ret ?_)))))))))
     obtain rfl := Option.some.inj H
     exact Tr.out (m := [(iv 0)]) [] (zQ rfl zT) (fun W hW => ⟨rfl, hW.low leB⟩)
    | cons xL1 ze =>
     rw [JW.eq_2] at H
     refine Tr.sr (Tr.va rfl (fun _ _ h1 h2 => Qm (h1.ev rfl) (h1.ev rfl)) ?_)
     refine Tr.nil (Tr.zA (Tr.seq (Tr.zBn rfl (Vj QM) ?_)))
     refine Tr.skip (Tr.zA (Tr.seq (Tr.block (Tr.sr (Tr.va rfl (fun _ _ h1 h2 => zR el_45 (h1.ev rfl) zl.form (h1.ev rfl) (Int.natCast_nonneg _) (QX QM)) ?_)))))
     refine Tr.va rfl (fun _ _ h1 h2 => zo (cs := [(iv xL1.X0), (iv xL1.Y0), (iv xL1.X1), (iv xL1.Y1)]) ag_49 zIL (h1.ev rfl) (zf.take (rdF zEI zl (Vk QM) h2) 4) rfl) ?_
     refine Tr.alloc 3 (wn rfl) rfl ze_49 fun zFF => ?_
     refine Tr.store 3 (cs := [(iv xL1.X0), (iv xL1.Y0), (iv xL1.X1), (iv xL1.Y1)]) [(iv xL1.X0), (iv xL1.Y0), (iv xL1.X1), (iv xL1.Y1)] (wn rfl) rfl rfl rfl rfl zIL rfl rfl rfl ?_
     refine Tr.nil (Tr.zA (Tr.seq (Tr.sr (Tr.va rfl (fun _ _ h1 h2 => zD fo_49_0 (h1.ev rfl)) ?_))))
     refine Tr.va rfl (fun _ _ h1 h2 => zH Ji (h1.ev rfl) (rdb h2 (vs := [(iv xL1.X0), (iv xL1.Y0), (iv xL1.X1), (iv xL1.Y1)]) (k := 3) rfl 0) rfl) ?_
     refine Tr.mv rfl rfl ?_
     obtain ⟨zHT, hy116, H⟩ := bnd H
     refine Tr.Qr (r := (.bool zHT)) (wn rfl) rfl Tryz.call48 (zI rfl (zI rfl zb)) (fun W hW => Vp xL1.X0 p1 zHT hy116 (HF.start _)) ?_
     refine Tr.va rfl (fun _ _ h1 h2 => JA (h1.ev rfl)) ?_
     refine Tr.mv rfl rfl ?_
     obtain ⟨zGq, zC1, H⟩ := bnd H
     refine Tr.KY 6 [(1, (iv p1)), (6, (.pointer (some ⟨zFF, 0, none⟩))), (20, (.slice zF p0.Rects.length zG)), (21, (iv (p0.Rects.length : Int))), (22, (iv (iL1 : Int))), (37, (.bool zGq))] [(3, bx zFF #[(iv xL1.X0), (iv xL1.Y0), (iv xL1.X1), (iv xL1.Y1)] 49)] ?_ ?_
     ·cases zFt : (!zHT)
      ·rw [zFt] at zC1
       rw [if_neg (by decide)] at zC1
       have H := zC1
       refine Tr.val (wg rfl rfl rfl) rfl (fun _ _ h1 h2 => zD fo_49_1 (h1.ev rfl)) ?_
       refine Tr.val (wg rfl rfl rfl) rfl (fun _ _ h1 h2 => zH Ji (h1.ev rfl) (rdb h2 (vs := [(iv xL1.X0), (iv xL1.Y0), (iv xL1.X1), (iv xL1.Y1)]) (k := 3) rfl 1) rfl) ?_
       refine Tr.val (wg rfl rfl rfl) rfl (fun _ _ h1 h2 => run_move (h1.ev rfl)) ?_
       obtain ⟨KW, hy119, H⟩ := bnd H
       refine Tr.Qr (r := (.bool KW)) (wg rfl rfl rfl) rfl Tryz.call48 (zI rfl (zI rfl zb)) (fun W hW => Vp xL1.Y0 p1 KW hy119 (HF.start _)) ?_
       refine Tr.val (wg rfl rfl rfl) rfl (fun _ _ h1 h2 => JA (h1.ev rfl)) ?_
       refine Tr.va rfl (fun _ _ h1 h2 => zh (h1.ev rfl) (h1.ev rfl)) ?_
       obtain rfl := Option.some.inj H
       exact Tr.nil (Tr.Qc (.cons rfl (.cons rfl (.cons rfl (.cons rfl (.cons rfl (.cons rfl .nil)))))) (.cons rfl .nil))
      ·rw [zFt] at zC1
       rw [if_pos rfl] at zC1
       have H := zC1
       obtain rfl := Option.some.inj H
       refine Tr.pass rfl rfl rfl rfl rfl (by decide) ?_
       refine Tr.pass rfl rfl rfl rfl rfl (by decide) ?_
       refine Tr.pass rfl rfl rfl rfl rfl (by decide) ?_
       refine Tr.pass rfl rfl rfl rfl rfl (by decide) ?_
       refine Tr.pass rfl rfl rfl rfl rfl (by decide) ?_
       refine Tr.va rfl (fun _ _ h1 h2 => zg (h1.ev rfl) (h1.ev rfl)) ?_
       exact Tr.nil (Tr.Qc (.cons rfl (.cons rfl (.cons rfl (.cons rfl (.cons rfl (.cons rfl .nil)))))) (.cons rfl .nil))
     ·show Tr _ _ (LF [(1, (iv p1)), (6, (.pointer (some ⟨zFF, 0, none⟩))), (20, (.slice zF p0.Rects.length zG)), (21, (iv (p0.Rects.length : Int))), (22, (iv (iL1 : Int))), (37, (.bool zGq))]) (LE [(3, bx zFF #[(iv xL1.X0), (iv xL1.Y0), (iv xL1.X1), (iv xL1.Y1)] 49)]) _
      refine Tr.mv rfl rfl ?_
      obtain ⟨g121, Vl, H⟩ := bnd H
      refine Tr.KY 6 [(1, (iv p1)), (6, (.pointer (some ⟨zFF, 0, none⟩))), (20, (.slice zF p0.Rects.length zG)), (21, (iv (p0.Rects.length : Int))), (22, (iv (iL1 : Int))), (44, (.bool g121))] [(3, bx zFF #[(iv xL1.X0), (iv xL1.Y0), (iv xL1.X1), (iv xL1.Y1)] 49)] ?_ ?_
      ·cases zFt : zGq
       ·rw [zFt] at Vl
        rw [if_neg (by decide)] at Vl
        have H := Vl
        refine Tr.val (wg rfl rfl rfl) rfl (fun _ _ h1 h2 => zD fo_49_2 (h1.ev rfl)) ?_
        refine Tr.val (wg rfl rfl rfl) rfl (fun _ _ h1 h2 => zH Ji (h1.ev rfl) (rdb h2 (vs := [(iv xL1.X0), (iv xL1.Y0), (iv xL1.X1), (iv xL1.Y1)]) (k := 3) rfl 2) rfl) ?_
        refine Tr.val (wg rfl rfl rfl) rfl (fun _ _ h1 h2 => run_move (h1.ev rfl)) ?_
        obtain ⟨y122, hy122, H⟩ := bnd H
        refine Tr.Qr (r := (.bool y122)) (wg rfl rfl rfl) rfl Tryz.call48 (zI rfl (zI rfl zb)) (fun W hW => Vp xL1.X1 p1 y122 hy122 (HF.start _)) ?_
        refine Tr.val (wg rfl rfl rfl) rfl (fun _ _ h1 h2 => JA (h1.ev rfl)) ?_
        refine Tr.va rfl (fun _ _ h1 h2 => zh (h1.ev rfl) (h1.ev rfl)) ?_
        obtain rfl := Option.some.inj H
        exact Tr.nil (Tr.Qc (.cons rfl (.cons rfl (.cons rfl (.cons rfl (.cons rfl (.cons rfl .nil)))))) (.cons rfl .nil))
       ·rw [zFt] at Vl
        rw [if_pos rfl] at Vl
        have H := Vl
        obtain rfl := Option.some.inj H
        refine Tr.pass rfl rfl rfl rfl rfl (by decide) ?_
        refine Tr.pass rfl rfl rfl rfl rfl (by decide) ?_
        refine Tr.pass rfl rfl rfl rfl rfl (by decide) ?_
        refine Tr.pass rfl rfl rfl rfl rfl (by decide) ?_
        refine Tr.pass rfl rfl rfl rfl rfl (by decide) ?_
        refine Tr.va rfl (fun _ _ h1 h2 => zg (h1.ev rfl) (h1.ev rfl)) ?_
        exact Tr.nil (Tr.Qc (.cons rfl (.cons rfl (.cons rfl (.cons rfl (.cons rfl (.cons rfl .nil)))))) (.cons rfl .nil))
      ·show Tr _ _ (LF [(1, (iv p1)), (6, (.pointer (some ⟨zFF, 0, none⟩))), (20, (.slice zF p0.Rects.length zG)), (21, (iv (p0.Rects.length : Int))), (22, (iv (iL1 : Int))), (44, (.bool g121))]) (LE [(3, bx zFF #[(iv xL1.X0), (iv xL1.Y0), (iv xL1.X1), (iv xL1.Y1)] 49)]) _
       refine Tr.mv rfl rfl ?_
       obtain ⟨g124, zC0, H⟩ := bnd H
       refine Tr.KY 6 [(1, (iv p1)), (6, (.pointer (some ⟨zFF, 0, none⟩))), (20, (.slice zF p0.Rects.length zG)), (21, (iv (p0.Rects.length : Int))), (22, (iv (iL1 : Int))), (51, (.bool g124))] [(3, bx zFF #[(iv xL1.X0), (iv xL1.Y0), (iv xL1.X1), (iv xL1.Y1)] 49)] ?_ ?_
       ·cases zFt : g121
        ·rw [zFt] at zC0
         rw [if_neg (by decide)] at zC0
         have H := zC0
         refine Tr.val (wg rfl rfl rfl) rfl (fun _ _ h1 h2 => zD fo_49_3 (h1.ev rfl)) ?_
         refine Tr.val (wg rfl rfl rfl) rfl (fun _ _ h1 h2 => zH Ji (h1.ev rfl) (rdb h2 (vs := [(iv xL1.X0), (iv xL1.Y0), (iv xL1.X1), (iv xL1.Y1)]) (k := 3) rfl 3) rfl) ?_
         refine Tr.val (wg rfl rfl rfl) rfl (fun _ _ h1 h2 => run_move (h1.ev rfl)) ?_
         obtain ⟨JH, hy125, H⟩ := bnd H
         refine Tr.Qr (r := (.bool JH)) (wg rfl rfl rfl) rfl Tryz.call48 (zI rfl (zI rfl zb)) (fun W hW => Vp xL1.Y1 p1 JH hy125 (HF.start _)) ?_
         refine Tr.val (wg rfl rfl rfl) rfl (fun _ _ h1 h2 => JA (h1.ev rfl)) ?_
         refine Tr.va rfl (fun _ _ h1 h2 => zh (h1.ev rfl) (h1.ev rfl)) ?_
         obtain rfl := Option.some.inj H
         exact Tr.nil (Tr.Qc (.cons rfl (.cons rfl (.cons rfl (.cons rfl (.cons rfl (.cons rfl .nil)))))) (.cons rfl .nil))
        ·rw [zFt] at zC0
         rw [if_pos rfl] at zC0
         have H := zC0
         obtain rfl := Option.some.inj H
         refine Tr.pass rfl rfl rfl rfl rfl (by decide) ?_
         refine Tr.pass rfl rfl rfl rfl rfl (by decide) ?_
         refine Tr.pass rfl rfl rfl rfl rfl (by decide) ?_
         refine Tr.pass rfl rfl rfl rfl rfl (by decide) ?_
         refine Tr.pass rfl rfl rfl rfl rfl (by decide) ?_
         refine Tr.va rfl (fun _ _ h1 h2 => zg (h1.ev rfl) (h1.ev rfl)) ?_
         exact Tr.nil (Tr.Qc (.cons rfl (.cons rfl (.cons rfl (.cons rfl (.cons rfl (.cons rfl .nil)))))) (.cons rfl .nil))
       ·show Tr _ _ (LF [(1, (iv p1)), (6, (.pointer (some ⟨zFF, 0, none⟩))), (20, (.slice zF p0.Rects.length zG)), (21, (iv (p0.Rects.length : Int))), (22, (iv (iL1 : Int))), (51, (.bool g124))]) (LE [(3, bx zFF #[(iv xL1.X0), (iv xL1.Y0), (iv xL1.X1), (iv xL1.Y1)] 49)]) _
        refine Tr.nil (Tr.zA (Tr.cond rfl H (fun H => ?_) (fun H => ?_)))
        ·refine Tr.sr (Tr.asg rfl rfl (Tr.nil (Tr.zA (Tr.ret (Tr.zO (Tr.zm (Tr.zO (Tr.zO (Tr.zm (Tr.zO ?_))))))))))
         obtain rfl := Option.some.inj H
         exact Tr.out (m := [(iv 1)]) [] (zQ rfl zT) (fun W hW => ⟨rfl, hW.low leB⟩)
        ·refine Tr.skip (Tr.zA (Tr.sr (Tr.va rfl (fun _ _ h1 h2 => zD fo_49_2 (h1.ev rfl)) ?_)))
         refine Tr.va rfl (fun _ _ h1 h2 => zH Ji (h1.ev rfl) (rdb h2 (vs := [(iv xL1.X0), (iv xL1.Y0), (iv xL1.X1), (iv xL1.Y1)]) (k := 3) rfl 2) rfl) ?_
         refine Tr.va rfl (fun _ _ h1 h2 => zD fo_49_0 (h1.ev rfl)) ?_
         refine Tr.va rfl (fun _ _ h1 h2 => zH Ji (h1.ev rfl) (rdb h2 (vs := [(iv xL1.X0), (iv xL1.Y0), (iv xL1.X1), (iv xL1.Y1)]) (k := 3) rfl 0) rfl) ?_
         refine Tr.va rfl (fun _ _ h1 h2 => zEU (h1.ev rfl) (h1.ev rfl)) ?_
         refine Tr.mv rfl rfl (Tr.KY 6 [(1, (iv p1)), (20, (.slice zF p0.Rects.length zG)), (21, (iv (p0.Rects.length : Int))), (22, (iv (iL1 : Int))), (63, (.bool ((decide (xL1.X1 ≤ xL1.X0)) || (decide (xL1.Y1 ≤ xL1.Y0)))))] [(3, bx zFF #[(iv xL1.X0), (iv xL1.Y0), (iv xL1.X1), (iv xL1.Y1)] 49)] ?_ ?_)
         ·cases zFt : (decide (xL1.X1 ≤ xL1.X0))
          ·refine Tr.val (wg rfl rfl rfl) rfl (fun _ _ h1 h2 => zD fo_49_3 (h1.ev rfl)) ?_
           refine Tr.val (wg rfl rfl rfl) rfl (fun _ _ h1 h2 => zH Ji (h1.ev rfl) (rdb h2 (vs := [(iv xL1.X0), (iv xL1.Y0), (iv xL1.X1), (iv xL1.Y1)]) (k := 3) rfl 3) rfl) ?_
           refine Tr.val (wg rfl rfl rfl) rfl (fun _ _ h1 h2 => zD fo_49_1 (h1.ev rfl)) ?_
           refine Tr.val (wg rfl rfl rfl) rfl (fun _ _ h1 h2 => zH Ji (h1.ev rfl) (rdb h2 (vs := [(iv xL1.X0), (iv xL1.Y0), (iv xL1.X1), (iv xL1.Y1)]) (k := 3) rfl 1) rfl) ?_
           refine Tr.val (wg rfl rfl rfl) rfl (fun _ _ h1 h2 => zEU (h1.ev rfl) (h1.ev rfl)) ?_
           refine Tr.va rfl (fun _ _ h1 h2 => zh (h1.ev rfl) (h1.ev rfl)) ?_
           exact Tr.nil (Tr.Qc (.cons rfl (.cons rfl (.cons rfl (.cons rfl (.cons rfl .nil))))) (.cons rfl .nil))
          ·refine Tr.pass rfl rfl rfl rfl rfl (by decide) ?_
           refine Tr.pass rfl rfl rfl rfl rfl (by decide) ?_
           refine Tr.pass rfl rfl rfl rfl rfl (by decide) ?_
           refine Tr.pass rfl rfl rfl rfl rfl (by decide) ?_
           refine Tr.pass rfl rfl rfl rfl rfl (by decide) ?_
           refine Tr.va rfl (fun _ _ h1 h2 => zg (h1.ev rfl) (h1.ev rfl)) ?_
           exact Tr.nil (Tr.Qc (.cons rfl (.cons rfl (.cons rfl (.cons rfl (.cons rfl .nil))))) (.cons rfl .nil))
         ·show Tr _ _ (LF [(1, (iv p1)), (20, (.slice zF p0.Rects.length zG)), (21, (iv (p0.Rects.length : Int))), (22, (iv (iL1 : Int))), (63, (.bool ((decide (xL1.X1 ≤ xL1.X0)) || (decide (xL1.Y1 ≤ xL1.Y0)))))]) (LE [(3, bx zFF #[(iv xL1.X0), (iv xL1.Y0), (iv xL1.X1), (iv xL1.Y1)] 49)]) _
          refine Tr.nil (Tr.zA (Tr.cond rfl H (fun H => ?_) (fun H => ?_)))
          ·refine Tr.sr (Tr.asg rfl rfl (Tr.nil (Tr.zA (Tr.ret (Tr.zm (Tr.zO (Tr.zO (Tr.zm (Tr.zO ?_)))))))))
           obtain rfl := Option.some.inj H
           exact Tr.out (m := [(iv 13)]) [] (zQ rfl zT) (fun W hW => ⟨rfl, hW.low leB⟩)
          ·refine Tr.skip (Tr.zx (Tr.zA (Tr.region (Tr.va rfl (fun _ _ h1 h2 => Qo (h1.ev rfl) (h1.ev rfl)) ?_))))
           exact Tr.mv rfl rfl (Tr.nil (Tr.QF Qy (ze, (iL1 + 1)) ⟨rfl, KE QM, QX QM, H⟩ (.cons rfl (.cons rfl (.cons rfl (.cons (congrArg (fun z => some (Value.int .i64 z)) (KD QM zl.form)) .nil)))) .nil))

theorem zCh {w : Bs} (p0 : Int) (r : Int) (H : Vn p0 = some r) (hE : HF w w.W E0) : Calls Tryz.prog 62 [(iv p0)].toArray w.W fun e W' => e = .returned (iv r) ∧ HF w W' E0 := by
 unfold Vn at H
 have leB := Bs.Le.refl w
 refine Tr.enter (n := 6) Tryz.func62 rfl rfl rfl hE ?_
 refine Tr.sr (Tr.asg rfl rfl (Tr.nil (Tr.zA (Tr.seq (Tr.sr (Tr.mv rfl rfl ?_))))))
 obtain ⟨QU, zCy, H⟩ := bnd H
 refine Tr.Qr (r := (.bool QU)) (wn rfl) rfl Tryz.call25 (zI rfl (zI rfl (zI rfl zb))) (fun W hW => VS p0 1 100 QU zCy (HF.start _)) ?_
 refine Tr.nil (Tr.zA (Tr.cond rfl H (fun H => ?_) (fun H => ?_)))
 ·refine Tr.sr (Tr.mv rfl rfl (Tr.asg rfl rfl (Tr.nil (Tr.zA (Tr.ret (Tr.zO ?_))))))
  obtain rfl := Option.some.inj H
  exact Tr.out (m := [(iv p0)]) [] (zQ rfl zT) (fun W hW => ⟨rfl, hW.low leB⟩)
 ·refine Tr.skip (Tr.zA (Tr.sr (Tr.asg rfl rfl (Tr.nil (Tr.zA (Tr.ret ?_))))))
  obtain rfl := Option.some.inj H
  exact Tr.out (m := [(iv 1)]) [] (zQ rfl zT) (fun W hW => ⟨rfl, hW.low leB⟩)

theorem zHW {w : Bs} (p0 : zB) (zF : Option Addr) (zG : Nat) (zl : Sl w.R w.W QH zF zG p0.Points) (zN : Option Addr) (zM : Nat) (VN : Sl w.R w.W zC zN zM p0.Steps) (r : Int) (H : zAy p0 = some r) (hE : HF w w.W E0) : Calls Tryz.prog 49 [(.agg #[(iv p0.Kind), (sv p0.Name), (iv p0.At.X), (iv p0.At.Y), (.slice zF p0.Points.length zG), (iv p0.NX), (iv p0.NY), (.slice zN p0.Steps.length zM)])].toArray w.W fun e W' => e = .returned (iv r) ∧ HF w W' E0 := by
 unfold zAy at H
 have leB := Bs.Le.refl w
 refine Tr.enter (n := 13) Tryz.func49 rfl rfl rfl hE ?_
 refine Tr.sr (Tr.box 1 (cs := [(iv p0.Kind), (sv p0.Name), (iv p0.At.X), (iv p0.At.Y), (.slice zF p0.Points.length zG), (iv p0.NX), (iv p0.NY), (.slice zN p0.Steps.length zM)]) (wn rfl) rfl rfl rfl fun QG => ?_)
 refine Tr.asg rfl rfl (Tr.nil (Tr.zA (Tr.sr (Tr.asg rfl rfl (Tr.nil (Tr.zA (Tr.seq (Tr.draw (by kernel_rfl) (by kernel_rfl) ?_))))))))
 refine Tq.mv rfl rfl (Tq.va rfl (fun _ _ h1 h2 => zD zEe (h1.ev rfl)) ?_)
 refine Tq.va rfl (fun _ _ h1 h2 => zH Ji (h1.ev rfl) (rdb h2 (vs := [(iv p0.Kind), (sv p0.Name), (iv p0.At.X), (iv p0.At.Y), (.slice zF p0.Points.length zG), (iv p0.NX), (iv p0.NY), (.slice zN p0.Steps.length zM)]) (k := 1) rfl 5) rfl) ?_
 obtain ⟨y101, hy101, H⟩ := bnd H
 refine Tq.callF (r := (iv y101)) (wn rfl) rfl rfl Tryz.call62 (zI rfl zb) (fun W hW => zCh p0.NX y101 hy101 (HF.start _)) ?_
 refine Tq.mv rfl rfl (Tq.va rfl (fun _ _ h1 h2 => zD zEd (h1.ev rfl)) ?_)
 refine Tq.va rfl (fun _ _ h1 h2 => zH Ji (h1.ev rfl) (rdb h2 (vs := [(iv p0.Kind), (sv p0.Name), (iv p0.At.X), (iv p0.At.Y), (.slice zF p0.Points.length zG), (iv p0.NX), (iv p0.NY), (.slice zN p0.Steps.length zM)]) (k := 1) rfl 6) rfl) ?_
 obtain ⟨y102, hy102, H⟩ := bnd H
 refine Tq.callF (r := (iv y102)) (wn rfl) rfl rfl Tryz.call62 (zI rfl zb) (fun W hW => zCh p0.NY y102 hy102 (HF.start _)) ?_
 refine Tq.va rfl (fun _ _ h1 h2 => run_mul (h1.ev rfl) (h1.ev rfl)) ?_
 refine Tq.asg rfl rfl (Tq.nil (Tr.zA (Tr.ret ?_)))
 obtain rfl := Option.some.inj H
 exact Tr.out (m := [(iv (w64 (y101 * y102)))]) [] (zQ rfl zT) (fun W hW => ⟨rfl, hW.low leB⟩)

theorem zGG (N : Nat) (rec : (List zB) → Option Int) (hrec : ∀ {w : Bs} (p0 : (List zB)) (zF : Option Addr) (zG : Nat) (zl : Sl w.R w.W zC zF zG p0) (r : Int) (H : rec p0 = some r) (hE : HF w w.W E0), Calls Tryz.prog 27 [(.slice zF p0.length zG)].toArray w.W fun e W' => e = .returned (iv r) ∧ HF w W' E0) {w : Bs} (p0 : (List zB)) (zF : Option Addr) (zG : Nat) (zl : Sl w.R w.W zC zF zG p0) (r : Int) (H : zCP N rec p0 = some r) (hE : HF w w.W E0) : Calls Tryz.prog 27 [(.slice zF p0.length zG)].toArray w.W fun e W' => e = .returned (iv r) ∧ HF w W' E0 := by
 unfold zCP at H
 have leB := Bs.Le.refl w
 refine Tr.enter (n := 30) Tryz.func27 rfl rfl rfl hE ?_
 refine Tr.sr (Tr.asg rfl rfl (Tr.nil (Tr.zA (Tr.sr (Tr.asg rfl rfl (Tr.nil (Tr.zA (Tr.seq (Tr.sr (Tr.mv rfl rfl ?_))))))))))
 refine Tr.va rfl (fun _ _ h1 h2 => QL zCU (h1.ev rfl)) ?_
 refine Tr.mv rfl rfl (Tr.nil (Tr.zA (Tr.block (Tr.loop (σ := (List zB) × Nat × Int) (fun m w s => m = s.1.length + 1 ∧ s.1 = List.drop s.2.1 p0 ∧ s.2.1 ≤ p0.length ∧ QN rec s.1 s.2.1 s.2.2 = some r) (fun s => [(3, (iv s.2.2)), (6, (.slice zF p0.length zG)), (7, (iv (p0.length : Int))), (8, (iv (s.2.1 : Int)))]) (fun s => []) (p0.length + 1) (p0, 0, 0) ⟨rfl, rfl, Nat.zero_le _, H⟩ (.cons rfl (.cons rfl (.cons rfl (.cons rfl .nil)))) .nil (fun _ _ h => absurd h.1 (by simp)) ?_))))
 intro w zGd m s hs
 obtain ⟨VL, iL3, zEy⟩ := s
 obtain ⟨hmL3, zDW, hiL3, H⟩ := hs
 replace zDW : VL = List.drop iL3 p0 := zDW
 replace H : QN rec VL iL3 zEy = some r := H
 replace hmL3 : m + 1 = VL.length + 1 := hmL3
 replace zl := zl.leR zGd
 replace leB := leB.trans zGd
 obtain rfl : m = VL.length := by omega
 clear hmL3
 show Tr _ _ (LF [(3, (iv zEy)), (6, (.slice zF p0.length zG)), (7, (iv (p0.length : Int))), (8, (iv (iL3 : Int)))]) (LE []) _
 cases VL with
 | nil =>
  rw [QN.eq_1] at H
  refine Tr.sr (Tr.va rfl (fun _ _ h1 h2 => Qm (h1.ev rfl) (h1.ev rfl)) ?_)
  refine Tr.nil (Tr.zA (Tr.seq (Tr.zCJ rfl (VR zDW) ?_)))
  refine Tr.exit (Tr.QK (Tr.QK (Tr.JV (Tr.zA (Tr.sr (Tr.mv rfl rfl (Tr.asg rfl rfl (Tr.nil (Tr.zA (Tr.ret ?_))))))))))
  obtain rfl := Option.some.inj H
  exact Tr.out (m := [(iv zEy)]) [] (zQ rfl zT) (fun W hW => ⟨rfl, hW.low leB⟩)
 | cons xL3 VL =>
  rw [QN.eq_2] at H
  refine Tr.sr (Tr.va rfl (fun _ _ h1 h2 => Qm (h1.ev rfl) (h1.ev rfl)) ?_)
  refine Tr.nil (Tr.zA (Tr.seq (Tr.zBn rfl (Vj zDW) ?_)))
  refine Tr.skip (Tr.zA (Tr.seq (Tr.block (Tr.sr ?_))))
  obtain ⟨u127, hRu127, hoku127, hcu127⟩ := (zl).el (Vk zDW)
  obtain ⟨⟨zB7, zB0⟩, ⟨zBQ, zBO⟩⟩ := u127
  obtain ⟨zGm, zEb⟩ := Jn.1 hoku127
  replace zGm : Sl w.R w.W QH zB7 zB0 xL3.Points := zGm
  replace zEb : Sl w.R w.W zC zBQ zBO xL3.Steps := zEb
  refine Tr.va rfl (fun _ _ h1 h2 => zR zIr (h1.ev rfl) zl.form (h1.ev rfl) (Int.natCast_nonneg _) (QX zDW)) ?_
  refine Tr.va rfl (fun _ _ h1 h2 => zo (cs := [(iv xL3.Kind), (sv xL3.Name), (iv xL3.At.X), (iv xL3.At.Y), (.slice zB7 xL3.Points.length zB0), (iv xL3.NX), (iv xL3.NY), (.slice zBQ xL3.Steps.length zBO)]) zDA Vu (h1.ev rfl) (zf.take (rdR hRu127 hcu127 h2) 8) rfl) ?_
  refine Tr.alloc 3 (wn rfl) rfl zFO fun b128 => ?_
  refine Tr.store 3 (cs := [(iv xL3.Kind), (sv xL3.Name), (iv xL3.At.X), (iv xL3.At.Y), (.slice zB7 xL3.Points.length zB0), (iv xL3.NX), (iv xL3.NY), (.slice zBQ xL3.Steps.length zBO)]) [(iv xL3.Kind), (sv xL3.Name), (iv xL3.At.X), (iv xL3.At.Y), (.slice zB7 xL3.Points.length zB0), (iv xL3.NX), (iv xL3.NY), (.slice zBQ xL3.Steps.length zBO)] (wn rfl) rfl rfl rfl rfl Vu rfl rfl rfl ?_
  refine Tr.nil (Tr.zA (Tr.sr (Tr.mv rfl rfl (Tr.va rfl (fun _ _ h1 h2 => Qo (h1.ev rfl) (h1.ev rfl)) ?_))))
  refine Tr.asg rfl rfl (Tr.nil (Tr.zA ?_))
  have leJ132 := Bs.Le.refl w
  refine Tr.cutJ (σ := Int) (fun w s => KI (QN rec VL (iL3 + 1)) s = some r) (fun s => [(3, (iv s)), (6, (.slice zF p0.length zG)), (7, (iv (p0.length : Int))), (8, (iv (iL3 : Int)))]) (fun s => []) ?_ ?_
  ·refine Tr.sr (Tr.va rfl (fun _ _ h1 h2 => zD zAS (h1.ev rfl)) ?_)
   refine Tr.va rfl (fun _ _ h1 h2 => zH zBp (h1.ev rfl) (rdb h2 (vs := [(iv xL3.Kind), (sv xL3.Name), (iv xL3.At.X), (iv xL3.At.Y), (.slice zB7 xL3.Points.length zB0), (iv xL3.NX), (iv xL3.NY), (.slice zBQ xL3.Steps.length zBO)]) (k := 3) rfl 7) rfl) ?_
   refine Tr.va rfl (fun _ _ h1 h2 => QL zCU (h1.ev rfl)) ?_
   refine Tr.va rfl (fun _ _ h1 h2 => WB (h1.ev rfl) (h1.ev rfl)) ?_
   refine Tr.nil (Tr.zA (Tr.cond rfl H (fun H => ?_) (fun H => ?_)))
   ·refine Tr.draw (by kernel_rfl) (by kernel_rfl) ?_
    refine Tq.mv rfl rfl (Tq.va rfl (fun _ _ h1 h2 => zo (cs := [(iv xL3.Kind), (sv xL3.Name), (iv xL3.At.X), (iv xL3.At.Y), (.slice zB7 xL3.Points.length zB0), (iv xL3.NX), (iv xL3.NY), (.slice zBQ xL3.Steps.length zBO)]) zDA Vu (h1.ev rfl) (zf.take (rdb h2 (vs := [(iv xL3.Kind), (sv xL3.Name), (iv xL3.At.X), (iv xL3.At.Y), (.slice zB7 xL3.Points.length zB0), (iv xL3.NX), (iv xL3.NY), (.slice zBQ xL3.Steps.length zBO)]) (k := 3) rfl 0) 8) rfl) ?_)
    obtain ⟨zJE, hy134, H⟩ := bnd H
    refine Tq.Qr (r := (iv zJE)) (wn rfl) rfl Tryz.call49 (zI rfl zb) (fun W hW => zHW xL3 zB7 zB0 (zGm.ext hW.QV) zBQ zBO (zEb.ext hW.QV) zJE hy134 (HF.start _)) ?_
    refine Tq.va rfl (fun _ _ h1 h2 => zD zAS (h1.ev rfl)) ?_
    refine Tq.va rfl (fun _ _ h1 h2 => zH zBp (h1.ev rfl) (rdb h2 (vs := [(iv xL3.Kind), (sv xL3.Name), (iv xL3.At.X), (iv xL3.At.Y), (.slice zB7 xL3.Points.length zB0), (iv xL3.NX), (iv xL3.NY), (.slice zBQ xL3.Steps.length zBO)]) (k := 3) rfl 7) rfl) ?_
    obtain ⟨y135, hy135, H⟩ := bnd H
    refine Tq.Qr (r := (iv y135)) (wn rfl) rfl Tryz.call27 (zI rfl zb) (fun W hW => hrec xL3.Steps zBQ zBO (zEb.ext hW.QV) y135 hy135 (HF.start _)) ?_
    refine Tq.va rfl (fun _ _ h1 h2 => run_mul (h1.ev rfl) (h1.ev rfl)) ?_
    refine Tq.va rfl (fun _ _ h1 h2 => Qo (h1.ev rfl) (h1.ev rfl)) ?_
    exact Tq.asg rfl rfl (Tq.nil (Tr.QF leJ132 (w64 ((w64 (zEy + 1)) + (w64 (zJE * y135)))) H (.cons rfl (.cons rfl (.cons rfl (.cons rfl .nil)))) .nil))
   ·exact Tr.skip (Tr.QF leJ132 (w64 (zEy + 1)) H (.cons rfl (.cons rfl (.cons rfl (.cons rfl .nil)))) .nil)
  ·intro w VP hlJ133 hs
   have H := hs
   replace H : KI (QN rec VL (iL3 + 1)) VP = some r := H
   replace zl := zl.leR hlJ133
   replace leB := leB.trans hlJ133
   replace zGd := zGd.trans hlJ133
   unfold KI at H
   show Tr _ _ (LF [(3, (iv VP)), (6, (.slice zF p0.length zG)), (7, (iv (p0.length : Int))), (8, (iv (iL3 : Int)))]) (LE []) _
   refine Tr.sr (Tr.mv rfl rfl (Tr.va rfl (fun _ _ h1 h2 => WB (h1.ev rfl) (h1.ev rfl)) ?_))
   refine Tr.nil (Tr.zA (Tr.cond rfl H (fun H => ?_) (fun H => ?_)))
   ·refine Tr.sr (Tr.asg rfl rfl (Tr.nil (Tr.zA (Tr.ret (Tr.zm (Tr.zO (Tr.zO (Tr.zm (Tr.zO ?_)))))))))
    obtain rfl := Option.some.inj H
    exact Tr.out (m := [(iv 3001)]) [] (zQ rfl zT) (fun W hW => ⟨rfl, hW.low leB⟩)
   ·refine Tr.skip (Tr.zx (Tr.zA (Tr.region (Tr.va rfl (fun _ _ h1 h2 => Qo (h1.ev rfl) (h1.ev rfl)) ?_))))
    exact Tr.mv rfl rfl (Tr.nil (Tr.QF zGd (VL, (iL3 + 1), VP) ⟨rfl, KE zDW, QX zDW, H⟩ (.cons rfl (.cons rfl (.cons rfl (.cons (congrArg (fun z => some (Value.int .i64 z)) (KD zDW zl.form)) .nil)))) .nil))
theorem zDw : ∀ (N : Nat) {w : Bs} (p0 : (List zB)) (zF : Option Addr) (zG : Nat) (zl : Sl w.R w.W zC zF zG p0) (r : Int) (H : VM N p0 = some r) (hE : HF w w.W E0), Calls Tryz.prog 27 [(.slice zF p0.length zG)].toArray w.W fun e W' => e = .returned (iv r) ∧ HF w W' E0
 | 0 => by intros; rename_i H _; cases H
 | N + 1 => zGG N (VM N) (zDw N)

theorem zFM {w : Bs} (p0 : Int) (r : zBP) (H : WV p0 = some r) (hE : HF w w.W E0) : Calls Tryz.prog 63 [(iv p0)].toArray w.W fun e W' => e = .returned (.agg #[(.bool r.name), (.bool r.at_), (.bool r.points), (.bool r.repeat_)]) ∧ HF w W' E0 := by
 unfold WV at H
 have leB := Bs.Le.refl w
 refine Tr.enter (n := 19) Tryz.func63 rfl rfl rfl hE ?_
 refine Tr.sr (Tr.alloc 1 (wn rfl) rfl ze_109 fun QG => ?_)
 refine Tr.nil (Tr.zA (Tr.seq (Tr.sr (Tr.mv rfl rfl (Tr.nil (Tr.zA (Tr.block (Tr.sr (Tr.va rfl (fun _ _ h1 h2 => Jy (h1.ev rfl) (h1.ev rfl)) ?_)))))))))
 refine Tr.asg rfl rfl (Tr.nil (Tr.zA (Tr.cond rfl H (fun H => ?_) (fun H => ?_))))
 ·refine Tr.sr (Tr.build (vs := [(0, (.bool true))]) (cs := [(.bool true), (.bool false), (.bool false), (.bool false)]) (wn rfl) rfl (QE rfl Qq) (by kernel_rfl) ?_)
  refine Tr.store 1 (cs := [(.bool true), (.bool false), (.bool false), (.bool false)]) [(.bool true), (.bool false), (.bool false), (.bool false)] (wn rfl) rfl rfl rfl rfl zCD rfl rfl rfl ?_
  refine Tr.nil (Tr.zA (Tr.ret (Tr.zm (Tr.zO ?_))))
  obtain rfl := Option.some.inj H
  exact Tr.out (m := [(.agg #[(.bool true), (.bool false), (.bool false), (.bool false)])]) [1] (Ws rfl rfl zI5 zCD zT) (fun W hW => ⟨rfl, hW.low leB⟩)
 ·have leJ102 := Bs.Le.refl w
  refine Tr.cutJ (σ := Bool) (fun w s => KJ p0 s = some r) (fun s => [(2, (.pointer (some ⟨QG, 0, none⟩))), (3, (iv p0)), (7, (.bool s))]) (fun s => [(1, bx QG #[(.bool false), (.bool false), (.bool false), (.bool false)] 109)]) ?_ ?_
  ·refine Tr.sr (Tr.va rfl (fun _ _ h1 h2 => Jy (h1.ev rfl) (h1.ev rfl)) ?_)
   refine Tr.asg rfl rfl (Tr.nil (Tr.zA (Tr.cond rfl H (fun H => ?_) (fun H => ?_))))
   ·exact Tr.skip (Tr.QF leJ102 (p0 == 4) H (.cons rfl (.cons rfl (.cons rfl .nil))) (.cons rfl .nil))
   ·refine Tr.sr (Tr.va rfl (fun _ _ h1 h2 => Jy (h1.ev rfl) (h1.ev rfl)) ?_)
    refine Tr.asg rfl rfl (Tr.nil (Tr.zA (Tr.cond rfl H (fun H => ?_) (fun H => ?_))))
    ·exact Tr.skip (Tr.QF leJ102 (p0 == 5) H (.cons rfl (.cons rfl (.cons rfl .nil))) (.cons rfl .nil))
    ·refine Tr.region (Tr.va rfl (fun _ _ h1 h2 => Jy (h1.ev rfl) (h1.ev rfl)) ?_)
     exact Tr.asg rfl rfl (Tr.nil (Tr.QF leJ102 (p0 == 6) H (.cons rfl (.cons rfl (.cons rfl .nil))) (.cons rfl .nil)))
  ·intro w x101 hlJ103 hs
   have H := hs
   replace H : KJ p0 x101 = some r := H
   replace leB := leB.trans hlJ103
   unfold KJ at H
   show Tr _ _ (LF [(2, (.pointer (some ⟨QG, 0, none⟩))), (3, (iv p0)), (7, (.bool x101))]) (LE [(1, bx QG #[(.bool false), (.bool false), (.bool false), (.bool false)] 109)]) _
   refine Tr.cond rfl H (fun H => ?_) (fun H => ?_)
   ·refine Tr.sr (Tr.build (vs := [(1, (.bool true))]) (cs := [(.bool false), (.bool true), (.bool false), (.bool false)]) (wn rfl) rfl (QE rfl Qq) (by kernel_rfl) ?_)
    refine Tr.store 1 (cs := [(.bool false), (.bool true), (.bool false), (.bool false)]) [(.bool false), (.bool true), (.bool false), (.bool false)] (wn rfl) rfl rfl rfl rfl zCD rfl rfl rfl ?_
    refine Tr.nil (Tr.zA (Tr.ret (Tr.zm (Tr.zO ?_))))
    obtain rfl := Option.some.inj H
    exact Tr.out (m := [(.agg #[(.bool false), (.bool true), (.bool false), (.bool false)])]) [1] (Ws rfl rfl zI5 zCD zT) (fun W hW => ⟨rfl, hW.low leB⟩)
   ·refine Tr.sr (Tr.va rfl (fun _ _ h1 h2 => Jy (h1.ev rfl) (h1.ev rfl)) ?_)
    refine Tr.asg rfl rfl (Tr.nil (Tr.zA (Tr.cond rfl H (fun H => ?_) (fun H => ?_))))
    ·refine Tr.sr (Tr.build (vs := [(2, (.bool true))]) (cs := [(.bool false), (.bool false), (.bool true), (.bool false)]) (wn rfl) rfl (QE rfl Qq) (by kernel_rfl) ?_)
     refine Tr.store 1 (cs := [(.bool false), (.bool false), (.bool true), (.bool false)]) [(.bool false), (.bool false), (.bool true), (.bool false)] (wn rfl) rfl rfl rfl rfl zCD rfl rfl rfl ?_
     refine Tr.nil (Tr.zA (Tr.ret (Tr.zm (Tr.zO ?_))))
     obtain rfl := Option.some.inj H
     exact Tr.out (m := [(.agg #[(.bool false), (.bool false), (.bool true), (.bool false)])]) [1] (Ws rfl rfl zI5 zCD zT) (fun W hW => ⟨rfl, hW.low leB⟩)
    ·refine Tr.sr (Tr.va rfl (fun _ _ h1 h2 => Jy (h1.ev rfl) (h1.ev rfl)) ?_)
     refine Tr.asg rfl rfl (Tr.nil (Tr.zA (Tr.cond rfl H (fun H => ?_) (fun H => ?_))))
     ·refine Tr.sr (Tr.build (vs := [(1, (.bool true)), (3, (.bool true))]) (cs := [(.bool false), (.bool true), (.bool false), (.bool true)]) (wn rfl) rfl (QE rfl (QE rfl Qq)) (by kernel_rfl) ?_)
      refine Tr.store 1 (cs := [(.bool false), (.bool true), (.bool false), (.bool true)]) [(.bool false), (.bool true), (.bool false), (.bool true)] (wn rfl) rfl rfl rfl rfl zCD rfl rfl rfl ?_
      refine Tr.nil (Tr.zA (Tr.ret (Tr.zm (Tr.zO ?_))))
      obtain rfl := Option.some.inj H
      exact Tr.out (m := [(.agg #[(.bool false), (.bool true), (.bool false), (.bool true)])]) [1] (Ws rfl rfl zI5 zCD zT) (fun W hW => ⟨rfl, hW.low leB⟩)
     ·refine Tr.skip (Tr.zx (Tr.zA (Tr.sr (Tr.build (vs := []) (cs := [(.bool false), (.bool false), (.bool false), (.bool false)]) (wn rfl) rfl Qq (by kernel_rfl) ?_))))
      refine Tr.store 1 (cs := [(.bool false), (.bool false), (.bool false), (.bool false)]) [(.bool false), (.bool false), (.bool false), (.bool false)] (wn rfl) rfl rfl rfl rfl zCD rfl rfl rfl ?_
      refine Tr.nil (Tr.zA (Tr.ret ?_))
      obtain rfl := Option.some.inj H
      exact Tr.out (m := [(.agg #[(.bool false), (.bool false), (.bool false), (.bool false)])]) [1] (Ws rfl rfl zI5 zCD zT) (fun W hW => ⟨rfl, hW.low leB⟩)

theorem zFL {w : Bs} (p0 : zS) (zF : Option Addr) (zG : Nat) (zl : Sl w.R w.W KR zF zG p0.Rects) (q0 : ByteArray) (bq0 : Nat) (hb0 : w.R bq0) (hc0 : zf w.W bq0 0 [(sv q0)]) (r : Bool) (H : zAU p0 q0 = some r) (hE : HF w w.W E0) : Calls Tryz.prog 91 [(.agg #[(sv p0.Name), (.slice zF p0.Rects.length zG)]), (.pointer (some ⟨bq0, 0, none⟩))].toArray w.W fun e W' => e = .returned (.bool r) ∧ HF w W' E0 := by
 unfold zAU at H
 have leB := Bs.Le.refl w
 refine Tr.enter (n := 8) Tryz.func91 rfl rfl rfl hE ?_
 refine Tr.sr (Tr.box 1 (cs := [(sv p0.Name), (.slice zF p0.Rects.length zG)]) (wn rfl) rfl rfl rfl fun QG => ?_)
 refine Tr.asg rfl rfl (Tr.nil (Tr.zA (Tr.sr (Tr.va rfl (fun _ _ h1 h2 => zD zDZ (h1.ev rfl)) ?_))))
 refine Tr.va rfl (fun _ _ h1 h2 => zH zB2 (h1.ev rfl) (rdb h2 (vs := [(sv p0.Name), (.slice zF p0.Rects.length zG)]) (k := 1) rfl 0) rfl) ?_
 refine Tr.va rfl (fun _ _ h1 h2 => zH zB2 (h1.ev rfl) (rdR hb0 hc0 h2) rfl) ?_
 refine Tr.va rfl (fun _ _ h1 h2 => Kv (h1.ev rfl) (h1.ev rfl)) ?_
 refine Tr.asg rfl rfl (Tr.nil (Tr.zA (Tr.ret ?_)))
 obtain rfl := Option.some.inj H
 exact Tr.out (m := [(.bool (sEq p0.Name q0))]) [] (zQ rfl zT) (fun W hW => ⟨rfl, hW.low leB⟩)

theorem We {w : Bs} (p0 : (List zS)) (zF : Option Addr) (zG : Nat) (zl : Sl w.R w.W zK zF zG p0) (q0 : ByteArray) (bq0 : Nat) (hb0 : w.R bq0) (hc0 : zf w.W bq0 0 [(sv q0)]) (r : Int) (H : JC p0 q0 = some r) (hE : HF w w.W E0) : Calls Tryz.prog 90 [(.slice zF p0.length zG), (.func (.func 91) #[] #[(.pointer (some ⟨bq0, 0, none⟩))])].toArray w.W fun e W' => e = .returned (iv r) ∧ HF w W' E0 := by
 unfold JC at H
 have leB := Bs.Le.refl w
 refine Tr.enter (n := 19) Tryz.func90 rfl rfl rfl hE ?_
 refine Tr.sr (Tr.asg rfl rfl (Tr.nil (Tr.zA (Tr.seq (Tr.sr (Tr.mv rfl rfl (Tr.va rfl (fun _ _ h1 h2 => QL zG2 (h1.ev rfl)) ?_)))))))
 refine Tr.mv rfl rfl (Tr.nil (Tr.zA (Tr.block (Tr.loop (σ := (List zS) × Nat) (fun m w s => m = s.1.length + 1 ∧ s.1 = List.drop s.2 p0 ∧ s.2 ≤ p0.length ∧ zq q0 s.1 s.2 = some r) (fun s => [(0, (.slice zF p0.length zG)), (1, (.func (.func 91) #[] #[(.pointer (some ⟨bq0, 0, none⟩))])), (7, (iv (p0.length : Int))), (8, (iv (s.2 : Int)))]) (fun s => []) (p0.length + 1) (p0, 0) ⟨rfl, rfl, Nat.zero_le _, H⟩ (.cons rfl (.cons rfl (.cons rfl (.cons rfl .nil)))) .nil (fun _ _ h => absurd h.1 (by simp)) ?_))))
 intro w Qy m s hs
 obtain ⟨ze, iL1⟩ := s
 obtain ⟨WF, QM, hiL1, H⟩ := hs
 replace QM : ze = List.drop iL1 p0 := QM
 replace H : zq q0 ze iL1 = some r := H
 replace WF : m + 1 = ze.length + 1 := WF
 replace zl := zl.leR Qy
 replace hc0 := Qy.ext.cells hb0 hc0
 replace hb0 := Qy.r _ hb0
 replace leB := leB.trans Qy
 obtain rfl : m = ze.length := by omega
 clear WF
 show Tr _ _ (LF [(0, (.slice zF p0.length zG)), (1, (.func (.func 91) #[] #[(.pointer (some ⟨bq0, 0, none⟩))])), (7, (iv (p0.length : Int))), (8, (iv (iL1 : Int)))]) (LE []) _
 cases ze with
 | nil =>
  rw [zq.eq_1] at H
  refine Tr.sr (Tr.va rfl (fun _ _ h1 h2 => Qm (h1.ev rfl) (h1.ev rfl)) ?_)
  refine Tr.nil (Tr.zA (Tr.seq (Tr.zCJ rfl (VR QM) ?_)))
  refine Tr.exit (Tr.QK (Tr.QK (Tr.JV (Tr.zA (Tr.sr (Tr.asg rfl rfl (Tr.nil (Tr.zA (Tr.ret ?_)))))))))
  obtain rfl := Option.some.inj H
  exact Tr.out (m := [(iv (-1))]) [] (zQ rfl zT) (fun W hW => ⟨rfl, hW.low leB⟩)
 | cons xL1 ze =>
  rw [zq.eq_2] at H
  refine Tr.sr (Tr.va rfl (fun _ _ h1 h2 => Qm (h1.ev rfl) (h1.ev rfl)) ?_)
  refine Tr.nil (Tr.zA (Tr.seq (Tr.zBn rfl (Vj QM) ?_)))
  refine Tr.skip (Tr.zA (Tr.seq (Tr.block (Tr.sr (Tr.mv rfl rfl (Tr.asg rfl rfl (Tr.nil (Tr.zA (Tr.sr (Tr.mv rfl rfl ?_))))))))))
  refine Tr.mv rfl rfl (Tr.mv rfl rfl ?_)
  obtain ⟨u104, hRu104, hoku104, hcu104⟩ := (zl).el (Vk QM)
  obtain ⟨zAD, Wz⟩ := u104
  have zCz := hoku104
  replace zCz : Sl w.R w.W KR zAD Wz xL1.Rects := zCz
  refine Tr.va rfl (fun _ _ h1 h2 => zR zHJ (h1.ev rfl) zl.form (h1.ev rfl) (Int.natCast_nonneg _) (QX QM)) ?_
  refine Tr.va rfl (fun _ _ h1 h2 => zo (cs := [(sv xL1.Name), (.slice zAD xL1.Rects.length Wz)]) ag_47 zFU (h1.ev rfl) (zf.take (rdR hRu104 hcu104 h2) 2) rfl) ?_
  obtain ⟨y105, hy105, H⟩ := bnd H
  refine Tr.callF (r := (.bool y105)) (wn rfl) rfl rfl Tryz.call91 (zI rfl zb) (fun W hW => zFL xL1 zAD Wz (zCz.ext hW.QV) q0 bq0 (hW.QV.r _ hb0) (hW.QV.cells hb0 hc0) y105 hy105 (HF.start _)) ?_
  refine Tr.nil (Tr.zA (Tr.cond rfl H (fun H => ?_) (fun H => ?_)))
  ·refine Tr.sr (Tr.mv rfl rfl (Tr.asg rfl rfl (Tr.nil (Tr.zA (Tr.ret (Tr.zm (Tr.zO (Tr.zO (Tr.zm (Tr.zO ?_))))))))))
   obtain rfl := Option.some.inj H
   exact Tr.out (m := [(iv (iL1 : Int))]) [] (zQ rfl zT) (fun W hW => ⟨rfl, hW.low leB⟩)
  ·refine Tr.skip (Tr.zx (Tr.zA (Tr.region (Tr.va rfl (fun _ _ h1 h2 => Qo (h1.ev rfl) (h1.ev rfl)) ?_))))
   exact Tr.mv rfl rfl (Tr.nil (Tr.QF Qy (ze, (iL1 + 1)) ⟨rfl, KE QM, QX QM, H⟩ (.cons rfl (.cons rfl (.cons rfl (.cons (congrArg (fun z => some (Value.int .i64 z)) (KD QM zl.form)) .nil)))) .nil))

theorem zGx {w : Bs} (p0 : zi) (zF : Option Addr) (zG : Nat) (zl : Sl w.R w.W zK zF zG p0.Tools) (zN : Option Addr) (zM : Nat) (VN : Sl w.R w.W zC zN zM p0.Steps) (p1 : ByteArray) (r : Int) (H : zAN p0 p1 = some r) (hE : HF w w.W E0) : Calls Tryz.prog 64 [(.agg #[(iv p0.Unit), (.slice zF p0.Tools.length zG), (.slice zN p0.Steps.length zM)]), (sv p1)].toArray w.W fun e W' => e = .returned (iv r) ∧ HF w W' E0 := by
 unfold zAN at H
 have leB := Bs.Le.refl w
 refine Tr.enter (n := 9) Tryz.func64 rfl rfl rfl hE ?_
 refine Tr.sr (Tr.box 1 (cs := [(iv p0.Unit), (.slice zF p0.Tools.length zG), (.slice zN p0.Steps.length zM)]) (wn rfl) rfl rfl rfl fun QG => ?_)
 refine Tr.box 2 (cs := [(sv p1)]) (wn rfl) rfl rfl rfl fun JX => ?_
 refine Tr.asg rfl rfl (Tr.nil (Tr.zA (Tr.sr (Tr.va rfl (fun _ _ h1 h2 => zD Wj (h1.ev rfl)) ?_))))
 refine Tr.va rfl (fun _ _ h1 h2 => zH zDB (h1.ev rfl) (rdb h2 (vs := [(iv p0.Unit), (.slice zF p0.Tools.length zG), (.slice zN p0.Steps.length zM)]) (k := 1) rfl 1) rfl) ?_
 refine Tr.zGb (vs := [(.pointer (some ⟨JX, 0, none⟩))]) (wn rfl) rfl (zI rfl zb) ?_
 obtain ⟨y102, hy102, H⟩ := bnd H
 refine Tr.Qr (r := (iv y102)) (wn rfl) rfl Tryz.call90 (zI rfl (zI rfl zb)) (fun W hW => We p0.Tools zF zG (zl.ext hW.QV) p1 JX (hW.capR (k := 2) rfl) (hW.capC (k := 2) rfl) y102 hy102 (HF.start _)) ?_
 refine Tr.asg rfl rfl (Tr.nil (Tr.zA (Tr.ret ?_)))
 obtain rfl := Option.some.inj H
 exact Tr.out (m := [(iv y102)]) [] (zQ rfl zT) (fun W hW => ⟨rfl, hW.low leB⟩)

theorem zCi {w : Bs} (p0 : zU) (p1 : Int) (r : Bool) (H : Vo p0 p1 = some r) (hE : HF w w.W E0) : Calls Tryz.prog 65 [(.agg #[(iv p0.X), (iv p0.Y)]), (iv p1)].toArray w.W fun e W' => e = .returned (.bool r) ∧ HF w W' E0 := by
 unfold Vo at H
 have leB := Bs.Le.refl w
 refine Tr.enter (n := 15) Tryz.func65 rfl rfl rfl hE ?_
 refine Tr.sr (Tr.box 1 (cs := [(iv p0.X), (iv p0.Y)]) (wn rfl) rfl rfl rfl fun QG => ?_)
 refine Tr.asg rfl rfl (Tr.nil (Tr.zA (Tr.sr (Tr.va rfl (fun _ _ h1 h2 => zD zHf (h1.ev rfl)) ?_))))
 refine Tr.va rfl (fun _ _ h1 h2 => zH Ji (h1.ev rfl) (rdb h2 (vs := [(iv p0.X), (iv p0.Y)]) (k := 1) rfl 0) rfl) ?_
 refine Tr.mv rfl rfl ?_
 obtain ⟨y101, hy101, H⟩ := bnd H
 refine Tr.Qr (r := (.bool y101)) (wn rfl) rfl Tryz.call48 (zI rfl (zI rfl zb)) (fun W hW => Vp p0.X p1 y101 hy101 (HF.start _)) ?_
 refine Tr.mv rfl rfl ?_
 obtain ⟨zFw, zC3, H⟩ := bnd H
 refine Tr.KY 5 [(14, (.bool zFw))] [(1, bx QG #[(iv p0.X), (iv p0.Y)] 52)] ?_ ?_
 ·cases zEH : y101
  ·rw [zEH] at zC3
   rw [if_neg (by decide)] at zC3
   have H := zC3
   obtain rfl := Option.some.inj H
   refine Tr.pass rfl rfl rfl rfl rfl (by decide) ?_
   refine Tr.pass rfl rfl rfl rfl rfl (by decide) ?_
   refine Tr.pass rfl rfl rfl rfl rfl (by decide) ?_
   refine Tr.pass rfl rfl rfl rfl rfl (by decide) ?_
   refine Tr.va rfl (fun _ _ h1 h2 => zh (h1.ev rfl) (h1.ev rfl)) ?_
   exact Tr.nil (Tr.Qc (.cons rfl .nil) (.cons rfl .nil))
  ·rw [zEH] at zC3
   rw [if_pos rfl] at zC3
   have H := zC3
   refine Tr.val (wg rfl rfl rfl) rfl (fun _ _ h1 h2 => zD zHe (h1.ev rfl)) ?_
   refine Tr.val (wg rfl rfl rfl) rfl (fun _ _ h1 h2 => zH Ji (h1.ev rfl) (rdb h2 (vs := [(iv p0.X), (iv p0.Y)]) (k := 1) rfl 1) rfl) ?_
   refine Tr.val (wg rfl rfl rfl) rfl (fun _ _ h1 h2 => run_move (h1.ev rfl)) ?_
   obtain ⟨y104, hy104, H⟩ := bnd H
   refine Tr.Qr (r := (.bool y104)) (wg rfl rfl rfl) rfl Tryz.call48 (zI rfl (zI rfl zb)) (fun W hW => Vp p0.Y p1 y104 hy104 (HF.start _)) ?_
   refine Tr.va rfl (fun _ _ h1 h2 => zg (h1.ev rfl) (h1.ev rfl)) ?_
   obtain rfl := Option.some.inj H
   exact Tr.nil (Tr.Qc (.cons rfl .nil) (.cons rfl .nil))
 ·show Tr _ _ (LF [(14, (.bool zFw))]) (LE [(1, bx QG #[(iv p0.X), (iv p0.Y)] 52)]) _
  refine Tr.asg rfl rfl (Tr.nil (Tr.zA (Tr.ret ?_)))
  obtain rfl := Option.some.inj H
  exact Tr.out (m := [(.bool zFw)]) [] (zQ rfl zT) (fun W hW => ⟨rfl, hW.low leB⟩)

theorem zD2 {w : Bs} (p0 : zU) (q0 : zi) (Aq0_0 : Option Addr) (cq0_0 : Nat) (hq0_0 : Sl w.R w.W zK Aq0_0 cq0_0 q0.Tools) (Aq0_1 : Option Addr) (cq0_1 : Nat) (hq0_1 : Sl w.R w.W zC Aq0_1 cq0_1 q0.Steps) (bq0 : Nat) (hb0 : w.R bq0) (hc0 : zf w.W bq0 0 [(iv q0.Unit), (.slice Aq0_0 q0.Tools.length cq0_0), (.slice Aq0_1 q0.Steps.length cq0_1)]) (r : Bool) (H : Je p0 q0 = some r) (hE : HF w w.W E0) : Calls Tryz.prog 67 [(.agg #[(iv p0.X), (iv p0.Y)]), (.pointer (some ⟨bq0, 0, none⟩))].toArray w.W fun e W' => e = .returned (.bool r) ∧ HF w W' E0 := by
 unfold Je at H
 have leB := Bs.Le.refl w
 refine Tr.enter (n := 9) Tryz.func67 rfl rfl rfl hE ?_
 refine Tr.sr (Tr.box 1 (cs := [(iv p0.X), (iv p0.Y)]) (wn rfl) rfl rfl rfl fun QG => ?_)
 refine Tr.asg rfl rfl (Tr.nil (Tr.zA (Tr.sr (Tr.va rfl (fun _ _ h1 h2 => zo (cs := [(iv p0.X), (iv p0.Y)]) zCM zAZ (h1.ev rfl) (zf.take (rdb h2 (vs := [(iv p0.X), (iv p0.Y)]) (k := 1) rfl 0) 2) rfl) ?_))))
 refine Tr.va rfl (fun _ _ h1 h2 => zD zBy (h1.ev rfl)) ?_
 refine Tr.va rfl (fun _ _ h1 h2 => zH Ji (h1.ev rfl) (zf.drop (rdR hb0 hc0 h2) 0) rfl) ?_
 obtain ⟨y101, hy101, H⟩ := bnd H
 refine Tr.Qr (r := (.bool y101)) (wn rfl) rfl Tryz.call65 (zI rfl (zI rfl zb)) (fun W hW => zCi p0 q0.Unit y101 hy101 (HF.start _)) ?_
 refine Tr.va rfl (fun _ _ h1 h2 => JA (h1.ev rfl)) ?_
 refine Tr.asg rfl rfl (Tr.nil (Tr.zA (Tr.ret ?_)))
 obtain rfl := Option.some.inj H
 exact Tr.out (m := [(.bool (!y101))]) [] (zQ rfl zT) (fun W hW => ⟨rfl, hW.low leB⟩)

theorem zB5 {w : Bs} (p0 : (List zU)) (zF : Option Addr) (zG : Nat) (zl : Sl w.R w.W QH zF zG p0) (p1 : zU → Option Bool) (fid1 : Nat) (cap1 : List Value) (hg1 : ∀ args W, (callFunc fid1 args).run Tryz.prog W = .ok (.enter fid1 args) W) (hf1 : ∀ (w' : Bs), w.Ext w' → ∀ (z0 : zU), ∀ y, p1 z0 = some y → Calls Tryz.prog fid1 (([(.agg #[(iv z0.X), (iv z0.Y)])] : List Value) ++ cap1).toArray w'.W fun e W'' => e = .returned (.bool y) ∧ HF w' W'' E0) (r : Int) (H : Ko p0 p1 = some r) (hE : HF w w.W E0) : Calls Tryz.prog 92 [(.slice zF p0.length zG), (.func (.func fid1) #[] cap1.toArray)].toArray w.W fun e W' => e = .returned (iv r) ∧ HF w W' E0 := by
 unfold Ko at H
 have leB := Bs.Le.refl w
 refine Tr.enter (n := 19) Tryz.func92 rfl rfl rfl hE ?_
 refine Tr.sr (Tr.asg rfl rfl (Tr.nil (Tr.zA (Tr.seq (Tr.sr (Tr.mv rfl rfl (Tr.va rfl (fun _ _ h1 h2 => QL zD7 (h1.ev rfl)) ?_)))))))
 refine Tr.mv rfl rfl (Tr.nil (Tr.zA (Tr.block (Tr.loop (σ := (List zU) × Nat) (fun m w s => m = s.1.length + 1 ∧ s.1 = List.drop s.2 p0 ∧ s.2 ≤ p0.length ∧ Qe p1 s.1 s.2 = some r) (fun s => [(0, (.slice zF p0.length zG)), (1, (.func (.func fid1) #[] cap1.toArray)), (7, (iv (p0.length : Int))), (8, (iv (s.2 : Int)))]) (fun s => []) (p0.length + 1) (p0, 0) ⟨rfl, rfl, Nat.zero_le _, H⟩ (.cons rfl (.cons rfl (.cons rfl (.cons rfl .nil)))) .nil (fun _ _ h => absurd h.1 (by simp)) ?_))))
 intro w Qy m s hs
 obtain ⟨ze, iL1⟩ := s
 obtain ⟨WF, QM, hiL1, H⟩ := hs
 replace QM : ze = List.drop iL1 p0 := QM
 replace H : Qe p1 ze iL1 = some r := H
 replace WF : m + 1 = ze.length + 1 := WF
 replace zl := zl.leR Qy
 replace hf1 := fun w' he => hf1 w' (Qy.ext.trans he)
 replace leB := leB.trans Qy
 obtain rfl : m = ze.length := by omega
 clear WF
 show Tr _ _ (LF [(0, (.slice zF p0.length zG)), (1, (.func (.func fid1) #[] cap1.toArray)), (7, (iv (p0.length : Int))), (8, (iv (iL1 : Int)))]) (LE []) _
 cases ze with
 | nil =>
  rw [Qe.eq_1] at H
  refine Tr.sr (Tr.va rfl (fun _ _ h1 h2 => Qm (h1.ev rfl) (h1.ev rfl)) ?_)
  refine Tr.nil (Tr.zA (Tr.seq (Tr.zCJ rfl (VR QM) ?_)))
  refine Tr.exit (Tr.QK (Tr.QK (Tr.JV (Tr.zA (Tr.sr (Tr.asg rfl rfl (Tr.nil (Tr.zA (Tr.ret ?_)))))))))
  obtain rfl := Option.some.inj H
  exact Tr.out (m := [(iv (-1))]) [] (zQ rfl zT) (fun W hW => ⟨rfl, hW.low leB⟩)
 | cons xL1 ze =>
  rw [Qe.eq_2] at H
  refine Tr.sr (Tr.va rfl (fun _ _ h1 h2 => Qm (h1.ev rfl) (h1.ev rfl)) ?_)
  refine Tr.nil (Tr.zA (Tr.seq (Tr.zBn rfl (Vj QM) ?_)))
  refine Tr.skip (Tr.zA (Tr.seq (Tr.block (Tr.sr (Tr.mv rfl rfl (Tr.asg rfl rfl (Tr.nil (Tr.zA (Tr.sr (Tr.mv rfl rfl ?_))))))))))
  refine Tr.mv rfl rfl (Tr.mv rfl rfl (Tr.va rfl (fun _ _ h1 h2 => zR zJv (h1.ev rfl) zl.form (h1.ev rfl) (Int.natCast_nonneg _) (QX QM)) ?_))
  refine Tr.va rfl (fun _ _ h1 h2 => zo (cs := [(iv xL1.X), (iv xL1.Y)]) zCM zAZ (h1.ev rfl) (zf.take (rdF zBK zl (Vk QM) h2) 2) rfl) ?_
  obtain ⟨zn, zIh, H⟩ := bnd H
  refine Tr.callF (r := (.bool zn)) (wn rfl) rfl rfl hg1 (zI rfl zb) (fun W hW => hf1 hW.all hW.QV xL1 _ zIh) ?_
  refine Tr.nil (Tr.zA (Tr.cond rfl H (fun H => ?_) (fun H => ?_)))
  ·refine Tr.sr (Tr.mv rfl rfl (Tr.asg rfl rfl (Tr.nil (Tr.zA (Tr.ret (Tr.zm (Tr.zO (Tr.zO (Tr.zm (Tr.zO ?_))))))))))
   obtain rfl := Option.some.inj H
   exact Tr.out (m := [(iv (iL1 : Int))]) [] (zQ rfl zT) (fun W hW => ⟨rfl, hW.low leB⟩)
  ·refine Tr.skip (Tr.zx (Tr.zA (Tr.region (Tr.va rfl (fun _ _ h1 h2 => Qo (h1.ev rfl) (h1.ev rfl)) ?_))))
   exact Tr.mv rfl rfl (Tr.nil (Tr.QF Qy (ze, (iL1 + 1)) ⟨rfl, KE QM, QX QM, H⟩ (.cons rfl (.cons rfl (.cons rfl (.cons (congrArg (fun z => some (Value.int .i64 z)) (KD QM zl.form)) .nil)))) .nil))

theorem zBM {w : Bs} (p0 : (List zU)) (zF : Option Addr) (zG : Nat) (zl : Sl w.R w.W QH zF zG p0) (p1 : zU → Option Bool) (fid1 : Nat) (cap1 : List Value) (hg1 : ∀ args W, (callFunc fid1 args).run Tryz.prog W = .ok (.enter fid1 args) W) (hf1 : ∀ (w' : Bs), w.Ext w' → ∀ (z0 : zU), ∀ y, p1 z0 = some y → Calls Tryz.prog fid1 (([(.agg #[(iv z0.X), (iv z0.Y)])] : List Value) ++ cap1).toArray w'.W fun e W'' => e = .returned (.bool y) ∧ HF w' W'' E0) (r : Bool) (H : JY p0 p1 = some r) (hE : HF w w.W E0) : Calls Tryz.prog 66 [(.slice zF p0.length zG), (.func (.func fid1) #[] cap1.toArray)].toArray w.W fun e W' => e = .returned (.bool r) ∧ HF w W' E0 := by
 unfold JY at H
 have leB := Bs.Le.refl w
 refine Tr.enter (n := 9) Tryz.func66 rfl rfl rfl hE ?_
 refine Tr.sr (Tr.asg rfl rfl (Tr.nil (Tr.zA (Tr.sr (Tr.mv rfl rfl (Tr.mv rfl rfl ?_))))))
 obtain ⟨QU, zCy, H⟩ := bnd H
 refine Tr.Qr (r := (iv QU)) (wn rfl) rfl Tryz.call92 (zI rfl (zI rfl zb)) (fun W hW => zB5 p0 zF zG (zl.ext hW.QV) p1 fid1 cap1 hg1 (fun w' he => hf1 w' (hW.QV.trans he)) QU zCy (HF.start _)) ?_
 refine Tr.va rfl (fun _ _ h1 h2 => zCW (h1.ev rfl) (h1.ev rfl)) ?_
 refine Tr.asg rfl rfl (Tr.nil (Tr.zA (Tr.ret ?_)))
 obtain rfl := Option.some.inj H
 exact Tr.out (m := [(.bool (decide (0 ≤ QU)))]) [] (zQ rfl zT) (fun W hW => ⟨rfl, hW.low leB⟩)

theorem zGw {w : Bs} (p0 : (List zU)) (zF : Option Addr) (zG : Nat) (zl : Sl w.R w.W QH zF zG p0) (r : Bool) (H : zAM p0 = some r) (hE : HF w w.W E0) : Calls Tryz.prog 68 [(.slice zF p0.length zG)].toArray w.W fun e W' => e = .returned (.bool r) ∧ HF w W' E0 := by
 unfold zAM at H
 have leB := Bs.Le.refl w
 refine Tr.enter (n := 36) Tryz.func68 rfl rfl rfl hE ?_
 refine Tr.sr (Tr.asg rfl rfl (Tr.nil (Tr.zA (Tr.seq (Tr.sr (Tr.mv rfl rfl (Tr.va rfl (fun _ _ h1 h2 => QL zD7 (h1.ev rfl)) ?_)))))))
 refine Tr.va rfl (fun _ _ h1 h2 => Qm (h1.ev rfl) (h1.ev rfl)) ?_
 refine Tr.nil (Tr.zA (Tr.cond rfl H (fun H => ?_) (fun H => ?_)))
 ·refine Tr.sr (Tr.asg rfl rfl (Tr.nil (Tr.zA (Tr.ret (Tr.zO ?_)))))
  obtain rfl := Option.some.inj H
  exact Tr.out (m := [(.bool false)]) [] (zQ rfl zT) (fun W hW => ⟨rfl, hW.low leB⟩)
 ·refine Tr.skip (Tr.zA (Tr.seq (Tr.sr (Tr.mv rfl rfl (Tr.va rfl (fun _ _ h1 h2 => QL zD7 (h1.ev rfl)) ?_)))))
  refine Tr.mv rfl rfl (Tr.nil (Tr.zA (Tr.block (Tr.loop (σ := (List zU) × Nat) (fun m w s => m = s.1.length + 1 ∧ s.1 = List.drop s.2 p0 ∧ s.2 ≤ p0.length ∧ KM p0 s.1 s.2 = some r) (fun s => [(0, (.slice zF p0.length zG)), (9, (.slice zF p0.length zG)), (10, (iv (p0.length : Int))), (11, (iv (s.2 : Int)))]) (fun s => []) (p0.length + 1) (p0, 0) ⟨rfl, rfl, Nat.zero_le _, H⟩ (.cons rfl (.cons rfl (.cons rfl (.cons rfl .nil)))) .nil (fun _ _ h => absurd h.1 (by simp)) ?_))))
  intro w Qy m s hs
  obtain ⟨ze, iL1⟩ := s
  obtain ⟨WF, QM, hiL1, H⟩ := hs
  replace QM : ze = List.drop iL1 p0 := QM
  replace H : KM p0 ze iL1 = some r := H
  replace WF : m + 1 = ze.length + 1 := WF
  replace zl := zl.leR Qy
  replace leB := leB.trans Qy
  obtain rfl : m = ze.length := by omega
  clear WF
  show Tr _ _ (LF [(0, (.slice zF p0.length zG)), (9, (.slice zF p0.length zG)), (10, (iv (p0.length : Int))), (11, (iv (iL1 : Int)))]) (LE []) _
  cases ze with
  | nil =>
   rw [KM.eq_1] at H
   refine Tr.sr (Tr.va rfl (fun _ _ h1 h2 => Qm (h1.ev rfl) (h1.ev rfl)) ?_)
   refine Tr.nil (Tr.zA (Tr.seq (Tr.zCJ rfl (VR QM) ?_)))
   refine Tr.exit (Tr.QK (Tr.QK (Tr.JV (Tr.zA (Tr.sr (Tr.asg rfl rfl (Tr.nil (Tr.zA (Tr.ret ?_)))))))))
   obtain rfl := Option.some.inj H
   exact Tr.out (m := [(.bool true)]) [] (zQ rfl zT) (fun W hW => ⟨rfl, hW.low leB⟩)
  | cons xL1 ze =>
   rw [KM.eq_2] at H
   refine Tr.sr (Tr.va rfl (fun _ _ h1 h2 => Qm (h1.ev rfl) (h1.ev rfl)) ?_)
   refine Tr.nil (Tr.zA (Tr.seq (Tr.zBn rfl (Vj QM) ?_)))
   refine Tr.skip (Tr.zA (Tr.seq (Tr.block (Tr.sr (Tr.mv rfl rfl (Tr.va rfl (fun _ _ h1 h2 => zR zJv (h1.ev rfl) zl.form (h1.ev rfl) (Int.natCast_nonneg _) (QX QM)) ?_))))))
   refine Tr.va rfl (fun _ _ h1 h2 => zo (cs := [(iv xL1.X), (iv xL1.Y)]) zCM zAZ (h1.ev rfl) (zf.take (rdF zBK zl (Vk QM) h2) 2) rfl) ?_
   refine Tr.alloc 3 (wn rfl) rfl ze_52 fun b106 => ?_
   refine Tr.asg rfl rfl (Tr.store 3 (cs := [(iv xL1.X), (iv xL1.Y)]) [(iv xL1.X), (iv xL1.Y)] (wn rfl) rfl rfl rfl rfl zAZ rfl rfl rfl ?_)
   refine Tr.nil (Tr.zA (Tr.sr (Tr.mv rfl rfl (Tr.mv rfl rfl (Tr.va rfl (fun _ _ h1 h2 => Qo (h1.ev rfl) (h1.ev rfl)) ?_)))))
   refine Tr.mv rfl rfl (Tr.va rfl (fun _ _ h1 h2 => QL zD7 (h1.ev rfl)) ?_)
   obtain ⟨q107, hq107, H⟩ := bnd H
   refine Tr.va rfl (fun _ _ h1 h2 => run_md (h1.ev rfl) (h1.ev rfl) hq107) ?_
   obtain ⟨WP, zIl, H⟩ := bnd H
   obtain ⟨zFA, zE9, zE8⟩ := QP zIl
   refine Tr.va rfl (fun _ _ h1 h2 => zR zJv (h1.ev rfl) zl.form (h1.ev rfl) zFA zE9) ?_
   refine Tr.va rfl (fun _ _ h1 h2 => zo (cs := [(iv WP.X), (iv WP.Y)]) zCM zAZ (h1.ev rfl) (zf.take (rdF zBK zl zE8 h2) 2) rfl) ?_
   refine Tr.alloc 4 (wn rfl) rfl ze_52 fun b109 => ?_
   refine Tr.store 4 (cs := [(iv WP.X), (iv WP.Y)]) [(iv WP.X), (iv WP.Y)] (wn rfl) rfl rfl rfl rfl zAZ rfl rfl rfl ?_
   refine Tr.nil (Tr.zA (Tr.sr (Tr.va rfl (fun _ _ h1 h2 => zD zHf (h1.ev rfl)) ?_)))
   refine Tr.va rfl (fun _ _ h1 h2 => zH Ji (h1.ev rfl) (rdb h2 (vs := [(iv xL1.X), (iv xL1.Y)]) (k := 3) rfl 0) rfl) ?_
   refine Tr.va rfl (fun _ _ h1 h2 => zD zHf (h1.ev rfl)) ?_
   refine Tr.va rfl (fun _ _ h1 h2 => zH Ji (h1.ev rfl) (rdb h2 (vs := [(iv WP.X), (iv WP.Y)]) (k := 4) rfl 0) rfl) ?_
   refine Tr.va rfl (fun _ _ h1 h2 => Jy (h1.ev rfl) (h1.ev rfl)) ?_
   refine Tr.va rfl (fun _ _ h1 h2 => zD zHe (h1.ev rfl)) ?_
   refine Tr.va rfl (fun _ _ h1 h2 => zH Ji (h1.ev rfl) (rdb h2 (vs := [(iv xL1.X), (iv xL1.Y)]) (k := 3) rfl 1) rfl) ?_
   refine Tr.va rfl (fun _ _ h1 h2 => zD zHe (h1.ev rfl)) ?_
   refine Tr.va rfl (fun _ _ h1 h2 => zH Ji (h1.ev rfl) (rdb h2 (vs := [(iv WP.X), (iv WP.Y)]) (k := 4) rfl 1) rfl) ?_
   refine Tr.va rfl (fun _ _ h1 h2 => Jy (h1.ev rfl) (h1.ev rfl)) ?_
   refine Tr.va rfl (fun _ _ h1 h2 => run_eqlB un_4 (h1.ev rfl) (h1.ev rfl)) ?_
   refine Tr.nil (Tr.zA (Tr.cond rfl H (fun H => ?_) (fun H => ?_)))
   ·refine Tr.sr (Tr.asg rfl rfl (Tr.nil (Tr.zA (Tr.ret (Tr.zm (Tr.zO (Tr.zO (Tr.zm (Tr.zO ?_)))))))))
    obtain rfl := Option.some.inj H
    exact Tr.out (m := [(.bool false)]) [] (zQ rfl zT) (fun W hW => ⟨rfl, hW.low leB⟩)
   ·refine Tr.skip (Tr.zx (Tr.zA (Tr.region (Tr.va rfl (fun _ _ h1 h2 => Qo (h1.ev rfl) (h1.ev rfl)) ?_))))
    exact Tr.mv rfl rfl (Tr.nil (Tr.QF Qy (ze, (iL1 + 1)) ⟨rfl, KE QM, QX QM, H⟩ (.cons rfl (.cons rfl (.cons rfl (.cons (congrArg (fun z => some (Value.int .i64 z)) (KD QM zl.form)) .nil)))) .nil))

theorem zEm {w : Bs} (p0 : zi) (zF : Option Addr) (zG : Nat) (zl : Sl w.R w.W zK zF zG p0.Tools) (zN : Option Addr) (zM : Nat) (VN : Sl w.R w.W zC zN zM p0.Steps) (p1 : zB) (zV : Option Addr) (zW : Nat) (Ql : Sl w.R w.W QH zV zW p1.Points) (QC : Option Addr) (QB : Nat) (zIm : Sl w.R w.W zC QC QB p1.Steps) (p2 : Int) (r : Int) (H : Vr p0 p1 p2 = some r) (hE : HF w w.W E0) : Calls Tryz.prog 50 [(.agg #[(iv p0.Unit), (.slice zF p0.Tools.length zG), (.slice zN p0.Steps.length zM)]), (.agg #[(iv p1.Kind), (sv p1.Name), (iv p1.At.X), (iv p1.At.Y), (.slice zV p1.Points.length zW), (iv p1.NX), (iv p1.NY), (.slice QC p1.Steps.length QB)]), (iv p2)].toArray w.W fun e W' => e = .returned (iv r) ∧ HF w W' E0 := by
 unfold Vr at H
 have leB := Bs.Le.refl w
 refine Tr.enter (n := 120) Tryz.func50 rfl rfl rfl hE ?_
 refine Tr.sr (Tr.box 1 (cs := [(iv p0.Unit), (.slice zF p0.Tools.length zG), (.slice zN p0.Steps.length zM)]) (wn rfl) rfl rfl rfl fun QG => ?_)
 refine Tr.box 2 (cs := [(iv p1.Kind), (sv p1.Name), (iv p1.At.X), (iv p1.At.Y), (.slice zV p1.Points.length zW), (iv p1.NX), (iv p1.NY), (.slice QC p1.Steps.length QB)]) (wn rfl) rfl rfl rfl fun JX => ?_
 refine Tr.asg rfl rfl (Tr.nil (Tr.zA (Tr.seq (Tr.sr (Tr.va rfl (fun _ _ h1 h2 => zD zDX (h1.ev rfl)) ?_)))))
 refine Tr.va rfl (fun _ _ h1 h2 => zH Ji (h1.ev rfl) (rdb h2 (vs := [(iv p1.Kind), (sv p1.Name), (iv p1.At.X), (iv p1.At.Y), (.slice zV p1.Points.length zW), (iv p1.NX), (iv p1.NY), (.slice QC p1.Steps.length QB)]) (k := 2) rfl 0) rfl) ?_
 obtain ⟨y102, hy102, H⟩ := bnd H
 refine Tr.Qr (r := (.bool y102)) (wn rfl) rfl Tryz.call25 (zI rfl (zI rfl (zI rfl zb))) (fun W hW => VS p1.Kind 1 8 y102 hy102 (HF.start _)) ?_
 refine Tr.va rfl (fun _ _ h1 h2 => JA (h1.ev rfl)) ?_
 refine Tr.nil (Tr.zA (Tr.cond rfl H (fun H => ?_) (fun H => ?_)))
 ·refine Tr.sr (Tr.asg rfl rfl (Tr.nil (Tr.zA (Tr.ret (Tr.zO ?_)))))
  obtain rfl := Option.some.inj H
  exact Tr.out (m := [(iv 4)]) [] (zQ rfl zT) (fun W hW => ⟨rfl, hW.low leB⟩)
 ·refine Tr.skip (Tr.zA (Tr.sr (Tr.va rfl (fun _ _ h1 h2 => zD zDX (h1.ev rfl)) ?_)))
  refine Tr.va rfl (fun _ _ h1 h2 => zH Ji (h1.ev rfl) (rdb h2 (vs := [(iv p1.Kind), (sv p1.Name), (iv p1.At.X), (iv p1.At.Y), (.slice zV p1.Points.length zW), (iv p1.NX), (iv p1.NY), (.slice QC p1.Steps.length QB)]) (k := 2) rfl 0) rfl) ?_
  obtain ⟨zn, zIh, H⟩ := bnd H
  refine Tr.Qr (r := (.agg #[(.bool zn.name), (.bool zn.at_), (.bool zn.points), (.bool zn.repeat_)])) (wn rfl) rfl Tryz.call63 (zI rfl zb) (fun W hW => zFM p1.Kind zn zIh (HF.start _)) ?_
  refine Tr.alloc 3 (wn rfl) rfl ze_109 fun Vi => ?_
  refine Tr.store 3 (cs := [(.bool zn.name), (.bool zn.at_), (.bool zn.points), (.bool zn.repeat_)]) [(.bool zn.name), (.bool zn.at_), (.bool zn.points), (.bool zn.repeat_)] (wn rfl) rfl rfl rfl rfl zCD rfl rfl rfl ?_
  refine Tr.nil (Tr.zA (Tr.seq (Tr.block ?_)))
  have leJ106 := Bs.Le.refl w
  refine Tr.cutJ (σ := Bool) (fun w s => QS p0 p1 p2 zn s = some r) (fun s => [(2, (iv p2)), (3, (.pointer (some ⟨QG, 0, none⟩))), (4, (.pointer (some ⟨JX, 0, none⟩))), (7, (.pointer (some ⟨Vi, 0, none⟩))), (15, (.bool s))]) (fun s => [(1, bx QG #[(iv p0.Unit), (.slice zF p0.Tools.length zG), (.slice zN p0.Steps.length zM)] 25), (2, bx JX #[(iv p1.Kind), (sv p1.Name), (iv p1.At.X), (iv p1.At.Y), (.slice zV p1.Points.length zW), (iv p1.NX), (iv p1.NY), (.slice QC p1.Steps.length QB)] 80), (3, bx Vi #[(.bool zn.name), (.bool zn.at_), (.bool zn.points), (.bool zn.repeat_)] 109)]) ?_ ?_
  ·refine Tr.sr (Tr.va rfl (fun _ _ h1 h2 => zD fo_109_0 (h1.ev rfl)) ?_)
   refine Tr.va rfl (fun _ _ h1 h2 => zH zF9 (h1.ev rfl) (rdb h2 (vs := [(.bool zn.name), (.bool zn.at_), (.bool zn.points), (.bool zn.repeat_)]) (k := 3) rfl 0) rfl) ?_
   refine Tr.va rfl (fun _ _ h1 h2 => JA (h1.ev rfl)) ?_
   refine Tr.mv rfl rfl (Tr.KY 4 [(2, (iv p2)), (3, (.pointer (some ⟨QG, 0, none⟩))), (4, (.pointer (some ⟨JX, 0, none⟩))), (7, (.pointer (some ⟨Vi, 0, none⟩))), (23, (.bool ((!zn.name) && (!sEq p1.Name (⟨#[]⟩)))))] [(1, bx QG #[(iv p0.Unit), (.slice zF p0.Tools.length zG), (.slice zN p0.Steps.length zM)] 25), (2, bx JX #[(iv p1.Kind), (sv p1.Name), (iv p1.At.X), (iv p1.At.Y), (.slice zV p1.Points.length zW), (iv p1.NX), (iv p1.NY), (.slice QC p1.Steps.length QB)] 80), (3, bx Vi #[(.bool zn.name), (.bool zn.at_), (.bool zn.points), (.bool zn.repeat_)] 109)] ?_ ?_)
   ·cases Vl : (!zn.name)
    ·refine Tr.pass rfl rfl rfl rfl rfl (by decide) ?_
     refine Tr.pass rfl rfl rfl rfl rfl (by decide) ?_
     refine Tr.pass rfl rfl rfl rfl rfl (by decide) ?_
     refine Tr.va rfl (fun _ _ h1 h2 => zh (h1.ev rfl) (h1.ev rfl)) ?_
     exact Tr.nil (Tr.Qc (.cons rfl (.cons rfl (.cons rfl (.cons rfl (.cons rfl .nil))))) (.cons rfl (.cons rfl (.cons rfl .nil))))
    ·refine Tr.val (wg rfl rfl rfl) rfl (fun _ _ h1 h2 => zD zFx (h1.ev rfl)) ?_
     refine Tr.val (wg rfl rfl rfl) rfl (fun _ _ h1 h2 => zH zB2 (h1.ev rfl) (rdb h2 (vs := [(iv p1.Kind), (sv p1.Name), (iv p1.At.X), (iv p1.At.Y), (.slice zV p1.Points.length zW), (iv p1.NX), (iv p1.NY), (.slice QC p1.Steps.length QB)]) (k := 2) rfl 1) rfl) ?_
     refine Tr.val (wg rfl rfl rfl) rfl (fun _ _ h1 h2 => zCF (h1.ev rfl) (h1.ev rfl)) ?_
     refine Tr.va rfl (fun _ _ h1 h2 => zg (h1.ev rfl) (h1.ev rfl)) ?_
     exact Tr.nil (Tr.Qc (.cons rfl (.cons rfl (.cons rfl (.cons rfl (.cons rfl .nil))))) (.cons rfl (.cons rfl (.cons rfl .nil))))
   ·show Tr _ _ (LF [(2, (iv p2)), (3, (.pointer (some ⟨QG, 0, none⟩))), (4, (.pointer (some ⟨JX, 0, none⟩))), (7, (.pointer (some ⟨Vi, 0, none⟩))), (23, (.bool ((!zn.name) && (!sEq p1.Name (⟨#[]⟩)))))]) (LE [(1, bx QG #[(iv p0.Unit), (.slice zF p0.Tools.length zG), (.slice zN p0.Steps.length zM)] 25), (2, bx JX #[(iv p1.Kind), (sv p1.Name), (iv p1.At.X), (iv p1.At.Y), (.slice zV p1.Points.length zW), (iv p1.NX), (iv p1.NY), (.slice QC p1.Steps.length QB)] 80), (3, bx Vi #[(.bool zn.name), (.bool zn.at_), (.bool zn.points), (.bool zn.repeat_)] 109)]) _
    refine Tr.asg rfl rfl (Tr.nil (Tr.zA (Tr.cond rfl H (fun H => ?_) (fun H => ?_))))
    ·exact Tr.skip (Tr.QF leJ106 ((!zn.name) && (!sEq p1.Name (⟨#[]⟩))) H (.cons rfl (.cons rfl (.cons rfl (.cons rfl (.cons rfl .nil))))) (.cons rfl (.cons rfl (.cons rfl .nil))))
    ·refine Tr.sr (Tr.va rfl (fun _ _ h1 h2 => zD fo_109_1 (h1.ev rfl)) ?_)
     refine Tr.va rfl (fun _ _ h1 h2 => zH zF9 (h1.ev rfl) (rdb h2 (vs := [(.bool zn.name), (.bool zn.at_), (.bool zn.points), (.bool zn.repeat_)]) (k := 3) rfl 1) rfl) ?_
     refine Tr.va rfl (fun _ _ h1 h2 => JA (h1.ev rfl)) ?_
     refine Tr.mv rfl rfl (Tr.KY 5 [(2, (iv p2)), (3, (.pointer (some ⟨QG, 0, none⟩))), (4, (.pointer (some ⟨JX, 0, none⟩))), (7, (.pointer (some ⟨Vi, 0, none⟩))), (32, (.bool ((!zn.at_) && (!(JN p1.At (zU.mk 0 0))))))] [(1, bx QG #[(iv p0.Unit), (.slice zF p0.Tools.length zG), (.slice zN p0.Steps.length zM)] 25), (2, bx JX #[(iv p1.Kind), (sv p1.Name), (iv p1.At.X), (iv p1.At.Y), (.slice zV p1.Points.length zW), (iv p1.NX), (iv p1.NY), (.slice QC p1.Steps.length QB)] 80), (3, bx Vi #[(.bool zn.name), (.bool zn.at_), (.bool zn.points), (.bool zn.repeat_)] 109)] ?_ ?_)
     ·cases Vl : (!zn.at_)
      ·refine Tr.pass rfl rfl rfl rfl rfl (by decide) ?_
       refine Tr.pass rfl rfl rfl rfl rfl (by decide) ?_
       refine Tr.pass rfl rfl rfl rfl rfl (by decide) ?_
       refine Tr.pass rfl rfl rfl rfl rfl (by decide) ?_
       refine Tr.va rfl (fun _ _ h1 h2 => zh (h1.ev rfl) (h1.ev rfl)) ?_
       exact Tr.nil (Tr.Qc (.cons rfl (.cons rfl (.cons rfl (.cons rfl (.cons rfl .nil))))) (.cons rfl (.cons rfl (.cons rfl .nil))))
      ·refine Tr.val (wg rfl rfl rfl) rfl (fun _ _ h1 h2 => zD zBx (h1.ev rfl)) ?_
       refine Tr.val (wg rfl rfl rfl) rfl (fun _ _ h1 h2 => zo (cs := [(iv p1.At.X), (iv p1.At.Y)]) zCM zAZ (h1.ev rfl) (zf.take (rdb h2 (vs := [(iv p1.Kind), (sv p1.Name), (iv p1.At.X), (iv p1.At.Y), (.slice zV p1.Points.length zW), (iv p1.NX), (iv p1.NY), (.slice QC p1.Steps.length QB)]) (k := 2) rfl 2) 2) rfl) ?_
       refine Tr.build (vs := []) (cs := [(iv 0), (iv 0)]) (wg rfl rfl rfl) rfl Qq (by kernel_rfl) ?_
       refine Tr.val (wg rfl rfl rfl) rfl (fun _ _ h1 h2 => zE2 p1.At (zU.mk 0 0) (h1.ev rfl) (h1.ev rfl)) ?_
       refine Tr.va rfl (fun _ _ h1 h2 => zg (h1.ev rfl) (h1.ev rfl)) ?_
       exact Tr.nil (Tr.Qc (.cons rfl (.cons rfl (.cons rfl (.cons rfl (.cons rfl .nil))))) (.cons rfl (.cons rfl (.cons rfl .nil))))
     ·show Tr _ _ (LF [(2, (iv p2)), (3, (.pointer (some ⟨QG, 0, none⟩))), (4, (.pointer (some ⟨JX, 0, none⟩))), (7, (.pointer (some ⟨Vi, 0, none⟩))), (32, (.bool ((!zn.at_) && (!(JN p1.At (zU.mk 0 0))))))]) (LE [(1, bx QG #[(iv p0.Unit), (.slice zF p0.Tools.length zG), (.slice zN p0.Steps.length zM)] 25), (2, bx JX #[(iv p1.Kind), (sv p1.Name), (iv p1.At.X), (iv p1.At.Y), (.slice zV p1.Points.length zW), (iv p1.NX), (iv p1.NY), (.slice QC p1.Steps.length QB)] 80), (3, bx Vi #[(.bool zn.name), (.bool zn.at_), (.bool zn.points), (.bool zn.repeat_)] 109)]) _
      refine Tr.asg rfl rfl (Tr.nil (Tr.zA (Tr.cond rfl H (fun H => ?_) (fun H => ?_))))
      ·exact Tr.skip (Tr.QF leJ106 ((!zn.at_) && (!(JN p1.At (zU.mk 0 0)))) H (.cons rfl (.cons rfl (.cons rfl (.cons rfl (.cons rfl .nil))))) (.cons rfl (.cons rfl (.cons rfl .nil))))
      ·refine Tr.sr (Tr.va rfl (fun _ _ h1 h2 => zD fo_109_2 (h1.ev rfl)) ?_)
       refine Tr.va rfl (fun _ _ h1 h2 => zH zF9 (h1.ev rfl) (rdb h2 (vs := [(.bool zn.name), (.bool zn.at_), (.bool zn.points), (.bool zn.repeat_)]) (k := 3) rfl 2) rfl) ?_
       refine Tr.va rfl (fun _ _ h1 h2 => JA (h1.ev rfl)) ?_
       refine Tr.mv rfl rfl (Tr.KY 5 [(2, (iv p2)), (3, (.pointer (some ⟨QG, 0, none⟩))), (4, (.pointer (some ⟨JX, 0, none⟩))), (7, (.pointer (some ⟨Vi, 0, none⟩))), (41, (.bool ((!zn.points) && (decide (0 < (p1.Points.length : Int))))))] [(1, bx QG #[(iv p0.Unit), (.slice zF p0.Tools.length zG), (.slice zN p0.Steps.length zM)] 25), (2, bx JX #[(iv p1.Kind), (sv p1.Name), (iv p1.At.X), (iv p1.At.Y), (.slice zV p1.Points.length zW), (iv p1.NX), (iv p1.NY), (.slice QC p1.Steps.length QB)] 80), (3, bx Vi #[(.bool zn.name), (.bool zn.at_), (.bool zn.points), (.bool zn.repeat_)] 109)] ?_ ?_)
       ·cases Vl : (!zn.points)
        ·refine Tr.pass rfl rfl rfl rfl rfl (by decide) ?_
         refine Tr.pass rfl rfl rfl rfl rfl (by decide) ?_
         refine Tr.pass rfl rfl rfl rfl rfl (by decide) ?_
         refine Tr.pass rfl rfl rfl rfl rfl (by decide) ?_
         refine Tr.va rfl (fun _ _ h1 h2 => zh (h1.ev rfl) (h1.ev rfl)) ?_
         exact Tr.nil (Tr.Qc (.cons rfl (.cons rfl (.cons rfl (.cons rfl (.cons rfl .nil))))) (.cons rfl (.cons rfl (.cons rfl .nil))))
        ·refine Tr.val (wg rfl rfl rfl) rfl (fun _ _ h1 h2 => zD zBw (h1.ev rfl)) ?_
         refine Tr.val (wg rfl rfl rfl) rfl (fun _ _ h1 h2 => zH zHO (h1.ev rfl) (rdb h2 (vs := [(iv p1.Kind), (sv p1.Name), (iv p1.At.X), (iv p1.At.Y), (.slice zV p1.Points.length zW), (iv p1.NX), (iv p1.NY), (.slice QC p1.Steps.length QB)]) (k := 2) rfl 4) rfl) ?_
         refine Tr.val (wg rfl rfl rfl) rfl (fun _ _ h1 h2 => QL zD7 (h1.ev rfl)) ?_
         refine Tr.val (wg rfl rfl rfl) rfl (fun _ _ h1 h2 => WB (h1.ev rfl) (h1.ev rfl)) ?_
         refine Tr.va rfl (fun _ _ h1 h2 => zg (h1.ev rfl) (h1.ev rfl)) ?_
         exact Tr.nil (Tr.Qc (.cons rfl (.cons rfl (.cons rfl (.cons rfl (.cons rfl .nil))))) (.cons rfl (.cons rfl (.cons rfl .nil))))
       ·show Tr _ _ (LF [(2, (iv p2)), (3, (.pointer (some ⟨QG, 0, none⟩))), (4, (.pointer (some ⟨JX, 0, none⟩))), (7, (.pointer (some ⟨Vi, 0, none⟩))), (41, (.bool ((!zn.points) && (decide (0 < (p1.Points.length : Int))))))]) (LE [(1, bx QG #[(iv p0.Unit), (.slice zF p0.Tools.length zG), (.slice zN p0.Steps.length zM)] 25), (2, bx JX #[(iv p1.Kind), (sv p1.Name), (iv p1.At.X), (iv p1.At.Y), (.slice zV p1.Points.length zW), (iv p1.NX), (iv p1.NY), (.slice QC p1.Steps.length QB)] 80), (3, bx Vi #[(.bool zn.name), (.bool zn.at_), (.bool zn.points), (.bool zn.repeat_)] 109)]) _
        refine Tr.asg rfl rfl (Tr.nil (Tr.zA (Tr.cond rfl H (fun H => ?_) (fun H => ?_))))
        ·exact Tr.skip (Tr.QF leJ106 ((!zn.points) && (decide (0 < (p1.Points.length : Int)))) H (.cons rfl (.cons rfl (.cons rfl (.cons rfl (.cons rfl .nil))))) (.cons rfl (.cons rfl (.cons rfl .nil))))
        ·refine Tr.region (Tr.va rfl (fun _ _ h1 h2 => zD fo_109_3 (h1.ev rfl)) ?_)
         refine Tr.va rfl (fun _ _ h1 h2 => zH zF9 (h1.ev rfl) (rdb h2 (vs := [(.bool zn.name), (.bool zn.at_), (.bool zn.points), (.bool zn.repeat_)]) (k := 3) rfl 3) rfl) ?_
         refine Tr.va rfl (fun _ _ h1 h2 => JA (h1.ev rfl)) ?_
         refine Tr.mv rfl rfl (Tr.KY 15 [(2, (iv p2)), (3, (.pointer (some ⟨QG, 0, none⟩))), (4, (.pointer (some ⟨JX, 0, none⟩))), (7, (.pointer (some ⟨Vi, 0, none⟩))), (60, (.bool ((!zn.repeat_) && (((p1.NX != 0) || (p1.NY != 0)) || (decide (0 < (p1.Steps.length : Int)))))))] [(1, bx QG #[(iv p0.Unit), (.slice zF p0.Tools.length zG), (.slice zN p0.Steps.length zM)] 25), (2, bx JX #[(iv p1.Kind), (sv p1.Name), (iv p1.At.X), (iv p1.At.Y), (.slice zV p1.Points.length zW), (iv p1.NX), (iv p1.NY), (.slice QC p1.Steps.length QB)] 80), (3, bx Vi #[(.bool zn.name), (.bool zn.at_), (.bool zn.points), (.bool zn.repeat_)] 109)] ?_ ?_)
         ·cases Vl : (!zn.repeat_)
          ·refine Tr.pass rfl rfl rfl rfl rfl (by decide) ?_
           refine Tr.pass rfl rfl rfl rfl rfl (by decide) ?_
           refine Tr.pass rfl rfl rfl rfl rfl (by decide) ?_
           refine Tr.pass rfl rfl rfl rfl rfl (by decide) ?_
           refine Tr.Kj rfl rfl rfl rfl (by decide) ?_
           refine Tr.Kj rfl rfl rfl rfl (by decide) ?_
           refine Tr.Kj rfl rfl rfl rfl (by decide) ?_
           refine Tr.pass rfl rfl rfl rfl rfl (by decide) ?_
           refine Tr.pass rfl rfl rfl rfl rfl (by decide) ?_
           refine Tr.Kj rfl rfl rfl rfl (by decide) ?_
           refine Tr.Kj rfl rfl rfl rfl (by decide) ?_
           refine Tr.Kj rfl rfl rfl rfl (by decide) ?_
           refine Tr.Kj rfl rfl rfl rfl (by decide) ?_
           refine Tr.pass rfl rfl rfl rfl rfl (by decide) ?_
           refine Tr.va rfl (fun _ _ h1 h2 => zh (h1.ev rfl) (h1.ev rfl)) ?_
           exact Tr.nil (Tr.Qc (.cons rfl (.cons rfl (.cons rfl (.cons rfl (.cons rfl .nil))))) (.cons rfl (.cons rfl (.cons rfl .nil))))
          ·refine Tr.val (wg rfl rfl rfl) rfl (fun _ _ h1 h2 => zD zEe (h1.ev rfl)) ?_
           refine Tr.val (wg rfl rfl rfl) rfl (fun _ _ h1 h2 => zH Ji (h1.ev rfl) (rdb h2 (vs := [(iv p1.Kind), (sv p1.Name), (iv p1.At.X), (iv p1.At.Y), (.slice zV p1.Points.length zW), (iv p1.NX), (iv p1.NY), (.slice QC p1.Steps.length QB)]) (k := 2) rfl 5) rfl) ?_
           refine Tr.val (wg rfl rfl rfl) rfl (fun _ _ h1 h2 => Jw (h1.ev rfl) (h1.ev rfl)) ?_
           refine Tr.val (wg rfl rfl rfl) rfl (fun _ _ h1 h2 => run_move (h1.ev rfl)) ?_
           refine Tr.KY 4 [(2, (iv p2)), (3, (.pointer (some ⟨QG, 0, none⟩))), (4, (.pointer (some ⟨JX, 0, none⟩))), (7, (.pointer (some ⟨Vi, 0, none⟩))), (45, (.bool true)), (53, (.bool ((p1.NX != 0) || (p1.NY != 0))))] [(1, bx QG #[(iv p0.Unit), (.slice zF p0.Tools.length zG), (.slice zN p0.Steps.length zM)] 25), (2, bx JX #[(iv p1.Kind), (sv p1.Name), (iv p1.At.X), (iv p1.At.Y), (.slice zV p1.Points.length zW), (iv p1.NX), (iv p1.NY), (.slice QC p1.Steps.length QB)] 80), (3, bx Vi #[(.bool zn.name), (.bool zn.at_), (.bool zn.points), (.bool zn.repeat_)] 109)] ?_ ?_
           ·cases Vl : (p1.NX != 0)
            ·refine Tr.val (wg rfl rfl rfl) rfl (fun _ _ h1 h2 => zD zEd (h1.ev rfl)) ?_
             refine Tr.val (wg rfl rfl rfl) rfl (fun _ _ h1 h2 => zH Ji (h1.ev rfl) (rdb h2 (vs := [(iv p1.Kind), (sv p1.Name), (iv p1.At.X), (iv p1.At.Y), (.slice zV p1.Points.length zW), (iv p1.NX), (iv p1.NY), (.slice QC p1.Steps.length QB)]) (k := 2) rfl 6) rfl) ?_
             refine Tr.val (wg rfl rfl rfl) rfl (fun _ _ h1 h2 => Jw (h1.ev rfl) (h1.ev rfl)) ?_
             refine Tr.val (wg rfl rfl rfl) rfl (fun _ _ h1 h2 => zh (h1.ev rfl) (h1.ev rfl)) ?_
             exact Tr.nil (Tr.Qc (.cons rfl (.cons rfl (.cons rfl (.cons rfl (.cons rfl (.cons rfl .nil)))))) (.cons rfl (.cons rfl (.cons rfl .nil))))
            ·refine Tr.pass rfl rfl rfl rfl rfl (by decide) ?_
             refine Tr.pass rfl rfl rfl rfl rfl (by decide) ?_
             refine Tr.pass rfl rfl rfl rfl rfl (by decide) ?_
             refine Tr.val (wg rfl rfl rfl) rfl (fun _ _ h1 h2 => zg (h1.ev rfl) (h1.ev rfl)) ?_
             exact Tr.nil (Tr.Qc (.cons rfl (.cons rfl (.cons rfl (.cons rfl (.cons rfl (.cons rfl .nil)))))) (.cons rfl (.cons rfl (.cons rfl .nil))))
           ·show Tr _ _ (LF [(2, (iv p2)), (3, (.pointer (some ⟨QG, 0, none⟩))), (4, (.pointer (some ⟨JX, 0, none⟩))), (7, (.pointer (some ⟨Vi, 0, none⟩))), (45, (.bool true)), (53, (.bool ((p1.NX != 0) || (p1.NY != 0))))]) (LE [(1, bx QG #[(iv p0.Unit), (.slice zF p0.Tools.length zG), (.slice zN p0.Steps.length zM)] 25), (2, bx JX #[(iv p1.Kind), (sv p1.Name), (iv p1.At.X), (iv p1.At.Y), (.slice zV p1.Points.length zW), (iv p1.NX), (iv p1.NY), (.slice QC p1.Steps.length QB)] 80), (3, bx Vi #[(.bool zn.name), (.bool zn.at_), (.bool zn.points), (.bool zn.repeat_)] 109)]) _
            refine Tr.val (wg rfl rfl rfl) rfl (fun _ _ h1 h2 => run_move (h1.ev rfl)) ?_
            refine Tr.KY 5 [(2, (iv p2)), (3, (.pointer (some ⟨QG, 0, none⟩))), (4, (.pointer (some ⟨JX, 0, none⟩))), (7, (.pointer (some ⟨Vi, 0, none⟩))), (45, (.bool true)), (59, (.bool (((p1.NX != 0) || (p1.NY != 0)) || (decide (0 < (p1.Steps.length : Int))))))] [(1, bx QG #[(iv p0.Unit), (.slice zF p0.Tools.length zG), (.slice zN p0.Steps.length zM)] 25), (2, bx JX #[(iv p1.Kind), (sv p1.Name), (iv p1.At.X), (iv p1.At.Y), (.slice zV p1.Points.length zW), (iv p1.NX), (iv p1.NY), (.slice QC p1.Steps.length QB)] 80), (3, bx Vi #[(.bool zn.name), (.bool zn.at_), (.bool zn.points), (.bool zn.repeat_)] 109)] ?_ ?_
            ·cases Vl : ((p1.NX != 0) || (p1.NY != 0))
             ·refine Tr.val (wg rfl rfl rfl) rfl (fun _ _ h1 h2 => zD zAS (h1.ev rfl)) ?_
              refine Tr.val (wg rfl rfl rfl) rfl (fun _ _ h1 h2 => zH zBp (h1.ev rfl) (rdb h2 (vs := [(iv p1.Kind), (sv p1.Name), (iv p1.At.X), (iv p1.At.Y), (.slice zV p1.Points.length zW), (iv p1.NX), (iv p1.NY), (.slice QC p1.Steps.length QB)]) (k := 2) rfl 7) rfl) ?_
              refine Tr.val (wg rfl rfl rfl) rfl (fun _ _ h1 h2 => QL zCU (h1.ev rfl)) ?_
              refine Tr.val (wg rfl rfl rfl) rfl (fun _ _ h1 h2 => WB (h1.ev rfl) (h1.ev rfl)) ?_
              refine Tr.val (wg rfl rfl rfl) rfl (fun _ _ h1 h2 => zh (h1.ev rfl) (h1.ev rfl)) ?_
              exact Tr.nil (Tr.Qc (.cons rfl (.cons rfl (.cons rfl (.cons rfl (.cons rfl (.cons rfl .nil)))))) (.cons rfl (.cons rfl (.cons rfl .nil))))
             ·refine Tr.pass rfl rfl rfl rfl rfl (by decide) ?_
              refine Tr.pass rfl rfl rfl rfl rfl (by decide) ?_
              refine Tr.pass rfl rfl rfl rfl rfl (by decide) ?_
              refine Tr.pass rfl rfl rfl rfl rfl (by decide) ?_
              refine Tr.val (wg rfl rfl rfl) rfl (fun _ _ h1 h2 => zg (h1.ev rfl) (h1.ev rfl)) ?_
              exact Tr.nil (Tr.Qc (.cons rfl (.cons rfl (.cons rfl (.cons rfl (.cons rfl (.cons rfl .nil)))))) (.cons rfl (.cons rfl (.cons rfl .nil))))
            ·show Tr _ _ (LF [(2, (iv p2)), (3, (.pointer (some ⟨QG, 0, none⟩))), (4, (.pointer (some ⟨JX, 0, none⟩))), (7, (.pointer (some ⟨Vi, 0, none⟩))), (45, (.bool true)), (59, (.bool (((p1.NX != 0) || (p1.NY != 0)) || (decide (0 < (p1.Steps.length : Int))))))]) (LE [(1, bx QG #[(iv p0.Unit), (.slice zF p0.Tools.length zG), (.slice zN p0.Steps.length zM)] 25), (2, bx JX #[(iv p1.Kind), (sv p1.Name), (iv p1.At.X), (iv p1.At.Y), (.slice zV p1.Points.length zW), (iv p1.NX), (iv p1.NY), (.slice QC p1.Steps.length QB)] 80), (3, bx Vi #[(.bool zn.name), (.bool zn.at_), (.bool zn.points), (.bool zn.repeat_)] 109)]) _
             refine Tr.va rfl (fun _ _ h1 h2 => zg (h1.ev rfl) (h1.ev rfl)) ?_
             exact Tr.nil (Tr.Qc (.cons rfl (.cons rfl (.cons rfl (.cons rfl (.cons rfl .nil))))) (.cons rfl (.cons rfl (.cons rfl .nil))))
         ·show Tr _ _ (LF [(2, (iv p2)), (3, (.pointer (some ⟨QG, 0, none⟩))), (4, (.pointer (some ⟨JX, 0, none⟩))), (7, (.pointer (some ⟨Vi, 0, none⟩))), (60, (.bool ((!zn.repeat_) && (((p1.NX != 0) || (p1.NY != 0)) || (decide (0 < (p1.Steps.length : Int)))))))]) (LE [(1, bx QG #[(iv p0.Unit), (.slice zF p0.Tools.length zG), (.slice zN p0.Steps.length zM)] 25), (2, bx JX #[(iv p1.Kind), (sv p1.Name), (iv p1.At.X), (iv p1.At.Y), (.slice zV p1.Points.length zW), (iv p1.NX), (iv p1.NY), (.slice QC p1.Steps.length QB)] 80), (3, bx Vi #[(.bool zn.name), (.bool zn.at_), (.bool zn.points), (.bool zn.repeat_)] 109)]) _
          exact Tr.asg rfl rfl (Tr.nil (Tr.QF leJ106 ((!zn.repeat_) && (((p1.NX != 0) || (p1.NY != 0)) || (decide (0 < (p1.Steps.length : Int))))) H (.cons rfl (.cons rfl (.cons rfl (.cons rfl (.cons rfl .nil))))) (.cons rfl (.cons rfl (.cons rfl .nil)))))
  ·intro w x105 hlJ107 hs
   have H := hs
   replace H : QS p0 p1 p2 zn x105 = some r := H
   replace zl := zl.leR hlJ107
   replace VN := VN.leR hlJ107
   replace Ql := Ql.leR hlJ107
   replace leB := leB.trans hlJ107
   unfold QS at H
   show Tr _ _ (LF [(2, (iv p2)), (3, (.pointer (some ⟨QG, 0, none⟩))), (4, (.pointer (some ⟨JX, 0, none⟩))), (7, (.pointer (some ⟨Vi, 0, none⟩))), (15, (.bool x105))]) (LE [(1, bx QG #[(iv p0.Unit), (.slice zF p0.Tools.length zG), (.slice zN p0.Steps.length zM)] 25), (2, bx JX #[(iv p1.Kind), (sv p1.Name), (iv p1.At.X), (iv p1.At.Y), (.slice zV p1.Points.length zW), (iv p1.NX), (iv p1.NY), (.slice QC p1.Steps.length QB)] 80), (3, bx Vi #[(.bool zn.name), (.bool zn.at_), (.bool zn.points), (.bool zn.repeat_)] 109)]) _
   refine Tr.cond rfl H (fun H => ?_) (fun H => ?_)
   ·refine Tr.sr (Tr.asg rfl rfl (Tr.nil (Tr.zA (Tr.ret (Tr.zm (Tr.zO ?_))))))
    obtain rfl := Option.some.inj H
    exact Tr.out (m := [(iv 3)]) [] (zQ rfl zT) (fun W hW => ⟨rfl, hW.low leB⟩)
   ·refine Tr.sr (Tr.va rfl (fun _ _ h1 h2 => zD fo_109_0 (h1.ev rfl)) ?_)
    refine Tr.va rfl (fun _ _ h1 h2 => zH zF9 (h1.ev rfl) (rdb h2 (vs := [(.bool zn.name), (.bool zn.at_), (.bool zn.points), (.bool zn.repeat_)]) (k := 3) rfl 0) rfl) ?_
    refine Tr.mv rfl rfl ?_
    obtain ⟨g109, zJr, H⟩ := bnd H
    refine Tr.KY 6 [(2, (iv p2)), (3, (.pointer (some ⟨QG, 0, none⟩))), (4, (.pointer (some ⟨JX, 0, none⟩))), (7, (.pointer (some ⟨Vi, 0, none⟩))), (70, (.bool g109))] [(1, bx QG #[(iv p0.Unit), (.slice zF p0.Tools.length zG), (.slice zN p0.Steps.length zM)] 25), (2, bx JX #[(iv p1.Kind), (sv p1.Name), (iv p1.At.X), (iv p1.At.Y), (.slice zV p1.Points.length zW), (iv p1.NX), (iv p1.NY), (.slice QC p1.Steps.length QB)] 80), (3, bx Vi #[(.bool zn.name), (.bool zn.at_), (.bool zn.points), (.bool zn.repeat_)] 109)] ?_ ?_
    ·cases Vl : zn.name
     ·rw [Vl] at zJr
      rw [if_neg (by decide)] at zJr
      have H := zJr
      obtain rfl := Option.some.inj H
      refine Tr.pass rfl rfl rfl rfl rfl (by decide) ?_
      refine Tr.pass rfl rfl rfl rfl rfl (by decide) ?_
      refine Tr.pass rfl rfl rfl rfl rfl (by decide) ?_
      refine Tr.pass rfl rfl rfl rfl rfl (by decide) ?_
      refine Tr.pass rfl rfl rfl rfl rfl (by decide) ?_
      refine Tr.va rfl (fun _ _ h1 h2 => zh (h1.ev rfl) (h1.ev rfl)) ?_
      exact Tr.nil (Tr.Qc (.cons rfl (.cons rfl (.cons rfl (.cons rfl (.cons rfl .nil))))) (.cons rfl (.cons rfl (.cons rfl .nil))))
     ·rw [Vl] at zJr
      rw [if_pos rfl] at zJr
      have H := zJr
      refine Tr.val (wg rfl rfl rfl) rfl (fun _ _ h1 h2 => zo (cs := [(iv p0.Unit), (.slice zF p0.Tools.length zG), (.slice zN p0.Steps.length zM)]) zBZ WQ (h1.ev rfl) (zf.take (rdb h2 (vs := [(iv p0.Unit), (.slice zF p0.Tools.length zG), (.slice zN p0.Steps.length zM)]) (k := 1) rfl 0) 3) rfl) ?_
      refine Tr.val (wg rfl rfl rfl) rfl (fun _ _ h1 h2 => zD zFx (h1.ev rfl)) ?_
      refine Tr.val (wg rfl rfl rfl) rfl (fun _ _ h1 h2 => zH zB2 (h1.ev rfl) (rdb h2 (vs := [(iv p1.Kind), (sv p1.Name), (iv p1.At.X), (iv p1.At.Y), (.slice zV p1.Points.length zW), (iv p1.NX), (iv p1.NY), (.slice QC p1.Steps.length QB)]) (k := 2) rfl 1) rfl) ?_
      obtain ⟨zA4, hy110, H⟩ := bnd H
      refine Tr.Qr (r := (iv zA4)) (wg rfl rfl rfl) rfl Tryz.call64 (zI rfl (zI rfl zb)) (fun W hW => zGx p0 zF zG (zl.ext hW.QV) zN zM (VN.ext hW.QV) p1.Name zA4 hy110 (HF.start _)) ?_
      refine Tr.val (wg rfl rfl rfl) rfl (fun _ _ h1 h2 => Qm (h1.ev rfl) (h1.ev rfl)) ?_
      refine Tr.va rfl (fun _ _ h1 h2 => zg (h1.ev rfl) (h1.ev rfl)) ?_
      obtain rfl := Option.some.inj H
      exact Tr.nil (Tr.Qc (.cons rfl (.cons rfl (.cons rfl (.cons rfl (.cons rfl .nil))))) (.cons rfl (.cons rfl (.cons rfl .nil))))
    ·show Tr _ _ (LF [(2, (iv p2)), (3, (.pointer (some ⟨QG, 0, none⟩))), (4, (.pointer (some ⟨JX, 0, none⟩))), (7, (.pointer (some ⟨Vi, 0, none⟩))), (70, (.bool g109))]) (LE [(1, bx QG #[(iv p0.Unit), (.slice zF p0.Tools.length zG), (.slice zN p0.Steps.length zM)] 25), (2, bx JX #[(iv p1.Kind), (sv p1.Name), (iv p1.At.X), (iv p1.At.Y), (.slice zV p1.Points.length zW), (iv p1.NX), (iv p1.NY), (.slice QC p1.Steps.length QB)] 80), (3, bx Vi #[(.bool zn.name), (.bool zn.at_), (.bool zn.points), (.bool zn.repeat_)] 109)]) _
     refine Tr.asg rfl rfl (Tr.nil (Tr.zA (Tr.cond rfl H (fun H => ?_) (fun H => ?_))))
     ·refine Tr.sr (Tr.asg rfl rfl (Tr.nil (Tr.zA (Tr.ret (Tr.zm (Tr.zO ?_))))))
      obtain rfl := Option.some.inj H
      exact Tr.out (m := [(iv 5)]) [] (zQ rfl zT) (fun W hW => ⟨rfl, hW.low leB⟩)
     ·refine Tr.sr (Tr.va rfl (fun _ _ h1 h2 => zD zBx (h1.ev rfl)) ?_)
      refine Tr.va rfl (fun _ _ h1 h2 => zo (cs := [(iv p1.At.X), (iv p1.At.Y)]) zCM zAZ (h1.ev rfl) (zf.take (rdb h2 (vs := [(iv p1.Kind), (sv p1.Name), (iv p1.At.X), (iv p1.At.Y), (.slice zV p1.Points.length zW), (iv p1.NX), (iv p1.NY), (.slice QC p1.Steps.length QB)]) (k := 2) rfl 2) 2) rfl) ?_
      refine Tr.va rfl (fun _ _ h1 h2 => zD zBy (h1.ev rfl)) ?_
      refine Tr.va rfl (fun _ _ h1 h2 => zH Ji (h1.ev rfl) (rdb h2 (vs := [(iv p0.Unit), (.slice zF p0.Tools.length zG), (.slice zN p0.Steps.length zM)]) (k := 1) rfl 0) rfl) ?_
      obtain ⟨KH, hy111, H⟩ := bnd H
      refine Tr.Qr (r := (.bool KH)) (wn rfl) rfl Tryz.call65 (zI rfl (zI rfl zb)) (fun W hW => zCi p1.At p0.Unit KH hy111 (HF.start _)) ?_
      refine Tr.va rfl (fun _ _ h1 h2 => JA (h1.ev rfl)) ?_
      refine Tr.mv rfl rfl ?_
      obtain ⟨g113, zJq, H⟩ := bnd H
      refine Tr.KY 5 [(2, (iv p2)), (4, (.pointer (some ⟨JX, 0, none⟩))), (7, (.pointer (some ⟨Vi, 0, none⟩))), (83, (.bool g113))] [(1, bx QG #[(iv p0.Unit), (.slice zF p0.Tools.length zG), (.slice zN p0.Steps.length zM)] 25), (2, bx JX #[(iv p1.Kind), (sv p1.Name), (iv p1.At.X), (iv p1.At.Y), (.slice zV p1.Points.length zW), (iv p1.NX), (iv p1.NY), (.slice QC p1.Steps.length QB)] 80), (3, bx Vi #[(.bool zn.name), (.bool zn.at_), (.bool zn.points), (.bool zn.repeat_)] 109)] ?_ ?_
      ·cases Vl : (!KH)
       ·rw [Vl] at zJq
        rw [if_neg (by decide)] at zJq
        have H := zJq
        refine Tr.val (wg rfl rfl rfl) rfl (fun _ _ h1 h2 => zD zBw (h1.ev rfl)) ?_
        refine Tr.val (wg rfl rfl rfl) rfl (fun _ _ h1 h2 => zH zHO (h1.ev rfl) (rdb h2 (vs := [(iv p1.Kind), (sv p1.Name), (iv p1.At.X), (iv p1.At.Y), (.slice zV p1.Points.length zW), (iv p1.NX), (iv p1.NY), (.slice QC p1.Steps.length QB)]) (k := 2) rfl 4) rfl) ?_
        refine Tr.zGb (vs := [(.pointer (some ⟨QG, 0, none⟩))]) (wg rfl rfl rfl) rfl (zI rfl zb) ?_
        obtain ⟨y114, hy114, H⟩ := bnd H
        refine Tr.Qr (r := (.bool y114)) (wg rfl rfl rfl) rfl Tryz.call66 (zI rfl (zI rfl zb)) (fun W hW => zBM p1.Points zV zW (Ql.ext hW.QV) (fun z0 => Je z0 p0) 67 [(.pointer (some ⟨QG, 0, none⟩))] Tryz.call67 (fun w' he z0 y hy => zD2 z0 p0 zF zG (zl.ext (hW.QV.trans he)) zN zM (VN.ext (hW.QV.trans he)) QG (he.r _ (hW.capR (k := 1) rfl)) (he.cells (hW.capR (k := 1) rfl) (hW.capC (k := 1) rfl)) y hy (HF.start _)) y114 hy114 (HF.start _)) ?_
        refine Tr.va rfl (fun _ _ h1 h2 => zh (h1.ev rfl) (h1.ev rfl)) ?_
        obtain rfl := Option.some.inj H
        exact Tr.nil (Tr.Qc (.cons rfl (.cons rfl (.cons rfl (.cons rfl .nil)))) (.cons rfl (.cons rfl (.cons rfl .nil))))
       ·rw [Vl] at zJq
        rw [if_pos rfl] at zJq
        have H := zJq
        obtain rfl := Option.some.inj H
        refine Tr.pass rfl rfl rfl rfl rfl (by decide) ?_
        refine Tr.pass rfl rfl rfl rfl rfl (by decide) ?_
        refine Tr.pass rfl rfl rfl rfl rfl (by decide) ?_
        refine Tr.pass rfl rfl rfl rfl rfl (by decide) ?_
        refine Tr.va rfl (fun _ _ h1 h2 => zg (h1.ev rfl) (h1.ev rfl)) ?_
        exact Tr.nil (Tr.Qc (.cons rfl (.cons rfl (.cons rfl (.cons rfl .nil)))) (.cons rfl (.cons rfl (.cons rfl .nil))))
      ·show Tr _ _ (LF [(2, (iv p2)), (4, (.pointer (some ⟨JX, 0, none⟩))), (7, (.pointer (some ⟨Vi, 0, none⟩))), (83, (.bool g113))]) (LE [(1, bx QG #[(iv p0.Unit), (.slice zF p0.Tools.length zG), (.slice zN p0.Steps.length zM)] 25), (2, bx JX #[(iv p1.Kind), (sv p1.Name), (iv p1.At.X), (iv p1.At.Y), (.slice zV p1.Points.length zW), (iv p1.NX), (iv p1.NY), (.slice QC p1.Steps.length QB)] 80), (3, bx Vi #[(.bool zn.name), (.bool zn.at_), (.bool zn.points), (.bool zn.repeat_)] 109)]) _
       refine Tr.asg rfl rfl (Tr.nil (Tr.zA (Tr.cond rfl H (fun H => ?_) (fun H => ?_))))
       ·refine Tr.sr (Tr.asg rfl rfl (Tr.nil (Tr.zA (Tr.ret (Tr.zm (Tr.zO ?_))))))
        obtain rfl := Option.some.inj H
        exact Tr.out (m := [(iv 1)]) [] (zQ rfl zT) (fun W hW => ⟨rfl, hW.low leB⟩)
       ·refine Tr.sr (Tr.va rfl (fun _ _ h1 h2 => zD zBw (h1.ev rfl)) ?_)
        refine Tr.va rfl (fun _ _ h1 h2 => zH zHO (h1.ev rfl) (rdb h2 (vs := [(iv p1.Kind), (sv p1.Name), (iv p1.At.X), (iv p1.At.Y), (.slice zV p1.Points.length zW), (iv p1.NX), (iv p1.NY), (.slice QC p1.Steps.length QB)]) (k := 2) rfl 4) rfl) ?_
        refine Tr.va rfl (fun _ _ h1 h2 => QL zD7 (h1.ev rfl)) ?_
        refine Tr.va rfl (fun _ _ h1 h2 => WB (h1.ev rfl) (h1.ev rfl)) ?_
        refine Tr.asg rfl rfl (Tr.nil (Tr.zA (Tr.cond rfl H (fun H => ?_) (fun H => ?_))))
        ·refine Tr.sr (Tr.asg rfl rfl (Tr.nil (Tr.zA (Tr.ret (Tr.zm (Tr.zO ?_))))))
         obtain rfl := Option.some.inj H
         exact Tr.out (m := [(iv 2)]) [] (zQ rfl zT) (fun W hW => ⟨rfl, hW.low leB⟩)
        ·refine Tr.sr (Tr.va rfl (fun _ _ h1 h2 => zD fo_109_2 (h1.ev rfl)) ?_)
         refine Tr.va rfl (fun _ _ h1 h2 => zH zF9 (h1.ev rfl) (rdb h2 (vs := [(.bool zn.name), (.bool zn.at_), (.bool zn.points), (.bool zn.repeat_)]) (k := 3) rfl 2) rfl) ?_
         refine Tr.mv rfl rfl ?_
         obtain ⟨g116, zJp, H⟩ := bnd H
         refine Tr.KY 5 [(2, (iv p2)), (4, (.pointer (some ⟨JX, 0, none⟩))), (7, (.pointer (some ⟨Vi, 0, none⟩))), (97, (.bool g116))] [(1, bx QG #[(iv p0.Unit), (.slice zF p0.Tools.length zG), (.slice zN p0.Steps.length zM)] 25), (2, bx JX #[(iv p1.Kind), (sv p1.Name), (iv p1.At.X), (iv p1.At.Y), (.slice zV p1.Points.length zW), (iv p1.NX), (iv p1.NY), (.slice QC p1.Steps.length QB)] 80), (3, bx Vi #[(.bool zn.name), (.bool zn.at_), (.bool zn.points), (.bool zn.repeat_)] 109)] ?_ ?_
         ·cases Vl : zn.points
          ·rw [Vl] at zJp
           rw [if_neg (by decide)] at zJp
           have H := zJp
           obtain rfl := Option.some.inj H
           refine Tr.pass rfl rfl rfl rfl rfl (by decide) ?_
           refine Tr.pass rfl rfl rfl rfl rfl (by decide) ?_
           refine Tr.pass rfl rfl rfl rfl rfl (by decide) ?_
           refine Tr.pass rfl rfl rfl rfl rfl (by decide) ?_
           refine Tr.va rfl (fun _ _ h1 h2 => zh (h1.ev rfl) (h1.ev rfl)) ?_
           exact Tr.nil (Tr.Qc (.cons rfl (.cons rfl (.cons rfl (.cons rfl .nil)))) (.cons rfl (.cons rfl (.cons rfl .nil))))
          ·rw [Vl] at zJp
           rw [if_pos rfl] at zJp
           have H := zJp
           refine Tr.val (wg rfl rfl rfl) rfl (fun _ _ h1 h2 => zD zBw (h1.ev rfl)) ?_
           refine Tr.val (wg rfl rfl rfl) rfl (fun _ _ h1 h2 => zH zHO (h1.ev rfl) (rdb h2 (vs := [(iv p1.Kind), (sv p1.Name), (iv p1.At.X), (iv p1.At.Y), (.slice zV p1.Points.length zW), (iv p1.NX), (iv p1.NY), (.slice QC p1.Steps.length QB)]) (k := 2) rfl 4) rfl) ?_
           obtain ⟨y117, hy117, H⟩ := bnd H
           refine Tr.Qr (r := (.bool y117)) (wg rfl rfl rfl) rfl Tryz.call68 (zI rfl zb) (fun W hW => zGw p1.Points zV zW (Ql.ext hW.QV) y117 hy117 (HF.start _)) ?_
           refine Tr.val (wg rfl rfl rfl) rfl (fun _ _ h1 h2 => JA (h1.ev rfl)) ?_
           refine Tr.va rfl (fun _ _ h1 h2 => zg (h1.ev rfl) (h1.ev rfl)) ?_
           obtain rfl := Option.some.inj H
           exact Tr.nil (Tr.Qc (.cons rfl (.cons rfl (.cons rfl (.cons rfl .nil)))) (.cons rfl (.cons rfl (.cons rfl .nil))))
         ·show Tr _ _ (LF [(2, (iv p2)), (4, (.pointer (some ⟨JX, 0, none⟩))), (7, (.pointer (some ⟨Vi, 0, none⟩))), (97, (.bool g116))]) (LE [(1, bx QG #[(iv p0.Unit), (.slice zF p0.Tools.length zG), (.slice zN p0.Steps.length zM)] 25), (2, bx JX #[(iv p1.Kind), (sv p1.Name), (iv p1.At.X), (iv p1.At.Y), (.slice zV p1.Points.length zW), (iv p1.NX), (iv p1.NY), (.slice QC p1.Steps.length QB)] 80), (3, bx Vi #[(.bool zn.name), (.bool zn.at_), (.bool zn.points), (.bool zn.repeat_)] 109)]) _
          refine Tr.asg rfl rfl (Tr.nil (Tr.zA (Tr.cond rfl H (fun H => ?_) (fun H => ?_))))
          ·refine Tr.sr (Tr.asg rfl rfl (Tr.nil (Tr.zA (Tr.ret (Tr.zm (Tr.zO ?_))))))
           obtain rfl := Option.some.inj H
           exact Tr.out (m := [(iv 3)]) [] (zQ rfl zT) (fun W hW => ⟨rfl, hW.low leB⟩)
          ·refine Tr.skip (Tr.zx (Tr.zA (Tr.seq (Tr.sr (Tr.va rfl (fun _ _ h1 h2 => zD fo_109_3 (h1.ev rfl)) ?_)))))
           refine Tr.va rfl (fun _ _ h1 h2 => zH zF9 (h1.ev rfl) (rdb h2 (vs := [(.bool zn.name), (.bool zn.at_), (.bool zn.points), (.bool zn.repeat_)]) (k := 3) rfl 3) rfl) ?_
           refine Tr.va rfl (fun _ _ h1 h2 => JA (h1.ev rfl)) ?_
           refine Tr.nil (Tr.zA (Tr.cond rfl H (fun H => ?_) (fun H => ?_)))
           ·refine Tr.sr (Tr.asg rfl rfl (Tr.nil (Tr.zA (Tr.ret (Tr.zO ?_)))))
            obtain rfl := Option.some.inj H
            exact Tr.out (m := [(iv 0)]) [] (zQ rfl zT) (fun W hW => ⟨rfl, hW.low leB⟩)
           ·refine Tr.skip (Tr.zA (Tr.seq (Tr.block (Tr.sr (Tr.va rfl (fun _ _ h1 h2 => zD zEe (h1.ev rfl)) ?_)))))
            refine Tr.va rfl (fun _ _ h1 h2 => zH Ji (h1.ev rfl) (rdb h2 (vs := [(iv p1.Kind), (sv p1.Name), (iv p1.At.X), (iv p1.At.Y), (.slice zV p1.Points.length zW), (iv p1.NX), (iv p1.NY), (.slice QC p1.Steps.length QB)]) (k := 2) rfl 5) rfl) ?_
            obtain ⟨y118, hy118, H⟩ := bnd H
            refine Tr.Qr (r := (.bool y118)) (wn rfl) rfl Tryz.call25 (zI rfl (zI rfl (zI rfl zb))) (fun W hW => VS p1.NX 1 100 y118 hy118 (HF.start _)) ?_
            refine Tr.va rfl (fun _ _ h1 h2 => JA (h1.ev rfl)) ?_
            refine Tr.mv rfl rfl ?_
            obtain ⟨g120, zJo, H⟩ := bnd H
            refine Tr.KY 5 [(2, (iv p2)), (4, (.pointer (some ⟨JX, 0, none⟩))), (111, (.bool g120))] [(1, bx QG #[(iv p0.Unit), (.slice zF p0.Tools.length zG), (.slice zN p0.Steps.length zM)] 25), (2, bx JX #[(iv p1.Kind), (sv p1.Name), (iv p1.At.X), (iv p1.At.Y), (.slice zV p1.Points.length zW), (iv p1.NX), (iv p1.NY), (.slice QC p1.Steps.length QB)] 80), (3, bx Vi #[(.bool zn.name), (.bool zn.at_), (.bool zn.points), (.bool zn.repeat_)] 109)] ?_ ?_
            ·cases Vl : (!y118)
             ·rw [Vl] at zJo
              rw [if_neg (by decide)] at zJo
              have H := zJo
              refine Tr.val (wg rfl rfl rfl) rfl (fun _ _ h1 h2 => zD zEd (h1.ev rfl)) ?_
              refine Tr.val (wg rfl rfl rfl) rfl (fun _ _ h1 h2 => zH Ji (h1.ev rfl) (rdb h2 (vs := [(iv p1.Kind), (sv p1.Name), (iv p1.At.X), (iv p1.At.Y), (.slice zV p1.Points.length zW), (iv p1.NX), (iv p1.NY), (.slice QC p1.Steps.length QB)]) (k := 2) rfl 6) rfl) ?_
              obtain ⟨y121, hy121, H⟩ := bnd H
              refine Tr.Qr (r := (.bool y121)) (wg rfl rfl rfl) rfl Tryz.call25 (zI rfl (zI rfl (zI rfl zb))) (fun W hW => VS p1.NY 1 100 y121 hy121 (HF.start _)) ?_
              refine Tr.val (wg rfl rfl rfl) rfl (fun _ _ h1 h2 => JA (h1.ev rfl)) ?_
              refine Tr.va rfl (fun _ _ h1 h2 => zh (h1.ev rfl) (h1.ev rfl)) ?_
              obtain rfl := Option.some.inj H
              exact Tr.nil (Tr.Qc (.cons rfl (.cons rfl (.cons rfl .nil))) (.cons rfl (.cons rfl (.cons rfl .nil))))
             ·rw [Vl] at zJo
              rw [if_pos rfl] at zJo
              have H := zJo
              obtain rfl := Option.some.inj H
              refine Tr.pass rfl rfl rfl rfl rfl (by decide) ?_
              refine Tr.pass rfl rfl rfl rfl rfl (by decide) ?_
              refine Tr.pass rfl rfl rfl rfl rfl (by decide) ?_
              refine Tr.pass rfl rfl rfl rfl rfl (by decide) ?_
              refine Tr.va rfl (fun _ _ h1 h2 => zg (h1.ev rfl) (h1.ev rfl)) ?_
              exact Tr.nil (Tr.Qc (.cons rfl (.cons rfl (.cons rfl .nil))) (.cons rfl (.cons rfl (.cons rfl .nil))))
            ·show Tr _ _ (LF [(2, (iv p2)), (4, (.pointer (some ⟨JX, 0, none⟩))), (111, (.bool g120))]) (LE [(1, bx QG #[(iv p0.Unit), (.slice zF p0.Tools.length zG), (.slice zN p0.Steps.length zM)] 25), (2, bx JX #[(iv p1.Kind), (sv p1.Name), (iv p1.At.X), (iv p1.At.Y), (.slice zV p1.Points.length zW), (iv p1.NX), (iv p1.NY), (.slice QC p1.Steps.length QB)] 80), (3, bx Vi #[(.bool zn.name), (.bool zn.at_), (.bool zn.points), (.bool zn.repeat_)] 109)]) _
             refine Tr.asg rfl rfl (Tr.nil (Tr.zA (Tr.cond rfl H (fun H => ?_) (fun H => ?_))))
             ·refine Tr.sr (Tr.asg rfl rfl (Tr.nil (Tr.zA (Tr.ret (Tr.zm (Tr.zO ?_))))))
              obtain rfl := Option.some.inj H
              exact Tr.out (m := [(iv 1)]) [] (zQ rfl zT) (fun W hW => ⟨rfl, hW.low leB⟩)
             ·refine Tr.sr (Tr.va rfl (fun _ _ h1 h2 => zD zAS (h1.ev rfl)) ?_)
              refine Tr.va rfl (fun _ _ h1 h2 => zH zBp (h1.ev rfl) (rdb h2 (vs := [(iv p1.Kind), (sv p1.Name), (iv p1.At.X), (iv p1.At.Y), (.slice zV p1.Points.length zW), (iv p1.NX), (iv p1.NY), (.slice QC p1.Steps.length QB)]) (k := 2) rfl 7) rfl) ?_
              refine Tr.va rfl (fun _ _ h1 h2 => QL zCU (h1.ev rfl)) ?_
              refine Tr.va rfl (fun _ _ h1 h2 => Jy (h1.ev rfl) (h1.ev rfl)) ?_
              refine Tr.asg rfl rfl (Tr.nil (Tr.zA (Tr.cond rfl H (fun H => ?_) (fun H => ?_))))
              ·refine Tr.sr (Tr.asg rfl rfl (Tr.nil (Tr.zA (Tr.ret (Tr.zm (Tr.zO ?_))))))
               obtain rfl := Option.some.inj H
               exact Tr.out (m := [(iv 9)]) [] (zQ rfl zT) (fun W hW => ⟨rfl, hW.low leB⟩)
              ·refine Tr.sr (Tr.mv rfl rfl (Tr.va rfl (fun _ _ h1 h2 => zCW (h1.ev rfl) (h1.ev rfl)) ?_))
               refine Tr.asg rfl rfl (Tr.nil (Tr.zA (Tr.cond rfl H (fun H => ?_) (fun H => ?_))))
               ·refine Tr.sr (Tr.asg rfl rfl (Tr.nil (Tr.zA (Tr.ret (Tr.zm (Tr.zO ?_))))))
                obtain rfl := Option.some.inj H
                exact Tr.out (m := [(iv 2)]) [] (zQ rfl zT) (fun W hW => ⟨rfl, hW.low leB⟩)
               ·refine Tr.skip (Tr.zx (Tr.zA (Tr.sr (Tr.asg rfl rfl (Tr.nil (Tr.zA (Tr.ret ?_)))))))
                obtain rfl := Option.some.inj H
                exact Tr.out (m := [(iv 0)]) [] (zQ rfl zT) (fun W hW => ⟨rfl, hW.low leB⟩)

theorem zDl (N : Nat) (rec : zi → (List zB) → Int → Option Int) (hrec : ∀ {w : Bs} (p0 : zi) (zF : Option Addr) (zG : Nat) (zl : Sl w.R w.W zK zF zG p0.Tools) (zN : Option Addr) (zM : Nat) (VN : Sl w.R w.W zC zN zM p0.Steps) (p1 : (List zB)) (zV : Option Addr) (zW : Nat) (Ql : Sl w.R w.W zC zV zW p1) (p2 : Int) (r : Int) (H : rec p0 p1 p2 = some r) (hE : HF w w.W E0), Calls Tryz.prog 28 [(.agg #[(iv p0.Unit), (.slice zF p0.Tools.length zG), (.slice zN p0.Steps.length zM)]), (.slice zV p1.length zW), (iv p2)].toArray w.W fun e W' => e = .returned (iv r) ∧ HF w W' E0) {w : Bs} (p0 : zi) (zF : Option Addr) (zG : Nat) (zl : Sl w.R w.W zK zF zG p0.Tools) (zN : Option Addr) (zM : Nat) (VN : Sl w.R w.W zC zN zM p0.Steps) (p1 : (List zB)) (zV : Option Addr) (zW : Nat) (Ql : Sl w.R w.W zC zV zW p1) (p2 : Int) (r : Int) (H : zAI N rec p0 p1 p2 = some r) (hE : HF w w.W E0) : Calls Tryz.prog 28 [(.agg #[(iv p0.Unit), (.slice zF p0.Tools.length zG), (.slice zN p0.Steps.length zM)]), (.slice zV p1.length zW), (iv p2)].toArray w.W fun e W' => e = .returned (iv r) ∧ HF w W' E0 := by
 unfold zAI at H
 have leB := Bs.Le.refl w
 refine Tr.enter (n := 34) Tryz.func28 rfl rfl rfl hE ?_
 refine Tr.sr (Tr.box 1 (cs := [(iv p0.Unit), (.slice zF p0.Tools.length zG), (.slice zN p0.Steps.length zM)]) (wn rfl) rfl rfl rfl fun QG => ?_)
 refine Tr.asg rfl rfl (Tr.nil (Tr.zA (Tr.seq (Tr.sr (Tr.mv rfl rfl (Tr.va rfl (fun _ _ h1 h2 => QL zCU (h1.ev rfl)) ?_))))))
 refine Tr.mv rfl rfl (Tr.nil (Tr.zA (Tr.block (Tr.loop (σ := (List zB) × Nat) (fun m w s => m = s.1.length + 1 ∧ s.1 = List.drop s.2 p1 ∧ s.2 ≤ p1.length ∧ Qn p0 p2 rec s.1 s.2 = some r) (fun s => [(2, (iv p2)), (3, (.pointer (some ⟨QG, 0, none⟩))), (11, (.slice zV p1.length zW)), (12, (iv (p1.length : Int))), (13, (iv (s.2 : Int)))]) (fun s => [(1, bx QG #[(iv p0.Unit), (.slice zF p0.Tools.length zG), (.slice zN p0.Steps.length zM)] 25)]) (p1.length + 1) (p1, 0) ⟨rfl, rfl, Nat.zero_le _, H⟩ (.cons rfl (.cons rfl (.cons rfl (.cons rfl (.cons rfl .nil))))) (.cons rfl .nil) (fun _ _ h => absurd h.1 (by simp)) ?_))))
 intro w Qy m s hs
 obtain ⟨ze, iL1⟩ := s
 obtain ⟨WF, QM, hiL1, H⟩ := hs
 replace QM : ze = List.drop iL1 p1 := QM
 replace H : Qn p0 p2 rec ze iL1 = some r := H
 replace WF : m + 1 = ze.length + 1 := WF
 replace zl := zl.leR Qy
 replace VN := VN.leR Qy
 replace Ql := Ql.leR Qy
 replace leB := leB.trans Qy
 obtain rfl : m = ze.length := by omega
 clear WF
 show Tr _ _ (LF [(2, (iv p2)), (3, (.pointer (some ⟨QG, 0, none⟩))), (11, (.slice zV p1.length zW)), (12, (iv (p1.length : Int))), (13, (iv (iL1 : Int)))]) (LE [(1, bx QG #[(iv p0.Unit), (.slice zF p0.Tools.length zG), (.slice zN p0.Steps.length zM)] 25)]) _
 cases ze with
 | nil =>
  rw [Qn.eq_1] at H
  refine Tr.sr (Tr.va rfl (fun _ _ h1 h2 => Qm (h1.ev rfl) (h1.ev rfl)) ?_)
  refine Tr.nil (Tr.zA (Tr.seq (Tr.zCJ rfl (VR QM) ?_)))
  refine Tr.exit (Tr.QK (Tr.QK (Tr.JV (Tr.zA (Tr.sr (Tr.asg rfl rfl (Tr.nil (Tr.zA (Tr.ret ?_)))))))))
  obtain rfl := Option.some.inj H
  exact Tr.out (m := [(iv 0)]) [] (zQ rfl zT) (fun W hW => ⟨rfl, hW.low leB⟩)
 | cons xL1 ze =>
  rw [Qn.eq_2] at H
  refine Tr.sr (Tr.va rfl (fun _ _ h1 h2 => Qm (h1.ev rfl) (h1.ev rfl)) ?_)
  refine Tr.nil (Tr.zA (Tr.seq (Tr.zBn rfl (Vj QM) ?_)))
  refine Tr.skip (Tr.zA (Tr.seq (Tr.block (Tr.sr ?_))))
  obtain ⟨u107, hRu107, hoku107, hcu107⟩ := (Ql).el (Vk QM)
  obtain ⟨⟨zCl, zCf⟩, ⟨zB8, zB1⟩⟩ := u107
  obtain ⟨zGp, zEc⟩ := Jn.1 hoku107
  replace zGp : Sl w.R w.W QH zCl zCf xL1.Points := zGp
  replace zEc : Sl w.R w.W zC zB8 zB1 xL1.Steps := zEc
  refine Tr.va rfl (fun _ _ h1 h2 => zR zIr (h1.ev rfl) Ql.form (h1.ev rfl) (Int.natCast_nonneg _) (QX QM)) ?_
  refine Tr.va rfl (fun _ _ h1 h2 => zo (cs := [(iv xL1.Kind), (sv xL1.Name), (iv xL1.At.X), (iv xL1.At.Y), (.slice zCl xL1.Points.length zCf), (iv xL1.NX), (iv xL1.NY), (.slice zB8 xL1.Steps.length zB1)]) zDA Vu (h1.ev rfl) (zf.take (rdR hRu107 hcu107 h2) 8) rfl) ?_
  refine Tr.alloc 3 (wn rfl) rfl zFO fun b108 => ?_
  refine Tr.store 3 (cs := [(iv xL1.Kind), (sv xL1.Name), (iv xL1.At.X), (iv xL1.At.Y), (.slice zCl xL1.Points.length zCf), (iv xL1.NX), (iv xL1.NY), (.slice zB8 xL1.Steps.length zB1)]) [(iv xL1.Kind), (sv xL1.Name), (iv xL1.At.X), (iv xL1.At.Y), (.slice zCl xL1.Points.length zCf), (iv xL1.NX), (iv xL1.NY), (.slice zB8 xL1.Steps.length zB1)] (wn rfl) rfl rfl rfl rfl Vu rfl rfl rfl ?_
  refine Tr.nil (Tr.zA (Tr.seq (Tr.sr (Tr.va rfl (fun _ _ h1 h2 => zo (cs := [(iv p0.Unit), (.slice zF p0.Tools.length zG), (.slice zN p0.Steps.length zM)]) zBZ WQ (h1.ev rfl) (zf.take (rdb h2 (vs := [(iv p0.Unit), (.slice zF p0.Tools.length zG), (.slice zN p0.Steps.length zM)]) (k := 1) rfl 0) 3) rfl) ?_))))
  refine Tr.va rfl (fun _ _ h1 h2 => zo (cs := [(iv xL1.Kind), (sv xL1.Name), (iv xL1.At.X), (iv xL1.At.Y), (.slice zCl xL1.Points.length zCf), (iv xL1.NX), (iv xL1.NY), (.slice zB8 xL1.Steps.length zB1)]) zDA Vu (h1.ev rfl) (zf.take (rdb h2 (vs := [(iv xL1.Kind), (sv xL1.Name), (iv xL1.At.X), (iv xL1.At.Y), (.slice zCl xL1.Points.length zCf), (iv xL1.NX), (iv xL1.NY), (.slice zB8 xL1.Steps.length zB1)]) (k := 3) rfl 0) 8) rfl) ?_
  refine Tr.mv rfl rfl ?_
  obtain ⟨zGM, hy109, H⟩ := bnd H
  refine Tr.Qr (r := (iv zGM)) (wn rfl) rfl Tryz.call50 (zI rfl (zI rfl (zI rfl zb))) (fun W hW => zEm p0 zF zG (zl.ext hW.QV) zN zM (VN.ext hW.QV) xL1 zCl zCf (zGp.ext hW.QV) zB8 zB1 (zEc.ext hW.QV) p2 zGM hy109 (HF.start _)) ?_
  refine Tr.asg rfl rfl (Tr.nil (Tr.zA (Tr.sr (Tr.mv rfl rfl (Tr.va rfl (fun _ _ h1 h2 => Jw (h1.ev rfl) (h1.ev rfl)) ?_)))))
  refine Tr.nil (Tr.zA (Tr.cond rfl H (fun H => ?_) (fun H => ?_)))
  ·refine Tr.sr (Tr.mv rfl rfl (Tr.asg rfl rfl (Tr.nil (Tr.zA (Tr.ret (Tr.zO (Tr.zm (Tr.zO (Tr.zO (Tr.zm (Tr.zO ?_)))))))))))
   obtain rfl := Option.some.inj H
   exact Tr.out (m := [(iv zGM)]) [] (zQ rfl zT) (fun W hW => ⟨rfl, hW.low leB⟩)
  ·refine Tr.skip (Tr.zA (Tr.sr (Tr.va rfl (fun _ _ h1 h2 => zo (cs := [(iv p0.Unit), (.slice zF p0.Tools.length zG), (.slice zN p0.Steps.length zM)]) zBZ WQ (h1.ev rfl) (zf.take (rdb h2 (vs := [(iv p0.Unit), (.slice zF p0.Tools.length zG), (.slice zN p0.Steps.length zM)]) (k := 1) rfl 0) 3) rfl) ?_)))
   refine Tr.va rfl (fun _ _ h1 h2 => zD zAS (h1.ev rfl)) ?_
   refine Tr.va rfl (fun _ _ h1 h2 => zH zBp (h1.ev rfl) (rdb h2 (vs := [(iv xL1.Kind), (sv xL1.Name), (iv xL1.At.X), (iv xL1.At.Y), (.slice zCl xL1.Points.length zCf), (iv xL1.NX), (iv xL1.NY), (.slice zB8 xL1.Steps.length zB1)]) (k := 3) rfl 7) rfl) ?_
   refine Tr.mv rfl rfl (Tr.va rfl (fun _ _ h1 h2 => Qo (h1.ev rfl) (h1.ev rfl)) ?_)
   obtain ⟨zA4, hy110, H⟩ := bnd H
   refine Tr.Qr (r := (iv zA4)) (wn rfl) rfl Tryz.call28 (zI rfl (zI rfl (zI rfl zb))) (fun W hW => hrec p0 zF zG (zl.ext hW.QV) zN zM (VN.ext hW.QV) xL1.Steps zB8 zB1 (zEc.ext hW.QV) (w64 (p2 + 1)) zA4 hy110 (HF.start _)) ?_
   refine Tr.asg rfl rfl (Tr.nil (Tr.zA (Tr.sr (Tr.mv rfl rfl (Tr.va rfl (fun _ _ h1 h2 => Jw (h1.ev rfl) (h1.ev rfl)) ?_)))))
   refine Tr.nil (Tr.zA (Tr.cond rfl H (fun H => ?_) (fun H => ?_)))
   ·refine Tr.sr (Tr.mv rfl rfl (Tr.asg rfl rfl (Tr.nil (Tr.zA (Tr.ret (Tr.zm (Tr.zO (Tr.zO (Tr.zm (Tr.zO ?_))))))))))
    obtain rfl := Option.some.inj H
    exact Tr.out (m := [(iv zA4)]) [] (zQ rfl zT) (fun W hW => ⟨rfl, hW.low leB⟩)
   ·refine Tr.skip (Tr.zx (Tr.zA (Tr.region (Tr.va rfl (fun _ _ h1 h2 => Qo (h1.ev rfl) (h1.ev rfl)) ?_))))
    exact Tr.mv rfl rfl (Tr.nil (Tr.QF Qy (ze, (iL1 + 1)) ⟨rfl, KE QM, QX QM, H⟩ (.cons rfl (.cons rfl (.cons rfl (.cons rfl (.cons (congrArg (fun z => some (Value.int .i64 z)) (KD QM Ql.form)) .nil))))) (.cons rfl .nil)))
theorem zBb : ∀ (N : Nat) {w : Bs} (p0 : zi) (zF : Option Addr) (zG : Nat) (zl : Sl w.R w.W zK zF zG p0.Tools) (zN : Option Addr) (zM : Nat) (VN : Sl w.R w.W zC zN zM p0.Steps) (p1 : (List zB)) (zV : Option Addr) (zW : Nat) (Ql : Sl w.R w.W zC zV zW p1) (p2 : Int) (r : Int) (H : KA N p0 p1 p2 = some r) (hE : HF w w.W E0), Calls Tryz.prog 28 [(.agg #[(iv p0.Unit), (.slice zF p0.Tools.length zG), (.slice zN p0.Steps.length zM)]), (.slice zV p1.length zW), (iv p2)].toArray w.W fun e W' => e = .returned (iv r) ∧ HF w W' E0
 | 0 => by intros; rename_i H _; cases H
 | N + 1 => zDl N (KA N) (zBb N)

theorem zBq (N : Nat) {w : Bs} (p0 : zi) (zF : Option Addr) (zG : Nat) (zl : Sl w.R w.W zK zF zG p0.Tools) (zN : Option Addr) (zM : Nat) (VN : Sl w.R w.W zC zN zM p0.Steps) (r : Int) (H : Qg N p0 = some r) (hE : HF w w.W E0) : Calls Tryz.prog 10 [(.agg #[(iv p0.Unit), (.slice zF p0.Tools.length zG), (.slice zN p0.Steps.length zM)])].toArray w.W fun e W' => e = .returned (iv r) ∧ HF w W' E0 := by
 unfold Qg at H
 have leB := Bs.Le.refl w
 refine Tr.enter (n := 52) Tryz.func10 rfl rfl rfl hE ?_
 refine Tr.sr (Tr.box 1 (cs := [(iv p0.Unit), (.slice zF p0.Tools.length zG), (.slice zN p0.Steps.length zM)]) (wn rfl) rfl rfl rfl fun QG => ?_)
 refine Tr.asg rfl rfl (Tr.nil (Tr.zA (Tr.seq (Tr.sr (Tr.va rfl (fun _ _ h1 h2 => zD zBy (h1.ev rfl)) ?_)))))
 refine Tr.va rfl (fun _ _ h1 h2 => zH Ji (h1.ev rfl) (rdb h2 (vs := [(iv p0.Unit), (.slice zF p0.Tools.length zG), (.slice zN p0.Steps.length zM)]) (k := 1) rfl 0) rfl) ?_
 obtain ⟨y101, hy101, H⟩ := bnd H
 refine Tr.Qr (r := (.bool y101)) (wn rfl) rfl Tryz.call25 (zI rfl (zI rfl (zI rfl zb))) (fun W hW => VS p0.Unit 1 1000 y101 hy101 (HF.start _)) ?_
 refine Tr.va rfl (fun _ _ h1 h2 => JA (h1.ev rfl)) ?_
 refine Tr.nil (Tr.zA (Tr.cond rfl H (fun H => ?_) (fun H => ?_)))
 ·refine Tr.sr (Tr.asg rfl rfl (Tr.nil (Tr.zA (Tr.ret (Tr.zO ?_)))))
  obtain rfl := Option.some.inj H
  exact Tr.out (m := [(iv 1)]) [] (zQ rfl zT) (fun W hW => ⟨rfl, hW.low leB⟩)
 ·refine Tr.skip (Tr.zA (Tr.seq (Tr.sr (Tr.va rfl (fun _ _ h1 h2 => zD Wj (h1.ev rfl)) ?_))))
  refine Tr.va rfl (fun _ _ h1 h2 => zH zDB (h1.ev rfl) (rdb h2 (vs := [(iv p0.Unit), (.slice zF p0.Tools.length zG), (.slice zN p0.Steps.length zM)]) (k := 1) rfl 1) rfl) ?_
  refine Tr.va rfl (fun _ _ h1 h2 => QL zG2 (h1.ev rfl)) ?_
  refine Tr.va rfl (fun _ _ h1 h2 => WB (h1.ev rfl) (h1.ev rfl)) ?_
  refine Tr.nil (Tr.zA (Tr.cond rfl H (fun H => ?_) (fun H => ?_)))
  ·refine Tr.sr (Tr.asg rfl rfl (Tr.nil (Tr.zA (Tr.ret (Tr.zO ?_)))))
   obtain rfl := Option.some.inj H
   exact Tr.out (m := [(iv 2)]) [] (zQ rfl zT) (fun W hW => ⟨rfl, hW.low leB⟩)
  ·refine Tr.skip (Tr.zA (Tr.seq (Tr.sr (Tr.va rfl (fun _ _ h1 h2 => zD Wj (h1.ev rfl)) ?_))))
   refine Tr.va rfl (fun _ _ h1 h2 => zH zDB (h1.ev rfl) (rdb h2 (vs := [(iv p0.Unit), (.slice zF p0.Tools.length zG), (.slice zN p0.Steps.length zM)]) (k := 1) rfl 1) rfl) ?_
   refine Tr.va rfl (fun _ _ h1 h2 => QL zG2 (h1.ev rfl)) ?_
   refine Tr.mv rfl rfl (Tr.nil (Tr.zA (Tr.block (Tr.loop (σ := (List zS) × Nat) (fun m w s => m = s.1.length + 1 ∧ s.1 = List.drop s.2 p0.Tools ∧ s.2 ≤ p0.Tools.length ∧ QT N p0 s.1 s.2 = some r) (fun s => [(1, (.pointer (some ⟨QG, 0, none⟩))), (15, (.slice zF p0.Tools.length zG)), (16, (iv (p0.Tools.length : Int))), (17, (iv (s.2 : Int)))]) (fun s => [(1, bx QG #[(iv p0.Unit), (.slice zF p0.Tools.length zG), (.slice zN p0.Steps.length zM)] 25)]) (p0.Tools.length + 1) (p0.Tools, 0) ⟨rfl, rfl, Nat.zero_le _, H⟩ (.cons rfl (.cons rfl (.cons rfl (.cons rfl .nil)))) (.cons rfl .nil) (fun _ _ h => absurd h.1 (by simp)) ?_))))
   intro w Qy m s hs
   obtain ⟨ze, iL1⟩ := s
   obtain ⟨WF, QM, hiL1, H⟩ := hs
   replace QM : ze = List.drop iL1 p0.Tools := QM
   replace H : QT N p0 ze iL1 = some r := H
   replace WF : m + 1 = ze.length + 1 := WF
   replace zl := zl.leR Qy
   replace VN := VN.leR Qy
   replace leB := leB.trans Qy
   obtain rfl : m = ze.length := by omega
   clear WF
   show Tr _ _ (LF [(1, (.pointer (some ⟨QG, 0, none⟩))), (15, (.slice zF p0.Tools.length zG)), (16, (iv (p0.Tools.length : Int))), (17, (iv (iL1 : Int)))]) (LE [(1, bx QG #[(iv p0.Unit), (.slice zF p0.Tools.length zG), (.slice zN p0.Steps.length zM)] 25)]) _
   cases ze with
   | nil =>
    rw [QT.eq_1] at H
    refine Tr.sr (Tr.va rfl (fun _ _ h1 h2 => Qm (h1.ev rfl) (h1.ev rfl)) ?_)
    refine Tr.nil (Tr.zA (Tr.seq (Tr.zCJ rfl (VR QM) ?_)))
    refine Tr.exit (Tr.QK (Tr.QK (Tr.JV (Tr.zA (Tr.seq (Tr.sr (Tr.va rfl (fun _ _ h1 h2 => zD zDa (h1.ev rfl)) ?_)))))))
    refine Tr.va rfl (fun _ _ h1 h2 => zH zBp (h1.ev rfl) (rdb h2 (vs := [(iv p0.Unit), (.slice zF p0.Tools.length zG), (.slice zN p0.Steps.length zM)]) (k := 1) rfl 2) rfl) ?_
    obtain ⟨y112, hy112, H⟩ := bnd H
    refine Tr.Qr (r := (iv y112)) (wn rfl) rfl Tryz.call27 (zI rfl zb) (fun W hW => zDw N p0.Steps zN zM (VN.ext hW.QV) y112 hy112 (HF.start _)) ?_
    refine Tr.va rfl (fun _ _ h1 h2 => WB (h1.ev rfl) (h1.ev rfl)) ?_
    refine Tr.nil (Tr.zA (Tr.cond rfl H (fun H => ?_) (fun H => ?_)))
    ·refine Tr.sr (Tr.asg rfl rfl (Tr.nil (Tr.zA (Tr.ret (Tr.zO ?_)))))
     obtain rfl := Option.some.inj H
     exact Tr.out (m := [(iv 2)]) [] (zQ rfl zT) (fun W hW => ⟨rfl, hW.low leB⟩)
    ·refine Tr.skip (Tr.zA (Tr.sr (Tr.va rfl (fun _ _ h1 h2 => zo (cs := [(iv p0.Unit), (.slice zF p0.Tools.length zG), (.slice zN p0.Steps.length zM)]) zBZ WQ (h1.ev rfl) (zf.take (rdb h2 (vs := [(iv p0.Unit), (.slice zF p0.Tools.length zG), (.slice zN p0.Steps.length zM)]) (k := 1) rfl 0) 3) rfl) ?_)))
     refine Tr.va rfl (fun _ _ h1 h2 => zD zDa (h1.ev rfl)) ?_
     refine Tr.va rfl (fun _ _ h1 h2 => zH zBp (h1.ev rfl) (rdb h2 (vs := [(iv p0.Unit), (.slice zF p0.Tools.length zG), (.slice zN p0.Steps.length zM)]) (k := 1) rfl 2) rfl) ?_
     obtain ⟨y113, hy113, H⟩ := bnd H
     refine Tr.Qr (r := (iv y113)) (wn rfl) rfl Tryz.call28 (zI rfl (zI rfl (zI rfl zb))) (fun W hW => zBb N p0 zF zG (zl.ext hW.QV) zN zM (VN.ext hW.QV) p0.Steps zN zM (VN.ext hW.QV) 0 y113 hy113 (HF.start _)) ?_
     refine Tr.asg rfl rfl (Tr.nil (Tr.zA (Tr.ret ?_)))
     obtain rfl := Option.some.inj H
     exact Tr.out (m := [(iv y113)]) [] (zQ rfl zT) (fun W hW => ⟨rfl, hW.low leB⟩)
   | cons xL1 ze =>
    rw [QT.eq_2] at H
    refine Tr.sr (Tr.va rfl (fun _ _ h1 h2 => Qm (h1.ev rfl) (h1.ev rfl)) ?_)
    refine Tr.nil (Tr.zA (Tr.seq (Tr.zBn rfl (Vj QM) ?_)))
    refine Tr.skip (Tr.zA (Tr.seq (Tr.block (Tr.sr (Tr.mv rfl rfl ?_)))))
    obtain ⟨u114, hRu114, hoku114, hcu114⟩ := (zl).el (Vk QM)
    obtain ⟨zCk, zCe⟩ := u114
    have zGn := hoku114
    replace zGn : Sl w.R w.W KR zCk zCe xL1.Rects := zGn
    refine Tr.va rfl (fun _ _ h1 h2 => zR zHJ (h1.ev rfl) zl.form (h1.ev rfl) (Int.natCast_nonneg _) (QX QM)) ?_
    refine Tr.va rfl (fun _ _ h1 h2 => zo (cs := [(sv xL1.Name), (.slice zCk xL1.Rects.length zCe)]) ag_47 zFU (h1.ev rfl) (zf.take (rdR hRu114 hcu114 h2) 2) rfl) ?_
    refine Tr.alloc 3 (wn rfl) rfl ze_47 fun zFF => ?_
    refine Tr.asg rfl rfl (Tr.store 3 (cs := [(sv xL1.Name), (.slice zCk xL1.Rects.length zCe)]) [(sv xL1.Name), (.slice zCk xL1.Rects.length zCe)] (wn rfl) rfl rfl rfl rfl zFU rfl rfl rfl ?_)
    refine Tr.nil (Tr.zA (Tr.seq (Tr.sr (Tr.va rfl (fun _ _ h1 h2 => zo (cs := [(sv xL1.Name), (.slice zCk xL1.Rects.length zCe)]) ag_47 zFU (h1.ev rfl) (zf.take (rdb h2 (vs := [(sv xL1.Name), (.slice zCk xL1.Rects.length zCe)]) (k := 3) rfl 0) 2) rfl) ?_))))
    refine Tr.va rfl (fun _ _ h1 h2 => zD zBy (h1.ev rfl)) ?_
    refine Tr.va rfl (fun _ _ h1 h2 => zH Ji (h1.ev rfl) (rdb h2 (vs := [(iv p0.Unit), (.slice zF p0.Tools.length zG), (.slice zN p0.Steps.length zM)]) (k := 1) rfl 0) rfl) ?_
    obtain ⟨zHT, hy116, H⟩ := bnd H
    refine Tr.Qr (r := (iv zHT)) (wn rfl) rfl Tryz.call26 (zI rfl (zI rfl zb)) (fun W hW => zEl N xL1 zCk zCe (zGn.ext hW.QV) p0.Unit zHT hy116 (HF.start _)) ?_
    refine Tr.asg rfl rfl (Tr.nil (Tr.zA (Tr.sr (Tr.mv rfl rfl (Tr.va rfl (fun _ _ h1 h2 => Jw (h1.ev rfl) (h1.ev rfl)) ?_)))))
    refine Tr.nil (Tr.zA (Tr.cond rfl H (fun H => ?_) (fun H => ?_)))
    ·refine Tr.sr (Tr.mv rfl rfl (Tr.asg rfl rfl (Tr.nil (Tr.zA (Tr.ret (Tr.zO (Tr.zm (Tr.zO (Tr.zO (Tr.zm (Tr.zO ?_)))))))))))
     obtain rfl := Option.some.inj H
     exact Tr.out (m := [(iv zHT)]) [] (zQ rfl zT) (fun W hW => ⟨rfl, hW.low leB⟩)
    ·refine Tr.skip (Tr.zA (Tr.seq (Tr.draw (by kernel_rfl) (by kernel_rfl) ?_)))
     refine Tq.mv rfl rfl (Tq.va rfl (fun _ _ h1 h2 => WB (h1.ev rfl) (h1.ev rfl)) ?_)
     refine Tq.mv rfl rfl ?_
     obtain ⟨g119, zFu, H⟩ := bnd H
     refine Tq.mid 11 [(1, (.pointer (some ⟨QG, 0, none⟩))), (15, (.slice zF p0.Tools.length zG)), (16, (iv (p0.Tools.length : Int))), (17, (iv (iL1 : Int))), (42, (.bool g119))] ?_ ?_
     ·cases Vl : (decide (0 < (iL1 : Int)))
      ·rw [Vl] at zFu
       rw [if_neg (by decide)] at zFu
       have H := zFu
       obtain rfl := Option.some.inj H
       refine Tq.pass rfl rfl rfl rfl rfl (by decide) ?_
       refine Tq.pass rfl rfl rfl rfl rfl (by decide) ?_
       refine Tq.pass rfl rfl rfl rfl rfl (by decide) ?_
       refine Tq.pass rfl rfl rfl rfl rfl (by decide) ?_
       refine Tq.pass rfl rfl rfl rfl rfl (by decide) ?_
       refine Tq.pass rfl rfl rfl rfl rfl (by decide) ?_
       refine Tq.pass rfl rfl rfl rfl rfl (by decide) ?_
       refine Tq.pass rfl rfl rfl rfl rfl (by decide) ?_
       refine Tq.pass rfl rfl rfl rfl rfl (by decide) ?_
       refine Tq.pass rfl rfl rfl rfl rfl (by decide) ?_
       refine Tq.va rfl (fun _ _ h1 h2 => zh (h1.ev rfl) (h1.ev rfl)) ?_
       exact Tq.fin (.cons rfl (.cons rfl (.cons rfl (.cons rfl (.cons rfl .nil)))))
      ·rw [Vl] at zFu
       rw [if_pos rfl] at zFu
       have H := zFu
       refine Tq.val (wg rfl rfl rfl) rfl (fun _ _ h1 h2 => zD zDZ (h1.ev rfl)) ?_
       refine Tq.val (wg rfl rfl rfl) rfl (fun _ _ h1 h2 => zH zB2 (h1.ev rfl) (rdb h2 (vs := [(sv xL1.Name), (.slice zCk xL1.Rects.length zCe)]) (k := 3) rfl 0) rfl) ?_
       refine Tq.val (wg rfl rfl rfl) rfl (fun _ _ h1 h2 => zD Wj (h1.ev rfl)) ?_
       refine Tq.val (wg rfl rfl rfl) rfl (fun _ _ h1 h2 => zH zDB (h1.ev rfl) (rdb h2 (vs := [(iv p0.Unit), (.slice zF p0.Tools.length zG), (.slice zN p0.Steps.length zM)]) (k := 1) rfl 1) rfl) ?_
       refine Tq.val (wg rfl rfl rfl) rfl (fun _ _ h1 h2 => run_move (h1.ev rfl)) ?_
       refine Tq.val (wg rfl rfl rfl) rfl (fun _ _ h1 h2 => run_sub (h1.ev rfl) (h1.ev rfl)) ?_
       obtain ⟨x120, hx120, H⟩ := bnd H
       obtain ⟨hx1200, hx1201, hx1202⟩ := QP hx120
       obtain ⟨u121, hRu121, hoku121, hcu121⟩ := (zl).el hx1202
       obtain ⟨Au121_0, cu121_0⟩ := u121
       have hoku121_0 := hoku121
       refine Tq.val (wg rfl rfl rfl) rfl (fun _ _ h1 h2 => zR zHJ (h1.ev rfl) zl.form (h1.ev rfl) hx1200 hx1201) ?_
       refine Tq.val (wg rfl rfl rfl) rfl (fun _ _ h1 h2 => zD zDZ (h1.ev rfl)) ?_
       refine Tq.val (wg rfl rfl rfl) rfl (fun _ _ h1 h2 => zH zB2 (h1.ev rfl) (zf.drop (rdR hRu121 hcu121 h2) 0) rfl) ?_
       refine Tq.val (wg rfl rfl rfl) rfl (fun _ _ h1 h2 => run_leqS (h1.ev rfl) (h1.ev rfl)) ?_
       refine Tq.va rfl (fun _ _ h1 h2 => zg (h1.ev rfl) (h1.ev rfl)) ?_
       obtain rfl := Option.some.inj H
       exact Tq.fin (.cons rfl (.cons rfl (.cons rfl (.cons rfl (.cons rfl .nil)))))
     ·refine Tq.nil (Tr.zA (Tr.cond rfl H (fun H => ?_) (fun H => ?_)))
      ·refine Tr.sr (Tr.asg rfl rfl (Tr.nil (Tr.zA (Tr.ret (Tr.zm (Tr.zO (Tr.zO (Tr.zm (Tr.zO ?_)))))))))
       obtain rfl := Option.some.inj H
       exact Tr.out (m := [(iv 8)]) [] (zQ rfl zT) (fun W hW => ⟨rfl, hW.low leB⟩)
      ·refine Tr.skip (Tr.zx (Tr.zA (Tr.region (Tr.va rfl (fun _ _ h1 h2 => Qo (h1.ev rfl) (h1.ev rfl)) ?_))))
       exact Tr.mv rfl rfl (Tr.nil (Tr.QF Qy (ze, (iL1 + 1)) ⟨rfl, KE QM, QX QM, H⟩ (.cons rfl (.cons rfl (.cons rfl (.cons (congrArg (fun z => some (Value.int .i64 z)) (KD QM zl.form)) .nil)))) (.cons rfl .nil)))

theorem zAx {w : Bs} (hT : Tab Tryz.prog w) (p0 : Int) (r : ByteArray) (H : zEp p0 = some r) (hE : HF w w.W E0) : Calls Tryz.prog 12 [(iv p0)].toArray w.W fun e W' => e = .returned (sv r) ∧ HF w W' E0 :=
 itoaF_rule (ρ := Tryz.zIf) Tryz.itoa12 hT H hE

end Go.Proofs.YtokanbmnoghafaaGreatDoor
namespace Go.Proofs
open Go.Shelf
def Tryz.zGu : Go.Shelf.Ren := ⟨fun | 166 => 11 | 240 => 29 | 276 => 51 | n => n, fun | 5 => 5 | 37 => 37 | 70 => 36 | 72 => 39 | 75 => 41 | 80 => 55 | 164 => 97 | n => n, fun n => n⟩
theorem Tryz.bld11 : Go.Proofs.Lays.n166 Tryz.prog Tryz.zGu := {
 mixed := by kernel_rfl
 f166 := Tryz.func11.trans (congrArg some (by kernel_rfl))
 f240 := Tryz.func29.trans (congrArg some (by kernel_rfl))
 f276 := Tryz.func51.trans (congrArg some (by kernel_rfl))
 t0 := Tryz.underlying0
 a0 := Tryz.isAgg0
 z0 := Tryz.sizeOf0
 v0 := Tryz.zeroValue0
 t3 := Tryz.underlying3
 a3 := Tryz.isAgg3
 z3 := Tryz.sizeOf3
 v3 := Tryz.zeroValue3
 t4 := Tryz.underlying4
 a4 := Tryz.isAgg4
 z4 := Tryz.sizeOf4
 v4 := Tryz.zeroValue4
 t9 := Tryz.underlying9
 a9 := Tryz.isAgg9
 z9 := Tryz.sizeOf9
 v9 := Tryz.zeroValue9
 t20 := Tryz.underlying20
 a20 := Tryz.isAgg20
 z20 := Tryz.sizeOf20
 v20 := Tryz.zeroValue20
 t37 := Tryz.underlying37
 a37 := Tryz.isAgg37
 z37 := Tryz.sizeOf37
 v37 := Tryz.zeroValue37
 t70 := Tryz.underlying36
 a70 := Tryz.isAgg36
 z70 := Tryz.sizeOf36
 v70 := Tryz.zeroValue36
 t72 := Tryz.underlying39
 a72 := Tryz.isAgg39
 z72 := Tryz.sizeOf39
 v72 := Tryz.zeroValue39
 t75 := Tryz.underlying41
 a75 := Tryz.isAgg41
 z75 := Tryz.sizeOf41
 v75 := Tryz.zeroValue41
 t164 := Tryz.underlying97
 a164 := Tryz.isAgg97
 z164 := Tryz.sizeOf97
 v164 := Tryz.zeroValue97
}
end Go.Proofs
namespace Go.Proofs.YtokanbmnoghafaaGreatDoor
open Go.RowKit
theorem bX11 : Builder.Extra Tryz.prog Tryz.zGu where
 sizeBuilder := by kernel_rfl
 liesBuilder := by kernel_rfl
 t5 := Tryz.underlying5
 a5 := Tryz.isAgg5
 z5 := Tryz.sizeOf5
 v5 := Tryz.zeroValue5
 infoByte := by kernel_rfl
 cellsByte := by kernel_rfl
 sizeByte := by kernel_rfl
 neB5 := by decide
theorem zk {w : Bs} (p0 : ByteArray) (zF : Option Addr) (zG : Nat) (bp0 : Nat) (p1 : ByteArray) (r : ByteArray) (H : sbW p0 p1 = some r) (hE : HF w w.W (LEn [sb 39 5 bp0 zF zG p0])) : Calls Tryz.prog 11 [(.pointer (some ⟨bp0, 0, none⟩)), .string p1].toArray w.W fun e W' => ∃ u : (Option Addr × Nat), e = .returned (.tuple #[.int .i64 p1.size, .nilIface]) ∧ (True) ∧ HF w W' (LEn [sb 39 5 bp0 u.1 u.2 r]) :=
 sb_write (ρ := Tryz.zGu) Tryz.bld11 bX11 H hE

theorem VU {w : Bs} (hT : Tab Tryz.prog w) (p0 : (List zU)) (zF : Option Addr) (zG : Nat) (zl : Sl w.R w.W QH zF zG p0) (r : ByteArray) (H : KF p0 = some r) (hE : HF w w.W E0) : Calls Tryz.prog 13 [(.slice zF p0.length zG)].toArray w.W fun e W' => e = .returned (sv r) ∧ HF w W' E0 := by
 unfold KF at H
 have leB := Bs.Le.refl w
 refine Tr.enter (n := 25) Tryz.func13 rfl rfl rfl hE ?_
 refine Tr.sr (Tr.asg rfl rfl (Tr.nil (Tr.zA (Tr.sr (Tr.asg rfl rfl (Tr.nil (Tr.zA (Tr.seq (Tr.sr (Tr.mv rfl rfl ?_))))))))))
 refine Tr.va rfl (fun _ _ h1 h2 => QL zD7 (h1.ev rfl)) ?_
 refine Tr.mv rfl rfl (Tr.nil (Tr.zA (Tr.block (Tr.loop (σ := (List zU) × Nat × ByteArray) (fun m w s => m = s.1.length + 1 ∧ s.1 = List.drop s.2.1 p0 ∧ s.2.1 ≤ p0.length ∧ Jp s.1 s.2.1 s.2.2 = some r) (fun s => [(3, (sv s.2.2)), (6, (.slice zF p0.length zG)), (7, (iv (p0.length : Int))), (8, (iv (s.2.1 : Int)))]) (fun s => []) (p0.length + 1) (p0, 0, ⟨#[]⟩) ⟨rfl, rfl, Nat.zero_le _, H⟩ (.cons rfl (.cons rfl (.cons rfl (.cons rfl .nil)))) .nil (fun _ _ h => absurd h.1 (by simp)) ?_))))
 intro w Qy m s hs
 obtain ⟨ze, iL1, zJH⟩ := s
 obtain ⟨WF, QM, hiL1, H⟩ := hs
 replace QM : ze = List.drop iL1 p0 := QM
 replace H : Jp ze iL1 zJH = some r := H
 replace WF : m + 1 = ze.length + 1 := WF
 replace hT := hT.ext Qy.ext
 replace zl := zl.leR Qy
 replace leB := leB.trans Qy
 obtain rfl : m = ze.length := by omega
 clear WF
 show Tr _ _ (LF [(3, (sv zJH)), (6, (.slice zF p0.length zG)), (7, (iv (p0.length : Int))), (8, (iv (iL1 : Int)))]) (LE []) _
 cases ze with
 | nil =>
  rw [Jp.eq_1] at H
  refine Tr.sr (Tr.va rfl (fun _ _ h1 h2 => Qm (h1.ev rfl) (h1.ev rfl)) ?_)
  refine Tr.nil (Tr.zA (Tr.seq (Tr.zCJ rfl (VR QM) ?_)))
  refine Tr.exit (Tr.QK (Tr.QK (Tr.JV (Tr.zA (Tr.sr (Tr.mv rfl rfl (Tr.asg rfl rfl (Tr.nil (Tr.zA (Tr.ret ?_))))))))))
  obtain rfl := Option.some.inj H
  exact Tr.out (m := [(sv zJH)]) [] (zQ rfl zT) (fun W hW => ⟨rfl, hW.low leB⟩)
 | cons xL1 ze =>
  rw [Jp.eq_2] at H
  refine Tr.sr (Tr.va rfl (fun _ _ h1 h2 => Qm (h1.ev rfl) (h1.ev rfl)) ?_)
  refine Tr.nil (Tr.zA (Tr.seq (Tr.zBn rfl (Vj QM) ?_)))
  refine Tr.skip (Tr.zA (Tr.seq (Tr.block (Tr.sr (Tr.va rfl (fun _ _ h1 h2 => zR zJv (h1.ev rfl) zl.form (h1.ev rfl) (Int.natCast_nonneg _) (QX QM)) ?_)))))
  refine Tr.va rfl (fun _ _ h1 h2 => zo (cs := [(iv xL1.X), (iv xL1.Y)]) zCM zAZ (h1.ev rfl) (zf.take (rdF zBK zl (Vk QM) h2) 2) rfl) ?_
  refine Tr.alloc 3 (wn rfl) rfl ze_52 fun b123 => ?_
  refine Tr.store 3 (cs := [(iv xL1.X), (iv xL1.Y)]) [(iv xL1.X), (iv xL1.Y)] (wn rfl) rfl rfl rfl rfl zAZ rfl rfl rfl ?_
  refine Tr.nil (Tr.zA (Tr.draw (by kernel_rfl) (by kernel_rfl) ?_))
  refine Tq.mv rfl rfl (Tq.va rfl (fun _ _ h1 h2 => zD zHf (h1.ev rfl)) ?_)
  refine Tq.va rfl (fun _ _ h1 h2 => zH Ji (h1.ev rfl) (rdb h2 (vs := [(iv xL1.X), (iv xL1.Y)]) (k := 3) rfl 0) rfl) ?_
  obtain ⟨zHS, hy124, H⟩ := bnd H
  refine Tq.Qr (r := (sv zHS)) (wn rfl) rfl Tryz.call12 (zI rfl zb) (fun W hW => zAx (hT.ext hW.QV) xL1.X zHS hy124 (HF.start _)) ?_
  obtain ⟨t125, ht125, H⟩ := bnd H
  refine Tq.va rfl (fun _ _ h1 h2 => KQ (h1.ev rfl) (h1.ev rfl) ht125) ?_
  obtain ⟨t126, ht126, H⟩ := bnd H
  refine Tq.va rfl (fun _ _ h1 h2 => KQ (h1.ev rfl) (h1.ev rfl) ht126) ?_
  refine Tq.va rfl (fun _ _ h1 h2 => zD zHe (h1.ev rfl)) ?_
  refine Tq.va rfl (fun _ _ h1 h2 => zH Ji (h1.ev rfl) (rdb h2 (vs := [(iv xL1.X), (iv xL1.Y)]) (k := 3) rfl 1) rfl) ?_
  obtain ⟨y127, hy127, H⟩ := bnd H
  refine Tq.Qr (r := (sv y127)) (wn rfl) rfl Tryz.call12 (zI rfl zb) (fun W hW => zAx (hT.ext hW.QV) xL1.Y y127 hy127 (HF.start _)) ?_
  obtain ⟨t128, ht128, H⟩ := bnd H
  refine Tq.va rfl (fun _ _ h1 h2 => KQ (h1.ev rfl) (h1.ev rfl) ht128) ?_
  obtain ⟨t129, ht129, H⟩ := bnd H
  refine Tq.va rfl (fun _ _ h1 h2 => KQ (h1.ev rfl) (h1.ev rfl) ht129) ?_
  refine Tq.asg rfl rfl (Tq.nil (Tr.zx (Tr.zA (Tr.region (Tr.va rfl (fun _ _ h1 h2 => Qo (h1.ev rfl) (h1.ev rfl)) ?_)))))
  exact Tr.mv rfl rfl (Tr.nil (Tr.QF Qy (ze, (iL1 + 1), t129) ⟨rfl, KE QM, QX QM, H⟩ (.cons rfl (.cons rfl (.cons rfl (.cons (congrArg (fun z => some (Value.int .i64 z)) (KD QM zl.form)) .nil)))) .nil))

theorem zDi (N : Nat) (rec : ByteArray → (List zB) → Option ByteArray) (hrec : ∀ {w : Bs} (hT : Tab Tryz.prog w) (p0 : ByteArray) (zF : Option Addr) (zG : Nat) (bp0 : Nat) (p1 : (List zB)) (zV : Option Addr) (zW : Nat) (Ql : Sl w.R w.W zC zV zW p1) (r : ByteArray) (H : rec p0 p1 = some r) (hE : HF w w.W (LEn [sb 39 5 bp0 zF zG p0])), Calls Tryz.prog 14 [(.pointer (some ⟨bp0, 0, none⟩)), (.slice zV p1.length zW)].toArray w.W fun e W' => ∃ u : (Option Addr × Nat), e = .returned (.tuple #[]) ∧ (True) ∧ HF w W' (LEn [sb 39 5 bp0 u.1 u.2 r])) {w : Bs} (hT : Tab Tryz.prog w) (p0 : ByteArray) (zF : Option Addr) (zG : Nat) (bp0 : Nat) (p1 : (List zB)) (zV : Option Addr) (zW : Nat) (Ql : Sl w.R w.W zC zV zW p1) (r : ByteArray) (H : zAH N rec p0 p1 = some r) (hE : HF w w.W (LEn [sb 39 5 bp0 zF zG p0])) : Calls Tryz.prog 14 [(.pointer (some ⟨bp0, 0, none⟩)), (.slice zV p1.length zW)].toArray w.W fun e W' => ∃ u : (Option Addr × Nat), e = .returned (.tuple #[]) ∧ (True) ∧ HF w W' (LEn [sb 39 5 bp0 u.1 u.2 r]) := by
 unfold zAH at H
 have leB := Bs.Le.refl w
 refine Tr.enter (n := 91) Tryz.func14 rfl rfl rfl hE ?_
 refine Tr.sr (Tr.mv rfl rfl (Tr.va rfl (fun _ _ h1 h2 => QL zCU (h1.ev rfl)) ?_))
 refine Tr.mv rfl rfl (Tr.nil (Tr.zA (Tr.block (Tr.loop (σ := (List zB) × Nat × ByteArray × (Option Addr) × Nat) (fun m w s => m = s.1.length + 1 ∧ s.1 = List.drop s.2.1 p1 ∧ s.2.1 ≤ p1.length ∧ zt rec s.1 s.2.1 s.2.2.1 = some r) (fun s => [(0, (.pointer (some ⟨bp0, 0, none⟩))), (6, (.slice zV p1.length zW)), (7, (iv (p1.length : Int))), (8, (iv (s.2.1 : Int)))]) (fun s => [(0, sb 39 5 bp0 s.2.2.2.1 s.2.2.2.2 s.2.2.1)]) (p1.length + 1) (p1, 0, p0, zF, zG) ⟨rfl, rfl, Nat.zero_le _, H⟩ (.cons rfl (.cons rfl (.cons rfl (.cons rfl .nil)))) (.cons rfl .nil) (fun _ _ h => absurd h.1 (by simp)) ?_))))
 intro w Qy m s hs
 obtain ⟨ze, iL1, m194, Am194, cm194⟩ := s
 obtain ⟨WF, QM, hiL1, H⟩ := hs
 replace QM : ze = List.drop iL1 p1 := QM
 replace H : zt rec ze iL1 m194 = some r := H
 replace WF : m + 1 = ze.length + 1 := WF
 replace hT := hT.ext Qy.ext
 replace Ql := Ql.leR Qy
 replace leB := leB.trans Qy
 obtain rfl : m = ze.length := by omega
 clear WF
 show Tr _ _ (LF [(0, (.pointer (some ⟨bp0, 0, none⟩))), (6, (.slice zV p1.length zW)), (7, (iv (p1.length : Int))), (8, (iv (iL1 : Int)))]) (LE [(0, sb 39 5 bp0 Am194 cm194 m194)]) _
 cases ze with
 | nil =>
  rw [zt.eq_1] at H
  refine Tr.sr (Tr.va rfl (fun _ _ h1 h2 => Qm (h1.ev rfl) (h1.ev rfl)) ?_)
  refine Tr.nil (Tr.zA (Tr.seq (Tr.zCJ rfl (VR QM) ?_)))
  refine Tr.exit (Tr.QK (Tr.QK (Tr.JV (Tr.zIX ?_))))
  obtain rfl := Option.some.inj H
  exact Tr.out (m := []) [] zT (fun W hW => ⟨(Am194, cm194), rfl, trivial, HF.lowE leB (hW.pick (ks := [0]) (by decide) (zL rfl QI)) ⟨sb_any, trivial⟩⟩)
 | cons xL1 ze =>
  rw [zt.eq_2] at H
  refine Tr.sr (Tr.va rfl (fun _ _ h1 h2 => Qm (h1.ev rfl) (h1.ev rfl)) ?_)
  refine Tr.nil (Tr.zA (Tr.seq (Tr.zBn rfl (Vj QM) ?_)))
  refine Tr.skip (Tr.zA (Tr.seq (Tr.block (Tr.sr ?_))))
  obtain ⟨u195, hRu195, hoku195, hcu195⟩ := (Ql).el (Vk QM)
  obtain ⟨⟨WM, WH⟩, ⟨WL, WG⟩⟩ := u195
  obtain ⟨zGf, zGe⟩ := Jn.1 hoku195
  replace zGf : Sl w.R w.W QH WM WH xL1.Points := zGf
  replace zGe : Sl w.R w.W zC WL WG xL1.Steps := zGe
  refine Tr.va rfl (fun _ _ h1 h2 => zR zIr (h1.ev rfl) Ql.form (h1.ev rfl) (Int.natCast_nonneg _) (QX QM)) ?_
  refine Tr.va rfl (fun _ _ h1 h2 => zo (cs := [(iv xL1.Kind), (sv xL1.Name), (iv xL1.At.X), (iv xL1.At.Y), (.slice WM xL1.Points.length WH), (iv xL1.NX), (iv xL1.NY), (.slice WL xL1.Steps.length WG)]) zDA Vu (h1.ev rfl) (zf.take (rdR hRu195 hcu195 h2) 8) rfl) ?_
  refine Tr.alloc 11 (wn rfl) rfl zFO fun b196 => ?_
  refine Tr.store 11 (cs := [(iv xL1.Kind), (sv xL1.Name), (iv xL1.At.X), (iv xL1.At.Y), (.slice WM xL1.Points.length WH), (iv xL1.NX), (iv xL1.NY), (.slice WL xL1.Steps.length WG)]) [(iv xL1.Kind), (sv xL1.Name), (iv xL1.At.X), (iv xL1.At.Y), (.slice WM xL1.Points.length WH), (iv xL1.NX), (iv xL1.NY), (.slice WL xL1.Steps.length WG)] (wn rfl) rfl rfl rfl rfl Vu rfl rfl rfl ?_
  refine Tr.nil (Tr.zA (Tr.sr (Tr.va rfl (fun _ _ h1 h2 => zD zDX (h1.ev rfl)) ?_)))
  refine Tr.va rfl (fun _ _ h1 h2 => zH Ji (h1.ev rfl) (rdb h2 (vs := [(iv xL1.Kind), (sv xL1.Name), (iv xL1.At.X), (iv xL1.At.Y), (.slice WM xL1.Points.length WH), (iv xL1.NX), (iv xL1.NY), (.slice WL xL1.Steps.length WG)]) (k := 11) rfl 0) rfl) ?_
  refine Tr.nil (Tr.zA (Tr.block (Tr.sr (Tr.va rfl (fun _ _ h1 h2 => Jy (h1.ev rfl) (h1.ev rfl)) ?_))))
  refine Tr.asg rfl rfl (Tr.nil (Tr.zA (Tr.cond rfl H (fun H => ?_) (fun H => ?_))))
  ·refine Tr.region (Tr.mv rfl rfl ?_)
   obtain ⟨y197, hy197, H⟩ := bnd H
   refine Tr.zAE [0] [sb 39 5 bp0 Am194 cm194 m194] (U := (Option Addr × Nat)) (fun u => (.tuple #[(iv (((⟨#[100, 97, 114, 107, 10]⟩) : ByteArray).size : Int)), .nilIface])) (fun u => True) (fun u => [sb 39 5 bp0 u.1 u.2 y197]) rfl (zL rfl QI) (fun _ => rfl) (wn rfl) rfl Tryz.call11 (zI rfl (zI rfl zb)) (fun W hW hp hE => zk m194 Am194 cm194 bp0 (⟨#[100, 97, 114, 107, 10]⟩) y197 hy197 hE) ?_
   intro u hu
   obtain ⟨Ay197_0, cy197_0⟩ := u
   have gy197_0 := hu
   have hgy197_0 : True := gy197_0 --@phi
   show Tr _ _ (uf _ 17 (.tuple #[(iv (((⟨#[100, 97, 114, 107, 10]⟩) : ByteArray).size : Int)), .nilIface])) (up _ 0 (sb 39 5 bp0 Ay197_0 cy197_0 y197)) _
   refine Tr.nil (Tr.zx (Tr.zx (Tr.zA (Tr.region (Tr.va rfl (fun _ _ h1 h2 => Qo (h1.ev rfl) (h1.ev rfl)) ?_)))))
   exact Tr.mv rfl rfl (Tr.nil (Tr.QF Qy (ze, (iL1 + 1), y197, Ay197_0, cy197_0) ⟨rfl, KE QM, QX QM, H⟩ (.cons rfl (.cons rfl (.cons rfl (.cons (congrArg (fun z => some (Value.int .i64 z)) (KD QM Ql.form)) .nil)))) (.cons rfl .nil)))
  ·refine Tr.sr (Tr.va rfl (fun _ _ h1 h2 => Jy (h1.ev rfl) (h1.ev rfl)) ?_)
   refine Tr.asg rfl rfl (Tr.nil (Tr.zA (Tr.cond rfl H (fun H => ?_) (fun H => ?_))))
   ·refine Tr.region (Tr.mv rfl rfl ?_)
    obtain ⟨y199, hy199, H⟩ := bnd H
    refine Tr.zAE [0] [sb 39 5 bp0 Am194 cm194 m194] (U := (Option Addr × Nat)) (fun u => (.tuple #[(iv (((⟨#[99, 108, 101, 97, 114, 10]⟩) : ByteArray).size : Int)), .nilIface])) (fun u => True) (fun u => [sb 39 5 bp0 u.1 u.2 y199]) rfl (zL rfl QI) (fun _ => rfl) (wn rfl) rfl Tryz.call11 (zI rfl (zI rfl zb)) (fun W hW hp hE => zk m194 Am194 cm194 bp0 (⟨#[99, 108, 101, 97, 114, 10]⟩) y199 hy199 hE) ?_
    intro u hu
    obtain ⟨Ay199_0, cy199_0⟩ := u
    have gy199_0 := hu
    have hgy199_0 : True := gy199_0 --@phi
    show Tr _ _ (uf _ 21 (.tuple #[(iv (((⟨#[99, 108, 101, 97, 114, 10]⟩) : ByteArray).size : Int)), .nilIface])) (up _ 0 (sb 39 5 bp0 Ay199_0 cy199_0 y199)) _
    refine Tr.nil (Tr.zx (Tr.zx (Tr.zA (Tr.region (Tr.va rfl (fun _ _ h1 h2 => Qo (h1.ev rfl) (h1.ev rfl)) ?_)))))
    exact Tr.mv rfl rfl (Tr.nil (Tr.QF Qy (ze, (iL1 + 1), y199, Ay199_0, cy199_0) ⟨rfl, KE QM, QX QM, H⟩ (.cons rfl (.cons rfl (.cons rfl (.cons (congrArg (fun z => some (Value.int .i64 z)) (KD QM Ql.form)) .nil)))) (.cons rfl .nil)))
   ·refine Tr.sr (Tr.va rfl (fun _ _ h1 h2 => Jy (h1.ev rfl) (h1.ev rfl)) ?_)
    refine Tr.asg rfl rfl (Tr.nil (Tr.zA (Tr.cond rfl H (fun H => ?_) (fun H => ?_))))
    ·refine Tr.region (Tr.mv rfl rfl (Tr.va rfl (fun _ _ h1 h2 => zD zFx (h1.ev rfl)) ?_))
     refine Tr.va rfl (fun _ _ h1 h2 => zH zB2 (h1.ev rfl) (rdb h2 (vs := [(iv xL1.Kind), (sv xL1.Name), (iv xL1.At.X), (iv xL1.At.Y), (.slice WM xL1.Points.length WH), (iv xL1.NX), (iv xL1.NY), (.slice WL xL1.Steps.length WG)]) (k := 11) rfl 1) rfl) ?_
     obtain ⟨t201, ht201, H⟩ := bnd H
     refine Tr.va rfl (fun _ _ h1 h2 => KQ (h1.ev rfl) (h1.ev rfl) ht201) ?_
     obtain ⟨t202, ht202, H⟩ := bnd H
     refine Tr.va rfl (fun _ _ h1 h2 => KQ (h1.ev rfl) (h1.ev rfl) ht202) ?_
     obtain ⟨y203, hy203, H⟩ := bnd H
     refine Tr.zAE [0] [sb 39 5 bp0 Am194 cm194 m194] (U := (Option Addr × Nat)) (fun u => (.tuple #[(iv ((t202 : ByteArray).size : Int)), .nilIface])) (fun u => True) (fun u => [sb 39 5 bp0 u.1 u.2 y203]) rfl (zL rfl QI) (fun _ => rfl) (wn rfl) rfl Tryz.call11 (zI rfl (zI rfl zb)) (fun W hW hp hE => zk m194 Am194 cm194 bp0 t202 y203 hy203 hE) ?_
     intro u hu
     obtain ⟨Ay203_0, cy203_0⟩ := u
     have gy203_0 := hu
     have hgy203_0 : True := gy203_0 --@phi
     show Tr _ _ (uf _ 29 (.tuple #[(iv ((t202 : ByteArray).size : Int)), .nilIface])) (up _ 0 (sb 39 5 bp0 Ay203_0 cy203_0 y203)) _
     refine Tr.nil (Tr.zx (Tr.zx (Tr.zA (Tr.region (Tr.va rfl (fun _ _ h1 h2 => Qo (h1.ev rfl) (h1.ev rfl)) ?_)))))
     exact Tr.mv rfl rfl (Tr.nil (Tr.QF Qy (ze, (iL1 + 1), y203, Ay203_0, cy203_0) ⟨rfl, KE QM, QX QM, H⟩ (.cons rfl (.cons rfl (.cons rfl (.cons (congrArg (fun z => some (Value.int .i64 z)) (KD QM Ql.form)) .nil)))) (.cons rfl .nil)))
    ·refine Tr.sr (Tr.va rfl (fun _ _ h1 h2 => Jy (h1.ev rfl) (h1.ev rfl)) ?_)
     refine Tr.asg rfl rfl (Tr.nil (Tr.zA (Tr.cond rfl H (fun H => ?_) (fun H => ?_))))
     ·refine Tr.region (Tr.mv rfl rfl (Tr.va rfl (fun _ _ h1 h2 => zD zBx (h1.ev rfl)) ?_))
      refine Tr.va rfl (fun _ _ h1 h2 => zo (cs := [(iv xL1.At.X), (iv xL1.At.Y)]) zCM zAZ (h1.ev rfl) (zf.take (rdb h2 (vs := [(iv xL1.Kind), (sv xL1.Name), (iv xL1.At.X), (iv xL1.At.Y), (.slice WM xL1.Points.length WH), (iv xL1.NX), (iv xL1.NY), (.slice WL xL1.Steps.length WG)]) (k := 11) rfl 2) 2) rfl) ?_
      refine Tr.buildSlice 12 (e := 52) (vs := [(0, (.agg #[(iv xL1.At.X), (iv xL1.At.Y)]))]) (cs := [(iv xL1.At.X), (iv xL1.At.Y)]) (wn rfl) rfl (QE rfl Qq) (by kernel_rfl) fun b205 => ?_
      refine Tr.own 12 QH [xL1.At] (css := [[(iv xL1.At.X), (iv xL1.At.Y)]]) rfl (.cons ⟨(), trivial, rfl⟩ .nil) rfl (by decide) (zEZ rfl) ?_
      obtain ⟨y206, hy206, H⟩ := bnd H
      refine Tr.Qr (r := (sv y206)) (wn rfl) rfl Tryz.call13 (zI rfl zb) (fun W hW => VU (hT.ext hW.QV) [xL1.At] (some ⟨b205, 0, none⟩) 1 (hW.zBg (k := 12) rfl) y206 hy206 (HF.start _)) ?_
      obtain ⟨t207, ht207, H⟩ := bnd H
      refine Tr.va rfl (fun _ _ h1 h2 => KQ (h1.ev rfl) (h1.ev rfl) ht207) ?_
      obtain ⟨t208, ht208, H⟩ := bnd H
      refine Tr.va rfl (fun _ _ h1 h2 => KQ (h1.ev rfl) (h1.ev rfl) ht208) ?_
      obtain ⟨zGL, hy209, H⟩ := bnd H
      refine Tr.zAE [0] [sb 39 5 bp0 Am194 cm194 m194] (U := (Option Addr × Nat)) (fun u => (.tuple #[(iv ((t208 : ByteArray).size : Int)), .nilIface])) (fun u => True) (fun u => [sb 39 5 bp0 u.1 u.2 zGL]) rfl (zL rfl QI) (fun _ => rfl) (wn rfl) rfl Tryz.call11 (zI rfl (zI rfl zb)) (fun W hW hp hE => zk m194 Am194 cm194 bp0 t208 zGL hy209 hE) ?_
      intro u hu
      obtain ⟨zGJ, zF0⟩ := u
      have gy209_0 := hu
      have hgy209_0 : True := gy209_0 --@phi
      show Tr _ _ (uf _ 39 (.tuple #[(iv ((t208 : ByteArray).size : Int)), .nilIface])) (up _ 0 (sb 39 5 bp0 zGJ zF0 zGL)) _
      refine Tr.nil (Tr.zx (Tr.zx (Tr.zA (Tr.region (Tr.va rfl (fun _ _ h1 h2 => Qo (h1.ev rfl) (h1.ev rfl)) ?_)))))
      exact Tr.mv rfl rfl (Tr.nil (Tr.QF Qy (ze, (iL1 + 1), zGL, zGJ, zF0) ⟨rfl, KE QM, QX QM, H⟩ (.cons rfl (.cons rfl (.cons rfl (.cons (congrArg (fun z => some (Value.int .i64 z)) (KD QM Ql.form)) .nil)))) (.cons rfl .nil)))
     ·refine Tr.sr (Tr.va rfl (fun _ _ h1 h2 => Jy (h1.ev rfl) (h1.ev rfl)) ?_)
      refine Tr.asg rfl rfl (Tr.nil (Tr.zA (Tr.cond rfl H (fun H => ?_) (fun H => ?_))))
      ·refine Tr.region (Tr.mv rfl rfl (Tr.va rfl (fun _ _ h1 h2 => zD zBx (h1.ev rfl)) ?_))
       refine Tr.va rfl (fun _ _ h1 h2 => zo (cs := [(iv xL1.At.X), (iv xL1.At.Y)]) zCM zAZ (h1.ev rfl) (zf.take (rdb h2 (vs := [(iv xL1.Kind), (sv xL1.Name), (iv xL1.At.X), (iv xL1.At.Y), (.slice WM xL1.Points.length WH), (iv xL1.NX), (iv xL1.NY), (.slice WL xL1.Steps.length WG)]) (k := 11) rfl 2) 2) rfl) ?_
       refine Tr.buildSlice 13 (e := 52) (vs := [(0, (.agg #[(iv xL1.At.X), (iv xL1.At.Y)]))]) (cs := [(iv xL1.At.X), (iv xL1.At.Y)]) (wn rfl) rfl (QE rfl Qq) (by kernel_rfl) fun b211 => ?_
       refine Tr.own 13 QH [xL1.At] (css := [[(iv xL1.At.X), (iv xL1.At.Y)]]) rfl (.cons ⟨(), trivial, rfl⟩ .nil) rfl (by decide) (zEZ rfl) ?_
       obtain ⟨y212, hy212, H⟩ := bnd H
       refine Tr.Qr (r := (sv y212)) (wn rfl) rfl Tryz.call13 (zI rfl zb) (fun W hW => VU (hT.ext hW.QV) [xL1.At] (some ⟨b211, 0, none⟩) 1 (hW.zBg (k := 13) rfl) y212 hy212 (HF.start _)) ?_
       obtain ⟨t213, ht213, H⟩ := bnd H
       refine Tr.va rfl (fun _ _ h1 h2 => KQ (h1.ev rfl) (h1.ev rfl) ht213) ?_
       obtain ⟨t214, ht214, H⟩ := bnd H
       refine Tr.va rfl (fun _ _ h1 h2 => KQ (h1.ev rfl) (h1.ev rfl) ht214) ?_
       obtain ⟨y215, hy215, H⟩ := bnd H
       refine Tr.zAE [0] [sb 39 5 bp0 Am194 cm194 m194] (U := (Option Addr × Nat)) (fun u => (.tuple #[(iv ((t214 : ByteArray).size : Int)), .nilIface])) (fun u => True) (fun u => [sb 39 5 bp0 u.1 u.2 y215]) rfl (zL rfl QI) (fun _ => rfl) (wn rfl) rfl Tryz.call11 (zI rfl (zI rfl zb)) (fun W hW hp hE => zk m194 Am194 cm194 bp0 t214 y215 hy215 hE) ?_
       intro u hu
       obtain ⟨Ay215_0, cy215_0⟩ := u
       have gy215_0 := hu
       have hgy215_0 : True := gy215_0 --@phi
       show Tr _ _ (uf _ 49 (.tuple #[(iv ((t214 : ByteArray).size : Int)), .nilIface])) (up _ 0 (sb 39 5 bp0 Ay215_0 cy215_0 y215)) _
       refine Tr.nil (Tr.zx (Tr.zx (Tr.zA (Tr.region (Tr.va rfl (fun _ _ h1 h2 => Qo (h1.ev rfl) (h1.ev rfl)) ?_)))))
       exact Tr.mv rfl rfl (Tr.nil (Tr.QF Qy (ze, (iL1 + 1), y215, Ay215_0, cy215_0) ⟨rfl, KE QM, QX QM, H⟩ (.cons rfl (.cons rfl (.cons rfl (.cons (congrArg (fun z => some (Value.int .i64 z)) (KD QM Ql.form)) .nil)))) (.cons rfl .nil)))
      ·refine Tr.sr (Tr.va rfl (fun _ _ h1 h2 => Jy (h1.ev rfl) (h1.ev rfl)) ?_)
       refine Tr.asg rfl rfl (Tr.nil (Tr.zA (Tr.cond rfl H (fun H => ?_) (fun H => ?_))))
       ·refine Tr.region (Tr.mv rfl rfl (Tr.va rfl (fun _ _ h1 h2 => zD zBx (h1.ev rfl)) ?_))
        refine Tr.va rfl (fun _ _ h1 h2 => zo (cs := [(iv xL1.At.X), (iv xL1.At.Y)]) zCM zAZ (h1.ev rfl) (zf.take (rdb h2 (vs := [(iv xL1.Kind), (sv xL1.Name), (iv xL1.At.X), (iv xL1.At.Y), (.slice WM xL1.Points.length WH), (iv xL1.NX), (iv xL1.NY), (.slice WL xL1.Steps.length WG)]) (k := 11) rfl 2) 2) rfl) ?_
        refine Tr.buildSlice 14 (e := 52) (vs := [(0, (.agg #[(iv xL1.At.X), (iv xL1.At.Y)]))]) (cs := [(iv xL1.At.X), (iv xL1.At.Y)]) (wn rfl) rfl (QE rfl Qq) (by kernel_rfl) fun b217 => ?_
        refine Tr.own 14 QH [xL1.At] (css := [[(iv xL1.At.X), (iv xL1.At.Y)]]) rfl (.cons ⟨(), trivial, rfl⟩ .nil) rfl (by decide) (zEZ rfl) ?_
        obtain ⟨y218, hy218, H⟩ := bnd H
        refine Tr.Qr (r := (sv y218)) (wn rfl) rfl Tryz.call13 (zI rfl zb) (fun W hW => VU (hT.ext hW.QV) [xL1.At] (some ⟨b217, 0, none⟩) 1 (hW.zBg (k := 14) rfl) y218 hy218 (HF.start _)) ?_
        obtain ⟨t219, ht219, H⟩ := bnd H
        refine Tr.va rfl (fun _ _ h1 h2 => KQ (h1.ev rfl) (h1.ev rfl) ht219) ?_
        obtain ⟨t220, ht220, H⟩ := bnd H
        refine Tr.va rfl (fun _ _ h1 h2 => KQ (h1.ev rfl) (h1.ev rfl) ht220) ?_
        obtain ⟨y221, hy221, H⟩ := bnd H
        refine Tr.zAE [0] [sb 39 5 bp0 Am194 cm194 m194] (U := (Option Addr × Nat)) (fun u => (.tuple #[(iv ((t220 : ByteArray).size : Int)), .nilIface])) (fun u => True) (fun u => [sb 39 5 bp0 u.1 u.2 y221]) rfl (zL rfl QI) (fun _ => rfl) (wn rfl) rfl Tryz.call11 (zI rfl (zI rfl zb)) (fun W hW hp hE => zk m194 Am194 cm194 bp0 t220 y221 hy221 hE) ?_
        intro u hu
        obtain ⟨Ay221_0, cy221_0⟩ := u
        have gy221_0 := hu
        have hgy221_0 : True := gy221_0 --@phi
        show Tr _ _ (uf _ 59 (.tuple #[(iv ((t220 : ByteArray).size : Int)), .nilIface])) (up _ 0 (sb 39 5 bp0 Ay221_0 cy221_0 y221)) _
        refine Tr.nil (Tr.zx (Tr.zx (Tr.zA (Tr.region (Tr.va rfl (fun _ _ h1 h2 => Qo (h1.ev rfl) (h1.ev rfl)) ?_)))))
        exact Tr.mv rfl rfl (Tr.nil (Tr.QF Qy (ze, (iL1 + 1), y221, Ay221_0, cy221_0) ⟨rfl, KE QM, QX QM, H⟩ (.cons rfl (.cons rfl (.cons rfl (.cons (congrArg (fun z => some (Value.int .i64 z)) (KD QM Ql.form)) .nil)))) (.cons rfl .nil)))
       ·refine Tr.sr (Tr.va rfl (fun _ _ h1 h2 => Jy (h1.ev rfl) (h1.ev rfl)) ?_)
        refine Tr.asg rfl rfl (Tr.nil (Tr.zA (Tr.cond rfl H (fun H => ?_) (fun H => ?_))))
        ·refine Tr.region (Tr.mv rfl rfl (Tr.va rfl (fun _ _ h1 h2 => zD zBw (h1.ev rfl)) ?_))
         refine Tr.va rfl (fun _ _ h1 h2 => zH zHO (h1.ev rfl) (rdb h2 (vs := [(iv xL1.Kind), (sv xL1.Name), (iv xL1.At.X), (iv xL1.At.Y), (.slice WM xL1.Points.length WH), (iv xL1.NX), (iv xL1.NY), (.slice WL xL1.Steps.length WG)]) (k := 11) rfl 4) rfl) ?_
         obtain ⟨y223, hy223, H⟩ := bnd H
         refine Tr.Qr (r := (sv y223)) (wn rfl) rfl Tryz.call13 (zI rfl zb) (fun W hW => VU (hT.ext hW.QV) xL1.Points WM WH (zGf.ext hW.QV) y223 hy223 (HF.start _)) ?_
         obtain ⟨t224, ht224, H⟩ := bnd H
         refine Tr.va rfl (fun _ _ h1 h2 => KQ (h1.ev rfl) (h1.ev rfl) ht224) ?_
         obtain ⟨t225, ht225, H⟩ := bnd H
         refine Tr.va rfl (fun _ _ h1 h2 => KQ (h1.ev rfl) (h1.ev rfl) ht225) ?_
         obtain ⟨y226, hy226, H⟩ := bnd H
         refine Tr.zAE [0] [sb 39 5 bp0 Am194 cm194 m194] (U := (Option Addr × Nat)) (fun u => (.tuple #[(iv ((t225 : ByteArray).size : Int)), .nilIface])) (fun u => True) (fun u => [sb 39 5 bp0 u.1 u.2 y226]) rfl (zL rfl QI) (fun _ => rfl) (wn rfl) rfl Tryz.call11 (zI rfl (zI rfl zb)) (fun W hW hp hE => zk m194 Am194 cm194 bp0 t225 y226 hy226 hE) ?_
         intro u hu
         obtain ⟨Ay226_0, cy226_0⟩ := u
         have gy226_0 := hu
         have hgy226_0 : True := gy226_0 --@phi
         show Tr _ _ (uf _ 68 (.tuple #[(iv ((t225 : ByteArray).size : Int)), .nilIface])) (up _ 0 (sb 39 5 bp0 Ay226_0 cy226_0 y226)) _
         refine Tr.nil (Tr.zx (Tr.zx (Tr.zA (Tr.region (Tr.va rfl (fun _ _ h1 h2 => Qo (h1.ev rfl) (h1.ev rfl)) ?_)))))
         exact Tr.mv rfl rfl (Tr.nil (Tr.QF Qy (ze, (iL1 + 1), y226, Ay226_0, cy226_0) ⟨rfl, KE QM, QX QM, H⟩ (.cons rfl (.cons rfl (.cons rfl (.cons (congrArg (fun z => some (Value.int .i64 z)) (KD QM Ql.form)) .nil)))) (.cons rfl .nil)))
        ·refine Tr.sr (Tr.va rfl (fun _ _ h1 h2 => Jy (h1.ev rfl) (h1.ev rfl)) ?_)
         refine Tr.asg rfl rfl (Tr.nil (Tr.zA (Tr.cond rfl H (fun H => ?_) (fun H => ?_))))
         ·refine Tr.sr (Tr.mv rfl rfl (Tr.va rfl (fun _ _ h1 h2 => zD zEe (h1.ev rfl)) ?_))
          refine Tr.va rfl (fun _ _ h1 h2 => zH Ji (h1.ev rfl) (rdb h2 (vs := [(iv xL1.Kind), (sv xL1.Name), (iv xL1.At.X), (iv xL1.At.Y), (.slice WM xL1.Points.length WH), (iv xL1.NX), (iv xL1.NY), (.slice WL xL1.Steps.length WG)]) (k := 11) rfl 5) rfl) ?_
          refine Tr.va rfl (fun _ _ h1 h2 => zD zEd (h1.ev rfl)) ?_
          refine Tr.va rfl (fun _ _ h1 h2 => zH Ji (h1.ev rfl) (rdb h2 (vs := [(iv xL1.Kind), (sv xL1.Name), (iv xL1.At.X), (iv xL1.At.Y), (.slice WM xL1.Points.length WH), (iv xL1.NX), (iv xL1.NY), (.slice WL xL1.Steps.length WG)]) (k := 11) rfl 6) rfl) ?_
          refine Tr.build (vs := [(0, (iv xL1.NX)), (1, (iv xL1.NY))]) (cs := [(iv xL1.NX), (iv xL1.NY)]) (wn rfl) rfl (QE rfl (QE rfl Qq)) (by kernel_rfl) ?_
          refine Tr.va rfl (fun _ _ h1 h2 => zD zBx (h1.ev rfl)) ?_
          refine Tr.va rfl (fun _ _ h1 h2 => zo (cs := [(iv xL1.At.X), (iv xL1.At.Y)]) zCM zAZ (h1.ev rfl) (zf.take (rdb h2 (vs := [(iv xL1.Kind), (sv xL1.Name), (iv xL1.At.X), (iv xL1.At.Y), (.slice WM xL1.Points.length WH), (iv xL1.NX), (iv xL1.NY), (.slice WL xL1.Steps.length WG)]) (k := 11) rfl 2) 2) rfl) ?_
          refine Tr.buildSlice 15 (e := 52) (vs := [(0, (.agg #[(iv xL1.NX), (iv xL1.NY)])), (1, (.agg #[(iv xL1.At.X), (iv xL1.At.Y)]))]) (cs := [(iv xL1.NX), (iv xL1.NY), (iv xL1.At.X), (iv xL1.At.Y)]) (wn rfl) rfl (QE rfl (QE rfl Qq)) (by kernel_rfl) fun b228 => ?_
          refine Tr.own 15 QH [(zU.mk xL1.NX xL1.NY), xL1.At] (css := [[(iv xL1.NX), (iv xL1.NY)], [(iv xL1.At.X), (iv xL1.At.Y)]]) rfl (.cons ⟨(), trivial, rfl⟩ (.cons ⟨(), trivial, rfl⟩ .nil)) rfl (by decide) (zEZ rfl) ?_
          obtain ⟨y229, hy229, H⟩ := bnd H
          refine Tr.Qr (r := (sv y229)) (wn rfl) rfl Tryz.call13 (zI rfl zb) (fun W hW => VU (hT.ext hW.QV) [(zU.mk xL1.NX xL1.NY), xL1.At] (some ⟨b228, 0, none⟩) 2 (hW.zBg (k := 15) rfl) y229 hy229 (HF.start _)) ?_
          obtain ⟨t230, ht230, H⟩ := bnd H
          refine Tr.va rfl (fun _ _ h1 h2 => KQ (h1.ev rfl) (h1.ev rfl) ht230) ?_
          obtain ⟨t231, ht231, H⟩ := bnd H
          refine Tr.va rfl (fun _ _ h1 h2 => KQ (h1.ev rfl) (h1.ev rfl) ht231) ?_
          obtain ⟨y232, hy232, H⟩ := bnd H
          refine Tr.zAE [0] [sb 39 5 bp0 Am194 cm194 m194] (U := (Option Addr × Nat)) (fun u => (.tuple #[(iv ((t231 : ByteArray).size : Int)), .nilIface])) (fun u => True) (fun u => [sb 39 5 bp0 u.1 u.2 y232]) rfl (zL rfl QI) (fun _ => rfl) (wn rfl) rfl Tryz.call11 (zI rfl (zI rfl zb)) (fun W hW hp hE => zk m194 Am194 cm194 bp0 t231 y232 hy232 hE) ?_
          intro u hu
          obtain ⟨Ay232_0, cy232_0⟩ := u
          have gy232_0 := hu
          have hgy232_0 : True := gy232_0 --@phi
          show Tr _ _ (uf _ 83 (.tuple #[(iv ((t231 : ByteArray).size : Int)), .nilIface])) (up _ 0 (sb 39 5 bp0 Ay232_0 cy232_0 y232)) _
          refine Tr.nil (Tr.zA (Tr.sr (Tr.mv rfl rfl (Tr.va rfl (fun _ _ h1 h2 => zD zAS (h1.ev rfl)) ?_))))
          refine Tr.va rfl (fun _ _ h1 h2 => zH zBp (h1.ev rfl) (rdb h2 (vs := [(iv xL1.Kind), (sv xL1.Name), (iv xL1.At.X), (iv xL1.At.Y), (.slice WM xL1.Points.length WH), (iv xL1.NX), (iv xL1.NY), (.slice WL xL1.Steps.length WG)]) (k := 11) rfl 7) rfl) ?_
          obtain ⟨y234, hy234, H⟩ := bnd H
          refine Tr.zAE [0] [sb 39 5 bp0 Ay232_0 cy232_0 y232] (U := (Option Addr × Nat)) (fun u => (.tuple #[])) (fun u => True) (fun u => [sb 39 5 bp0 u.1 u.2 y234]) rfl (zL rfl QI) (fun _ => rfl) (wn rfl) rfl Tryz.call14 (zI rfl (zI rfl zb)) (fun W hW hp hE => hrec (hT.ext (hW.zFz hp)) y232 Ay232_0 cy232_0 bp0 xL1.Steps WL WG (zGe.ext (hW.zFz hp)) y234 hy234 hE) ?_
          intro u hu
          obtain ⟨Ay234_0, cy234_0⟩ := u
          have gy234_0 := hu
          have hgy234_0 : True := gy234_0 --@phi
          show Tr _ _ (uf _ 87 (.tuple #[])) (up _ 0 (sb 39 5 bp0 Ay234_0 cy234_0 y234)) _
          refine Tr.nil (Tr.zA (Tr.region (Tr.mv rfl rfl ?_)))
          obtain ⟨y236, hy236, H⟩ := bnd H
          refine Tr.zAE [0] [sb 39 5 bp0 Ay234_0 cy234_0 y234] (U := (Option Addr × Nat)) (fun u => (.tuple #[(iv (((⟨#[100, 111, 110, 101, 10]⟩) : ByteArray).size : Int)), .nilIface])) (fun u => True) (fun u => [sb 39 5 bp0 u.1 u.2 y236]) rfl (zL rfl QI) (fun _ => rfl) (wn rfl) rfl Tryz.call11 (zI rfl (zI rfl zb)) (fun W hW hp hE => zk y234 Ay234_0 cy234_0 bp0 (⟨#[100, 111, 110, 101, 10]⟩) y236 hy236 hE) ?_
          intro u hu
          obtain ⟨Ay236_0, cy236_0⟩ := u
          have gy236_0 := hu
          have hgy236_0 : True := gy236_0 --@phi
          show Tr _ _ (uf _ 89 (.tuple #[(iv (((⟨#[100, 111, 110, 101, 10]⟩) : ByteArray).size : Int)), .nilIface])) (up _ 0 (sb 39 5 bp0 Ay236_0 cy236_0 y236)) _
          refine Tr.nil (Tr.zx (Tr.zx (Tr.zA (Tr.region (Tr.va rfl (fun _ _ h1 h2 => Qo (h1.ev rfl) (h1.ev rfl)) ?_)))))
          exact Tr.mv rfl rfl (Tr.nil (Tr.QF Qy (ze, (iL1 + 1), y236, Ay236_0, cy236_0) ⟨rfl, KE QM, QX QM, H⟩ (.cons rfl (.cons rfl (.cons rfl (.cons (congrArg (fun z => some (Value.int .i64 z)) (KD QM Ql.form)) .nil)))) (.cons rfl .nil)))
         ·refine Tr.skip (Tr.zx (Tr.zx (Tr.zA (Tr.region (Tr.va rfl (fun _ _ h1 h2 => Qo (h1.ev rfl) (h1.ev rfl)) ?_)))))
          exact Tr.mv rfl rfl (Tr.nil (Tr.QF Qy (ze, (iL1 + 1), m194, Am194, cm194) ⟨rfl, KE QM, QX QM, H⟩ (.cons rfl (.cons rfl (.cons rfl (.cons (congrArg (fun z => some (Value.int .i64 z)) (KD QM Ql.form)) .nil)))) (.cons rfl .nil)))
theorem zBa : ∀ (N : Nat) {w : Bs} (hT : Tab Tryz.prog w) (p0 : ByteArray) (zF : Option Addr) (zG : Nat) (bp0 : Nat) (p1 : (List zB)) (zV : Option Addr) (zW : Nat) (Ql : Sl w.R w.W zC zV zW p1) (r : ByteArray) (H : KU N p0 p1 = some r) (hE : HF w w.W (LEn [sb 39 5 bp0 zF zG p0])), Calls Tryz.prog 14 [(.pointer (some ⟨bp0, 0, none⟩)), (.slice zV p1.length zW)].toArray w.W fun e W' => ∃ u : (Option Addr × Nat), e = .returned (.tuple #[]) ∧ (True) ∧ HF w W' (LEn [sb 39 5 bp0 u.1 u.2 r])
 | 0 => by intros; rename_i H _; cases H
 | N + 1 => zDi N (KU N) (zBa N)

theorem zCr {w : Bs} (p0 : ByteArray) (zF : Option Addr) (zG : Nat) (bp0 : Nat) (r : (Int × ByteArray)) (H : sbL p0 = some r) (hE : HF w w.W (LEn [sb 39 5 bp0 zF zG p0])) : Calls Tryz.prog 15 [(.pointer (some ⟨bp0, 0, none⟩))].toArray w.W fun e W' => ∃ u : (Option Addr × Nat), e = .returned (iv r.1) ∧ (True) ∧ HF w W' (LEn [sb 39 5 bp0 u.1 u.2 r.2]) :=
 sb_len (ρ := Tryz.zJ0) Tryz.bld15 H hE

end Go.Proofs.YtokanbmnoghafaaGreatDoor
namespace Go.Proofs
open Go.Shelf
def Tryz.zGt : Go.Shelf.Ren := ⟨fun | 169 => 16 | n => n, fun | 5 => 5 | 37 => 37 | 70 => 36 | 72 => 39 | 127 => 81 | n => n, fun n => n⟩
theorem Tryz.bld16 : Go.Proofs.Lays.n169 Tryz.prog Tryz.zGt := {
 mixed := by kernel_rfl
 f169 := Tryz.func16.trans (congrArg some (by kernel_rfl))
 t0 := Tryz.underlying0
 a0 := Tryz.isAgg0
 z0 := Tryz.sizeOf0
 v0 := Tryz.zeroValue0
 t3 := Tryz.underlying3
 a3 := Tryz.isAgg3
 z3 := Tryz.sizeOf3
 v3 := Tryz.zeroValue3
 t9 := Tryz.underlying9
 a9 := Tryz.isAgg9
 z9 := Tryz.sizeOf9
 v9 := Tryz.zeroValue9
 t37 := Tryz.underlying37
 a37 := Tryz.isAgg37
 z37 := Tryz.sizeOf37
 v37 := Tryz.zeroValue37
 t70 := Tryz.underlying36
 a70 := Tryz.isAgg36
 z70 := Tryz.sizeOf36
 v70 := Tryz.zeroValue36
 t72 := Tryz.underlying39
 a72 := Tryz.isAgg39
 z72 := Tryz.sizeOf39
 v72 := Tryz.zeroValue39
 t127 := Tryz.underlying81
 a127 := Tryz.isAgg81
 z127 := Tryz.sizeOf81
 v127 := Tryz.zeroValue81
}
end Go.Proofs
namespace Go.Proofs.YtokanbmnoghafaaGreatDoor
open Go.RowKit
theorem bX16 : Builder.Extra Tryz.prog Tryz.zGt where
 sizeBuilder := by kernel_rfl
 liesBuilder := by kernel_rfl
 t5 := Tryz.underlying5
 a5 := Tryz.isAgg5
 z5 := Tryz.sizeOf5
 v5 := Tryz.zeroValue5
 infoByte := by kernel_rfl
 cellsByte := by kernel_rfl
 sizeByte := by kernel_rfl
 neB5 := by decide
theorem zB4 {w : Bs} (p0 : ByteArray) (zF : Option Addr) (zG : Nat) (bp0 : Nat) (r : (ByteArray × ByteArray)) (H : sbS p0 = some r) (hE : HF w w.W (LEn [sb 39 5 bp0 zF zG p0])) : Calls Tryz.prog 16 [(.pointer (some ⟨bp0, 0, none⟩))].toArray w.W fun e W' => ∃ u : (Option Addr × Nat), e = .returned (sv r.1) ∧ (True) ∧ HF w W' (LEn [sb 39 5 bp0 u.1 u.2 r.2]) :=
 sb_string (ρ := Tryz.zGt) Tryz.bld16 bX16 H hE

theorem zCQ (N : Nat) {w : Bs} (hT : Tab Tryz.prog w) (p0 : zi) (zF : Option Addr) (zG : Nat) (zl : Sl w.R w.W zK zF zG p0.Tools) (zN : Option Addr) (zM : Nat) (VN : Sl w.R w.W zC zN zM p0.Steps) (r : (ByteArray × Int)) (H : Ky N p0 = some r) (hE : HF w w.W E0) : Calls Tryz.prog 5 [(.agg #[(iv p0.Unit), (.slice zF p0.Tools.length zG), (.slice zN p0.Steps.length zM)])].toArray w.W fun e W' => e = .returned (.tuple #[(sv r.1), (iv r.2)]) ∧ HF w W' E0 := by
 unfold Ky at H
 have leB := Bs.Le.refl w
 refine Tr.enter (n := 61) Tryz.func5 rfl rfl rfl hE ?_
 refine Tr.sr (Tr.box 1 (cs := [(iv p0.Unit), (.slice zF p0.Tools.length zG), (.slice zN p0.Steps.length zM)]) (wn rfl) rfl rfl rfl fun QG => ?_)
 refine Tr.asg rfl rfl (Tr.asg rfl rfl (Tr.nil (Tr.zA (Tr.seq (Tr.sr (Tr.va rfl (fun _ _ h1 h2 => zo (cs := [(iv p0.Unit), (.slice zF p0.Tools.length zG), (.slice zN p0.Steps.length zM)]) zBZ WQ (h1.ev rfl) (zf.take (rdb h2 (vs := [(iv p0.Unit), (.slice zF p0.Tools.length zG), (.slice zN p0.Steps.length zM)]) (k := 1) rfl 0) 3) rfl) ?_))))))
 obtain ⟨y101, hy101, H⟩ := bnd H
 refine Tr.Qr (r := (iv y101)) (wn rfl) rfl Tryz.call10 (zI rfl zb) (fun W hW => zBq N p0 zF zG (zl.ext hW.QV) zN zM (VN.ext hW.QV) y101 hy101 (HF.start _)) ?_
 refine Tr.asg rfl rfl (Tr.nil (Tr.zA (Tr.sr (Tr.mv rfl rfl (Tr.va rfl (fun _ _ h1 h2 => Jw (h1.ev rfl) (h1.ev rfl)) ?_)))))
 refine Tr.nil (Tr.zA (Tr.cond rfl H (fun H => ?_) (fun H => ?_)))
 ·refine Tr.sr (Tr.mv rfl rfl (Tr.asg rfl rfl (Tr.asg rfl rfl (Tr.nil (Tr.zA (Tr.ret (Tr.zO ?_)))))))
  obtain rfl := Option.some.inj H
  exact Tr.out (m := [(sv ⟨#[]⟩), (iv y101)]) [] (zQ rfl (zQ rfl zT)) (fun W hW => ⟨rfl, hW.low leB⟩)
 ·refine Tr.skip (Tr.zA (Tr.sr (Tr.sbNew (e := 5) 2 (wn rfl) rfl zb_39 fun Vf => ?_)))
  refine Tr.nil (Tr.zA (Tr.sr (Tr.va rfl (fun _ _ h1 h2 => zD zBy (h1.ev rfl)) ?_)))
  refine Tr.va rfl (fun _ _ h1 h2 => zH Ji (h1.ev rfl) (rdb h2 (vs := [(iv p0.Unit), (.slice zF p0.Tools.length zG), (.slice zN p0.Steps.length zM)]) (k := 1) rfl 0) rfl) ?_
  obtain ⟨zn, zIh, H⟩ := bnd H
  refine Tr.Qr (r := (sv zn)) (wn rfl) rfl Tryz.call12 (zI rfl zb) (fun W hW => zAx (hT.ext hW.QV) p0.Unit zn zIh (HF.start _)) ?_
  obtain ⟨t104, ht104, H⟩ := bnd H
  refine Tr.va rfl (fun _ _ h1 h2 => KQ (h1.ev rfl) (h1.ev rfl) ht104) ?_
  obtain ⟨t105, ht105, H⟩ := bnd H
  refine Tr.va rfl (fun _ _ h1 h2 => KQ (h1.ev rfl) (h1.ev rfl) ht105) ?_
  obtain ⟨Wp, hy106, H⟩ := bnd H
  refine Tr.zAE [2] [sb 39 5 Vf none 0 ByteArray.empty] (U := (Option Addr × Nat)) (fun u => (.tuple #[(iv ((t105 : ByteArray).size : Int)), .nilIface])) (fun u => True) (fun u => [sb 39 5 Vf u.1 u.2 Wp]) rfl (zL rfl QI) (fun _ => rfl) (wn rfl) rfl Tryz.call11 (zI rfl (zI rfl zb)) (fun W hW hp hE => zk ByteArray.empty none 0 Vf t105 Wp hy106 hE) ?_
  intro u hu
  obtain ⟨zDp, zDe⟩ := u
  have gy106_0 := hu
  have hgy106_0 : True := gy106_0 --@phi
  show Tr _ _ (uf _ 20 (.tuple #[(iv ((t105 : ByteArray).size : Int)), .nilIface])) (up _ 2 (sb 39 5 Vf zDp zDe Wp)) _
  refine Tr.nil (Tr.zA (Tr.seq (Tr.sr (Tr.va rfl (fun _ _ h1 h2 => zD Wj (h1.ev rfl)) ?_))))
  refine Tr.va rfl (fun _ _ h1 h2 => zH zDB (h1.ev rfl) (rdb h2 (vs := [(iv p0.Unit), (.slice zF p0.Tools.length zG), (.slice zN p0.Steps.length zM)]) (k := 1) rfl 1) rfl) ?_
  refine Tr.va rfl (fun _ _ h1 h2 => QL zG2 (h1.ev rfl)) ?_
  refine Tr.mv rfl rfl (Tr.nil (Tr.zA (Tr.block (Tr.loop (σ := (List zS) × Nat × ByteArray × (Option Addr) × Nat) (fun m w s => m = s.1.length + 1 ∧ s.1 = List.drop s.2.1 p0.Tools ∧ s.2.1 ≤ p0.Tools.length ∧ JP N p0 s.1 s.2.1 s.2.2.1 = some r) (fun s => [(1, (.pointer (some ⟨QG, 0, none⟩))), (5, (.pointer (some ⟨Vf, 0, none⟩))), (22, (.slice zF p0.Tools.length zG)), (23, (iv (p0.Tools.length : Int))), (24, (iv (s.2.1 : Int)))]) (fun s => [(1, bx QG #[(iv p0.Unit), (.slice zF p0.Tools.length zG), (.slice zN p0.Steps.length zM)] 25), (2, sb 39 5 Vf s.2.2.2.1 s.2.2.2.2 s.2.2.1)]) (p0.Tools.length + 1) (p0.Tools, 0, Wp, zDp, zDe) ⟨rfl, rfl, Nat.zero_le _, H⟩ (.cons rfl (.cons rfl (.cons rfl (.cons rfl (.cons rfl .nil))))) (.cons rfl (.cons rfl .nil)) (fun _ _ h => absurd h.1 (by simp)) ?_))))
  intro w zGd m s hs
  obtain ⟨VL, iL3, m178, Am178, cm178⟩ := s
  obtain ⟨hmL3, zDW, hiL3, H⟩ := hs
  replace zDW : VL = List.drop iL3 p0.Tools := zDW
  replace H : JP N p0 VL iL3 m178 = some r := H
  replace hmL3 : m + 1 = VL.length + 1 := hmL3
  replace hT := hT.ext zGd.ext
  replace zl := zl.leR zGd
  replace VN := VN.leR zGd
  replace leB := leB.trans zGd
  obtain rfl : m = VL.length := by omega
  clear hmL3
  show Tr _ _ (LF [(1, (.pointer (some ⟨QG, 0, none⟩))), (5, (.pointer (some ⟨Vf, 0, none⟩))), (22, (.slice zF p0.Tools.length zG)), (23, (iv (p0.Tools.length : Int))), (24, (iv (iL3 : Int)))]) (LE [(1, bx QG #[(iv p0.Unit), (.slice zF p0.Tools.length zG), (.slice zN p0.Steps.length zM)] 25), (2, sb 39 5 Vf Am178 cm178 m178)]) _
  cases VL with
  | nil =>
   rw [JP.eq_1] at H
   refine Tr.sr (Tr.va rfl (fun _ _ h1 h2 => Qm (h1.ev rfl) (h1.ev rfl)) ?_)
   refine Tr.nil (Tr.zA (Tr.seq (Tr.zCJ rfl (VR zDW) ?_)))
   refine Tr.exit (Tr.QK (Tr.QK (Tr.JV (Tr.zA (Tr.sr (Tr.va rfl (fun _ _ h1 h2 => zD zDa (h1.ev rfl)) ?_))))))
   refine Tr.va rfl (fun _ _ h1 h2 => zH zBp (h1.ev rfl) (rdb h2 (vs := [(iv p0.Unit), (.slice zF p0.Tools.length zG), (.slice zN p0.Steps.length zM)]) (k := 1) rfl 2) rfl) ?_
   obtain ⟨y179, hy179, H⟩ := bnd H
   refine Tr.zAE [2] [sb 39 5 Vf Am178 cm178 m178] (U := (Option Addr × Nat)) (fun u => (.tuple #[])) (fun u => True) (fun u => [sb 39 5 Vf u.1 u.2 y179]) rfl (zL rfl QI) (fun _ => rfl) (wn rfl) rfl Tryz.call14 (zI rfl (zI rfl zb)) (fun W hW hp hE => zBa N (hT.ext (hW.zFz hp)) m178 Am178 cm178 Vf p0.Steps zN zM (VN.ext (hW.zFz hp)) y179 hy179 hE) ?_
   intro u hu
   obtain ⟨Ay179_0, cy179_0⟩ := u
   have gy179_0 := hu
   have hgy179_0 : True := gy179_0 --@phi
   show Tr _ _ (uf _ 57 (.tuple #[])) (up _ 2 (sb 39 5 Vf Ay179_0 cy179_0 y179)) _
   refine Tr.nil (Tr.zA (Tr.seq (Tr.sr ?_)))
   obtain ⟨zJD, hy181, H⟩ := bnd H
   refine Tr.zAE [2] [sb 39 5 Vf Ay179_0 cy179_0 y179] (U := (Option Addr × Nat)) (fun u => (iv zJD.1)) (fun u => True) (fun u => [sb 39 5 Vf u.1 u.2 zJD.2]) rfl (zL rfl QI) (fun _ => rfl) (wn rfl) rfl Tryz.call15 (zI rfl zb) (fun W hW hp hE => zCr y179 Ay179_0 cy179_0 Vf zJD hy181 hE) ?_
   intro u hu
   obtain ⟨Ay181_0, cy181_0⟩ := u
   have gy181_0 := hu
   have hgy181_0 : True := gy181_0 --@phi
   show Tr _ _ (uf _ 58 (iv zJD.1)) (up _ 2 (sb 39 5 Vf Ay181_0 cy181_0 zJD.2)) _
   refine Tr.va rfl (fun _ _ h1 h2 => WB (h1.ev rfl) (h1.ev rfl)) ?_
   refine Tr.nil (Tr.zA (Tr.cond rfl H (fun H => ?_) (fun H => ?_)))
   ·refine Tr.sr (Tr.asg rfl rfl (Tr.asg rfl rfl (Tr.nil (Tr.zA (Tr.ret (Tr.zO ?_))))))
    obtain rfl := Option.some.inj H
    exact Tr.out (m := [(sv ⟨#[]⟩), (iv 2)]) [] (zQ rfl (zQ rfl zT)) (fun W hW => ⟨rfl, hW.low leB⟩)
   ·refine Tr.skip (Tr.zA (Tr.sr ?_))
    obtain ⟨y183, hy183, H⟩ := bnd H
    refine Tr.zAE [2] [sb 39 5 Vf Ay181_0 cy181_0 zJD.2] (U := (Option Addr × Nat)) (fun u => (sv y183.1)) (fun u => True) (fun u => [sb 39 5 Vf u.1 u.2 y183.2]) rfl (zL rfl QI) (fun _ => rfl) (wn rfl) rfl Tryz.call16 (zI rfl zb) (fun W hW hp hE => zB4 zJD.2 Ay181_0 cy181_0 Vf y183 hy183 hE) ?_
    intro u hu
    obtain ⟨Ay183_0, cy183_0⟩ := u
    have gy183_0 := hu
    have hgy183_0 : True := gy183_0 --@phi
    show Tr _ _ (uf _ 60 (sv y183.1)) (up _ 2 (sb 39 5 Vf Ay183_0 cy183_0 y183.2)) _
    refine Tr.asg rfl rfl (Tr.asg rfl rfl (Tr.nil (Tr.zA (Tr.ret ?_))))
    obtain rfl := Option.some.inj H
    exact Tr.out (m := [(sv y183.1), (iv 0)]) [] (zQ rfl (zQ rfl zT)) (fun W hW => ⟨rfl, hW.low leB⟩)
  | cons xL3 VL =>
   rw [JP.eq_2] at H
   refine Tr.sr (Tr.va rfl (fun _ _ h1 h2 => Qm (h1.ev rfl) (h1.ev rfl)) ?_)
   refine Tr.nil (Tr.zA (Tr.seq (Tr.zBn rfl (Vj zDW) ?_)))
   refine Tr.skip (Tr.zA (Tr.seq (Tr.block (Tr.sr ?_))))
   obtain ⟨u185, hRu185, hoku185, hcu185⟩ := (zl).el (Vk zDW)
   obtain ⟨zCj, zCd⟩ := u185
   have zBI := hoku185
   replace zBI : Sl w.R w.W KR zCj zCd xL3.Rects := zBI
   refine Tr.va rfl (fun _ _ h1 h2 => zR zHJ (h1.ev rfl) zl.form (h1.ev rfl) (Int.natCast_nonneg _) (QX zDW)) ?_
   refine Tr.va rfl (fun _ _ h1 h2 => zo (cs := [(sv xL3.Name), (.slice zCj xL3.Rects.length zCd)]) ag_47 zFU (h1.ev rfl) (zf.take (rdR hRu185 hcu185 h2) 2) rfl) ?_
   refine Tr.alloc 17 (wn rfl) rfl ze_47 fun b186 => ?_
   refine Tr.store 17 (cs := [(sv xL3.Name), (.slice zCj xL3.Rects.length zCd)]) [(sv xL3.Name), (.slice zCj xL3.Rects.length zCd)] (wn rfl) rfl rfl rfl rfl zFU rfl rfl rfl ?_
   refine Tr.nil (Tr.zA (Tr.sr (Tr.va rfl (fun _ _ h1 h2 => zD zDZ (h1.ev rfl)) ?_)))
   refine Tr.va rfl (fun _ _ h1 h2 => zH zB2 (h1.ev rfl) (rdb h2 (vs := [(sv xL3.Name), (.slice zCj xL3.Rects.length zCd)]) (k := 17) rfl 0) rfl) ?_
   obtain ⟨t187, ht187, H⟩ := bnd H
   refine Tr.va rfl (fun _ _ h1 h2 => KQ (h1.ev rfl) (h1.ev rfl) ht187) ?_
   obtain ⟨y188, hy188, H⟩ := bnd H
   refine Tr.zAE [2] [sb 39 5 Vf Am178 cm178 m178] (U := (Option Addr × Nat)) (fun u => (.tuple #[(iv ((t187 : ByteArray).size : Int)), .nilIface])) (fun u => True) (fun u => [sb 39 5 Vf u.1 u.2 y188]) rfl (zL rfl QI) (fun _ => rfl) (wn rfl) rfl Tryz.call11 (zI rfl (zI rfl zb)) (fun W hW hp hE => zk m178 Am178 cm178 Vf t187 y188 hy188 hE) ?_
   intro u hu
   obtain ⟨Ay188_0, cy188_0⟩ := u
   have gy188_0 := hu
   have hgy188_0 : True := gy188_0 --@phi
   show Tr _ _ (uf _ 31 (.tuple #[(iv ((t187 : ByteArray).size : Int)), .nilIface])) (up _ 2 (sb 39 5 Vf Ay188_0 cy188_0 y188)) _
   refine Tr.nil (Tr.zA (Tr.seq (Tr.sr (Tr.va rfl (fun _ _ h1 h2 => zD zCb (h1.ev rfl)) ?_))))
   refine Tr.va rfl (fun _ _ h1 h2 => zH zI4 (h1.ev rfl) (rdb h2 (vs := [(sv xL3.Name), (.slice zCj xL3.Rects.length zCd)]) (k := 17) rfl 1) rfl) ?_
   refine Tr.va rfl (fun _ _ h1 h2 => QL zG1 (h1.ev rfl)) ?_
   refine Tr.mv rfl rfl (Tr.nil (Tr.zA (Tr.block (Tr.loop (σ := (List JO) × Nat × ByteArray × (Option Addr) × Nat) (fun m w s => m = s.1.length + 1 ∧ s.1 = List.drop s.2.1 xL3.Rects ∧ s.2.1 ≤ xL3.Rects.length ∧ KV (JP N p0 VL (iL3 + 1)) s.1 s.2.1 s.2.2.1 = some r) (fun s => [(1, (.pointer (some ⟨QG, 0, none⟩))), (5, (.pointer (some ⟨Vf, 0, none⟩))), (22, (.slice zF p0.Tools.length zG)), (23, (iv (p0.Tools.length : Int))), (24, (iv (iL3 : Int))), (33, (.slice zCj xL3.Rects.length zCd)), (34, (iv (xL3.Rects.length : Int))), (35, (iv (s.2.1 : Int)))]) (fun s => [(1, bx QG #[(iv p0.Unit), (.slice zF p0.Tools.length zG), (.slice zN p0.Steps.length zM)] 25), (2, sb 39 5 Vf s.2.2.2.1 s.2.2.2.2 s.2.2.1)]) (xL3.Rects.length + 1) (xL3.Rects, 0, y188, Ay188_0, cy188_0) ⟨rfl, rfl, Nat.zero_le _, H⟩ (.cons rfl (.cons rfl (.cons rfl (.cons rfl (.cons rfl (.cons rfl (.cons rfl (.cons rfl .nil)))))))) (.cons rfl (.cons rfl .nil)) (fun _ _ h => absurd h.1 (by simp)) ?_))))
   intro w leL4 m s hs
   obtain ⟨zDR, iL4, m208, Am208, cm208⟩ := s
   obtain ⟨hmL4, hdL4, hiL4, H⟩ := hs
   replace hdL4 : zDR = List.drop iL4 xL3.Rects := hdL4
   replace H : KV (JP N p0 VL (iL3 + 1)) zDR iL4 m208 = some r := H
   replace hmL4 : m + 1 = zDR.length + 1 := hmL4
   replace hT := hT.ext leL4.ext
   replace zl := zl.leR leL4
   replace zBI := zBI.leR leL4
   replace zGd := zGd.trans leL4
   obtain rfl : m = zDR.length := by omega
   clear hmL4
   show Tr _ _ (LF [(1, (.pointer (some ⟨QG, 0, none⟩))), (5, (.pointer (some ⟨Vf, 0, none⟩))), (22, (.slice zF p0.Tools.length zG)), (23, (iv (p0.Tools.length : Int))), (24, (iv (iL3 : Int))), (33, (.slice zCj xL3.Rects.length zCd)), (34, (iv (xL3.Rects.length : Int))), (35, (iv (iL4 : Int)))]) (LE [(1, bx QG #[(iv p0.Unit), (.slice zF p0.Tools.length zG), (.slice zN p0.Steps.length zM)] 25), (2, sb 39 5 Vf Am208 cm208 m208)]) _
   cases zDR with
   | nil =>
    rw [KV.eq_1] at H
    refine Tr.sr (Tr.va rfl (fun _ _ h1 h2 => Qm (h1.ev rfl) (h1.ev rfl)) ?_)
    refine Tr.nil (Tr.zA (Tr.seq (Tr.zCJ rfl (VR hdL4) ?_)))
    refine Tr.exit (Tr.QK (Tr.QK (Tr.JV (Tr.zA (Tr.region ?_)))))
    obtain ⟨zGL, hy209, H⟩ := bnd H
    refine Tr.zAE [2] [sb 39 5 Vf Am208 cm208 m208] (U := (Option Addr × Nat)) (fun u => (.tuple #[(iv (((⟨#[10]⟩) : ByteArray).size : Int)), .nilIface])) (fun u => True) (fun u => [sb 39 5 Vf u.1 u.2 zGL]) rfl (zL rfl QI) (fun _ => rfl) (wn rfl) rfl Tryz.call11 (zI rfl (zI rfl zb)) (fun W hW hp hE => zk m208 Am208 cm208 Vf (⟨#[10]⟩) zGL hy209 hE) ?_
    intro u hu
    obtain ⟨zGJ, zF0⟩ := u
    have gy209_0 := hu
    have hgy209_0 : True := gy209_0 --@phi
    show Tr _ _ (uf _ 53 (.tuple #[(iv (((⟨#[10]⟩) : ByteArray).size : Int)), .nilIface])) (up _ 2 (sb 39 5 Vf zGJ zF0 zGL)) _
    refine Tr.nil (Tr.zx (Tr.zA (Tr.region (Tr.va rfl (fun _ _ h1 h2 => Qo (h1.ev rfl) (h1.ev rfl)) ?_))))
    exact Tr.mv rfl rfl (Tr.nil (Tr.QF zGd (VL, (iL3 + 1), zGL, zGJ, zF0) ⟨rfl, KE zDW, QX zDW, H⟩ (.cons rfl (.cons rfl (.cons rfl (.cons rfl (.cons (congrArg (fun z => some (Value.int .i64 z)) (KD zDW zl.form)) .nil))))) (.cons rfl (.cons rfl .nil))))
   | cons xL4 zDR =>
    rw [KV.eq_2] at H
    refine Tr.sr (Tr.va rfl (fun _ _ h1 h2 => Qm (h1.ev rfl) (h1.ev rfl)) ?_)
    refine Tr.nil (Tr.zA (Tr.seq (Tr.zBn rfl (Vj hdL4) ?_)))
    refine Tr.skip (Tr.zA (Tr.seq (Tr.block (Tr.sr (Tr.va rfl (fun _ _ h1 h2 => zR el_45 (h1.ev rfl) zBI.form (h1.ev rfl) (Int.natCast_nonneg _) (QX hdL4)) ?_)))))
    refine Tr.va rfl (fun _ _ h1 h2 => zo (cs := [(iv xL4.X0), (iv xL4.Y0), (iv xL4.X1), (iv xL4.Y1)]) ag_49 zIL (h1.ev rfl) (zf.take (rdF zEI zBI (Vk hdL4) h2) 4) rfl) ?_
    refine Tr.alloc 22 (wn rfl) rfl ze_49 fun b211 => ?_
    refine Tr.store 22 (cs := [(iv xL4.X0), (iv xL4.Y0), (iv xL4.X1), (iv xL4.Y1)]) [(iv xL4.X0), (iv xL4.Y0), (iv xL4.X1), (iv xL4.Y1)] (wn rfl) rfl rfl rfl rfl zIL rfl rfl rfl ?_
    refine Tr.nil (Tr.zA (Tr.region (Tr.va rfl (fun _ _ h1 h2 => zD fo_49_0 (h1.ev rfl)) ?_)))
    refine Tr.va rfl (fun _ _ h1 h2 => zH Ji (h1.ev rfl) (rdb h2 (vs := [(iv xL4.X0), (iv xL4.Y0), (iv xL4.X1), (iv xL4.Y1)]) (k := 22) rfl 0) rfl) ?_
    refine Tr.va rfl (fun _ _ h1 h2 => zD fo_49_1 (h1.ev rfl)) ?_
    refine Tr.va rfl (fun _ _ h1 h2 => zH Ji (h1.ev rfl) (rdb h2 (vs := [(iv xL4.X0), (iv xL4.Y0), (iv xL4.X1), (iv xL4.Y1)]) (k := 22) rfl 1) rfl) ?_
    refine Tr.build (vs := [(0, (iv xL4.X0)), (1, (iv xL4.Y0))]) (cs := [(iv xL4.X0), (iv xL4.Y0)]) (wn rfl) rfl (QE rfl (QE rfl Qq)) (by kernel_rfl) ?_
    refine Tr.va rfl (fun _ _ h1 h2 => zD fo_49_2 (h1.ev rfl)) ?_
    refine Tr.va rfl (fun _ _ h1 h2 => zH Ji (h1.ev rfl) (rdb h2 (vs := [(iv xL4.X0), (iv xL4.Y0), (iv xL4.X1), (iv xL4.Y1)]) (k := 22) rfl 2) rfl) ?_
    refine Tr.va rfl (fun _ _ h1 h2 => zD fo_49_3 (h1.ev rfl)) ?_
    refine Tr.va rfl (fun _ _ h1 h2 => zH Ji (h1.ev rfl) (rdb h2 (vs := [(iv xL4.X0), (iv xL4.Y0), (iv xL4.X1), (iv xL4.Y1)]) (k := 22) rfl 3) rfl) ?_
    refine Tr.build (vs := [(0, (iv xL4.X1)), (1, (iv xL4.Y1))]) (cs := [(iv xL4.X1), (iv xL4.Y1)]) (wn rfl) rfl (QE rfl (QE rfl Qq)) (by kernel_rfl) ?_
    refine Tr.buildSlice 23 (e := 52) (vs := [(0, (.agg #[(iv xL4.X0), (iv xL4.Y0)])), (1, (.agg #[(iv xL4.X1), (iv xL4.Y1)]))]) (cs := [(iv xL4.X0), (iv xL4.Y0), (iv xL4.X1), (iv xL4.Y1)]) (wn rfl) rfl (QE rfl (QE rfl Qq)) (by kernel_rfl) fun b212 => ?_
    refine Tr.own 23 QH [(zU.mk xL4.X0 xL4.Y0), (zU.mk xL4.X1 xL4.Y1)] (css := [[(iv xL4.X0), (iv xL4.Y0)], [(iv xL4.X1), (iv xL4.Y1)]]) rfl (.cons ⟨(), trivial, rfl⟩ (.cons ⟨(), trivial, rfl⟩ .nil)) rfl (by decide) (zEZ rfl) ?_
    obtain ⟨y213, hy213, H⟩ := bnd H
    refine Tr.Qr (r := (sv y213)) (wn rfl) rfl Tryz.call13 (zI rfl zb) (fun W hW => VU (hT.ext hW.QV) [(zU.mk xL4.X0 xL4.Y0), (zU.mk xL4.X1 xL4.Y1)] (some ⟨b212, 0, none⟩) 2 (hW.zBg (k := 23) rfl) y213 hy213 (HF.start _)) ?_
    obtain ⟨y214, hy214, H⟩ := bnd H
    refine Tr.zAE [2] [sb 39 5 Vf Am208 cm208 m208] (U := (Option Addr × Nat)) (fun u => (.tuple #[(iv ((y213 : ByteArray).size : Int)), .nilIface])) (fun u => True) (fun u => [sb 39 5 Vf u.1 u.2 y214]) rfl (zL rfl QI) (fun _ => rfl) (wn rfl) rfl Tryz.call11 (zI rfl (zI rfl zb)) (fun W hW hp hE => zk m208 Am208 cm208 Vf y213 y214 hy214 hE) ?_
    intro u hu
    obtain ⟨Ay214_0, cy214_0⟩ := u
    have gy214_0 := hu
    have hgy214_0 : True := gy214_0 --@phi
    show Tr _ _ (uf _ 51 (.tuple #[(iv ((y213 : ByteArray).size : Int)), .nilIface])) (up _ 2 (sb 39 5 Vf Ay214_0 cy214_0 y214)) _
    refine Tr.nil (Tr.zx (Tr.zA (Tr.region (Tr.va rfl (fun _ _ h1 h2 => Qo (h1.ev rfl) (h1.ev rfl)) ?_))))
    exact Tr.mv rfl rfl (Tr.nil (Tr.QF leL4 (zDR, (iL4 + 1), y214, Ay214_0, cy214_0) ⟨rfl, KE hdL4, QX hdL4, H⟩ (.cons rfl (.cons rfl (.cons rfl (.cons rfl (.cons rfl (.cons rfl (.cons rfl (.cons (congrArg (fun z => some (Value.int .i64 z)) (KD hdL4 zBI.form)) .nil)))))))) (.cons rfl (.cons rfl .nil))))

theorem zGv {w : Bs} (hT : Tab Tryz.prog w) (p0 : ByteArray) (p1 : ByteArray) (r : (ByteArray × ByteArray × Bool)) (H : cutF p0 p1 = some r) (hE : HF w w.W E0) : Calls Tryz.prog 17 [(sv p0), (sv p1)].toArray w.W fun e W' => e = .returned (.tuple #[(sv r.1), (sv r.2.1), (.bool r.2.2)]) ∧ HF w W' E0 :=
 cutF_rule (ρ := Tryz.zJx) { Tryz.cut17 with } hT Tryz.cut17.g1 H hE

theorem zFK {w : Bs} (hT : Tab Tryz.prog w) (p0 : ByteArray) (p1 : ByteArray) (r : (List ByteArray)) (H : zE0 p0 p1 = some r) (hE : HF w w.W (LEn [emp])) : Calls Tryz.prog 32 [(sv p0), (sv p1)].toArray w.W fun e W' => ∃ u : (Option Addr × Nat), e = .returned (.slice u.1 r.length u.2) ∧ (SlF u.1 r.length u.2) ∧ HF w W' (LEn [ow u.1 u.2 9 zAq r]) :=
 splitF_rule (ρ := Tryz.zG6) Tryz.split32 hT Tryz.split32.g1 (t := zAq) rfl zBj () tr_str (by kernel_rfl) H hE

theorem zCN {w : Bs} (p0 : ByteArray) (p1 : ByteArray) (r : Bool) (H : Jc p0 p1 = some r) (hE : HF w w.W E0) : Calls Tryz.prog 119 [(sv p0), (sv p1)].toArray w.W fun e W' => e = .returned (.bool r) ∧ HF w W' E0 := by
 unfold Jc at H
 have leB := Bs.Le.refl w
 refine Tr.enter (n := 18) Tryz.func119 rfl rfl rfl hE ?_
 refine Tr.sr (Tr.asg rfl rfl (Tr.nil (Tr.zA (Tr.sr (Tr.mv rfl rfl (Tr.va rfl (fun _ _ h1 h2 => zAJ zFR (h1.ev rfl)) ?_))))))
 refine Tr.mv rfl rfl (Tr.va rfl (fun _ _ h1 h2 => zAJ zFR (h1.ev rfl)) ?_)
 refine Tr.va rfl (fun _ _ h1 h2 => zCW (h1.ev rfl) (h1.ev rfl)) ?_
 refine Tr.mv rfl rfl ?_
 obtain ⟨zIo, zC4, H⟩ := bnd H
 refine Tr.KY 7 [(17, (.bool zIo))] [] ?_ ?_
 ·cases zDt : (decide ((p1.size : Int) ≤ (p0.size : Int)))
  ·rw [zDt] at zC4
   rw [if_neg (by decide)] at zC4
   have H := zC4
   obtain rfl := Option.some.inj H
   refine Tr.pass rfl rfl rfl rfl rfl (by decide) ?_
   refine Tr.pass rfl rfl rfl rfl rfl (by decide) ?_
   refine Tr.pass rfl rfl rfl rfl rfl (by decide) ?_
   refine Tr.pass rfl rfl rfl rfl rfl (by decide) ?_
   refine Tr.pass rfl rfl rfl rfl rfl (by decide) ?_
   refine Tr.pass rfl rfl rfl rfl rfl (by decide) ?_
   refine Tr.va rfl (fun _ _ h1 h2 => zh (h1.ev rfl) (h1.ev rfl)) ?_
   exact Tr.nil (Tr.Qc (.cons rfl .nil) .nil)
  ·rw [zDt] at zC4
   rw [if_pos rfl] at zC4
   have H := zC4
   refine Tr.val (wg rfl rfl rfl) rfl (fun _ _ h1 h2 => run_move (h1.ev rfl)) ?_
   refine Tr.val (wg rfl rfl rfl) rfl (fun _ _ h1 h2 => run_move (h1.ev rfl)) ?_
   refine Tr.val (wg rfl rfl rfl) rfl (fun _ _ h1 h2 => zAJ zFR (h1.ev rfl)) ?_
   obtain ⟨t102, ht102, H⟩ := bnd H
   refine Tr.val (wg rfl rfl rfl) rfl (fun _ _ h1 h2 => run_cutSH zFR (h1.ev rfl) (h1.ev rfl) ht102) ?_
   refine Tr.val (wg rfl rfl rfl) rfl (fun _ _ h1 h2 => run_move (h1.ev rfl)) ?_
   refine Tr.val (wg rfl rfl rfl) rfl (fun _ _ h1 h2 => Kv (h1.ev rfl) (h1.ev rfl)) ?_
   refine Tr.va rfl (fun _ _ h1 h2 => zg (h1.ev rfl) (h1.ev rfl)) ?_
   obtain rfl := Option.some.inj H
   exact Tr.nil (Tr.Qc (.cons rfl .nil) .nil)
 ·show Tr _ _ (LF [(17, (.bool zIo))]) (LE []) _
  refine Tr.asg rfl rfl (Tr.nil (Tr.zA (Tr.ret ?_)))
  obtain rfl := Option.some.inj H
  exact Tr.out (m := [(.bool zIo)]) [] (zQ rfl zT) (fun W hW => ⟨rfl, hW.low leB⟩)

theorem zB3 {w : Bs} (p0 : ByteArray) (p1 : ByteArray) (r : ByteArray) (H : Kn p0 p1 = some r) (hE : HF w w.W E0) : Calls Tryz.prog 104 [(sv p0), (sv p1)].toArray w.W fun e W' => e = .returned (sv r) ∧ HF w W' E0 := by
 unfold Kn at H
 have leB := Bs.Le.refl w
 refine Tr.enter (n := 13) Tryz.func104 rfl rfl rfl hE ?_
 refine Tr.sr (Tr.asg rfl rfl (Tr.nil (Tr.zA (Tr.seq (Tr.sr (Tr.mv rfl rfl (Tr.mv rfl rfl ?_)))))))
 obtain ⟨QU, zCy, H⟩ := bnd H
 refine Tr.Qr (r := (.bool QU)) (wn rfl) rfl Tryz.call119 (zI rfl (zI rfl zb)) (fun W hW => zCN p0 p1 QU zCy (HF.start _)) ?_
 refine Tr.nil (Tr.zA (Tr.cond rfl H (fun H => ?_) (fun H => ?_)))
 ·refine Tr.sr (Tr.mv rfl rfl (Tr.mv rfl rfl (Tr.va rfl (fun _ _ h1 h2 => zAJ zFR (h1.ev rfl)) ?_)))
  obtain ⟨t101, ht101, H⟩ := bnd H
  refine Tr.va rfl (fun _ _ h1 h2 => run_cutSL zFR (h1.ev rfl) (h1.ev rfl) ht101) ?_
  refine Tr.asg rfl rfl (Tr.nil (Tr.zA (Tr.ret (Tr.zO ?_))))
  obtain rfl := Option.some.inj H
  exact Tr.out (m := [(sv t101)]) [] (zQ rfl zT) (fun W hW => ⟨rfl, hW.low leB⟩)
 ·refine Tr.skip (Tr.zA (Tr.sr (Tr.mv rfl rfl (Tr.asg rfl rfl (Tr.nil (Tr.zA (Tr.ret ?_)))))))
  obtain rfl := Option.some.inj H
  exact Tr.out (m := [(sv p0)]) [] (zQ rfl zT) (fun W hW => ⟨rfl, hW.low leB⟩)

theorem zDD {w : Bs} (p0 : ByteArray) (p1 : ByteArray) (r : ByteArray) (H : Kw p0 p1 = some r) (hE : HF w w.W E0) : Calls Tryz.prog 81 [(sv p0), (sv p1)].toArray w.W fun e W' => e = .returned (sv r) ∧ HF w W' E0 := by
 unfold Kw at H
 have leB := Bs.Le.refl w
 refine Tr.enter (n := 8) Tryz.func81 rfl rfl rfl hE ?_
 refine Tr.sr (Tr.asg rfl rfl (Tr.nil (Tr.zA (Tr.sr (Tr.mv rfl rfl (Tr.mv rfl rfl ?_))))))
 obtain ⟨QU, zCy, H⟩ := bnd H
 refine Tr.Qr (r := (sv QU)) (wn rfl) rfl Tryz.call104 (zI rfl (zI rfl zb)) (fun W hW => zB3 p0 p1 QU zCy (HF.start _)) ?_
 refine Tr.asg rfl rfl (Tr.nil (Tr.zA (Tr.ret ?_)))
 obtain rfl := Option.some.inj H
 exact Tr.out (m := [(sv QU)]) [] (zQ rfl zT) (fun W hW => ⟨rfl, hW.low leB⟩)

theorem zGE {w : Bs} (p0 : ByteArray) (p1 : ByteArray) (r : ByteArray) (H : trimF p0 p1 = some r) (hE : HF w w.W E0) : Calls Tryz.prog 82 [(sv p0), (sv p1)].toArray w.W fun e W' => e = .returned (sv r) ∧ HF w W' E0 :=
 trimF_rule (ρ := Tryz.zIJ) Tryz.trim82 (by kernel_rfl) H hE

theorem zGF {w : Bs} (p0 : ByteArray) (r : Int) (H : zHN p0 = some r) (hE : HF w w.W E0) : Calls Tryz.prog 83 [(sv p0)].toArray w.W fun e W' => e = .returned (.tuple #[(iv r), .nilIface]) ∧ HF w W' E0 :=
 atoiF_rule (ρ := Tryz.zIz) Tryz.atoi83 H hE

end Go.Proofs.YtokanbmnoghafaaGreatDoor
