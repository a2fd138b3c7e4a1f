/- The walks: each function computes its plain function. -/
import Derived.Test.YtoageaoknnnfbaaGreatDoorXF
namespace Go.Proofs.YtoageaoknnnfbaaGreatDoor
open Go.RowKit
set_option maxRecDepth 100000
set_option maxHeartbeats 1000000
theorem Vb {w : Bs} (p0 : Int) (p1 : Int) (p2 : Int) (r : Bool) (H : Jp p0 p1 p2 = some r) (hE : HF w w.W E0) : Calls Tryz.prog 22 [(iv p0), (iv p1), (iv p2)].toArray w.W fun e W' => e = .returned (.bool r) ∧ HF w W' E0 := by
 unfold Jp at H
 have leB := Bs.Le.refl w
 refine Tr.enter (n := 15) Tryz.func22 rfl rfl rfl hE ?_
 refine Tr.sr (Tr.asg rfl rfl (Tr.nil (Tr.zA (Tr.sr (Tr.mv rfl rfl (Tr.mv rfl rfl (Tr.va rfl (fun _ _ h1 h2 => zEU (h1.ev rfl) (h1.ev rfl)) ?_)))))))
 refine Tr.mv rfl rfl (Tr.VR 4 [(14, (.bool ((decide (p1 ≤ p0)) && (decide (p0 ≤ p2)))))] [] ?_ ?_)
 ·cases hg99 : (decide (p1 ≤ p0))
  ·refine Tr.pass rfl rfl rfl rfl rfl (by decide) ?_
   refine Tr.pass rfl rfl rfl rfl rfl (by decide) ?_
   refine Tr.pass rfl rfl rfl rfl rfl (by decide) ?_
   refine Tr.va rfl (fun _ _ h1 h2 => zf (h1.ev rfl) (h1.ev rfl)) ?_
   exact Tr.nil (Tr.Qo (.cons rfl .nil) .nil)
  ·refine Tr.val (wg rfl rfl rfl) rfl (fun _ _ h1 h2 => run_move (h1.ev rfl)) ?_
   refine Tr.val (wg rfl rfl rfl) rfl (fun _ _ h1 h2 => run_move (h1.ev rfl)) ?_
   refine Tr.val (wg rfl rfl rfl) rfl (fun _ _ h1 h2 => zA8 (h1.ev rfl) (h1.ev rfl)) ?_
   refine Tr.va rfl (fun _ _ h1 h2 => ze (h1.ev rfl) (h1.ev rfl)) ?_
   exact Tr.nil (Tr.Qo (.cons rfl .nil) .nil)
 ·show Tr _ _ (LF [(14, (.bool ((decide (p1 ≤ p0)) && (decide (p0 ≤ p2)))))]) (LE []) _
  refine Tr.asg rfl rfl (Tr.nil (Tr.zA (Tr.ret ?_)))
  obtain rfl := Option.some.inj H
  exact Tr.out (m := [(.bool ((decide (p1 ≤ p0)) && (decide (p0 ≤ p2))))]) [] (zP rfl zQ) (fun W hW => ⟨rfl, hW.low leB⟩)

theorem F_plot_IsName_ok (N : Nat) {w : Bs} (p0 : ByteArray) (r : Bool) (H : Vk N p0 = some r) (hE : HF w w.W E0) : Calls Tryz.prog 71 [(sv p0)].toArray w.W fun e W' => e = .returned (.bool r) ∧ HF w W' E0 := by
 unfold Vk at H
 have leB := Bs.Le.refl w
 refine Tr.enter (n := 59) Tryz.func71 rfl rfl rfl hE ?_
 refine Tr.sr (Tr.asg rfl rfl (Tr.nil (Tr.zA (Tr.seq (Tr.sr (Tr.mv rfl rfl (Tr.va rfl (fun _ _ h1 h2 => run_lenS un_9 (h1.ev rfl)) ?_)))))))
 refine Tr.mv rfl rfl (Tr.nil (Tr.zA (Tr.block (Tr.loop (σ := Int) (fun m w s => Ve p0 m s = some r) (fun s => [(0, (sv p0)), (7, (iv (p0.size : Int))), (8, (iv s))]) (fun s => []) N 0 H (.cons rfl (.cons rfl (.cons rfl .nil))) .nil (fun _ _ h => zAi (h)) ?_))))
 intro w QW mL1 x105 hs
 have H := hs
 replace H : Ve p0 (mL1 + 1) x105 = some r := H
 replace leB := leB.trans QW
 rw [Ve.eq_2] at H
 show Tr _ _ (LF [(0, (sv p0)), (7, (iv (p0.size : Int))), (8, (iv x105))]) (LE []) _
 refine Tr.sr (Tr.va rfl (fun _ _ h1 h2 => zz (h1.ev rfl) (h1.ev rfl)) ?_)
 refine Tr.nil (Tr.zA (Tr.seq (Tr.cond rfl H (fun H => ?_) (fun H => ?_))))
 ·refine Tr.skip (Tr.zA (Tr.seq (Tr.block (Tr.sr (Tr.mv rfl rfl (Tr.asg rfl rfl (Tr.nil (Tr.zA (Tr.sr (Tr.mv rfl rfl ?_))))))))))
  refine Tr.mv rfl rfl ?_
  obtain ⟨c106, hc106, H⟩ := bnd H
  refine Tr.va rfl (fun _ _ h1 h2 => run_indexS un_9 (h1.ev rfl) (h1.ev rfl) hc106) ?_
  refine Tr.asg rfl rfl (Tr.nil (Tr.zA (Tr.sr (Tr.mv rfl rfl (Tr.va rfl (fun _ _ h1 h2 => zEU (h1.ev rfl) (h1.ev rfl)) ?_)))))
  refine Tr.mv rfl rfl (Tr.VR 3 [(0, (sv p0)), (3, (iv x105)), (4, (.int .u8 c106)), (7, (iv (p0.size : Int))), (8, (iv x105)), (19, (.bool ((decide (97 ≤ c106)) && (decide (c106 ≤ 122)))))] [] ?_ ?_)
  ·cases zDH : (decide (97 ≤ c106))
   ·refine Tr.pass rfl rfl rfl rfl rfl (by decide) ?_
    refine Tr.pass rfl rfl rfl rfl rfl (by decide) ?_
    refine Tr.va rfl (fun _ _ h1 h2 => zf (h1.ev rfl) (h1.ev rfl)) ?_
    exact Tr.nil (Tr.Qo (.cons rfl (.cons rfl (.cons rfl (.cons rfl (.cons rfl (.cons rfl .nil)))))) .nil)
   ·refine Tr.val (wg rfl rfl rfl) rfl (fun _ _ h1 h2 => run_move (h1.ev rfl)) ?_
    refine Tr.val (wg rfl rfl rfl) rfl (fun _ _ h1 h2 => zA8 (h1.ev rfl) (h1.ev rfl)) ?_
    refine Tr.va rfl (fun _ _ h1 h2 => ze (h1.ev rfl) (h1.ev rfl)) ?_
    exact Tr.nil (Tr.Qo (.cons rfl (.cons rfl (.cons rfl (.cons rfl (.cons rfl (.cons rfl .nil)))))) .nil)
  ·show Tr _ _ (LF [(0, (sv p0)), (3, (iv x105)), (4, (.int .u8 c106)), (7, (iv (p0.size : Int))), (8, (iv x105)), (19, (.bool ((decide (97 ≤ c106)) && (decide (c106 ≤ 122)))))]) (LE []) _
   refine Tr.mv rfl rfl (Tr.VR 7 [(0, (sv p0)), (3, (iv x105)), (4, (.int .u8 c106)), (7, (iv (p0.size : Int))), (8, (iv x105)), (27, (.bool (((decide (97 ≤ c106)) && (decide (c106 ≤ 122))) || ((decide (65 ≤ c106)) && (decide (c106 ≤ 90))))))] [] ?_ ?_)
   ·cases zDH : ((decide (97 ≤ c106)) && (decide (c106 ≤ 122)))
    ·refine Tr.val (wg rfl rfl rfl) rfl (fun _ _ h1 h2 => run_move (h1.ev rfl)) ?_
     refine Tr.val (wg rfl rfl rfl) rfl (fun _ _ h1 h2 => zEU (h1.ev rfl) (h1.ev rfl)) ?_
     refine Tr.val (wg rfl rfl rfl) rfl (fun _ _ h1 h2 => run_move (h1.ev rfl)) ?_
     refine Tr.VR 3 [(0, (sv p0)), (3, (iv x105)), (4, (.int .u8 c106)), (7, (iv (p0.size : Int))), (8, (iv x105)), (20, (.bool false)), (26, (.bool ((decide (65 ≤ c106)) && (decide (c106 ≤ 90)))))] [] ?_ ?_
     ·cases zDH : (decide (65 ≤ c106))
      ·refine Tr.pass rfl rfl rfl rfl rfl (by decide) ?_
       refine Tr.pass rfl rfl rfl rfl rfl (by decide) ?_
       refine Tr.val (wg rfl rfl rfl) rfl (fun _ _ h1 h2 => zf (h1.ev rfl) (h1.ev rfl)) ?_
       exact Tr.nil (Tr.Qo (.cons rfl (.cons rfl (.cons rfl (.cons rfl (.cons rfl (.cons rfl (.cons rfl .nil))))))) .nil)
      ·refine Tr.val (wg rfl rfl rfl) rfl (fun _ _ h1 h2 => run_move (h1.ev rfl)) ?_
       refine Tr.val (wg rfl rfl rfl) rfl (fun _ _ h1 h2 => zA8 (h1.ev rfl) (h1.ev rfl)) ?_
       refine Tr.val (wg rfl rfl rfl) rfl (fun _ _ h1 h2 => ze (h1.ev rfl) (h1.ev rfl)) ?_
       exact Tr.nil (Tr.Qo (.cons rfl (.cons rfl (.cons rfl (.cons rfl (.cons rfl (.cons rfl (.cons rfl .nil))))))) .nil)
     ·show Tr _ _ (LF [(0, (sv p0)), (3, (iv x105)), (4, (.int .u8 c106)), (7, (iv (p0.size : Int))), (8, (iv x105)), (20, (.bool false)), (26, (.bool ((decide (65 ≤ c106)) && (decide (c106 ≤ 90)))))]) (LE []) _
      refine Tr.va rfl (fun _ _ h1 h2 => zf (h1.ev rfl) (h1.ev rfl)) ?_
      exact Tr.nil (Tr.Qo (.cons rfl (.cons rfl (.cons rfl (.cons rfl (.cons rfl (.cons rfl .nil)))))) .nil)
    ·refine Tr.pass rfl rfl rfl rfl rfl (by decide) ?_
     refine Tr.pass rfl rfl rfl rfl rfl (by decide) ?_
     refine Tr.pass rfl rfl rfl rfl rfl (by decide) ?_
     refine Tr.VV rfl rfl rfl rfl (by decide) ?_
     refine Tr.VV rfl rfl rfl rfl (by decide) ?_
     refine Tr.pass rfl rfl rfl rfl rfl (by decide) ?_
     refine Tr.va rfl (fun _ _ h1 h2 => ze (h1.ev rfl) (h1.ev rfl)) ?_
     exact Tr.nil (Tr.Qo (.cons rfl (.cons rfl (.cons rfl (.cons rfl (.cons rfl (.cons rfl .nil)))))) .nil)
   ·show Tr _ _ (LF [(0, (sv p0)), (3, (iv x105)), (4, (.int .u8 c106)), (7, (iv (p0.size : Int))), (8, (iv x105)), (27, (.bool (((decide (97 ≤ c106)) && (decide (c106 ≤ 122))) || ((decide (65 ≤ c106)) && (decide (c106 ≤ 90))))))]) (LE []) _
    refine Tr.asg rfl rfl (Tr.nil (Tr.zA (Tr.sr (Tr.mv rfl rfl (Tr.va rfl (fun _ _ h1 h2 => JO (h1.ev rfl)) ?_)))))
    refine Tr.mv rfl rfl (Tr.VR 19 [(0, (sv p0)), (7, (iv (p0.size : Int))), (8, (iv x105)), (49, (.bool ((!(((decide (97 ≤ c106)) && (decide (c106 ≤ 122))) || ((decide (65 ≤ c106)) && (decide (c106 ≤ 90))))) && ((x105 == 0) || ((((decide (c106 < 48)) || (decide (57 < c106))) && (c106 != 95)) && (c106 != 45))))))] [] ?_ ?_)
    ·cases zDH : (!(((decide (97 ≤ c106)) && (decide (c106 ≤ 122))) || ((decide (65 ≤ c106)) && (decide (c106 ≤ 90)))))
     ·refine Tr.pass rfl rfl rfl rfl rfl (by decide) ?_
      refine Tr.pass rfl rfl rfl rfl rfl (by decide) ?_
      refine Tr.pass rfl rfl rfl rfl rfl (by decide) ?_
      refine Tr.VV rfl rfl rfl rfl (by decide) ?_
      refine Tr.VV rfl rfl rfl rfl (by decide) ?_
      refine Tr.VV rfl rfl rfl rfl (by decide) ?_
      refine Tr.VV rfl rfl rfl rfl (by decide) ?_
      refine Tr.VV rfl rfl rfl rfl (by decide) ?_
      refine Tr.VV rfl rfl rfl rfl (by decide) ?_
      refine Tr.VV rfl rfl rfl rfl (by decide) ?_
      refine Tr.VV rfl rfl rfl rfl (by decide) ?_
      refine Tr.VV rfl rfl rfl rfl (by decide) ?_
      refine Tr.VV rfl rfl rfl rfl (by decide) ?_
      refine Tr.VV rfl rfl rfl rfl (by decide) ?_
      refine Tr.VV rfl rfl rfl rfl (by decide) ?_
      refine Tr.VV rfl rfl rfl rfl (by decide) ?_
      refine Tr.VV rfl rfl rfl rfl (by decide) ?_
      refine Tr.pass rfl rfl rfl rfl rfl (by decide) ?_
      refine Tr.va rfl (fun _ _ h1 h2 => zf (h1.ev rfl) (h1.ev rfl)) ?_
      exact Tr.nil (Tr.Qo (.cons rfl (.cons rfl (.cons rfl (.cons rfl .nil)))) .nil)
     ·refine Tr.val (wg rfl rfl rfl) rfl (fun _ _ h1 h2 => run_move (h1.ev rfl)) ?_
      refine Tr.val (wg rfl rfl rfl) rfl (fun _ _ h1 h2 => Qk (h1.ev rfl) (h1.ev rfl)) ?_
      refine Tr.val (wg rfl rfl rfl) rfl (fun _ _ h1 h2 => run_move (h1.ev rfl)) ?_
      refine Tr.VR 15 [(0, (sv p0)), (7, (iv (p0.size : Int))), (8, (iv x105)), (30, (.bool true)), (48, (.bool ((x105 == 0) || ((((decide (c106 < 48)) || (decide (57 < c106))) && (c106 != 95)) && (c106 != 45)))))] [] ?_ ?_
      ·cases zDH : (x105 == 0)
       ·refine Tr.val (wg rfl rfl rfl) rfl (fun _ _ h1 h2 => run_move (h1.ev rfl)) ?_
        refine Tr.val (wg rfl rfl rfl) rfl (fun _ _ h1 h2 => zz (h1.ev rfl) (h1.ev rfl)) ?_
        refine Tr.val (wg rfl rfl rfl) rfl (fun _ _ h1 h2 => run_move (h1.ev rfl)) ?_
        refine Tr.VR 3 [(0, (sv p0)), (4, (.int .u8 c106)), (7, (iv (p0.size : Int))), (8, (iv x105)), (30, (.bool true)), (33, (.bool false)), (39, (.bool ((decide (c106 < 48)) || (decide (57 < c106)))))] [] ?_ ?_
        ·cases zDH : (decide (c106 < 48))
         ·refine Tr.val (wg rfl rfl rfl) rfl (fun _ _ h1 h2 => run_move (h1.ev rfl)) ?_
          refine Tr.val (wg rfl rfl rfl) rfl (fun _ _ h1 h2 => VI (h1.ev rfl) (h1.ev rfl)) ?_
          refine Tr.val (wg rfl rfl rfl) rfl (fun _ _ h1 h2 => zf (h1.ev rfl) (h1.ev rfl)) ?_
          exact Tr.nil (Tr.Qo (.cons rfl (.cons rfl (.cons rfl (.cons rfl (.cons rfl (.cons rfl (.cons rfl .nil))))))) .nil)
         ·refine Tr.pass rfl rfl rfl rfl rfl (by decide) ?_
          refine Tr.pass rfl rfl rfl rfl rfl (by decide) ?_
          refine Tr.val (wg rfl rfl rfl) rfl (fun _ _ h1 h2 => ze (h1.ev rfl) (h1.ev rfl)) ?_
          exact Tr.nil (Tr.Qo (.cons rfl (.cons rfl (.cons rfl (.cons rfl (.cons rfl (.cons rfl (.cons rfl .nil))))))) .nil)
        ·show Tr _ _ (LF [(0, (sv p0)), (4, (.int .u8 c106)), (7, (iv (p0.size : Int))), (8, (iv x105)), (30, (.bool true)), (33, (.bool false)), (39, (.bool ((decide (c106 < 48)) || (decide (57 < c106)))))]) (LE []) _
         refine Tr.val (wg rfl rfl rfl) rfl (fun _ _ h1 h2 => run_move (h1.ev rfl)) ?_
         refine Tr.VR 3 [(0, (sv p0)), (4, (.int .u8 c106)), (7, (iv (p0.size : Int))), (8, (iv x105)), (30, (.bool true)), (33, (.bool false)), (43, (.bool (((decide (c106 < 48)) || (decide (57 < c106))) && (c106 != 95))))] [] ?_ ?_
         ·cases zDH : ((decide (c106 < 48)) || (decide (57 < c106)))
          ·refine Tr.pass rfl rfl rfl rfl rfl (by decide) ?_
           refine Tr.pass rfl rfl rfl rfl rfl (by decide) ?_
           refine Tr.val (wg rfl rfl rfl) rfl (fun _ _ h1 h2 => zf (h1.ev rfl) (h1.ev rfl)) ?_
           exact Tr.nil (Tr.Qo (.cons rfl (.cons rfl (.cons rfl (.cons rfl (.cons rfl (.cons rfl (.cons rfl .nil))))))) .nil)
          ·refine Tr.val (wg rfl rfl rfl) rfl (fun _ _ h1 h2 => run_move (h1.ev rfl)) ?_
           refine Tr.val (wg rfl rfl rfl) rfl (fun _ _ h1 h2 => Jv (h1.ev rfl) (h1.ev rfl)) ?_
           refine Tr.val (wg rfl rfl rfl) rfl (fun _ _ h1 h2 => ze (h1.ev rfl) (h1.ev rfl)) ?_
           exact Tr.nil (Tr.Qo (.cons rfl (.cons rfl (.cons rfl (.cons rfl (.cons rfl (.cons rfl (.cons rfl .nil))))))) .nil)
         ·show Tr _ _ (LF [(0, (sv p0)), (4, (.int .u8 c106)), (7, (iv (p0.size : Int))), (8, (iv x105)), (30, (.bool true)), (33, (.bool false)), (43, (.bool (((decide (c106 < 48)) || (decide (57 < c106))) && (c106 != 95))))]) (LE []) _
          refine Tr.val (wg rfl rfl rfl) rfl (fun _ _ h1 h2 => run_move (h1.ev rfl)) ?_
          refine Tr.VR 3 [(0, (sv p0)), (7, (iv (p0.size : Int))), (8, (iv x105)), (30, (.bool true)), (33, (.bool false)), (47, (.bool ((((decide (c106 < 48)) || (decide (57 < c106))) && (c106 != 95)) && (c106 != 45))))] [] ?_ ?_
          ·cases zDH : (((decide (c106 < 48)) || (decide (57 < c106))) && (c106 != 95))
           ·refine Tr.pass rfl rfl rfl rfl rfl (by decide) ?_
            refine Tr.pass rfl rfl rfl rfl rfl (by decide) ?_
            refine Tr.val (wg rfl rfl rfl) rfl (fun _ _ h1 h2 => zf (h1.ev rfl) (h1.ev rfl)) ?_
            exact Tr.nil (Tr.Qo (.cons rfl (.cons rfl (.cons rfl (.cons rfl (.cons rfl (.cons rfl .nil)))))) .nil)
           ·refine Tr.val (wg rfl rfl rfl) rfl (fun _ _ h1 h2 => run_move (h1.ev rfl)) ?_
            refine Tr.val (wg rfl rfl rfl) rfl (fun _ _ h1 h2 => Jv (h1.ev rfl) (h1.ev rfl)) ?_
            refine Tr.val (wg rfl rfl rfl) rfl (fun _ _ h1 h2 => ze (h1.ev rfl) (h1.ev rfl)) ?_
            exact Tr.nil (Tr.Qo (.cons rfl (.cons rfl (.cons rfl (.cons rfl (.cons rfl (.cons rfl .nil)))))) .nil)
          ·show Tr _ _ (LF [(0, (sv p0)), (7, (iv (p0.size : Int))), (8, (iv x105)), (30, (.bool true)), (33, (.bool false)), (47, (.bool ((((decide (c106 < 48)) || (decide (57 < c106))) && (c106 != 95)) && (c106 != 45))))]) (LE []) _
           refine Tr.val (wg rfl rfl rfl) rfl (fun _ _ h1 h2 => zf (h1.ev rfl) (h1.ev rfl)) ?_
           exact Tr.nil (Tr.Qo (.cons rfl (.cons rfl (.cons rfl (.cons rfl (.cons rfl .nil))))) .nil)
       ·refine Tr.pass rfl rfl rfl rfl rfl (by decide) ?_
        refine Tr.pass rfl rfl rfl rfl rfl (by decide) ?_
        refine Tr.pass rfl rfl rfl rfl rfl (by decide) ?_
        refine Tr.VV rfl rfl rfl rfl (by decide) ?_
        refine Tr.VV rfl rfl rfl rfl (by decide) ?_
        refine Tr.pass rfl rfl rfl rfl rfl (by decide) ?_
        refine Tr.pass rfl rfl rfl rfl rfl (by decide) ?_
        refine Tr.VV rfl rfl rfl rfl (by decide) ?_
        refine Tr.VV rfl rfl rfl rfl (by decide) ?_
        refine Tr.pass rfl rfl rfl rfl rfl (by decide) ?_
        refine Tr.pass rfl rfl rfl rfl rfl (by decide) ?_
        refine Tr.VV rfl rfl rfl rfl (by decide) ?_
        refine Tr.VV rfl rfl rfl rfl (by decide) ?_
        refine Tr.pass rfl rfl rfl rfl rfl (by decide) ?_
        refine Tr.val (wg rfl rfl rfl) rfl (fun _ _ h1 h2 => ze (h1.ev rfl) (h1.ev rfl)) ?_
        exact Tr.nil (Tr.Qo (.cons rfl (.cons rfl (.cons rfl (.cons rfl (.cons rfl .nil))))) .nil)
      ·show Tr _ _ (LF [(0, (sv p0)), (7, (iv (p0.size : Int))), (8, (iv x105)), (30, (.bool true)), (48, (.bool ((x105 == 0) || ((((decide (c106 < 48)) || (decide (57 < c106))) && (c106 != 95)) && (c106 != 45)))))]) (LE []) _
       refine Tr.va rfl (fun _ _ h1 h2 => ze (h1.ev rfl) (h1.ev rfl)) ?_
       exact Tr.nil (Tr.Qo (.cons rfl (.cons rfl (.cons rfl (.cons rfl .nil)))) .nil)
    ·show Tr _ _ (LF [(0, (sv p0)), (7, (iv (p0.size : Int))), (8, (iv x105)), (49, (.bool ((!(((decide (97 ≤ c106)) && (decide (c106 ≤ 122))) || ((decide (65 ≤ c106)) && (decide (c106 ≤ 90))))) && ((x105 == 0) || ((((decide (c106 < 48)) || (decide (57 < c106))) && (c106 != 95)) && (c106 != 45))))))]) (LE []) _
     refine Tr.nil (Tr.zA (Tr.cond rfl H (fun H => ?_) (fun H => ?_)))
     ·refine Tr.sr (Tr.asg rfl rfl (Tr.nil (Tr.zA (Tr.ret (Tr.zAB (Tr.zU (Tr.zU (Tr.zAB (Tr.zU ?_)))))))))
      obtain rfl := Option.some.inj H
      exact Tr.out (m := [(.bool false)]) [] (zP rfl zQ) (fun W hW => ⟨rfl, hW.low leB⟩)
     ·refine Tr.skip (Tr.zW (Tr.zA ?_))
      refine Tr.region (Tr.va rfl (fun _ _ h1 h2 => zx (h1.ev rfl) (h1.ev rfl)) ?_)
      exact Tr.mv rfl rfl (Tr.nil (Tr.zZ QW (w64 (x105 + 1)) H (.cons rfl (.cons rfl (.cons rfl .nil))) .nil))
 ·refine Tr.exit (Tr.zX (Tr.zX (Tr.zAC (Tr.zA (Tr.sr (Tr.mv rfl rfl (Tr.va rfl (fun _ _ h1 h2 => run_lenS un_9 (h1.ev rfl)) ?_)))))))
  refine Tr.va rfl (fun _ _ h1 h2 => zEU (h1.ev rfl) (h1.ev rfl)) ?_
  refine Tr.mv rfl rfl (Tr.VR 4 [(58, (.bool ((decide (1 ≤ (p0.size : Int))) && (decide ((p0.size : Int) ≤ 40)))))] [] ?_ ?_)
  ·cases zDH : (decide (1 ≤ (p0.size : Int)))
   ·refine Tr.pass rfl rfl rfl rfl rfl (by decide) ?_
    refine Tr.pass rfl rfl rfl rfl rfl (by decide) ?_
    refine Tr.pass rfl rfl rfl rfl rfl (by decide) ?_
    refine Tr.va rfl (fun _ _ h1 h2 => zf (h1.ev rfl) (h1.ev rfl)) ?_
    exact Tr.nil (Tr.Qo (.cons rfl .nil) .nil)
   ·refine Tr.val (wg rfl rfl rfl) rfl (fun _ _ h1 h2 => run_move (h1.ev rfl)) ?_
    refine Tr.val (wg rfl rfl rfl) rfl (fun _ _ h1 h2 => run_lenS un_9 (h1.ev rfl)) ?_
    refine Tr.val (wg rfl rfl rfl) rfl (fun _ _ h1 h2 => zA8 (h1.ev rfl) (h1.ev rfl)) ?_
    refine Tr.va rfl (fun _ _ h1 h2 => ze (h1.ev rfl) (h1.ev rfl)) ?_
    exact Tr.nil (Tr.Qo (.cons rfl .nil) .nil)
  ·show Tr _ _ (LF [(58, (.bool ((decide (1 ≤ (p0.size : Int))) && (decide ((p0.size : Int) ≤ 40)))))]) (LE []) _
   refine Tr.asg rfl rfl (Tr.nil (Tr.zA (Tr.ret ?_)))
   obtain rfl := Option.some.inj H
   exact Tr.out (m := [(.bool ((decide (1 ≤ (p0.size : Int))) && (decide ((p0.size : Int) ≤ 40))))]) [] (zP rfl zQ) (fun W hW => ⟨rfl, hW.low leB⟩)

theorem zAt {w : Bs} (p0 : Int) (p1 : Int) (r : Bool) (H : WW p0 p1 = some r) (hE : HF w w.W E0) : Calls Tryz.prog 72 [(iv p0), (iv p1)].toArray w.W fun e W' => e = .returned (.bool r) ∧ HF w W' E0 := by
 unfold WW at H
 have leB := Bs.Le.refl w
 refine Tr.enter (n := 11) Tryz.func72 rfl rfl rfl hE ?_
 refine Tr.sr (Tr.asg rfl rfl (Tr.nil (Tr.zA (Tr.seq (Tr.draw (by kernel_rfl) (by kernel_rfl) ?_)))))
 refine Tq.mv rfl rfl (Tq.mv rfl rfl ?_)
 obtain ⟨q100, hq100, H⟩ := bnd H
 refine Tq.va rfl (fun _ _ h1 h2 => run_dv (h1.ev rfl) (h1.ev rfl) hq100) ?_
 refine Tq.mv rfl rfl ?_
 obtain ⟨q101, hq101, H⟩ := bnd H
 refine Tq.va rfl (fun _ _ h1 h2 => run_dv (h1.ev rfl) (h1.ev rfl) hq101) ?_
 obtain ⟨y102, hy102, H⟩ := bnd H
 refine Tq.Qp (r := (.bool y102)) (wn rfl) rfl Tryz.call22 (zF rfl (zF rfl (zF rfl zO))) (fun W hW => Vb p0 q100 q101 y102 hy102 (HF.start _)) ?_
 refine Tq.asg rfl rfl (Tq.nil (Tr.zA (Tr.ret ?_)))
 obtain rfl := Option.some.inj H
 exact Tr.out (m := [(.bool y102)]) [] (zP rfl zQ) (fun W hW => ⟨rfl, hW.low leB⟩)

theorem zI5 (N : Nat) {w : Bs} (p0 : zS) (QA : Option Addr) (QB : Nat) (QE : Sl w.R w.W zN QA QB p0.Rects) (p1 : Int) (r : Int) (H : zAu N p0 p1 = some r) (hE : HF w w.W E0) : Calls Tryz.prog 41 [(.agg #[(sv p0.Name), (.slice QA p0.Rects.length QB)]), (iv p1)].toArray w.W fun e W' => e = .returned (iv r) ∧ HF w W' E0 := by
 unfold zAu at H
 have leB := Bs.Le.refl w
 refine Tr.enter (n := 65) Tryz.func41 rfl rfl rfl hE ?_
 refine Tr.sr (Tr.box 1 (cs := [(sv p0.Name), (.slice QA p0.Rects.length QB)]) (wn rfl) rfl rfl rfl fun QM => ?_)
 refine Tr.asg rfl rfl (Tr.nil (Tr.zA (Tr.seq (Tr.sr (Tr.va rfl (fun _ _ h1 h2 => zB zGt (h1.ev rfl)) ?_)))))
 refine Tr.va rfl (fun _ _ h1 h2 => zC zKX (h1.ev rfl) (rdb h2 (vs := [(sv p0.Name), (.slice QA p0.Rects.length QB)]) (k := 1) rfl 0) rfl) ?_
 obtain ⟨y101, hy101, H⟩ := bnd H
 refine Tr.Qp (r := (.bool y101)) (wn rfl) rfl Tryz.call71 (zF rfl zO) (fun W hW => F_plot_IsName_ok N p0.Name y101 hy101 (HF.start _)) ?_
 refine Tr.va rfl (fun _ _ h1 h2 => JO (h1.ev rfl)) ?_
 refine Tr.nil (Tr.zA (Tr.cond rfl H (fun H => ?_) (fun H => ?_)))
 ·refine Tr.sr (Tr.asg rfl rfl (Tr.nil (Tr.zA (Tr.ret (Tr.zU ?_)))))
  obtain rfl := Option.some.inj H
  exact Tr.out (m := [(iv 5)]) [] (zP rfl zQ) (fun W hW => ⟨rfl, hW.low leB⟩)
 ·refine Tr.skip (Tr.zA (Tr.seq (Tr.sr (Tr.va rfl (fun _ _ h1 h2 => zB zC0 (h1.ev rfl)) ?_))))
  refine Tr.va rfl (fun _ _ h1 h2 => zC zJG (h1.ev rfl) (rdb h2 (vs := [(sv p0.Name), (.slice QA p0.Rects.length QB)]) (k := 1) rfl 1) rfl) ?_
  refine Tr.va rfl (fun _ _ h1 h2 => zq zA0 (h1.ev rfl)) ?_
  refine Tr.va rfl (fun _ _ h1 h2 => Qk (h1.ev rfl) (h1.ev rfl)) ?_
  refine Tr.nil (Tr.zA (Tr.cond rfl H (fun H => ?_) (fun H => ?_)))
  ·refine Tr.sr (Tr.asg rfl rfl (Tr.nil (Tr.zA (Tr.ret (Tr.zU ?_)))))
   obtain rfl := Option.some.inj H
   exact Tr.out (m := [(iv 9)]) [] (zP rfl zQ) (fun W hW => ⟨rfl, hW.low leB⟩)
  ·refine Tr.skip (Tr.zA (Tr.seq (Tr.sr (Tr.va rfl (fun _ _ h1 h2 => zB zC0 (h1.ev rfl)) ?_))))
   refine Tr.va rfl (fun _ _ h1 h2 => zC zJG (h1.ev rfl) (rdb h2 (vs := [(sv p0.Name), (.slice QA p0.Rects.length QB)]) (k := 1) rfl 1) rfl) ?_
   refine Tr.va rfl (fun _ _ h1 h2 => zq zA0 (h1.ev rfl)) ?_
   refine Tr.va rfl (fun _ _ h1 h2 => VI (h1.ev rfl) (h1.ev rfl)) ?_
   refine Tr.nil (Tr.zA (Tr.cond rfl H (fun H => ?_) (fun H => ?_)))
   ·refine Tr.sr (Tr.asg rfl rfl (Tr.nil (Tr.zA (Tr.ret (Tr.zU ?_)))))
    obtain rfl := Option.some.inj H
    exact Tr.out (m := [(iv 2)]) [] (zP rfl zQ) (fun W hW => ⟨rfl, hW.low leB⟩)
   ·refine Tr.skip (Tr.zA (Tr.seq (Tr.sr (Tr.va rfl (fun _ _ h1 h2 => zB zC0 (h1.ev rfl)) ?_))))
    refine Tr.va rfl (fun _ _ h1 h2 => zC zJG (h1.ev rfl) (rdb h2 (vs := [(sv p0.Name), (.slice QA p0.Rects.length QB)]) (k := 1) rfl 1) rfl) ?_
    refine Tr.va rfl (fun _ _ h1 h2 => zq zA0 (h1.ev rfl)) ?_
    refine Tr.mv rfl rfl (Tr.nil (Tr.zA (Tr.block (Tr.loop (σ := (List zT) × Nat) (fun m w s => m = s.1.length + 1 ∧ s.1 = List.drop s.2 p0.Rects ∧ s.2 ≤ p0.Rects.length ∧ KC p1 s.1 s.2 = some r) (fun s => [(1, (iv p1)), (20, (.slice QA p0.Rects.length QB)), (21, (iv (p0.Rects.length : Int))), (22, (iv (s.2 : Int)))]) (fun s => []) (p0.Rects.length + 1) (p0.Rects, 0) ⟨rfl, rfl, Nat.zero_le _, H⟩ (.cons rfl (.cons rfl (.cons rfl (.cons rfl .nil)))) .nil (fun _ _ h => absurd h.1 (by simp)) ?_))))
    intro w QW m s hs
    obtain ⟨QF, iL1⟩ := s
    obtain ⟨KJ, QP, hiL1, H⟩ := hs
    replace QP : QF = List.drop iL1 p0.Rects := QP
    replace H : KC p1 QF iL1 = some r := H
    replace KJ : m + 1 = QF.length + 1 := KJ
    replace QE := QE.leR QW
    replace leB := leB.trans QW
    obtain rfl : m = QF.length := by omega
    clear KJ
    show Tr _ _ (LF [(1, (iv p1)), (20, (.slice QA p0.Rects.length QB)), (21, (iv (p0.Rects.length : Int))), (22, (iv (iL1 : Int)))]) (LE []) _
    cases QF with
    | nil =>
     rw [KC.eq_1] at H
     refine Tr.sr (Tr.va rfl (fun _ _ h1 h2 => zz (h1.ev rfl) (h1.ev rfl)) ?_)
     refine Tr.nil (Tr.zA (Tr.seq (Tr.WJ rfl (Qy QP) ?_)))
     refine Tr.exit (Tr.zX (Tr.zX (Tr.zAC (Tr.zA (Tr.sr (Tr.asg rfl rfl (Tr.nil (Tr.zA (Tr.ret ?_)))))))))
     obtain rfl := Option.some.inj H
     exact Tr.out (m := [(iv 0)]) [] (zP rfl zQ) (fun W hW => ⟨rfl, hW.low leB⟩)
    | cons xL1 QF =>
     rw [KC.eq_2] at H
     refine Tr.sr (Tr.va rfl (fun _ _ h1 h2 => zz (h1.ev rfl) (h1.ev rfl)) ?_)
     refine Tr.nil (Tr.zA (Tr.seq (Tr.WI rfl (Jg QP) ?_)))
     refine Tr.skip (Tr.zA (Tr.seq (Tr.block (Tr.sr (Tr.va rfl (fun _ _ h1 h2 => zH zCR (h1.ev rfl) QE.form (h1.ev rfl) (Int.natCast_nonneg _) (zo QP)) ?_)))))
     refine Tr.va rfl (fun _ _ h1 h2 => zR (cs := [(iv xL1.X0), (iv xL1.Y0), (iv xL1.X1), (iv xL1.Y1)]) zCD Kv (h1.ev rfl) (zL.take (rdF VM QE (Js QP) h2) 4) rfl) ?_
     refine Tr.alloc 3 (wn rfl) rfl zF7 fun zJc => ?_
     refine Tr.store 3 (cs := [(iv xL1.X0), (iv xL1.Y0), (iv xL1.X1), (iv xL1.Y1)]) [(iv xL1.X0), (iv xL1.Y0), (iv xL1.X1), (iv xL1.Y1)] (wn rfl) rfl rfl rfl rfl Kv rfl rfl rfl ?_
     refine Tr.nil (Tr.zA (Tr.seq (Tr.sr (Tr.va rfl (fun _ _ h1 h2 => zB Wz (h1.ev rfl)) ?_))))
     refine Tr.va rfl (fun _ _ h1 h2 => zC QO (h1.ev rfl) (rdb h2 (vs := [(iv xL1.X0), (iv xL1.Y0), (iv xL1.X1), (iv xL1.Y1)]) (k := 3) rfl 0) rfl) ?_
     refine Tr.mv rfl rfl ?_
     obtain ⟨zD7, hy116, H⟩ := bnd H
     refine Tr.Qp (r := (.bool zD7)) (wn rfl) rfl Tryz.call72 (zF rfl (zF rfl zO)) (fun W hW => zAt xL1.X0 p1 zD7 hy116 (HF.start _)) ?_
     refine Tr.va rfl (fun _ _ h1 h2 => JO (h1.ev rfl)) ?_
     refine Tr.mv rfl rfl ?_
     obtain ⟨g118, zGM, H⟩ := bnd H
     refine Tr.VR 6 [(1, (iv p1)), (6, (.pointer (some ⟨zJc, 0, none⟩))), (20, (.slice QA p0.Rects.length QB)), (21, (iv (p0.Rects.length : Int))), (22, (iv (iL1 : Int))), (37, (.bool g118))] [(3, bx zJc #[(iv xL1.X0), (iv xL1.Y0), (iv xL1.X1), (iv xL1.Y1)] 36)] ?_ ?_
     ·cases zKJ : (!zD7)
      ·rw [zKJ] at zGM
       rw [if_neg (by decide)] at zGM
       have H := zGM
       refine Tr.val (wg rfl rfl rfl) rfl (fun _ _ h1 h2 => zB zCa (h1.ev rfl)) ?_
       refine Tr.val (wg rfl rfl rfl) rfl (fun _ _ h1 h2 => zC QO (h1.ev rfl) (rdb h2 (vs := [(iv xL1.X0), (iv xL1.Y0), (iv xL1.X1), (iv xL1.Y1)]) (k := 3) rfl 1) rfl) ?_
       refine Tr.val (wg rfl rfl rfl) rfl (fun _ _ h1 h2 => run_move (h1.ev rfl)) ?_
       obtain ⟨y119, hy119, H⟩ := bnd H
       refine Tr.Qp (r := (.bool y119)) (wg rfl rfl rfl) rfl Tryz.call72 (zF rfl (zF rfl zO)) (fun W hW => zAt xL1.Y0 p1 y119 hy119 (HF.start _)) ?_
       refine Tr.val (wg rfl rfl rfl) rfl (fun _ _ h1 h2 => JO (h1.ev rfl)) ?_
       refine Tr.va rfl (fun _ _ h1 h2 => zf (h1.ev rfl) (h1.ev rfl)) ?_
       obtain rfl := Option.some.inj H
       exact Tr.nil (Tr.Qo (.cons rfl (.cons rfl (.cons rfl (.cons rfl (.cons rfl (.cons rfl .nil)))))) (.cons rfl .nil))
      ·rw [zKJ] at zGM
       rw [if_pos rfl] at zGM
       have H := zGM
       obtain rfl := Option.some.inj H
       refine Tr.pass rfl rfl rfl rfl rfl (by decide) ?_
       refine Tr.pass rfl rfl rfl rfl rfl (by decide) ?_
       refine Tr.pass rfl rfl rfl rfl rfl (by decide) ?_
       refine Tr.pass rfl rfl rfl rfl rfl (by decide) ?_
       refine Tr.pass rfl rfl rfl rfl rfl (by decide) ?_
       refine Tr.va rfl (fun _ _ h1 h2 => ze (h1.ev rfl) (h1.ev rfl)) ?_
       exact Tr.nil (Tr.Qo (.cons rfl (.cons rfl (.cons rfl (.cons rfl (.cons rfl (.cons rfl .nil)))))) (.cons rfl .nil))
     ·show Tr _ _ (LF [(1, (iv p1)), (6, (.pointer (some ⟨zJc, 0, none⟩))), (20, (.slice QA p0.Rects.length QB)), (21, (iv (p0.Rects.length : Int))), (22, (iv (iL1 : Int))), (37, (.bool g118))]) (LE [(3, bx zJc #[(iv xL1.X0), (iv xL1.Y0), (iv xL1.X1), (iv xL1.Y1)] 36)]) _
      refine Tr.mv rfl rfl ?_
      obtain ⟨g121, Vu, H⟩ := bnd H
      refine Tr.VR 6 [(1, (iv p1)), (6, (.pointer (some ⟨zJc, 0, none⟩))), (20, (.slice QA p0.Rects.length QB)), (21, (iv (p0.Rects.length : Int))), (22, (iv (iL1 : Int))), (44, (.bool g121))] [(3, bx zJc #[(iv xL1.X0), (iv xL1.Y0), (iv xL1.X1), (iv xL1.Y1)] 36)] ?_ ?_
      ·cases zKJ : g118
       ·rw [zKJ] at Vu
        rw [if_neg (by decide)] at Vu
        have H := Vu
        refine Tr.val (wg rfl rfl rfl) rfl (fun _ _ h1 h2 => zB zC2 (h1.ev rfl)) ?_
        refine Tr.val (wg rfl rfl rfl) rfl (fun _ _ h1 h2 => zC QO (h1.ev rfl) (rdb h2 (vs := [(iv xL1.X0), (iv xL1.Y0), (iv xL1.X1), (iv xL1.Y1)]) (k := 3) rfl 2) rfl) ?_
        refine Tr.val (wg rfl rfl rfl) rfl (fun _ _ h1 h2 => run_move (h1.ev rfl)) ?_
        obtain ⟨KH, hy122, H⟩ := bnd H
        refine Tr.Qp (r := (.bool KH)) (wg rfl rfl rfl) rfl Tryz.call72 (zF rfl (zF rfl zO)) (fun W hW => zAt xL1.X1 p1 KH hy122 (HF.start _)) ?_
        refine Tr.val (wg rfl rfl rfl) rfl (fun _ _ h1 h2 => JO (h1.ev rfl)) ?_
        refine Tr.va rfl (fun _ _ h1 h2 => zf (h1.ev rfl) (h1.ev rfl)) ?_
        obtain rfl := Option.some.inj H
        exact Tr.nil (Tr.Qo (.cons rfl (.cons rfl (.cons rfl (.cons rfl (.cons rfl (.cons rfl .nil)))))) (.cons rfl .nil))
       ·rw [zKJ] at Vu
        rw [if_pos rfl] at Vu
        have H := Vu
        obtain rfl := Option.some.inj H
        refine Tr.pass rfl rfl rfl rfl rfl (by decide) ?_
        refine Tr.pass rfl rfl rfl rfl rfl (by decide) ?_
        refine Tr.pass rfl rfl rfl rfl rfl (by decide) ?_
        refine Tr.pass rfl rfl rfl rfl rfl (by decide) ?_
        refine Tr.pass rfl rfl rfl rfl rfl (by decide) ?_
        refine Tr.va rfl (fun _ _ h1 h2 => ze (h1.ev rfl) (h1.ev rfl)) ?_
        exact Tr.nil (Tr.Qo (.cons rfl (.cons rfl (.cons rfl (.cons rfl (.cons rfl (.cons rfl .nil)))))) (.cons rfl .nil))
      ·show Tr _ _ (LF [(1, (iv p1)), (6, (.pointer (some ⟨zJc, 0, none⟩))), (20, (.slice QA p0.Rects.length QB)), (21, (iv (p0.Rects.length : Int))), (22, (iv (iL1 : Int))), (44, (.bool g121))]) (LE [(3, bx zJc #[(iv xL1.X0), (iv xL1.Y0), (iv xL1.X1), (iv xL1.Y1)] 36)]) _
       refine Tr.mv rfl rfl ?_
       obtain ⟨g124, hg124, H⟩ := bnd H
       refine Tr.VR 6 [(1, (iv p1)), (6, (.pointer (some ⟨zJc, 0, none⟩))), (20, (.slice QA p0.Rects.length QB)), (21, (iv (p0.Rects.length : Int))), (22, (iv (iL1 : Int))), (51, (.bool g124))] [(3, bx zJc #[(iv xL1.X0), (iv xL1.Y0), (iv xL1.X1), (iv xL1.Y1)] 36)] ?_ ?_
       ·cases zKJ : g121
        ·rw [zKJ] at hg124
         rw [if_neg (by decide)] at hg124
         have H := hg124
         refine Tr.val (wg rfl rfl rfl) rfl (fun _ _ h1 h2 => zB zDX (h1.ev rfl)) ?_
         refine Tr.val (wg rfl rfl rfl) rfl (fun _ _ h1 h2 => zC QO (h1.ev rfl) (rdb h2 (vs := [(iv xL1.X0), (iv xL1.Y0), (iv xL1.X1), (iv xL1.Y1)]) (k := 3) rfl 3) rfl) ?_
         refine Tr.val (wg rfl rfl rfl) rfl (fun _ _ h1 h2 => run_move (h1.ev rfl)) ?_
         obtain ⟨y125, hy125, H⟩ := bnd H
         refine Tr.Qp (r := (.bool y125)) (wg rfl rfl rfl) rfl Tryz.call72 (zF rfl (zF rfl zO)) (fun W hW => zAt xL1.Y1 p1 y125 hy125 (HF.start _)) ?_
         refine Tr.val (wg rfl rfl rfl) rfl (fun _ _ h1 h2 => JO (h1.ev rfl)) ?_
         refine Tr.va rfl (fun _ _ h1 h2 => zf (h1.ev rfl) (h1.ev rfl)) ?_
         obtain rfl := Option.some.inj H
         exact Tr.nil (Tr.Qo (.cons rfl (.cons rfl (.cons rfl (.cons rfl (.cons rfl (.cons rfl .nil)))))) (.cons rfl .nil))
        ·rw [zKJ] at hg124
         rw [if_pos rfl] at hg124
         have H := hg124
         obtain rfl := Option.some.inj H
         refine Tr.pass rfl rfl rfl rfl rfl (by decide) ?_
         refine Tr.pass rfl rfl rfl rfl rfl (by decide) ?_
         refine Tr.pass rfl rfl rfl rfl rfl (by decide) ?_
         refine Tr.pass rfl rfl rfl rfl rfl (by decide) ?_
         refine Tr.pass rfl rfl rfl rfl rfl (by decide) ?_
         refine Tr.va rfl (fun _ _ h1 h2 => ze (h1.ev rfl) (h1.ev rfl)) ?_
         exact Tr.nil (Tr.Qo (.cons rfl (.cons rfl (.cons rfl (.cons rfl (.cons rfl (.cons rfl .nil)))))) (.cons rfl .nil))
       ·show Tr _ _ (LF [(1, (iv p1)), (6, (.pointer (some ⟨zJc, 0, none⟩))), (20, (.slice QA p0.Rects.length QB)), (21, (iv (p0.Rects.length : Int))), (22, (iv (iL1 : Int))), (51, (.bool g124))]) (LE [(3, bx zJc #[(iv xL1.X0), (iv xL1.Y0), (iv xL1.X1), (iv xL1.Y1)] 36)]) _
        refine Tr.nil (Tr.zA (Tr.cond rfl H (fun H => ?_) (fun H => ?_)))
        ·refine Tr.sr (Tr.asg rfl rfl (Tr.nil (Tr.zA (Tr.ret (Tr.zU (Tr.zAB (Tr.zU (Tr.zU (Tr.zAB (Tr.zU ?_))))))))))
         obtain rfl := Option.some.inj H
         exact Tr.out (m := [(iv 1)]) [] (zP rfl zQ) (fun W hW => ⟨rfl, hW.low leB⟩)
        ·refine Tr.skip (Tr.zA (Tr.sr (Tr.va rfl (fun _ _ h1 h2 => zB zC2 (h1.ev rfl)) ?_)))
         refine Tr.va rfl (fun _ _ h1 h2 => zC QO (h1.ev rfl) (rdb h2 (vs := [(iv xL1.X0), (iv xL1.Y0), (iv xL1.X1), (iv xL1.Y1)]) (k := 3) rfl 2) rfl) ?_
         refine Tr.va rfl (fun _ _ h1 h2 => zB Wz (h1.ev rfl)) ?_
         refine Tr.va rfl (fun _ _ h1 h2 => zC QO (h1.ev rfl) (rdb h2 (vs := [(iv xL1.X0), (iv xL1.Y0), (iv xL1.X1), (iv xL1.Y1)]) (k := 3) rfl 0) rfl) ?_
         refine Tr.va rfl (fun _ _ h1 h2 => zA8 (h1.ev rfl) (h1.ev rfl)) ?_
         refine Tr.mv rfl rfl (Tr.VR 6 [(1, (iv p1)), (20, (.slice QA p0.Rects.length QB)), (21, (iv (p0.Rects.length : Int))), (22, (iv (iL1 : Int))), (63, (.bool ((decide (xL1.X1 ≤ xL1.X0)) || (decide (xL1.Y1 ≤ xL1.Y0)))))] [(3, bx zJc #[(iv xL1.X0), (iv xL1.Y0), (iv xL1.X1), (iv xL1.Y1)] 36)] ?_ ?_)
         ·cases zKJ : (decide (xL1.X1 ≤ xL1.X0))
          ·refine Tr.val (wg rfl rfl rfl) rfl (fun _ _ h1 h2 => zB zDX (h1.ev rfl)) ?_
           refine Tr.val (wg rfl rfl rfl) rfl (fun _ _ h1 h2 => zC QO (h1.ev rfl) (rdb h2 (vs := [(iv xL1.X0), (iv xL1.Y0), (iv xL1.X1), (iv xL1.Y1)]) (k := 3) rfl 3) rfl) ?_
           refine Tr.val (wg rfl rfl rfl) rfl (fun _ _ h1 h2 => zB zCa (h1.ev rfl)) ?_
           refine Tr.val (wg rfl rfl rfl) rfl (fun _ _ h1 h2 => zC QO (h1.ev rfl) (rdb h2 (vs := [(iv xL1.X0), (iv xL1.Y0), (iv xL1.X1), (iv xL1.Y1)]) (k := 3) rfl 1) rfl) ?_
           refine Tr.val (wg rfl rfl rfl) rfl (fun _ _ h1 h2 => zA8 (h1.ev rfl) (h1.ev rfl)) ?_
           refine Tr.va rfl (fun _ _ h1 h2 => zf (h1.ev rfl) (h1.ev rfl)) ?_
           exact Tr.nil (Tr.Qo (.cons rfl (.cons rfl (.cons rfl (.cons rfl (.cons rfl .nil))))) (.cons rfl .nil))
          ·refine Tr.pass rfl rfl rfl rfl rfl (by decide) ?_
           refine Tr.pass rfl rfl rfl rfl rfl (by decide) ?_
           refine Tr.pass rfl rfl rfl rfl rfl (by decide) ?_
           refine Tr.pass rfl rfl rfl rfl rfl (by decide) ?_
           refine Tr.pass rfl rfl rfl rfl rfl (by decide) ?_
           refine Tr.va rfl (fun _ _ h1 h2 => ze (h1.ev rfl) (h1.ev rfl)) ?_
           exact Tr.nil (Tr.Qo (.cons rfl (.cons rfl (.cons rfl (.cons rfl (.cons rfl .nil))))) (.cons rfl .nil))
         ·show Tr _ _ (LF [(1, (iv p1)), (20, (.slice QA p0.Rects.length QB)), (21, (iv (p0.Rects.length : Int))), (22, (iv (iL1 : Int))), (63, (.bool ((decide (xL1.X1 ≤ xL1.X0)) || (decide (xL1.Y1 ≤ xL1.Y0)))))]) (LE [(3, bx zJc #[(iv xL1.X0), (iv xL1.Y0), (iv xL1.X1), (iv xL1.Y1)] 36)]) _
          refine Tr.nil (Tr.zA (Tr.cond rfl H (fun H => ?_) (fun H => ?_)))
          ·refine Tr.sr (Tr.asg rfl rfl (Tr.nil (Tr.zA (Tr.ret (Tr.zAB (Tr.zU (Tr.zU (Tr.zAB (Tr.zU ?_)))))))))
           obtain rfl := Option.some.inj H
           exact Tr.out (m := [(iv 13)]) [] (zP rfl zQ) (fun W hW => ⟨rfl, hW.low leB⟩)
          ·refine Tr.skip (Tr.zW (Tr.zA ?_))
           refine Tr.region (Tr.va rfl (fun _ _ h1 h2 => zx (h1.ev rfl) (h1.ev rfl)) ?_)
           exact Tr.mv rfl rfl (Tr.nil (Tr.zZ QW (QF, (iL1 + 1)) ⟨rfl, Qg QP, zo QP, H⟩ (.cons rfl (.cons rfl (.cons rfl (.cons (congrArg (fun z => some (Value.int .i64 z)) (Qf QP QE.form)) .nil)))) .nil))

theorem zFp {w : Bs} (p0 : Int) (r : Int) (H : Wl p0 = some r) (hE : HF w w.W E0) : Calls Tryz.prog 95 [(iv p0)].toArray w.W fun e W' => e = .returned (iv r) ∧ HF w W' E0 := by
 unfold Wl at H
 have leB := Bs.Le.refl w
 refine Tr.enter (n := 6) Tryz.func95 rfl rfl rfl hE ?_
 refine Tr.sr (Tr.asg rfl rfl (Tr.nil (Tr.zA (Tr.seq (Tr.sr (Tr.mv rfl rfl ?_))))))
 obtain ⟨QT, zBp, H⟩ := bnd H
 refine Tr.Qp (r := (.bool QT)) (wn rfl) rfl Tryz.call22 (zF rfl (zF rfl (zF rfl zO))) (fun W hW => Vb p0 1 100 QT zBp (HF.start _)) ?_
 refine Tr.nil (Tr.zA (Tr.cond rfl H (fun H => ?_) (fun H => ?_)))
 ·refine Tr.sr (Tr.mv rfl rfl (Tr.asg rfl rfl (Tr.nil (Tr.zA (Tr.ret (Tr.zU ?_))))))
  obtain rfl := Option.some.inj H
  exact Tr.out (m := [(iv p0)]) [] (zP rfl zQ) (fun W hW => ⟨rfl, hW.low leB⟩)
 ·refine Tr.skip (Tr.zA (Tr.sr (Tr.asg rfl rfl (Tr.nil (Tr.zA (Tr.ret ?_))))))
  obtain rfl := Option.some.inj H
  exact Tr.out (m := [(iv 1)]) [] (zP rfl zQ) (fun W hW => ⟨rfl, hW.low leB⟩)

theorem F_plot_times_ok {w : Bs} (p0 : zD) (QA : Option Addr) (QB : Nat) (QE : Sl w.R w.W zy QA QB p0.Points) (QD : Option Addr) (QC : Nat) (QU : Sl w.R w.W zG QD QC p0.Steps) (r : Int) (H : zDB p0 = some r) (hE : HF w w.W E0) : Calls Tryz.prog 73 [(.agg #[(iv p0.Kind), (sv p0.Name), (iv p0.At.X), (iv p0.At.Y), (.slice QA p0.Points.length QB), (iv p0.NX), (iv p0.NY), (.slice QD p0.Steps.length QC)])].toArray w.W fun e W' => e = .returned (iv r) ∧ HF w W' E0 := by
 unfold zDB at H
 have leB := Bs.Le.refl w
 refine Tr.enter (n := 13) Tryz.func73 rfl rfl rfl hE ?_
 refine Tr.sr (Tr.box 1 (cs := [(iv p0.Kind), (sv p0.Name), (iv p0.At.X), (iv p0.At.Y), (.slice QA p0.Points.length QB), (iv p0.NX), (iv p0.NY), (.slice QD p0.Steps.length QC)]) (wn rfl) rfl rfl rfl fun QM => ?_)
 refine Tr.asg rfl rfl (Tr.nil (Tr.zA (Tr.sr (Tr.asg rfl rfl (Tr.nil (Tr.zA (Tr.seq (Tr.draw (by kernel_rfl) (by kernel_rfl) ?_))))))))
 refine Tq.mv rfl rfl (Tq.va rfl (fun _ _ h1 h2 => zB zGv (h1.ev rfl)) ?_)
 refine Tq.va rfl (fun _ _ h1 h2 => zC QO (h1.ev rfl) (rdb h2 (vs := [(iv p0.Kind), (sv p0.Name), (iv p0.At.X), (iv p0.At.Y), (.slice QA p0.Points.length QB), (iv p0.NX), (iv p0.NY), (.slice QD p0.Steps.length QC)]) (k := 1) rfl 5) rfl) ?_
 obtain ⟨y101, hy101, H⟩ := bnd H
 refine Tq.callF (r := (iv y101)) (wn rfl) rfl rfl Tryz.call95 (zF rfl zO) (fun W hW => zFp p0.NX y101 hy101 (HF.start _)) ?_
 refine Tq.mv rfl rfl (Tq.va rfl (fun _ _ h1 h2 => zB zGu (h1.ev rfl)) ?_)
 refine Tq.va rfl (fun _ _ h1 h2 => zC QO (h1.ev rfl) (rdb h2 (vs := [(iv p0.Kind), (sv p0.Name), (iv p0.At.X), (iv p0.At.Y), (.slice QA p0.Points.length QB), (iv p0.NX), (iv p0.NY), (.slice QD p0.Steps.length QC)]) (k := 1) rfl 6) rfl) ?_
 obtain ⟨y102, hy102, H⟩ := bnd H
 refine Tq.callF (r := (iv y102)) (wn rfl) rfl rfl Tryz.call95 (zF rfl zO) (fun W hW => zFp p0.NY y102 hy102 (HF.start _)) ?_
 refine Tq.va rfl (fun _ _ h1 h2 => zBY (h1.ev rfl) (h1.ev rfl)) ?_
 refine Tq.asg rfl rfl (Tq.nil (Tr.zA (Tr.ret ?_)))
 obtain rfl := Option.some.inj H
 exact Tr.out (m := [(iv (w64 (y101 * y102)))]) [] (zP rfl zQ) (fun W hW => ⟨rfl, hW.low leB⟩)

theorem zKe (N : Nat) (rec : (List zD) → Option Int) (hrec : ∀ {w : Bs} (p0 : (List zD)) (QA : Option Addr) (QB : Nat) (QE : Sl w.R w.W zG QA QB p0) (r : Int) (H : rec p0 = some r) (hE : HF w w.W E0), Calls Tryz.prog 42 [(.slice QA p0.length QB)].toArray w.W fun e W' => e = .returned (iv r) ∧ HF w W' E0) {w : Bs} (p0 : (List zD)) (QA : Option Addr) (QB : Nat) (QE : Sl w.R w.W zG QA QB p0) (r : Int) (H : zFO N rec p0 = some r) (hE : HF w w.W E0) : Calls Tryz.prog 42 [(.slice QA p0.length QB)].toArray w.W fun e W' => e = .returned (iv r) ∧ HF w W' E0 := by
 unfold zFO at H
 have leB := Bs.Le.refl w
 refine Tr.enter (n := 30) Tryz.func42 rfl rfl rfl hE ?_
 refine Tr.sr (Tr.asg rfl rfl (Tr.nil (Tr.zA (Tr.sr (Tr.asg rfl rfl (Tr.nil (Tr.zA (Tr.seq (Tr.sr (Tr.mv rfl rfl ?_))))))))))
 refine Tr.va rfl (fun _ _ h1 h2 => zq zGC (h1.ev rfl)) ?_
 refine Tr.mv rfl rfl (Tr.nil (Tr.zA (Tr.block (Tr.loop (σ := (List zD) × Nat × Int) (fun m w s => m = s.1.length + 1 ∧ s.1 = List.drop s.2.1 p0 ∧ s.2.1 ≤ p0.length ∧ JH rec s.1 s.2.1 s.2.2 = some r) (fun s => [(3, (iv s.2.2)), (6, (.slice QA p0.length QB)), (7, (iv (p0.length : Int))), (8, (iv (s.2.1 : Int)))]) (fun s => []) (p0.length + 1) (p0, 0, 0) ⟨rfl, rfl, Nat.zero_le _, H⟩ (.cons rfl (.cons rfl (.cons rfl (.cons rfl .nil)))) .nil (fun _ _ h => absurd h.1 (by simp)) ?_))))
 intro w VK m s hs
 obtain ⟨Qh, iL3, x126⟩ := s
 obtain ⟨zGr, WR, hiL3, H⟩ := hs
 replace WR : Qh = List.drop iL3 p0 := WR
 replace H : JH rec Qh iL3 x126 = some r := H
 replace zGr : m + 1 = Qh.length + 1 := zGr
 replace QE := QE.leR VK
 replace leB := leB.trans VK
 obtain rfl : m = Qh.length := by omega
 clear zGr
 show Tr _ _ (LF [(3, (iv x126)), (6, (.slice QA p0.length QB)), (7, (iv (p0.length : Int))), (8, (iv (iL3 : Int)))]) (LE []) _
 cases Qh with
 | nil =>
  rw [JH.eq_1] at H
  refine Tr.sr (Tr.va rfl (fun _ _ h1 h2 => zz (h1.ev rfl) (h1.ev rfl)) ?_)
  refine Tr.nil (Tr.zA (Tr.seq (Tr.WJ rfl (Qy WR) ?_)))
  refine Tr.exit (Tr.zX (Tr.zX (Tr.zAC (Tr.zA (Tr.sr (Tr.mv rfl rfl (Tr.asg rfl rfl (Tr.nil (Tr.zA (Tr.ret ?_))))))))))
  obtain rfl := Option.some.inj H
  exact Tr.out (m := [(iv x126)]) [] (zP rfl zQ) (fun W hW => ⟨rfl, hW.low leB⟩)
 | cons xL3 Qh =>
  rw [JH.eq_2] at H
  refine Tr.sr (Tr.va rfl (fun _ _ h1 h2 => zz (h1.ev rfl) (h1.ev rfl)) ?_)
  refine Tr.nil (Tr.zA (Tr.seq (Tr.WI rfl (Jg WR) ?_)))
  refine Tr.skip (Tr.zA (Tr.seq (Tr.block (Tr.sr ?_))))
  obtain ⟨u127, hRu127, hoku127, hcu127⟩ := (QE).el (Js WR)
  obtain ⟨⟨zEi, zEZ⟩, ⟨zDl, zDd⟩⟩ := u127
  obtain ⟨hoku127_0, zIV⟩ := Vh.1 hoku127
  replace hoku127_0 : Sl w.R w.W zy zEi zEZ xL3.Points := hoku127_0
  replace zIV : Sl w.R w.W zG zDl zDd xL3.Steps := zIV
  refine Tr.va rfl (fun _ _ h1 h2 => zH zH0 (h1.ev rfl) QE.form (h1.ev rfl) (Int.natCast_nonneg _) (zo WR)) ?_
  refine Tr.va rfl (fun _ _ h1 h2 => zR (cs := [(iv xL3.Kind), (sv xL3.Name), (iv xL3.At.X), (iv xL3.At.Y), (.slice zEi xL3.Points.length zEZ), (iv xL3.NX), (iv xL3.NY), (.slice zDl xL3.Steps.length zDd)]) zKY zEH (h1.ev rfl) (zL.take (rdR hRu127 hcu127 h2) 8) rfl) ?_
  refine Tr.alloc 3 (wn rfl) rfl ze_46 fun b128 => ?_
  refine Tr.store 3 (cs := [(iv xL3.Kind), (sv xL3.Name), (iv xL3.At.X), (iv xL3.At.Y), (.slice zEi xL3.Points.length zEZ), (iv xL3.NX), (iv xL3.NY), (.slice zDl xL3.Steps.length zDd)]) [(iv xL3.Kind), (sv xL3.Name), (iv xL3.At.X), (iv xL3.At.Y), (.slice zEi xL3.Points.length zEZ), (iv xL3.NX), (iv xL3.NY), (.slice zDl xL3.Steps.length zDd)] (wn rfl) rfl rfl rfl rfl zEH rfl rfl rfl ?_
  refine Tr.nil (Tr.zA (Tr.sr (Tr.mv rfl rfl (Tr.va rfl (fun _ _ h1 h2 => zx (h1.ev rfl) (h1.ev rfl)) ?_))))
  refine Tr.asg rfl rfl (Tr.nil (Tr.zA ?_))
  have leJ132 := Bs.Le.refl w
  refine Tr.cutJ (σ := Int) (fun w s => WG (JH rec Qh (iL3 + 1)) s = some r) (fun s => [(3, (iv s)), (6, (.slice QA p0.length QB)), (7, (iv (p0.length : Int))), (8, (iv (iL3 : Int)))]) (fun s => []) ?_ ?_
  ·refine Tr.sr (Tr.va rfl (fun _ _ h1 h2 => zB zC1 (h1.ev rfl)) ?_)
   refine Tr.va rfl (fun _ _ h1 h2 => zC zDu (h1.ev rfl) (rdb h2 (vs := [(iv xL3.Kind), (sv xL3.Name), (iv xL3.At.X), (iv xL3.At.Y), (.slice zEi xL3.Points.length zEZ), (iv xL3.NX), (iv xL3.NY), (.slice zDl xL3.Steps.length zDd)]) (k := 3) rfl 7) rfl) ?_
   refine Tr.va rfl (fun _ _ h1 h2 => zq zGC (h1.ev rfl)) ?_
   refine Tr.va rfl (fun _ _ h1 h2 => VI (h1.ev rfl) (h1.ev rfl)) ?_
   refine Tr.nil (Tr.zA (Tr.cond rfl H (fun H => ?_) (fun H => ?_)))
   ·refine Tr.draw (by kernel_rfl) (by kernel_rfl) ?_
    refine Tq.mv rfl rfl (Tq.va rfl (fun _ _ h1 h2 => zR (cs := [(iv xL3.Kind), (sv xL3.Name), (iv xL3.At.X), (iv xL3.At.Y), (.slice zEi xL3.Points.length zEZ), (iv xL3.NX), (iv xL3.NY), (.slice zDl xL3.Steps.length zDd)]) zKY zEH (h1.ev rfl) (zL.take (rdb h2 (vs := [(iv xL3.Kind), (sv xL3.Name), (iv xL3.At.X), (iv xL3.At.Y), (.slice zEi xL3.Points.length zEZ), (iv xL3.NX), (iv xL3.NY), (.slice zDl xL3.Steps.length zDd)]) (k := 3) rfl 0) 8) rfl) ?_)
    obtain ⟨y134, hy134, H⟩ := bnd H
    refine Tq.Qp (r := (iv y134)) (wn rfl) rfl Tryz.call73 (zF rfl zO) (fun W hW => F_plot_times_ok xL3 zEi zEZ (hoku127_0.ext hW.QZ) zDl zDd (zIV.ext hW.QZ) y134 hy134 (HF.start _)) ?_
    refine Tq.va rfl (fun _ _ h1 h2 => zB zC1 (h1.ev rfl)) ?_
    refine Tq.va rfl (fun _ _ h1 h2 => zC zDu (h1.ev rfl) (rdb h2 (vs := [(iv xL3.Kind), (sv xL3.Name), (iv xL3.At.X), (iv xL3.At.Y), (.slice zEi xL3.Points.length zEZ), (iv xL3.NX), (iv xL3.NY), (.slice zDl xL3.Steps.length zDd)]) (k := 3) rfl 7) rfl) ?_
    obtain ⟨y135, hy135, H⟩ := bnd H
    refine Tq.Qp (r := (iv y135)) (wn rfl) rfl Tryz.call42 (zF rfl zO) (fun W hW => hrec xL3.Steps zDl zDd (zIV.ext hW.QZ) y135 hy135 (HF.start _)) ?_
    refine Tq.va rfl (fun _ _ h1 h2 => zBY (h1.ev rfl) (h1.ev rfl)) ?_
    refine Tq.va rfl (fun _ _ h1 h2 => zx (h1.ev rfl) (h1.ev rfl)) ?_
    exact Tq.asg rfl rfl (Tq.nil (Tr.zZ leJ132 (w64 ((w64 (x126 + 1)) + (w64 (y134 * y135)))) H (.cons rfl (.cons rfl (.cons rfl (.cons rfl .nil)))) .nil))
   ·exact Tr.skip (Tr.zZ leJ132 (w64 (x126 + 1)) H (.cons rfl (.cons rfl (.cons rfl (.cons rfl .nil)))) .nil)
  ·intro w Wy hlJ133 hs
   have H := hs
   replace H : WG (JH rec Qh (iL3 + 1)) Wy = some r := H
   replace QE := QE.leR hlJ133
   replace leB := leB.trans hlJ133
   replace VK := VK.trans hlJ133
   unfold WG at H
   show Tr _ _ (LF [(3, (iv Wy)), (6, (.slice QA p0.length QB)), (7, (iv (p0.length : Int))), (8, (iv (iL3 : Int)))]) (LE []) _
   refine Tr.sr (Tr.mv rfl rfl (Tr.va rfl (fun _ _ h1 h2 => VI (h1.ev rfl) (h1.ev rfl)) ?_))
   refine Tr.nil (Tr.zA (Tr.cond rfl H (fun H => ?_) (fun H => ?_)))
   ·refine Tr.sr (Tr.asg rfl rfl (Tr.nil (Tr.zA (Tr.ret (Tr.zAB (Tr.zU (Tr.zU (Tr.zAB (Tr.zU ?_)))))))))
    obtain rfl := Option.some.inj H
    exact Tr.out (m := [(iv 3001)]) [] (zP rfl zQ) (fun W hW => ⟨rfl, hW.low leB⟩)
   ·refine Tr.skip (Tr.zW (Tr.zA ?_))
    refine Tr.region (Tr.va rfl (fun _ _ h1 h2 => zx (h1.ev rfl) (h1.ev rfl)) ?_)
    exact Tr.mv rfl rfl (Tr.nil (Tr.zZ VK (Qh, (iL3 + 1), Wy) ⟨rfl, Qg WR, zo WR, H⟩ (.cons rfl (.cons rfl (.cons rfl (.cons (congrArg (fun z => some (Value.int .i64 z)) (Qf WR QE.form)) .nil)))) .nil))
theorem zHP : ∀ (N : Nat) {w : Bs} (p0 : (List zD)) (QA : Option Addr) (QB : Nat) (QE : Sl w.R w.W zG QA QB p0) (r : Int) (H : zB8 N p0 = some r) (hE : HF w w.W E0), Calls Tryz.prog 42 [(.slice QA p0.length QB)].toArray w.W fun e W' => e = .returned (iv r) ∧ HF w W' E0
 | 0 => by intros; rename_i H _; cases H
 | N + 1 => zKe N (zB8 N) (zHP N)

theorem zJj {w : Bs} (p0 : Int) (r : zDf) (H : zBO p0 = some r) (hE : HF w w.W E0) : Calls Tryz.prog 93 [(iv p0)].toArray w.W fun e W' => e = .returned (.agg #[(.bool r.name), (.bool r.at_), (.bool r.points), (.bool r.repeat_)]) ∧ HF w W' E0 := by
 unfold zBO at H
 have leB := Bs.Le.refl w
 refine Tr.enter (n := 19) Tryz.func93 rfl rfl rfl hE ?_
 refine Tr.sr (Tr.alloc 1 (wn rfl) rfl ze_149 fun QM => ?_)
 refine Tr.nil (Tr.zA (Tr.seq (Tr.sr (Tr.mv rfl rfl (Tr.nil (Tr.zA (Tr.block (Tr.sr (Tr.va rfl (fun _ _ h1 h2 => Qk (h1.ev rfl) (h1.ev rfl)) ?_)))))))))
 refine Tr.asg rfl rfl (Tr.nil (Tr.zA (Tr.cond rfl H (fun H => ?_) (fun H => ?_))))
 ·refine Tr.sr (Tr.build (vs := [(0, (.bool true))]) (cs := [(.bool true), (.bool false), (.bool false), (.bool false)]) (wn rfl) rfl (zi rfl Qb) (by kernel_rfl) ?_)
  refine Tr.store 1 (cs := [(.bool true), (.bool false), (.bool false), (.bool false)]) [(.bool true), (.bool false), (.bool false), (.bool false)] (wn rfl) rfl rfl rfl rfl zEv rfl rfl rfl ?_
  refine Tr.nil (Tr.zA (Tr.ret (Tr.zAB (Tr.zU ?_))))
  obtain rfl := Option.some.inj H
  exact Tr.out (m := [(.agg #[(.bool true), (.bool false), (.bool false), (.bool false)])]) [1] (Vm rfl rfl ag_149 zEv zQ) (fun W hW => ⟨rfl, hW.low leB⟩)
 ·have leJ102 := Bs.Le.refl w
  refine Tr.cutJ (σ := Bool) (fun w s => Kz p0 s = some r) (fun s => [(2, (.pointer (some ⟨QM, 0, none⟩))), (3, (iv p0)), (7, (.bool s))]) (fun s => [(1, bx QM #[(.bool false), (.bool false), (.bool false), (.bool false)] 149)]) ?_ ?_
  ·refine Tr.sr (Tr.va rfl (fun _ _ h1 h2 => Qk (h1.ev rfl) (h1.ev rfl)) ?_)
   refine Tr.asg rfl rfl (Tr.nil (Tr.zA (Tr.cond rfl H (fun H => ?_) (fun H => ?_))))
   ·exact Tr.skip (Tr.zZ leJ102 (p0 == 4) H (.cons rfl (.cons rfl (.cons rfl .nil))) (.cons rfl .nil))
   ·refine Tr.sr (Tr.va rfl (fun _ _ h1 h2 => Qk (h1.ev rfl) (h1.ev rfl)) ?_)
    refine Tr.asg rfl rfl (Tr.nil (Tr.zA (Tr.cond rfl H (fun H => ?_) (fun H => ?_))))
    ·exact Tr.skip (Tr.zZ leJ102 (p0 == 5) H (.cons rfl (.cons rfl (.cons rfl .nil))) (.cons rfl .nil))
    ·refine Tr.region (Tr.va rfl (fun _ _ h1 h2 => Qk (h1.ev rfl) (h1.ev rfl)) ?_)
     exact Tr.asg rfl rfl (Tr.nil (Tr.zZ leJ102 (p0 == 6) H (.cons rfl (.cons rfl (.cons rfl .nil))) (.cons rfl .nil)))
  ·intro w x101 hlJ103 hs
   have H := hs
   replace H : Kz p0 x101 = some r := H
   replace leB := leB.trans hlJ103
   unfold Kz at H
   show Tr _ _ (LF [(2, (.pointer (some ⟨QM, 0, none⟩))), (3, (iv p0)), (7, (.bool x101))]) (LE [(1, bx QM #[(.bool false), (.bool false), (.bool false), (.bool false)] 149)]) _
   refine Tr.cond rfl H (fun H => ?_) (fun H => ?_)
   ·refine Tr.sr (Tr.build (vs := [(1, (.bool true))]) (cs := [(.bool false), (.bool true), (.bool false), (.bool false)]) (wn rfl) rfl (zi rfl Qb) (by kernel_rfl) ?_)
    refine Tr.store 1 (cs := [(.bool false), (.bool true), (.bool false), (.bool false)]) [(.bool false), (.bool true), (.bool false), (.bool false)] (wn rfl) rfl rfl rfl rfl zEv rfl rfl rfl ?_
    refine Tr.nil (Tr.zA (Tr.ret (Tr.zAB (Tr.zU ?_))))
    obtain rfl := Option.some.inj H
    exact Tr.out (m := [(.agg #[(.bool false), (.bool true), (.bool false), (.bool false)])]) [1] (Vm rfl rfl ag_149 zEv zQ) (fun W hW => ⟨rfl, hW.low leB⟩)
   ·refine Tr.sr (Tr.va rfl (fun _ _ h1 h2 => Qk (h1.ev rfl) (h1.ev rfl)) ?_)
    refine Tr.asg rfl rfl (Tr.nil (Tr.zA (Tr.cond rfl H (fun H => ?_) (fun H => ?_))))
    ·refine Tr.sr (Tr.build (vs := [(2, (.bool true))]) (cs := [(.bool false), (.bool false), (.bool true), (.bool false)]) (wn rfl) rfl (zi rfl Qb) (by kernel_rfl) ?_)
     refine Tr.store 1 (cs := [(.bool false), (.bool false), (.bool true), (.bool false)]) [(.bool false), (.bool false), (.bool true), (.bool false)] (wn rfl) rfl rfl rfl rfl zEv rfl rfl rfl ?_
     refine Tr.nil (Tr.zA (Tr.ret (Tr.zAB (Tr.zU ?_))))
     obtain rfl := Option.some.inj H
     exact Tr.out (m := [(.agg #[(.bool false), (.bool false), (.bool true), (.bool false)])]) [1] (Vm rfl rfl ag_149 zEv zQ) (fun W hW => ⟨rfl, hW.low leB⟩)
    ·refine Tr.sr (Tr.va rfl (fun _ _ h1 h2 => Qk (h1.ev rfl) (h1.ev rfl)) ?_)
     refine Tr.asg rfl rfl (Tr.nil (Tr.zA (Tr.cond rfl H (fun H => ?_) (fun H => ?_))))
     ·refine Tr.sr (Tr.build (vs := [(1, (.bool true)), (3, (.bool true))]) (cs := [(.bool false), (.bool true), (.bool false), (.bool true)]) (wn rfl) rfl (zi rfl (zi rfl Qb)) (by kernel_rfl) ?_)
      refine Tr.store 1 (cs := [(.bool false), (.bool true), (.bool false), (.bool true)]) [(.bool false), (.bool true), (.bool false), (.bool true)] (wn rfl) rfl rfl rfl rfl zEv rfl rfl rfl ?_
      refine Tr.nil (Tr.zA (Tr.ret (Tr.zAB (Tr.zU ?_))))
      obtain rfl := Option.some.inj H
      exact Tr.out (m := [(.agg #[(.bool false), (.bool true), (.bool false), (.bool true)])]) [1] (Vm rfl rfl ag_149 zEv zQ) (fun W hW => ⟨rfl, hW.low leB⟩)
     ·refine Tr.skip (Tr.zW (Tr.zA ?_))
      refine Tr.sr (Tr.build (vs := []) (cs := [(.bool false), (.bool false), (.bool false), (.bool false)]) (wn rfl) rfl Qb (by kernel_rfl) ?_)
      refine Tr.store 1 (cs := [(.bool false), (.bool false), (.bool false), (.bool false)]) [(.bool false), (.bool false), (.bool false), (.bool false)] (wn rfl) rfl rfl rfl rfl zEv rfl rfl rfl ?_
      refine Tr.nil (Tr.zA (Tr.ret ?_))
      obtain rfl := Option.some.inj H
      exact Tr.out (m := [(.agg #[(.bool false), (.bool false), (.bool false), (.bool false)])]) [1] (Vm rfl rfl ag_149 zEv zQ) (fun W hW => ⟨rfl, hW.low leB⟩)

theorem zJi {w : Bs} (p0 : zS) (QA : Option Addr) (QB : Nat) (QE : Sl w.R w.W zN QA QB p0.Rects) (q0 : ByteArray) (bq0 : Nat) (hb0 : w.R bq0) (hc0 : zL w.W bq0 0 [(sv q0)]) (r : Bool) (H : zCd p0 q0 = some r) (hE : HF w w.W E0) : Calls Tryz.prog 117 [(.agg #[(sv p0.Name), (.slice QA p0.Rects.length QB)]), (.pointer (some ⟨bq0, 0, none⟩))].toArray w.W fun e W' => e = .returned (.bool r) ∧ HF w W' E0 := by
 unfold zCd at H
 have leB := Bs.Le.refl w
 refine Tr.enter (n := 8) Tryz.func117 rfl rfl rfl hE ?_
 refine Tr.sr (Tr.box 1 (cs := [(sv p0.Name), (.slice QA p0.Rects.length QB)]) (wn rfl) rfl rfl rfl fun QM => ?_)
 refine Tr.asg rfl rfl (Tr.nil (Tr.zA (Tr.sr (Tr.va rfl (fun _ _ h1 h2 => zB zGt (h1.ev rfl)) ?_))))
 refine Tr.va rfl (fun _ _ h1 h2 => zC zKX (h1.ev rfl) (rdb h2 (vs := [(sv p0.Name), (.slice QA p0.Rects.length QB)]) (k := 1) rfl 0) rfl) ?_
 refine Tr.va rfl (fun _ _ h1 h2 => zC zKX (h1.ev rfl) (rdR hb0 hc0 h2) rfl) ?_
 refine Tr.va rfl (fun _ _ h1 h2 => run_eqlS (h1.ev rfl) (h1.ev rfl)) ?_
 refine Tr.asg rfl rfl (Tr.nil (Tr.zA (Tr.ret ?_)))
 obtain rfl := Option.some.inj H
 exact Tr.out (m := [(.bool (sEq p0.Name q0))]) [] (zP rfl zQ) (fun W hW => ⟨rfl, hW.low leB⟩)

theorem zBV {w : Bs} (p0 : (List zS)) (QA : Option Addr) (QB : Nat) (QE : Sl w.R w.W zK QA QB p0) (q0 : ByteArray) (bq0 : Nat) (hb0 : w.R bq0) (hc0 : zL w.W bq0 0 [(sv q0)]) (r : Int) (H : Jf p0 q0 = some r) (hE : HF w w.W E0) : Calls Tryz.prog 116 [(.slice QA p0.length QB), (.func (.func 117) #[] #[(.pointer (some ⟨bq0, 0, none⟩))])].toArray w.W fun e W' => e = .returned (iv r) ∧ HF w W' E0 := by
 unfold Jf at H
 have leB := Bs.Le.refl w
 refine Tr.enter (n := 19) Tryz.func116 rfl rfl rfl hE ?_
 refine Tr.sr (Tr.asg rfl rfl (Tr.nil (Tr.zA (Tr.seq (Tr.sr (Tr.mv rfl rfl (Tr.va rfl (fun _ _ h1 h2 => zq zHi (h1.ev rfl)) ?_)))))))
 refine Tr.mv rfl rfl (Tr.nil (Tr.zA (Tr.block (Tr.loop (σ := (List zS) × Nat) (fun m w s => m = s.1.length + 1 ∧ s.1 = List.drop s.2 p0 ∧ s.2 ≤ p0.length ∧ zw q0 s.1 s.2 = some r) (fun s => [(0, (.slice QA p0.length QB)), (1, (.func (.func 117) #[] #[(.pointer (some ⟨bq0, 0, none⟩))])), (7, (iv (p0.length : Int))), (8, (iv (s.2 : Int)))]) (fun s => []) (p0.length + 1) (p0, 0) ⟨rfl, rfl, Nat.zero_le _, H⟩ (.cons rfl (.cons rfl (.cons rfl (.cons rfl .nil)))) .nil (fun _ _ h => absurd h.1 (by simp)) ?_))))
 intro w QW m s hs
 obtain ⟨QF, iL1⟩ := s
 obtain ⟨KJ, QP, hiL1, H⟩ := hs
 replace QP : QF = List.drop iL1 p0 := QP
 replace H : zw q0 QF iL1 = some r := H
 replace KJ : m + 1 = QF.length + 1 := KJ
 replace QE := QE.leR QW
 replace hc0 := QW.ext.cells hb0 hc0
 replace hb0 := QW.r _ hb0
 replace leB := leB.trans QW
 obtain rfl : m = QF.length := by omega
 clear KJ
 show Tr _ _ (LF [(0, (.slice QA p0.length QB)), (1, (.func (.func 117) #[] #[(.pointer (some ⟨bq0, 0, none⟩))])), (7, (iv (p0.length : Int))), (8, (iv (iL1 : Int)))]) (LE []) _
 cases QF with
 | nil =>
  rw [zw.eq_1] at H
  refine Tr.sr (Tr.va rfl (fun _ _ h1 h2 => zz (h1.ev rfl) (h1.ev rfl)) ?_)
  refine Tr.nil (Tr.zA (Tr.seq (Tr.WJ rfl (Qy QP) ?_)))
  refine Tr.exit (Tr.zX (Tr.zX (Tr.zAC (Tr.zA (Tr.sr (Tr.asg rfl rfl (Tr.nil (Tr.zA (Tr.ret ?_)))))))))
  obtain rfl := Option.some.inj H
  exact Tr.out (m := [(iv (-1))]) [] (zP rfl zQ) (fun W hW => ⟨rfl, hW.low leB⟩)
 | cons xL1 QF =>
  rw [zw.eq_2] at H
  refine Tr.sr (Tr.va rfl (fun _ _ h1 h2 => zz (h1.ev rfl) (h1.ev rfl)) ?_)
  refine Tr.nil (Tr.zA (Tr.seq (Tr.WI rfl (Jg QP) ?_)))
  refine Tr.skip (Tr.zA (Tr.seq (Tr.block (Tr.sr (Tr.mv rfl rfl (Tr.asg rfl rfl (Tr.nil (Tr.zA (Tr.sr (Tr.mv rfl rfl ?_))))))))))
  refine Tr.mv rfl rfl (Tr.mv rfl rfl ?_)
  obtain ⟨u104, hRu104, hoku104, hcu104⟩ := (QE).el (Js QP)
  obtain ⟨Au104_0, cu104_0⟩ := u104
  have hoku104_0 := hoku104
  replace hoku104_0 : Sl w.R w.W zN Au104_0 cu104_0 xL1.Rects := hoku104_0
  refine Tr.va rfl (fun _ _ h1 h2 => zH zGQ (h1.ev rfl) QE.form (h1.ev rfl) (Int.natCast_nonneg _) (zo QP)) ?_
  refine Tr.va rfl (fun _ _ h1 h2 => zR (cs := [(sv xL1.Name), (.slice Au104_0 xL1.Rects.length cu104_0)]) ag_64 zJq (h1.ev rfl) (zL.take (rdR hRu104 hcu104 h2) 2) rfl) ?_
  obtain ⟨zBf, hy105, H⟩ := bnd H
  refine Tr.callF (r := (.bool zBf)) (wn rfl) rfl rfl Tryz.call117 (zF rfl zO) (fun W hW => zJi xL1 Au104_0 cu104_0 (hoku104_0.ext hW.QZ) q0 bq0 (hW.QZ.r _ hb0) (hW.QZ.cells hb0 hc0) zBf hy105 (HF.start _)) ?_
  refine Tr.nil (Tr.zA (Tr.cond rfl H (fun H => ?_) (fun H => ?_)))
  ·refine Tr.sr (Tr.mv rfl rfl (Tr.asg rfl rfl (Tr.nil (Tr.zA (Tr.ret (Tr.zAB (Tr.zU (Tr.zU (Tr.zAB (Tr.zU ?_))))))))))
   obtain rfl := Option.some.inj H
   exact Tr.out (m := [(iv (iL1 : Int))]) [] (zP rfl zQ) (fun W hW => ⟨rfl, hW.low leB⟩)
  ·refine Tr.skip (Tr.zW (Tr.zA ?_))
   refine Tr.region (Tr.va rfl (fun _ _ h1 h2 => zx (h1.ev rfl) (h1.ev rfl)) ?_)
   exact Tr.mv rfl rfl (Tr.nil (Tr.zZ QW (QF, (iL1 + 1)) ⟨rfl, Qg QP, zo QP, H⟩ (.cons rfl (.cons rfl (.cons rfl (.cons (congrArg (fun z => some (Value.int .i64 z)) (Qf QP QE.form)) .nil)))) .nil))

theorem zGY {w : Bs} (p0 : zt) (QA : Option Addr) (QB : Nat) (QE : Sl w.R w.W zK QA QB p0.Tools) (QD : Option Addr) (QC : Nat) (QU : Sl w.R w.W zG QD QC p0.Steps) (p1 : ByteArray) (r : Int) (H : zBT p0 p1 = some r) (hE : HF w w.W E0) : Calls Tryz.prog 96 [(.agg #[(iv p0.Unit), (.slice QA p0.Tools.length QB), (.slice QD p0.Steps.length QC)]), (sv p1)].toArray w.W fun e W' => e = .returned (iv r) ∧ HF w W' E0 := by
 unfold zBT at H
 have leB := Bs.Le.refl w
 refine Tr.enter (n := 9) Tryz.func96 rfl rfl rfl hE ?_
 refine Tr.sr (Tr.box 1 (cs := [(iv p0.Unit), (.slice QA p0.Tools.length QB), (.slice QD p0.Steps.length QC)]) (wn rfl) rfl rfl rfl fun QM => ?_)
 refine Tr.box 2 (cs := [(sv p1)]) (wn rfl) rfl rfl rfl fun Qt => ?_
 refine Tr.asg rfl rfl (Tr.nil (Tr.zA (Tr.sr (Tr.va rfl (fun _ _ h1 h2 => zB zBZ (h1.ev rfl)) ?_))))
 refine Tr.va rfl (fun _ _ h1 h2 => zC zFn (h1.ev rfl) (rdb h2 (vs := [(iv p0.Unit), (.slice QA p0.Tools.length QB), (.slice QD p0.Steps.length QC)]) (k := 1) rfl 1) rfl) ?_
 refine Tr.zE5 (vs := [(.pointer (some ⟨Qt, 0, none⟩))]) (wn rfl) rfl (zF rfl zO) ?_
 obtain ⟨y102, hy102, H⟩ := bnd H
 refine Tr.Qp (r := (iv y102)) (wn rfl) rfl Tryz.call116 (zF rfl (zF rfl zO)) (fun W hW => zBV p0.Tools QA QB (QE.ext hW.QZ) p1 Qt (hW.capR (k := 2) rfl) (hW.capC (k := 2) rfl) y102 hy102 (HF.start _)) ?_
 refine Tr.asg rfl rfl (Tr.nil (Tr.zA (Tr.ret ?_)))
 obtain rfl := Option.some.inj H
 exact Tr.out (m := [(iv y102)]) [] (zP rfl zQ) (fun W hW => ⟨rfl, hW.low leB⟩)

theorem zFq {w : Bs} (p0 : zI) (p1 : Int) (r : Bool) (H : zAs p0 p1 = some r) (hE : HF w w.W E0) : Calls Tryz.prog 97 [(.agg #[(iv p0.X), (iv p0.Y)]), (iv p1)].toArray w.W fun e W' => e = .returned (.bool r) ∧ HF w W' E0 := by
 unfold zAs at H
 have leB := Bs.Le.refl w
 refine Tr.enter (n := 15) Tryz.func97 rfl rfl rfl hE ?_
 refine Tr.sr (Tr.box 1 (cs := [(iv p0.X), (iv p0.Y)]) (wn rfl) rfl rfl rfl fun QM => ?_)
 refine Tr.asg rfl rfl (Tr.nil (Tr.zA (Tr.sr (Tr.va rfl (fun _ _ h1 h2 => zB VL (h1.ev rfl)) ?_))))
 refine Tr.va rfl (fun _ _ h1 h2 => zC QO (h1.ev rfl) (rdb h2 (vs := [(iv p0.X), (iv p0.Y)]) (k := 1) rfl 0) rfl) ?_
 refine Tr.mv rfl rfl ?_
 obtain ⟨y101, hy101, H⟩ := bnd H
 refine Tr.Qp (r := (.bool y101)) (wn rfl) rfl Tryz.call72 (zF rfl (zF rfl zO)) (fun W hW => zAt p0.X p1 y101 hy101 (HF.start _)) ?_
 refine Tr.mv rfl rfl ?_
 obtain ⟨zFT, Wq, H⟩ := bnd H
 refine Tr.VR 5 [(14, (.bool zFT))] [(1, bx QM #[(iv p0.X), (iv p0.Y)] 43)] ?_ ?_
 ·cases hg104 : y101
  ·rw [hg104] at Wq
   rw [if_neg (by decide)] at Wq
   have H := Wq
   obtain rfl := Option.some.inj H
   refine Tr.pass rfl rfl rfl rfl rfl (by decide) ?_
   refine Tr.pass rfl rfl rfl rfl rfl (by decide) ?_
   refine Tr.pass rfl rfl rfl rfl rfl (by decide) ?_
   refine Tr.pass rfl rfl rfl rfl rfl (by decide) ?_
   refine Tr.va rfl (fun _ _ h1 h2 => zf (h1.ev rfl) (h1.ev rfl)) ?_
   exact Tr.nil (Tr.Qo (.cons rfl .nil) (.cons rfl .nil))
  ·rw [hg104] at Wq
   rw [if_pos rfl] at Wq
   have H := Wq
   refine Tr.val (wg rfl rfl rfl) rfl (fun _ _ h1 h2 => zB Kt (h1.ev rfl)) ?_
   refine Tr.val (wg rfl rfl rfl) rfl (fun _ _ h1 h2 => zC QO (h1.ev rfl) (rdb h2 (vs := [(iv p0.X), (iv p0.Y)]) (k := 1) rfl 1) rfl) ?_
   refine Tr.val (wg rfl rfl rfl) rfl (fun _ _ h1 h2 => run_move (h1.ev rfl)) ?_
   obtain ⟨y104, hy104, H⟩ := bnd H
   refine Tr.Qp (r := (.bool y104)) (wg rfl rfl rfl) rfl Tryz.call72 (zF rfl (zF rfl zO)) (fun W hW => zAt p0.Y p1 y104 hy104 (HF.start _)) ?_
   refine Tr.va rfl (fun _ _ h1 h2 => ze (h1.ev rfl) (h1.ev rfl)) ?_
   obtain rfl := Option.some.inj H
   exact Tr.nil (Tr.Qo (.cons rfl .nil) (.cons rfl .nil))
 ·show Tr _ _ (LF [(14, (.bool zFT))]) (LE [(1, bx QM #[(iv p0.X), (iv p0.Y)] 43)]) _
  refine Tr.asg rfl rfl (Tr.nil (Tr.zA (Tr.ret ?_)))
  obtain rfl := Option.some.inj H
  exact Tr.out (m := [(.bool zFT)]) [] (zP rfl zQ) (fun W hW => ⟨rfl, hW.low leB⟩)

theorem zHc {w : Bs} (p0 : zI) (q0 : zt) (Aq0_0 : Option Addr) (cq0_0 : Nat) (hq0_0 : Sl w.R w.W zK Aq0_0 cq0_0 q0.Tools) (Aq0_1 : Option Addr) (cq0_1 : Nat) (hq0_1 : Sl w.R w.W zG Aq0_1 cq0_1 q0.Steps) (bq0 : Nat) (hb0 : w.R bq0) (hc0 : zL w.W bq0 0 [(iv q0.Unit), (.slice Aq0_0 q0.Tools.length cq0_0), (.slice Aq0_1 q0.Steps.length cq0_1)]) (r : Bool) (H : KN p0 q0 = some r) (hE : HF w w.W E0) : Calls Tryz.prog 99 [(.agg #[(iv p0.X), (iv p0.Y)]), (.pointer (some ⟨bq0, 0, none⟩))].toArray w.W fun e W' => e = .returned (.bool r) ∧ HF w W' E0 := by
 unfold KN at H
 have leB := Bs.Le.refl w
 refine Tr.enter (n := 9) Tryz.func99 rfl rfl rfl hE ?_
 refine Tr.sr (Tr.box 1 (cs := [(iv p0.X), (iv p0.Y)]) (wn rfl) rfl rfl rfl fun QM => ?_)
 refine Tr.asg rfl rfl (Tr.nil (Tr.zA (Tr.sr (Tr.va rfl (fun _ _ h1 h2 => zR (cs := [(iv p0.X), (iv p0.Y)]) KF JB (h1.ev rfl) (zL.take (rdb h2 (vs := [(iv p0.X), (iv p0.Y)]) (k := 1) rfl 0) 2) rfl) ?_))))
 refine Tr.va rfl (fun _ _ h1 h2 => zB Vg (h1.ev rfl)) ?_
 refine Tr.va rfl (fun _ _ h1 h2 => zC QO (h1.ev rfl) (zL.drop (rdR hb0 hc0 h2) 0) rfl) ?_
 obtain ⟨y101, hy101, H⟩ := bnd H
 refine Tr.Qp (r := (.bool y101)) (wn rfl) rfl Tryz.call97 (zF rfl (zF rfl zO)) (fun W hW => zFq p0 q0.Unit y101 hy101 (HF.start _)) ?_
 refine Tr.va rfl (fun _ _ h1 h2 => JO (h1.ev rfl)) ?_
 refine Tr.asg rfl rfl (Tr.nil (Tr.zA (Tr.ret ?_)))
 obtain rfl := Option.some.inj H
 exact Tr.out (m := [(.bool (!y101))]) [] (zP rfl zQ) (fun W hW => ⟨rfl, hW.low leB⟩)

theorem zEc {w : Bs} (p0 : (List zI)) (QA : Option Addr) (QB : Nat) (QE : Sl w.R w.W zy QA QB p0) (p1 : zI → Option Bool) (fid1 : Nat) (cap1 : List Value) (hg1 : ∀ args W, (callFunc fid1 args).run Tryz.prog W = .ok (.enter fid1 args) W) (hf1 : ∀ (w' : Bs), w.Ext w' → ∀ (z0 : zI), ∀ y, p1 z0 = some y → Calls Tryz.prog fid1 (([(.agg #[(iv z0.X), (iv z0.Y)])] : List Value) ++ cap1).toArray w'.W fun e W'' => e = .returned (.bool y) ∧ HF w' W'' E0) (r : Int) (H : Kq p0 p1 = some r) (hE : HF w w.W E0) : Calls Tryz.prog 118 [(.slice QA p0.length QB), (.func (.func fid1) #[] cap1.toArray)].toArray w.W fun e W' => e = .returned (iv r) ∧ HF w W' E0 := by
 unfold Kq at H
 have leB := Bs.Le.refl w
 refine Tr.enter (n := 19) Tryz.func118 rfl rfl rfl hE ?_
 refine Tr.sr (Tr.asg rfl rfl (Tr.nil (Tr.zA (Tr.seq (Tr.sr (Tr.mv rfl rfl (Tr.va rfl (fun _ _ h1 h2 => zq zDn (h1.ev rfl)) ?_)))))))
 refine Tr.mv rfl rfl (Tr.nil (Tr.zA (Tr.block (Tr.loop (σ := (List zI) × Nat) (fun m w s => m = s.1.length + 1 ∧ s.1 = List.drop s.2 p0 ∧ s.2 ≤ p0.length ∧ zAD p1 s.1 s.2 = some r) (fun s => [(0, (.slice QA p0.length QB)), (1, (.func (.func fid1) #[] cap1.toArray)), (7, (iv (p0.length : Int))), (8, (iv (s.2 : Int)))]) (fun s => []) (p0.length + 1) (p0, 0) ⟨rfl, rfl, Nat.zero_le _, H⟩ (.cons rfl (.cons rfl (.cons rfl (.cons rfl .nil)))) .nil (fun _ _ h => absurd h.1 (by simp)) ?_))))
 intro w QW m s hs
 obtain ⟨QF, iL1⟩ := s
 obtain ⟨KJ, QP, hiL1, H⟩ := hs
 replace QP : QF = List.drop iL1 p0 := QP
 replace H : zAD p1 QF iL1 = some r := H
 replace KJ : m + 1 = QF.length + 1 := KJ
 replace QE := QE.leR QW
 replace hf1 := fun w' he => hf1 w' (QW.ext.trans he)
 replace leB := leB.trans QW
 obtain rfl : m = QF.length := by omega
 clear KJ
 show Tr _ _ (LF [(0, (.slice QA p0.length QB)), (1, (.func (.func fid1) #[] cap1.toArray)), (7, (iv (p0.length : Int))), (8, (iv (iL1 : Int)))]) (LE []) _
 cases QF with
 | nil =>
  rw [zAD.eq_1] at H
  refine Tr.sr (Tr.va rfl (fun _ _ h1 h2 => zz (h1.ev rfl) (h1.ev rfl)) ?_)
  refine Tr.nil (Tr.zA (Tr.seq (Tr.WJ rfl (Qy QP) ?_)))
  refine Tr.exit (Tr.zX (Tr.zX (Tr.zAC (Tr.zA (Tr.sr (Tr.asg rfl rfl (Tr.nil (Tr.zA (Tr.ret ?_)))))))))
  obtain rfl := Option.some.inj H
  exact Tr.out (m := [(iv (-1))]) [] (zP rfl zQ) (fun W hW => ⟨rfl, hW.low leB⟩)
 | cons xL1 QF =>
  rw [zAD.eq_2] at H
  refine Tr.sr (Tr.va rfl (fun _ _ h1 h2 => zz (h1.ev rfl) (h1.ev rfl)) ?_)
  refine Tr.nil (Tr.zA (Tr.seq (Tr.WI rfl (Jg QP) ?_)))
  refine Tr.skip (Tr.zA (Tr.seq (Tr.block (Tr.sr (Tr.mv rfl rfl (Tr.asg rfl rfl (Tr.nil (Tr.zA (Tr.sr (Tr.mv rfl rfl ?_))))))))))
  refine Tr.mv rfl rfl (Tr.mv rfl rfl (Tr.va rfl (fun _ _ h1 h2 => zH zHz (h1.ev rfl) QE.form (h1.ev rfl) (Int.natCast_nonneg _) (zo QP)) ?_))
  refine Tr.va rfl (fun _ _ h1 h2 => zR (cs := [(iv xL1.X), (iv xL1.Y)]) KF JB (h1.ev rfl) (zL.take (rdF zAm QE (Js QP) h2) 2) rfl) ?_
  obtain ⟨QJ, zCy, H⟩ := bnd H
  refine Tr.callF (r := (.bool QJ)) (wn rfl) rfl rfl hg1 (zF rfl zO) (fun W hW => hf1 hW.all hW.QZ xL1 _ zCy) ?_
  refine Tr.nil (Tr.zA (Tr.cond rfl H (fun H => ?_) (fun H => ?_)))
  ·refine Tr.sr (Tr.mv rfl rfl (Tr.asg rfl rfl (Tr.nil (Tr.zA (Tr.ret (Tr.zAB (Tr.zU (Tr.zU (Tr.zAB (Tr.zU ?_))))))))))
   obtain rfl := Option.some.inj H
   exact Tr.out (m := [(iv (iL1 : Int))]) [] (zP rfl zQ) (fun W hW => ⟨rfl, hW.low leB⟩)
  ·refine Tr.skip (Tr.zW (Tr.zA ?_))
   refine Tr.region (Tr.va rfl (fun _ _ h1 h2 => zx (h1.ev rfl) (h1.ev rfl)) ?_)
   exact Tr.mv rfl rfl (Tr.nil (Tr.zZ QW (QF, (iL1 + 1)) ⟨rfl, Qg QP, zo QP, H⟩ (.cons rfl (.cons rfl (.cons rfl (.cons (congrArg (fun z => some (Value.int .i64 z)) (Qf QP QE.form)) .nil)))) .nil))

theorem zAq {w : Bs} (p0 : (List zI)) (QA : Option Addr) (QB : Nat) (QE : Sl w.R w.W zy QA QB p0) (p1 : zI → Option Bool) (fid1 : Nat) (cap1 : List Value) (hg1 : ∀ args W, (callFunc fid1 args).run Tryz.prog W = .ok (.enter fid1 args) W) (hf1 : ∀ (w' : Bs), w.Ext w' → ∀ (z0 : zI), ∀ y, p1 z0 = some y → Calls Tryz.prog fid1 (([(.agg #[(iv z0.X), (iv z0.Y)])] : List Value) ++ cap1).toArray w'.W fun e W'' => e = .returned (.bool y) ∧ HF w' W'' E0) (r : Bool) (H : Qr p0 p1 = some r) (hE : HF w w.W E0) : Calls Tryz.prog 98 [(.slice QA p0.length QB), (.func (.func fid1) #[] cap1.toArray)].toArray w.W fun e W' => e = .returned (.bool r) ∧ HF w W' E0 := by
 unfold Qr at H
 have leB := Bs.Le.refl w
 refine Tr.enter (n := 9) Tryz.func98 rfl rfl rfl hE ?_
 refine Tr.sr (Tr.asg rfl rfl (Tr.nil (Tr.zA (Tr.sr (Tr.mv rfl rfl (Tr.mv rfl rfl ?_))))))
 obtain ⟨QT, zBp, H⟩ := bnd H
 refine Tr.Qp (r := (iv QT)) (wn rfl) rfl Tryz.call118 (zF rfl (zF rfl zO)) (fun W hW => zEc p0 QA QB (QE.ext hW.QZ) p1 fid1 cap1 hg1 (fun w' he => hf1 w' (hW.QZ.trans he)) QT zBp (HF.start _)) ?_
 refine Tr.va rfl (fun _ _ h1 h2 => zEU (h1.ev rfl) (h1.ev rfl)) ?_
 refine Tr.asg rfl rfl (Tr.nil (Tr.zA (Tr.ret ?_)))
 obtain rfl := Option.some.inj H
 exact Tr.out (m := [(.bool (decide (0 ≤ QT)))]) [] (zP rfl zQ) (fun W hW => ⟨rfl, hW.low leB⟩)

theorem F_shape_IsRow_ok {w : Bs} (p0 : (List zI)) (QA : Option Addr) (QB : Nat) (QE : Sl w.R w.W zy QA QB p0) (r : Bool) (H : zCU p0 = some r) (hE : HF w w.W E0) : Calls Tryz.prog 100 [(.slice QA p0.length QB)].toArray w.W fun e W' => e = .returned (.bool r) ∧ HF w W' E0 := by
 unfold zCU at H
 have leB := Bs.Le.refl w
 refine Tr.enter (n := 36) Tryz.func100 rfl rfl rfl hE ?_
 refine Tr.sr (Tr.asg rfl rfl (Tr.nil (Tr.zA (Tr.seq (Tr.sr (Tr.mv rfl rfl (Tr.va rfl (fun _ _ h1 h2 => zq zDn (h1.ev rfl)) ?_)))))))
 refine Tr.va rfl (fun _ _ h1 h2 => zz (h1.ev rfl) (h1.ev rfl)) ?_
 refine Tr.nil (Tr.zA (Tr.cond rfl H (fun H => ?_) (fun H => ?_)))
 ·refine Tr.sr (Tr.asg rfl rfl (Tr.nil (Tr.zA (Tr.ret (Tr.zU ?_)))))
  obtain rfl := Option.some.inj H
  exact Tr.out (m := [(.bool false)]) [] (zP rfl zQ) (fun W hW => ⟨rfl, hW.low leB⟩)
 ·refine Tr.skip (Tr.zA (Tr.seq (Tr.sr (Tr.mv rfl rfl (Tr.va rfl (fun _ _ h1 h2 => zq zDn (h1.ev rfl)) ?_)))))
  refine Tr.mv rfl rfl (Tr.nil (Tr.zA (Tr.block (Tr.loop (σ := (List zI) × Nat) (fun m w s => m = s.1.length + 1 ∧ s.1 = List.drop s.2 p0 ∧ s.2 ≤ p0.length ∧ VC p0 s.1 s.2 = some r) (fun s => [(0, (.slice QA p0.length QB)), (9, (.slice QA p0.length QB)), (10, (iv (p0.length : Int))), (11, (iv (s.2 : Int)))]) (fun s => []) (p0.length + 1) (p0, 0) ⟨rfl, rfl, Nat.zero_le _, H⟩ (.cons rfl (.cons rfl (.cons rfl (.cons rfl .nil)))) .nil (fun _ _ h => absurd h.1 (by simp)) ?_))))
  intro w QW m s hs
  obtain ⟨QF, iL1⟩ := s
  obtain ⟨KJ, QP, hiL1, H⟩ := hs
  replace QP : QF = List.drop iL1 p0 := QP
  replace H : VC p0 QF iL1 = some r := H
  replace KJ : m + 1 = QF.length + 1 := KJ
  replace QE := QE.leR QW
  replace leB := leB.trans QW
  obtain rfl : m = QF.length := by omega
  clear KJ
  show Tr _ _ (LF [(0, (.slice QA p0.length QB)), (9, (.slice QA p0.length QB)), (10, (iv (p0.length : Int))), (11, (iv (iL1 : Int)))]) (LE []) _
  cases QF with
  | nil =>
   rw [VC.eq_1] at H
   refine Tr.sr (Tr.va rfl (fun _ _ h1 h2 => zz (h1.ev rfl) (h1.ev rfl)) ?_)
   refine Tr.nil (Tr.zA (Tr.seq (Tr.WJ rfl (Qy QP) ?_)))
   refine Tr.exit (Tr.zX (Tr.zX (Tr.zAC (Tr.zA (Tr.sr (Tr.asg rfl rfl (Tr.nil (Tr.zA (Tr.ret ?_)))))))))
   obtain rfl := Option.some.inj H
   exact Tr.out (m := [(.bool true)]) [] (zP rfl zQ) (fun W hW => ⟨rfl, hW.low leB⟩)
  | cons xL1 QF =>
   rw [VC.eq_2] at H
   refine Tr.sr (Tr.va rfl (fun _ _ h1 h2 => zz (h1.ev rfl) (h1.ev rfl)) ?_)
   refine Tr.nil (Tr.zA (Tr.seq (Tr.WI rfl (Jg QP) ?_)))
   refine Tr.skip (Tr.zA (Tr.seq (Tr.block (Tr.sr (Tr.mv rfl rfl (Tr.va rfl (fun _ _ h1 h2 => zH zHz (h1.ev rfl) QE.form (h1.ev rfl) (Int.natCast_nonneg _) (zo QP)) ?_))))))
   refine Tr.va rfl (fun _ _ h1 h2 => zR (cs := [(iv xL1.X), (iv xL1.Y)]) KF JB (h1.ev rfl) (zL.take (rdF zAm QE (Js QP) h2) 2) rfl) ?_
   refine Tr.alloc 3 (wn rfl) rfl zHe fun b106 => ?_
   refine Tr.asg rfl rfl (Tr.store 3 (cs := [(iv xL1.X), (iv xL1.Y)]) [(iv xL1.X), (iv xL1.Y)] (wn rfl) rfl rfl rfl rfl JB rfl rfl rfl ?_)
   refine Tr.nil (Tr.zA (Tr.sr (Tr.mv rfl rfl (Tr.mv rfl rfl (Tr.va rfl (fun _ _ h1 h2 => zx (h1.ev rfl) (h1.ev rfl)) ?_)))))
   refine Tr.mv rfl rfl (Tr.va rfl (fun _ _ h1 h2 => zq zDn (h1.ev rfl)) ?_)
   obtain ⟨q107, hq107, H⟩ := bnd H
   refine Tr.va rfl (fun _ _ h1 h2 => run_md (h1.ev rfl) (h1.ev rfl) hq107) ?_
   obtain ⟨zAy, zKC, H⟩ := bnd H
   obtain ⟨zGq, zGp, zGo⟩ := zh zKC
   refine Tr.va rfl (fun _ _ h1 h2 => zH zHz (h1.ev rfl) QE.form (h1.ev rfl) zGq zGp) ?_
   refine Tr.va rfl (fun _ _ h1 h2 => zR (cs := [(iv zAy.X), (iv zAy.Y)]) KF JB (h1.ev rfl) (zL.take (rdF zAm QE zGo h2) 2) rfl) ?_
   refine Tr.alloc 4 (wn rfl) rfl zHe fun b109 => ?_
   refine Tr.store 4 (cs := [(iv zAy.X), (iv zAy.Y)]) [(iv zAy.X), (iv zAy.Y)] (wn rfl) rfl rfl rfl rfl JB rfl rfl rfl ?_
   refine Tr.nil (Tr.zA (Tr.sr (Tr.va rfl (fun _ _ h1 h2 => zB VL (h1.ev rfl)) ?_)))
   refine Tr.va rfl (fun _ _ h1 h2 => zC QO (h1.ev rfl) (rdb h2 (vs := [(iv xL1.X), (iv xL1.Y)]) (k := 3) rfl 0) rfl) ?_
   refine Tr.va rfl (fun _ _ h1 h2 => zB VL (h1.ev rfl)) ?_
   refine Tr.va rfl (fun _ _ h1 h2 => zC QO (h1.ev rfl) (rdb h2 (vs := [(iv zAy.X), (iv zAy.Y)]) (k := 4) rfl 0) rfl) ?_
   refine Tr.va rfl (fun _ _ h1 h2 => Qk (h1.ev rfl) (h1.ev rfl)) ?_
   refine Tr.va rfl (fun _ _ h1 h2 => zB Kt (h1.ev rfl)) ?_
   refine Tr.va rfl (fun _ _ h1 h2 => zC QO (h1.ev rfl) (rdb h2 (vs := [(iv xL1.X), (iv xL1.Y)]) (k := 3) rfl 1) rfl) ?_
   refine Tr.va rfl (fun _ _ h1 h2 => zB Kt (h1.ev rfl)) ?_
   refine Tr.va rfl (fun _ _ h1 h2 => zC QO (h1.ev rfl) (rdb h2 (vs := [(iv zAy.X), (iv zAy.Y)]) (k := 4) rfl 1) rfl) ?_
   refine Tr.va rfl (fun _ _ h1 h2 => Qk (h1.ev rfl) (h1.ev rfl)) ?_
   refine Tr.va rfl (fun _ _ h1 h2 => run_eqlB un_4 (h1.ev rfl) (h1.ev rfl)) ?_
   refine Tr.nil (Tr.zA (Tr.cond rfl H (fun H => ?_) (fun H => ?_)))
   ·refine Tr.sr (Tr.asg rfl rfl (Tr.nil (Tr.zA (Tr.ret (Tr.zAB (Tr.zU (Tr.zU (Tr.zAB (Tr.zU ?_)))))))))
    obtain rfl := Option.some.inj H
    exact Tr.out (m := [(.bool false)]) [] (zP rfl zQ) (fun W hW => ⟨rfl, hW.low leB⟩)
   ·refine Tr.skip (Tr.zW (Tr.zA ?_))
    refine Tr.region (Tr.va rfl (fun _ _ h1 h2 => zx (h1.ev rfl) (h1.ev rfl)) ?_)
    exact Tr.mv rfl rfl (Tr.nil (Tr.zZ QW (QF, (iL1 + 1)) ⟨rfl, Qg QP, zo QP, H⟩ (.cons rfl (.cons rfl (.cons rfl (.cons (congrArg (fun z => some (Value.int .i64 z)) (Qf QP QE.form)) .nil)))) .nil))

theorem zI6 {w : Bs} (p0 : zt) (QA : Option Addr) (QB : Nat) (QE : Sl w.R w.W zK QA QB p0.Tools) (QD : Option Addr) (QC : Nat) (QU : Sl w.R w.W zG QD QC p0.Steps) (p1 : zD) (QG : Option Addr) (QH : Nat) (QV : Sl w.R w.W zy QG QH p1.Points) (Qj : Option Addr) (Qi : Nat) (zI8 : Sl w.R w.W zG Qj Qi p1.Steps) (p2 : Int) (r : Int) (H : zAv p0 p1 p2 = some r) (hE : HF w w.W E0) : Calls Tryz.prog 74 [(.agg #[(iv p0.Unit), (.slice QA p0.Tools.length QB), (.slice QD p0.Steps.length QC)]), (.agg #[(iv p1.Kind), (sv p1.Name), (iv p1.At.X), (iv p1.At.Y), (.slice QG p1.Points.length QH), (iv p1.NX), (iv p1.NY), (.slice Qj p1.Steps.length Qi)]), (iv p2)].toArray w.W fun e W' => e = .returned (iv r) ∧ HF w W' E0 := by
 unfold zAv at H
 have leB := Bs.Le.refl w
 refine Tr.enter (n := 120) Tryz.func74 rfl rfl rfl hE ?_
 refine Tr.sr (Tr.box 1 (cs := [(iv p0.Unit), (.slice QA p0.Tools.length QB), (.slice QD p0.Steps.length QC)]) (wn rfl) rfl rfl rfl fun QM => ?_)
 refine Tr.box 2 (cs := [(iv p1.Kind), (sv p1.Name), (iv p1.At.X), (iv p1.At.Y), (.slice QG p1.Points.length QH), (iv p1.NX), (iv p1.NY), (.slice Qj p1.Steps.length Qi)]) (wn rfl) rfl rfl rfl fun Qt => ?_
 refine Tr.asg rfl rfl (Tr.nil (Tr.zA (Tr.seq (Tr.sr (Tr.va rfl (fun _ _ h1 h2 => zB zGw (h1.ev rfl)) ?_)))))
 refine Tr.va rfl (fun _ _ h1 h2 => zC QO (h1.ev rfl) (rdb h2 (vs := [(iv p1.Kind), (sv p1.Name), (iv p1.At.X), (iv p1.At.Y), (.slice QG p1.Points.length QH), (iv p1.NX), (iv p1.NY), (.slice Qj p1.Steps.length Qi)]) (k := 2) rfl 0) rfl) ?_
 obtain ⟨y102, hy102, H⟩ := bnd H
 refine Tr.Qp (r := (.bool y102)) (wn rfl) rfl Tryz.call22 (zF rfl (zF rfl (zF rfl zO))) (fun W hW => Vb p1.Kind 1 8 y102 hy102 (HF.start _)) ?_
 refine Tr.va rfl (fun _ _ h1 h2 => JO (h1.ev rfl)) ?_
 refine Tr.nil (Tr.zA (Tr.cond rfl H (fun H => ?_) (fun H => ?_)))
 ·refine Tr.sr (Tr.asg rfl rfl (Tr.nil (Tr.zA (Tr.ret (Tr.zU ?_)))))
  obtain rfl := Option.some.inj H
  exact Tr.out (m := [(iv 4)]) [] (zP rfl zQ) (fun W hW => ⟨rfl, hW.low leB⟩)
 ·refine Tr.skip (Tr.zA (Tr.sr (Tr.va rfl (fun _ _ h1 h2 => zB zGw (h1.ev rfl)) ?_)))
  refine Tr.va rfl (fun _ _ h1 h2 => zC QO (h1.ev rfl) (rdb h2 (vs := [(iv p1.Kind), (sv p1.Name), (iv p1.At.X), (iv p1.At.Y), (.slice QG p1.Points.length QH), (iv p1.NX), (iv p1.NY), (.slice Qj p1.Steps.length Qi)]) (k := 2) rfl 0) rfl) ?_
  obtain ⟨QJ, zCy, H⟩ := bnd H
  refine Tr.Qp (r := (.agg #[(.bool QJ.name), (.bool QJ.at_), (.bool QJ.points), (.bool QJ.repeat_)])) (wn rfl) rfl Tryz.call93 (zF rfl zO) (fun W hW => zJj p1.Kind QJ zCy (HF.start _)) ?_
  refine Tr.alloc 3 (wn rfl) rfl ze_149 fun Ko => ?_
  refine Tr.store 3 (cs := [(.bool QJ.name), (.bool QJ.at_), (.bool QJ.points), (.bool QJ.repeat_)]) [(.bool QJ.name), (.bool QJ.at_), (.bool QJ.points), (.bool QJ.repeat_)] (wn rfl) rfl rfl rfl rfl zEv rfl rfl rfl ?_
  refine Tr.nil (Tr.zA (Tr.seq (Tr.block ?_)))
  have leJ106 := Bs.Le.refl w
  refine Tr.cutJ (σ := Bool) (fun w s => zAP p0 p1 p2 QJ s = some r) (fun s => [(2, (iv p2)), (3, (.pointer (some ⟨QM, 0, none⟩))), (4, (.pointer (some ⟨Qt, 0, none⟩))), (7, (.pointer (some ⟨Ko, 0, none⟩))), (15, (.bool s))]) (fun s => [(1, bx QM #[(iv p0.Unit), (.slice QA p0.Tools.length QB), (.slice QD p0.Steps.length QC)] 25), (2, bx Qt #[(iv p1.Kind), (sv p1.Name), (iv p1.At.X), (iv p1.At.Y), (.slice QG p1.Points.length QH), (iv p1.NX), (iv p1.NY), (.slice Qj p1.Steps.length Qi)] 46), (3, bx Ko #[(.bool QJ.name), (.bool QJ.at_), (.bool QJ.points), (.bool QJ.repeat_)] 149)]) ?_ ?_
  ·refine Tr.sr (Tr.va rfl (fun _ _ h1 h2 => zB fo_149_0 (h1.ev rfl)) ?_)
   refine Tr.va rfl (fun _ _ h1 h2 => zC ag_4 (h1.ev rfl) (rdb h2 (vs := [(.bool QJ.name), (.bool QJ.at_), (.bool QJ.points), (.bool QJ.repeat_)]) (k := 3) rfl 0) rfl) ?_
   refine Tr.va rfl (fun _ _ h1 h2 => JO (h1.ev rfl)) ?_
   refine Tr.mv rfl rfl (Tr.VR 4 [(2, (iv p2)), (3, (.pointer (some ⟨QM, 0, none⟩))), (4, (.pointer (some ⟨Qt, 0, none⟩))), (7, (.pointer (some ⟨Ko, 0, none⟩))), (23, (.bool ((!QJ.name) && (!sEq p1.Name ByteArray.empty))))] [(1, bx QM #[(iv p0.Unit), (.slice QA p0.Tools.length QB), (.slice QD p0.Steps.length QC)] 25), (2, bx Qt #[(iv p1.Kind), (sv p1.Name), (iv p1.At.X), (iv p1.At.Y), (.slice QG p1.Points.length QH), (iv p1.NX), (iv p1.NY), (.slice Qj p1.Steps.length Qi)] 46), (3, bx Ko #[(.bool QJ.name), (.bool QJ.at_), (.bool QJ.points), (.bool QJ.repeat_)] 149)] ?_ ?_)
   ·cases Vu : (!QJ.name)
    ·refine Tr.pass rfl rfl rfl rfl rfl (by decide) ?_
     refine Tr.pass rfl rfl rfl rfl rfl (by decide) ?_
     refine Tr.pass rfl rfl rfl rfl rfl (by decide) ?_
     refine Tr.va rfl (fun _ _ h1 h2 => zf (h1.ev rfl) (h1.ev rfl)) ?_
     exact Tr.nil (Tr.Qo (.cons rfl (.cons rfl (.cons rfl (.cons rfl (.cons rfl .nil))))) (.cons rfl (.cons rfl (.cons rfl .nil))))
    ·refine Tr.val (wg rfl rfl rfl) rfl (fun _ _ h1 h2 => zB zIg (h1.ev rfl)) ?_
     refine Tr.val (wg rfl rfl rfl) rfl (fun _ _ h1 h2 => zC zKX (h1.ev rfl) (rdb h2 (vs := [(iv p1.Kind), (sv p1.Name), (iv p1.At.X), (iv p1.At.Y), (.slice QG p1.Points.length QH), (iv p1.NX), (iv p1.NY), (.slice Qj p1.Steps.length Qi)]) (k := 2) rfl 1) rfl) ?_
     refine Tr.val (wg rfl rfl rfl) rfl (fun _ _ h1 h2 => run_neqS (h1.ev rfl) (h1.ev rfl)) ?_
     refine Tr.va rfl (fun _ _ h1 h2 => ze (h1.ev rfl) (h1.ev rfl)) ?_
     exact Tr.nil (Tr.Qo (.cons rfl (.cons rfl (.cons rfl (.cons rfl (.cons rfl .nil))))) (.cons rfl (.cons rfl (.cons rfl .nil))))
   ·show Tr _ _ (LF [(2, (iv p2)), (3, (.pointer (some ⟨QM, 0, none⟩))), (4, (.pointer (some ⟨Qt, 0, none⟩))), (7, (.pointer (some ⟨Ko, 0, none⟩))), (23, (.bool ((!QJ.name) && (!sEq p1.Name ByteArray.empty))))]) (LE [(1, bx QM #[(iv p0.Unit), (.slice QA p0.Tools.length QB), (.slice QD p0.Steps.length QC)] 25), (2, bx Qt #[(iv p1.Kind), (sv p1.Name), (iv p1.At.X), (iv p1.At.Y), (.slice QG p1.Points.length QH), (iv p1.NX), (iv p1.NY), (.slice Qj p1.Steps.length Qi)] 46), (3, bx Ko #[(.bool QJ.name), (.bool QJ.at_), (.bool QJ.points), (.bool QJ.repeat_)] 149)]) _
    refine Tr.asg rfl rfl (Tr.nil (Tr.zA (Tr.cond rfl H (fun H => ?_) (fun H => ?_))))
    ·exact Tr.skip (Tr.zZ leJ106 ((!QJ.name) && (!sEq p1.Name ByteArray.empty)) H (.cons rfl (.cons rfl (.cons rfl (.cons rfl (.cons rfl .nil))))) (.cons rfl (.cons rfl (.cons rfl .nil))))
    ·refine Tr.sr (Tr.va rfl (fun _ _ h1 h2 => zB fo_149_1 (h1.ev rfl)) ?_)
     refine Tr.va rfl (fun _ _ h1 h2 => zC ag_4 (h1.ev rfl) (rdb h2 (vs := [(.bool QJ.name), (.bool QJ.at_), (.bool QJ.points), (.bool QJ.repeat_)]) (k := 3) rfl 1) rfl) ?_
     refine Tr.va rfl (fun _ _ h1 h2 => JO (h1.ev rfl)) ?_
     refine Tr.mv rfl rfl (Tr.VR 5 [(2, (iv p2)), (3, (.pointer (some ⟨QM, 0, none⟩))), (4, (.pointer (some ⟨Qt, 0, none⟩))), (7, (.pointer (some ⟨Ko, 0, none⟩))), (32, (.bool ((!QJ.at_) && (!(KD p1.At (zI.mk 0 0))))))] [(1, bx QM #[(iv p0.Unit), (.slice QA p0.Tools.length QB), (.slice QD p0.Steps.length QC)] 25), (2, bx Qt #[(iv p1.Kind), (sv p1.Name), (iv p1.At.X), (iv p1.At.Y), (.slice QG p1.Points.length QH), (iv p1.NX), (iv p1.NY), (.slice Qj p1.Steps.length Qi)] 46), (3, bx Ko #[(.bool QJ.name), (.bool QJ.at_), (.bool QJ.points), (.bool QJ.repeat_)] 149)] ?_ ?_)
     ·cases Vu : (!QJ.at_)
      ·refine Tr.pass rfl rfl rfl rfl rfl (by decide) ?_
       refine Tr.pass rfl rfl rfl rfl rfl (by decide) ?_
       refine Tr.pass rfl rfl rfl rfl rfl (by decide) ?_
       refine Tr.pass rfl rfl rfl rfl rfl (by decide) ?_
       refine Tr.va rfl (fun _ _ h1 h2 => zf (h1.ev rfl) (h1.ev rfl)) ?_
       exact Tr.nil (Tr.Qo (.cons rfl (.cons rfl (.cons rfl (.cons rfl (.cons rfl .nil))))) (.cons rfl (.cons rfl (.cons rfl .nil))))
      ·refine Tr.val (wg rfl rfl rfl) rfl (fun _ _ h1 h2 => zB zB6 (h1.ev rfl)) ?_
       refine Tr.val (wg rfl rfl rfl) rfl (fun _ _ h1 h2 => zR (cs := [(iv p1.At.X), (iv p1.At.Y)]) KF JB (h1.ev rfl) (zL.take (rdb h2 (vs := [(iv p1.Kind), (sv p1.Name), (iv p1.At.X), (iv p1.At.Y), (.slice QG p1.Points.length QH), (iv p1.NX), (iv p1.NY), (.slice Qj p1.Steps.length Qi)]) (k := 2) rfl 2) 2) rfl) ?_
       refine Tr.build (vs := []) (cs := [(iv 0), (iv 0)]) (wg rfl rfl rfl) rfl Qb (by kernel_rfl) ?_
       refine Tr.val (wg rfl rfl rfl) rfl (fun _ _ h1 h2 => zJN p1.At (zI.mk 0 0) (h1.ev rfl) (h1.ev rfl)) ?_
       refine Tr.va rfl (fun _ _ h1 h2 => ze (h1.ev rfl) (h1.ev rfl)) ?_
       exact Tr.nil (Tr.Qo (.cons rfl (.cons rfl (.cons rfl (.cons rfl (.cons rfl .nil))))) (.cons rfl (.cons rfl (.cons rfl .nil))))
     ·show Tr _ _ (LF [(2, (iv p2)), (3, (.pointer (some ⟨QM, 0, none⟩))), (4, (.pointer (some ⟨Qt, 0, none⟩))), (7, (.pointer (some ⟨Ko, 0, none⟩))), (32, (.bool ((!QJ.at_) && (!(KD p1.At (zI.mk 0 0))))))]) (LE [(1, bx QM #[(iv p0.Unit), (.slice QA p0.Tools.length QB), (.slice QD p0.Steps.length QC)] 25), (2, bx Qt #[(iv p1.Kind), (sv p1.Name), (iv p1.At.X), (iv p1.At.Y), (.slice QG p1.Points.length QH), (iv p1.NX), (iv p1.NY), (.slice Qj p1.Steps.length Qi)] 46), (3, bx Ko #[(.bool QJ.name), (.bool QJ.at_), (.bool QJ.points), (.bool QJ.repeat_)] 149)]) _
      refine Tr.asg rfl rfl (Tr.nil (Tr.zA (Tr.cond rfl H (fun H => ?_) (fun H => ?_))))
      ·exact Tr.skip (Tr.zZ leJ106 ((!QJ.at_) && (!(KD p1.At (zI.mk 0 0)))) H (.cons rfl (.cons rfl (.cons rfl (.cons rfl (.cons rfl .nil))))) (.cons rfl (.cons rfl (.cons rfl .nil))))
      ·refine Tr.sr (Tr.va rfl (fun _ _ h1 h2 => zB fo_149_2 (h1.ev rfl)) ?_)
       refine Tr.va rfl (fun _ _ h1 h2 => zC ag_4 (h1.ev rfl) (rdb h2 (vs := [(.bool QJ.name), (.bool QJ.at_), (.bool QJ.points), (.bool QJ.repeat_)]) (k := 3) rfl 2) rfl) ?_
       refine Tr.va rfl (fun _ _ h1 h2 => JO (h1.ev rfl)) ?_
       refine Tr.mv rfl rfl (Tr.VR 5 [(2, (iv p2)), (3, (.pointer (some ⟨QM, 0, none⟩))), (4, (.pointer (some ⟨Qt, 0, none⟩))), (7, (.pointer (some ⟨Ko, 0, none⟩))), (41, (.bool ((!QJ.points) && (decide (0 < (p1.Points.length : Int))))))] [(1, bx QM #[(iv p0.Unit), (.slice QA p0.Tools.length QB), (.slice QD p0.Steps.length QC)] 25), (2, bx Qt #[(iv p1.Kind), (sv p1.Name), (iv p1.At.X), (iv p1.At.Y), (.slice QG p1.Points.length QH), (iv p1.NX), (iv p1.NY), (.slice Qj p1.Steps.length Qi)] 46), (3, bx Ko #[(.bool QJ.name), (.bool QJ.at_), (.bool QJ.points), (.bool QJ.repeat_)] 149)] ?_ ?_)
       ·cases Vu : (!QJ.points)
        ·refine Tr.pass rfl rfl rfl rfl rfl (by decide) ?_
         refine Tr.pass rfl rfl rfl rfl rfl (by decide) ?_
         refine Tr.pass rfl rfl rfl rfl rfl (by decide) ?_
         refine Tr.pass rfl rfl rfl rfl rfl (by decide) ?_
         refine Tr.va rfl (fun _ _ h1 h2 => zf (h1.ev rfl) (h1.ev rfl)) ?_
         exact Tr.nil (Tr.Qo (.cons rfl (.cons rfl (.cons rfl (.cons rfl (.cons rfl .nil))))) (.cons rfl (.cons rfl (.cons rfl .nil))))
        ·refine Tr.val (wg rfl rfl rfl) rfl (fun _ _ h1 h2 => zB zB5 (h1.ev rfl)) ?_
         refine Tr.val (wg rfl rfl rfl) rfl (fun _ _ h1 h2 => zC zGU (h1.ev rfl) (rdb h2 (vs := [(iv p1.Kind), (sv p1.Name), (iv p1.At.X), (iv p1.At.Y), (.slice QG p1.Points.length QH), (iv p1.NX), (iv p1.NY), (.slice Qj p1.Steps.length Qi)]) (k := 2) rfl 4) rfl) ?_
         refine Tr.val (wg rfl rfl rfl) rfl (fun _ _ h1 h2 => zq zDn (h1.ev rfl)) ?_
         refine Tr.val (wg rfl rfl rfl) rfl (fun _ _ h1 h2 => VI (h1.ev rfl) (h1.ev rfl)) ?_
         refine Tr.va rfl (fun _ _ h1 h2 => ze (h1.ev rfl) (h1.ev rfl)) ?_
         exact Tr.nil (Tr.Qo (.cons rfl (.cons rfl (.cons rfl (.cons rfl (.cons rfl .nil))))) (.cons rfl (.cons rfl (.cons rfl .nil))))
       ·show Tr _ _ (LF [(2, (iv p2)), (3, (.pointer (some ⟨QM, 0, none⟩))), (4, (.pointer (some ⟨Qt, 0, none⟩))), (7, (.pointer (some ⟨Ko, 0, none⟩))), (41, (.bool ((!QJ.points) && (decide (0 < (p1.Points.length : Int))))))]) (LE [(1, bx QM #[(iv p0.Unit), (.slice QA p0.Tools.length QB), (.slice QD p0.Steps.length QC)] 25), (2, bx Qt #[(iv p1.Kind), (sv p1.Name), (iv p1.At.X), (iv p1.At.Y), (.slice QG p1.Points.length QH), (iv p1.NX), (iv p1.NY), (.slice Qj p1.Steps.length Qi)] 46), (3, bx Ko #[(.bool QJ.name), (.bool QJ.at_), (.bool QJ.points), (.bool QJ.repeat_)] 149)]) _
        refine Tr.asg rfl rfl (Tr.nil (Tr.zA (Tr.cond rfl H (fun H => ?_) (fun H => ?_))))
        ·exact Tr.skip (Tr.zZ leJ106 ((!QJ.points) && (decide (0 < (p1.Points.length : Int)))) H (.cons rfl (.cons rfl (.cons rfl (.cons rfl (.cons rfl .nil))))) (.cons rfl (.cons rfl (.cons rfl .nil))))
        ·refine Tr.region (Tr.va rfl (fun _ _ h1 h2 => zB fo_149_3 (h1.ev rfl)) ?_)
         refine Tr.va rfl (fun _ _ h1 h2 => zC ag_4 (h1.ev rfl) (rdb h2 (vs := [(.bool QJ.name), (.bool QJ.at_), (.bool QJ.points), (.bool QJ.repeat_)]) (k := 3) rfl 3) rfl) ?_
         refine Tr.va rfl (fun _ _ h1 h2 => JO (h1.ev rfl)) ?_
         refine Tr.mv rfl rfl (Tr.VR 15 [(2, (iv p2)), (3, (.pointer (some ⟨QM, 0, none⟩))), (4, (.pointer (some ⟨Qt, 0, none⟩))), (7, (.pointer (some ⟨Ko, 0, none⟩))), (60, (.bool ((!QJ.repeat_) && (((p1.NX != 0) || (p1.NY != 0)) || (decide (0 < (p1.Steps.length : Int)))))))] [(1, bx QM #[(iv p0.Unit), (.slice QA p0.Tools.length QB), (.slice QD p0.Steps.length QC)] 25), (2, bx Qt #[(iv p1.Kind), (sv p1.Name), (iv p1.At.X), (iv p1.At.Y), (.slice QG p1.Points.length QH), (iv p1.NX), (iv p1.NY), (.slice Qj p1.Steps.length Qi)] 46), (3, bx Ko #[(.bool QJ.name), (.bool QJ.at_), (.bool QJ.points), (.bool QJ.repeat_)] 149)] ?_ ?_)
         ·cases Vu : (!QJ.repeat_)
          ·refine Tr.pass rfl rfl rfl rfl rfl (by decide) ?_
           refine Tr.pass rfl rfl rfl rfl rfl (by decide) ?_
           refine Tr.pass rfl rfl rfl rfl rfl (by decide) ?_
           refine Tr.pass rfl rfl rfl rfl rfl (by decide) ?_
           refine Tr.VV rfl rfl rfl rfl (by decide) ?_
           refine Tr.VV rfl rfl rfl rfl (by decide) ?_
           refine Tr.VV rfl rfl rfl rfl (by decide) ?_
           refine Tr.pass rfl rfl rfl rfl rfl (by decide) ?_
           refine Tr.pass rfl rfl rfl rfl rfl (by decide) ?_
           refine Tr.VV rfl rfl rfl rfl (by decide) ?_
           refine Tr.VV rfl rfl rfl rfl (by decide) ?_
           refine Tr.VV rfl rfl rfl rfl (by decide) ?_
           refine Tr.VV rfl rfl rfl rfl (by decide) ?_
           refine Tr.pass rfl rfl rfl rfl rfl (by decide) ?_
           refine Tr.va rfl (fun _ _ h1 h2 => zf (h1.ev rfl) (h1.ev rfl)) ?_
           exact Tr.nil (Tr.Qo (.cons rfl (.cons rfl (.cons rfl (.cons rfl (.cons rfl .nil))))) (.cons rfl (.cons rfl (.cons rfl .nil))))
          ·refine Tr.val (wg rfl rfl rfl) rfl (fun _ _ h1 h2 => zB zGv (h1.ev rfl)) ?_
           refine Tr.val (wg rfl rfl rfl) rfl (fun _ _ h1 h2 => zC QO (h1.ev rfl) (rdb h2 (vs := [(iv p1.Kind), (sv p1.Name), (iv p1.At.X), (iv p1.At.Y), (.slice QG p1.Points.length QH), (iv p1.NX), (iv p1.NY), (.slice Qj p1.Steps.length Qi)]) (k := 2) rfl 5) rfl) ?_
           refine Tr.val (wg rfl rfl rfl) rfl (fun _ _ h1 h2 => Jv (h1.ev rfl) (h1.ev rfl)) ?_
           refine Tr.val (wg rfl rfl rfl) rfl (fun _ _ h1 h2 => run_move (h1.ev rfl)) ?_
           refine Tr.VR 4 [(2, (iv p2)), (3, (.pointer (some ⟨QM, 0, none⟩))), (4, (.pointer (some ⟨Qt, 0, none⟩))), (7, (.pointer (some ⟨Ko, 0, none⟩))), (45, (.bool true)), (53, (.bool ((p1.NX != 0) || (p1.NY != 0))))] [(1, bx QM #[(iv p0.Unit), (.slice QA p0.Tools.length QB), (.slice QD p0.Steps.length QC)] 25), (2, bx Qt #[(iv p1.Kind), (sv p1.Name), (iv p1.At.X), (iv p1.At.Y), (.slice QG p1.Points.length QH), (iv p1.NX), (iv p1.NY), (.slice Qj p1.Steps.length Qi)] 46), (3, bx Ko #[(.bool QJ.name), (.bool QJ.at_), (.bool QJ.points), (.bool QJ.repeat_)] 149)] ?_ ?_
           ·cases Vu : (p1.NX != 0)
            ·refine Tr.val (wg rfl rfl rfl) rfl (fun _ _ h1 h2 => zB zGu (h1.ev rfl)) ?_
             refine Tr.val (wg rfl rfl rfl) rfl (fun _ _ h1 h2 => zC QO (h1.ev rfl) (rdb h2 (vs := [(iv p1.Kind), (sv p1.Name), (iv p1.At.X), (iv p1.At.Y), (.slice QG p1.Points.length QH), (iv p1.NX), (iv p1.NY), (.slice Qj p1.Steps.length Qi)]) (k := 2) rfl 6) rfl) ?_
             refine Tr.val (wg rfl rfl rfl) rfl (fun _ _ h1 h2 => Jv (h1.ev rfl) (h1.ev rfl)) ?_
             refine Tr.val (wg rfl rfl rfl) rfl (fun _ _ h1 h2 => zf (h1.ev rfl) (h1.ev rfl)) ?_
             exact Tr.nil (Tr.Qo (.cons rfl (.cons rfl (.cons rfl (.cons rfl (.cons rfl (.cons rfl .nil)))))) (.cons rfl (.cons rfl (.cons rfl .nil))))
            ·refine Tr.pass rfl rfl rfl rfl rfl (by decide) ?_
             refine Tr.pass rfl rfl rfl rfl rfl (by decide) ?_
             refine Tr.pass rfl rfl rfl rfl rfl (by decide) ?_
             refine Tr.val (wg rfl rfl rfl) rfl (fun _ _ h1 h2 => ze (h1.ev rfl) (h1.ev rfl)) ?_
             exact Tr.nil (Tr.Qo (.cons rfl (.cons rfl (.cons rfl (.cons rfl (.cons rfl (.cons rfl .nil)))))) (.cons rfl (.cons rfl (.cons rfl .nil))))
           ·show Tr _ _ (LF [(2, (iv p2)), (3, (.pointer (some ⟨QM, 0, none⟩))), (4, (.pointer (some ⟨Qt, 0, none⟩))), (7, (.pointer (some ⟨Ko, 0, none⟩))), (45, (.bool true)), (53, (.bool ((p1.NX != 0) || (p1.NY != 0))))]) (LE [(1, bx QM #[(iv p0.Unit), (.slice QA p0.Tools.length QB), (.slice QD p0.Steps.length QC)] 25), (2, bx Qt #[(iv p1.Kind), (sv p1.Name), (iv p1.At.X), (iv p1.At.Y), (.slice QG p1.Points.length QH), (iv p1.NX), (iv p1.NY), (.slice Qj p1.Steps.length Qi)] 46), (3, bx Ko #[(.bool QJ.name), (.bool QJ.at_), (.bool QJ.points), (.bool QJ.repeat_)] 149)]) _
            refine Tr.val (wg rfl rfl rfl) rfl (fun _ _ h1 h2 => run_move (h1.ev rfl)) ?_
            refine Tr.VR 5 [(2, (iv p2)), (3, (.pointer (some ⟨QM, 0, none⟩))), (4, (.pointer (some ⟨Qt, 0, none⟩))), (7, (.pointer (some ⟨Ko, 0, none⟩))), (45, (.bool true)), (59, (.bool (((p1.NX != 0) || (p1.NY != 0)) || (decide (0 < (p1.Steps.length : Int))))))] [(1, bx QM #[(iv p0.Unit), (.slice QA p0.Tools.length QB), (.slice QD p0.Steps.length QC)] 25), (2, bx Qt #[(iv p1.Kind), (sv p1.Name), (iv p1.At.X), (iv p1.At.Y), (.slice QG p1.Points.length QH), (iv p1.NX), (iv p1.NY), (.slice Qj p1.Steps.length Qi)] 46), (3, bx Ko #[(.bool QJ.name), (.bool QJ.at_), (.bool QJ.points), (.bool QJ.repeat_)] 149)] ?_ ?_
            ·cases Vu : ((p1.NX != 0) || (p1.NY != 0))
             ·refine Tr.val (wg rfl rfl rfl) rfl (fun _ _ h1 h2 => zB zC1 (h1.ev rfl)) ?_
              refine Tr.val (wg rfl rfl rfl) rfl (fun _ _ h1 h2 => zC zDu (h1.ev rfl) (rdb h2 (vs := [(iv p1.Kind), (sv p1.Name), (iv p1.At.X), (iv p1.At.Y), (.slice QG p1.Points.length QH), (iv p1.NX), (iv p1.NY), (.slice Qj p1.Steps.length Qi)]) (k := 2) rfl 7) rfl) ?_
              refine Tr.val (wg rfl rfl rfl) rfl (fun _ _ h1 h2 => zq zGC (h1.ev rfl)) ?_
              refine Tr.val (wg rfl rfl rfl) rfl (fun _ _ h1 h2 => VI (h1.ev rfl) (h1.ev rfl)) ?_
              refine Tr.val (wg rfl rfl rfl) rfl (fun _ _ h1 h2 => zf (h1.ev rfl) (h1.ev rfl)) ?_
              exact Tr.nil (Tr.Qo (.cons rfl (.cons rfl (.cons rfl (.cons rfl (.cons rfl (.cons rfl .nil)))))) (.cons rfl (.cons rfl (.cons rfl .nil))))
             ·refine Tr.pass rfl rfl rfl rfl rfl (by decide) ?_
              refine Tr.pass rfl rfl rfl rfl rfl (by decide) ?_
              refine Tr.pass rfl rfl rfl rfl rfl (by decide) ?_
              refine Tr.pass rfl rfl rfl rfl rfl (by decide) ?_
              refine Tr.val (wg rfl rfl rfl) rfl (fun _ _ h1 h2 => ze (h1.ev rfl) (h1.ev rfl)) ?_
              exact Tr.nil (Tr.Qo (.cons rfl (.cons rfl (.cons rfl (.cons rfl (.cons rfl (.cons rfl .nil)))))) (.cons rfl (.cons rfl (.cons rfl .nil))))
            ·show Tr _ _ (LF [(2, (iv p2)), (3, (.pointer (some ⟨QM, 0, none⟩))), (4, (.pointer (some ⟨Qt, 0, none⟩))), (7, (.pointer (some ⟨Ko, 0, none⟩))), (45, (.bool true)), (59, (.bool (((p1.NX != 0) || (p1.NY != 0)) || (decide (0 < (p1.Steps.length : Int))))))]) (LE [(1, bx QM #[(iv p0.Unit), (.slice QA p0.Tools.length QB), (.slice QD p0.Steps.length QC)] 25), (2, bx Qt #[(iv p1.Kind), (sv p1.Name), (iv p1.At.X), (iv p1.At.Y), (.slice QG p1.Points.length QH), (iv p1.NX), (iv p1.NY), (.slice Qj p1.Steps.length Qi)] 46), (3, bx Ko #[(.bool QJ.name), (.bool QJ.at_), (.bool QJ.points), (.bool QJ.repeat_)] 149)]) _
             refine Tr.va rfl (fun _ _ h1 h2 => ze (h1.ev rfl) (h1.ev rfl)) ?_
             exact Tr.nil (Tr.Qo (.cons rfl (.cons rfl (.cons rfl (.cons rfl (.cons rfl .nil))))) (.cons rfl (.cons rfl (.cons rfl .nil))))
         ·show Tr _ _ (LF [(2, (iv p2)), (3, (.pointer (some ⟨QM, 0, none⟩))), (4, (.pointer (some ⟨Qt, 0, none⟩))), (7, (.pointer (some ⟨Ko, 0, none⟩))), (60, (.bool ((!QJ.repeat_) && (((p1.NX != 0) || (p1.NY != 0)) || (decide (0 < (p1.Steps.length : Int)))))))]) (LE [(1, bx QM #[(iv p0.Unit), (.slice QA p0.Tools.length QB), (.slice QD p0.Steps.length QC)] 25), (2, bx Qt #[(iv p1.Kind), (sv p1.Name), (iv p1.At.X), (iv p1.At.Y), (.slice QG p1.Points.length QH), (iv p1.NX), (iv p1.NY), (.slice Qj p1.Steps.length Qi)] 46), (3, bx Ko #[(.bool QJ.name), (.bool QJ.at_), (.bool QJ.points), (.bool QJ.repeat_)] 149)]) _
          exact Tr.asg rfl rfl (Tr.nil (Tr.zZ leJ106 ((!QJ.repeat_) && (((p1.NX != 0) || (p1.NY != 0)) || (decide (0 < (p1.Steps.length : Int))))) H (.cons rfl (.cons rfl (.cons rfl (.cons rfl (.cons rfl .nil))))) (.cons rfl (.cons rfl (.cons rfl .nil)))))
  ·intro w x105 hlJ107 hs
   have H := hs
   replace H : zAP p0 p1 p2 QJ x105 = some r := H
   replace QE := QE.leR hlJ107
   replace QU := QU.leR hlJ107
   replace QV := QV.leR hlJ107
   replace leB := leB.trans hlJ107
   unfold zAP at H
   show Tr _ _ (LF [(2, (iv p2)), (3, (.pointer (some ⟨QM, 0, none⟩))), (4, (.pointer (some ⟨Qt, 0, none⟩))), (7, (.pointer (some ⟨Ko, 0, none⟩))), (15, (.bool x105))]) (LE [(1, bx QM #[(iv p0.Unit), (.slice QA p0.Tools.length QB), (.slice QD p0.Steps.length QC)] 25), (2, bx Qt #[(iv p1.Kind), (sv p1.Name), (iv p1.At.X), (iv p1.At.Y), (.slice QG p1.Points.length QH), (iv p1.NX), (iv p1.NY), (.slice Qj p1.Steps.length Qi)] 46), (3, bx Ko #[(.bool QJ.name), (.bool QJ.at_), (.bool QJ.points), (.bool QJ.repeat_)] 149)]) _
   refine Tr.cond rfl H (fun H => ?_) (fun H => ?_)
   ·refine Tr.sr (Tr.asg rfl rfl (Tr.nil (Tr.zA (Tr.ret (Tr.zAB (Tr.zU ?_))))))
    obtain rfl := Option.some.inj H
    exact Tr.out (m := [(iv 3)]) [] (zP rfl zQ) (fun W hW => ⟨rfl, hW.low leB⟩)
   ·refine Tr.sr (Tr.va rfl (fun _ _ h1 h2 => zB fo_149_0 (h1.ev rfl)) ?_)
    refine Tr.va rfl (fun _ _ h1 h2 => zC ag_4 (h1.ev rfl) (rdb h2 (vs := [(.bool QJ.name), (.bool QJ.at_), (.bool QJ.points), (.bool QJ.repeat_)]) (k := 3) rfl 0) rfl) ?_
    refine Tr.mv rfl rfl ?_
    obtain ⟨g109, zGN, H⟩ := bnd H
    refine Tr.VR 6 [(2, (iv p2)), (3, (.pointer (some ⟨QM, 0, none⟩))), (4, (.pointer (some ⟨Qt, 0, none⟩))), (7, (.pointer (some ⟨Ko, 0, none⟩))), (70, (.bool g109))] [(1, bx QM #[(iv p0.Unit), (.slice QA p0.Tools.length QB), (.slice QD p0.Steps.length QC)] 25), (2, bx Qt #[(iv p1.Kind), (sv p1.Name), (iv p1.At.X), (iv p1.At.Y), (.slice QG p1.Points.length QH), (iv p1.NX), (iv p1.NY), (.slice Qj p1.Steps.length Qi)] 46), (3, bx Ko #[(.bool QJ.name), (.bool QJ.at_), (.bool QJ.points), (.bool QJ.repeat_)] 149)] ?_ ?_
    ·cases Vu : QJ.name
     ·rw [Vu] at zGN
      rw [if_neg (by decide)] at zGN
      have H := zGN
      obtain rfl := Option.some.inj H
      refine Tr.pass rfl rfl rfl rfl rfl (by decide) ?_
      refine Tr.pass rfl rfl rfl rfl rfl (by decide) ?_
      refine Tr.pass rfl rfl rfl rfl rfl (by decide) ?_
      refine Tr.pass rfl rfl rfl rfl rfl (by decide) ?_
      refine Tr.pass rfl rfl rfl rfl rfl (by decide) ?_
      refine Tr.va rfl (fun _ _ h1 h2 => zf (h1.ev rfl) (h1.ev rfl)) ?_
      exact Tr.nil (Tr.Qo (.cons rfl (.cons rfl (.cons rfl (.cons rfl (.cons rfl .nil))))) (.cons rfl (.cons rfl (.cons rfl .nil))))
     ·rw [Vu] at zGN
      rw [if_pos rfl] at zGN
      have H := zGN
      refine Tr.val (wg rfl rfl rfl) rfl (fun _ _ h1 h2 => zR (cs := [(iv p0.Unit), (.slice QA p0.Tools.length QB), (.slice QD p0.Steps.length QC)]) WK KR (h1.ev rfl) (zL.take (rdb h2 (vs := [(iv p0.Unit), (.slice QA p0.Tools.length QB), (.slice QD p0.Steps.length QC)]) (k := 1) rfl 0) 3) rfl) ?_
      refine Tr.val (wg rfl rfl rfl) rfl (fun _ _ h1 h2 => zB zIg (h1.ev rfl)) ?_
      refine Tr.val (wg rfl rfl rfl) rfl (fun _ _ h1 h2 => zC zKX (h1.ev rfl) (rdb h2 (vs := [(iv p1.Kind), (sv p1.Name), (iv p1.At.X), (iv p1.At.Y), (.slice QG p1.Points.length QH), (iv p1.NX), (iv p1.NY), (.slice Qj p1.Steps.length Qi)]) (k := 2) rfl 1) rfl) ?_
      obtain ⟨zBj, zKB, H⟩ := bnd H
      refine Tr.Qp (r := (iv zBj)) (wg rfl rfl rfl) rfl Tryz.call96 (zF rfl (zF rfl zO)) (fun W hW => zGY p0 QA QB (QE.ext hW.QZ) QD QC (QU.ext hW.QZ) p1.Name zBj zKB (HF.start _)) ?_
      refine Tr.val (wg rfl rfl rfl) rfl (fun _ _ h1 h2 => zz (h1.ev rfl) (h1.ev rfl)) ?_
      refine Tr.va rfl (fun _ _ h1 h2 => ze (h1.ev rfl) (h1.ev rfl)) ?_
      obtain rfl := Option.some.inj H
      exact Tr.nil (Tr.Qo (.cons rfl (.cons rfl (.cons rfl (.cons rfl (.cons rfl .nil))))) (.cons rfl (.cons rfl (.cons rfl .nil))))
    ·show Tr _ _ (LF [(2, (iv p2)), (3, (.pointer (some ⟨QM, 0, none⟩))), (4, (.pointer (some ⟨Qt, 0, none⟩))), (7, (.pointer (some ⟨Ko, 0, none⟩))), (70, (.bool g109))]) (LE [(1, bx QM #[(iv p0.Unit), (.slice QA p0.Tools.length QB), (.slice QD p0.Steps.length QC)] 25), (2, bx Qt #[(iv p1.Kind), (sv p1.Name), (iv p1.At.X), (iv p1.At.Y), (.slice QG p1.Points.length QH), (iv p1.NX), (iv p1.NY), (.slice Qj p1.Steps.length Qi)] 46), (3, bx Ko #[(.bool QJ.name), (.bool QJ.at_), (.bool QJ.points), (.bool QJ.repeat_)] 149)]) _
     refine Tr.asg rfl rfl (Tr.nil (Tr.zA (Tr.cond rfl H (fun H => ?_) (fun H => ?_))))
     ·refine Tr.sr (Tr.asg rfl rfl (Tr.nil (Tr.zA (Tr.ret (Tr.zAB (Tr.zU ?_))))))
      obtain rfl := Option.some.inj H
      exact Tr.out (m := [(iv 5)]) [] (zP rfl zQ) (fun W hW => ⟨rfl, hW.low leB⟩)
     ·refine Tr.sr (Tr.va rfl (fun _ _ h1 h2 => zB zB6 (h1.ev rfl)) ?_)
      refine Tr.va rfl (fun _ _ h1 h2 => zR (cs := [(iv p1.At.X), (iv p1.At.Y)]) KF JB (h1.ev rfl) (zL.take (rdb h2 (vs := [(iv p1.Kind), (sv p1.Name), (iv p1.At.X), (iv p1.At.Y), (.slice QG p1.Points.length QH), (iv p1.NX), (iv p1.NY), (.slice Qj p1.Steps.length Qi)]) (k := 2) rfl 2) 2) rfl) ?_
      refine Tr.va rfl (fun _ _ h1 h2 => zB Vg (h1.ev rfl)) ?_
      refine Tr.va rfl (fun _ _ h1 h2 => zC QO (h1.ev rfl) (rdb h2 (vs := [(iv p0.Unit), (.slice QA p0.Tools.length QB), (.slice QD p0.Steps.length QC)]) (k := 1) rfl 0) rfl) ?_
      obtain ⟨VF, hy111, H⟩ := bnd H
      refine Tr.Qp (r := (.bool VF)) (wn rfl) rfl Tryz.call97 (zF rfl (zF rfl zO)) (fun W hW => zFq p1.At p0.Unit VF hy111 (HF.start _)) ?_
      refine Tr.va rfl (fun _ _ h1 h2 => JO (h1.ev rfl)) ?_
      refine Tr.mv rfl rfl ?_
      obtain ⟨g113, hg113, H⟩ := bnd H
      refine Tr.VR 5 [(2, (iv p2)), (4, (.pointer (some ⟨Qt, 0, none⟩))), (7, (.pointer (some ⟨Ko, 0, none⟩))), (83, (.bool g113))] [(1, bx QM #[(iv p0.Unit), (.slice QA p0.Tools.length QB), (.slice QD p0.Steps.length QC)] 25), (2, bx Qt #[(iv p1.Kind), (sv p1.Name), (iv p1.At.X), (iv p1.At.Y), (.slice QG p1.Points.length QH), (iv p1.NX), (iv p1.NY), (.slice Qj p1.Steps.length Qi)] 46), (3, bx Ko #[(.bool QJ.name), (.bool QJ.at_), (.bool QJ.points), (.bool QJ.repeat_)] 149)] ?_ ?_
      ·cases Vu : (!VF)
       ·rw [Vu] at hg113
        rw [if_neg (by decide)] at hg113
        have H := hg113
        refine Tr.val (wg rfl rfl rfl) rfl (fun _ _ h1 h2 => zB zB5 (h1.ev rfl)) ?_
        refine Tr.val (wg rfl rfl rfl) rfl (fun _ _ h1 h2 => zC zGU (h1.ev rfl) (rdb h2 (vs := [(iv p1.Kind), (sv p1.Name), (iv p1.At.X), (iv p1.At.Y), (.slice QG p1.Points.length QH), (iv p1.NX), (iv p1.NY), (.slice Qj p1.Steps.length Qi)]) (k := 2) rfl 4) rfl) ?_
        refine Tr.zE5 (vs := [(.pointer (some ⟨QM, 0, none⟩))]) (wg rfl rfl rfl) rfl (zF rfl zO) ?_
        obtain ⟨y114, hy114, H⟩ := bnd H
        refine Tr.Qp (r := (.bool y114)) (wg rfl rfl rfl) rfl Tryz.call98 (zF rfl (zF rfl zO)) (fun W hW => zAq p1.Points QG QH (QV.ext hW.QZ) (fun z0 => KN z0 p0) 99 [(.pointer (some ⟨QM, 0, none⟩))] Tryz.call99 (fun w' he z0 y hy => zHc z0 p0 QA QB (QE.ext (hW.QZ.trans he)) QD QC (QU.ext (hW.QZ.trans he)) QM (he.r _ (hW.capR (k := 1) rfl)) (he.cells (hW.capR (k := 1) rfl) (hW.capC (k := 1) rfl)) y hy (HF.start _)) y114 hy114 (HF.start _)) ?_
        refine Tr.va rfl (fun _ _ h1 h2 => zf (h1.ev rfl) (h1.ev rfl)) ?_
        obtain rfl := Option.some.inj H
        exact Tr.nil (Tr.Qo (.cons rfl (.cons rfl (.cons rfl (.cons rfl .nil)))) (.cons rfl (.cons rfl (.cons rfl .nil))))
       ·rw [Vu] at hg113
        rw [if_pos rfl] at hg113
        have H := hg113
        obtain rfl := Option.some.inj H
        refine Tr.pass rfl rfl rfl rfl rfl (by decide) ?_
        refine Tr.pass rfl rfl rfl rfl rfl (by decide) ?_
        refine Tr.pass rfl rfl rfl rfl rfl (by decide) ?_
        refine Tr.pass rfl rfl rfl rfl rfl (by decide) ?_
        refine Tr.va rfl (fun _ _ h1 h2 => ze (h1.ev rfl) (h1.ev rfl)) ?_
        exact Tr.nil (Tr.Qo (.cons rfl (.cons rfl (.cons rfl (.cons rfl .nil)))) (.cons rfl (.cons rfl (.cons rfl .nil))))
      ·show Tr _ _ (LF [(2, (iv p2)), (4, (.pointer (some ⟨Qt, 0, none⟩))), (7, (.pointer (some ⟨Ko, 0, none⟩))), (83, (.bool g113))]) (LE [(1, bx QM #[(iv p0.Unit), (.slice QA p0.Tools.length QB), (.slice QD p0.Steps.length QC)] 25), (2, bx Qt #[(iv p1.Kind), (sv p1.Name), (iv p1.At.X), (iv p1.At.Y), (.slice QG p1.Points.length QH), (iv p1.NX), (iv p1.NY), (.slice Qj p1.Steps.length Qi)] 46), (3, bx Ko #[(.bool QJ.name), (.bool QJ.at_), (.bool QJ.points), (.bool QJ.repeat_)] 149)]) _
       refine Tr.asg rfl rfl (Tr.nil (Tr.zA (Tr.cond rfl H (fun H => ?_) (fun H => ?_))))
       ·refine Tr.sr (Tr.asg rfl rfl (Tr.nil (Tr.zA (Tr.ret (Tr.zAB (Tr.zU ?_))))))
        obtain rfl := Option.some.inj H
        exact Tr.out (m := [(iv 1)]) [] (zP rfl zQ) (fun W hW => ⟨rfl, hW.low leB⟩)
       ·refine Tr.sr (Tr.va rfl (fun _ _ h1 h2 => zB zB5 (h1.ev rfl)) ?_)
        refine Tr.va rfl (fun _ _ h1 h2 => zC zGU (h1.ev rfl) (rdb h2 (vs := [(iv p1.Kind), (sv p1.Name), (iv p1.At.X), (iv p1.At.Y), (.slice QG p1.Points.length QH), (iv p1.NX), (iv p1.NY), (.slice Qj p1.Steps.length Qi)]) (k := 2) rfl 4) rfl) ?_
        refine Tr.va rfl (fun _ _ h1 h2 => zq zDn (h1.ev rfl)) ?_
        refine Tr.va rfl (fun _ _ h1 h2 => VI (h1.ev rfl) (h1.ev rfl)) ?_
        refine Tr.asg rfl rfl (Tr.nil (Tr.zA (Tr.cond rfl H (fun H => ?_) (fun H => ?_))))
        ·refine Tr.sr (Tr.asg rfl rfl (Tr.nil (Tr.zA (Tr.ret (Tr.zAB (Tr.zU ?_))))))
         obtain rfl := Option.some.inj H
         exact Tr.out (m := [(iv 2)]) [] (zP rfl zQ) (fun W hW => ⟨rfl, hW.low leB⟩)
        ·refine Tr.sr (Tr.va rfl (fun _ _ h1 h2 => zB fo_149_2 (h1.ev rfl)) ?_)
         refine Tr.va rfl (fun _ _ h1 h2 => zC ag_4 (h1.ev rfl) (rdb h2 (vs := [(.bool QJ.name), (.bool QJ.at_), (.bool QJ.points), (.bool QJ.repeat_)]) (k := 3) rfl 2) rfl) ?_
         refine Tr.mv rfl rfl ?_
         obtain ⟨g116, hg116, H⟩ := bnd H
         refine Tr.VR 5 [(2, (iv p2)), (4, (.pointer (some ⟨Qt, 0, none⟩))), (7, (.pointer (some ⟨Ko, 0, none⟩))), (97, (.bool g116))] [(1, bx QM #[(iv p0.Unit), (.slice QA p0.Tools.length QB), (.slice QD p0.Steps.length QC)] 25), (2, bx Qt #[(iv p1.Kind), (sv p1.Name), (iv p1.At.X), (iv p1.At.Y), (.slice QG p1.Points.length QH), (iv p1.NX), (iv p1.NY), (.slice Qj p1.Steps.length Qi)] 46), (3, bx Ko #[(.bool QJ.name), (.bool QJ.at_), (.bool QJ.points), (.bool QJ.repeat_)] 149)] ?_ ?_
         ·cases Vu : QJ.points
          ·rw [Vu] at hg116
           rw [if_neg (by decide)] at hg116
           have H := hg116
           obtain rfl := Option.some.inj H
           refine Tr.pass rfl rfl rfl rfl rfl (by decide) ?_
           refine Tr.pass rfl rfl rfl rfl rfl (by decide) ?_
           refine Tr.pass rfl rfl rfl rfl rfl (by decide) ?_
           refine Tr.pass rfl rfl rfl rfl rfl (by decide) ?_
           refine Tr.va rfl (fun _ _ h1 h2 => zf (h1.ev rfl) (h1.ev rfl)) ?_
           exact Tr.nil (Tr.Qo (.cons rfl (.cons rfl (.cons rfl (.cons rfl .nil)))) (.cons rfl (.cons rfl (.cons rfl .nil))))
          ·rw [Vu] at hg116
           rw [if_pos rfl] at hg116
           have H := hg116
           refine Tr.val (wg rfl rfl rfl) rfl (fun _ _ h1 h2 => zB zB5 (h1.ev rfl)) ?_
           refine Tr.val (wg rfl rfl rfl) rfl (fun _ _ h1 h2 => zC zGU (h1.ev rfl) (rdb h2 (vs := [(iv p1.Kind), (sv p1.Name), (iv p1.At.X), (iv p1.At.Y), (.slice QG p1.Points.length QH), (iv p1.NX), (iv p1.NY), (.slice Qj p1.Steps.length Qi)]) (k := 2) rfl 4) rfl) ?_
           obtain ⟨y117, hy117, H⟩ := bnd H
           refine Tr.Qp (r := (.bool y117)) (wg rfl rfl rfl) rfl Tryz.call100 (zF rfl zO) (fun W hW => F_shape_IsRow_ok p1.Points QG QH (QV.ext hW.QZ) y117 hy117 (HF.start _)) ?_
           refine Tr.val (wg rfl rfl rfl) rfl (fun _ _ h1 h2 => JO (h1.ev rfl)) ?_
           refine Tr.va rfl (fun _ _ h1 h2 => ze (h1.ev rfl) (h1.ev rfl)) ?_
           obtain rfl := Option.some.inj H
           exact Tr.nil (Tr.Qo (.cons rfl (.cons rfl (.cons rfl (.cons rfl .nil)))) (.cons rfl (.cons rfl (.cons rfl .nil))))
         ·show Tr _ _ (LF [(2, (iv p2)), (4, (.pointer (some ⟨Qt, 0, none⟩))), (7, (.pointer (some ⟨Ko, 0, none⟩))), (97, (.bool g116))]) (LE [(1, bx QM #[(iv p0.Unit), (.slice QA p0.Tools.length QB), (.slice QD p0.Steps.length QC)] 25), (2, bx Qt #[(iv p1.Kind), (sv p1.Name), (iv p1.At.X), (iv p1.At.Y), (.slice QG p1.Points.length QH), (iv p1.NX), (iv p1.NY), (.slice Qj p1.Steps.length Qi)] 46), (3, bx Ko #[(.bool QJ.name), (.bool QJ.at_), (.bool QJ.points), (.bool QJ.repeat_)] 149)]) _
          refine Tr.asg rfl rfl (Tr.nil (Tr.zA (Tr.cond rfl H (fun H => ?_) (fun H => ?_))))
          ·refine Tr.sr (Tr.asg rfl rfl (Tr.nil (Tr.zA (Tr.ret (Tr.zAB (Tr.zU ?_))))))
           obtain rfl := Option.some.inj H
           exact Tr.out (m := [(iv 3)]) [] (zP rfl zQ) (fun W hW => ⟨rfl, hW.low leB⟩)
          ·refine Tr.skip (Tr.zW (Tr.zA ?_))
           refine Tr.seq (Tr.sr (Tr.va rfl (fun _ _ h1 h2 => zB fo_149_3 (h1.ev rfl)) ?_))
           refine Tr.va rfl (fun _ _ h1 h2 => zC ag_4 (h1.ev rfl) (rdb h2 (vs := [(.bool QJ.name), (.bool QJ.at_), (.bool QJ.points), (.bool QJ.repeat_)]) (k := 3) rfl 3) rfl) ?_
           refine Tr.va rfl (fun _ _ h1 h2 => JO (h1.ev rfl)) ?_
           refine Tr.nil (Tr.zA (Tr.cond rfl H (fun H => ?_) (fun H => ?_)))
           ·refine Tr.sr (Tr.asg rfl rfl (Tr.nil (Tr.zA (Tr.ret (Tr.zU ?_)))))
            obtain rfl := Option.some.inj H
            exact Tr.out (m := [(iv 0)]) [] (zP rfl zQ) (fun W hW => ⟨rfl, hW.low leB⟩)
           ·refine Tr.skip (Tr.zA (Tr.seq (Tr.block (Tr.sr (Tr.va rfl (fun _ _ h1 h2 => zB zGv (h1.ev rfl)) ?_)))))
            refine Tr.va rfl (fun _ _ h1 h2 => zC QO (h1.ev rfl) (rdb h2 (vs := [(iv p1.Kind), (sv p1.Name), (iv p1.At.X), (iv p1.At.Y), (.slice QG p1.Points.length QH), (iv p1.NX), (iv p1.NY), (.slice Qj p1.Steps.length Qi)]) (k := 2) rfl 5) rfl) ?_
            obtain ⟨y118, hy118, H⟩ := bnd H
            refine Tr.Qp (r := (.bool y118)) (wn rfl) rfl Tryz.call22 (zF rfl (zF rfl (zF rfl zO))) (fun W hW => Vb p1.NX 1 100 y118 hy118 (HF.start _)) ?_
            refine Tr.va rfl (fun _ _ h1 h2 => JO (h1.ev rfl)) ?_
            refine Tr.mv rfl rfl ?_
            obtain ⟨g120, hg120, H⟩ := bnd H
            refine Tr.VR 5 [(2, (iv p2)), (4, (.pointer (some ⟨Qt, 0, none⟩))), (111, (.bool g120))] [(1, bx QM #[(iv p0.Unit), (.slice QA p0.Tools.length QB), (.slice QD p0.Steps.length QC)] 25), (2, bx Qt #[(iv p1.Kind), (sv p1.Name), (iv p1.At.X), (iv p1.At.Y), (.slice QG p1.Points.length QH), (iv p1.NX), (iv p1.NY), (.slice Qj p1.Steps.length Qi)] 46), (3, bx Ko #[(.bool QJ.name), (.bool QJ.at_), (.bool QJ.points), (.bool QJ.repeat_)] 149)] ?_ ?_
            ·cases Vu : (!y118)
             ·rw [Vu] at hg120
              rw [if_neg (by decide)] at hg120
              have H := hg120
              refine Tr.val (wg rfl rfl rfl) rfl (fun _ _ h1 h2 => zB zGu (h1.ev rfl)) ?_
              refine Tr.val (wg rfl rfl rfl) rfl (fun _ _ h1 h2 => zC QO (h1.ev rfl) (rdb h2 (vs := [(iv p1.Kind), (sv p1.Name), (iv p1.At.X), (iv p1.At.Y), (.slice QG p1.Points.length QH), (iv p1.NX), (iv p1.NY), (.slice Qj p1.Steps.length Qi)]) (k := 2) rfl 6) rfl) ?_
              obtain ⟨zHg, hy121, H⟩ := bnd H
              refine Tr.Qp (r := (.bool zHg)) (wg rfl rfl rfl) rfl Tryz.call22 (zF rfl (zF rfl (zF rfl zO))) (fun W hW => Vb p1.NY 1 100 zHg hy121 (HF.start _)) ?_
              refine Tr.val (wg rfl rfl rfl) rfl (fun _ _ h1 h2 => JO (h1.ev rfl)) ?_
              refine Tr.va rfl (fun _ _ h1 h2 => zf (h1.ev rfl) (h1.ev rfl)) ?_
              obtain rfl := Option.some.inj H
              exact Tr.nil (Tr.Qo (.cons rfl (.cons rfl (.cons rfl .nil))) (.cons rfl (.cons rfl (.cons rfl .nil))))
             ·rw [Vu] at hg120
              rw [if_pos rfl] at hg120
              have H := hg120
              obtain rfl := Option.some.inj H
              refine Tr.pass rfl rfl rfl rfl rfl (by decide) ?_
              refine Tr.pass rfl rfl rfl rfl rfl (by decide) ?_
              refine Tr.pass rfl rfl rfl rfl rfl (by decide) ?_
              refine Tr.pass rfl rfl rfl rfl rfl (by decide) ?_
              refine Tr.va rfl (fun _ _ h1 h2 => ze (h1.ev rfl) (h1.ev rfl)) ?_
              exact Tr.nil (Tr.Qo (.cons rfl (.cons rfl (.cons rfl .nil))) (.cons rfl (.cons rfl (.cons rfl .nil))))
            ·show Tr _ _ (LF [(2, (iv p2)), (4, (.pointer (some ⟨Qt, 0, none⟩))), (111, (.bool g120))]) (LE [(1, bx QM #[(iv p0.Unit), (.slice QA p0.Tools.length QB), (.slice QD p0.Steps.length QC)] 25), (2, bx Qt #[(iv p1.Kind), (sv p1.Name), (iv p1.At.X), (iv p1.At.Y), (.slice QG p1.Points.length QH), (iv p1.NX), (iv p1.NY), (.slice Qj p1.Steps.length Qi)] 46), (3, bx Ko #[(.bool QJ.name), (.bool QJ.at_), (.bool QJ.points), (.bool QJ.repeat_)] 149)]) _
             refine Tr.asg rfl rfl (Tr.nil (Tr.zA (Tr.cond rfl H (fun H => ?_) (fun H => ?_))))
             ·refine Tr.sr (Tr.asg rfl rfl (Tr.nil (Tr.zA (Tr.ret (Tr.zAB (Tr.zU ?_))))))
              obtain rfl := Option.some.inj H
              exact Tr.out (m := [(iv 1)]) [] (zP rfl zQ) (fun W hW => ⟨rfl, hW.low leB⟩)
             ·refine Tr.sr (Tr.va rfl (fun _ _ h1 h2 => zB zC1 (h1.ev rfl)) ?_)
              refine Tr.va rfl (fun _ _ h1 h2 => zC zDu (h1.ev rfl) (rdb h2 (vs := [(iv p1.Kind), (sv p1.Name), (iv p1.At.X), (iv p1.At.Y), (.slice QG p1.Points.length QH), (iv p1.NX), (iv p1.NY), (.slice Qj p1.Steps.length Qi)]) (k := 2) rfl 7) rfl) ?_
              refine Tr.va rfl (fun _ _ h1 h2 => zq zGC (h1.ev rfl)) ?_
              refine Tr.va rfl (fun _ _ h1 h2 => Qk (h1.ev rfl) (h1.ev rfl)) ?_
              refine Tr.asg rfl rfl (Tr.nil (Tr.zA (Tr.cond rfl H (fun H => ?_) (fun H => ?_))))
              ·refine Tr.sr (Tr.asg rfl rfl (Tr.nil (Tr.zA (Tr.ret (Tr.zAB (Tr.zU ?_))))))
               obtain rfl := Option.some.inj H
               exact Tr.out (m := [(iv 9)]) [] (zP rfl zQ) (fun W hW => ⟨rfl, hW.low leB⟩)
              ·refine Tr.sr (Tr.mv rfl rfl (Tr.va rfl (fun _ _ h1 h2 => zEU (h1.ev rfl) (h1.ev rfl)) ?_))
               refine Tr.asg rfl rfl (Tr.nil (Tr.zA (Tr.cond rfl H (fun H => ?_) (fun H => ?_))))
               ·refine Tr.sr (Tr.asg rfl rfl (Tr.nil (Tr.zA (Tr.ret (Tr.zAB (Tr.zU ?_))))))
                obtain rfl := Option.some.inj H
                exact Tr.out (m := [(iv 2)]) [] (zP rfl zQ) (fun W hW => ⟨rfl, hW.low leB⟩)
               ·refine Tr.skip (Tr.zW (Tr.zA ?_))
                refine Tr.sr (Tr.asg rfl rfl (Tr.nil (Tr.zA (Tr.ret ?_))))
                obtain rfl := Option.some.inj H
                exact Tr.out (m := [(iv 0)]) [] (zP rfl zQ) (fun W hW => ⟨rfl, hW.low leB⟩)

theorem zHC (N : Nat) (rec : zt → (List zD) → Int → Option Int) (hrec : ∀ {w : Bs} (p0 : zt) (QA : Option Addr) (QB : Nat) (QE : Sl w.R w.W zK QA QB p0.Tools) (QD : Option Addr) (QC : Nat) (QU : Sl w.R w.W zG QD QC p0.Steps) (p1 : (List zD)) (QG : Option Addr) (QH : Nat) (QV : Sl w.R w.W zG QG QH p1) (p2 : Int) (r : Int) (H : rec p0 p1 p2 = some r) (hE : HF w w.W E0), Calls Tryz.prog 43 [(.agg #[(iv p0.Unit), (.slice QA p0.Tools.length QB), (.slice QD p0.Steps.length QC)]), (.slice QG p1.length QH), (iv p2)].toArray w.W fun e W' => e = .returned (iv r) ∧ HF w W' E0) {w : Bs} (p0 : zt) (QA : Option Addr) (QB : Nat) (QE : Sl w.R w.W zK QA QB p0.Tools) (QD : Option Addr) (QC : Nat) (QU : Sl w.R w.W zG QD QC p0.Steps) (p1 : (List zD)) (QG : Option Addr) (QH : Nat) (QV : Sl w.R w.W zG QG QH p1) (p2 : Int) (r : Int) (H : zCK N rec p0 p1 p2 = some r) (hE : HF w w.W E0) : Calls Tryz.prog 43 [(.agg #[(iv p0.Unit), (.slice QA p0.Tools.length QB), (.slice QD p0.Steps.length QC)]), (.slice QG p1.length QH), (iv p2)].toArray w.W fun e W' => e = .returned (iv r) ∧ HF w W' E0 := by
 unfold zCK at H
 have leB := Bs.Le.refl w
 refine Tr.enter (n := 34) Tryz.func43 rfl rfl rfl hE ?_
 refine Tr.sr (Tr.box 1 (cs := [(iv p0.Unit), (.slice QA p0.Tools.length QB), (.slice QD p0.Steps.length QC)]) (wn rfl) rfl rfl rfl fun QM => ?_)
 refine Tr.asg rfl rfl (Tr.nil (Tr.zA (Tr.seq (Tr.sr (Tr.mv rfl rfl (Tr.va rfl (fun _ _ h1 h2 => zq zGC (h1.ev rfl)) ?_))))))
 refine Tr.mv rfl rfl (Tr.nil (Tr.zA (Tr.block (Tr.loop (σ := (List zD) × Nat) (fun m w s => m = s.1.length + 1 ∧ s.1 = List.drop s.2 p1 ∧ s.2 ≤ p1.length ∧ Ju p0 p2 rec s.1 s.2 = some r) (fun s => [(2, (iv p2)), (3, (.pointer (some ⟨QM, 0, none⟩))), (11, (.slice QG p1.length QH)), (12, (iv (p1.length : Int))), (13, (iv (s.2 : Int)))]) (fun s => [(1, bx QM #[(iv p0.Unit), (.slice QA p0.Tools.length QB), (.slice QD p0.Steps.length QC)] 25)]) (p1.length + 1) (p1, 0) ⟨rfl, rfl, Nat.zero_le _, H⟩ (.cons rfl (.cons rfl (.cons rfl (.cons rfl (.cons rfl .nil))))) (.cons rfl .nil) (fun _ _ h => absurd h.1 (by simp)) ?_))))
 intro w QW m s hs
 obtain ⟨QF, iL1⟩ := s
 obtain ⟨KJ, QP, hiL1, H⟩ := hs
 replace QP : QF = List.drop iL1 p1 := QP
 replace H : Ju p0 p2 rec QF iL1 = some r := H
 replace KJ : m + 1 = QF.length + 1 := KJ
 replace QE := QE.leR QW
 replace QU := QU.leR QW
 replace QV := QV.leR QW
 replace leB := leB.trans QW
 obtain rfl : m = QF.length := by omega
 clear KJ
 show Tr _ _ (LF [(2, (iv p2)), (3, (.pointer (some ⟨QM, 0, none⟩))), (11, (.slice QG p1.length QH)), (12, (iv (p1.length : Int))), (13, (iv (iL1 : Int)))]) (LE [(1, bx QM #[(iv p0.Unit), (.slice QA p0.Tools.length QB), (.slice QD p0.Steps.length QC)] 25)]) _
 cases QF with
 | nil =>
  rw [Ju.eq_1] at H
  refine Tr.sr (Tr.va rfl (fun _ _ h1 h2 => zz (h1.ev rfl) (h1.ev rfl)) ?_)
  refine Tr.nil (Tr.zA (Tr.seq (Tr.WJ rfl (Qy QP) ?_)))
  refine Tr.exit (Tr.zX (Tr.zX (Tr.zAC (Tr.zA (Tr.sr (Tr.asg rfl rfl (Tr.nil (Tr.zA (Tr.ret ?_)))))))))
  obtain rfl := Option.some.inj H
  exact Tr.out (m := [(iv 0)]) [] (zP rfl zQ) (fun W hW => ⟨rfl, hW.low leB⟩)
 | cons xL1 QF =>
  rw [Ju.eq_2] at H
  refine Tr.sr (Tr.va rfl (fun _ _ h1 h2 => zz (h1.ev rfl) (h1.ev rfl)) ?_)
  refine Tr.nil (Tr.zA (Tr.seq (Tr.WI rfl (Jg QP) ?_)))
  refine Tr.skip (Tr.zA (Tr.seq (Tr.block (Tr.sr ?_))))
  obtain ⟨u107, hRu107, hoku107, hcu107⟩ := (QV).el (Js QP)
  obtain ⟨⟨zCe, zCc⟩, ⟨zEj, zEa⟩⟩ := u107
  obtain ⟨zDS, zIY⟩ := Vh.1 hoku107
  replace zDS : Sl w.R w.W zy zCe zCc xL1.Points := zDS
  replace zIY : Sl w.R w.W zG zEj zEa xL1.Steps := zIY
  refine Tr.va rfl (fun _ _ h1 h2 => zH zH0 (h1.ev rfl) QV.form (h1.ev rfl) (Int.natCast_nonneg _) (zo QP)) ?_
  refine Tr.va rfl (fun _ _ h1 h2 => zR (cs := [(iv xL1.Kind), (sv xL1.Name), (iv xL1.At.X), (iv xL1.At.Y), (.slice zCe xL1.Points.length zCc), (iv xL1.NX), (iv xL1.NY), (.slice zEj xL1.Steps.length zEa)]) zKY zEH (h1.ev rfl) (zL.take (rdR hRu107 hcu107 h2) 8) rfl) ?_
  refine Tr.alloc 3 (wn rfl) rfl ze_46 fun b108 => ?_
  refine Tr.store 3 (cs := [(iv xL1.Kind), (sv xL1.Name), (iv xL1.At.X), (iv xL1.At.Y), (.slice zCe xL1.Points.length zCc), (iv xL1.NX), (iv xL1.NY), (.slice zEj xL1.Steps.length zEa)]) [(iv xL1.Kind), (sv xL1.Name), (iv xL1.At.X), (iv xL1.At.Y), (.slice zCe xL1.Points.length zCc), (iv xL1.NX), (iv xL1.NY), (.slice zEj xL1.Steps.length zEa)] (wn rfl) rfl rfl rfl rfl zEH rfl rfl rfl ?_
  refine Tr.nil (Tr.zA (Tr.seq (Tr.sr (Tr.va rfl (fun _ _ h1 h2 => zR (cs := [(iv p0.Unit), (.slice QA p0.Tools.length QB), (.slice QD p0.Steps.length QC)]) WK KR (h1.ev rfl) (zL.take (rdb h2 (vs := [(iv p0.Unit), (.slice QA p0.Tools.length QB), (.slice QD p0.Steps.length QC)]) (k := 1) rfl 0) 3) rfl) ?_))))
  refine Tr.va rfl (fun _ _ h1 h2 => zR (cs := [(iv xL1.Kind), (sv xL1.Name), (iv xL1.At.X), (iv xL1.At.Y), (.slice zCe xL1.Points.length zCc), (iv xL1.NX), (iv xL1.NY), (.slice zEj xL1.Steps.length zEa)]) zKY zEH (h1.ev rfl) (zL.take (rdb h2 (vs := [(iv xL1.Kind), (sv xL1.Name), (iv xL1.At.X), (iv xL1.At.Y), (.slice zCe xL1.Points.length zCc), (iv xL1.NX), (iv xL1.NY), (.slice zEj xL1.Steps.length zEa)]) (k := 3) rfl 0) 8) rfl) ?_
  refine Tr.mv rfl rfl ?_
  obtain ⟨zF8, hy109, H⟩ := bnd H
  refine Tr.Qp (r := (iv zF8)) (wn rfl) rfl Tryz.call74 (zF rfl (zF rfl (zF rfl zO))) (fun W hW => zI6 p0 QA QB (QE.ext hW.QZ) QD QC (QU.ext hW.QZ) xL1 zCe zCc (zDS.ext hW.QZ) zEj zEa (zIY.ext hW.QZ) p2 zF8 hy109 (HF.start _)) ?_
  refine Tr.asg rfl rfl (Tr.nil (Tr.zA (Tr.sr (Tr.mv rfl rfl (Tr.va rfl (fun _ _ h1 h2 => Jv (h1.ev rfl) (h1.ev rfl)) ?_)))))
  refine Tr.nil (Tr.zA (Tr.cond rfl H (fun H => ?_) (fun H => ?_)))
  ·refine Tr.sr (Tr.mv rfl rfl (Tr.asg rfl rfl (Tr.nil (Tr.zA (Tr.ret (Tr.zU (Tr.zAB (Tr.zU (Tr.zU (Tr.zAB (Tr.zU ?_)))))))))))
   obtain rfl := Option.some.inj H
   exact Tr.out (m := [(iv zF8)]) [] (zP rfl zQ) (fun W hW => ⟨rfl, hW.low leB⟩)
  ·refine Tr.skip (Tr.zA (Tr.sr (Tr.va rfl (fun _ _ h1 h2 => zR (cs := [(iv p0.Unit), (.slice QA p0.Tools.length QB), (.slice QD p0.Steps.length QC)]) WK KR (h1.ev rfl) (zL.take (rdb h2 (vs := [(iv p0.Unit), (.slice QA p0.Tools.length QB), (.slice QD p0.Steps.length QC)]) (k := 1) rfl 0) 3) rfl) ?_)))
   refine Tr.va rfl (fun _ _ h1 h2 => zB zC1 (h1.ev rfl)) ?_
   refine Tr.va rfl (fun _ _ h1 h2 => zC zDu (h1.ev rfl) (rdb h2 (vs := [(iv xL1.Kind), (sv xL1.Name), (iv xL1.At.X), (iv xL1.At.Y), (.slice zCe xL1.Points.length zCc), (iv xL1.NX), (iv xL1.NY), (.slice zEj xL1.Steps.length zEa)]) (k := 3) rfl 7) rfl) ?_
   refine Tr.mv rfl rfl (Tr.va rfl (fun _ _ h1 h2 => zx (h1.ev rfl) (h1.ev rfl)) ?_)
   obtain ⟨zBj, zKB, H⟩ := bnd H
   refine Tr.Qp (r := (iv zBj)) (wn rfl) rfl Tryz.call43 (zF rfl (zF rfl (zF rfl zO))) (fun W hW => hrec p0 QA QB (QE.ext hW.QZ) QD QC (QU.ext hW.QZ) xL1.Steps zEj zEa (zIY.ext hW.QZ) (w64 (p2 + 1)) zBj zKB (HF.start _)) ?_
   refine Tr.asg rfl rfl (Tr.nil (Tr.zA (Tr.sr (Tr.mv rfl rfl (Tr.va rfl (fun _ _ h1 h2 => Jv (h1.ev rfl) (h1.ev rfl)) ?_)))))
   refine Tr.nil (Tr.zA (Tr.cond rfl H (fun H => ?_) (fun H => ?_)))
   ·refine Tr.sr (Tr.mv rfl rfl (Tr.asg rfl rfl (Tr.nil (Tr.zA (Tr.ret (Tr.zAB (Tr.zU (Tr.zU (Tr.zAB (Tr.zU ?_))))))))))
    obtain rfl := Option.some.inj H
    exact Tr.out (m := [(iv zBj)]) [] (zP rfl zQ) (fun W hW => ⟨rfl, hW.low leB⟩)
   ·refine Tr.skip (Tr.zW (Tr.zA ?_))
    refine Tr.region (Tr.va rfl (fun _ _ h1 h2 => zx (h1.ev rfl) (h1.ev rfl)) ?_)
    exact Tr.mv rfl rfl (Tr.nil (Tr.zZ QW (QF, (iL1 + 1)) ⟨rfl, Qg QP, zo QP, H⟩ (.cons rfl (.cons rfl (.cons rfl (.cons rfl (.cons (congrArg (fun z => some (Value.int .i64 z)) (Qf QP QV.form)) .nil))))) (.cons rfl .nil)))
theorem zDz : ∀ (N : Nat) {w : Bs} (p0 : zt) (QA : Option Addr) (QB : Nat) (QE : Sl w.R w.W zK QA QB p0.Tools) (QD : Option Addr) (QC : Nat) (QU : Sl w.R w.W zG QD QC p0.Steps) (p1 : (List zD)) (QG : Option Addr) (QH : Nat) (QV : Sl w.R w.W zG QG QH p1) (p2 : Int) (r : Int) (H : zAa N p0 p1 p2 = some r) (hE : HF w w.W E0), Calls Tryz.prog 43 [(.agg #[(iv p0.Unit), (.slice QA p0.Tools.length QB), (.slice QD p0.Steps.length QC)]), (.slice QG p1.length QH), (iv p2)].toArray w.W fun e W' => e = .returned (iv r) ∧ HF w W' E0
 | 0 => by intros; rename_i H _; cases H
 | N + 1 => zHC N (zAa N) (zDz N)

theorem zAf (N : Nat) {w : Bs} (p0 : zt) (QA : Option Addr) (QB : Nat) (QE : Sl w.R w.W zK QA QB p0.Tools) (QD : Option Addr) (QC : Nat) (QU : Sl w.R w.W zG QD QC p0.Steps) (r : Int) (H : Jm N p0 = some r) (hE : HF w w.W E0) : Calls Tryz.prog 21 [(.agg #[(iv p0.Unit), (.slice QA p0.Tools.length QB), (.slice QD p0.Steps.length QC)])].toArray w.W fun e W' => e = .returned (iv r) ∧ HF w W' E0 := by
 unfold Jm at H
 have leB := Bs.Le.refl w
 refine Tr.enter (n := 52) Tryz.func21 rfl rfl rfl hE ?_
 refine Tr.sr (Tr.box 1 (cs := [(iv p0.Unit), (.slice QA p0.Tools.length QB), (.slice QD p0.Steps.length QC)]) (wn rfl) rfl rfl rfl fun QM => ?_)
 refine Tr.asg rfl rfl (Tr.nil (Tr.zA (Tr.seq (Tr.sr (Tr.va rfl (fun _ _ h1 h2 => zB Vg (h1.ev rfl)) ?_)))))
 refine Tr.va rfl (fun _ _ h1 h2 => zC QO (h1.ev rfl) (rdb h2 (vs := [(iv p0.Unit), (.slice QA p0.Tools.length QB), (.slice QD p0.Steps.length QC)]) (k := 1) rfl 0) rfl) ?_
 obtain ⟨y101, hy101, H⟩ := bnd H
 refine Tr.Qp (r := (.bool y101)) (wn rfl) rfl Tryz.call22 (zF rfl (zF rfl (zF rfl zO))) (fun W hW => Vb p0.Unit 1 1000 y101 hy101 (HF.start _)) ?_
 refine Tr.va rfl (fun _ _ h1 h2 => JO (h1.ev rfl)) ?_
 refine Tr.nil (Tr.zA (Tr.cond rfl H (fun H => ?_) (fun H => ?_)))
 ·refine Tr.sr (Tr.asg rfl rfl (Tr.nil (Tr.zA (Tr.ret (Tr.zU ?_)))))
  obtain rfl := Option.some.inj H
  exact Tr.out (m := [(iv 1)]) [] (zP rfl zQ) (fun W hW => ⟨rfl, hW.low leB⟩)
 ·refine Tr.skip (Tr.zA (Tr.seq (Tr.sr (Tr.va rfl (fun _ _ h1 h2 => zB zBZ (h1.ev rfl)) ?_))))
  refine Tr.va rfl (fun _ _ h1 h2 => zC zFn (h1.ev rfl) (rdb h2 (vs := [(iv p0.Unit), (.slice QA p0.Tools.length QB), (.slice QD p0.Steps.length QC)]) (k := 1) rfl 1) rfl) ?_
  refine Tr.va rfl (fun _ _ h1 h2 => zq zHi (h1.ev rfl)) ?_
  refine Tr.va rfl (fun _ _ h1 h2 => VI (h1.ev rfl) (h1.ev rfl)) ?_
  refine Tr.nil (Tr.zA (Tr.cond rfl H (fun H => ?_) (fun H => ?_)))
  ·refine Tr.sr (Tr.asg rfl rfl (Tr.nil (Tr.zA (Tr.ret (Tr.zU ?_)))))
   obtain rfl := Option.some.inj H
   exact Tr.out (m := [(iv 2)]) [] (zP rfl zQ) (fun W hW => ⟨rfl, hW.low leB⟩)
  ·refine Tr.skip (Tr.zA (Tr.seq (Tr.sr (Tr.va rfl (fun _ _ h1 h2 => zB zBZ (h1.ev rfl)) ?_))))
   refine Tr.va rfl (fun _ _ h1 h2 => zC zFn (h1.ev rfl) (rdb h2 (vs := [(iv p0.Unit), (.slice QA p0.Tools.length QB), (.slice QD p0.Steps.length QC)]) (k := 1) rfl 1) rfl) ?_
   refine Tr.va rfl (fun _ _ h1 h2 => zq zHi (h1.ev rfl)) ?_
   refine Tr.mv rfl rfl (Tr.nil (Tr.zA (Tr.block (Tr.loop (σ := (List zS) × Nat) (fun m w s => m = s.1.length + 1 ∧ s.1 = List.drop s.2 p0.Tools ∧ s.2 ≤ p0.Tools.length ∧ Jh N p0 s.1 s.2 = some r) (fun s => [(1, (.pointer (some ⟨QM, 0, none⟩))), (15, (.slice QA p0.Tools.length QB)), (16, (iv (p0.Tools.length : Int))), (17, (iv (s.2 : Int)))]) (fun s => [(1, bx QM #[(iv p0.Unit), (.slice QA p0.Tools.length QB), (.slice QD p0.Steps.length QC)] 25)]) (p0.Tools.length + 1) (p0.Tools, 0) ⟨rfl, rfl, Nat.zero_le _, H⟩ (.cons rfl (.cons rfl (.cons rfl (.cons rfl .nil)))) (.cons rfl .nil) (fun _ _ h => absurd h.1 (by simp)) ?_))))
   intro w QW m s hs
   obtain ⟨QF, iL1⟩ := s
   obtain ⟨KJ, QP, hiL1, H⟩ := hs
   replace QP : QF = List.drop iL1 p0.Tools := QP
   replace H : Jh N p0 QF iL1 = some r := H
   replace KJ : m + 1 = QF.length + 1 := KJ
   replace QE := QE.leR QW
   replace QU := QU.leR QW
   replace leB := leB.trans QW
   obtain rfl : m = QF.length := by omega
   clear KJ
   show Tr _ _ (LF [(1, (.pointer (some ⟨QM, 0, none⟩))), (15, (.slice QA p0.Tools.length QB)), (16, (iv (p0.Tools.length : Int))), (17, (iv (iL1 : Int)))]) (LE [(1, bx QM #[(iv p0.Unit), (.slice QA p0.Tools.length QB), (.slice QD p0.Steps.length QC)] 25)]) _
   cases QF with
   | nil =>
    rw [Jh.eq_1] at H
    refine Tr.sr (Tr.va rfl (fun _ _ h1 h2 => zz (h1.ev rfl) (h1.ev rfl)) ?_)
    refine Tr.nil (Tr.zA (Tr.seq (Tr.WJ rfl (Qy QP) ?_)))
    refine Tr.exit (Tr.zX (Tr.zX (Tr.zAC (Tr.zA (Tr.seq (Tr.sr (Tr.va rfl (fun _ _ h1 h2 => zB zGx (h1.ev rfl)) ?_)))))))
    refine Tr.va rfl (fun _ _ h1 h2 => zC zDu (h1.ev rfl) (rdb h2 (vs := [(iv p0.Unit), (.slice QA p0.Tools.length QB), (.slice QD p0.Steps.length QC)]) (k := 1) rfl 2) rfl) ?_
    obtain ⟨y112, hy112, H⟩ := bnd H
    refine Tr.Qp (r := (iv y112)) (wn rfl) rfl Tryz.call42 (zF rfl zO) (fun W hW => zHP N p0.Steps QD QC (QU.ext hW.QZ) y112 hy112 (HF.start _)) ?_
    refine Tr.va rfl (fun _ _ h1 h2 => VI (h1.ev rfl) (h1.ev rfl)) ?_
    refine Tr.nil (Tr.zA (Tr.cond rfl H (fun H => ?_) (fun H => ?_)))
    ·refine Tr.sr (Tr.asg rfl rfl (Tr.nil (Tr.zA (Tr.ret (Tr.zU ?_)))))
     obtain rfl := Option.some.inj H
     exact Tr.out (m := [(iv 2)]) [] (zP rfl zQ) (fun W hW => ⟨rfl, hW.low leB⟩)
    ·refine Tr.skip (Tr.zA (Tr.sr (Tr.va rfl (fun _ _ h1 h2 => zR (cs := [(iv p0.Unit), (.slice QA p0.Tools.length QB), (.slice QD p0.Steps.length QC)]) WK KR (h1.ev rfl) (zL.take (rdb h2 (vs := [(iv p0.Unit), (.slice QA p0.Tools.length QB), (.slice QD p0.Steps.length QC)]) (k := 1) rfl 0) 3) rfl) ?_)))
     refine Tr.va rfl (fun _ _ h1 h2 => zB zGx (h1.ev rfl)) ?_
     refine Tr.va rfl (fun _ _ h1 h2 => zC zDu (h1.ev rfl) (rdb h2 (vs := [(iv p0.Unit), (.slice QA p0.Tools.length QB), (.slice QD p0.Steps.length QC)]) (k := 1) rfl 2) rfl) ?_
     obtain ⟨y113, hy113, H⟩ := bnd H
     refine Tr.Qp (r := (iv y113)) (wn rfl) rfl Tryz.call43 (zF rfl (zF rfl (zF rfl zO))) (fun W hW => zDz N p0 QA QB (QE.ext hW.QZ) QD QC (QU.ext hW.QZ) p0.Steps QD QC (QU.ext hW.QZ) 0 y113 hy113 (HF.start _)) ?_
     refine Tr.asg rfl rfl (Tr.nil (Tr.zA (Tr.ret ?_)))
     obtain rfl := Option.some.inj H
     exact Tr.out (m := [(iv y113)]) [] (zP rfl zQ) (fun W hW => ⟨rfl, hW.low leB⟩)
   | cons xL1 QF =>
    rw [Jh.eq_2] at H
    refine Tr.sr (Tr.va rfl (fun _ _ h1 h2 => zz (h1.ev rfl) (h1.ev rfl)) ?_)
    refine Tr.nil (Tr.zA (Tr.seq (Tr.WI rfl (Jg QP) ?_)))
    refine Tr.skip (Tr.zA (Tr.seq (Tr.block (Tr.sr (Tr.mv rfl rfl ?_)))))
    obtain ⟨u114, hRu114, hoku114, hcu114⟩ := (QE).el (Js QP)
    obtain ⟨zFv, zFl⟩ := u114
    have hoku114_0 := hoku114
    replace hoku114_0 : Sl w.R w.W zN zFv zFl xL1.Rects := hoku114_0
    refine Tr.va rfl (fun _ _ h1 h2 => zH zGQ (h1.ev rfl) QE.form (h1.ev rfl) (Int.natCast_nonneg _) (zo QP)) ?_
    refine Tr.va rfl (fun _ _ h1 h2 => zR (cs := [(sv xL1.Name), (.slice zFv xL1.Rects.length zFl)]) ag_64 zJq (h1.ev rfl) (zL.take (rdR hRu114 hcu114 h2) 2) rfl) ?_
    refine Tr.alloc 3 (wn rfl) rfl ze_64 fun zJc => ?_
    refine Tr.asg rfl rfl (Tr.store 3 (cs := [(sv xL1.Name), (.slice zFv xL1.Rects.length zFl)]) [(sv xL1.Name), (.slice zFv xL1.Rects.length zFl)] (wn rfl) rfl rfl rfl rfl zJq rfl rfl rfl ?_)
    refine Tr.nil (Tr.zA (Tr.seq (Tr.sr (Tr.va rfl (fun _ _ h1 h2 => zR (cs := [(sv xL1.Name), (.slice zFv xL1.Rects.length zFl)]) ag_64 zJq (h1.ev rfl) (zL.take (rdb h2 (vs := [(sv xL1.Name), (.slice zFv xL1.Rects.length zFl)]) (k := 3) rfl 0) 2) rfl) ?_))))
    refine Tr.va rfl (fun _ _ h1 h2 => zB Vg (h1.ev rfl)) ?_
    refine Tr.va rfl (fun _ _ h1 h2 => zC QO (h1.ev rfl) (rdb h2 (vs := [(iv p0.Unit), (.slice QA p0.Tools.length QB), (.slice QD p0.Steps.length QC)]) (k := 1) rfl 0) rfl) ?_
    obtain ⟨zD7, hy116, H⟩ := bnd H
    refine Tr.Qp (r := (iv zD7)) (wn rfl) rfl Tryz.call41 (zF rfl (zF rfl zO)) (fun W hW => zI5 N xL1 zFv zFl (hoku114_0.ext hW.QZ) p0.Unit zD7 hy116 (HF.start _)) ?_
    refine Tr.asg rfl rfl (Tr.nil (Tr.zA (Tr.sr (Tr.mv rfl rfl (Tr.va rfl (fun _ _ h1 h2 => Jv (h1.ev rfl) (h1.ev rfl)) ?_)))))
    refine Tr.nil (Tr.zA (Tr.cond rfl H (fun H => ?_) (fun H => ?_)))
    ·refine Tr.sr (Tr.mv rfl rfl (Tr.asg rfl rfl (Tr.nil (Tr.zA (Tr.ret (Tr.zU (Tr.zAB (Tr.zU (Tr.zU (Tr.zAB (Tr.zU ?_)))))))))))
     obtain rfl := Option.some.inj H
     exact Tr.out (m := [(iv zD7)]) [] (zP rfl zQ) (fun W hW => ⟨rfl, hW.low leB⟩)
    ·refine Tr.skip (Tr.zA (Tr.seq (Tr.draw (by kernel_rfl) (by kernel_rfl) ?_)))
     refine Tq.mv rfl rfl (Tq.va rfl (fun _ _ h1 h2 => VI (h1.ev rfl) (h1.ev rfl)) ?_)
     refine Tq.mv rfl rfl ?_
     obtain ⟨g119, hg119, H⟩ := bnd H
     refine Tq.mid 11 [(1, (.pointer (some ⟨QM, 0, none⟩))), (15, (.slice QA p0.Tools.length QB)), (16, (iv (p0.Tools.length : Int))), (17, (iv (iL1 : Int))), (42, (.bool g119))] ?_ ?_
     ·cases Vu : (decide (0 < (iL1 : Int)))
      ·rw [Vu] at hg119
       rw [if_neg (by decide)] at hg119
       have H := hg119
       obtain rfl := Option.some.inj H
       refine Tq.pass rfl rfl rfl rfl rfl (by decide) ?_
       refine Tq.pass rfl rfl rfl rfl rfl (by decide) ?_
       refine Tq.pass rfl rfl rfl rfl rfl (by decide) ?_
       refine Tq.pass rfl rfl rfl rfl rfl (by decide) ?_
       refine Tq.pass rfl rfl rfl rfl rfl (by decide) ?_
       refine Tq.pass rfl rfl rfl rfl rfl (by decide) ?_
       refine Tq.pass rfl rfl rfl rfl rfl (by decide) ?_
       refine Tq.pass rfl rfl rfl rfl rfl (by decide) ?_
       refine Tq.pass rfl rfl rfl rfl rfl (by decide) ?_
       refine Tq.pass rfl rfl rfl rfl rfl (by decide) ?_
       refine Tq.va rfl (fun _ _ h1 h2 => zf (h1.ev rfl) (h1.ev rfl)) ?_
       exact Tq.fin (.cons rfl (.cons rfl (.cons rfl (.cons rfl (.cons rfl .nil)))))
      ·rw [Vu] at hg119
       rw [if_pos rfl] at hg119
       have H := hg119
       refine Tq.val (wg rfl rfl rfl) rfl (fun _ _ h1 h2 => zB zGt (h1.ev rfl)) ?_
       refine Tq.val (wg rfl rfl rfl) rfl (fun _ _ h1 h2 => zC zKX (h1.ev rfl) (rdb h2 (vs := [(sv xL1.Name), (.slice zFv xL1.Rects.length zFl)]) (k := 3) rfl 0) rfl) ?_
       refine Tq.val (wg rfl rfl rfl) rfl (fun _ _ h1 h2 => zB zBZ (h1.ev rfl)) ?_
       refine Tq.val (wg rfl rfl rfl) rfl (fun _ _ h1 h2 => zC zFn (h1.ev rfl) (rdb h2 (vs := [(iv p0.Unit), (.slice QA p0.Tools.length QB), (.slice QD p0.Steps.length QC)]) (k := 1) rfl 1) rfl) ?_
       refine Tq.val (wg rfl rfl rfl) rfl (fun _ _ h1 h2 => run_move (h1.ev rfl)) ?_
       refine Tq.val (wg rfl rfl rfl) rfl (fun _ _ h1 h2 => Wm (h1.ev rfl) (h1.ev rfl)) ?_
       obtain ⟨x120, hx120, H⟩ := bnd H
       obtain ⟨hx1200, hx1201, hx1202⟩ := zh hx120
       obtain ⟨u121, hRu121, hoku121, hcu121⟩ := (QE).el hx1202
       obtain ⟨Au121_0, cu121_0⟩ := u121
       have hoku121_0 := hoku121
       refine Tq.val (wg rfl rfl rfl) rfl (fun _ _ h1 h2 => zH zGQ (h1.ev rfl) QE.form (h1.ev rfl) hx1200 hx1201) ?_
       refine Tq.val (wg rfl rfl rfl) rfl (fun _ _ h1 h2 => zB zGt (h1.ev rfl)) ?_
       refine Tq.val (wg rfl rfl rfl) rfl (fun _ _ h1 h2 => zC zKX (h1.ev rfl) (zL.drop (rdR hRu121 hcu121 h2) 0) rfl) ?_
       refine Tq.val (wg rfl rfl rfl) rfl (fun _ _ h1 h2 => run_leqS (h1.ev rfl) (h1.ev rfl)) ?_
       refine Tq.va rfl (fun _ _ h1 h2 => ze (h1.ev rfl) (h1.ev rfl)) ?_
       obtain rfl := Option.some.inj H
       exact Tq.fin (.cons rfl (.cons rfl (.cons rfl (.cons rfl (.cons rfl .nil)))))
     ·refine Tq.nil (Tr.zA (Tr.cond rfl H (fun H => ?_) (fun H => ?_)))
      ·refine Tr.sr (Tr.asg rfl rfl (Tr.nil (Tr.zA (Tr.ret (Tr.zAB (Tr.zU (Tr.zU (Tr.zAB (Tr.zU ?_)))))))))
       obtain rfl := Option.some.inj H
       exact Tr.out (m := [(iv 8)]) [] (zP rfl zQ) (fun W hW => ⟨rfl, hW.low leB⟩)
      ·refine Tr.skip (Tr.zW (Tr.zA ?_))
       refine Tr.region (Tr.va rfl (fun _ _ h1 h2 => zx (h1.ev rfl) (h1.ev rfl)) ?_)
       exact Tr.mv rfl rfl (Tr.nil (Tr.zZ QW (QF, (iL1 + 1)) ⟨rfl, Qg QP, zo QP, H⟩ (.cons rfl (.cons rfl (.cons rfl (.cons (congrArg (fun z => some (Value.int .i64 z)) (Qf QP QE.form)) .nil)))) (.cons rfl .nil)))

theorem Vd {w : Bs} (p0 : Int) (q0 : Bool) (bq0 : Nat) (q1 : zt) (Aq1_0 : Option Addr) (cq1_0 : Nat) (hq1_0 : Sl w.R w.W zK Aq1_0 cq1_0 q1.Tools) (Aq1_1 : Option Addr) (cq1_1 : Nat) (hq1_1 : Sl w.R w.W zG Aq1_1 cq1_1 q1.Steps) (bq1 : Nat) (hb1 : w.R bq1) (hc1 : zL w.W bq1 0 [(iv q1.Unit), (.slice Aq1_0 q1.Tools.length cq1_0), (.slice Aq1_1 q1.Steps.length cq1_1)]) (q2 : Int) (bq2 : Nat) (hb2 : w.R bq2) (hc2 : zL w.W bq2 0 [(iv q2)]) (r : (Int × Bool)) (H : KQ p0 q0 q1 q2 = some r) (hE : HF w w.W (LEn [bx bq0 #[(.bool q0)] 4])) : Calls Tryz.prog 44 [(iv p0), (.pointer (some ⟨bq0, 0, none⟩)), (.pointer (some ⟨bq1, 0, none⟩)), (.pointer (some ⟨bq2, 0, none⟩))].toArray w.W fun e W' => ∃ u : Unit, e = .returned (iv r.1) ∧ (True) ∧ HF w W' (LEn [bx bq0 #[(.bool r.2)] 4]) := by
 unfold KQ at H
 have leB := Bs.Le.refl w
 refine Tr.enter (n := 22) Tryz.func44 rfl rfl rfl hE ?_
 refine Tr.sr (Tr.asg rfl rfl (Tr.nil (Tr.zA (Tr.sr (Tr.va rfl (fun _ _ h1 h2 => zC ag_4 (h1.ev rfl) (rdb h2 (vs := [(.bool q0)]) (k := 0) rfl 0) rfl) ?_)))))
 refine Tr.mv rfl rfl ?_
 obtain ⟨g101, hg101, H⟩ := bnd H
 refine Tr.VR 8 [(0, (iv p0)), (1, (.pointer (some ⟨bq0, 0, none⟩))), (2, (.pointer (some ⟨bq1, 0, none⟩))), (3, (.pointer (some ⟨bq2, 0, none⟩))), (15, (.bool g101))] [(0, bx bq0 #[(.bool q0)] 4)] ?_ ?_
 ·cases Wq : q0
  ·rw [Wq] at hg101
   rw [if_neg (by decide)] at hg101
   have H := hg101
   obtain rfl := Option.some.inj H
   refine Tr.pass rfl rfl rfl rfl rfl (by decide) ?_
   refine Tr.pass rfl rfl rfl rfl rfl (by decide) ?_
   refine Tr.pass rfl rfl rfl rfl rfl (by decide) ?_
   refine Tr.pass rfl rfl rfl rfl rfl (by decide) ?_
   refine Tr.pass rfl rfl rfl rfl rfl (by decide) ?_
   refine Tr.pass rfl rfl rfl rfl rfl (by decide) ?_
   refine Tr.pass rfl rfl rfl rfl rfl (by decide) ?_
   refine Tr.va rfl (fun _ _ h1 h2 => zf (h1.ev rfl) (h1.ev rfl)) ?_
   exact Tr.nil (Tr.Qo (.cons rfl (.cons rfl (.cons rfl (.cons rfl (.cons rfl .nil))))) (.cons rfl .nil))
  ·rw [Wq] at hg101
   rw [if_pos rfl] at hg101
   have H := hg101
   refine Tr.val (wg rfl rfl rfl) rfl (fun _ _ h1 h2 => run_move (h1.ev rfl)) ?_
   refine Tr.val (wg rfl rfl rfl) rfl (fun _ _ h1 h2 => zB Vg (h1.ev rfl)) ?_
   refine Tr.val (wg rfl rfl rfl) rfl (fun _ _ h1 h2 => zC QO (h1.ev rfl) (zL.drop (rdR hb1 hc1 h2) 0) rfl) ?_
   refine Tr.val (wg rfl rfl rfl) rfl (fun _ _ h1 h2 => zBY (h1.ev rfl) (h1.ev rfl)) ?_
   refine Tr.val (wg rfl rfl rfl) rfl (fun _ _ h1 h2 => zC QO (h1.ev rfl) (rdR hb2 hc2 h2) rfl) ?_
   obtain ⟨q102, hq102, H⟩ := bnd H
   refine Tr.val (wg rfl rfl rfl) rfl (fun _ _ h1 h2 => run_md (h1.ev rfl) (h1.ev rfl) hq102) ?_
   refine Tr.val (wg rfl rfl rfl) rfl (fun _ _ h1 h2 => Qk (h1.ev rfl) (h1.ev rfl)) ?_
   refine Tr.va rfl (fun _ _ h1 h2 => ze (h1.ev rfl) (h1.ev rfl)) ?_
   obtain rfl := Option.some.inj H
   exact Tr.nil (Tr.Qo (.cons rfl (.cons rfl (.cons rfl (.cons rfl (.cons rfl .nil))))) (.cons rfl .nil))
 ·show Tr _ _ (LF [(0, (iv p0)), (1, (.pointer (some ⟨bq0, 0, none⟩))), (2, (.pointer (some ⟨bq1, 0, none⟩))), (3, (.pointer (some ⟨bq2, 0, none⟩))), (15, (.bool g101))]) (LE [(0, bx bq0 #[(.bool q0)] 4)]) _
  refine Tr.store 0 (cs := [(.bool g101)]) [(.bool g101)] (wn rfl) rfl rfl rfl rfl sz_4 rfl rfl rfl ?_
  refine Tr.nil (Tr.zA (Tr.sr (Tr.mv rfl rfl (Tr.va rfl (fun _ _ h1 h2 => zB Vg (h1.ev rfl)) ?_))))
  refine Tr.va rfl (fun _ _ h1 h2 => zC QO (h1.ev rfl) (zL.drop (rdR hb1 hc1 h2) 0) rfl) ?_
  refine Tr.va rfl (fun _ _ h1 h2 => zBY (h1.ev rfl) (h1.ev rfl)) ?_
  refine Tr.va rfl (fun _ _ h1 h2 => zC QO (h1.ev rfl) (rdR hb2 hc2 h2) rfl) ?_
  obtain ⟨q103, hq103, H⟩ := bnd H
  refine Tr.va rfl (fun _ _ h1 h2 => run_dv (h1.ev rfl) (h1.ev rfl) hq103) ?_
  refine Tr.asg rfl rfl (Tr.nil (Tr.zA (Tr.ret ?_)))
  obtain rfl := Option.some.inj H
  exact Tr.out (m := [(iv q103)]) [] (zP rfl zQ) (fun W hW => ⟨(), rfl, trivial, HF.zHZ leB (hW.pick (ks := [0]) (by decide) (zM rfl zY)) ⟨zJb _ _ _, trivial⟩⟩)

theorem zFJ {w : Bs} (p0 : (List zS)) (QA : Option Addr) (QB : Nat) (QE : Sl w.O w.W zK QA QB p0) (r : (List zS)) (H : KG p0 = some r) (hE : HF w w.W (LEn [emp])) : Calls Tryz.prog 92 [(.slice QA p0.length QB)].toArray w.W fun e W' => ∃ (w' : Bs) (u : (Option Addr × Nat)), w.Le w' ∧ e = .returned (.slice u.1 r.length u.2) ∧ (SlF u.1 r.length u.2) ∧ HF w' W' (LEn [ow u.1 u.2 64 zK r]) := by
 unfold KG at H
 have leB := Bs.Le.refl w
 refine Tr.enter (n := 8) Tryz.func92 rfl rfl rfl hE ?_
 refine Tr.sr (Tr.asg rfl rfl (Tr.JS 1 64 zK ?_))
 show Tr _ _ (uf _ 2 (.slice none (([] : List zS)).length 0)) _ _
 refine Tr.nil (Tr.zA (Tr.seq (Tr.sr (Tr.mv rfl rfl (Tr.va rfl (fun _ _ h1 h2 => zGk zHi (h1.ev rfl) (h1.ev rfl)) ?_)))))
 refine Tr.nil (Tr.zA ?_)
 cases QA with
 | none =>
  have hl0 := zJu QE.form
  replace H : (some ([] : List zS)) = some r := by simpa [apd, hl0] using H
  refine Tr.WI rfl rfl ?_
  refine Tr.sr (Tr.asg rfl rfl (Tr.JS 2 64 zK ?_))
  show Tr _ _ (uf _ 2 (.slice none (([] : List zS)).length 0)) _ _
  refine Tr.nil (Tr.zA (Tr.ret (Tr.zU ?_)))
  obtain rfl := Option.some.inj H
  exact Tr.out (m := [(.slice none (([] : List zS)).length 0)]) [] (zP rfl zQ) (fun W hW => ⟨w, (none, 0), leB, rfl, VD, hW.pick (ks := [2]) (by decide) (zM rfl zY)⟩)
 | some a102 =>
  refine Tr.WJ rfl rfl ?_
  refine Tr.skip (Tr.zA (Tr.sr (Tr.buildSlice 3 (e := 64) (vs := []) (cs := []) (wn rfl) rfl Qb (by kernel_rfl) fun QM => ?_)))
  refine Tr.mv rfl rfl (Tr.own 3 zK ([] : List zS) (css := []) rfl .nil rfl (by decide) (zCx rfl) ?_)
  obtain ⟨zJY, hl101, H⟩ := bnd H
  refine Tr.appendS 3 (t := zK) (l := ([] : List zS)) (l2 := p0) (wn rfl) rfl rfl rfl rfl (apO QE) zHi zJq zl_64 (by decide) by_64 rfl hl101 fun zIH zH6 hAl101 => ?_
  refine Tr.asg rfl rfl (Tr.nil (Tr.zA (Tr.ret ?_)))
  obtain rfl := Option.some.inj H
  exact Tr.out (m := [(.slice zIH zJY.length zH6)]) [] (zP rfl zQ) (fun W hW => ⟨w, (zIH, zH6), leB, rfl, hAl101, hW.pick (ks := [3]) (by decide) (zM rfl zY)⟩)

theorem zC9 {w : Bs} (p0 : (List zT)) (QA : Option Addr) (QB : Nat) (QE : Sl w.R w.W zN QA QB p0) (r : (List zT)) (H : KA p0 = some r) (hE : HF w w.W (LEn [emp])) : Calls Tryz.prog 80 [(.slice QA p0.length QB)].toArray w.W fun e W' => ∃ u : (Option Addr × Nat), e = .returned (.slice u.1 r.length u.2) ∧ (SlF u.1 r.length u.2) ∧ HF w W' (LEn [ow u.1 u.2 36 zN r]) := by
 unfold KA at H
 have leB := Bs.Le.refl w
 refine Tr.enter (n := 8) Tryz.func80 rfl rfl rfl hE ?_
 refine Tr.sr (Tr.asg rfl rfl (Tr.JS 1 36 zN ?_))
 show Tr _ _ (uf _ 2 (.slice none (([] : List zT)).length 0)) _ _
 refine Tr.nil (Tr.zA (Tr.seq (Tr.sr (Tr.mv rfl rfl (Tr.va rfl (fun _ _ h1 h2 => zGk zA0 (h1.ev rfl) (h1.ev rfl)) ?_)))))
 refine Tr.nil (Tr.zA ?_)
 cases QA with
 | none =>
  have hl0 := zJu QE.form
  replace H : (some ([] : List zT)) = some r := by simpa [apd, hl0] using H
  refine Tr.WI rfl rfl ?_
  refine Tr.sr (Tr.asg rfl rfl (Tr.JS 2 36 zN ?_))
  show Tr _ _ (uf _ 2 (.slice none (([] : List zT)).length 0)) _ _
  refine Tr.nil (Tr.zA (Tr.ret (Tr.zU ?_)))
  obtain rfl := Option.some.inj H
  exact Tr.out (m := [(.slice none (([] : List zT)).length 0)]) [] (zP rfl zQ) (fun W hW => ⟨(none, 0), rfl, VD, HF.zHZ leB (hW.pick (ks := [2]) (by decide) (zM rfl zY)) ⟨zE4 _ _ _ _ zBl, trivial⟩⟩)
 | some a102 =>
  refine Tr.WJ rfl rfl ?_
  refine Tr.skip (Tr.zA (Tr.sr (Tr.buildSlice 3 (e := 36) (vs := []) (cs := []) (wn rfl) rfl Qb (by kernel_rfl) fun QM => ?_)))
  refine Tr.mv rfl rfl (Tr.own 3 zN ([] : List zT) (css := []) rfl .nil rfl (by decide) (zCx rfl) ?_)
  obtain ⟨zJY, hl101, H⟩ := bnd H
  refine Tr.appendS 3 (t := zN) (l := ([] : List zT)) (l2 := p0) (wn rfl) rfl rfl rfl rfl (apT zBl (fun W hW => (Sl.inB QE hW))) zA0 Kv zl_36 (by decide) by_36 rfl hl101 fun zIH zH6 hAl101 => ?_
  refine Tr.asg rfl rfl (Tr.nil (Tr.zA (Tr.ret ?_)))
  obtain rfl := Option.some.inj H
  exact Tr.out (m := [(.slice zIH zJY.length zH6)]) [] (zP rfl zQ) (fun W hW => ⟨(zIH, zH6), rfl, hAl101, HF.zHZ leB (hW.pick (ks := [3]) (by decide) (zM rfl zY)) ⟨zE4 _ _ _ _ zBl, trivial⟩⟩)

theorem zFK {w : Bs} (p0 : (List zD)) (QA : Option Addr) (QB : Nat) (QE : Sl w.O w.W zG QA QB p0) (r : (List zD)) (H : VA p0 = some r) (hE : HF w w.W (LEn [emp])) : Calls Tryz.prog 14 [(.slice QA p0.length QB)].toArray w.W fun e W' => ∃ (w' : Bs) (u : (Option Addr × Nat)), w.Le w' ∧ e = .returned (.slice u.1 r.length u.2) ∧ (SlF u.1 r.length u.2) ∧ HF w' W' (LEn [ow u.1 u.2 46 zG r]) := by
 unfold VA at H
 have leB := Bs.Le.refl w
 refine Tr.enter (n := 8) Tryz.func14 rfl rfl rfl hE ?_
 refine Tr.sr (Tr.asg rfl rfl (Tr.JS 1 46 zG ?_))
 show Tr _ _ (uf _ 2 (.slice none (([] : List zD)).length 0)) _ _
 refine Tr.nil (Tr.zA (Tr.seq (Tr.sr (Tr.mv rfl rfl (Tr.va rfl (fun _ _ h1 h2 => zGk zGC (h1.ev rfl) (h1.ev rfl)) ?_)))))
 refine Tr.nil (Tr.zA ?_)
 cases QA with
 | none =>
  have hl0 := zJu QE.form
  replace H : (some ([] : List zD)) = some r := by simpa [apd, hl0] using H
  refine Tr.WI rfl rfl ?_
  refine Tr.sr (Tr.asg rfl rfl (Tr.JS 2 46 zG ?_))
  show Tr _ _ (uf _ 2 (.slice none (([] : List zD)).length 0)) _ _
  refine Tr.nil (Tr.zA (Tr.ret (Tr.zU ?_)))
  obtain rfl := Option.some.inj H
  exact Tr.out (m := [(.slice none (([] : List zD)).length 0)]) [] (zP rfl zQ) (fun W hW => ⟨w, (none, 0), leB, rfl, VD, hW.pick (ks := [2]) (by decide) (zM rfl zY)⟩)
 | some a102 =>
  refine Tr.WJ rfl rfl ?_
  refine Tr.skip (Tr.zA (Tr.sr (Tr.buildSlice 3 (e := 46) (vs := []) (cs := []) (wn rfl) rfl Qb (by kernel_rfl) fun QM => ?_)))
  refine Tr.mv rfl rfl (Tr.own 3 zG ([] : List zD) (css := []) rfl .nil rfl (by decide) (zCx rfl) ?_)
  obtain ⟨zJY, hl101, H⟩ := bnd H
  refine Tr.appendS 3 (t := zG) (l := ([] : List zD)) (l2 := p0) (wn rfl) rfl rfl rfl rfl (apO QE) zGC zEH zl_46 (by decide) by_46 rfl hl101 fun zIH zH6 hAl101 => ?_
  refine Tr.asg rfl rfl (Tr.nil (Tr.zA (Tr.ret ?_)))
  obtain rfl := Option.some.inj H
  exact Tr.out (m := [(.slice zIH zJY.length zH6)]) [] (zP rfl zQ) (fun W hW => ⟨w, (zIH, zH6), leB, rfl, hAl101, hW.pick (ks := [3]) (by decide) (zM rfl zY)⟩)

theorem zGV {w : Bs} (p0 : (List zI)) (QA : Option Addr) (QB : Nat) (QE : Sl w.R w.W zy QA QB p0) (r : (List zI)) (H : Vo p0 = some r) (hE : HF w w.W (LEn [emp])) : Calls Tryz.prog 57 [(.slice QA p0.length QB)].toArray w.W fun e W' => ∃ u : (Option Addr × Nat), e = .returned (.slice u.1 r.length u.2) ∧ (SlF u.1 r.length u.2) ∧ HF w W' (LEn [ow u.1 u.2 43 zy r]) := by
 unfold Vo at H
 have leB := Bs.Le.refl w
 refine Tr.enter (n := 8) Tryz.func57 rfl rfl rfl hE ?_
 refine Tr.sr (Tr.asg rfl rfl (Tr.JS 1 43 zy ?_))
 show Tr _ _ (uf _ 2 (.slice none (([] : List zI)).length 0)) _ _
 refine Tr.nil (Tr.zA (Tr.seq (Tr.sr (Tr.mv rfl rfl (Tr.va rfl (fun _ _ h1 h2 => zGk zDn (h1.ev rfl) (h1.ev rfl)) ?_)))))
 refine Tr.nil (Tr.zA ?_)
 cases QA with
 | none =>
  have hl0 := zJu QE.form
  replace H : (some ([] : List zI)) = some r := by simpa [apd, hl0] using H
  refine Tr.WI rfl rfl ?_
  refine Tr.sr (Tr.asg rfl rfl (Tr.JS 2 43 zy ?_))
  show Tr _ _ (uf _ 2 (.slice none (([] : List zI)).length 0)) _ _
  refine Tr.nil (Tr.zA (Tr.ret (Tr.zU ?_)))
  obtain rfl := Option.some.inj H
  exact Tr.out (m := [(.slice none (([] : List zI)).length 0)]) [] (zP rfl zQ) (fun W hW => ⟨(none, 0), rfl, VD, HF.zHZ leB (hW.pick (ks := [2]) (by decide) (zM rfl zY)) ⟨zE4 _ _ _ _ zIK, trivial⟩⟩)
 | some a102 =>
  refine Tr.WJ rfl rfl ?_
  refine Tr.skip (Tr.zA (Tr.sr (Tr.buildSlice 3 (e := 43) (vs := []) (cs := []) (wn rfl) rfl Qb (by kernel_rfl) fun QM => ?_)))
  refine Tr.mv rfl rfl (Tr.own 3 zy ([] : List zI) (css := []) rfl .nil rfl (by decide) (zCx rfl) ?_)
  obtain ⟨zJY, hl101, H⟩ := bnd H
  refine Tr.appendS 3 (t := zy) (l := ([] : List zI)) (l2 := p0) (wn rfl) rfl rfl rfl rfl (apT zIK (fun W hW => (Sl.inB QE hW))) zDn JB zl_43 (by decide) by_43 rfl hl101 fun zIH zH6 hAl101 => ?_
  refine Tr.asg rfl rfl (Tr.nil (Tr.zA (Tr.ret ?_)))
  obtain rfl := Option.some.inj H
  exact Tr.out (m := [(.slice zIH zJY.length zH6)]) [] (zP rfl zQ) (fun W hW => ⟨(zIH, zH6), rfl, hAl101, HF.zHZ leB (hW.pick (ks := [3]) (by decide) (zM rfl zY)) ⟨zE4 _ _ _ _ zIK, trivial⟩⟩)

theorem zD0 {w : Bs} (p0 : zT) (bq0 : Nat) (q1 : Bool) (bq1 : Nat) (q2 : zt) (Aq2_0 : Option Addr) (cq2_0 : Nat) (zFB : Sl w.R w.W zK Aq2_0 cq2_0 q2.Tools) (Aq2_1 : Option Addr) (cq2_1 : Nat) (zFA : Sl w.R w.W zG Aq2_1 cq2_1 q2.Steps) (bq2 : Nat) (hb2 : w.R bq2) (hc2 : zL w.W bq2 0 [(iv q2.Unit), (.slice Aq2_0 q2.Tools.length cq2_0), (.slice Aq2_1 q2.Steps.length cq2_1)]) (q3 : Int) (bq3 : Nat) (hb3 : w.R bq3) (hc3 : zL w.W bq3 0 [(iv q3)]) (hb0 : w.R bq0) (hc0 : zL w.W bq0 0 [(.func (.func 44) #[] #[(.pointer (some ⟨bq1, 0, none⟩)), (.pointer (some ⟨bq2, 0, none⟩)), (.pointer (some ⟨bq3, 0, none⟩))])]) (r : (zT × Bool)) (H : KO p0 q1 q2 q3 = some r) (hE : HF w w.W (LEn [bx bq1 #[(.bool q1)] 4])) : Calls Tryz.prog 67 [(.agg #[(iv p0.X0), (iv p0.Y0), (iv p0.X1), (iv p0.Y1)]), (.pointer (some ⟨bq0, 0, none⟩))].toArray w.W fun e W' => ∃ u : Unit, e = .returned (.agg #[(iv r.1.X0), (iv r.1.Y0), (iv r.1.X1), (iv r.1.Y1)]) ∧ (True) ∧ HF w W' (LEn [bx bq1 #[(.bool r.2)] 4]) := by
 unfold KO at H
 have leB := Bs.Le.refl w
 refine Tr.enter (n := 21) Tryz.func67 rfl rfl rfl hE ?_
 refine Tr.sr (Tr.box 1 (cs := [(iv p0.X0), (iv p0.Y0), (iv p0.X1), (iv p0.Y1)]) (wn rfl) rfl rfl rfl fun QM => ?_)
 refine Tr.alloc 2 (wn rfl) rfl zF7 fun Qt => ?_
 refine Tr.nil (Tr.zA (Tr.seq (Tr.zHL 15 [(3, fun x => x = bq1), (7, fun x => x = bq1), (11, fun x => x = bq1)] [] (by kernel_rfl) (by kernel_rfl) fun zHn hlosz102 hEsz102 => ?_)))
 refine Dr.Vn 0 [(4, (.func (.func 44) #[] #[(.pointer (some ⟨bq1, 0, none⟩)), (.pointer (some ⟨bq2, 0, none⟩)), (.pointer (some ⟨bq3, 0, none⟩))]))] [7, 11] false (by kernel_rfl) rfl rfl (by kernel_rfl) (fun W W' h2 hsW hk => HF.zBN (le := []) (ks := [(0, fun x => x = bq1), (0, fun x => x = bq1)]) (s0 := zHn) false h2 hk (fun h => absurd h (by decide)) .nil (fun b hb => hb.elim (fun ⟨p, hp, hf, hb⟩ => by simp only [List.mem_cons, List.not_mem_nil, or_false] at hp; rcases hp with rfl | rfl | rfl; exact absurd hf (by simp); exact .inl ⟨_, List.mem_cons_self, hb⟩; exact .inl ⟨_, (List.mem_cons_of_mem _ List.mem_cons_self), hb⟩) (fun hb => absurd hb.1 (by decide))) (List.forall_mem_cons.2 ⟨fun b hb => hb, (List.forall_mem_cons.2 ⟨fun b hb => hb, (fun _ h => nomatch h)⟩)⟩) rfl) ?_ rfl rfl ?_
 ·refine Tq.va rfl (fun _ _ h1 h2 => zC ag_88 (h1.ev rfl) (rdR hb0 hc0 h2) rfl) ?_
  exact Tq.fin (.cons rfl .nil)
 refine Dr.Ji 1 (by kernel_rfl) rfl (wn rfl) rfl (by kernel_rfl) (fun _ _ h1 => zB Wz (h1.ev rfl)) rfl ?_
 refine Dr.Vn 2 [(6, (iv p0.X0))] [7, 11] false (by kernel_rfl) rfl rfl (by kernel_rfl) (fun W W' h2 hsW hk => HF.zBN (le := [(1, bx QM #[(iv p0.X0), (iv p0.Y0), (iv p0.X1), (iv p0.Y1)] 36)]) (ks := [(0, fun x => x = bq1), (0, fun x => x = bq1)]) (s0 := zHn) false h2 hk (fun h => absurd h (by decide)) (.cons rfl .nil) (fun b hb => hb.elim (fun ⟨p, hp, hf, hb⟩ => by simp only [List.mem_cons, List.not_mem_nil, or_false] at hp; rcases hp with rfl | rfl | rfl; exact absurd hf (by simp); exact .inl ⟨_, List.mem_cons_self, hb⟩; exact .inl ⟨_, (List.mem_cons_of_mem _ List.mem_cons_self), hb⟩) (fun hb => absurd hb.1 (by decide))) (List.forall_mem_cons.2 ⟨fun b hb => hb, (List.forall_mem_cons.2 ⟨fun b hb => hb, (fun _ h => nomatch h)⟩)⟩) rfl) ?_ rfl rfl ?_
 ·refine Tq.va rfl (fun _ _ h1 h2 => zC QO (h1.ev rfl) (rdb h2 (vs := [(iv p0.X0), (iv p0.Y0), (iv p0.X1), (iv p0.Y1)]) (k := 1) rfl 0) rfl) ?_
  exact Tq.fin (.cons rfl .nil)
 refine Dr.Vn 4 [(8, (.func (.func 44) #[] #[(.pointer (some ⟨bq1, 0, none⟩)), (.pointer (some ⟨bq2, 0, none⟩)), (.pointer (some ⟨bq3, 0, none⟩))]))] [3, 11] false (by kernel_rfl) rfl rfl (by kernel_rfl) (fun W W' h2 hsW hk => HF.zBN (le := []) (ks := [(0, fun x => x = bq1), (0, fun x => x = bq1)]) (s0 := zHn) false h2 hk (fun h => absurd h (by decide)) .nil (fun b hb => hb.elim (fun ⟨p, hp, hf, hb⟩ => by simp only [List.mem_cons, List.not_mem_nil, or_false] at hp; rcases hp with rfl | rfl | rfl; exact .inl ⟨_, List.mem_cons_self, hb⟩; exact absurd hf (by simp); exact .inl ⟨_, (List.mem_cons_of_mem _ List.mem_cons_self), hb⟩) (fun hb => absurd hb.1 (by decide))) (List.forall_mem_cons.2 ⟨fun b hb => hb, (List.forall_mem_cons.2 ⟨fun b hb => hb, (fun _ h => nomatch h)⟩)⟩) rfl) ?_ rfl rfl ?_
 ·refine Tq.va rfl (fun _ _ h1 h2 => zC ag_88 (h1.ev rfl) (rdR hb0 hc0 h2) rfl) ?_
  exact Tq.fin (.cons rfl .nil)
 refine Dr.Ji 5 (by kernel_rfl) rfl (wn rfl) rfl (by kernel_rfl) (fun _ _ h1 => zB zCa (h1.ev rfl)) rfl ?_
 refine Dr.Vn 6 [(10, (iv p0.Y0))] [3, 11] false (by kernel_rfl) rfl rfl (by kernel_rfl) (fun W W' h2 hsW hk => HF.zBN (le := [(1, bx QM #[(iv p0.X0), (iv p0.Y0), (iv p0.X1), (iv p0.Y1)] 36)]) (ks := [(0, fun x => x = bq1), (0, fun x => x = bq1)]) (s0 := zHn) false h2 hk (fun h => absurd h (by decide)) (.cons rfl .nil) (fun b hb => hb.elim (fun ⟨p, hp, hf, hb⟩ => by simp only [List.mem_cons, List.not_mem_nil, or_false] at hp; rcases hp with rfl | rfl | rfl; exact .inl ⟨_, List.mem_cons_self, hb⟩; exact absurd hf (by simp); exact .inl ⟨_, (List.mem_cons_of_mem _ List.mem_cons_self), hb⟩) (fun hb => absurd hb.1 (by decide))) (List.forall_mem_cons.2 ⟨fun b hb => hb, (List.forall_mem_cons.2 ⟨fun b hb => hb, (fun _ h => nomatch h)⟩)⟩) rfl) ?_ rfl rfl ?_
 ·refine Tq.va rfl (fun _ _ h1 h2 => zC QO (h1.ev rfl) (rdb h2 (vs := [(iv p0.X0), (iv p0.Y0), (iv p0.X1), (iv p0.Y1)]) (k := 1) rfl 1) rfl) ?_
  exact Tq.fin (.cons rfl .nil)
 refine Dr.Vn 8 [(12, (.func (.func 44) #[] #[(.pointer (some ⟨bq1, 0, none⟩)), (.pointer (some ⟨bq2, 0, none⟩)), (.pointer (some ⟨bq3, 0, none⟩))]))] [3, 7] false (by kernel_rfl) rfl rfl (by kernel_rfl) (fun W W' h2 hsW hk => HF.zBN (le := []) (ks := [(0, fun x => x = bq1), (0, fun x => x = bq1)]) (s0 := zHn) false h2 hk (fun h => absurd h (by decide)) .nil (fun b hb => hb.elim (fun ⟨p, hp, hf, hb⟩ => by simp only [List.mem_cons, List.not_mem_nil, or_false] at hp; rcases hp with rfl | rfl | rfl; exact .inl ⟨_, List.mem_cons_self, hb⟩; exact .inl ⟨_, (List.mem_cons_of_mem _ List.mem_cons_self), hb⟩; exact absurd hf (by simp)) (fun hb => absurd hb.1 (by decide))) (List.forall_mem_cons.2 ⟨fun b hb => hb, (List.forall_mem_cons.2 ⟨fun b hb => hb, (fun _ h => nomatch h)⟩)⟩) rfl) ?_ rfl rfl ?_
 ·refine Tq.va rfl (fun _ _ h1 h2 => zC ag_88 (h1.ev rfl) (rdR hb0 hc0 h2) rfl) ?_
  exact Tq.fin (.cons rfl .nil)
 refine Dr.Ji 9 (by kernel_rfl) rfl (wn rfl) rfl (by kernel_rfl) (fun _ _ h1 => zB zC2 (h1.ev rfl)) rfl ?_
 refine Dr.Vn 10 [(14, (iv p0.X1))] [3, 7] false (by kernel_rfl) rfl rfl (by kernel_rfl) (fun W W' h2 hsW hk => HF.zBN (le := [(1, bx QM #[(iv p0.X0), (iv p0.Y0), (iv p0.X1), (iv p0.Y1)] 36)]) (ks := [(0, fun x => x = bq1), (0, fun x => x = bq1)]) (s0 := zHn) false h2 hk (fun h => absurd h (by decide)) (.cons rfl .nil) (fun b hb => hb.elim (fun ⟨p, hp, hf, hb⟩ => by simp only [List.mem_cons, List.not_mem_nil, or_false] at hp; rcases hp with rfl | rfl | rfl; exact .inl ⟨_, List.mem_cons_self, hb⟩; exact .inl ⟨_, (List.mem_cons_of_mem _ List.mem_cons_self), hb⟩; exact absurd hf (by simp)) (fun hb => absurd hb.1 (by decide))) (List.forall_mem_cons.2 ⟨fun b hb => hb, (List.forall_mem_cons.2 ⟨fun b hb => hb, (fun _ h => nomatch h)⟩)⟩) rfl) ?_ rfl rfl ?_
 ·refine Tq.va rfl (fun _ _ h1 h2 => zC QO (h1.ev rfl) (rdb h2 (vs := [(iv p0.X0), (iv p0.Y0), (iv p0.X1), (iv p0.Y1)]) (k := 1) rfl 2) rfl) ?_
  exact Tq.fin (.cons rfl .nil)
 refine Dr.Vn 12 [(16, (.func (.func 44) #[] #[(.pointer (some ⟨bq1, 0, none⟩)), (.pointer (some ⟨bq2, 0, none⟩)), (.pointer (some ⟨bq3, 0, none⟩))]))] [3, 7, 11] false (by kernel_rfl) rfl rfl (by kernel_rfl) (fun W W' h2 hsW hk => HF.zBN (le := []) (ks := [(0, fun x => x = bq1), (0, fun x => x = bq1), (0, fun x => x = bq1)]) (s0 := zHn) false h2 hk (fun h => absurd h (by decide)) .nil (fun b hb => hb.elim (fun ⟨p, hp, hf, hb⟩ => by simp only [List.mem_cons, List.not_mem_nil, or_false] at hp; rcases hp with rfl | rfl | rfl; exact .inl ⟨_, List.mem_cons_self, hb⟩; exact .inl ⟨_, (List.mem_cons_of_mem _ List.mem_cons_self), hb⟩; exact .inl ⟨_, (List.mem_cons_of_mem _ (List.mem_cons_of_mem _ List.mem_cons_self)), hb⟩) (fun hb => absurd hb.1 (by decide))) (List.forall_mem_cons.2 ⟨fun b hb => hb, (List.forall_mem_cons.2 ⟨fun b hb => hb, (List.forall_mem_cons.2 ⟨fun b hb => hb, (fun _ h => nomatch h)⟩)⟩)⟩) rfl) ?_ rfl rfl ?_
 ·refine Tq.va rfl (fun _ _ h1 h2 => zC ag_88 (h1.ev rfl) (rdR hb0 hc0 h2) rfl) ?_
  exact Tq.fin (.cons rfl .nil)
 refine Dr.Ji 13 (by kernel_rfl) rfl (wn rfl) rfl (by kernel_rfl) (fun _ _ h1 => zB zDX (h1.ev rfl)) rfl ?_
 refine Dr.Vn 14 [(18, (iv p0.Y1))] [3, 7, 11] false (by kernel_rfl) rfl rfl (by kernel_rfl) (fun W W' h2 hsW hk => HF.zBN (le := [(1, bx QM #[(iv p0.X0), (iv p0.Y0), (iv p0.X1), (iv p0.Y1)] 36)]) (ks := [(0, fun x => x = bq1), (0, fun x => x = bq1), (0, fun x => x = bq1)]) (s0 := zHn) false h2 hk (fun h => absurd h (by decide)) (.cons rfl .nil) (fun b hb => hb.elim (fun ⟨p, hp, hf, hb⟩ => by simp only [List.mem_cons, List.not_mem_nil, or_false] at hp; rcases hp with rfl | rfl | rfl; exact .inl ⟨_, List.mem_cons_self, hb⟩; exact .inl ⟨_, (List.mem_cons_of_mem _ List.mem_cons_self), hb⟩; exact .inl ⟨_, (List.mem_cons_of_mem _ (List.mem_cons_of_mem _ List.mem_cons_self)), hb⟩) (fun hb => absurd hb.1 (by decide))) (List.forall_mem_cons.2 ⟨fun b hb => hb, (List.forall_mem_cons.2 ⟨fun b hb => hb, (List.forall_mem_cons.2 ⟨fun b hb => hb, (fun _ h => nomatch h)⟩)⟩)⟩) rfl) ?_ rfl rfl ?_
 ·refine Tq.va rfl (fun _ _ h1 h2 => zC QO (h1.ev rfl) (rdb h2 (vs := [(iv p0.X0), (iv p0.Y0), (iv p0.X1), (iv p0.Y1)]) (k := 1) rfl 3) rfl) ?_
  exact Tq.fin (.cons rfl .nil)
 obtain ⟨QJ, zCy, H⟩ := bnd H
 refine Dr.one 3 (by kernel_rfl) ?_
 refine St.zF3 3 [0] [bx bq1 #[(.bool q1)] 4] (U := Unit) (fun u => (iv QJ.1)) (fun u => True) (fun u => [bx bq1 #[(.bool QJ.2)] 4]) rfl (zM rfl zY) (fun _ => rfl) (fun b ⟨e, he, hS⟩ => by simp only [List.mem_cons, List.not_mem_nil, or_false] at he; rcases he with rfl; exact .inl ⟨_, List.mem_cons_self, rfl, hS⟩) rfl (wn rfl) rfl rfl Tryz.call44 (zF rfl zO) (fun W hW hp hE => Vd p0.X0 q1 bq1 q2 Aq2_0 cq2_0 (zFB.ext (hW.QS hp)) Aq2_1 cq2_1 (zFA.ext (hW.QS hp)) bq2 ((hW.QS hp).r _ hb2) ((hW.QS hp).cells hb2 hc2) q3 bq3 ((hW.QS hp).r _ hb3) ((hW.QS hp).cells hb3 hc3) QJ zCy hE) ?_
 intro u hu hsy103
 show Dr _ _ _ _ _ _ _ _ _ (uf _ 7 (iv QJ.1)) (up _ 0 (bx bq1 #[(.bool QJ.2)] 4))
 obtain ⟨zBf, hy105, H⟩ := bnd H
 refine Dr.one 7 (by kernel_rfl) ?_
 refine St.zF3 7 [0] [bx bq1 #[(.bool QJ.2)] 4] (U := Unit) (fun u => (iv zBf.1)) (fun u => True) (fun u => [bx bq1 #[(.bool zBf.2)] 4]) rfl (zM rfl zY) (fun _ => rfl) (fun b ⟨e, he, hS⟩ => by simp only [List.mem_cons, List.not_mem_nil, or_false] at he; rcases he with rfl; exact .inl ⟨_, (List.mem_cons_of_mem _ List.mem_cons_self), rfl, hS⟩) rfl (wn rfl) rfl rfl Tryz.call44 (zF rfl zO) (fun W hW hp hE => Vd p0.Y0 QJ.2 bq1 q2 Aq2_0 cq2_0 (zFB.ext (hW.QS hp)) Aq2_1 cq2_1 (zFA.ext (hW.QS hp)) bq2 ((hW.QS hp).r _ hb2) ((hW.QS hp).cells hb2 hc2) q3 bq3 ((hW.QS hp).r _ hb3) ((hW.QS hp).cells hb3 hc3) zBf hy105 hE) ?_
 intro u hu hsy105
 show Dr _ _ _ _ _ _ _ _ _ (uf _ 11 (iv zBf.1)) (up _ 0 (bx bq1 #[(.bool zBf.2)] 4))
 obtain ⟨JJ, hy107, H⟩ := bnd H
 refine Dr.one 11 (by kernel_rfl) ?_
 refine St.zF3 11 [0] [bx bq1 #[(.bool zBf.2)] 4] (U := Unit) (fun u => (iv JJ.1)) (fun u => True) (fun u => [bx bq1 #[(.bool JJ.2)] 4]) rfl (zM rfl zY) (fun _ => rfl) (fun b ⟨e, he, hS⟩ => by simp only [List.mem_cons, List.not_mem_nil, or_false] at he; rcases he with rfl; exact .inl ⟨_, (List.mem_cons_of_mem _ (List.mem_cons_of_mem _ List.mem_cons_self)), rfl, hS⟩) rfl (wn rfl) rfl rfl Tryz.call44 (zF rfl zO) (fun W hW hp hE => Vd p0.X1 zBf.2 bq1 q2 Aq2_0 cq2_0 (zFB.ext (hW.QS hp)) Aq2_1 cq2_1 (zFA.ext (hW.QS hp)) bq2 ((hW.QS hp).r _ hb2) ((hW.QS hp).cells hb2 hc2) q3 bq3 ((hW.QS hp).r _ hb3) ((hW.QS hp).cells hb3 hc3) JJ hy107 hE) ?_
 intro u hu hsy107
 show Dr _ _ _ _ _ _ _ _ _ (uf _ 15 (iv JJ.1)) (up _ 0 (bx bq1 #[(.bool JJ.2)] 4))
 refine Dr.tail (by kernel_rfl) ?_
 obtain ⟨zF8, hy109, H⟩ := bnd H
 refine Tr.zF3 [0] [bx bq1 #[(.bool JJ.2)] 4] (U := Unit) (fun u => (iv zF8.1)) (fun u => True) (fun u => [bx bq1 #[(.bool zF8.2)] 4]) rfl (zM rfl zY) (fun _ => rfl) (wn rfl) rfl rfl Tryz.call44 (zF rfl zO) (fun W hW hp hE => Vd p0.Y1 JJ.2 bq1 q2 Aq2_0 cq2_0 (zFB.ext (hW.QS hp)) Aq2_1 cq2_1 (zFA.ext (hW.QS hp)) bq2 ((hW.QS hp).r _ hb2) ((hW.QS hp).cells hb2 hc2) q3 bq3 ((hW.QS hp).r _ hb3) ((hW.QS hp).cells hb3 hc3) zF8 hy109 hE) ?_
 intro u hu
 show Tr _ _ (uf _ 19 (iv zF8.1)) (up _ 0 (bx bq1 #[(.bool zF8.2)] 4)) _
 refine Tr.build (vs := [(0, (iv QJ.1)), (1, (iv zBf.1)), (2, (iv JJ.1)), (3, (iv zF8.1))]) (cs := [(iv QJ.1), (iv zBf.1), (iv JJ.1), (iv zF8.1)]) (wn rfl) rfl (zi rfl (zi rfl (zi rfl (zi rfl Qb)))) (by kernel_rfl) ?_
 refine Tr.store 2 (cs := [(iv QJ.1), (iv zBf.1), (iv JJ.1), (iv zF8.1)]) [(iv QJ.1), (iv zBf.1), (iv JJ.1), (iv zF8.1)] (wn rfl) rfl rfl rfl rfl Kv rfl rfl rfl ?_
 refine Tr.nil (Tr.zA (Tr.ret ?_))
 obtain rfl := Option.some.inj H
 exact Tr.out (m := [(.agg #[(iv QJ.1), (iv zBf.1), (iv JJ.1), (iv zF8.1)])]) [2] (Vm rfl rfl zCD Kv zQ) (fun W hW => ⟨(), rfl, trivial, HF.zHZ leB (hW.pick (ks := [0]) (by decide) (zM rfl zY)) ⟨zJb _ _ _, trivial⟩⟩)

end Go.Proofs.YtoageaoknnnfbaaGreatDoor
