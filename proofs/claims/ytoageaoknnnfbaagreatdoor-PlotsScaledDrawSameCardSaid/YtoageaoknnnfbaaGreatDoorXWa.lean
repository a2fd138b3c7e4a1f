/- The walks: each function computes its plain function. -/
import Derived.Test.YtoageaoknnnfbaaGreatDoorXF
namespace Go.Proofs.YtoageaoknnnfbaaGreatDoor
open Go.RowKit
set_option maxRecDepth 100000
set_option maxHeartbeats 1000000
theorem F_plot_within_ok {w : Bs} (p0 : Int) (p1 : Int) (p2 : Int) (r : Bool) (H : F_plot_within p0 p1 p2 = some r) (hE : HF w w.W E0) : Calls Tryz.prog 22 [(iv p0), (iv p1), (iv p2)].toArray w.W fun e W' => e = .returned (.bool r) ∧ HF w W' E0 := by
 unfold F_plot_within at H
 have leB := Bs.Le.refl w
 refine Tr.enter (n := 15) Tryz.func22 rfl rfl rfl hE ?_
 refine Tr.sr ?_
 refine Tr.asg rfl rfl ?_
 refine Tr.nil (Tr.zA ?_)
 refine Tr.sr ?_
 refine Tr.mv rfl rfl ?_
 refine Tr.mv rfl rfl ?_
 refine Tr.va rfl (fun _ _ h1 h2 => run_geq (h1.ev rfl) (h1.ev rfl)) ?_
 refine Tr.mv rfl rfl ?_
 refine Tr.mid0 4 [(14, (.bool ((decide (p1 ≤ p0)) && (decide (p0 ≤ p2)))))] [] ?_ ?_
 ·cases hg99 : (decide (p1 ≤ p0))
  ·refine Tr.pass rfl rfl rfl rfl rfl (by decide) ?_
   refine Tr.pass rfl rfl rfl rfl rfl (by decide) ?_
   refine Tr.pass rfl rfl rfl rfl rfl (by decide) ?_
   refine Tr.va rfl (fun _ _ h1 h2 => zf (h1.ev rfl) (h1.ev rfl)) ?_
   exact Tr.nil (Tr.fin0 (.cons rfl .nil) .nil)
  ·refine Tr.val (wg rfl rfl rfl) rfl (fun _ _ h1 h2 => run_move (h1.ev rfl)) ?_
   refine Tr.val (wg rfl rfl rfl) rfl (fun _ _ h1 h2 => run_move (h1.ev rfl)) ?_
   refine Tr.val (wg rfl rfl rfl) rfl (fun _ _ h1 h2 => run_leq (h1.ev rfl) (h1.ev rfl)) ?_
   refine Tr.va rfl (fun _ _ h1 h2 => ze (h1.ev rfl) (h1.ev rfl)) ?_
   exact Tr.nil (Tr.fin0 (.cons rfl .nil) .nil)
 ·show Tr _ _ (LF [(14, (.bool ((decide (p1 ≤ p0)) && (decide (p0 ≤ p2)))))]) (LE []) _
  refine Tr.asg rfl rfl ?_
  refine Tr.nil (Tr.zA ?_)
  refine Tr.ret ?_
  obtain rfl := Option.some.inj H
  exact Tr.out (m := [(.bool ((decide (p1 ≤ p0)) && (decide (p0 ≤ p2))))]) [] (zP rfl zQ) (fun W hW => ⟨rfl, hW.low leB⟩)

theorem F_plot_IsName_ok (N : Nat) {w : Bs} (p0 : ByteArray) (r : Bool) (H : F_plot_IsName N p0 = some r) (hE : HF w w.W E0) : Calls Tryz.prog 71 [(sv p0)].toArray w.W fun e W' => e = .returned (.bool r) ∧ HF w W' E0 := by
 unfold F_plot_IsName at H
 have leB := Bs.Le.refl w
 refine Tr.enter (n := 59) Tryz.func71 rfl rfl rfl hE ?_
 refine Tr.sr ?_
 refine Tr.asg rfl rfl ?_
 refine Tr.nil (Tr.zA ?_)
 refine Tr.seq ?_
 refine Tr.sr ?_
 refine Tr.mv rfl rfl ?_
 refine Tr.va rfl (fun _ _ h1 h2 => run_lenS un_9 (h1.ev rfl)) ?_
 refine Tr.mv rfl rfl ?_
 refine Tr.nil (Tr.zA ?_)
 refine Tr.block ?_
 refine Tr.loop (σ := Int) (fun m w s => F_plot_IsName_L1 p0 m s = some r) (fun s => [(0, (sv p0)), (7, (iv (p0.size : Int))), (8, (iv s))]) (fun s => []) N 0 H (.cons rfl (.cons rfl (.cons rfl .nil))) .nil (fun _ _ h => noSome (h)) ?_
 intro w leL1 mL1 x105 hs
 have H := hs
 replace H : F_plot_IsName_L1 p0 (mL1 + 1) x105 = some r := H
 replace leB := leB.trans leL1
 rw [F_plot_IsName_L1.eq_2] at H
 show Tr _ _ (LF [(0, (sv p0)), (7, (iv (p0.size : Int))), (8, (iv x105))]) (LE []) _
 refine Tr.sr ?_
 refine Tr.va rfl (fun _ _ h1 h2 => zz (h1.ev rfl) (h1.ev rfl)) ?_
 refine Tr.nil (Tr.zA ?_)
 refine Tr.seq ?_
 refine Tr.cond rfl H (fun H => ?_) (fun H => ?_)
 ·refine Tr.skip (Tr.zA ?_)
  refine Tr.seq ?_
  refine Tr.block ?_
  refine Tr.sr ?_
  refine Tr.mv rfl rfl ?_
  refine Tr.asg rfl rfl ?_
  refine Tr.nil (Tr.zA ?_)
  refine Tr.sr ?_
  refine Tr.mv rfl rfl ?_
  refine Tr.mv rfl rfl ?_
  obtain ⟨c106, hc106, H⟩ := bnd H
  refine Tr.va rfl (fun _ _ h1 h2 => run_indexS un_9 (h1.ev rfl) (h1.ev rfl) hc106) ?_
  refine Tr.asg rfl rfl ?_
  refine Tr.nil (Tr.zA ?_)
  refine Tr.sr ?_
  refine Tr.mv rfl rfl ?_
  refine Tr.va rfl (fun _ _ h1 h2 => run_geq (h1.ev rfl) (h1.ev rfl)) ?_
  refine Tr.mv rfl rfl ?_
  refine Tr.mid0 3 [(0, (sv p0)), (3, (iv x105)), (4, (.int .u8 c106)), (7, (iv (p0.size : Int))), (8, (iv x105)), (19, (.bool ((decide (97 ≤ c106)) && (decide (c106 ≤ 122)))))] [] ?_ ?_
  ·cases hg106 : (decide (97 ≤ c106))
   ·refine Tr.pass rfl rfl rfl rfl rfl (by decide) ?_
    refine Tr.pass rfl rfl rfl rfl rfl (by decide) ?_
    refine Tr.va rfl (fun _ _ h1 h2 => zf (h1.ev rfl) (h1.ev rfl)) ?_
    exact Tr.nil (Tr.fin0 (.cons rfl (.cons rfl (.cons rfl (.cons rfl (.cons rfl (.cons rfl .nil)))))) .nil)
   ·refine Tr.val (wg rfl rfl rfl) rfl (fun _ _ h1 h2 => run_move (h1.ev rfl)) ?_
    refine Tr.val (wg rfl rfl rfl) rfl (fun _ _ h1 h2 => run_leq (h1.ev rfl) (h1.ev rfl)) ?_
    refine Tr.va rfl (fun _ _ h1 h2 => ze (h1.ev rfl) (h1.ev rfl)) ?_
    exact Tr.nil (Tr.fin0 (.cons rfl (.cons rfl (.cons rfl (.cons rfl (.cons rfl (.cons rfl .nil)))))) .nil)
  ·show Tr _ _ (LF [(0, (sv p0)), (3, (iv x105)), (4, (.int .u8 c106)), (7, (iv (p0.size : Int))), (8, (iv x105)), (19, (.bool ((decide (97 ≤ c106)) && (decide (c106 ≤ 122)))))]) (LE []) _
   refine Tr.mv rfl rfl ?_
   refine Tr.mid0 7 [(0, (sv p0)), (3, (iv x105)), (4, (.int .u8 c106)), (7, (iv (p0.size : Int))), (8, (iv x105)), (27, (.bool (((decide (97 ≤ c106)) && (decide (c106 ≤ 122))) || ((decide (65 ≤ c106)) && (decide (c106 ≤ 90))))))] [] ?_ ?_
   ·cases hg106 : ((decide (97 ≤ c106)) && (decide (c106 ≤ 122)))
    ·refine Tr.val (wg rfl rfl rfl) rfl (fun _ _ h1 h2 => run_move (h1.ev rfl)) ?_
     refine Tr.val (wg rfl rfl rfl) rfl (fun _ _ h1 h2 => run_geq (h1.ev rfl) (h1.ev rfl)) ?_
     refine Tr.val (wg rfl rfl rfl) rfl (fun _ _ h1 h2 => run_move (h1.ev rfl)) ?_
     refine Tr.mid0 3 [(0, (sv p0)), (3, (iv x105)), (4, (.int .u8 c106)), (7, (iv (p0.size : Int))), (8, (iv x105)), (20, (.bool false)), (26, (.bool ((decide (65 ≤ c106)) && (decide (c106 ≤ 90)))))] [] ?_ ?_
     ·cases hg106 : (decide (65 ≤ c106))
      ·refine Tr.pass rfl rfl rfl rfl rfl (by decide) ?_
       refine Tr.pass rfl rfl rfl rfl rfl (by decide) ?_
       refine Tr.val (wg rfl rfl rfl) rfl (fun _ _ h1 h2 => zf (h1.ev rfl) (h1.ev rfl)) ?_
       exact Tr.nil (Tr.fin0 (.cons rfl (.cons rfl (.cons rfl (.cons rfl (.cons rfl (.cons rfl (.cons rfl .nil))))))) .nil)
      ·refine Tr.val (wg rfl rfl rfl) rfl (fun _ _ h1 h2 => run_move (h1.ev rfl)) ?_
       refine Tr.val (wg rfl rfl rfl) rfl (fun _ _ h1 h2 => run_leq (h1.ev rfl) (h1.ev rfl)) ?_
       refine Tr.val (wg rfl rfl rfl) rfl (fun _ _ h1 h2 => ze (h1.ev rfl) (h1.ev rfl)) ?_
       exact Tr.nil (Tr.fin0 (.cons rfl (.cons rfl (.cons rfl (.cons rfl (.cons rfl (.cons rfl (.cons rfl .nil))))))) .nil)
     ·show Tr _ _ (LF [(0, (sv p0)), (3, (iv x105)), (4, (.int .u8 c106)), (7, (iv (p0.size : Int))), (8, (iv x105)), (20, (.bool false)), (26, (.bool ((decide (65 ≤ c106)) && (decide (c106 ≤ 90)))))]) (LE []) _
      refine Tr.va rfl (fun _ _ h1 h2 => zf (h1.ev rfl) (h1.ev rfl)) ?_
      exact Tr.nil (Tr.fin0 (.cons rfl (.cons rfl (.cons rfl (.cons rfl (.cons rfl (.cons rfl .nil)))))) .nil)
    ·refine Tr.pass rfl rfl rfl rfl rfl (by decide) ?_
     refine Tr.pass rfl rfl rfl rfl rfl (by decide) ?_
     refine Tr.pass rfl rfl rfl rfl rfl (by decide) ?_
     refine Tr.passU rfl rfl rfl rfl (by decide) ?_
     refine Tr.passU rfl rfl rfl rfl (by decide) ?_
     refine Tr.pass rfl rfl rfl rfl rfl (by decide) ?_
     refine Tr.va rfl (fun _ _ h1 h2 => ze (h1.ev rfl) (h1.ev rfl)) ?_
     exact Tr.nil (Tr.fin0 (.cons rfl (.cons rfl (.cons rfl (.cons rfl (.cons rfl (.cons rfl .nil)))))) .nil)
   ·show Tr _ _ (LF [(0, (sv p0)), (3, (iv x105)), (4, (.int .u8 c106)), (7, (iv (p0.size : Int))), (8, (iv x105)), (27, (.bool (((decide (97 ≤ c106)) && (decide (c106 ≤ 122))) || ((decide (65 ≤ c106)) && (decide (c106 ≤ 90))))))]) (LE []) _
    refine Tr.asg rfl rfl ?_
    refine Tr.nil (Tr.zA ?_)
    refine Tr.sr ?_
    refine Tr.mv rfl rfl ?_
    refine Tr.va rfl (fun _ _ h1 h2 => run_not (h1.ev rfl)) ?_
    refine Tr.mv rfl rfl ?_
    refine Tr.mid0 19 [(0, (sv p0)), (7, (iv (p0.size : Int))), (8, (iv x105)), (49, (.bool ((!(((decide (97 ≤ c106)) && (decide (c106 ≤ 122))) || ((decide (65 ≤ c106)) && (decide (c106 ≤ 90))))) && ((x105 == 0) || ((((decide (c106 < 48)) || (decide (57 < c106))) && (c106 != 95)) && (c106 != 45))))))] [] ?_ ?_
    ·cases hg106 : (!(((decide (97 ≤ c106)) && (decide (c106 ≤ 122))) || ((decide (65 ≤ c106)) && (decide (c106 ≤ 90)))))
     ·refine Tr.pass rfl rfl rfl rfl rfl (by decide) ?_
      refine Tr.pass rfl rfl rfl rfl rfl (by decide) ?_
      refine Tr.pass rfl rfl rfl rfl rfl (by decide) ?_
      refine Tr.passU rfl rfl rfl rfl (by decide) ?_
      refine Tr.passU rfl rfl rfl rfl (by decide) ?_
      refine Tr.passU rfl rfl rfl rfl (by decide) ?_
      refine Tr.passU rfl rfl rfl rfl (by decide) ?_
      refine Tr.passU rfl rfl rfl rfl (by decide) ?_
      refine Tr.passU rfl rfl rfl rfl (by decide) ?_
      refine Tr.passU rfl rfl rfl rfl (by decide) ?_
      refine Tr.passU rfl rfl rfl rfl (by decide) ?_
      refine Tr.passU rfl rfl rfl rfl (by decide) ?_
      refine Tr.passU rfl rfl rfl rfl (by decide) ?_
      refine Tr.passU rfl rfl rfl rfl (by decide) ?_
      refine Tr.passU rfl rfl rfl rfl (by decide) ?_
      refine Tr.passU rfl rfl rfl rfl (by decide) ?_
      refine Tr.passU rfl rfl rfl rfl (by decide) ?_
      refine Tr.pass rfl rfl rfl rfl rfl (by decide) ?_
      refine Tr.va rfl (fun _ _ h1 h2 => zf (h1.ev rfl) (h1.ev rfl)) ?_
      exact Tr.nil (Tr.fin0 (.cons rfl (.cons rfl (.cons rfl (.cons rfl .nil)))) .nil)
     ·refine Tr.val (wg rfl rfl rfl) rfl (fun _ _ h1 h2 => run_move (h1.ev rfl)) ?_
      refine Tr.val (wg rfl rfl rfl) rfl (fun _ _ h1 h2 => run_eql (h1.ev rfl) (h1.ev rfl)) ?_
      refine Tr.val (wg rfl rfl rfl) rfl (fun _ _ h1 h2 => run_move (h1.ev rfl)) ?_
      refine Tr.mid0 15 [(0, (sv p0)), (7, (iv (p0.size : Int))), (8, (iv x105)), (30, (.bool true)), (48, (.bool ((x105 == 0) || ((((decide (c106 < 48)) || (decide (57 < c106))) && (c106 != 95)) && (c106 != 45)))))] [] ?_ ?_
      ·cases hg106 : (x105 == 0)
       ·refine Tr.val (wg rfl rfl rfl) rfl (fun _ _ h1 h2 => run_move (h1.ev rfl)) ?_
        refine Tr.val (wg rfl rfl rfl) rfl (fun _ _ h1 h2 => zz (h1.ev rfl) (h1.ev rfl)) ?_
        refine Tr.val (wg rfl rfl rfl) rfl (fun _ _ h1 h2 => run_move (h1.ev rfl)) ?_
        refine Tr.mid0 3 [(0, (sv p0)), (4, (.int .u8 c106)), (7, (iv (p0.size : Int))), (8, (iv x105)), (30, (.bool true)), (33, (.bool false)), (39, (.bool ((decide (c106 < 48)) || (decide (57 < c106)))))] [] ?_ ?_
        ·cases hg106 : (decide (c106 < 48))
         ·refine Tr.val (wg rfl rfl rfl) rfl (fun _ _ h1 h2 => run_move (h1.ev rfl)) ?_
          refine Tr.val (wg rfl rfl rfl) rfl (fun _ _ h1 h2 => run_gtr (h1.ev rfl) (h1.ev rfl)) ?_
          refine Tr.val (wg rfl rfl rfl) rfl (fun _ _ h1 h2 => zf (h1.ev rfl) (h1.ev rfl)) ?_
          exact Tr.nil (Tr.fin0 (.cons rfl (.cons rfl (.cons rfl (.cons rfl (.cons rfl (.cons rfl (.cons rfl .nil))))))) .nil)
         ·refine Tr.pass rfl rfl rfl rfl rfl (by decide) ?_
          refine Tr.pass rfl rfl rfl rfl rfl (by decide) ?_
          refine Tr.val (wg rfl rfl rfl) rfl (fun _ _ h1 h2 => ze (h1.ev rfl) (h1.ev rfl)) ?_
          exact Tr.nil (Tr.fin0 (.cons rfl (.cons rfl (.cons rfl (.cons rfl (.cons rfl (.cons rfl (.cons rfl .nil))))))) .nil)
        ·show Tr _ _ (LF [(0, (sv p0)), (4, (.int .u8 c106)), (7, (iv (p0.size : Int))), (8, (iv x105)), (30, (.bool true)), (33, (.bool false)), (39, (.bool ((decide (c106 < 48)) || (decide (57 < c106)))))]) (LE []) _
         refine Tr.val (wg rfl rfl rfl) rfl (fun _ _ h1 h2 => run_move (h1.ev rfl)) ?_
         refine Tr.mid0 3 [(0, (sv p0)), (4, (.int .u8 c106)), (7, (iv (p0.size : Int))), (8, (iv x105)), (30, (.bool true)), (33, (.bool false)), (43, (.bool (((decide (c106 < 48)) || (decide (57 < c106))) && (c106 != 95))))] [] ?_ ?_
         ·cases hg106 : ((decide (c106 < 48)) || (decide (57 < c106)))
          ·refine Tr.pass rfl rfl rfl rfl rfl (by decide) ?_
           refine Tr.pass rfl rfl rfl rfl rfl (by decide) ?_
           refine Tr.val (wg rfl rfl rfl) rfl (fun _ _ h1 h2 => zf (h1.ev rfl) (h1.ev rfl)) ?_
           exact Tr.nil (Tr.fin0 (.cons rfl (.cons rfl (.cons rfl (.cons rfl (.cons rfl (.cons rfl (.cons rfl .nil))))))) .nil)
          ·refine Tr.val (wg rfl rfl rfl) rfl (fun _ _ h1 h2 => run_move (h1.ev rfl)) ?_
           refine Tr.val (wg rfl rfl rfl) rfl (fun _ _ h1 h2 => run_neq (h1.ev rfl) (h1.ev rfl)) ?_
           refine Tr.val (wg rfl rfl rfl) rfl (fun _ _ h1 h2 => ze (h1.ev rfl) (h1.ev rfl)) ?_
           exact Tr.nil (Tr.fin0 (.cons rfl (.cons rfl (.cons rfl (.cons rfl (.cons rfl (.cons rfl (.cons rfl .nil))))))) .nil)
         ·show Tr _ _ (LF [(0, (sv p0)), (4, (.int .u8 c106)), (7, (iv (p0.size : Int))), (8, (iv x105)), (30, (.bool true)), (33, (.bool false)), (43, (.bool (((decide (c106 < 48)) || (decide (57 < c106))) && (c106 != 95))))]) (LE []) _
          refine Tr.val (wg rfl rfl rfl) rfl (fun _ _ h1 h2 => run_move (h1.ev rfl)) ?_
          refine Tr.mid0 3 [(0, (sv p0)), (7, (iv (p0.size : Int))), (8, (iv x105)), (30, (.bool true)), (33, (.bool false)), (47, (.bool ((((decide (c106 < 48)) || (decide (57 < c106))) && (c106 != 95)) && (c106 != 45))))] [] ?_ ?_
          ·cases hg106 : (((decide (c106 < 48)) || (decide (57 < c106))) && (c106 != 95))
           ·refine Tr.pass rfl rfl rfl rfl rfl (by decide) ?_
            refine Tr.pass rfl rfl rfl rfl rfl (by decide) ?_
            refine Tr.val (wg rfl rfl rfl) rfl (fun _ _ h1 h2 => zf (h1.ev rfl) (h1.ev rfl)) ?_
            exact Tr.nil (Tr.fin0 (.cons rfl (.cons rfl (.cons rfl (.cons rfl (.cons rfl (.cons rfl .nil)))))) .nil)
           ·refine Tr.val (wg rfl rfl rfl) rfl (fun _ _ h1 h2 => run_move (h1.ev rfl)) ?_
            refine Tr.val (wg rfl rfl rfl) rfl (fun _ _ h1 h2 => run_neq (h1.ev rfl) (h1.ev rfl)) ?_
            refine Tr.val (wg rfl rfl rfl) rfl (fun _ _ h1 h2 => ze (h1.ev rfl) (h1.ev rfl)) ?_
            exact Tr.nil (Tr.fin0 (.cons rfl (.cons rfl (.cons rfl (.cons rfl (.cons rfl (.cons rfl .nil)))))) .nil)
          ·show Tr _ _ (LF [(0, (sv p0)), (7, (iv (p0.size : Int))), (8, (iv x105)), (30, (.bool true)), (33, (.bool false)), (47, (.bool ((((decide (c106 < 48)) || (decide (57 < c106))) && (c106 != 95)) && (c106 != 45))))]) (LE []) _
           refine Tr.val (wg rfl rfl rfl) rfl (fun _ _ h1 h2 => zf (h1.ev rfl) (h1.ev rfl)) ?_
           exact Tr.nil (Tr.fin0 (.cons rfl (.cons rfl (.cons rfl (.cons rfl (.cons rfl .nil))))) .nil)
       ·refine Tr.pass rfl rfl rfl rfl rfl (by decide) ?_
        refine Tr.pass rfl rfl rfl rfl rfl (by decide) ?_
        refine Tr.pass rfl rfl rfl rfl rfl (by decide) ?_
        refine Tr.passU rfl rfl rfl rfl (by decide) ?_
        refine Tr.passU rfl rfl rfl rfl (by decide) ?_
        refine Tr.pass rfl rfl rfl rfl rfl (by decide) ?_
        refine Tr.pass rfl rfl rfl rfl rfl (by decide) ?_
        refine Tr.passU rfl rfl rfl rfl (by decide) ?_
        refine Tr.passU rfl rfl rfl rfl (by decide) ?_
        refine Tr.pass rfl rfl rfl rfl rfl (by decide) ?_
        refine Tr.pass rfl rfl rfl rfl rfl (by decide) ?_
        refine Tr.passU rfl rfl rfl rfl (by decide) ?_
        refine Tr.passU rfl rfl rfl rfl (by decide) ?_
        refine Tr.pass rfl rfl rfl rfl rfl (by decide) ?_
        refine Tr.val (wg rfl rfl rfl) rfl (fun _ _ h1 h2 => ze (h1.ev rfl) (h1.ev rfl)) ?_
        exact Tr.nil (Tr.fin0 (.cons rfl (.cons rfl (.cons rfl (.cons rfl (.cons rfl .nil))))) .nil)
      ·show Tr _ _ (LF [(0, (sv p0)), (7, (iv (p0.size : Int))), (8, (iv x105)), (30, (.bool true)), (48, (.bool ((x105 == 0) || ((((decide (c106 < 48)) || (decide (57 < c106))) && (c106 != 95)) && (c106 != 45)))))]) (LE []) _
       refine Tr.va rfl (fun _ _ h1 h2 => ze (h1.ev rfl) (h1.ev rfl)) ?_
       exact Tr.nil (Tr.fin0 (.cons rfl (.cons rfl (.cons rfl (.cons rfl .nil)))) .nil)
    ·show Tr _ _ (LF [(0, (sv p0)), (7, (iv (p0.size : Int))), (8, (iv x105)), (49, (.bool ((!(((decide (97 ≤ c106)) && (decide (c106 ≤ 122))) || ((decide (65 ≤ c106)) && (decide (c106 ≤ 90))))) && ((x105 == 0) || ((((decide (c106 < 48)) || (decide (57 < c106))) && (c106 != 95)) && (c106 != 45))))))]) (LE []) _
     refine Tr.nil (Tr.zA ?_)
     refine Tr.cond rfl H (fun H => ?_) (fun H => ?_)
     ·refine Tr.sr ?_
      refine Tr.asg rfl rfl ?_
      refine Tr.nil (Tr.zA ?_)
      refine Tr.ret (Tr.zAB (Tr.zU (Tr.zU (Tr.zAB (Tr.zU ?_)))))
      obtain rfl := Option.some.inj H
      exact Tr.out (m := [(.bool false)]) [] (zP rfl zQ) (fun W hW => ⟨rfl, hW.low leB⟩)
     ·refine Tr.skip (Tr.zW (Tr.zA ?_))
      refine Tr.region ?_
      refine Tr.va rfl (fun _ _ h1 h2 => zx (h1.ev rfl) (h1.ev rfl)) ?_
      refine Tr.mv rfl rfl ?_
      refine Tr.nil ?_
      exact Tr.zZ leL1 (w64 (x105 + 1)) H (.cons rfl (.cons rfl (.cons rfl .nil))) .nil
 ·refine Tr.exit (Tr.zX (Tr.zX (Tr.zAC (Tr.zA ?_))))
  refine Tr.sr ?_
  refine Tr.mv rfl rfl ?_
  refine Tr.va rfl (fun _ _ h1 h2 => run_lenS un_9 (h1.ev rfl)) ?_
  refine Tr.va rfl (fun _ _ h1 h2 => run_geq (h1.ev rfl) (h1.ev rfl)) ?_
  refine Tr.mv rfl rfl ?_
  refine Tr.mid0 4 [(58, (.bool ((decide (1 ≤ (p0.size : Int))) && (decide ((p0.size : Int) ≤ 40)))))] [] ?_ ?_
  ·cases hg106 : (decide (1 ≤ (p0.size : Int)))
   ·refine Tr.pass rfl rfl rfl rfl rfl (by decide) ?_
    refine Tr.pass rfl rfl rfl rfl rfl (by decide) ?_
    refine Tr.pass rfl rfl rfl rfl rfl (by decide) ?_
    refine Tr.va rfl (fun _ _ h1 h2 => zf (h1.ev rfl) (h1.ev rfl)) ?_
    exact Tr.nil (Tr.fin0 (.cons rfl .nil) .nil)
   ·refine Tr.val (wg rfl rfl rfl) rfl (fun _ _ h1 h2 => run_move (h1.ev rfl)) ?_
    refine Tr.val (wg rfl rfl rfl) rfl (fun _ _ h1 h2 => run_lenS un_9 (h1.ev rfl)) ?_
    refine Tr.val (wg rfl rfl rfl) rfl (fun _ _ h1 h2 => run_leq (h1.ev rfl) (h1.ev rfl)) ?_
    refine Tr.va rfl (fun _ _ h1 h2 => ze (h1.ev rfl) (h1.ev rfl)) ?_
    exact Tr.nil (Tr.fin0 (.cons rfl .nil) .nil)
  ·show Tr _ _ (LF [(58, (.bool ((decide (1 ≤ (p0.size : Int))) && (decide ((p0.size : Int) ≤ 40)))))]) (LE []) _
   refine Tr.asg rfl rfl ?_
   refine Tr.nil (Tr.zA ?_)
   refine Tr.ret ?_
   obtain rfl := Option.some.inj H
   exact Tr.out (m := [(.bool ((decide (1 ≤ (p0.size : Int))) && (decide ((p0.size : Int) ≤ 40))))]) [] (zP rfl zQ) (fun W hW => ⟨rfl, hW.low leB⟩)

theorem F_plot_isAt_ok {w : Bs} (p0 : Int) (p1 : Int) (r : Bool) (H : F_plot_isAt p0 p1 = some r) (hE : HF w w.W E0) : Calls Tryz.prog 72 [(iv p0), (iv p1)].toArray w.W fun e W' => e = .returned (.bool r) ∧ HF w W' E0 := by
 unfold F_plot_isAt at H
 have leB := Bs.Le.refl w
 refine Tr.enter (n := 11) Tryz.func72 rfl rfl rfl hE ?_
 refine Tr.sr ?_
 refine Tr.asg rfl rfl ?_
 refine Tr.nil (Tr.zA ?_)
 refine Tr.seq ?_
 refine Tr.draw (by kernel_rfl) (by kernel_rfl) ?_
 refine Tq.mv rfl rfl ?_
 refine Tq.mv rfl rfl ?_
 obtain ⟨q100, hq100, H⟩ := bnd H
 refine Tq.va rfl (fun _ _ h1 h2 => run_dv (h1.ev rfl) (h1.ev rfl) hq100) ?_
 refine Tq.mv rfl rfl ?_
 obtain ⟨q101, hq101, H⟩ := bnd H
 refine Tq.va rfl (fun _ _ h1 h2 => run_dv (h1.ev rfl) (h1.ev rfl) hq101) ?_
 obtain ⟨y102, hy102, H⟩ := bnd H
 refine Tq.call0 (r := (.bool y102)) (wn rfl) rfl Tryz.call22 (zF rfl (zF rfl (zF rfl zO))) (fun W hW => F_plot_within_ok p0 q100 q101 y102 hy102 (HF.start _)) ?_
 refine Tq.asg rfl rfl ?_
 refine Tq.nil (Tr.zA ?_)
 refine Tr.ret ?_
 obtain rfl := Option.some.inj H
 exact Tr.out (m := [(.bool y102)]) [] (zP rfl zQ) (fun W hW => ⟨rfl, hW.low leB⟩)

theorem F_plot_checkTool_ok (N : Nat) {w : Bs} (p0 : zS) (Ap0_0 : Option Addr) (cp0_0 : Nat) (hp0_0 : Sl w.R w.W zN Ap0_0 cp0_0 p0.Rects) (p1 : Int) (r : Int) (H : F_plot_checkTool N p0 p1 = some r) (hE : HF w w.W E0) : Calls Tryz.prog 41 [(.agg #[(sv p0.Name), (.slice Ap0_0 (p0.Rects).length cp0_0)]), (iv p1)].toArray w.W fun e W' => e = .returned (iv r) ∧ HF w W' E0 := by
 unfold F_plot_checkTool at H
 have leB := Bs.Le.refl w
 refine Tr.enter (n := 65) Tryz.func41 rfl rfl rfl hE ?_
 refine Tr.sr ?_
 refine Tr.box 1 (cs := [(sv p0.Name), (.slice Ap0_0 (p0.Rects).length cp0_0)]) (wn rfl) rfl rfl rfl fun b100 => ?_
 refine Tr.asg rfl rfl ?_
 refine Tr.nil (Tr.zA ?_)
 refine Tr.seq ?_
 refine Tr.sr ?_
 refine Tr.va rfl (fun _ _ h1 h2 => zB fo_64_0 (h1.ev rfl)) ?_
 refine Tr.va rfl (fun _ _ h1 h2 => zC ag_9 (h1.ev rfl) (rdb h2 (vs := [(sv p0.Name), (.slice Ap0_0 (p0.Rects).length cp0_0)]) (k := 1) rfl 0) rfl) ?_
 obtain ⟨y101, hy101, H⟩ := bnd H
 refine Tr.call0 (r := (.bool y101)) (wn rfl) rfl Tryz.call71 (zF rfl zO) (fun W hW => F_plot_IsName_ok N p0.Name y101 hy101 (HF.start _)) ?_
 refine Tr.va rfl (fun _ _ h1 h2 => run_not (h1.ev rfl)) ?_
 refine Tr.nil (Tr.zA ?_)
 refine Tr.cond rfl H (fun H => ?_) (fun H => ?_)
 ·refine Tr.sr ?_
  refine Tr.asg rfl rfl ?_
  refine Tr.nil (Tr.zA ?_)
  refine Tr.ret (Tr.zU ?_)
  obtain rfl := Option.some.inj H
  exact Tr.out (m := [(iv 5)]) [] (zP rfl zQ) (fun W hW => ⟨rfl, hW.low leB⟩)
 ·refine Tr.skip (Tr.zA ?_)
  refine Tr.seq ?_
  refine Tr.sr ?_
  refine Tr.va rfl (fun _ _ h1 h2 => zB fo_64_1 (h1.ev rfl)) ?_
  refine Tr.va rfl (fun _ _ h1 h2 => zC ag_31 (h1.ev rfl) (rdb h2 (vs := [(sv p0.Name), (.slice Ap0_0 (p0.Rects).length cp0_0)]) (k := 1) rfl 1) rfl) ?_
  refine Tr.va rfl (fun _ _ h1 h2 => zq un_31 (h1.ev rfl)) ?_
  refine Tr.va rfl (fun _ _ h1 h2 => run_eql (h1.ev rfl) (h1.ev rfl)) ?_
  refine Tr.nil (Tr.zA ?_)
  refine Tr.cond rfl H (fun H => ?_) (fun H => ?_)
  ·refine Tr.sr ?_
   refine Tr.asg rfl rfl ?_
   refine Tr.nil (Tr.zA ?_)
   refine Tr.ret (Tr.zU ?_)
   obtain rfl := Option.some.inj H
   exact Tr.out (m := [(iv 9)]) [] (zP rfl zQ) (fun W hW => ⟨rfl, hW.low leB⟩)
  ·refine Tr.skip (Tr.zA ?_)
   refine Tr.seq ?_
   refine Tr.sr ?_
   refine Tr.va rfl (fun _ _ h1 h2 => zB fo_64_1 (h1.ev rfl)) ?_
   refine Tr.va rfl (fun _ _ h1 h2 => zC ag_31 (h1.ev rfl) (rdb h2 (vs := [(sv p0.Name), (.slice Ap0_0 (p0.Rects).length cp0_0)]) (k := 1) rfl 1) rfl) ?_
   refine Tr.va rfl (fun _ _ h1 h2 => zq un_31 (h1.ev rfl)) ?_
   refine Tr.va rfl (fun _ _ h1 h2 => run_gtr (h1.ev rfl) (h1.ev rfl)) ?_
   refine Tr.nil (Tr.zA ?_)
   refine Tr.cond rfl H (fun H => ?_) (fun H => ?_)
   ·refine Tr.sr ?_
    refine Tr.asg rfl rfl ?_
    refine Tr.nil (Tr.zA ?_)
    refine Tr.ret (Tr.zU ?_)
    obtain rfl := Option.some.inj H
    exact Tr.out (m := [(iv 2)]) [] (zP rfl zQ) (fun W hW => ⟨rfl, hW.low leB⟩)
   ·refine Tr.skip (Tr.zA ?_)
    refine Tr.seq ?_
    refine Tr.sr ?_
    refine Tr.va rfl (fun _ _ h1 h2 => zB fo_64_1 (h1.ev rfl)) ?_
    refine Tr.va rfl (fun _ _ h1 h2 => zC ag_31 (h1.ev rfl) (rdb h2 (vs := [(sv p0.Name), (.slice Ap0_0 (p0.Rects).length cp0_0)]) (k := 1) rfl 1) rfl) ?_
    refine Tr.va rfl (fun _ _ h1 h2 => zq un_31 (h1.ev rfl)) ?_
    refine Tr.mv rfl rfl ?_
    refine Tr.nil (Tr.zA ?_)
    refine Tr.block ?_
    refine Tr.loop (σ := (List zT) × Nat) (fun m w s => m = s.1.length + 1 ∧ s.1 = List.drop s.2 p0.Rects ∧ s.2 ≤ p0.Rects.length ∧ F_plot_checkTool_L1 p1 s.1 s.2 = some r) (fun s => [(1, (iv p1)), (20, (.slice Ap0_0 (p0.Rects).length cp0_0)), (21, (iv (p0.Rects.length : Int))), (22, (iv (s.2 : Int)))]) (fun s => []) (p0.Rects.length + 1) (p0.Rects, 0) ⟨rfl, rfl, Nat.zero_le _, H⟩ (.cons rfl (.cons rfl (.cons rfl (.cons rfl .nil)))) .nil (fun _ _ h => absurd h.1 (by simp)) ?_
    intro w leL1 m s hs
    obtain ⟨restL1, iL1⟩ := s
    obtain ⟨hmL1, hdL1, hiL1, H⟩ := hs
    replace hdL1 : restL1 = List.drop iL1 p0.Rects := hdL1
    replace H : F_plot_checkTool_L1 p1 restL1 iL1 = some r := H
    replace hmL1 : m + 1 = restL1.length + 1 := hmL1
    replace hp0_0 := hp0_0.leR leL1
    replace leB := leB.trans leL1
    obtain rfl : m = restL1.length := by omega
    clear hmL1
    show Tr _ _ (LF [(1, (iv p1)), (20, (.slice Ap0_0 (p0.Rects).length cp0_0)), (21, (iv (p0.Rects.length : Int))), (22, (iv (iL1 : Int)))]) (LE []) _
    cases restL1 with
    | nil =>
     rw [F_plot_checkTool_L1.eq_1] at H
     refine Tr.sr ?_
     refine Tr.va rfl (fun _ _ h1 h2 => zz (h1.ev rfl) (h1.ev rfl)) ?_
     refine Tr.nil (Tr.zA ?_)
     refine Tr.seq ?_
     refine Tr.condF rfl (range_nil hdL1) ?_
     refine Tr.exit (Tr.zX (Tr.zX (Tr.zAC (Tr.zA ?_))))
     refine Tr.sr ?_
     refine Tr.asg rfl rfl ?_
     refine Tr.nil (Tr.zA ?_)
     refine Tr.ret ?_
     obtain rfl := Option.some.inj H
     exact Tr.out (m := [(iv 0)]) [] (zP rfl zQ) (fun W hW => ⟨rfl, hW.low leB⟩)
    | cons xL1 restL1 =>
     rw [F_plot_checkTool_L1.eq_2] at H
     refine Tr.sr ?_
     refine Tr.va rfl (fun _ _ h1 h2 => zz (h1.ev rfl) (h1.ev rfl)) ?_
     refine Tr.nil (Tr.zA ?_)
     refine Tr.seq ?_
     refine Tr.condT rfl (range_on hdL1) ?_
     refine Tr.skip (Tr.zA ?_)
     refine Tr.seq ?_
     refine Tr.block ?_
     refine Tr.sr ?_
     refine Tr.va rfl (fun _ _ h1 h2 => zH el_31 (h1.ev rfl) hp0_0.form (h1.ev rfl) (Int.natCast_nonneg _) (zo hdL1)) ?_
     refine Tr.va rfl (fun _ _ h1 h2 => zR (cs := [(iv xL1.X0), (iv xL1.Y0), (iv xL1.X1), (iv xL1.Y1)]) ag_36 sz_36 (h1.ev rfl) (zL.take (rdF ef_TRect hp0_0 (range_at hdL1) h2) 4) rfl) ?_
     refine Tr.alloc 3 (wn rfl) rfl ze_36 fun b115 => ?_
     refine Tr.store 3 (cs := [(iv xL1.X0), (iv xL1.Y0), (iv xL1.X1), (iv xL1.Y1)]) [(iv xL1.X0), (iv xL1.Y0), (iv xL1.X1), (iv xL1.Y1)] (wn rfl) rfl rfl rfl rfl sz_36 rfl rfl rfl ?_
     refine Tr.nil (Tr.zA ?_)
     refine Tr.seq ?_
     refine Tr.sr ?_
     refine Tr.va rfl (fun _ _ h1 h2 => zB fo_36_0 (h1.ev rfl)) ?_
     refine Tr.va rfl (fun _ _ h1 h2 => zC ag_3 (h1.ev rfl) (rdb h2 (vs := [(iv xL1.X0), (iv xL1.Y0), (iv xL1.X1), (iv xL1.Y1)]) (k := 3) rfl 0) rfl) ?_
     refine Tr.mv rfl rfl ?_
     obtain ⟨y116, hy116, H⟩ := bnd H
     refine Tr.call0 (r := (.bool y116)) (wn rfl) rfl Tryz.call72 (zF rfl (zF rfl zO)) (fun W hW => F_plot_isAt_ok xL1.X0 p1 y116 hy116 (HF.start _)) ?_
     refine Tr.va rfl (fun _ _ h1 h2 => run_not (h1.ev rfl)) ?_
     refine Tr.mv rfl rfl ?_
     obtain ⟨g118, hg118, H⟩ := bnd H
     refine Tr.mid0 6 [(1, (iv p1)), (6, (.pointer (some ⟨b115, 0, none⟩))), (20, (.slice Ap0_0 (p0.Rects).length cp0_0)), (21, (iv (p0.Rects.length : Int))), (22, (iv (iL1 : Int))), (37, (.bool g118))] [(3, bx b115 #[(iv xL1.X0), (iv xL1.Y0), (iv xL1.X1), (iv xL1.Y1)] 36)] ?_ ?_
     ·cases hg125 : (!y116)
      ·rw [hg125] at hg118
       rw [if_neg (by decide)] at hg118
       have H := hg118
       refine Tr.val (wg rfl rfl rfl) rfl (fun _ _ h1 h2 => zB fo_36_1 (h1.ev rfl)) ?_
       refine Tr.val (wg rfl rfl rfl) rfl (fun _ _ h1 h2 => zC ag_3 (h1.ev rfl) (rdb h2 (vs := [(iv xL1.X0), (iv xL1.Y0), (iv xL1.X1), (iv xL1.Y1)]) (k := 3) rfl 1) rfl) ?_
       refine Tr.val (wg rfl rfl rfl) rfl (fun _ _ h1 h2 => run_move (h1.ev rfl)) ?_
       obtain ⟨y119, hy119, H⟩ := bnd H
       refine Tr.call0 (r := (.bool y119)) (wg rfl rfl rfl) rfl Tryz.call72 (zF rfl (zF rfl zO)) (fun W hW => F_plot_isAt_ok xL1.Y0 p1 y119 hy119 (HF.start _)) ?_
       refine Tr.val (wg rfl rfl rfl) rfl (fun _ _ h1 h2 => run_not (h1.ev rfl)) ?_
       refine Tr.va rfl (fun _ _ h1 h2 => zf (h1.ev rfl) (h1.ev rfl)) ?_
       obtain rfl := Option.some.inj H
       exact Tr.nil (Tr.fin0 (.cons rfl (.cons rfl (.cons rfl (.cons rfl (.cons rfl (.cons rfl .nil)))))) (.cons rfl .nil))
      ·rw [hg125] at hg118
       rw [if_pos rfl] at hg118
       have H := hg118
       obtain rfl := Option.some.inj H
       refine Tr.pass rfl rfl rfl rfl rfl (by decide) ?_
       refine Tr.pass rfl rfl rfl rfl rfl (by decide) ?_
       refine Tr.pass rfl rfl rfl rfl rfl (by decide) ?_
       refine Tr.pass rfl rfl rfl rfl rfl (by decide) ?_
       refine Tr.pass rfl rfl rfl rfl rfl (by decide) ?_
       refine Tr.va rfl (fun _ _ h1 h2 => ze (h1.ev rfl) (h1.ev rfl)) ?_
       exact Tr.nil (Tr.fin0 (.cons rfl (.cons rfl (.cons rfl (.cons rfl (.cons rfl (.cons rfl .nil)))))) (.cons rfl .nil))
     ·show Tr _ _ (LF [(1, (iv p1)), (6, (.pointer (some ⟨b115, 0, none⟩))), (20, (.slice Ap0_0 (p0.Rects).length cp0_0)), (21, (iv (p0.Rects.length : Int))), (22, (iv (iL1 : Int))), (37, (.bool g118))]) (LE [(3, bx b115 #[(iv xL1.X0), (iv xL1.Y0), (iv xL1.X1), (iv xL1.Y1)] 36)]) _
      refine Tr.mv rfl rfl ?_
      obtain ⟨g121, hg121, H⟩ := bnd H
      refine Tr.mid0 6 [(1, (iv p1)), (6, (.pointer (some ⟨b115, 0, none⟩))), (20, (.slice Ap0_0 (p0.Rects).length cp0_0)), (21, (iv (p0.Rects.length : Int))), (22, (iv (iL1 : Int))), (44, (.bool g121))] [(3, bx b115 #[(iv xL1.X0), (iv xL1.Y0), (iv xL1.X1), (iv xL1.Y1)] 36)] ?_ ?_
      ·cases hg125 : g118
       ·rw [hg125] at hg121
        rw [if_neg (by decide)] at hg121
        have H := hg121
        refine Tr.val (wg rfl rfl rfl) rfl (fun _ _ h1 h2 => zB fo_36_2 (h1.ev rfl)) ?_
        refine Tr.val (wg rfl rfl rfl) rfl (fun _ _ h1 h2 => zC ag_3 (h1.ev rfl) (rdb h2 (vs := [(iv xL1.X0), (iv xL1.Y0), (iv xL1.X1), (iv xL1.Y1)]) (k := 3) rfl 2) rfl) ?_
        refine Tr.val (wg rfl rfl rfl) rfl (fun _ _ h1 h2 => run_move (h1.ev rfl)) ?_
        obtain ⟨y122, hy122, H⟩ := bnd H
        refine Tr.call0 (r := (.bool y122)) (wg rfl rfl rfl) rfl Tryz.call72 (zF rfl (zF rfl zO)) (fun W hW => F_plot_isAt_ok xL1.X1 p1 y122 hy122 (HF.start _)) ?_
        refine Tr.val (wg rfl rfl rfl) rfl (fun _ _ h1 h2 => run_not (h1.ev rfl)) ?_
        refine Tr.va rfl (fun _ _ h1 h2 => zf (h1.ev rfl) (h1.ev rfl)) ?_
        obtain rfl := Option.some.inj H
        exact Tr.nil (Tr.fin0 (.cons rfl (.cons rfl (.cons rfl (.cons rfl (.cons rfl (.cons rfl .nil)))))) (.cons rfl .nil))
       ·rw [hg125] at hg121
        rw [if_pos rfl] at hg121
        have H := hg121
        obtain rfl := Option.some.inj H
        refine Tr.pass rfl rfl rfl rfl rfl (by decide) ?_
        refine Tr.pass rfl rfl rfl rfl rfl (by decide) ?_
        refine Tr.pass rfl rfl rfl rfl rfl (by decide) ?_
        refine Tr.pass rfl rfl rfl rfl rfl (by decide) ?_
        refine Tr.pass rfl rfl rfl rfl rfl (by decide) ?_
        refine Tr.va rfl (fun _ _ h1 h2 => ze (h1.ev rfl) (h1.ev rfl)) ?_
        exact Tr.nil (Tr.fin0 (.cons rfl (.cons rfl (.cons rfl (.cons rfl (.cons rfl (.cons rfl .nil)))))) (.cons rfl .nil))
      ·show Tr _ _ (LF [(1, (iv p1)), (6, (.pointer (some ⟨b115, 0, none⟩))), (20, (.slice Ap0_0 (p0.Rects).length cp0_0)), (21, (iv (p0.Rects.length : Int))), (22, (iv (iL1 : Int))), (44, (.bool g121))]) (LE [(3, bx b115 #[(iv xL1.X0), (iv xL1.Y0), (iv xL1.X1), (iv xL1.Y1)] 36)]) _
       refine Tr.mv rfl rfl ?_
       obtain ⟨g124, hg124, H⟩ := bnd H
       refine Tr.mid0 6 [(1, (iv p1)), (6, (.pointer (some ⟨b115, 0, none⟩))), (20, (.slice Ap0_0 (p0.Rects).length cp0_0)), (21, (iv (p0.Rects.length : Int))), (22, (iv (iL1 : Int))), (51, (.bool g124))] [(3, bx b115 #[(iv xL1.X0), (iv xL1.Y0), (iv xL1.X1), (iv xL1.Y1)] 36)] ?_ ?_
       ·cases hg125 : g121
        ·rw [hg125] at hg124
         rw [if_neg (by decide)] at hg124
         have H := hg124
         refine Tr.val (wg rfl rfl rfl) rfl (fun _ _ h1 h2 => zB fo_36_3 (h1.ev rfl)) ?_
         refine Tr.val (wg rfl rfl rfl) rfl (fun _ _ h1 h2 => zC ag_3 (h1.ev rfl) (rdb h2 (vs := [(iv xL1.X0), (iv xL1.Y0), (iv xL1.X1), (iv xL1.Y1)]) (k := 3) rfl 3) rfl) ?_
         refine Tr.val (wg rfl rfl rfl) rfl (fun _ _ h1 h2 => run_move (h1.ev rfl)) ?_
         obtain ⟨y125, hy125, H⟩ := bnd H
         refine Tr.call0 (r := (.bool y125)) (wg rfl rfl rfl) rfl Tryz.call72 (zF rfl (zF rfl zO)) (fun W hW => F_plot_isAt_ok xL1.Y1 p1 y125 hy125 (HF.start _)) ?_
         refine Tr.val (wg rfl rfl rfl) rfl (fun _ _ h1 h2 => run_not (h1.ev rfl)) ?_
         refine Tr.va rfl (fun _ _ h1 h2 => zf (h1.ev rfl) (h1.ev rfl)) ?_
         obtain rfl := Option.some.inj H
         exact Tr.nil (Tr.fin0 (.cons rfl (.cons rfl (.cons rfl (.cons rfl (.cons rfl (.cons rfl .nil)))))) (.cons rfl .nil))
        ·rw [hg125] at hg124
         rw [if_pos rfl] at hg124
         have H := hg124
         obtain rfl := Option.some.inj H
         refine Tr.pass rfl rfl rfl rfl rfl (by decide) ?_
         refine Tr.pass rfl rfl rfl rfl rfl (by decide) ?_
         refine Tr.pass rfl rfl rfl rfl rfl (by decide) ?_
         refine Tr.pass rfl rfl rfl rfl rfl (by decide) ?_
         refine Tr.pass rfl rfl rfl rfl rfl (by decide) ?_
         refine Tr.va rfl (fun _ _ h1 h2 => ze (h1.ev rfl) (h1.ev rfl)) ?_
         exact Tr.nil (Tr.fin0 (.cons rfl (.cons rfl (.cons rfl (.cons rfl (.cons rfl (.cons rfl .nil)))))) (.cons rfl .nil))
       ·show Tr _ _ (LF [(1, (iv p1)), (6, (.pointer (some ⟨b115, 0, none⟩))), (20, (.slice Ap0_0 (p0.Rects).length cp0_0)), (21, (iv (p0.Rects.length : Int))), (22, (iv (iL1 : Int))), (51, (.bool g124))]) (LE [(3, bx b115 #[(iv xL1.X0), (iv xL1.Y0), (iv xL1.X1), (iv xL1.Y1)] 36)]) _
        refine Tr.nil (Tr.zA ?_)
        refine Tr.cond rfl H (fun H => ?_) (fun H => ?_)
        ·refine Tr.sr ?_
         refine Tr.asg rfl rfl ?_
         refine Tr.nil (Tr.zA ?_)
         refine Tr.ret (Tr.zU (Tr.zAB (Tr.zU (Tr.zU (Tr.zAB (Tr.zU ?_))))))
         obtain rfl := Option.some.inj H
         exact Tr.out (m := [(iv 1)]) [] (zP rfl zQ) (fun W hW => ⟨rfl, hW.low leB⟩)
        ·refine Tr.skip (Tr.zA ?_)
         refine Tr.sr ?_
         refine Tr.va rfl (fun _ _ h1 h2 => zB fo_36_2 (h1.ev rfl)) ?_
         refine Tr.va rfl (fun _ _ h1 h2 => zC ag_3 (h1.ev rfl) (rdb h2 (vs := [(iv xL1.X0), (iv xL1.Y0), (iv xL1.X1), (iv xL1.Y1)]) (k := 3) rfl 2) rfl) ?_
         refine Tr.va rfl (fun _ _ h1 h2 => zB fo_36_0 (h1.ev rfl)) ?_
         refine Tr.va rfl (fun _ _ h1 h2 => zC ag_3 (h1.ev rfl) (rdb h2 (vs := [(iv xL1.X0), (iv xL1.Y0), (iv xL1.X1), (iv xL1.Y1)]) (k := 3) rfl 0) rfl) ?_
         refine Tr.va rfl (fun _ _ h1 h2 => run_leq (h1.ev rfl) (h1.ev rfl)) ?_
         refine Tr.mv rfl rfl ?_
         refine Tr.mid0 6 [(1, (iv p1)), (20, (.slice Ap0_0 (p0.Rects).length cp0_0)), (21, (iv (p0.Rects.length : Int))), (22, (iv (iL1 : Int))), (63, (.bool ((decide (xL1.X1 ≤ xL1.X0)) || (decide (xL1.Y1 ≤ xL1.Y0)))))] [(3, bx b115 #[(iv xL1.X0), (iv xL1.Y0), (iv xL1.X1), (iv xL1.Y1)] 36)] ?_ ?_
         ·cases hg125 : (decide (xL1.X1 ≤ xL1.X0))
          ·refine Tr.val (wg rfl rfl rfl) rfl (fun _ _ h1 h2 => zB fo_36_3 (h1.ev rfl)) ?_
           refine Tr.val (wg rfl rfl rfl) rfl (fun _ _ h1 h2 => zC ag_3 (h1.ev rfl) (rdb h2 (vs := [(iv xL1.X0), (iv xL1.Y0), (iv xL1.X1), (iv xL1.Y1)]) (k := 3) rfl 3) rfl) ?_
           refine Tr.val (wg rfl rfl rfl) rfl (fun _ _ h1 h2 => zB fo_36_1 (h1.ev rfl)) ?_
           refine Tr.val (wg rfl rfl rfl) rfl (fun _ _ h1 h2 => zC ag_3 (h1.ev rfl) (rdb h2 (vs := [(iv xL1.X0), (iv xL1.Y0), (iv xL1.X1), (iv xL1.Y1)]) (k := 3) rfl 1) rfl) ?_
           refine Tr.val (wg rfl rfl rfl) rfl (fun _ _ h1 h2 => run_leq (h1.ev rfl) (h1.ev rfl)) ?_
           refine Tr.va rfl (fun _ _ h1 h2 => zf (h1.ev rfl) (h1.ev rfl)) ?_
           exact Tr.nil (Tr.fin0 (.cons rfl (.cons rfl (.cons rfl (.cons rfl (.cons rfl .nil))))) (.cons rfl .nil))
          ·refine Tr.pass rfl rfl rfl rfl rfl (by decide) ?_
           refine Tr.pass rfl rfl rfl rfl rfl (by decide) ?_
           refine Tr.pass rfl rfl rfl rfl rfl (by decide) ?_
           refine Tr.pass rfl rfl rfl rfl rfl (by decide) ?_
           refine Tr.pass rfl rfl rfl rfl rfl (by decide) ?_
           refine Tr.va rfl (fun _ _ h1 h2 => ze (h1.ev rfl) (h1.ev rfl)) ?_
           exact Tr.nil (Tr.fin0 (.cons rfl (.cons rfl (.cons rfl (.cons rfl (.cons rfl .nil))))) (.cons rfl .nil))
         ·show Tr _ _ (LF [(1, (iv p1)), (20, (.slice Ap0_0 (p0.Rects).length cp0_0)), (21, (iv (p0.Rects.length : Int))), (22, (iv (iL1 : Int))), (63, (.bool ((decide (xL1.X1 ≤ xL1.X0)) || (decide (xL1.Y1 ≤ xL1.Y0)))))]) (LE [(3, bx b115 #[(iv xL1.X0), (iv xL1.Y0), (iv xL1.X1), (iv xL1.Y1)] 36)]) _
          refine Tr.nil (Tr.zA ?_)
          refine Tr.cond rfl H (fun H => ?_) (fun H => ?_)
          ·refine Tr.sr ?_
           refine Tr.asg rfl rfl ?_
           refine Tr.nil (Tr.zA ?_)
           refine Tr.ret (Tr.zAB (Tr.zU (Tr.zU (Tr.zAB (Tr.zU ?_)))))
           obtain rfl := Option.some.inj H
           exact Tr.out (m := [(iv 13)]) [] (zP rfl zQ) (fun W hW => ⟨rfl, hW.low leB⟩)
          ·refine Tr.skip (Tr.zW (Tr.zA ?_))
           refine Tr.region ?_
           refine Tr.va rfl (fun _ _ h1 h2 => zx (h1.ev rfl) (h1.ev rfl)) ?_
           refine Tr.mv rfl rfl ?_
           refine Tr.nil ?_
           exact Tr.zZ leL1 (restL1, (iL1 + 1)) ⟨rfl, range_tl hdL1, zo hdL1, H⟩ (.cons rfl (.cons rfl (.cons rfl (.cons (congrArg (fun z => some (Value.int .i64 z)) (range_up hdL1 hp0_0.form)) .nil)))) .nil

theorem F_plot_times_1_ok {w : Bs} (p0 : Int) (r : Int) (H : F_plot_times_1 p0 = some r) (hE : HF w w.W E0) : Calls Tryz.prog 95 [(iv p0)].toArray w.W fun e W' => e = .returned (iv r) ∧ HF w W' E0 := by
 unfold F_plot_times_1 at H
 have leB := Bs.Le.refl w
 refine Tr.enter (n := 6) Tryz.func95 rfl rfl rfl hE ?_
 refine Tr.sr ?_
 refine Tr.asg rfl rfl ?_
 refine Tr.nil (Tr.zA ?_)
 refine Tr.seq ?_
 refine Tr.sr ?_
 refine Tr.mv rfl rfl ?_
 obtain ⟨y100, hy100, H⟩ := bnd H
 refine Tr.call0 (r := (.bool y100)) (wn rfl) rfl Tryz.call22 (zF rfl (zF rfl (zF rfl zO))) (fun W hW => F_plot_within_ok p0 1 100 y100 hy100 (HF.start _)) ?_
 refine Tr.nil (Tr.zA ?_)
 refine Tr.cond rfl H (fun H => ?_) (fun H => ?_)
 ·refine Tr.sr ?_
  refine Tr.mv rfl rfl ?_
  refine Tr.asg rfl rfl ?_
  refine Tr.nil (Tr.zA ?_)
  refine Tr.ret (Tr.zU ?_)
  obtain rfl := Option.some.inj H
  exact Tr.out (m := [(iv p0)]) [] (zP rfl zQ) (fun W hW => ⟨rfl, hW.low leB⟩)
 ·refine Tr.skip (Tr.zA ?_)
  refine Tr.sr ?_
  refine Tr.asg rfl rfl ?_
  refine Tr.nil (Tr.zA ?_)
  refine Tr.ret ?_
  obtain rfl := Option.some.inj H
  exact Tr.out (m := [(iv 1)]) [] (zP rfl zQ) (fun W hW => ⟨rfl, hW.low leB⟩)

theorem F_plot_times_ok {w : Bs} (p0 : zD) (Ap0_0 : Option Addr) (cp0_0 : Nat) (hp0_0 : Sl w.R w.W zy Ap0_0 cp0_0 p0.Points) (Ap0_1 : Option Addr) (cp0_1 : Nat) (hp0_1 : Sl w.R w.W zG Ap0_1 cp0_1 p0.Steps) (r : Int) (H : F_plot_times p0 = some r) (hE : HF w w.W E0) : Calls Tryz.prog 73 [(.agg #[(iv p0.Kind), (sv p0.Name), (iv p0.At.X), (iv p0.At.Y), (.slice Ap0_0 (p0.Points).length cp0_0), (iv p0.NX), (iv p0.NY), (.slice Ap0_1 (p0.Steps).length cp0_1)])].toArray w.W fun e W' => e = .returned (iv r) ∧ HF w W' E0 := by
 unfold F_plot_times at H
 have leB := Bs.Le.refl w
 refine Tr.enter (n := 13) Tryz.func73 rfl rfl rfl hE ?_
 refine Tr.sr ?_
 refine Tr.box 1 (cs := [(iv p0.Kind), (sv p0.Name), (iv p0.At.X), (iv p0.At.Y), (.slice Ap0_0 (p0.Points).length cp0_0), (iv p0.NX), (iv p0.NY), (.slice Ap0_1 (p0.Steps).length cp0_1)]) (wn rfl) rfl rfl rfl fun b100 => ?_
 refine Tr.asg rfl rfl ?_
 refine Tr.nil (Tr.zA ?_)
 refine Tr.sr ?_
 refine Tr.asg rfl rfl ?_
 refine Tr.nil (Tr.zA ?_)
 refine Tr.seq ?_
 refine Tr.draw (by kernel_rfl) (by kernel_rfl) ?_
 refine Tq.mv rfl rfl ?_
 refine Tq.va rfl (fun _ _ h1 h2 => zB fo_46_4 (h1.ev rfl)) ?_
 refine Tq.va rfl (fun _ _ h1 h2 => zC ag_3 (h1.ev rfl) (rdb h2 (vs := [(iv p0.Kind), (sv p0.Name), (iv p0.At.X), (iv p0.At.Y), (.slice Ap0_0 (p0.Points).length cp0_0), (iv p0.NX), (iv p0.NY), (.slice Ap0_1 (p0.Steps).length cp0_1)]) (k := 1) rfl 5) rfl) ?_
 obtain ⟨y101, hy101, H⟩ := bnd H
 refine Tq.callF (r := (iv y101)) (wn rfl) rfl rfl Tryz.call95 (zF rfl zO) (fun W hW => F_plot_times_1_ok p0.NX y101 hy101 (HF.start _)) ?_
 refine Tq.mv rfl rfl ?_
 refine Tq.va rfl (fun _ _ h1 h2 => zB fo_46_5 (h1.ev rfl)) ?_
 refine Tq.va rfl (fun _ _ h1 h2 => zC ag_3 (h1.ev rfl) (rdb h2 (vs := [(iv p0.Kind), (sv p0.Name), (iv p0.At.X), (iv p0.At.Y), (.slice Ap0_0 (p0.Points).length cp0_0), (iv p0.NX), (iv p0.NY), (.slice Ap0_1 (p0.Steps).length cp0_1)]) (k := 1) rfl 6) rfl) ?_
 obtain ⟨y102, hy102, H⟩ := bnd H
 refine Tq.callF (r := (iv y102)) (wn rfl) rfl rfl Tryz.call95 (zF rfl zO) (fun W hW => F_plot_times_1_ok p0.NY y102 hy102 (HF.start _)) ?_
 refine Tq.va rfl (fun _ _ h1 h2 => run_mul (h1.ev rfl) (h1.ev rfl)) ?_
 refine Tq.asg rfl rfl ?_
 refine Tq.nil (Tr.zA ?_)
 refine Tr.ret ?_
 obtain rfl := Option.some.inj H
 exact Tr.out (m := [(iv (w64 (y101 * y102)))]) [] (zP rfl zQ) (fun W hW => ⟨rfl, hW.low leB⟩)

theorem F_plot_count_b_ok (N : Nat) (rec : (List zD) → Option Int) (hrec : ∀ {w : Bs} (p0 : (List zD)) (Ap0_0 : Option Addr) (cp0_0 : Nat) (hp0_0 : Sl w.R w.W zG Ap0_0 cp0_0 p0) (r : Int) (H : rec p0 = some r) (hE : HF w w.W E0), Calls Tryz.prog 42 [(.slice Ap0_0 (p0).length cp0_0)].toArray w.W fun e W' => e = .returned (iv r) ∧ HF w W' E0) {w : Bs} (p0 : (List zD)) (Ap0_0 : Option Addr) (cp0_0 : Nat) (hp0_0 : Sl w.R w.W zG Ap0_0 cp0_0 p0) (r : Int) (H : F_plot_count_b N rec p0 = some r) (hE : HF w w.W E0) : Calls Tryz.prog 42 [(.slice Ap0_0 (p0).length cp0_0)].toArray w.W fun e W' => e = .returned (iv r) ∧ HF w W' E0 := by
 unfold F_plot_count_b at H
 have leB := Bs.Le.refl w
 refine Tr.enter (n := 30) Tryz.func42 rfl rfl rfl hE ?_
 refine Tr.sr ?_
 refine Tr.asg rfl rfl ?_
 refine Tr.nil (Tr.zA ?_)
 refine Tr.sr ?_
 refine Tr.asg rfl rfl ?_
 refine Tr.nil (Tr.zA ?_)
 refine Tr.seq ?_
 refine Tr.sr ?_
 refine Tr.mv rfl rfl ?_
 refine Tr.va rfl (fun _ _ h1 h2 => zq un_23 (h1.ev rfl)) ?_
 refine Tr.mv rfl rfl ?_
 refine Tr.nil (Tr.zA ?_)
 refine Tr.block ?_
 refine Tr.loop (σ := (List zD) × Nat × Int) (fun m w s => m = s.1.length + 1 ∧ s.1 = List.drop s.2.1 p0 ∧ s.2.1 ≤ p0.length ∧ F_plot_count_L3 rec s.1 s.2.1 s.2.2 = some r) (fun s => [(3, (iv s.2.2)), (6, (.slice Ap0_0 (p0).length cp0_0)), (7, (iv (p0.length : Int))), (8, (iv (s.2.1 : Int)))]) (fun s => []) (p0.length + 1) (p0, 0, 0) ⟨rfl, rfl, Nat.zero_le _, H⟩ (.cons rfl (.cons rfl (.cons rfl (.cons rfl .nil)))) .nil (fun _ _ h => absurd h.1 (by simp)) ?_
 intro w leL3 m s hs
 obtain ⟨restL3, iL3, x126⟩ := s
 obtain ⟨hmL3, hdL3, hiL3, H⟩ := hs
 replace hdL3 : restL3 = List.drop iL3 p0 := hdL3
 replace H : F_plot_count_L3 rec restL3 iL3 x126 = some r := H
 replace hmL3 : m + 1 = restL3.length + 1 := hmL3
 replace hp0_0 := hp0_0.leR leL3
 replace leB := leB.trans leL3
 obtain rfl : m = restL3.length := by omega
 clear hmL3
 show Tr _ _ (LF [(3, (iv x126)), (6, (.slice Ap0_0 (p0).length cp0_0)), (7, (iv (p0.length : Int))), (8, (iv (iL3 : Int)))]) (LE []) _
 cases restL3 with
 | nil =>
  rw [F_plot_count_L3.eq_1] at H
  refine Tr.sr ?_
  refine Tr.va rfl (fun _ _ h1 h2 => zz (h1.ev rfl) (h1.ev rfl)) ?_
  refine Tr.nil (Tr.zA ?_)
  refine Tr.seq ?_
  refine Tr.condF rfl (range_nil hdL3) ?_
  refine Tr.exit (Tr.zX (Tr.zX (Tr.zAC (Tr.zA ?_))))
  refine Tr.sr ?_
  refine Tr.mv rfl rfl ?_
  refine Tr.asg rfl rfl ?_
  refine Tr.nil (Tr.zA ?_)
  refine Tr.ret ?_
  obtain rfl := Option.some.inj H
  exact Tr.out (m := [(iv x126)]) [] (zP rfl zQ) (fun W hW => ⟨rfl, hW.low leB⟩)
 | cons xL3 restL3 =>
  rw [F_plot_count_L3.eq_2] at H
  refine Tr.sr ?_
  refine Tr.va rfl (fun _ _ h1 h2 => zz (h1.ev rfl) (h1.ev rfl)) ?_
  refine Tr.nil (Tr.zA ?_)
  refine Tr.seq ?_
  refine Tr.condT rfl (range_on hdL3) ?_
  refine Tr.skip (Tr.zA ?_)
  refine Tr.seq ?_
  refine Tr.block ?_
  refine Tr.sr ?_
  obtain ⟨u127, hRu127, hoku127, hcu127⟩ := (hp0_0).el (range_at hdL3)
  obtain ⟨⟨Au127_0, cu127_0⟩, ⟨Au127_1, cu127_1⟩⟩ := u127
  obtain ⟨hoku127_0, hoku127_1⟩ := TPlotStep_ok.1 hoku127
  replace hoku127_0 : Sl w.R w.W zy Au127_0 cu127_0 xL3.Points := hoku127_0
  replace hoku127_1 : Sl w.R w.W zG Au127_1 cu127_1 xL3.Steps := hoku127_1
  refine Tr.va rfl (fun _ _ h1 h2 => zH el_23 (h1.ev rfl) hp0_0.form (h1.ev rfl) (Int.natCast_nonneg _) (zo hdL3)) ?_
  refine Tr.va rfl (fun _ _ h1 h2 => zR (cs := [(iv xL3.Kind), (sv xL3.Name), (iv xL3.At.X), (iv xL3.At.Y), (.slice Au127_0 (xL3.Points).length cu127_0), (iv xL3.NX), (iv xL3.NY), (.slice Au127_1 (xL3.Steps).length cu127_1)]) ag_46 sz_46 (h1.ev rfl) (zL.take (rdR hRu127 hcu127 h2) 8) rfl) ?_
  refine Tr.alloc 3 (wn rfl) rfl ze_46 fun b128 => ?_
  refine Tr.store 3 (cs := [(iv xL3.Kind), (sv xL3.Name), (iv xL3.At.X), (iv xL3.At.Y), (.slice Au127_0 (xL3.Points).length cu127_0), (iv xL3.NX), (iv xL3.NY), (.slice Au127_1 (xL3.Steps).length cu127_1)]) [(iv xL3.Kind), (sv xL3.Name), (iv xL3.At.X), (iv xL3.At.Y), (.slice Au127_0 (xL3.Points).length cu127_0), (iv xL3.NX), (iv xL3.NY), (.slice Au127_1 (xL3.Steps).length cu127_1)] (wn rfl) rfl rfl rfl rfl sz_46 rfl rfl rfl ?_
  refine Tr.nil (Tr.zA ?_)
  refine Tr.sr ?_
  refine Tr.mv rfl rfl ?_
  refine Tr.va rfl (fun _ _ h1 h2 => zx (h1.ev rfl) (h1.ev rfl)) ?_
  refine Tr.asg rfl rfl ?_
  refine Tr.nil (Tr.zA ?_)
  have leJ132 := Bs.Le.refl w
  refine Tr.cutJ (σ := Int) (fun w s => F_plot_count_J4 (F_plot_count_L3 rec restL3 (iL3 + 1)) s = some r) (fun s => [(3, (iv s)), (6, (.slice Ap0_0 (p0).length cp0_0)), (7, (iv (p0.length : Int))), (8, (iv (iL3 : Int)))]) (fun s => []) ?_ ?_
  ·refine Tr.sr ?_
   refine Tr.va rfl (fun _ _ h1 h2 => zB fo_46_6 (h1.ev rfl)) ?_
   refine Tr.va rfl (fun _ _ h1 h2 => zC ag_23 (h1.ev rfl) (rdb h2 (vs := [(iv xL3.Kind), (sv xL3.Name), (iv xL3.At.X), (iv xL3.At.Y), (.slice Au127_0 (xL3.Points).length cu127_0), (iv xL3.NX), (iv xL3.NY), (.slice Au127_1 (xL3.Steps).length cu127_1)]) (k := 3) rfl 7) rfl) ?_
   refine Tr.va rfl (fun _ _ h1 h2 => zq un_23 (h1.ev rfl)) ?_
   refine Tr.va rfl (fun _ _ h1 h2 => run_gtr (h1.ev rfl) (h1.ev rfl)) ?_
   refine Tr.nil (Tr.zA ?_)
   refine Tr.cond rfl H (fun H => ?_) (fun H => ?_)
   ·refine Tr.draw (by kernel_rfl) (by kernel_rfl) ?_
    refine Tq.mv rfl rfl ?_
    refine Tq.va rfl (fun _ _ h1 h2 => zR (cs := [(iv xL3.Kind), (sv xL3.Name), (iv xL3.At.X), (iv xL3.At.Y), (.slice Au127_0 (xL3.Points).length cu127_0), (iv xL3.NX), (iv xL3.NY), (.slice Au127_1 (xL3.Steps).length cu127_1)]) ag_46 sz_46 (h1.ev rfl) (zL.take (rdb h2 (vs := [(iv xL3.Kind), (sv xL3.Name), (iv xL3.At.X), (iv xL3.At.Y), (.slice Au127_0 (xL3.Points).length cu127_0), (iv xL3.NX), (iv xL3.NY), (.slice Au127_1 (xL3.Steps).length cu127_1)]) (k := 3) rfl 0) 8) rfl) ?_
    obtain ⟨y134, hy134, H⟩ := bnd H
    refine Tq.call0 (r := (iv y134)) (wn rfl) rfl Tryz.call73 (zF rfl zO) (fun W hW => F_plot_times_ok xL3 Au127_0 cu127_0 (hoku127_0.ext hW.extAll) Au127_1 cu127_1 (hoku127_1.ext hW.extAll) y134 hy134 (HF.start _)) ?_
    refine Tq.va rfl (fun _ _ h1 h2 => zB fo_46_6 (h1.ev rfl)) ?_
    refine Tq.va rfl (fun _ _ h1 h2 => zC ag_23 (h1.ev rfl) (rdb h2 (vs := [(iv xL3.Kind), (sv xL3.Name), (iv xL3.At.X), (iv xL3.At.Y), (.slice Au127_0 (xL3.Points).length cu127_0), (iv xL3.NX), (iv xL3.NY), (.slice Au127_1 (xL3.Steps).length cu127_1)]) (k := 3) rfl 7) rfl) ?_
    obtain ⟨y135, hy135, H⟩ := bnd H
    refine Tq.call0 (r := (iv y135)) (wn rfl) rfl Tryz.call42 (zF rfl zO) (fun W hW => hrec xL3.Steps Au127_1 cu127_1 (hoku127_1.ext hW.extAll) y135 hy135 (HF.start _)) ?_
    refine Tq.va rfl (fun _ _ h1 h2 => run_mul (h1.ev rfl) (h1.ev rfl)) ?_
    refine Tq.va rfl (fun _ _ h1 h2 => zx (h1.ev rfl) (h1.ev rfl)) ?_
    refine Tq.asg rfl rfl ?_
    refine Tq.nil ?_
    exact Tr.zZ leJ132 (w64 ((w64 (x126 + 1)) + (w64 (y134 * y135)))) H (.cons rfl (.cons rfl (.cons rfl (.cons rfl .nil)))) .nil
   ·refine Tr.skip ?_
    exact Tr.zZ leJ132 (w64 (x126 + 1)) H (.cons rfl (.cons rfl (.cons rfl (.cons rfl .nil)))) .nil
  ·intro w x131 hlJ133 hs
   have H := hs
   replace H : F_plot_count_J4 (F_plot_count_L3 rec restL3 (iL3 + 1)) x131 = some r := H
   replace hp0_0 := hp0_0.leR hlJ133
   replace leB := leB.trans hlJ133
   replace leL3 := leL3.trans hlJ133
   unfold F_plot_count_J4 at H
   show Tr _ _ (LF [(3, (iv x131)), (6, (.slice Ap0_0 (p0).length cp0_0)), (7, (iv (p0.length : Int))), (8, (iv (iL3 : Int)))]) (LE []) _
   refine Tr.sr ?_
   refine Tr.mv rfl rfl ?_
   refine Tr.va rfl (fun _ _ h1 h2 => run_gtr (h1.ev rfl) (h1.ev rfl)) ?_
   refine Tr.nil (Tr.zA ?_)
   refine Tr.cond rfl H (fun H => ?_) (fun H => ?_)
   ·refine Tr.sr ?_
    refine Tr.asg rfl rfl ?_
    refine Tr.nil (Tr.zA ?_)
    refine Tr.ret (Tr.zAB (Tr.zU (Tr.zU (Tr.zAB (Tr.zU ?_)))))
    obtain rfl := Option.some.inj H
    exact Tr.out (m := [(iv 3001)]) [] (zP rfl zQ) (fun W hW => ⟨rfl, hW.low leB⟩)
   ·refine Tr.skip (Tr.zW (Tr.zA ?_))
    refine Tr.region ?_
    refine Tr.va rfl (fun _ _ h1 h2 => zx (h1.ev rfl) (h1.ev rfl)) ?_
    refine Tr.mv rfl rfl ?_
    refine Tr.nil ?_
    exact Tr.zZ leL3 (restL3, (iL3 + 1), x131) ⟨rfl, range_tl hdL3, zo hdL3, H⟩ (.cons rfl (.cons rfl (.cons rfl (.cons (congrArg (fun z => some (Value.int .i64 z)) (range_up hdL3 hp0_0.form)) .nil)))) .nil
theorem F_plot_count_ok : ∀ (N : Nat) {w : Bs} (p0 : (List zD)) (Ap0_0 : Option Addr) (cp0_0 : Nat) (hp0_0 : Sl w.R w.W zG Ap0_0 cp0_0 p0) (r : Int) (H : F_plot_count N p0 = some r) (hE : HF w w.W E0), Calls Tryz.prog 42 [(.slice Ap0_0 (p0).length cp0_0)].toArray w.W fun e W' => e = .returned (iv r) ∧ HF w W' E0
 | 0 => by intros; rename_i H _; cases H
 | N + 1 => F_plot_count_b_ok N (F_plot_count N) (F_plot_count_ok N)

theorem F_plot_fieldsOf_ok {w : Bs} (p0 : Int) (r : TFields) (H : F_plot_fieldsOf p0 = some r) (hE : HF w w.W E0) : Calls Tryz.prog 93 [(iv p0)].toArray w.W fun e W' => e = .returned (.agg #[(.bool r.name), (.bool r.at_), (.bool r.points), (.bool r.repeat_)]) ∧ HF w W' E0 := by
 unfold F_plot_fieldsOf at H
 have leB := Bs.Le.refl w
 refine Tr.enter (n := 19) Tryz.func93 rfl rfl rfl hE ?_
 refine Tr.sr ?_
 refine Tr.alloc 1 (wn rfl) rfl ze_149 fun b100 => ?_
 refine Tr.nil (Tr.zA ?_)
 refine Tr.seq ?_
 refine Tr.sr ?_
 refine Tr.mv rfl rfl ?_
 refine Tr.nil (Tr.zA ?_)
 refine Tr.block ?_
 refine Tr.sr ?_
 refine Tr.va rfl (fun _ _ h1 h2 => run_eql (h1.ev rfl) (h1.ev rfl)) ?_
 refine Tr.asg rfl rfl ?_
 refine Tr.nil (Tr.zA ?_)
 refine Tr.cond rfl H (fun H => ?_) (fun H => ?_)
 ·refine Tr.sr ?_
  refine Tr.build (vs := [(0, (.bool true))]) (cs := [(.bool true), (.bool false), (.bool false), (.bool false)]) (wn rfl) rfl (zi rfl evs_nil) (by kernel_rfl) ?_
  refine Tr.store 1 (cs := [(.bool true), (.bool false), (.bool false), (.bool false)]) [(.bool true), (.bool false), (.bool false), (.bool false)] (wn rfl) rfl rfl rfl rfl sz_149 rfl rfl rfl ?_
  refine Tr.nil (Tr.zA ?_)
  refine Tr.ret (Tr.zAB (Tr.zU ?_))
  obtain rfl := Option.some.inj H
  exact Tr.out (m := [(.agg #[(.bool true), (.bool false), (.bool false), (.bool false)])]) [1] (res_cell rfl rfl ag_149 sz_149 zQ) (fun W hW => ⟨rfl, hW.low leB⟩)
 ·have leJ102 := Bs.Le.refl w
  refine Tr.cutJ (σ := Bool) (fun w s => F_plot_fieldsOf_J1 p0 s = some r) (fun s => [(2, (.pointer (some ⟨b100, 0, none⟩))), (3, (iv p0)), (7, (.bool s))]) (fun s => [(1, bx b100 #[(.bool false), (.bool false), (.bool false), (.bool false)] 149)]) ?_ ?_
  ·refine Tr.sr ?_
   refine Tr.va rfl (fun _ _ h1 h2 => run_eql (h1.ev rfl) (h1.ev rfl)) ?_
   refine Tr.asg rfl rfl ?_
   refine Tr.nil (Tr.zA ?_)
   refine Tr.cond rfl H (fun H => ?_) (fun H => ?_)
   ·refine Tr.skip ?_
    exact Tr.zZ leJ102 (p0 == 4) H (.cons rfl (.cons rfl (.cons rfl .nil))) (.cons rfl .nil)
   ·refine Tr.sr ?_
    refine Tr.va rfl (fun _ _ h1 h2 => run_eql (h1.ev rfl) (h1.ev rfl)) ?_
    refine Tr.asg rfl rfl ?_
    refine Tr.nil (Tr.zA ?_)
    refine Tr.cond rfl H (fun H => ?_) (fun H => ?_)
    ·refine Tr.skip ?_
     exact Tr.zZ leJ102 (p0 == 5) H (.cons rfl (.cons rfl (.cons rfl .nil))) (.cons rfl .nil)
    ·refine Tr.region ?_
     refine Tr.va rfl (fun _ _ h1 h2 => run_eql (h1.ev rfl) (h1.ev rfl)) ?_
     refine Tr.asg rfl rfl ?_
     refine Tr.nil ?_
     exact Tr.zZ leJ102 (p0 == 6) H (.cons rfl (.cons rfl (.cons rfl .nil))) (.cons rfl .nil)
  ·intro w x101 hlJ103 hs
   have H := hs
   replace H : F_plot_fieldsOf_J1 p0 x101 = some r := H
   replace leB := leB.trans hlJ103
   unfold F_plot_fieldsOf_J1 at H
   show Tr _ _ (LF [(2, (.pointer (some ⟨b100, 0, none⟩))), (3, (iv p0)), (7, (.bool x101))]) (LE [(1, bx b100 #[(.bool false), (.bool false), (.bool false), (.bool false)] 149)]) _
   refine Tr.cond rfl H (fun H => ?_) (fun H => ?_)
   ·refine Tr.sr ?_
    refine Tr.build (vs := [(1, (.bool true))]) (cs := [(.bool false), (.bool true), (.bool false), (.bool false)]) (wn rfl) rfl (zi rfl evs_nil) (by kernel_rfl) ?_
    refine Tr.store 1 (cs := [(.bool false), (.bool true), (.bool false), (.bool false)]) [(.bool false), (.bool true), (.bool false), (.bool false)] (wn rfl) rfl rfl rfl rfl sz_149 rfl rfl rfl ?_
    refine Tr.nil (Tr.zA ?_)
    refine Tr.ret (Tr.zAB (Tr.zU ?_))
    obtain rfl := Option.some.inj H
    exact Tr.out (m := [(.agg #[(.bool false), (.bool true), (.bool false), (.bool false)])]) [1] (res_cell rfl rfl ag_149 sz_149 zQ) (fun W hW => ⟨rfl, hW.low leB⟩)
   ·refine Tr.sr ?_
    refine Tr.va rfl (fun _ _ h1 h2 => run_eql (h1.ev rfl) (h1.ev rfl)) ?_
    refine Tr.asg rfl rfl ?_
    refine Tr.nil (Tr.zA ?_)
    refine Tr.cond rfl H (fun H => ?_) (fun H => ?_)
    ·refine Tr.sr ?_
     refine Tr.build (vs := [(2, (.bool true))]) (cs := [(.bool false), (.bool false), (.bool true), (.bool false)]) (wn rfl) rfl (zi rfl evs_nil) (by kernel_rfl) ?_
     refine Tr.store 1 (cs := [(.bool false), (.bool false), (.bool true), (.bool false)]) [(.bool false), (.bool false), (.bool true), (.bool false)] (wn rfl) rfl rfl rfl rfl sz_149 rfl rfl rfl ?_
     refine Tr.nil (Tr.zA ?_)
     refine Tr.ret (Tr.zAB (Tr.zU ?_))
     obtain rfl := Option.some.inj H
     exact Tr.out (m := [(.agg #[(.bool false), (.bool false), (.bool true), (.bool false)])]) [1] (res_cell rfl rfl ag_149 sz_149 zQ) (fun W hW => ⟨rfl, hW.low leB⟩)
    ·refine Tr.sr ?_
     refine Tr.va rfl (fun _ _ h1 h2 => run_eql (h1.ev rfl) (h1.ev rfl)) ?_
     refine Tr.asg rfl rfl ?_
     refine Tr.nil (Tr.zA ?_)
     refine Tr.cond rfl H (fun H => ?_) (fun H => ?_)
     ·refine Tr.sr ?_
      refine Tr.build (vs := [(1, (.bool true)), (3, (.bool true))]) (cs := [(.bool false), (.bool true), (.bool false), (.bool true)]) (wn rfl) rfl (zi rfl (zi rfl evs_nil)) (by kernel_rfl) ?_
      refine Tr.store 1 (cs := [(.bool false), (.bool true), (.bool false), (.bool true)]) [(.bool false), (.bool true), (.bool false), (.bool true)] (wn rfl) rfl rfl rfl rfl sz_149 rfl rfl rfl ?_
      refine Tr.nil (Tr.zA ?_)
      refine Tr.ret (Tr.zAB (Tr.zU ?_))
      obtain rfl := Option.some.inj H
      exact Tr.out (m := [(.agg #[(.bool false), (.bool true), (.bool false), (.bool true)])]) [1] (res_cell rfl rfl ag_149 sz_149 zQ) (fun W hW => ⟨rfl, hW.low leB⟩)
     ·refine Tr.skip (Tr.zW (Tr.zA ?_))
      refine Tr.sr ?_
      refine Tr.build (vs := []) (cs := [(.bool false), (.bool false), (.bool false), (.bool false)]) (wn rfl) rfl evs_nil (by kernel_rfl) ?_
      refine Tr.store 1 (cs := [(.bool false), (.bool false), (.bool false), (.bool false)]) [(.bool false), (.bool false), (.bool false), (.bool false)] (wn rfl) rfl rfl rfl rfl sz_149 rfl rfl rfl ?_
      refine Tr.nil (Tr.zA ?_)
      refine Tr.ret ?_
      obtain rfl := Option.some.inj H
      exact Tr.out (m := [(.agg #[(.bool false), (.bool false), (.bool false), (.bool false)])]) [1] (res_cell rfl rfl ag_149 sz_149 zQ) (fun W hW => ⟨rfl, hW.low leB⟩)

theorem F_plot_toolAt_1_ok {w : Bs} (p0 : zS) (Ap0_0 : Option Addr) (cp0_0 : Nat) (hp0_0 : Sl w.R w.W zN Ap0_0 cp0_0 p0.Rects) (q0 : ByteArray) (bq0 : Nat) (hb0 : w.R bq0) (hc0 : zL w.W bq0 0 [(sv q0)]) (r : Bool) (H : F_plot_toolAt_1 p0 q0 = some r) (hE : HF w w.W E0) : Calls Tryz.prog 117 [(.agg #[(sv p0.Name), (.slice Ap0_0 (p0.Rects).length cp0_0)]), (.pointer (some ⟨bq0, 0, none⟩))].toArray w.W fun e W' => e = .returned (.bool r) ∧ HF w W' E0 := by
 unfold F_plot_toolAt_1 at H
 have leB := Bs.Le.refl w
 refine Tr.enter (n := 8) Tryz.func117 rfl rfl rfl hE ?_
 refine Tr.sr ?_
 refine Tr.box 1 (cs := [(sv p0.Name), (.slice Ap0_0 (p0.Rects).length cp0_0)]) (wn rfl) rfl rfl rfl fun b100 => ?_
 refine Tr.asg rfl rfl ?_
 refine Tr.nil (Tr.zA ?_)
 refine Tr.sr ?_
 refine Tr.va rfl (fun _ _ h1 h2 => zB fo_64_0 (h1.ev rfl)) ?_
 refine Tr.va rfl (fun _ _ h1 h2 => zC ag_9 (h1.ev rfl) (rdb h2 (vs := [(sv p0.Name), (.slice Ap0_0 (p0.Rects).length cp0_0)]) (k := 1) rfl 0) rfl) ?_
 refine Tr.va rfl (fun _ _ h1 h2 => zC ag_9 (h1.ev rfl) (rdR hb0 hc0 h2) rfl) ?_
 refine Tr.va rfl (fun _ _ h1 h2 => run_eqlS (h1.ev rfl) (h1.ev rfl)) ?_
 refine Tr.asg rfl rfl ?_
 refine Tr.nil (Tr.zA ?_)
 refine Tr.ret ?_
 obtain rfl := Option.some.inj H
 exact Tr.out (m := [(.bool (sEq p0.Name q0))]) [] (zP rfl zQ) (fun W hW => ⟨rfl, hW.low leB⟩)

theorem F_slices_IndexFunc_PlotTool__toolAt_1_ok {w : Bs} (p0 : (List zS)) (Ap0_0 : Option Addr) (cp0_0 : Nat) (hp0_0 : Sl w.R w.W zK Ap0_0 cp0_0 p0) (q0 : ByteArray) (bq0 : Nat) (hb0 : w.R bq0) (hc0 : zL w.W bq0 0 [(sv q0)]) (r : Int) (H : F_slices_IndexFunc_PlotTool__toolAt_1 p0 q0 = some r) (hE : HF w w.W E0) : Calls Tryz.prog 116 [(.slice Ap0_0 (p0).length cp0_0), (.func (.func 117) #[] #[(.pointer (some ⟨bq0, 0, none⟩))])].toArray w.W fun e W' => e = .returned (iv r) ∧ HF w W' E0 := by
 unfold F_slices_IndexFunc_PlotTool__toolAt_1 at H
 have leB := Bs.Le.refl w
 refine Tr.enter (n := 19) Tryz.func116 rfl rfl rfl hE ?_
 refine Tr.sr ?_
 refine Tr.asg rfl rfl ?_
 refine Tr.nil (Tr.zA ?_)
 refine Tr.seq ?_
 refine Tr.sr ?_
 refine Tr.mv rfl rfl ?_
 refine Tr.va rfl (fun _ _ h1 h2 => zq un_22 (h1.ev rfl)) ?_
 refine Tr.mv rfl rfl ?_
 refine Tr.nil (Tr.zA ?_)
 refine Tr.block ?_
 refine Tr.loop (σ := (List zS) × Nat) (fun m w s => m = s.1.length + 1 ∧ s.1 = List.drop s.2 p0 ∧ s.2 ≤ p0.length ∧ zw q0 s.1 s.2 = some r) (fun s => [(0, (.slice Ap0_0 (p0).length cp0_0)), (1, (.func (.func 117) #[] #[(.pointer (some ⟨bq0, 0, none⟩))])), (7, (iv (p0.length : Int))), (8, (iv (s.2 : Int)))]) (fun s => []) (p0.length + 1) (p0, 0) ⟨rfl, rfl, Nat.zero_le _, H⟩ (.cons rfl (.cons rfl (.cons rfl (.cons rfl .nil)))) .nil (fun _ _ h => absurd h.1 (by simp)) ?_
 intro w leL1 m s hs
 obtain ⟨restL1, iL1⟩ := s
 obtain ⟨hmL1, hdL1, hiL1, H⟩ := hs
 replace hdL1 : restL1 = List.drop iL1 p0 := hdL1
 replace H : zw q0 restL1 iL1 = some r := H
 replace hmL1 : m + 1 = restL1.length + 1 := hmL1
 replace hp0_0 := hp0_0.leR leL1
 replace hc0 := leL1.ext.cells hb0 hc0
 replace hb0 := leL1.r _ hb0
 replace leB := leB.trans leL1
 obtain rfl : m = restL1.length := by omega
 clear hmL1
 show Tr _ _ (LF [(0, (.slice Ap0_0 (p0).length cp0_0)), (1, (.func (.func 117) #[] #[(.pointer (some ⟨bq0, 0, none⟩))])), (7, (iv (p0.length : Int))), (8, (iv (iL1 : Int)))]) (LE []) _
 cases restL1 with
 | nil =>
  rw [zw.eq_1] at H
  refine Tr.sr ?_
  refine Tr.va rfl (fun _ _ h1 h2 => zz (h1.ev rfl) (h1.ev rfl)) ?_
  refine Tr.nil (Tr.zA ?_)
  refine Tr.seq ?_
  refine Tr.condF rfl (range_nil hdL1) ?_
  refine Tr.exit (Tr.zX (Tr.zX (Tr.zAC (Tr.zA ?_))))
  refine Tr.sr ?_
  refine Tr.asg rfl rfl ?_
  refine Tr.nil (Tr.zA ?_)
  refine Tr.ret ?_
  obtain rfl := Option.some.inj H
  exact Tr.out (m := [(iv (-1))]) [] (zP rfl zQ) (fun W hW => ⟨rfl, hW.low leB⟩)
 | cons xL1 restL1 =>
  rw [zw.eq_2] at H
  refine Tr.sr ?_
  refine Tr.va rfl (fun _ _ h1 h2 => zz (h1.ev rfl) (h1.ev rfl)) ?_
  refine Tr.nil (Tr.zA ?_)
  refine Tr.seq ?_
  refine Tr.condT rfl (range_on hdL1) ?_
  refine Tr.skip (Tr.zA ?_)
  refine Tr.seq ?_
  refine Tr.block ?_
  refine Tr.sr ?_
  refine Tr.mv rfl rfl ?_
  refine Tr.asg rfl rfl ?_
  refine Tr.nil (Tr.zA ?_)
  refine Tr.sr ?_
  refine Tr.mv rfl rfl ?_
  refine Tr.mv rfl rfl ?_
  refine Tr.mv rfl rfl ?_
  obtain ⟨u104, hRu104, hoku104, hcu104⟩ := (hp0_0).el (range_at hdL1)
  obtain ⟨Au104_0, cu104_0⟩ := u104
  have hoku104_0 := hoku104
  replace hoku104_0 : Sl w.R w.W zN Au104_0 cu104_0 xL1.Rects := hoku104_0
  refine Tr.va rfl (fun _ _ h1 h2 => zH el_22 (h1.ev rfl) hp0_0.form (h1.ev rfl) (Int.natCast_nonneg _) (zo hdL1)) ?_
  refine Tr.va rfl (fun _ _ h1 h2 => zR (cs := [(sv xL1.Name), (.slice Au104_0 (xL1.Rects).length cu104_0)]) ag_64 sz_64 (h1.ev rfl) (zL.take (rdR hRu104 hcu104 h2) 2) rfl) ?_
  obtain ⟨y105, hy105, H⟩ := bnd H
  refine Tr.callF (r := (.bool y105)) (wn rfl) rfl rfl Tryz.call117 (zF rfl zO) (fun W hW => F_plot_toolAt_1_ok xL1 Au104_0 cu104_0 (hoku104_0.ext hW.extAll) q0 bq0 (hW.extAll.r _ hb0) (hW.extAll.cells hb0 hc0) y105 hy105 (HF.start _)) ?_
  refine Tr.nil (Tr.zA ?_)
  refine Tr.cond rfl H (fun H => ?_) (fun H => ?_)
  ·refine Tr.sr ?_
   refine Tr.mv rfl rfl ?_
   refine Tr.asg rfl rfl ?_
   refine Tr.nil (Tr.zA ?_)
   refine Tr.ret (Tr.zAB (Tr.zU (Tr.zU (Tr.zAB (Tr.zU ?_)))))
   obtain rfl := Option.some.inj H
   exact Tr.out (m := [(iv (iL1 : Int))]) [] (zP rfl zQ) (fun W hW => ⟨rfl, hW.low leB⟩)
  ·refine Tr.skip (Tr.zW (Tr.zA ?_))
   refine Tr.region ?_
   refine Tr.va rfl (fun _ _ h1 h2 => zx (h1.ev rfl) (h1.ev rfl)) ?_
   refine Tr.mv rfl rfl ?_
   refine Tr.nil ?_
   exact Tr.zZ leL1 (restL1, (iL1 + 1)) ⟨rfl, range_tl hdL1, zo hdL1, H⟩ (.cons rfl (.cons rfl (.cons rfl (.cons (congrArg (fun z => some (Value.int .i64 z)) (range_up hdL1 hp0_0.form)) .nil)))) .nil

theorem F_plot_toolAt_ok {w : Bs} (p0 : zt) (Ap0_0 : Option Addr) (cp0_0 : Nat) (hp0_0 : Sl w.R w.W zK Ap0_0 cp0_0 p0.Tools) (Ap0_1 : Option Addr) (cp0_1 : Nat) (hp0_1 : Sl w.R w.W zG Ap0_1 cp0_1 p0.Steps) (p1 : ByteArray) (r : Int) (H : F_plot_toolAt p0 p1 = some r) (hE : HF w w.W E0) : Calls Tryz.prog 96 [(.agg #[(iv p0.Unit), (.slice Ap0_0 (p0.Tools).length cp0_0), (.slice Ap0_1 (p0.Steps).length cp0_1)]), (sv p1)].toArray w.W fun e W' => e = .returned (iv r) ∧ HF w W' E0 := by
 unfold F_plot_toolAt at H
 have leB := Bs.Le.refl w
 refine Tr.enter (n := 9) Tryz.func96 rfl rfl rfl hE ?_
 refine Tr.sr ?_
 refine Tr.box 1 (cs := [(iv p0.Unit), (.slice Ap0_0 (p0.Tools).length cp0_0), (.slice Ap0_1 (p0.Steps).length cp0_1)]) (wn rfl) rfl rfl rfl fun b100 => ?_
 refine Tr.box 2 (cs := [(sv p1)]) (wn rfl) rfl rfl rfl fun b101 => ?_
 refine Tr.asg rfl rfl ?_
 refine Tr.nil (Tr.zA ?_)
 refine Tr.sr ?_
 refine Tr.va rfl (fun _ _ h1 h2 => zB fo_25_1 (h1.ev rfl)) ?_
 refine Tr.va rfl (fun _ _ h1 h2 => zC ag_22 (h1.ev rfl) (rdb h2 (vs := [(iv p0.Unit), (.slice Ap0_0 (p0.Tools).length cp0_0), (.slice Ap0_1 (p0.Steps).length cp0_1)]) (k := 1) rfl 1) rfl) ?_
 refine Tr.mkFunc (vs := [(.pointer (some ⟨b101, 0, none⟩))]) (wn rfl) rfl (zF rfl zO) ?_
 obtain ⟨y102, hy102, H⟩ := bnd H
 refine Tr.call0 (r := (iv y102)) (wn rfl) rfl Tryz.call116 (zF rfl (zF rfl zO)) (fun W hW => F_slices_IndexFunc_PlotTool__toolAt_1_ok p0.Tools Ap0_0 cp0_0 (hp0_0.ext hW.extAll) p1 b101 (hW.capR (k := 2) rfl) (hW.capC (k := 2) rfl) y102 hy102 (HF.start _)) ?_
 refine Tr.asg rfl rfl ?_
 refine Tr.nil (Tr.zA ?_)
 refine Tr.ret ?_
 obtain rfl := Option.some.inj H
 exact Tr.out (m := [(iv y102)]) [] (zP rfl zQ) (fun W hW => ⟨rfl, hW.low leB⟩)

theorem F_plot_isPoint_ok {w : Bs} (p0 : zI) (p1 : Int) (r : Bool) (H : F_plot_isPoint p0 p1 = some r) (hE : HF w w.W E0) : Calls Tryz.prog 97 [(.agg #[(iv p0.X), (iv p0.Y)]), (iv p1)].toArray w.W fun e W' => e = .returned (.bool r) ∧ HF w W' E0 := by
 unfold F_plot_isPoint at H
 have leB := Bs.Le.refl w
 refine Tr.enter (n := 15) Tryz.func97 rfl rfl rfl hE ?_
 refine Tr.sr ?_
 refine Tr.box 1 (cs := [(iv p0.X), (iv p0.Y)]) (wn rfl) rfl rfl rfl fun b100 => ?_
 refine Tr.asg rfl rfl ?_
 refine Tr.nil (Tr.zA ?_)
 refine Tr.sr ?_
 refine Tr.va rfl (fun _ _ h1 h2 => zB fo_43_0 (h1.ev rfl)) ?_
 refine Tr.va rfl (fun _ _ h1 h2 => zC ag_3 (h1.ev rfl) (rdb h2 (vs := [(iv p0.X), (iv p0.Y)]) (k := 1) rfl 0) rfl) ?_
 refine Tr.mv rfl rfl ?_
 obtain ⟨y101, hy101, H⟩ := bnd H
 refine Tr.call0 (r := (.bool y101)) (wn rfl) rfl Tryz.call72 (zF rfl (zF rfl zO)) (fun W hW => F_plot_isAt_ok p0.X p1 y101 hy101 (HF.start _)) ?_
 refine Tr.mv rfl rfl ?_
 obtain ⟨g103, hg103, H⟩ := bnd H
 refine Tr.mid0 5 [(14, (.bool g103))] [(1, bx b100 #[(iv p0.X), (iv p0.Y)] 43)] ?_ ?_
 ·cases hg104 : y101
  ·rw [hg104] at hg103
   rw [if_neg (by decide)] at hg103
   have H := hg103
   obtain rfl := Option.some.inj H
   refine Tr.pass rfl rfl rfl rfl rfl (by decide) ?_
   refine Tr.pass rfl rfl rfl rfl rfl (by decide) ?_
   refine Tr.pass rfl rfl rfl rfl rfl (by decide) ?_
   refine Tr.pass rfl rfl rfl rfl rfl (by decide) ?_
   refine Tr.va rfl (fun _ _ h1 h2 => zf (h1.ev rfl) (h1.ev rfl)) ?_
   exact Tr.nil (Tr.fin0 (.cons rfl .nil) (.cons rfl .nil))
  ·rw [hg104] at hg103
   rw [if_pos rfl] at hg103
   have H := hg103
   refine Tr.val (wg rfl rfl rfl) rfl (fun _ _ h1 h2 => zB fo_43_1 (h1.ev rfl)) ?_
   refine Tr.val (wg rfl rfl rfl) rfl (fun _ _ h1 h2 => zC ag_3 (h1.ev rfl) (rdb h2 (vs := [(iv p0.X), (iv p0.Y)]) (k := 1) rfl 1) rfl) ?_
   refine Tr.val (wg rfl rfl rfl) rfl (fun _ _ h1 h2 => run_move (h1.ev rfl)) ?_
   obtain ⟨y104, hy104, H⟩ := bnd H
   refine Tr.call0 (r := (.bool y104)) (wg rfl rfl rfl) rfl Tryz.call72 (zF rfl (zF rfl zO)) (fun W hW => F_plot_isAt_ok p0.Y p1 y104 hy104 (HF.start _)) ?_
   refine Tr.va rfl (fun _ _ h1 h2 => ze (h1.ev rfl) (h1.ev rfl)) ?_
   obtain rfl := Option.some.inj H
   exact Tr.nil (Tr.fin0 (.cons rfl .nil) (.cons rfl .nil))
 ·show Tr _ _ (LF [(14, (.bool g103))]) (LE [(1, bx b100 #[(iv p0.X), (iv p0.Y)] 43)]) _
  refine Tr.asg rfl rfl ?_
  refine Tr.nil (Tr.zA ?_)
  refine Tr.ret ?_
  obtain rfl := Option.some.inj H
  exact Tr.out (m := [(.bool g103)]) [] (zP rfl zQ) (fun W hW => ⟨rfl, hW.low leB⟩)

theorem F_plot_checkStep_1_ok {w : Bs} (p0 : zI) (q0 : zt) (Aq0_0 : Option Addr) (cq0_0 : Nat) (hq0_0 : Sl w.R w.W zK Aq0_0 cq0_0 q0.Tools) (Aq0_1 : Option Addr) (cq0_1 : Nat) (hq0_1 : Sl w.R w.W zG Aq0_1 cq0_1 q0.Steps) (bq0 : Nat) (hb0 : w.R bq0) (hc0 : zL w.W bq0 0 [(iv q0.Unit), (.slice Aq0_0 (q0.Tools).length cq0_0), (.slice Aq0_1 (q0.Steps).length cq0_1)]) (r : Bool) (H : F_plot_checkStep_1 p0 q0 = some r) (hE : HF w w.W E0) : Calls Tryz.prog 99 [(.agg #[(iv p0.X), (iv p0.Y)]), (.pointer (some ⟨bq0, 0, none⟩))].toArray w.W fun e W' => e = .returned (.bool r) ∧ HF w W' E0 := by
 unfold F_plot_checkStep_1 at H
 have leB := Bs.Le.refl w
 refine Tr.enter (n := 9) Tryz.func99 rfl rfl rfl hE ?_
 refine Tr.sr ?_
 refine Tr.box 1 (cs := [(iv p0.X), (iv p0.Y)]) (wn rfl) rfl rfl rfl fun b100 => ?_
 refine Tr.asg rfl rfl ?_
 refine Tr.nil (Tr.zA ?_)
 refine Tr.sr ?_
 refine Tr.va rfl (fun _ _ h1 h2 => zR (cs := [(iv p0.X), (iv p0.Y)]) ag_43 sz_43 (h1.ev rfl) (zL.take (rdb h2 (vs := [(iv p0.X), (iv p0.Y)]) (k := 1) rfl 0) 2) rfl) ?_
 refine Tr.va rfl (fun _ _ h1 h2 => zB fo_25_0 (h1.ev rfl)) ?_
 refine Tr.va rfl (fun _ _ h1 h2 => zC ag_3 (h1.ev rfl) (zL.drop (rdR hb0 hc0 h2) 0) rfl) ?_
 obtain ⟨y101, hy101, H⟩ := bnd H
 refine Tr.call0 (r := (.bool y101)) (wn rfl) rfl Tryz.call97 (zF rfl (zF rfl zO)) (fun W hW => F_plot_isPoint_ok p0 q0.Unit y101 hy101 (HF.start _)) ?_
 refine Tr.va rfl (fun _ _ h1 h2 => run_not (h1.ev rfl)) ?_
 refine Tr.asg rfl rfl ?_
 refine Tr.nil (Tr.zA ?_)
 refine Tr.ret ?_
 obtain rfl := Option.some.inj H
 exact Tr.out (m := [(.bool (!y101))]) [] (zP rfl zQ) (fun W hW => ⟨rfl, hW.low leB⟩)

theorem F_slices_IndexFunc_Point_ok {w : Bs} (p0 : (List zI)) (Ap0_0 : Option Addr) (cp0_0 : Nat) (hp0_0 : Sl w.R w.W zy Ap0_0 cp0_0 p0) (p1 : zI → Option Bool) (fid1 : Nat) (cap1 : List Value) (hg1 : ∀ args W, (callFunc fid1 args).run Tryz.prog W = .ok (.enter fid1 args) W) (hf1 : ∀ (w' : Bs), w.Ext w' → ∀ (z0 : zI), ∀ y, p1 z0 = some y → Calls Tryz.prog fid1 (([(.agg #[(iv z0.X), (iv z0.Y)])] : List Value) ++ cap1).toArray w'.W fun e W'' => e = .returned (.bool y) ∧ HF w' W'' E0) (r : Int) (H : F_slices_IndexFunc_Point p0 p1 = some r) (hE : HF w w.W E0) : Calls Tryz.prog 118 [(.slice Ap0_0 (p0).length cp0_0), (.func (.func fid1) #[] cap1.toArray)].toArray w.W fun e W' => e = .returned (iv r) ∧ HF w W' E0 := by
 unfold F_slices_IndexFunc_Point at H
 have leB := Bs.Le.refl w
 refine Tr.enter (n := 19) Tryz.func118 rfl rfl rfl hE ?_
 refine Tr.sr ?_
 refine Tr.asg rfl rfl ?_
 refine Tr.nil (Tr.zA ?_)
 refine Tr.seq ?_
 refine Tr.sr ?_
 refine Tr.mv rfl rfl ?_
 refine Tr.va rfl (fun _ _ h1 h2 => zq un_44 (h1.ev rfl)) ?_
 refine Tr.mv rfl rfl ?_
 refine Tr.nil (Tr.zA ?_)
 refine Tr.block ?_
 refine Tr.loop (σ := (List zI) × Nat) (fun m w s => m = s.1.length + 1 ∧ s.1 = List.drop s.2 p0 ∧ s.2 ≤ p0.length ∧ zAD p1 s.1 s.2 = some r) (fun s => [(0, (.slice Ap0_0 (p0).length cp0_0)), (1, (.func (.func fid1) #[] cap1.toArray)), (7, (iv (p0.length : Int))), (8, (iv (s.2 : Int)))]) (fun s => []) (p0.length + 1) (p0, 0) ⟨rfl, rfl, Nat.zero_le _, H⟩ (.cons rfl (.cons rfl (.cons rfl (.cons rfl .nil)))) .nil (fun _ _ h => absurd h.1 (by simp)) ?_
 intro w leL1 m s hs
 obtain ⟨restL1, iL1⟩ := s
 obtain ⟨hmL1, hdL1, hiL1, H⟩ := hs
 replace hdL1 : restL1 = List.drop iL1 p0 := hdL1
 replace H : zAD p1 restL1 iL1 = some r := H
 replace hmL1 : m + 1 = restL1.length + 1 := hmL1
 replace hp0_0 := hp0_0.leR leL1
 replace hf1 := fun w' he => hf1 w' (leL1.ext.trans he)
 replace leB := leB.trans leL1
 obtain rfl : m = restL1.length := by omega
 clear hmL1
 show Tr _ _ (LF [(0, (.slice Ap0_0 (p0).length cp0_0)), (1, (.func (.func fid1) #[] cap1.toArray)), (7, (iv (p0.length : Int))), (8, (iv (iL1 : Int)))]) (LE []) _
 cases restL1 with
 | nil =>
  rw [zAD.eq_1] at H
  refine Tr.sr ?_
  refine Tr.va rfl (fun _ _ h1 h2 => zz (h1.ev rfl) (h1.ev rfl)) ?_
  refine Tr.nil (Tr.zA ?_)
  refine Tr.seq ?_
  refine Tr.condF rfl (range_nil hdL1) ?_
  refine Tr.exit (Tr.zX (Tr.zX (Tr.zAC (Tr.zA ?_))))
  refine Tr.sr ?_
  refine Tr.asg rfl rfl ?_
  refine Tr.nil (Tr.zA ?_)
  refine Tr.ret ?_
  obtain rfl := Option.some.inj H
  exact Tr.out (m := [(iv (-1))]) [] (zP rfl zQ) (fun W hW => ⟨rfl, hW.low leB⟩)
 | cons xL1 restL1 =>
  rw [zAD.eq_2] at H
  refine Tr.sr ?_
  refine Tr.va rfl (fun _ _ h1 h2 => zz (h1.ev rfl) (h1.ev rfl)) ?_
  refine Tr.nil (Tr.zA ?_)
  refine Tr.seq ?_
  refine Tr.condT rfl (range_on hdL1) ?_
  refine Tr.skip (Tr.zA ?_)
  refine Tr.seq ?_
  refine Tr.block ?_
  refine Tr.sr ?_
  refine Tr.mv rfl rfl ?_
  refine Tr.asg rfl rfl ?_
  refine Tr.nil (Tr.zA ?_)
  refine Tr.sr ?_
  refine Tr.mv rfl rfl ?_
  refine Tr.mv rfl rfl ?_
  refine Tr.mv rfl rfl ?_
  refine Tr.va rfl (fun _ _ h1 h2 => zH el_44 (h1.ev rfl) hp0_0.form (h1.ev rfl) (Int.natCast_nonneg _) (zo hdL1)) ?_
  refine Tr.va rfl (fun _ _ h1 h2 => zR (cs := [(iv xL1.X), (iv xL1.Y)]) ag_43 sz_43 (h1.ev rfl) (zL.take (rdF ef_TPoint hp0_0 (range_at hdL1) h2) 2) rfl) ?_
  obtain ⟨y103, hy103, H⟩ := bnd H
  refine Tr.callF (r := (.bool y103)) (wn rfl) rfl rfl hg1 (zF rfl zO) (fun W hW => hf1 hW.all hW.extAll xL1 _ hy103) ?_
  refine Tr.nil (Tr.zA ?_)
  refine Tr.cond rfl H (fun H => ?_) (fun H => ?_)
  ·refine Tr.sr ?_
   refine Tr.mv rfl rfl ?_
   refine Tr.asg rfl rfl ?_
   refine Tr.nil (Tr.zA ?_)
   refine Tr.ret (Tr.zAB (Tr.zU (Tr.zU (Tr.zAB (Tr.zU ?_)))))
   obtain rfl := Option.some.inj H
   exact Tr.out (m := [(iv (iL1 : Int))]) [] (zP rfl zQ) (fun W hW => ⟨rfl, hW.low leB⟩)
  ·refine Tr.skip (Tr.zW (Tr.zA ?_))
   refine Tr.region ?_
   refine Tr.va rfl (fun _ _ h1 h2 => zx (h1.ev rfl) (h1.ev rfl)) ?_
   refine Tr.mv rfl rfl ?_
   refine Tr.nil ?_
   exact Tr.zZ leL1 (restL1, (iL1 + 1)) ⟨rfl, range_tl hdL1, zo hdL1, H⟩ (.cons rfl (.cons rfl (.cons rfl (.cons (congrArg (fun z => some (Value.int .i64 z)) (range_up hdL1 hp0_0.form)) .nil)))) .nil

theorem F_slices_ContainsFunc_Point_ok {w : Bs} (p0 : (List zI)) (Ap0_0 : Option Addr) (cp0_0 : Nat) (hp0_0 : Sl w.R w.W zy Ap0_0 cp0_0 p0) (p1 : zI → Option Bool) (fid1 : Nat) (cap1 : List Value) (hg1 : ∀ args W, (callFunc fid1 args).run Tryz.prog W = .ok (.enter fid1 args) W) (hf1 : ∀ (w' : Bs), w.Ext w' → ∀ (z0 : zI), ∀ y, p1 z0 = some y → Calls Tryz.prog fid1 (([(.agg #[(iv z0.X), (iv z0.Y)])] : List Value) ++ cap1).toArray w'.W fun e W'' => e = .returned (.bool y) ∧ HF w' W'' E0) (r : Bool) (H : F_slices_ContainsFunc_Point p0 p1 = some r) (hE : HF w w.W E0) : Calls Tryz.prog 98 [(.slice Ap0_0 (p0).length cp0_0), (.func (.func fid1) #[] cap1.toArray)].toArray w.W fun e W' => e = .returned (.bool r) ∧ HF w W' E0 := by
 unfold F_slices_ContainsFunc_Point at H
 have leB := Bs.Le.refl w
 refine Tr.enter (n := 9) Tryz.func98 rfl rfl rfl hE ?_
 refine Tr.sr ?_
 refine Tr.asg rfl rfl ?_
 refine Tr.nil (Tr.zA ?_)
 refine Tr.sr ?_
 refine Tr.mv rfl rfl ?_
 refine Tr.mv rfl rfl ?_
 obtain ⟨y100, hy100, H⟩ := bnd H
 refine Tr.call0 (r := (iv y100)) (wn rfl) rfl Tryz.call118 (zF rfl (zF rfl zO)) (fun W hW => F_slices_IndexFunc_Point_ok p0 Ap0_0 cp0_0 (hp0_0.ext hW.extAll) p1 fid1 cap1 hg1 (fun w' he => hf1 w' (hW.extAll.trans he)) y100 hy100 (HF.start _)) ?_
 refine Tr.va rfl (fun _ _ h1 h2 => run_geq (h1.ev rfl) (h1.ev rfl)) ?_
 refine Tr.asg rfl rfl ?_
 refine Tr.nil (Tr.zA ?_)
 refine Tr.ret ?_
 obtain rfl := Option.some.inj H
 exact Tr.out (m := [(.bool (decide (0 ≤ y100)))]) [] (zP rfl zQ) (fun W hW => ⟨rfl, hW.low leB⟩)

theorem F_shape_IsRow_ok {w : Bs} (p0 : (List zI)) (Ap0_0 : Option Addr) (cp0_0 : Nat) (hp0_0 : Sl w.R w.W zy Ap0_0 cp0_0 p0) (r : Bool) (H : F_shape_IsRow p0 = some r) (hE : HF w w.W E0) : Calls Tryz.prog 100 [(.slice Ap0_0 (p0).length cp0_0)].toArray w.W fun e W' => e = .returned (.bool r) ∧ HF w W' E0 := by
 unfold F_shape_IsRow at H
 have leB := Bs.Le.refl w
 refine Tr.enter (n := 36) Tryz.func100 rfl rfl rfl hE ?_
 refine Tr.sr ?_
 refine Tr.asg rfl rfl ?_
 refine Tr.nil (Tr.zA ?_)
 refine Tr.seq ?_
 refine Tr.sr ?_
 refine Tr.mv rfl rfl ?_
 refine Tr.va rfl (fun _ _ h1 h2 => zq un_44 (h1.ev rfl)) ?_
 refine Tr.va rfl (fun _ _ h1 h2 => zz (h1.ev rfl) (h1.ev rfl)) ?_
 refine Tr.nil (Tr.zA ?_)
 refine Tr.cond rfl H (fun H => ?_) (fun H => ?_)
 ·refine Tr.sr ?_
  refine Tr.asg rfl rfl ?_
  refine Tr.nil (Tr.zA ?_)
  refine Tr.ret (Tr.zU ?_)
  obtain rfl := Option.some.inj H
  exact Tr.out (m := [(.bool false)]) [] (zP rfl zQ) (fun W hW => ⟨rfl, hW.low leB⟩)
 ·refine Tr.skip (Tr.zA ?_)
  refine Tr.seq ?_
  refine Tr.sr ?_
  refine Tr.mv rfl rfl ?_
  refine Tr.va rfl (fun _ _ h1 h2 => zq un_44 (h1.ev rfl)) ?_
  refine Tr.mv rfl rfl ?_
  refine Tr.nil (Tr.zA ?_)
  refine Tr.block ?_
  refine Tr.loop (σ := (List zI) × Nat) (fun m w s => m = s.1.length + 1 ∧ s.1 = List.drop s.2 p0 ∧ s.2 ≤ p0.length ∧ F_shape_IsRow_L1 p0 s.1 s.2 = some r) (fun s => [(0, (.slice Ap0_0 (p0).length cp0_0)), (9, (.slice Ap0_0 (p0).length cp0_0)), (10, (iv (p0.length : Int))), (11, (iv (s.2 : Int)))]) (fun s => []) (p0.length + 1) (p0, 0) ⟨rfl, rfl, Nat.zero_le _, H⟩ (.cons rfl (.cons rfl (.cons rfl (.cons rfl .nil)))) .nil (fun _ _ h => absurd h.1 (by simp)) ?_
  intro w leL1 m s hs
  obtain ⟨restL1, iL1⟩ := s
  obtain ⟨hmL1, hdL1, hiL1, H⟩ := hs
  replace hdL1 : restL1 = List.drop iL1 p0 := hdL1
  replace H : F_shape_IsRow_L1 p0 restL1 iL1 = some r := H
  replace hmL1 : m + 1 = restL1.length + 1 := hmL1
  replace hp0_0 := hp0_0.leR leL1
  replace leB := leB.trans leL1
  obtain rfl : m = restL1.length := by omega
  clear hmL1
  show Tr _ _ (LF [(0, (.slice Ap0_0 (p0).length cp0_0)), (9, (.slice Ap0_0 (p0).length cp0_0)), (10, (iv (p0.length : Int))), (11, (iv (iL1 : Int)))]) (LE []) _
  cases restL1 with
  | nil =>
   rw [F_shape_IsRow_L1.eq_1] at H
   refine Tr.sr ?_
   refine Tr.va rfl (fun _ _ h1 h2 => zz (h1.ev rfl) (h1.ev rfl)) ?_
   refine Tr.nil (Tr.zA ?_)
   refine Tr.seq ?_
   refine Tr.condF rfl (range_nil hdL1) ?_
   refine Tr.exit (Tr.zX (Tr.zX (Tr.zAC (Tr.zA ?_))))
   refine Tr.sr ?_
   refine Tr.asg rfl rfl ?_
   refine Tr.nil (Tr.zA ?_)
   refine Tr.ret ?_
   obtain rfl := Option.some.inj H
   exact Tr.out (m := [(.bool true)]) [] (zP rfl zQ) (fun W hW => ⟨rfl, hW.low leB⟩)
  | cons xL1 restL1 =>
   rw [F_shape_IsRow_L1.eq_2] at H
   refine Tr.sr ?_
   refine Tr.va rfl (fun _ _ h1 h2 => zz (h1.ev rfl) (h1.ev rfl)) ?_
   refine Tr.nil (Tr.zA ?_)
   refine Tr.seq ?_
   refine Tr.condT rfl (range_on hdL1) ?_
   refine Tr.skip (Tr.zA ?_)
   refine Tr.seq ?_
   refine Tr.block ?_
   refine Tr.sr ?_
   refine Tr.mv rfl rfl ?_
   refine Tr.va rfl (fun _ _ h1 h2 => zH el_44 (h1.ev rfl) hp0_0.form (h1.ev rfl) (Int.natCast_nonneg _) (zo hdL1)) ?_
   refine Tr.va rfl (fun _ _ h1 h2 => zR (cs := [(iv xL1.X), (iv xL1.Y)]) ag_43 sz_43 (h1.ev rfl) (zL.take (rdF ef_TPoint hp0_0 (range_at hdL1) h2) 2) rfl) ?_
   refine Tr.alloc 3 (wn rfl) rfl ze_43 fun b106 => ?_
   refine Tr.asg rfl rfl ?_
   refine Tr.store 3 (cs := [(iv xL1.X), (iv xL1.Y)]) [(iv xL1.X), (iv xL1.Y)] (wn rfl) rfl rfl rfl rfl sz_43 rfl rfl rfl ?_
   refine Tr.nil (Tr.zA ?_)
   refine Tr.sr ?_
   refine Tr.mv rfl rfl ?_
   refine Tr.mv rfl rfl ?_
   refine Tr.va rfl (fun _ _ h1 h2 => zx (h1.ev rfl) (h1.ev rfl)) ?_
   refine Tr.mv rfl rfl ?_
   refine Tr.va rfl (fun _ _ h1 h2 => zq un_44 (h1.ev rfl)) ?_
   obtain ⟨q107, hq107, H⟩ := bnd H
   refine Tr.va rfl (fun _ _ h1 h2 => run_md (h1.ev rfl) (h1.ev rfl) hq107) ?_
   obtain ⟨x108, hx108, H⟩ := bnd H
   obtain ⟨hx1080, hx1081, hx1082⟩ := zh hx108
   refine Tr.va rfl (fun _ _ h1 h2 => zH el_44 (h1.ev rfl) hp0_0.form (h1.ev rfl) hx1080 hx1081) ?_
   refine Tr.va rfl (fun _ _ h1 h2 => zR (cs := [(iv x108.X), (iv x108.Y)]) ag_43 sz_43 (h1.ev rfl) (zL.take (rdF ef_TPoint hp0_0 hx1082 h2) 2) rfl) ?_
   refine Tr.alloc 4 (wn rfl) rfl ze_43 fun b109 => ?_
   refine Tr.store 4 (cs := [(iv x108.X), (iv x108.Y)]) [(iv x108.X), (iv x108.Y)] (wn rfl) rfl rfl rfl rfl sz_43 rfl rfl rfl ?_
   refine Tr.nil (Tr.zA ?_)
   refine Tr.sr ?_
   refine Tr.va rfl (fun _ _ h1 h2 => zB fo_43_0 (h1.ev rfl)) ?_
   refine Tr.va rfl (fun _ _ h1 h2 => zC ag_3 (h1.ev rfl) (rdb h2 (vs := [(iv xL1.X), (iv xL1.Y)]) (k := 3) rfl 0) rfl) ?_
   refine Tr.va rfl (fun _ _ h1 h2 => zB fo_43_0 (h1.ev rfl)) ?_
   refine Tr.va rfl (fun _ _ h1 h2 => zC ag_3 (h1.ev rfl) (rdb h2 (vs := [(iv x108.X), (iv x108.Y)]) (k := 4) rfl 0) rfl) ?_
   refine Tr.va rfl (fun _ _ h1 h2 => run_eql (h1.ev rfl) (h1.ev rfl)) ?_
   refine Tr.va rfl (fun _ _ h1 h2 => zB fo_43_1 (h1.ev rfl)) ?_
   refine Tr.va rfl (fun _ _ h1 h2 => zC ag_3 (h1.ev rfl) (rdb h2 (vs := [(iv xL1.X), (iv xL1.Y)]) (k := 3) rfl 1) rfl) ?_
   refine Tr.va rfl (fun _ _ h1 h2 => zB fo_43_1 (h1.ev rfl)) ?_
   refine Tr.va rfl (fun _ _ h1 h2 => zC ag_3 (h1.ev rfl) (rdb h2 (vs := [(iv x108.X), (iv x108.Y)]) (k := 4) rfl 1) rfl) ?_
   refine Tr.va rfl (fun _ _ h1 h2 => run_eql (h1.ev rfl) (h1.ev rfl)) ?_
   refine Tr.va rfl (fun _ _ h1 h2 => run_eqlB un_4 (h1.ev rfl) (h1.ev rfl)) ?_
   refine Tr.nil (Tr.zA ?_)
   refine Tr.cond rfl H (fun H => ?_) (fun H => ?_)
   ·refine Tr.sr ?_
    refine Tr.asg rfl rfl ?_
    refine Tr.nil (Tr.zA ?_)
    refine Tr.ret (Tr.zAB (Tr.zU (Tr.zU (Tr.zAB (Tr.zU ?_)))))
    obtain rfl := Option.some.inj H
    exact Tr.out (m := [(.bool false)]) [] (zP rfl zQ) (fun W hW => ⟨rfl, hW.low leB⟩)
   ·refine Tr.skip (Tr.zW (Tr.zA ?_))
    refine Tr.region ?_
    refine Tr.va rfl (fun _ _ h1 h2 => zx (h1.ev rfl) (h1.ev rfl)) ?_
    refine Tr.mv rfl rfl ?_
    refine Tr.nil ?_
    exact Tr.zZ leL1 (restL1, (iL1 + 1)) ⟨rfl, range_tl hdL1, zo hdL1, H⟩ (.cons rfl (.cons rfl (.cons rfl (.cons (congrArg (fun z => some (Value.int .i64 z)) (range_up hdL1 hp0_0.form)) .nil)))) .nil

theorem F_plot_checkStep_ok {w : Bs} (p0 : zt) (Ap0_0 : Option Addr) (cp0_0 : Nat) (hp0_0 : Sl w.R w.W zK Ap0_0 cp0_0 p0.Tools) (Ap0_1 : Option Addr) (cp0_1 : Nat) (hp0_1 : Sl w.R w.W zG Ap0_1 cp0_1 p0.Steps) (p1 : zD) (Ap1_0 : Option Addr) (cp1_0 : Nat) (hp1_0 : Sl w.R w.W zy Ap1_0 cp1_0 p1.Points) (Ap1_1 : Option Addr) (cp1_1 : Nat) (hp1_1 : Sl w.R w.W zG Ap1_1 cp1_1 p1.Steps) (p2 : Int) (r : Int) (H : F_plot_checkStep p0 p1 p2 = some r) (hE : HF w w.W E0) : Calls Tryz.prog 74 [(.agg #[(iv p0.Unit), (.slice Ap0_0 (p0.Tools).length cp0_0), (.slice Ap0_1 (p0.Steps).length cp0_1)]), (.agg #[(iv p1.Kind), (sv p1.Name), (iv p1.At.X), (iv p1.At.Y), (.slice Ap1_0 (p1.Points).length cp1_0), (iv p1.NX), (iv p1.NY), (.slice Ap1_1 (p1.Steps).length cp1_1)]), (iv p2)].toArray w.W fun e W' => e = .returned (iv r) ∧ HF w W' E0 := by
 unfold F_plot_checkStep at H
 have leB := Bs.Le.refl w
 refine Tr.enter (n := 120) Tryz.func74 rfl rfl rfl hE ?_
 refine Tr.sr ?_
 refine Tr.box 1 (cs := [(iv p0.Unit), (.slice Ap0_0 (p0.Tools).length cp0_0), (.slice Ap0_1 (p0.Steps).length cp0_1)]) (wn rfl) rfl rfl rfl fun b100 => ?_
 refine Tr.box 2 (cs := [(iv p1.Kind), (sv p1.Name), (iv p1.At.X), (iv p1.At.Y), (.slice Ap1_0 (p1.Points).length cp1_0), (iv p1.NX), (iv p1.NY), (.slice Ap1_1 (p1.Steps).length cp1_1)]) (wn rfl) rfl rfl rfl fun b101 => ?_
 refine Tr.asg rfl rfl ?_
 refine Tr.nil (Tr.zA ?_)
 refine Tr.seq ?_
 refine Tr.sr ?_
 refine Tr.va rfl (fun _ _ h1 h2 => zB fo_46_0 (h1.ev rfl)) ?_
 refine Tr.va rfl (fun _ _ h1 h2 => zC ag_3 (h1.ev rfl) (rdb h2 (vs := [(iv p1.Kind), (sv p1.Name), (iv p1.At.X), (iv p1.At.Y), (.slice Ap1_0 (p1.Points).length cp1_0), (iv p1.NX), (iv p1.NY), (.slice Ap1_1 (p1.Steps).length cp1_1)]) (k := 2) rfl 0) rfl) ?_
 obtain ⟨y102, hy102, H⟩ := bnd H
 refine Tr.call0 (r := (.bool y102)) (wn rfl) rfl Tryz.call22 (zF rfl (zF rfl (zF rfl zO))) (fun W hW => F_plot_within_ok p1.Kind 1 8 y102 hy102 (HF.start _)) ?_
 refine Tr.va rfl (fun _ _ h1 h2 => run_not (h1.ev rfl)) ?_
 refine Tr.nil (Tr.zA ?_)
 refine Tr.cond rfl H (fun H => ?_) (fun H => ?_)
 ·refine Tr.sr ?_
  refine Tr.asg rfl rfl ?_
  refine Tr.nil (Tr.zA ?_)
  refine Tr.ret (Tr.zU ?_)
  obtain rfl := Option.some.inj H
  exact Tr.out (m := [(iv 4)]) [] (zP rfl zQ) (fun W hW => ⟨rfl, hW.low leB⟩)
 ·refine Tr.skip (Tr.zA ?_)
  refine Tr.sr ?_
  refine Tr.va rfl (fun _ _ h1 h2 => zB fo_46_0 (h1.ev rfl)) ?_
  refine Tr.va rfl (fun _ _ h1 h2 => zC ag_3 (h1.ev rfl) (rdb h2 (vs := [(iv p1.Kind), (sv p1.Name), (iv p1.At.X), (iv p1.At.Y), (.slice Ap1_0 (p1.Points).length cp1_0), (iv p1.NX), (iv p1.NY), (.slice Ap1_1 (p1.Steps).length cp1_1)]) (k := 2) rfl 0) rfl) ?_
  obtain ⟨y103, hy103, H⟩ := bnd H
  refine Tr.call0 (r := (.agg #[(.bool y103.name), (.bool y103.at_), (.bool y103.points), (.bool y103.repeat_)])) (wn rfl) rfl Tryz.call93 (zF rfl zO) (fun W hW => F_plot_fieldsOf_ok p1.Kind y103 hy103 (HF.start _)) ?_
  refine Tr.alloc 3 (wn rfl) rfl ze_149 fun b104 => ?_
  refine Tr.store 3 (cs := [(.bool y103.name), (.bool y103.at_), (.bool y103.points), (.bool y103.repeat_)]) [(.bool y103.name), (.bool y103.at_), (.bool y103.points), (.bool y103.repeat_)] (wn rfl) rfl rfl rfl rfl sz_149 rfl rfl rfl ?_
  refine Tr.nil (Tr.zA ?_)
  refine Tr.seq ?_
  refine Tr.block ?_
  have leJ106 := Bs.Le.refl w
  refine Tr.cutJ (σ := Bool) (fun w s => zAP p0 p1 p2 y103 s = some r) (fun s => [(2, (iv p2)), (3, (.pointer (some ⟨b100, 0, none⟩))), (4, (.pointer (some ⟨b101, 0, none⟩))), (7, (.pointer (some ⟨b104, 0, none⟩))), (15, (.bool s))]) (fun s => [(1, bx b100 #[(iv p0.Unit), (.slice Ap0_0 (p0.Tools).length cp0_0), (.slice Ap0_1 (p0.Steps).length cp0_1)] 25), (2, bx b101 #[(iv p1.Kind), (sv p1.Name), (iv p1.At.X), (iv p1.At.Y), (.slice Ap1_0 (p1.Points).length cp1_0), (iv p1.NX), (iv p1.NY), (.slice Ap1_1 (p1.Steps).length cp1_1)] 46), (3, bx b104 #[(.bool y103.name), (.bool y103.at_), (.bool y103.points), (.bool y103.repeat_)] 149)]) ?_ ?_
  ·refine Tr.sr ?_
   refine Tr.va rfl (fun _ _ h1 h2 => zB fo_149_0 (h1.ev rfl)) ?_
   refine Tr.va rfl (fun _ _ h1 h2 => zC ag_4 (h1.ev rfl) (rdb h2 (vs := [(.bool y103.name), (.bool y103.at_), (.bool y103.points), (.bool y103.repeat_)]) (k := 3) rfl 0) rfl) ?_
   refine Tr.va rfl (fun _ _ h1 h2 => run_not (h1.ev rfl)) ?_
   refine Tr.mv rfl rfl ?_
   refine Tr.mid0 4 [(2, (iv p2)), (3, (.pointer (some ⟨b100, 0, none⟩))), (4, (.pointer (some ⟨b101, 0, none⟩))), (7, (.pointer (some ⟨b104, 0, none⟩))), (23, (.bool ((!y103.name) && (!sEq p1.Name ByteArray.empty))))] [(1, bx b100 #[(iv p0.Unit), (.slice Ap0_0 (p0.Tools).length cp0_0), (.slice Ap0_1 (p0.Steps).length cp0_1)] 25), (2, bx b101 #[(iv p1.Kind), (sv p1.Name), (iv p1.At.X), (iv p1.At.Y), (.slice Ap1_0 (p1.Points).length cp1_0), (iv p1.NX), (iv p1.NY), (.slice Ap1_1 (p1.Steps).length cp1_1)] 46), (3, bx b104 #[(.bool y103.name), (.bool y103.at_), (.bool y103.points), (.bool y103.repeat_)] 149)] ?_ ?_
   ·cases hg121 : (!y103.name)
    ·refine Tr.pass rfl rfl rfl rfl rfl (by decide) ?_
     refine Tr.pass rfl rfl rfl rfl rfl (by decide) ?_
     refine Tr.pass rfl rfl rfl rfl rfl (by decide) ?_
     refine Tr.va rfl (fun _ _ h1 h2 => zf (h1.ev rfl) (h1.ev rfl)) ?_
     exact Tr.nil (Tr.fin0 (.cons rfl (.cons rfl (.cons rfl (.cons rfl (.cons rfl .nil))))) (.cons rfl (.cons rfl (.cons rfl .nil))))
    ·refine Tr.val (wg rfl rfl rfl) rfl (fun _ _ h1 h2 => zB fo_46_1 (h1.ev rfl)) ?_
     refine Tr.val (wg rfl rfl rfl) rfl (fun _ _ h1 h2 => zC ag_9 (h1.ev rfl) (rdb h2 (vs := [(iv p1.Kind), (sv p1.Name), (iv p1.At.X), (iv p1.At.Y), (.slice Ap1_0 (p1.Points).length cp1_0), (iv p1.NX), (iv p1.NY), (.slice Ap1_1 (p1.Steps).length cp1_1)]) (k := 2) rfl 1) rfl) ?_
     refine Tr.val (wg rfl rfl rfl) rfl (fun _ _ h1 h2 => run_neqS (h1.ev rfl) (h1.ev rfl)) ?_
     refine Tr.va rfl (fun _ _ h1 h2 => ze (h1.ev rfl) (h1.ev rfl)) ?_
     exact Tr.nil (Tr.fin0 (.cons rfl (.cons rfl (.cons rfl (.cons rfl (.cons rfl .nil))))) (.cons rfl (.cons rfl (.cons rfl .nil))))
   ·show Tr _ _ (LF [(2, (iv p2)), (3, (.pointer (some ⟨b100, 0, none⟩))), (4, (.pointer (some ⟨b101, 0, none⟩))), (7, (.pointer (some ⟨b104, 0, none⟩))), (23, (.bool ((!y103.name) && (!sEq p1.Name ByteArray.empty))))]) (LE [(1, bx b100 #[(iv p0.Unit), (.slice Ap0_0 (p0.Tools).length cp0_0), (.slice Ap0_1 (p0.Steps).length cp0_1)] 25), (2, bx b101 #[(iv p1.Kind), (sv p1.Name), (iv p1.At.X), (iv p1.At.Y), (.slice Ap1_0 (p1.Points).length cp1_0), (iv p1.NX), (iv p1.NY), (.slice Ap1_1 (p1.Steps).length cp1_1)] 46), (3, bx b104 #[(.bool y103.name), (.bool y103.at_), (.bool y103.points), (.bool y103.repeat_)] 149)]) _
    refine Tr.asg rfl rfl ?_
    refine Tr.nil (Tr.zA ?_)
    refine Tr.cond rfl H (fun H => ?_) (fun H => ?_)
    ·refine Tr.skip ?_
     exact Tr.zZ leJ106 ((!y103.name) && (!sEq p1.Name ByteArray.empty)) H (.cons rfl (.cons rfl (.cons rfl (.cons rfl (.cons rfl .nil))))) (.cons rfl (.cons rfl (.cons rfl .nil)))
    ·refine Tr.sr ?_
     refine Tr.va rfl (fun _ _ h1 h2 => zB fo_149_1 (h1.ev rfl)) ?_
     refine Tr.va rfl (fun _ _ h1 h2 => zC ag_4 (h1.ev rfl) (rdb h2 (vs := [(.bool y103.name), (.bool y103.at_), (.bool y103.points), (.bool y103.repeat_)]) (k := 3) rfl 1) rfl) ?_
     refine Tr.va rfl (fun _ _ h1 h2 => run_not (h1.ev rfl)) ?_
     refine Tr.mv rfl rfl ?_
     refine Tr.mid0 5 [(2, (iv p2)), (3, (.pointer (some ⟨b100, 0, none⟩))), (4, (.pointer (some ⟨b101, 0, none⟩))), (7, (.pointer (some ⟨b104, 0, none⟩))), (32, (.bool ((!y103.at_) && (!(eqTPoint p1.At (zI.mk 0 0))))))] [(1, bx b100 #[(iv p0.Unit), (.slice Ap0_0 (p0.Tools).length cp0_0), (.slice Ap0_1 (p0.Steps).length cp0_1)] 25), (2, bx b101 #[(iv p1.Kind), (sv p1.Name), (iv p1.At.X), (iv p1.At.Y), (.slice Ap1_0 (p1.Points).length cp1_0), (iv p1.NX), (iv p1.NY), (.slice Ap1_1 (p1.Steps).length cp1_1)] 46), (3, bx b104 #[(.bool y103.name), (.bool y103.at_), (.bool y103.points), (.bool y103.repeat_)] 149)] ?_ ?_
     ·cases hg121 : (!y103.at_)
      ·refine Tr.pass rfl rfl rfl rfl rfl (by decide) ?_
       refine Tr.pass rfl rfl rfl rfl rfl (by decide) ?_
       refine Tr.pass rfl rfl rfl rfl rfl (by decide) ?_
       refine Tr.pass rfl rfl rfl rfl rfl (by decide) ?_
       refine Tr.va rfl (fun _ _ h1 h2 => zf (h1.ev rfl) (h1.ev rfl)) ?_
       exact Tr.nil (Tr.fin0 (.cons rfl (.cons rfl (.cons rfl (.cons rfl (.cons rfl .nil))))) (.cons rfl (.cons rfl (.cons rfl .nil))))
      ·refine Tr.val (wg rfl rfl rfl) rfl (fun _ _ h1 h2 => zB fo_46_2 (h1.ev rfl)) ?_
       refine Tr.val (wg rfl rfl rfl) rfl (fun _ _ h1 h2 => zR (cs := [(iv p1.At.X), (iv p1.At.Y)]) ag_43 sz_43 (h1.ev rfl) (zL.take (rdb h2 (vs := [(iv p1.Kind), (sv p1.Name), (iv p1.At.X), (iv p1.At.Y), (.slice Ap1_0 (p1.Points).length cp1_0), (iv p1.NX), (iv p1.NY), (.slice Ap1_1 (p1.Steps).length cp1_1)]) (k := 2) rfl 2) 2) rfl) ?_
       refine Tr.build (vs := []) (cs := [(iv 0), (iv 0)]) (wg rfl rfl rfl) rfl evs_nil (by kernel_rfl) ?_
       refine Tr.val (wg rfl rfl rfl) rfl (fun _ _ h1 h2 => run_neq_43 p1.At (zI.mk 0 0) (h1.ev rfl) (h1.ev rfl)) ?_
       refine Tr.va rfl (fun _ _ h1 h2 => ze (h1.ev rfl) (h1.ev rfl)) ?_
       exact Tr.nil (Tr.fin0 (.cons rfl (.cons rfl (.cons rfl (.cons rfl (.cons rfl .nil))))) (.cons rfl (.cons rfl (.cons rfl .nil))))
     ·show Tr _ _ (LF [(2, (iv p2)), (3, (.pointer (some ⟨b100, 0, none⟩))), (4, (.pointer (some ⟨b101, 0, none⟩))), (7, (.pointer (some ⟨b104, 0, none⟩))), (32, (.bool ((!y103.at_) && (!(eqTPoint p1.At (zI.mk 0 0))))))]) (LE [(1, bx b100 #[(iv p0.Unit), (.slice Ap0_0 (p0.Tools).length cp0_0), (.slice Ap0_1 (p0.Steps).length cp0_1)] 25), (2, bx b101 #[(iv p1.Kind), (sv p1.Name), (iv p1.At.X), (iv p1.At.Y), (.slice Ap1_0 (p1.Points).length cp1_0), (iv p1.NX), (iv p1.NY), (.slice Ap1_1 (p1.Steps).length cp1_1)] 46), (3, bx b104 #[(.bool y103.name), (.bool y103.at_), (.bool y103.points), (.bool y103.repeat_)] 149)]) _
      refine Tr.asg rfl rfl ?_
      refine Tr.nil (Tr.zA ?_)
      refine Tr.cond rfl H (fun H => ?_) (fun H => ?_)
      ·refine Tr.skip ?_
       exact Tr.zZ leJ106 ((!y103.at_) && (!(eqTPoint p1.At (zI.mk 0 0)))) H (.cons rfl (.cons rfl (.cons rfl (.cons rfl (.cons rfl .nil))))) (.cons rfl (.cons rfl (.cons rfl .nil)))
      ·refine Tr.sr ?_
       refine Tr.va rfl (fun _ _ h1 h2 => zB fo_149_2 (h1.ev rfl)) ?_
       refine Tr.va rfl (fun _ _ h1 h2 => zC ag_4 (h1.ev rfl) (rdb h2 (vs := [(.bool y103.name), (.bool y103.at_), (.bool y103.points), (.bool y103.repeat_)]) (k := 3) rfl 2) rfl) ?_
       refine Tr.va rfl (fun _ _ h1 h2 => run_not (h1.ev rfl)) ?_
       refine Tr.mv rfl rfl ?_
       refine Tr.mid0 5 [(2, (iv p2)), (3, (.pointer (some ⟨b100, 0, none⟩))), (4, (.pointer (some ⟨b101, 0, none⟩))), (7, (.pointer (some ⟨b104, 0, none⟩))), (41, (.bool ((!y103.points) && (decide (0 < (p1.Points.length : Int))))))] [(1, bx b100 #[(iv p0.Unit), (.slice Ap0_0 (p0.Tools).length cp0_0), (.slice Ap0_1 (p0.Steps).length cp0_1)] 25), (2, bx b101 #[(iv p1.Kind), (sv p1.Name), (iv p1.At.X), (iv p1.At.Y), (.slice Ap1_0 (p1.Points).length cp1_0), (iv p1.NX), (iv p1.NY), (.slice Ap1_1 (p1.Steps).length cp1_1)] 46), (3, bx b104 #[(.bool y103.name), (.bool y103.at_), (.bool y103.points), (.bool y103.repeat_)] 149)] ?_ ?_
       ·cases hg121 : (!y103.points)
        ·refine Tr.pass rfl rfl rfl rfl rfl (by decide) ?_
         refine Tr.pass rfl rfl rfl rfl rfl (by decide) ?_
         refine Tr.pass rfl rfl rfl rfl rfl (by decide) ?_
         refine Tr.pass rfl rfl rfl rfl rfl (by decide) ?_
         refine Tr.va rfl (fun _ _ h1 h2 => zf (h1.ev rfl) (h1.ev rfl)) ?_
         exact Tr.nil (Tr.fin0 (.cons rfl (.cons rfl (.cons rfl (.cons rfl (.cons rfl .nil))))) (.cons rfl (.cons rfl (.cons rfl .nil))))
        ·refine Tr.val (wg rfl rfl rfl) rfl (fun _ _ h1 h2 => zB fo_46_3 (h1.ev rfl)) ?_
         refine Tr.val (wg rfl rfl rfl) rfl (fun _ _ h1 h2 => zC ag_44 (h1.ev rfl) (rdb h2 (vs := [(iv p1.Kind), (sv p1.Name), (iv p1.At.X), (iv p1.At.Y), (.slice Ap1_0 (p1.Points).length cp1_0), (iv p1.NX), (iv p1.NY), (.slice Ap1_1 (p1.Steps).length cp1_1)]) (k := 2) rfl 4) rfl) ?_
         refine Tr.val (wg rfl rfl rfl) rfl (fun _ _ h1 h2 => zq un_44 (h1.ev rfl)) ?_
         refine Tr.val (wg rfl rfl rfl) rfl (fun _ _ h1 h2 => run_gtr (h1.ev rfl) (h1.ev rfl)) ?_
         refine Tr.va rfl (fun _ _ h1 h2 => ze (h1.ev rfl) (h1.ev rfl)) ?_
         exact Tr.nil (Tr.fin0 (.cons rfl (.cons rfl (.cons rfl (.cons rfl (.cons rfl .nil))))) (.cons rfl (.cons rfl (.cons rfl .nil))))
       ·show Tr _ _ (LF [(2, (iv p2)), (3, (.pointer (some ⟨b100, 0, none⟩))), (4, (.pointer (some ⟨b101, 0, none⟩))), (7, (.pointer (some ⟨b104, 0, none⟩))), (41, (.bool ((!y103.points) && (decide (0 < (p1.Points.length : Int))))))]) (LE [(1, bx b100 #[(iv p0.Unit), (.slice Ap0_0 (p0.Tools).length cp0_0), (.slice Ap0_1 (p0.Steps).length cp0_1)] 25), (2, bx b101 #[(iv p1.Kind), (sv p1.Name), (iv p1.At.X), (iv p1.At.Y), (.slice Ap1_0 (p1.Points).length cp1_0), (iv p1.NX), (iv p1.NY), (.slice Ap1_1 (p1.Steps).length cp1_1)] 46), (3, bx b104 #[(.bool y103.name), (.bool y103.at_), (.bool y103.points), (.bool y103.repeat_)] 149)]) _
        refine Tr.asg rfl rfl ?_
        refine Tr.nil (Tr.zA ?_)
        refine Tr.cond rfl H (fun H => ?_) (fun H => ?_)
        ·refine Tr.skip ?_
         exact Tr.zZ leJ106 ((!y103.points) && (decide (0 < (p1.Points.length : Int)))) H (.cons rfl (.cons rfl (.cons rfl (.cons rfl (.cons rfl .nil))))) (.cons rfl (.cons rfl (.cons rfl .nil)))
        ·refine Tr.region ?_
         refine Tr.va rfl (fun _ _ h1 h2 => zB fo_149_3 (h1.ev rfl)) ?_
         refine Tr.va rfl (fun _ _ h1 h2 => zC ag_4 (h1.ev rfl) (rdb h2 (vs := [(.bool y103.name), (.bool y103.at_), (.bool y103.points), (.bool y103.repeat_)]) (k := 3) rfl 3) rfl) ?_
         refine Tr.va rfl (fun _ _ h1 h2 => run_not (h1.ev rfl)) ?_
         refine Tr.mv rfl rfl ?_
         refine Tr.mid0 15 [(2, (iv p2)), (3, (.pointer (some ⟨b100, 0, none⟩))), (4, (.pointer (some ⟨b101, 0, none⟩))), (7, (.pointer (some ⟨b104, 0, none⟩))), (60, (.bool ((!y103.repeat_) && (((p1.NX != 0) || (p1.NY != 0)) || (decide (0 < (p1.Steps.length : Int)))))))] [(1, bx b100 #[(iv p0.Unit), (.slice Ap0_0 (p0.Tools).length cp0_0), (.slice Ap0_1 (p0.Steps).length cp0_1)] 25), (2, bx b101 #[(iv p1.Kind), (sv p1.Name), (iv p1.At.X), (iv p1.At.Y), (.slice Ap1_0 (p1.Points).length cp1_0), (iv p1.NX), (iv p1.NY), (.slice Ap1_1 (p1.Steps).length cp1_1)] 46), (3, bx b104 #[(.bool y103.name), (.bool y103.at_), (.bool y103.points), (.bool y103.repeat_)] 149)] ?_ ?_
         ·cases hg121 : (!y103.repeat_)
          ·refine Tr.pass rfl rfl rfl rfl rfl (by decide) ?_
           refine Tr.pass rfl rfl rfl rfl rfl (by decide) ?_
           refine Tr.pass rfl rfl rfl rfl rfl (by decide) ?_
           refine Tr.pass rfl rfl rfl rfl rfl (by decide) ?_
           refine Tr.passU rfl rfl rfl rfl (by decide) ?_
           refine Tr.passU rfl rfl rfl rfl (by decide) ?_
           refine Tr.passU rfl rfl rfl rfl (by decide) ?_
           refine Tr.pass rfl rfl rfl rfl rfl (by decide) ?_
           refine Tr.pass rfl rfl rfl rfl rfl (by decide) ?_
           refine Tr.passU rfl rfl rfl rfl (by decide) ?_
           refine Tr.passU rfl rfl rfl rfl (by decide) ?_
           refine Tr.passU rfl rfl rfl rfl (by decide) ?_
           refine Tr.passU rfl rfl rfl rfl (by decide) ?_
           refine Tr.pass rfl rfl rfl rfl rfl (by decide) ?_
           refine Tr.va rfl (fun _ _ h1 h2 => zf (h1.ev rfl) (h1.ev rfl)) ?_
           exact Tr.nil (Tr.fin0 (.cons rfl (.cons rfl (.cons rfl (.cons rfl (.cons rfl .nil))))) (.cons rfl (.cons rfl (.cons rfl .nil))))
          ·refine Tr.val (wg rfl rfl rfl) rfl (fun _ _ h1 h2 => zB fo_46_4 (h1.ev rfl)) ?_
           refine Tr.val (wg rfl rfl rfl) rfl (fun _ _ h1 h2 => zC ag_3 (h1.ev rfl) (rdb h2 (vs := [(iv p1.Kind), (sv p1.Name), (iv p1.At.X), (iv p1.At.Y), (.slice Ap1_0 (p1.Points).length cp1_0), (iv p1.NX), (iv p1.NY), (.slice Ap1_1 (p1.Steps).length cp1_1)]) (k := 2) rfl 5) rfl) ?_
           refine Tr.val (wg rfl rfl rfl) rfl (fun _ _ h1 h2 => run_neq (h1.ev rfl) (h1.ev rfl)) ?_
           refine Tr.val (wg rfl rfl rfl) rfl (fun _ _ h1 h2 => run_move (h1.ev rfl)) ?_
           refine Tr.mid0 4 [(2, (iv p2)), (3, (.pointer (some ⟨b100, 0, none⟩))), (4, (.pointer (some ⟨b101, 0, none⟩))), (7, (.pointer (some ⟨b104, 0, none⟩))), (45, (.bool true)), (53, (.bool ((p1.NX != 0) || (p1.NY != 0))))] [(1, bx b100 #[(iv p0.Unit), (.slice Ap0_0 (p0.Tools).length cp0_0), (.slice Ap0_1 (p0.Steps).length cp0_1)] 25), (2, bx b101 #[(iv p1.Kind), (sv p1.Name), (iv p1.At.X), (iv p1.At.Y), (.slice Ap1_0 (p1.Points).length cp1_0), (iv p1.NX), (iv p1.NY), (.slice Ap1_1 (p1.Steps).length cp1_1)] 46), (3, bx b104 #[(.bool y103.name), (.bool y103.at_), (.bool y103.points), (.bool y103.repeat_)] 149)] ?_ ?_
           ·cases hg121 : (p1.NX != 0)
            ·refine Tr.val (wg rfl rfl rfl) rfl (fun _ _ h1 h2 => zB fo_46_5 (h1.ev rfl)) ?_
             refine Tr.val (wg rfl rfl rfl) rfl (fun _ _ h1 h2 => zC ag_3 (h1.ev rfl) (rdb h2 (vs := [(iv p1.Kind), (sv p1.Name), (iv p1.At.X), (iv p1.At.Y), (.slice Ap1_0 (p1.Points).length cp1_0), (iv p1.NX), (iv p1.NY), (.slice Ap1_1 (p1.Steps).length cp1_1)]) (k := 2) rfl 6) rfl) ?_
             refine Tr.val (wg rfl rfl rfl) rfl (fun _ _ h1 h2 => run_neq (h1.ev rfl) (h1.ev rfl)) ?_
             refine Tr.val (wg rfl rfl rfl) rfl (fun _ _ h1 h2 => zf (h1.ev rfl) (h1.ev rfl)) ?_
             exact Tr.nil (Tr.fin0 (.cons rfl (.cons rfl (.cons rfl (.cons rfl (.cons rfl (.cons rfl .nil)))))) (.cons rfl (.cons rfl (.cons rfl .nil))))
            ·refine Tr.pass rfl rfl rfl rfl rfl (by decide) ?_
             refine Tr.pass rfl rfl rfl rfl rfl (by decide) ?_
             refine Tr.pass rfl rfl rfl rfl rfl (by decide) ?_
             refine Tr.val (wg rfl rfl rfl) rfl (fun _ _ h1 h2 => ze (h1.ev rfl) (h1.ev rfl)) ?_
             exact Tr.nil (Tr.fin0 (.cons rfl (.cons rfl (.cons rfl (.cons rfl (.cons rfl (.cons rfl .nil)))))) (.cons rfl (.cons rfl (.cons rfl .nil))))
           ·show Tr _ _ (LF [(2, (iv p2)), (3, (.pointer (some ⟨b100, 0, none⟩))), (4, (.pointer (some ⟨b101, 0, none⟩))), (7, (.pointer (some ⟨b104, 0, none⟩))), (45, (.bool true)), (53, (.bool ((p1.NX != 0) || (p1.NY != 0))))]) (LE [(1, bx b100 #[(iv p0.Unit), (.slice Ap0_0 (p0.Tools).length cp0_0), (.slice Ap0_1 (p0.Steps).length cp0_1)] 25), (2, bx b101 #[(iv p1.Kind), (sv p1.Name), (iv p1.At.X), (iv p1.At.Y), (.slice Ap1_0 (p1.Points).length cp1_0), (iv p1.NX), (iv p1.NY), (.slice Ap1_1 (p1.Steps).length cp1_1)] 46), (3, bx b104 #[(.bool y103.name), (.bool y103.at_), (.bool y103.points), (.bool y103.repeat_)] 149)]) _
            refine Tr.val (wg rfl rfl rfl) rfl (fun _ _ h1 h2 => run_move (h1.ev rfl)) ?_
            refine Tr.mid0 5 [(2, (iv p2)), (3, (.pointer (some ⟨b100, 0, none⟩))), (4, (.pointer (some ⟨b101, 0, none⟩))), (7, (.pointer (some ⟨b104, 0, none⟩))), (45, (.bool true)), (59, (.bool (((p1.NX != 0) || (p1.NY != 0)) || (decide (0 < (p1.Steps.length : Int))))))] [(1, bx b100 #[(iv p0.Unit), (.slice Ap0_0 (p0.Tools).length cp0_0), (.slice Ap0_1 (p0.Steps).length cp0_1)] 25), (2, bx b101 #[(iv p1.Kind), (sv p1.Name), (iv p1.At.X), (iv p1.At.Y), (.slice Ap1_0 (p1.Points).length cp1_0), (iv p1.NX), (iv p1.NY), (.slice Ap1_1 (p1.Steps).length cp1_1)] 46), (3, bx b104 #[(.bool y103.name), (.bool y103.at_), (.bool y103.points), (.bool y103.repeat_)] 149)] ?_ ?_
            ·cases hg121 : ((p1.NX != 0) || (p1.NY != 0))
             ·refine Tr.val (wg rfl rfl rfl) rfl (fun _ _ h1 h2 => zB fo_46_6 (h1.ev rfl)) ?_
              refine Tr.val (wg rfl rfl rfl) rfl (fun _ _ h1 h2 => zC ag_23 (h1.ev rfl) (rdb h2 (vs := [(iv p1.Kind), (sv p1.Name), (iv p1.At.X), (iv p1.At.Y), (.slice Ap1_0 (p1.Points).length cp1_0), (iv p1.NX), (iv p1.NY), (.slice Ap1_1 (p1.Steps).length cp1_1)]) (k := 2) rfl 7) rfl) ?_
              refine Tr.val (wg rfl rfl rfl) rfl (fun _ _ h1 h2 => zq un_23 (h1.ev rfl)) ?_
              refine Tr.val (wg rfl rfl rfl) rfl (fun _ _ h1 h2 => run_gtr (h1.ev rfl) (h1.ev rfl)) ?_
              refine Tr.val (wg rfl rfl rfl) rfl (fun _ _ h1 h2 => zf (h1.ev rfl) (h1.ev rfl)) ?_
              exact Tr.nil (Tr.fin0 (.cons rfl (.cons rfl (.cons rfl (.cons rfl (.cons rfl (.cons rfl .nil)))))) (.cons rfl (.cons rfl (.cons rfl .nil))))
             ·refine Tr.pass rfl rfl rfl rfl rfl (by decide) ?_
              refine Tr.pass rfl rfl rfl rfl rfl (by decide) ?_
              refine Tr.pass rfl rfl rfl rfl rfl (by decide) ?_
              refine Tr.pass rfl rfl rfl rfl rfl (by decide) ?_
              refine Tr.val (wg rfl rfl rfl) rfl (fun _ _ h1 h2 => ze (h1.ev rfl) (h1.ev rfl)) ?_
              exact Tr.nil (Tr.fin0 (.cons rfl (.cons rfl (.cons rfl (.cons rfl (.cons rfl (.cons rfl .nil)))))) (.cons rfl (.cons rfl (.cons rfl .nil))))
            ·show Tr _ _ (LF [(2, (iv p2)), (3, (.pointer (some ⟨b100, 0, none⟩))), (4, (.pointer (some ⟨b101, 0, none⟩))), (7, (.pointer (some ⟨b104, 0, none⟩))), (45, (.bool true)), (59, (.bool (((p1.NX != 0) || (p1.NY != 0)) || (decide (0 < (p1.Steps.length : Int))))))]) (LE [(1, bx b100 #[(iv p0.Unit), (.slice Ap0_0 (p0.Tools).length cp0_0), (.slice Ap0_1 (p0.Steps).length cp0_1)] 25), (2, bx b101 #[(iv p1.Kind), (sv p1.Name), (iv p1.At.X), (iv p1.At.Y), (.slice Ap1_0 (p1.Points).length cp1_0), (iv p1.NX), (iv p1.NY), (.slice Ap1_1 (p1.Steps).length cp1_1)] 46), (3, bx b104 #[(.bool y103.name), (.bool y103.at_), (.bool y103.points), (.bool y103.repeat_)] 149)]) _
             refine Tr.va rfl (fun _ _ h1 h2 => ze (h1.ev rfl) (h1.ev rfl)) ?_
             exact Tr.nil (Tr.fin0 (.cons rfl (.cons rfl (.cons rfl (.cons rfl (.cons rfl .nil))))) (.cons rfl (.cons rfl (.cons rfl .nil))))
         ·show Tr _ _ (LF [(2, (iv p2)), (3, (.pointer (some ⟨b100, 0, none⟩))), (4, (.pointer (some ⟨b101, 0, none⟩))), (7, (.pointer (some ⟨b104, 0, none⟩))), (60, (.bool ((!y103.repeat_) && (((p1.NX != 0) || (p1.NY != 0)) || (decide (0 < (p1.Steps.length : Int)))))))]) (LE [(1, bx b100 #[(iv p0.Unit), (.slice Ap0_0 (p0.Tools).length cp0_0), (.slice Ap0_1 (p0.Steps).length cp0_1)] 25), (2, bx b101 #[(iv p1.Kind), (sv p1.Name), (iv p1.At.X), (iv p1.At.Y), (.slice Ap1_0 (p1.Points).length cp1_0), (iv p1.NX), (iv p1.NY), (.slice Ap1_1 (p1.Steps).length cp1_1)] 46), (3, bx b104 #[(.bool y103.name), (.bool y103.at_), (.bool y103.points), (.bool y103.repeat_)] 149)]) _
          refine Tr.asg rfl rfl ?_
          refine Tr.nil ?_
          exact Tr.zZ leJ106 ((!y103.repeat_) && (((p1.NX != 0) || (p1.NY != 0)) || (decide (0 < (p1.Steps.length : Int))))) H (.cons rfl (.cons rfl (.cons rfl (.cons rfl (.cons rfl .nil))))) (.cons rfl (.cons rfl (.cons rfl .nil)))
  ·intro w x105 hlJ107 hs
   have H := hs
   replace H : zAP p0 p1 p2 y103 x105 = some r := H
   replace hp0_0 := hp0_0.leR hlJ107
   replace hp0_1 := hp0_1.leR hlJ107
   replace hp1_0 := hp1_0.leR hlJ107
   replace hp1_1 := hp1_1.leR hlJ107
   replace leB := leB.trans hlJ107
   unfold zAP at H
   show Tr _ _ (LF [(2, (iv p2)), (3, (.pointer (some ⟨b100, 0, none⟩))), (4, (.pointer (some ⟨b101, 0, none⟩))), (7, (.pointer (some ⟨b104, 0, none⟩))), (15, (.bool x105))]) (LE [(1, bx b100 #[(iv p0.Unit), (.slice Ap0_0 (p0.Tools).length cp0_0), (.slice Ap0_1 (p0.Steps).length cp0_1)] 25), (2, bx b101 #[(iv p1.Kind), (sv p1.Name), (iv p1.At.X), (iv p1.At.Y), (.slice Ap1_0 (p1.Points).length cp1_0), (iv p1.NX), (iv p1.NY), (.slice Ap1_1 (p1.Steps).length cp1_1)] 46), (3, bx b104 #[(.bool y103.name), (.bool y103.at_), (.bool y103.points), (.bool y103.repeat_)] 149)]) _
   refine Tr.cond rfl H (fun H => ?_) (fun H => ?_)
   ·refine Tr.sr ?_
    refine Tr.asg rfl rfl ?_
    refine Tr.nil (Tr.zA ?_)
    refine Tr.ret (Tr.zAB (Tr.zU ?_))
    obtain rfl := Option.some.inj H
    exact Tr.out (m := [(iv 3)]) [] (zP rfl zQ) (fun W hW => ⟨rfl, hW.low leB⟩)
   ·refine Tr.sr ?_
    refine Tr.va rfl (fun _ _ h1 h2 => zB fo_149_0 (h1.ev rfl)) ?_
    refine Tr.va rfl (fun _ _ h1 h2 => zC ag_4 (h1.ev rfl) (rdb h2 (vs := [(.bool y103.name), (.bool y103.at_), (.bool y103.points), (.bool y103.repeat_)]) (k := 3) rfl 0) rfl) ?_
    refine Tr.mv rfl rfl ?_
    obtain ⟨g109, hg109, H⟩ := bnd H
    refine Tr.mid0 6 [(2, (iv p2)), (3, (.pointer (some ⟨b100, 0, none⟩))), (4, (.pointer (some ⟨b101, 0, none⟩))), (7, (.pointer (some ⟨b104, 0, none⟩))), (70, (.bool g109))] [(1, bx b100 #[(iv p0.Unit), (.slice Ap0_0 (p0.Tools).length cp0_0), (.slice Ap0_1 (p0.Steps).length cp0_1)] 25), (2, bx b101 #[(iv p1.Kind), (sv p1.Name), (iv p1.At.X), (iv p1.At.Y), (.slice Ap1_0 (p1.Points).length cp1_0), (iv p1.NX), (iv p1.NY), (.slice Ap1_1 (p1.Steps).length cp1_1)] 46), (3, bx b104 #[(.bool y103.name), (.bool y103.at_), (.bool y103.points), (.bool y103.repeat_)] 149)] ?_ ?_
    ·cases hg121 : y103.name
     ·rw [hg121] at hg109
      rw [if_neg (by decide)] at hg109
      have H := hg109
      obtain rfl := Option.some.inj H
      refine Tr.pass rfl rfl rfl rfl rfl (by decide) ?_
      refine Tr.pass rfl rfl rfl rfl rfl (by decide) ?_
      refine Tr.pass rfl rfl rfl rfl rfl (by decide) ?_
      refine Tr.pass rfl rfl rfl rfl rfl (by decide) ?_
      refine Tr.pass rfl rfl rfl rfl rfl (by decide) ?_
      refine Tr.va rfl (fun _ _ h1 h2 => zf (h1.ev rfl) (h1.ev rfl)) ?_
      exact Tr.nil (Tr.fin0 (.cons rfl (.cons rfl (.cons rfl (.cons rfl (.cons rfl .nil))))) (.cons rfl (.cons rfl (.cons rfl .nil))))
     ·rw [hg121] at hg109
      rw [if_pos rfl] at hg109
      have H := hg109
      refine Tr.val (wg rfl rfl rfl) rfl (fun _ _ h1 h2 => zR (cs := [(iv p0.Unit), (.slice Ap0_0 (p0.Tools).length cp0_0), (.slice Ap0_1 (p0.Steps).length cp0_1)]) ag_25 sz_25 (h1.ev rfl) (zL.take (rdb h2 (vs := [(iv p0.Unit), (.slice Ap0_0 (p0.Tools).length cp0_0), (.slice Ap0_1 (p0.Steps).length cp0_1)]) (k := 1) rfl 0) 3) rfl) ?_
      refine Tr.val (wg rfl rfl rfl) rfl (fun _ _ h1 h2 => zB fo_46_1 (h1.ev rfl)) ?_
      refine Tr.val (wg rfl rfl rfl) rfl (fun _ _ h1 h2 => zC ag_9 (h1.ev rfl) (rdb h2 (vs := [(iv p1.Kind), (sv p1.Name), (iv p1.At.X), (iv p1.At.Y), (.slice Ap1_0 (p1.Points).length cp1_0), (iv p1.NX), (iv p1.NY), (.slice Ap1_1 (p1.Steps).length cp1_1)]) (k := 2) rfl 1) rfl) ?_
      obtain ⟨y110, hy110, H⟩ := bnd H
      refine Tr.call0 (r := (iv y110)) (wg rfl rfl rfl) rfl Tryz.call96 (zF rfl (zF rfl zO)) (fun W hW => F_plot_toolAt_ok p0 Ap0_0 cp0_0 (hp0_0.ext hW.extAll) Ap0_1 cp0_1 (hp0_1.ext hW.extAll) p1.Name y110 hy110 (HF.start _)) ?_
      refine Tr.val (wg rfl rfl rfl) rfl (fun _ _ h1 h2 => zz (h1.ev rfl) (h1.ev rfl)) ?_
      refine Tr.va rfl (fun _ _ h1 h2 => ze (h1.ev rfl) (h1.ev rfl)) ?_
      obtain rfl := Option.some.inj H
      exact Tr.nil (Tr.fin0 (.cons rfl (.cons rfl (.cons rfl (.cons rfl (.cons rfl .nil))))) (.cons rfl (.cons rfl (.cons rfl .nil))))
    ·show Tr _ _ (LF [(2, (iv p2)), (3, (.pointer (some ⟨b100, 0, none⟩))), (4, (.pointer (some ⟨b101, 0, none⟩))), (7, (.pointer (some ⟨b104, 0, none⟩))), (70, (.bool g109))]) (LE [(1, bx b100 #[(iv p0.Unit), (.slice Ap0_0 (p0.Tools).length cp0_0), (.slice Ap0_1 (p0.Steps).length cp0_1)] 25), (2, bx b101 #[(iv p1.Kind), (sv p1.Name), (iv p1.At.X), (iv p1.At.Y), (.slice Ap1_0 (p1.Points).length cp1_0), (iv p1.NX), (iv p1.NY), (.slice Ap1_1 (p1.Steps).length cp1_1)] 46), (3, bx b104 #[(.bool y103.name), (.bool y103.at_), (.bool y103.points), (.bool y103.repeat_)] 149)]) _
     refine Tr.asg rfl rfl ?_
     refine Tr.nil (Tr.zA ?_)
     refine Tr.cond rfl H (fun H => ?_) (fun H => ?_)
     ·refine Tr.sr ?_
      refine Tr.asg rfl rfl ?_
      refine Tr.nil (Tr.zA ?_)
      refine Tr.ret (Tr.zAB (Tr.zU ?_))
      obtain rfl := Option.some.inj H
      exact Tr.out (m := [(iv 5)]) [] (zP rfl zQ) (fun W hW => ⟨rfl, hW.low leB⟩)
     ·refine Tr.sr ?_
      refine Tr.va rfl (fun _ _ h1 h2 => zB fo_46_2 (h1.ev rfl)) ?_
      refine Tr.va rfl (fun _ _ h1 h2 => zR (cs := [(iv p1.At.X), (iv p1.At.Y)]) ag_43 sz_43 (h1.ev rfl) (zL.take (rdb h2 (vs := [(iv p1.Kind), (sv p1.Name), (iv p1.At.X), (iv p1.At.Y), (.slice Ap1_0 (p1.Points).length cp1_0), (iv p1.NX), (iv p1.NY), (.slice Ap1_1 (p1.Steps).length cp1_1)]) (k := 2) rfl 2) 2) rfl) ?_
      refine Tr.va rfl (fun _ _ h1 h2 => zB fo_25_0 (h1.ev rfl)) ?_
      refine Tr.va rfl (fun _ _ h1 h2 => zC ag_3 (h1.ev rfl) (rdb h2 (vs := [(iv p0.Unit), (.slice Ap0_0 (p0.Tools).length cp0_0), (.slice Ap0_1 (p0.Steps).length cp0_1)]) (k := 1) rfl 0) rfl) ?_
      obtain ⟨y111, hy111, H⟩ := bnd H
      refine Tr.call0 (r := (.bool y111)) (wn rfl) rfl Tryz.call97 (zF rfl (zF rfl zO)) (fun W hW => F_plot_isPoint_ok p1.At p0.Unit y111 hy111 (HF.start _)) ?_
      refine Tr.va rfl (fun _ _ h1 h2 => run_not (h1.ev rfl)) ?_
      refine Tr.mv rfl rfl ?_
      obtain ⟨g113, hg113, H⟩ := bnd H
      refine Tr.mid0 5 [(2, (iv p2)), (4, (.pointer (some ⟨b101, 0, none⟩))), (7, (.pointer (some ⟨b104, 0, none⟩))), (83, (.bool g113))] [(1, bx b100 #[(iv p0.Unit), (.slice Ap0_0 (p0.Tools).length cp0_0), (.slice Ap0_1 (p0.Steps).length cp0_1)] 25), (2, bx b101 #[(iv p1.Kind), (sv p1.Name), (iv p1.At.X), (iv p1.At.Y), (.slice Ap1_0 (p1.Points).length cp1_0), (iv p1.NX), (iv p1.NY), (.slice Ap1_1 (p1.Steps).length cp1_1)] 46), (3, bx b104 #[(.bool y103.name), (.bool y103.at_), (.bool y103.points), (.bool y103.repeat_)] 149)] ?_ ?_
      ·cases hg121 : (!y111)
       ·rw [hg121] at hg113
        rw [if_neg (by decide)] at hg113
        have H := hg113
        refine Tr.val (wg rfl rfl rfl) rfl (fun _ _ h1 h2 => zB fo_46_3 (h1.ev rfl)) ?_
        refine Tr.val (wg rfl rfl rfl) rfl (fun _ _ h1 h2 => zC ag_44 (h1.ev rfl) (rdb h2 (vs := [(iv p1.Kind), (sv p1.Name), (iv p1.At.X), (iv p1.At.Y), (.slice Ap1_0 (p1.Points).length cp1_0), (iv p1.NX), (iv p1.NY), (.slice Ap1_1 (p1.Steps).length cp1_1)]) (k := 2) rfl 4) rfl) ?_
        refine Tr.mkFunc (vs := [(.pointer (some ⟨b100, 0, none⟩))]) (wg rfl rfl rfl) rfl (zF rfl zO) ?_
        obtain ⟨y114, hy114, H⟩ := bnd H
        refine Tr.call0 (r := (.bool y114)) (wg rfl rfl rfl) rfl Tryz.call98 (zF rfl (zF rfl zO)) (fun W hW => F_slices_ContainsFunc_Point_ok p1.Points Ap1_0 cp1_0 (hp1_0.ext hW.extAll) (fun z0 => F_plot_checkStep_1 z0 p0) 99 [(.pointer (some ⟨b100, 0, none⟩))] Tryz.call99 (fun w' he z0 y hy => F_plot_checkStep_1_ok z0 p0 Ap0_0 cp0_0 (hp0_0.ext (hW.extAll.trans he)) Ap0_1 cp0_1 (hp0_1.ext (hW.extAll.trans he)) b100 (he.r _ (hW.capR (k := 1) rfl)) (he.cells (hW.capR (k := 1) rfl) (hW.capC (k := 1) rfl)) y hy (HF.start _)) y114 hy114 (HF.start _)) ?_
        refine Tr.va rfl (fun _ _ h1 h2 => zf (h1.ev rfl) (h1.ev rfl)) ?_
        obtain rfl := Option.some.inj H
        exact Tr.nil (Tr.fin0 (.cons rfl (.cons rfl (.cons rfl (.cons rfl .nil)))) (.cons rfl (.cons rfl (.cons rfl .nil))))
       ·rw [hg121] at hg113
        rw [if_pos rfl] at hg113
        have H := hg113
        obtain rfl := Option.some.inj H
        refine Tr.pass rfl rfl rfl rfl rfl (by decide) ?_
        refine Tr.pass rfl rfl rfl rfl rfl (by decide) ?_
        refine Tr.pass rfl rfl rfl rfl rfl (by decide) ?_
        refine Tr.pass rfl rfl rfl rfl rfl (by decide) ?_
        refine Tr.va rfl (fun _ _ h1 h2 => ze (h1.ev rfl) (h1.ev rfl)) ?_
        exact Tr.nil (Tr.fin0 (.cons rfl (.cons rfl (.cons rfl (.cons rfl .nil)))) (.cons rfl (.cons rfl (.cons rfl .nil))))
      ·show Tr _ _ (LF [(2, (iv p2)), (4, (.pointer (some ⟨b101, 0, none⟩))), (7, (.pointer (some ⟨b104, 0, none⟩))), (83, (.bool g113))]) (LE [(1, bx b100 #[(iv p0.Unit), (.slice Ap0_0 (p0.Tools).length cp0_0), (.slice Ap0_1 (p0.Steps).length cp0_1)] 25), (2, bx b101 #[(iv p1.Kind), (sv p1.Name), (iv p1.At.X), (iv p1.At.Y), (.slice Ap1_0 (p1.Points).length cp1_0), (iv p1.NX), (iv p1.NY), (.slice Ap1_1 (p1.Steps).length cp1_1)] 46), (3, bx b104 #[(.bool y103.name), (.bool y103.at_), (.bool y103.points), (.bool y103.repeat_)] 149)]) _
       refine Tr.asg rfl rfl ?_
       refine Tr.nil (Tr.zA ?_)
       refine Tr.cond rfl H (fun H => ?_) (fun H => ?_)
       ·refine Tr.sr ?_
        refine Tr.asg rfl rfl ?_
        refine Tr.nil (Tr.zA ?_)
        refine Tr.ret (Tr.zAB (Tr.zU ?_))
        obtain rfl := Option.some.inj H
        exact Tr.out (m := [(iv 1)]) [] (zP rfl zQ) (fun W hW => ⟨rfl, hW.low leB⟩)
       ·refine Tr.sr ?_
        refine Tr.va rfl (fun _ _ h1 h2 => zB fo_46_3 (h1.ev rfl)) ?_
        refine Tr.va rfl (fun _ _ h1 h2 => zC ag_44 (h1.ev rfl) (rdb h2 (vs := [(iv p1.Kind), (sv p1.Name), (iv p1.At.X), (iv p1.At.Y), (.slice Ap1_0 (p1.Points).length cp1_0), (iv p1.NX), (iv p1.NY), (.slice Ap1_1 (p1.Steps).length cp1_1)]) (k := 2) rfl 4) rfl) ?_
        refine Tr.va rfl (fun _ _ h1 h2 => zq un_44 (h1.ev rfl)) ?_
        refine Tr.va rfl (fun _ _ h1 h2 => run_gtr (h1.ev rfl) (h1.ev rfl)) ?_
        refine Tr.asg rfl rfl ?_
        refine Tr.nil (Tr.zA ?_)
        refine Tr.cond rfl H (fun H => ?_) (fun H => ?_)
        ·refine Tr.sr ?_
         refine Tr.asg rfl rfl ?_
         refine Tr.nil (Tr.zA ?_)
         refine Tr.ret (Tr.zAB (Tr.zU ?_))
         obtain rfl := Option.some.inj H
         exact Tr.out (m := [(iv 2)]) [] (zP rfl zQ) (fun W hW => ⟨rfl, hW.low leB⟩)
        ·refine Tr.sr ?_
         refine Tr.va rfl (fun _ _ h1 h2 => zB fo_149_2 (h1.ev rfl)) ?_
         refine Tr.va rfl (fun _ _ h1 h2 => zC ag_4 (h1.ev rfl) (rdb h2 (vs := [(.bool y103.name), (.bool y103.at_), (.bool y103.points), (.bool y103.repeat_)]) (k := 3) rfl 2) rfl) ?_
         refine Tr.mv rfl rfl ?_
         obtain ⟨g116, hg116, H⟩ := bnd H
         refine Tr.mid0 5 [(2, (iv p2)), (4, (.pointer (some ⟨b101, 0, none⟩))), (7, (.pointer (some ⟨b104, 0, none⟩))), (97, (.bool g116))] [(1, bx b100 #[(iv p0.Unit), (.slice Ap0_0 (p0.Tools).length cp0_0), (.slice Ap0_1 (p0.Steps).length cp0_1)] 25), (2, bx b101 #[(iv p1.Kind), (sv p1.Name), (iv p1.At.X), (iv p1.At.Y), (.slice Ap1_0 (p1.Points).length cp1_0), (iv p1.NX), (iv p1.NY), (.slice Ap1_1 (p1.Steps).length cp1_1)] 46), (3, bx b104 #[(.bool y103.name), (.bool y103.at_), (.bool y103.points), (.bool y103.repeat_)] 149)] ?_ ?_
         ·cases hg121 : y103.points
          ·rw [hg121] at hg116
           rw [if_neg (by decide)] at hg116
           have H := hg116
           obtain rfl := Option.some.inj H
           refine Tr.pass rfl rfl rfl rfl rfl (by decide) ?_
           refine Tr.pass rfl rfl rfl rfl rfl (by decide) ?_
           refine Tr.pass rfl rfl rfl rfl rfl (by decide) ?_
           refine Tr.pass rfl rfl rfl rfl rfl (by decide) ?_
           refine Tr.va rfl (fun _ _ h1 h2 => zf (h1.ev rfl) (h1.ev rfl)) ?_
           exact Tr.nil (Tr.fin0 (.cons rfl (.cons rfl (.cons rfl (.cons rfl .nil)))) (.cons rfl (.cons rfl (.cons rfl .nil))))
          ·rw [hg121] at hg116
           rw [if_pos rfl] at hg116
           have H := hg116
           refine Tr.val (wg rfl rfl rfl) rfl (fun _ _ h1 h2 => zB fo_46_3 (h1.ev rfl)) ?_
           refine Tr.val (wg rfl rfl rfl) rfl (fun _ _ h1 h2 => zC ag_44 (h1.ev rfl) (rdb h2 (vs := [(iv p1.Kind), (sv p1.Name), (iv p1.At.X), (iv p1.At.Y), (.slice Ap1_0 (p1.Points).length cp1_0), (iv p1.NX), (iv p1.NY), (.slice Ap1_1 (p1.Steps).length cp1_1)]) (k := 2) rfl 4) rfl) ?_
           obtain ⟨y117, hy117, H⟩ := bnd H
           refine Tr.call0 (r := (.bool y117)) (wg rfl rfl rfl) rfl Tryz.call100 (zF rfl zO) (fun W hW => F_shape_IsRow_ok p1.Points Ap1_0 cp1_0 (hp1_0.ext hW.extAll) y117 hy117 (HF.start _)) ?_
           refine Tr.val (wg rfl rfl rfl) rfl (fun _ _ h1 h2 => run_not (h1.ev rfl)) ?_
           refine Tr.va rfl (fun _ _ h1 h2 => ze (h1.ev rfl) (h1.ev rfl)) ?_
           obtain rfl := Option.some.inj H
           exact Tr.nil (Tr.fin0 (.cons rfl (.cons rfl (.cons rfl (.cons rfl .nil)))) (.cons rfl (.cons rfl (.cons rfl .nil))))
         ·show Tr _ _ (LF [(2, (iv p2)), (4, (.pointer (some ⟨b101, 0, none⟩))), (7, (.pointer (some ⟨b104, 0, none⟩))), (97, (.bool g116))]) (LE [(1, bx b100 #[(iv p0.Unit), (.slice Ap0_0 (p0.Tools).length cp0_0), (.slice Ap0_1 (p0.Steps).length cp0_1)] 25), (2, bx b101 #[(iv p1.Kind), (sv p1.Name), (iv p1.At.X), (iv p1.At.Y), (.slice Ap1_0 (p1.Points).length cp1_0), (iv p1.NX), (iv p1.NY), (.slice Ap1_1 (p1.Steps).length cp1_1)] 46), (3, bx b104 #[(.bool y103.name), (.bool y103.at_), (.bool y103.points), (.bool y103.repeat_)] 149)]) _
          refine Tr.asg rfl rfl ?_
          refine Tr.nil (Tr.zA ?_)
          refine Tr.cond rfl H (fun H => ?_) (fun H => ?_)
          ·refine Tr.sr ?_
           refine Tr.asg rfl rfl ?_
           refine Tr.nil (Tr.zA ?_)
           refine Tr.ret (Tr.zAB (Tr.zU ?_))
           obtain rfl := Option.some.inj H
           exact Tr.out (m := [(iv 3)]) [] (zP rfl zQ) (fun W hW => ⟨rfl, hW.low leB⟩)
          ·refine Tr.skip (Tr.zW (Tr.zA ?_))
           refine Tr.seq ?_
           refine Tr.sr ?_
           refine Tr.va rfl (fun _ _ h1 h2 => zB fo_149_3 (h1.ev rfl)) ?_
           refine Tr.va rfl (fun _ _ h1 h2 => zC ag_4 (h1.ev rfl) (rdb h2 (vs := [(.bool y103.name), (.bool y103.at_), (.bool y103.points), (.bool y103.repeat_)]) (k := 3) rfl 3) rfl) ?_
           refine Tr.va rfl (fun _ _ h1 h2 => run_not (h1.ev rfl)) ?_
           refine Tr.nil (Tr.zA ?_)
           refine Tr.cond rfl H (fun H => ?_) (fun H => ?_)
           ·refine Tr.sr ?_
            refine Tr.asg rfl rfl ?_
            refine Tr.nil (Tr.zA ?_)
            refine Tr.ret (Tr.zU ?_)
            obtain rfl := Option.some.inj H
            exact Tr.out (m := [(iv 0)]) [] (zP rfl zQ) (fun W hW => ⟨rfl, hW.low leB⟩)
           ·refine Tr.skip (Tr.zA ?_)
            refine Tr.seq ?_
            refine Tr.block ?_
            refine Tr.sr ?_
            refine Tr.va rfl (fun _ _ h1 h2 => zB fo_46_4 (h1.ev rfl)) ?_
            refine Tr.va rfl (fun _ _ h1 h2 => zC ag_3 (h1.ev rfl) (rdb h2 (vs := [(iv p1.Kind), (sv p1.Name), (iv p1.At.X), (iv p1.At.Y), (.slice Ap1_0 (p1.Points).length cp1_0), (iv p1.NX), (iv p1.NY), (.slice Ap1_1 (p1.Steps).length cp1_1)]) (k := 2) rfl 5) rfl) ?_
            obtain ⟨y118, hy118, H⟩ := bnd H
            refine Tr.call0 (r := (.bool y118)) (wn rfl) rfl Tryz.call22 (zF rfl (zF rfl (zF rfl zO))) (fun W hW => F_plot_within_ok p1.NX 1 100 y118 hy118 (HF.start _)) ?_
            refine Tr.va rfl (fun _ _ h1 h2 => run_not (h1.ev rfl)) ?_
            refine Tr.mv rfl rfl ?_
            obtain ⟨g120, hg120, H⟩ := bnd H
            refine Tr.mid0 5 [(2, (iv p2)), (4, (.pointer (some ⟨b101, 0, none⟩))), (111, (.bool g120))] [(1, bx b100 #[(iv p0.Unit), (.slice Ap0_0 (p0.Tools).length cp0_0), (.slice Ap0_1 (p0.Steps).length cp0_1)] 25), (2, bx b101 #[(iv p1.Kind), (sv p1.Name), (iv p1.At.X), (iv p1.At.Y), (.slice Ap1_0 (p1.Points).length cp1_0), (iv p1.NX), (iv p1.NY), (.slice Ap1_1 (p1.Steps).length cp1_1)] 46), (3, bx b104 #[(.bool y103.name), (.bool y103.at_), (.bool y103.points), (.bool y103.repeat_)] 149)] ?_ ?_
            ·cases hg121 : (!y118)
             ·rw [hg121] at hg120
              rw [if_neg (by decide)] at hg120
              have H := hg120
              refine Tr.val (wg rfl rfl rfl) rfl (fun _ _ h1 h2 => zB fo_46_5 (h1.ev rfl)) ?_
              refine Tr.val (wg rfl rfl rfl) rfl (fun _ _ h1 h2 => zC ag_3 (h1.ev rfl) (rdb h2 (vs := [(iv p1.Kind), (sv p1.Name), (iv p1.At.X), (iv p1.At.Y), (.slice Ap1_0 (p1.Points).length cp1_0), (iv p1.NX), (iv p1.NY), (.slice Ap1_1 (p1.Steps).length cp1_1)]) (k := 2) rfl 6) rfl) ?_
              obtain ⟨y121, hy121, H⟩ := bnd H
              refine Tr.call0 (r := (.bool y121)) (wg rfl rfl rfl) rfl Tryz.call22 (zF rfl (zF rfl (zF rfl zO))) (fun W hW => F_plot_within_ok p1.NY 1 100 y121 hy121 (HF.start _)) ?_
              refine Tr.val (wg rfl rfl rfl) rfl (fun _ _ h1 h2 => run_not (h1.ev rfl)) ?_
              refine Tr.va rfl (fun _ _ h1 h2 => zf (h1.ev rfl) (h1.ev rfl)) ?_
              obtain rfl := Option.some.inj H
              exact Tr.nil (Tr.fin0 (.cons rfl (.cons rfl (.cons rfl .nil))) (.cons rfl (.cons rfl (.cons rfl .nil))))
             ·rw [hg121] at hg120
              rw [if_pos rfl] at hg120
              have H := hg120
              obtain rfl := Option.some.inj H
              refine Tr.pass rfl rfl rfl rfl rfl (by decide) ?_
              refine Tr.pass rfl rfl rfl rfl rfl (by decide) ?_
              refine Tr.pass rfl rfl rfl rfl rfl (by decide) ?_
              refine Tr.pass rfl rfl rfl rfl rfl (by decide) ?_
              refine Tr.va rfl (fun _ _ h1 h2 => ze (h1.ev rfl) (h1.ev rfl)) ?_
              exact Tr.nil (Tr.fin0 (.cons rfl (.cons rfl (.cons rfl .nil))) (.cons rfl (.cons rfl (.cons rfl .nil))))
            ·show Tr _ _ (LF [(2, (iv p2)), (4, (.pointer (some ⟨b101, 0, none⟩))), (111, (.bool g120))]) (LE [(1, bx b100 #[(iv p0.Unit), (.slice Ap0_0 (p0.Tools).length cp0_0), (.slice Ap0_1 (p0.Steps).length cp0_1)] 25), (2, bx b101 #[(iv p1.Kind), (sv p1.Name), (iv p1.At.X), (iv p1.At.Y), (.slice Ap1_0 (p1.Points).length cp1_0), (iv p1.NX), (iv p1.NY), (.slice Ap1_1 (p1.Steps).length cp1_1)] 46), (3, bx b104 #[(.bool y103.name), (.bool y103.at_), (.bool y103.points), (.bool y103.repeat_)] 149)]) _
             refine Tr.asg rfl rfl ?_
             refine Tr.nil (Tr.zA ?_)
             refine Tr.cond rfl H (fun H => ?_) (fun H => ?_)
             ·refine Tr.sr ?_
              refine Tr.asg rfl rfl ?_
              refine Tr.nil (Tr.zA ?_)
              refine Tr.ret (Tr.zAB (Tr.zU ?_))
              obtain rfl := Option.some.inj H
              exact Tr.out (m := [(iv 1)]) [] (zP rfl zQ) (fun W hW => ⟨rfl, hW.low leB⟩)
             ·refine Tr.sr ?_
              refine Tr.va rfl (fun _ _ h1 h2 => zB fo_46_6 (h1.ev rfl)) ?_
              refine Tr.va rfl (fun _ _ h1 h2 => zC ag_23 (h1.ev rfl) (rdb h2 (vs := [(iv p1.Kind), (sv p1.Name), (iv p1.At.X), (iv p1.At.Y), (.slice Ap1_0 (p1.Points).length cp1_0), (iv p1.NX), (iv p1.NY), (.slice Ap1_1 (p1.Steps).length cp1_1)]) (k := 2) rfl 7) rfl) ?_
              refine Tr.va rfl (fun _ _ h1 h2 => zq un_23 (h1.ev rfl)) ?_
              refine Tr.va rfl (fun _ _ h1 h2 => run_eql (h1.ev rfl) (h1.ev rfl)) ?_
              refine Tr.asg rfl rfl ?_
              refine Tr.nil (Tr.zA ?_)
              refine Tr.cond rfl H (fun H => ?_) (fun H => ?_)
              ·refine Tr.sr ?_
               refine Tr.asg rfl rfl ?_
               refine Tr.nil (Tr.zA ?_)
               refine Tr.ret (Tr.zAB (Tr.zU ?_))
               obtain rfl := Option.some.inj H
               exact Tr.out (m := [(iv 9)]) [] (zP rfl zQ) (fun W hW => ⟨rfl, hW.low leB⟩)
              ·refine Tr.sr ?_
               refine Tr.mv rfl rfl ?_
               refine Tr.va rfl (fun _ _ h1 h2 => run_geq (h1.ev rfl) (h1.ev rfl)) ?_
               refine Tr.asg rfl rfl ?_
               refine Tr.nil (Tr.zA ?_)
               refine Tr.cond rfl H (fun H => ?_) (fun H => ?_)
               ·refine Tr.sr ?_
                refine Tr.asg rfl rfl ?_
                refine Tr.nil (Tr.zA ?_)
                refine Tr.ret (Tr.zAB (Tr.zU ?_))
                obtain rfl := Option.some.inj H
                exact Tr.out (m := [(iv 2)]) [] (zP rfl zQ) (fun W hW => ⟨rfl, hW.low leB⟩)
               ·refine Tr.skip (Tr.zW (Tr.zA ?_))
                refine Tr.sr ?_
                refine Tr.asg rfl rfl ?_
                refine Tr.nil (Tr.zA ?_)
                refine Tr.ret ?_
                obtain rfl := Option.some.inj H
                exact Tr.out (m := [(iv 0)]) [] (zP rfl zQ) (fun W hW => ⟨rfl, hW.low leB⟩)

theorem F_plot_checkSteps_b_ok (N : Nat) (rec : zt → (List zD) → Int → Option Int) (hrec : ∀ {w : Bs} (p0 : zt) (Ap0_0 : Option Addr) (cp0_0 : Nat) (hp0_0 : Sl w.R w.W zK Ap0_0 cp0_0 p0.Tools) (Ap0_1 : Option Addr) (cp0_1 : Nat) (hp0_1 : Sl w.R w.W zG Ap0_1 cp0_1 p0.Steps) (p1 : (List zD)) (Ap1_0 : Option Addr) (cp1_0 : Nat) (hp1_0 : Sl w.R w.W zG Ap1_0 cp1_0 p1) (p2 : Int) (r : Int) (H : rec p0 p1 p2 = some r) (hE : HF w w.W E0), Calls Tryz.prog 43 [(.agg #[(iv p0.Unit), (.slice Ap0_0 (p0.Tools).length cp0_0), (.slice Ap0_1 (p0.Steps).length cp0_1)]), (.slice Ap1_0 (p1).length cp1_0), (iv p2)].toArray w.W fun e W' => e = .returned (iv r) ∧ HF w W' E0) {w : Bs} (p0 : zt) (Ap0_0 : Option Addr) (cp0_0 : Nat) (hp0_0 : Sl w.R w.W zK Ap0_0 cp0_0 p0.Tools) (Ap0_1 : Option Addr) (cp0_1 : Nat) (hp0_1 : Sl w.R w.W zG Ap0_1 cp0_1 p0.Steps) (p1 : (List zD)) (Ap1_0 : Option Addr) (cp1_0 : Nat) (hp1_0 : Sl w.R w.W zG Ap1_0 cp1_0 p1) (p2 : Int) (r : Int) (H : F_plot_checkSteps_b N rec p0 p1 p2 = some r) (hE : HF w w.W E0) : Calls Tryz.prog 43 [(.agg #[(iv p0.Unit), (.slice Ap0_0 (p0.Tools).length cp0_0), (.slice Ap0_1 (p0.Steps).length cp0_1)]), (.slice Ap1_0 (p1).length cp1_0), (iv p2)].toArray w.W fun e W' => e = .returned (iv r) ∧ HF w W' E0 := by
 unfold F_plot_checkSteps_b at H
 have leB := Bs.Le.refl w
 refine Tr.enter (n := 34) Tryz.func43 rfl rfl rfl hE ?_
 refine Tr.sr ?_
 refine Tr.box 1 (cs := [(iv p0.Unit), (.slice Ap0_0 (p0.Tools).length cp0_0), (.slice Ap0_1 (p0.Steps).length cp0_1)]) (wn rfl) rfl rfl rfl fun b100 => ?_
 refine Tr.asg rfl rfl ?_
 refine Tr.nil (Tr.zA ?_)
 refine Tr.seq ?_
 refine Tr.sr ?_
 refine Tr.mv rfl rfl ?_
 refine Tr.va rfl (fun _ _ h1 h2 => zq un_23 (h1.ev rfl)) ?_
 refine Tr.mv rfl rfl ?_
 refine Tr.nil (Tr.zA ?_)
 refine Tr.block ?_
 refine Tr.loop (σ := (List zD) × Nat) (fun m w s => m = s.1.length + 1 ∧ s.1 = List.drop s.2 p1 ∧ s.2 ≤ p1.length ∧ F_plot_checkSteps_L1 p0 p2 rec s.1 s.2 = some r) (fun s => [(2, (iv p2)), (3, (.pointer (some ⟨b100, 0, none⟩))), (11, (.slice Ap1_0 (p1).length cp1_0)), (12, (iv (p1.length : Int))), (13, (iv (s.2 : Int)))]) (fun s => [(1, bx b100 #[(iv p0.Unit), (.slice Ap0_0 (p0.Tools).length cp0_0), (.slice Ap0_1 (p0.Steps).length cp0_1)] 25)]) (p1.length + 1) (p1, 0) ⟨rfl, rfl, Nat.zero_le _, H⟩ (.cons rfl (.cons rfl (.cons rfl (.cons rfl (.cons rfl .nil))))) (.cons rfl .nil) (fun _ _ h => absurd h.1 (by simp)) ?_
 intro w leL1 m s hs
 obtain ⟨restL1, iL1⟩ := s
 obtain ⟨hmL1, hdL1, hiL1, H⟩ := hs
 replace hdL1 : restL1 = List.drop iL1 p1 := hdL1
 replace H : F_plot_checkSteps_L1 p0 p2 rec restL1 iL1 = some r := H
 replace hmL1 : m + 1 = restL1.length + 1 := hmL1
 replace hp0_0 := hp0_0.leR leL1
 replace hp0_1 := hp0_1.leR leL1
 replace hp1_0 := hp1_0.leR leL1
 replace leB := leB.trans leL1
 obtain rfl : m = restL1.length := by omega
 clear hmL1
 show Tr _ _ (LF [(2, (iv p2)), (3, (.pointer (some ⟨b100, 0, none⟩))), (11, (.slice Ap1_0 (p1).length cp1_0)), (12, (iv (p1.length : Int))), (13, (iv (iL1 : Int)))]) (LE [(1, bx b100 #[(iv p0.Unit), (.slice Ap0_0 (p0.Tools).length cp0_0), (.slice Ap0_1 (p0.Steps).length cp0_1)] 25)]) _
 cases restL1 with
 | nil =>
  rw [F_plot_checkSteps_L1.eq_1] at H
  refine Tr.sr ?_
  refine Tr.va rfl (fun _ _ h1 h2 => zz (h1.ev rfl) (h1.ev rfl)) ?_
  refine Tr.nil (Tr.zA ?_)
  refine Tr.seq ?_
  refine Tr.condF rfl (range_nil hdL1) ?_
  refine Tr.exit (Tr.zX (Tr.zX (Tr.zAC (Tr.zA ?_))))
  refine Tr.sr ?_
  refine Tr.asg rfl rfl ?_
  refine Tr.nil (Tr.zA ?_)
  refine Tr.ret ?_
  obtain rfl := Option.some.inj H
  exact Tr.out (m := [(iv 0)]) [] (zP rfl zQ) (fun W hW => ⟨rfl, hW.low leB⟩)
 | cons xL1 restL1 =>
  rw [F_plot_checkSteps_L1.eq_2] at H
  refine Tr.sr ?_
  refine Tr.va rfl (fun _ _ h1 h2 => zz (h1.ev rfl) (h1.ev rfl)) ?_
  refine Tr.nil (Tr.zA ?_)
  refine Tr.seq ?_
  refine Tr.condT rfl (range_on hdL1) ?_
  refine Tr.skip (Tr.zA ?_)
  refine Tr.seq ?_
  refine Tr.block ?_
  refine Tr.sr ?_
  obtain ⟨u107, hRu107, hoku107, hcu107⟩ := (hp1_0).el (range_at hdL1)
  obtain ⟨⟨Au107_0, cu107_0⟩, ⟨Au107_1, cu107_1⟩⟩ := u107
  obtain ⟨hoku107_0, hoku107_1⟩ := TPlotStep_ok.1 hoku107
  replace hoku107_0 : Sl w.R w.W zy Au107_0 cu107_0 xL1.Points := hoku107_0
  replace hoku107_1 : Sl w.R w.W zG Au107_1 cu107_1 xL1.Steps := hoku107_1
  refine Tr.va rfl (fun _ _ h1 h2 => zH el_23 (h1.ev rfl) hp1_0.form (h1.ev rfl) (Int.natCast_nonneg _) (zo hdL1)) ?_
  refine Tr.va rfl (fun _ _ h1 h2 => zR (cs := [(iv xL1.Kind), (sv xL1.Name), (iv xL1.At.X), (iv xL1.At.Y), (.slice Au107_0 (xL1.Points).length cu107_0), (iv xL1.NX), (iv xL1.NY), (.slice Au107_1 (xL1.Steps).length cu107_1)]) ag_46 sz_46 (h1.ev rfl) (zL.take (rdR hRu107 hcu107 h2) 8) rfl) ?_
  refine Tr.alloc 3 (wn rfl) rfl ze_46 fun b108 => ?_
  refine Tr.store 3 (cs := [(iv xL1.Kind), (sv xL1.Name), (iv xL1.At.X), (iv xL1.At.Y), (.slice Au107_0 (xL1.Points).length cu107_0), (iv xL1.NX), (iv xL1.NY), (.slice Au107_1 (xL1.Steps).length cu107_1)]) [(iv xL1.Kind), (sv xL1.Name), (iv xL1.At.X), (iv xL1.At.Y), (.slice Au107_0 (xL1.Points).length cu107_0), (iv xL1.NX), (iv xL1.NY), (.slice Au107_1 (xL1.Steps).length cu107_1)] (wn rfl) rfl rfl rfl rfl sz_46 rfl rfl rfl ?_
  refine Tr.nil (Tr.zA ?_)
  refine Tr.seq ?_
  refine Tr.sr ?_
  refine Tr.va rfl (fun _ _ h1 h2 => zR (cs := [(iv p0.Unit), (.slice Ap0_0 (p0.Tools).length cp0_0), (.slice Ap0_1 (p0.Steps).length cp0_1)]) ag_25 sz_25 (h1.ev rfl) (zL.take (rdb h2 (vs := [(iv p0.Unit), (.slice Ap0_0 (p0.Tools).length cp0_0), (.slice Ap0_1 (p0.Steps).length cp0_1)]) (k := 1) rfl 0) 3) rfl) ?_
  refine Tr.va rfl (fun _ _ h1 h2 => zR (cs := [(iv xL1.Kind), (sv xL1.Name), (iv xL1.At.X), (iv xL1.At.Y), (.slice Au107_0 (xL1.Points).length cu107_0), (iv xL1.NX), (iv xL1.NY), (.slice Au107_1 (xL1.Steps).length cu107_1)]) ag_46 sz_46 (h1.ev rfl) (zL.take (rdb h2 (vs := [(iv xL1.Kind), (sv xL1.Name), (iv xL1.At.X), (iv xL1.At.Y), (.slice Au107_0 (xL1.Points).length cu107_0), (iv xL1.NX), (iv xL1.NY), (.slice Au107_1 (xL1.Steps).length cu107_1)]) (k := 3) rfl 0) 8) rfl) ?_
  refine Tr.mv rfl rfl ?_
  obtain ⟨y109, hy109, H⟩ := bnd H
  refine Tr.call0 (r := (iv y109)) (wn rfl) rfl Tryz.call74 (zF rfl (zF rfl (zF rfl zO))) (fun W hW => F_plot_checkStep_ok p0 Ap0_0 cp0_0 (hp0_0.ext hW.extAll) Ap0_1 cp0_1 (hp0_1.ext hW.extAll) xL1 Au107_0 cu107_0 (hoku107_0.ext hW.extAll) Au107_1 cu107_1 (hoku107_1.ext hW.extAll) p2 y109 hy109 (HF.start _)) ?_
  refine Tr.asg rfl rfl ?_
  refine Tr.nil (Tr.zA ?_)
  refine Tr.sr ?_
  refine Tr.mv rfl rfl ?_
  refine Tr.va rfl (fun _ _ h1 h2 => run_neq (h1.ev rfl) (h1.ev rfl)) ?_
  refine Tr.nil (Tr.zA ?_)
  refine Tr.cond rfl H (fun H => ?_) (fun H => ?_)
  ·refine Tr.sr ?_
   refine Tr.mv rfl rfl ?_
   refine Tr.asg rfl rfl ?_
   refine Tr.nil (Tr.zA ?_)
   refine Tr.ret (Tr.zU (Tr.zAB (Tr.zU (Tr.zU (Tr.zAB (Tr.zU ?_))))))
   obtain rfl := Option.some.inj H
   exact Tr.out (m := [(iv y109)]) [] (zP rfl zQ) (fun W hW => ⟨rfl, hW.low leB⟩)
  ·refine Tr.skip (Tr.zA ?_)
   refine Tr.sr ?_
   refine Tr.va rfl (fun _ _ h1 h2 => zR (cs := [(iv p0.Unit), (.slice Ap0_0 (p0.Tools).length cp0_0), (.slice Ap0_1 (p0.Steps).length cp0_1)]) ag_25 sz_25 (h1.ev rfl) (zL.take (rdb h2 (vs := [(iv p0.Unit), (.slice Ap0_0 (p0.Tools).length cp0_0), (.slice Ap0_1 (p0.Steps).length cp0_1)]) (k := 1) rfl 0) 3) rfl) ?_
   refine Tr.va rfl (fun _ _ h1 h2 => zB fo_46_6 (h1.ev rfl)) ?_
   refine Tr.va rfl (fun _ _ h1 h2 => zC ag_23 (h1.ev rfl) (rdb h2 (vs := [(iv xL1.Kind), (sv xL1.Name), (iv xL1.At.X), (iv xL1.At.Y), (.slice Au107_0 (xL1.Points).length cu107_0), (iv xL1.NX), (iv xL1.NY), (.slice Au107_1 (xL1.Steps).length cu107_1)]) (k := 3) rfl 7) rfl) ?_
   refine Tr.mv rfl rfl ?_
   refine Tr.va rfl (fun _ _ h1 h2 => zx (h1.ev rfl) (h1.ev rfl)) ?_
   obtain ⟨y110, hy110, H⟩ := bnd H
   refine Tr.call0 (r := (iv y110)) (wn rfl) rfl Tryz.call43 (zF rfl (zF rfl (zF rfl zO))) (fun W hW => hrec p0 Ap0_0 cp0_0 (hp0_0.ext hW.extAll) Ap0_1 cp0_1 (hp0_1.ext hW.extAll) xL1.Steps Au107_1 cu107_1 (hoku107_1.ext hW.extAll) (w64 (p2 + 1)) y110 hy110 (HF.start _)) ?_
   refine Tr.asg rfl rfl ?_
   refine Tr.nil (Tr.zA ?_)
   refine Tr.sr ?_
   refine Tr.mv rfl rfl ?_
   refine Tr.va rfl (fun _ _ h1 h2 => run_neq (h1.ev rfl) (h1.ev rfl)) ?_
   refine Tr.nil (Tr.zA ?_)
   refine Tr.cond rfl H (fun H => ?_) (fun H => ?_)
   ·refine Tr.sr ?_
    refine Tr.mv rfl rfl ?_
    refine Tr.asg rfl rfl ?_
    refine Tr.nil (Tr.zA ?_)
    refine Tr.ret (Tr.zAB (Tr.zU (Tr.zU (Tr.zAB (Tr.zU ?_)))))
    obtain rfl := Option.some.inj H
    exact Tr.out (m := [(iv y110)]) [] (zP rfl zQ) (fun W hW => ⟨rfl, hW.low leB⟩)
   ·refine Tr.skip (Tr.zW (Tr.zA ?_))
    refine Tr.region ?_
    refine Tr.va rfl (fun _ _ h1 h2 => zx (h1.ev rfl) (h1.ev rfl)) ?_
    refine Tr.mv rfl rfl ?_
    refine Tr.nil ?_
    exact Tr.zZ leL1 (restL1, (iL1 + 1)) ⟨rfl, range_tl hdL1, zo hdL1, H⟩ (.cons rfl (.cons rfl (.cons rfl (.cons rfl (.cons (congrArg (fun z => some (Value.int .i64 z)) (range_up hdL1 hp1_0.form)) .nil))))) (.cons rfl .nil)
theorem F_plot_checkSteps_ok : ∀ (N : Nat) {w : Bs} (p0 : zt) (Ap0_0 : Option Addr) (cp0_0 : Nat) (hp0_0 : Sl w.R w.W zK Ap0_0 cp0_0 p0.Tools) (Ap0_1 : Option Addr) (cp0_1 : Nat) (hp0_1 : Sl w.R w.W zG Ap0_1 cp0_1 p0.Steps) (p1 : (List zD)) (Ap1_0 : Option Addr) (cp1_0 : Nat) (hp1_0 : Sl w.R w.W zG Ap1_0 cp1_0 p1) (p2 : Int) (r : Int) (H : F_plot_checkSteps N p0 p1 p2 = some r) (hE : HF w w.W E0), Calls Tryz.prog 43 [(.agg #[(iv p0.Unit), (.slice Ap0_0 (p0.Tools).length cp0_0), (.slice Ap0_1 (p0.Steps).length cp0_1)]), (.slice Ap1_0 (p1).length cp1_0), (iv p2)].toArray w.W fun e W' => e = .returned (iv r) ∧ HF w W' E0
 | 0 => by intros; rename_i H _; cases H
 | N + 1 => F_plot_checkSteps_b_ok N (F_plot_checkSteps N) (F_plot_checkSteps_ok N)

theorem F_plot_CheckPlot_ok (N : Nat) {w : Bs} (p0 : zt) (Ap0_0 : Option Addr) (cp0_0 : Nat) (hp0_0 : Sl w.R w.W zK Ap0_0 cp0_0 p0.Tools) (Ap0_1 : Option Addr) (cp0_1 : Nat) (hp0_1 : Sl w.R w.W zG Ap0_1 cp0_1 p0.Steps) (r : Int) (H : F_plot_CheckPlot N p0 = some r) (hE : HF w w.W E0) : Calls Tryz.prog 21 [(.agg #[(iv p0.Unit), (.slice Ap0_0 (p0.Tools).length cp0_0), (.slice Ap0_1 (p0.Steps).length cp0_1)])].toArray w.W fun e W' => e = .returned (iv r) ∧ HF w W' E0 := by
 unfold F_plot_CheckPlot at H
 have leB := Bs.Le.refl w
 refine Tr.enter (n := 52) Tryz.func21 rfl rfl rfl hE ?_
 refine Tr.sr ?_
 refine Tr.box 1 (cs := [(iv p0.Unit), (.slice Ap0_0 (p0.Tools).length cp0_0), (.slice Ap0_1 (p0.Steps).length cp0_1)]) (wn rfl) rfl rfl rfl fun b100 => ?_
 refine Tr.asg rfl rfl ?_
 refine Tr.nil (Tr.zA ?_)
 refine Tr.seq ?_
 refine Tr.sr ?_
 refine Tr.va rfl (fun _ _ h1 h2 => zB fo_25_0 (h1.ev rfl)) ?_
 refine Tr.va rfl (fun _ _ h1 h2 => zC ag_3 (h1.ev rfl) (rdb h2 (vs := [(iv p0.Unit), (.slice Ap0_0 (p0.Tools).length cp0_0), (.slice Ap0_1 (p0.Steps).length cp0_1)]) (k := 1) rfl 0) rfl) ?_
 obtain ⟨y101, hy101, H⟩ := bnd H
 refine Tr.call0 (r := (.bool y101)) (wn rfl) rfl Tryz.call22 (zF rfl (zF rfl (zF rfl zO))) (fun W hW => F_plot_within_ok p0.Unit 1 1000 y101 hy101 (HF.start _)) ?_
 refine Tr.va rfl (fun _ _ h1 h2 => run_not (h1.ev rfl)) ?_
 refine Tr.nil (Tr.zA ?_)
 refine Tr.cond rfl H (fun H => ?_) (fun H => ?_)
 ·refine Tr.sr ?_
  refine Tr.asg rfl rfl ?_
  refine Tr.nil (Tr.zA ?_)
  refine Tr.ret (Tr.zU ?_)
  obtain rfl := Option.some.inj H
  exact Tr.out (m := [(iv 1)]) [] (zP rfl zQ) (fun W hW => ⟨rfl, hW.low leB⟩)
 ·refine Tr.skip (Tr.zA ?_)
  refine Tr.seq ?_
  refine Tr.sr ?_
  refine Tr.va rfl (fun _ _ h1 h2 => zB fo_25_1 (h1.ev rfl)) ?_
  refine Tr.va rfl (fun _ _ h1 h2 => zC ag_22 (h1.ev rfl) (rdb h2 (vs := [(iv p0.Unit), (.slice Ap0_0 (p0.Tools).length cp0_0), (.slice Ap0_1 (p0.Steps).length cp0_1)]) (k := 1) rfl 1) rfl) ?_
  refine Tr.va rfl (fun _ _ h1 h2 => zq un_22 (h1.ev rfl)) ?_
  refine Tr.va rfl (fun _ _ h1 h2 => run_gtr (h1.ev rfl) (h1.ev rfl)) ?_
  refine Tr.nil (Tr.zA ?_)
  refine Tr.cond rfl H (fun H => ?_) (fun H => ?_)
  ·refine Tr.sr ?_
   refine Tr.asg rfl rfl ?_
   refine Tr.nil (Tr.zA ?_)
   refine Tr.ret (Tr.zU ?_)
   obtain rfl := Option.some.inj H
   exact Tr.out (m := [(iv 2)]) [] (zP rfl zQ) (fun W hW => ⟨rfl, hW.low leB⟩)
  ·refine Tr.skip (Tr.zA ?_)
   refine Tr.seq ?_
   refine Tr.sr ?_
   refine Tr.va rfl (fun _ _ h1 h2 => zB fo_25_1 (h1.ev rfl)) ?_
   refine Tr.va rfl (fun _ _ h1 h2 => zC ag_22 (h1.ev rfl) (rdb h2 (vs := [(iv p0.Unit), (.slice Ap0_0 (p0.Tools).length cp0_0), (.slice Ap0_1 (p0.Steps).length cp0_1)]) (k := 1) rfl 1) rfl) ?_
   refine Tr.va rfl (fun _ _ h1 h2 => zq un_22 (h1.ev rfl)) ?_
   refine Tr.mv rfl rfl ?_
   refine Tr.nil (Tr.zA ?_)
   refine Tr.block ?_
   refine Tr.loop (σ := (List zS) × Nat) (fun m w s => m = s.1.length + 1 ∧ s.1 = List.drop s.2 p0.Tools ∧ s.2 ≤ p0.Tools.length ∧ F_plot_CheckPlot_L1 N p0 s.1 s.2 = some r) (fun s => [(1, (.pointer (some ⟨b100, 0, none⟩))), (15, (.slice Ap0_0 (p0.Tools).length cp0_0)), (16, (iv (p0.Tools.length : Int))), (17, (iv (s.2 : Int)))]) (fun s => [(1, bx b100 #[(iv p0.Unit), (.slice Ap0_0 (p0.Tools).length cp0_0), (.slice Ap0_1 (p0.Steps).length cp0_1)] 25)]) (p0.Tools.length + 1) (p0.Tools, 0) ⟨rfl, rfl, Nat.zero_le _, H⟩ (.cons rfl (.cons rfl (.cons rfl (.cons rfl .nil)))) (.cons rfl .nil) (fun _ _ h => absurd h.1 (by simp)) ?_
   intro w leL1 m s hs
   obtain ⟨restL1, iL1⟩ := s
   obtain ⟨hmL1, hdL1, hiL1, H⟩ := hs
   replace hdL1 : restL1 = List.drop iL1 p0.Tools := hdL1
   replace H : F_plot_CheckPlot_L1 N p0 restL1 iL1 = some r := H
   replace hmL1 : m + 1 = restL1.length + 1 := hmL1
   replace hp0_0 := hp0_0.leR leL1
   replace hp0_1 := hp0_1.leR leL1
   replace leB := leB.trans leL1
   obtain rfl : m = restL1.length := by omega
   clear hmL1
   show Tr _ _ (LF [(1, (.pointer (some ⟨b100, 0, none⟩))), (15, (.slice Ap0_0 (p0.Tools).length cp0_0)), (16, (iv (p0.Tools.length : Int))), (17, (iv (iL1 : Int)))]) (LE [(1, bx b100 #[(iv p0.Unit), (.slice Ap0_0 (p0.Tools).length cp0_0), (.slice Ap0_1 (p0.Steps).length cp0_1)] 25)]) _
   cases restL1 with
   | nil =>
    rw [F_plot_CheckPlot_L1.eq_1] at H
    refine Tr.sr ?_
    refine Tr.va rfl (fun _ _ h1 h2 => zz (h1.ev rfl) (h1.ev rfl)) ?_
    refine Tr.nil (Tr.zA ?_)
    refine Tr.seq ?_
    refine Tr.condF rfl (range_nil hdL1) ?_
    refine Tr.exit (Tr.zX (Tr.zX (Tr.zAC (Tr.zA ?_))))
    refine Tr.seq ?_
    refine Tr.sr ?_
    refine Tr.va rfl (fun _ _ h1 h2 => zB fo_25_2 (h1.ev rfl)) ?_
    refine Tr.va rfl (fun _ _ h1 h2 => zC ag_23 (h1.ev rfl) (rdb h2 (vs := [(iv p0.Unit), (.slice Ap0_0 (p0.Tools).length cp0_0), (.slice Ap0_1 (p0.Steps).length cp0_1)]) (k := 1) rfl 2) rfl) ?_
    obtain ⟨y112, hy112, H⟩ := bnd H
    refine Tr.call0 (r := (iv y112)) (wn rfl) rfl Tryz.call42 (zF rfl zO) (fun W hW => F_plot_count_ok N p0.Steps Ap0_1 cp0_1 (hp0_1.ext hW.extAll) y112 hy112 (HF.start _)) ?_
    refine Tr.va rfl (fun _ _ h1 h2 => run_gtr (h1.ev rfl) (h1.ev rfl)) ?_
    refine Tr.nil (Tr.zA ?_)
    refine Tr.cond rfl H (fun H => ?_) (fun H => ?_)
    ·refine Tr.sr ?_
     refine Tr.asg rfl rfl ?_
     refine Tr.nil (Tr.zA ?_)
     refine Tr.ret (Tr.zU ?_)
     obtain rfl := Option.some.inj H
     exact Tr.out (m := [(iv 2)]) [] (zP rfl zQ) (fun W hW => ⟨rfl, hW.low leB⟩)
    ·refine Tr.skip (Tr.zA ?_)
     refine Tr.sr ?_
     refine Tr.va rfl (fun _ _ h1 h2 => zR (cs := [(iv p0.Unit), (.slice Ap0_0 (p0.Tools).length cp0_0), (.slice Ap0_1 (p0.Steps).length cp0_1)]) ag_25 sz_25 (h1.ev rfl) (zL.take (rdb h2 (vs := [(iv p0.Unit), (.slice Ap0_0 (p0.Tools).length cp0_0), (.slice Ap0_1 (p0.Steps).length cp0_1)]) (k := 1) rfl 0) 3) rfl) ?_
     refine Tr.va rfl (fun _ _ h1 h2 => zB fo_25_2 (h1.ev rfl)) ?_
     refine Tr.va rfl (fun _ _ h1 h2 => zC ag_23 (h1.ev rfl) (rdb h2 (vs := [(iv p0.Unit), (.slice Ap0_0 (p0.Tools).length cp0_0), (.slice Ap0_1 (p0.Steps).length cp0_1)]) (k := 1) rfl 2) rfl) ?_
     obtain ⟨y113, hy113, H⟩ := bnd H
     refine Tr.call0 (r := (iv y113)) (wn rfl) rfl Tryz.call43 (zF rfl (zF rfl (zF rfl zO))) (fun W hW => F_plot_checkSteps_ok N p0 Ap0_0 cp0_0 (hp0_0.ext hW.extAll) Ap0_1 cp0_1 (hp0_1.ext hW.extAll) p0.Steps Ap0_1 cp0_1 (hp0_1.ext hW.extAll) 0 y113 hy113 (HF.start _)) ?_
     refine Tr.asg rfl rfl ?_
     refine Tr.nil (Tr.zA ?_)
     refine Tr.ret ?_
     obtain rfl := Option.some.inj H
     exact Tr.out (m := [(iv y113)]) [] (zP rfl zQ) (fun W hW => ⟨rfl, hW.low leB⟩)
   | cons xL1 restL1 =>
    rw [F_plot_CheckPlot_L1.eq_2] at H
    refine Tr.sr ?_
    refine Tr.va rfl (fun _ _ h1 h2 => zz (h1.ev rfl) (h1.ev rfl)) ?_
    refine Tr.nil (Tr.zA ?_)
    refine Tr.seq ?_
    refine Tr.condT rfl (range_on hdL1) ?_
    refine Tr.skip (Tr.zA ?_)
    refine Tr.seq ?_
    refine Tr.block ?_
    refine Tr.sr ?_
    refine Tr.mv rfl rfl ?_
    obtain ⟨u114, hRu114, hoku114, hcu114⟩ := (hp0_0).el (range_at hdL1)
    obtain ⟨Au114_0, cu114_0⟩ := u114
    have hoku114_0 := hoku114
    replace hoku114_0 : Sl w.R w.W zN Au114_0 cu114_0 xL1.Rects := hoku114_0
    refine Tr.va rfl (fun _ _ h1 h2 => zH el_22 (h1.ev rfl) hp0_0.form (h1.ev rfl) (Int.natCast_nonneg _) (zo hdL1)) ?_
    refine Tr.va rfl (fun _ _ h1 h2 => zR (cs := [(sv xL1.Name), (.slice Au114_0 (xL1.Rects).length cu114_0)]) ag_64 sz_64 (h1.ev rfl) (zL.take (rdR hRu114 hcu114 h2) 2) rfl) ?_
    refine Tr.alloc 3 (wn rfl) rfl ze_64 fun b115 => ?_
    refine Tr.asg rfl rfl ?_
    refine Tr.store 3 (cs := [(sv xL1.Name), (.slice Au114_0 (xL1.Rects).length cu114_0)]) [(sv xL1.Name), (.slice Au114_0 (xL1.Rects).length cu114_0)] (wn rfl) rfl rfl rfl rfl sz_64 rfl rfl rfl ?_
    refine Tr.nil (Tr.zA ?_)
    refine Tr.seq ?_
    refine Tr.sr ?_
    refine Tr.va rfl (fun _ _ h1 h2 => zR (cs := [(sv xL1.Name), (.slice Au114_0 (xL1.Rects).length cu114_0)]) ag_64 sz_64 (h1.ev rfl) (zL.take (rdb h2 (vs := [(sv xL1.Name), (.slice Au114_0 (xL1.Rects).length cu114_0)]) (k := 3) rfl 0) 2) rfl) ?_
    refine Tr.va rfl (fun _ _ h1 h2 => zB fo_25_0 (h1.ev rfl)) ?_
    refine Tr.va rfl (fun _ _ h1 h2 => zC ag_3 (h1.ev rfl) (rdb h2 (vs := [(iv p0.Unit), (.slice Ap0_0 (p0.Tools).length cp0_0), (.slice Ap0_1 (p0.Steps).length cp0_1)]) (k := 1) rfl 0) rfl) ?_
    obtain ⟨y116, hy116, H⟩ := bnd H
    refine Tr.call0 (r := (iv y116)) (wn rfl) rfl Tryz.call41 (zF rfl (zF rfl zO)) (fun W hW => F_plot_checkTool_ok N xL1 Au114_0 cu114_0 (hoku114_0.ext hW.extAll) p0.Unit y116 hy116 (HF.start _)) ?_
    refine Tr.asg rfl rfl ?_
    refine Tr.nil (Tr.zA ?_)
    refine Tr.sr ?_
    refine Tr.mv rfl rfl ?_
    refine Tr.va rfl (fun _ _ h1 h2 => run_neq (h1.ev rfl) (h1.ev rfl)) ?_
    refine Tr.nil (Tr.zA ?_)
    refine Tr.cond rfl H (fun H => ?_) (fun H => ?_)
    ·refine Tr.sr ?_
     refine Tr.mv rfl rfl ?_
     refine Tr.asg rfl rfl ?_
     refine Tr.nil (Tr.zA ?_)
     refine Tr.ret (Tr.zU (Tr.zAB (Tr.zU (Tr.zU (Tr.zAB (Tr.zU ?_))))))
     obtain rfl := Option.some.inj H
     exact Tr.out (m := [(iv y116)]) [] (zP rfl zQ) (fun W hW => ⟨rfl, hW.low leB⟩)
    ·refine Tr.skip (Tr.zA ?_)
     refine Tr.seq ?_
     refine Tr.draw (by kernel_rfl) (by kernel_rfl) ?_
     refine Tq.mv rfl rfl ?_
     refine Tq.va rfl (fun _ _ h1 h2 => run_gtr (h1.ev rfl) (h1.ev rfl)) ?_
     refine Tq.mv rfl rfl ?_
     obtain ⟨g119, hg119, H⟩ := bnd H
     refine Tq.mid 11 [(1, (.pointer (some ⟨b100, 0, none⟩))), (15, (.slice Ap0_0 (p0.Tools).length cp0_0)), (16, (iv (p0.Tools.length : Int))), (17, (iv (iL1 : Int))), (42, (.bool g119))] ?_ ?_
     ·cases hg121 : (decide (0 < (iL1 : Int)))
      ·rw [hg121] at hg119
       rw [if_neg (by decide)] at hg119
       have H := hg119
       obtain rfl := Option.some.inj H
       refine Tq.pass rfl rfl rfl rfl rfl (by decide) ?_
       refine Tq.pass rfl rfl rfl rfl rfl (by decide) ?_
       refine Tq.pass rfl rfl rfl rfl rfl (by decide) ?_
       refine Tq.pass rfl rfl rfl rfl rfl (by decide) ?_
       refine Tq.pass rfl rfl rfl rfl rfl (by decide) ?_
       refine Tq.pass rfl rfl rfl rfl rfl (by decide) ?_
       refine Tq.pass rfl rfl rfl rfl rfl (by decide) ?_
       refine Tq.pass rfl rfl rfl rfl rfl (by decide) ?_
       refine Tq.pass rfl rfl rfl rfl rfl (by decide) ?_
       refine Tq.pass rfl rfl rfl rfl rfl (by decide) ?_
       refine Tq.va rfl (fun _ _ h1 h2 => zf (h1.ev rfl) (h1.ev rfl)) ?_
       exact Tq.fin (.cons rfl (.cons rfl (.cons rfl (.cons rfl (.cons rfl .nil)))))
      ·rw [hg121] at hg119
       rw [if_pos rfl] at hg119
       have H := hg119
       refine Tq.val (wg rfl rfl rfl) rfl (fun _ _ h1 h2 => zB fo_64_0 (h1.ev rfl)) ?_
       refine Tq.val (wg rfl rfl rfl) rfl (fun _ _ h1 h2 => zC ag_9 (h1.ev rfl) (rdb h2 (vs := [(sv xL1.Name), (.slice Au114_0 (xL1.Rects).length cu114_0)]) (k := 3) rfl 0) rfl) ?_
       refine Tq.val (wg rfl rfl rfl) rfl (fun _ _ h1 h2 => zB fo_25_1 (h1.ev rfl)) ?_
       refine Tq.val (wg rfl rfl rfl) rfl (fun _ _ h1 h2 => zC ag_22 (h1.ev rfl) (rdb h2 (vs := [(iv p0.Unit), (.slice Ap0_0 (p0.Tools).length cp0_0), (.slice Ap0_1 (p0.Steps).length cp0_1)]) (k := 1) rfl 1) rfl) ?_
       refine Tq.val (wg rfl rfl rfl) rfl (fun _ _ h1 h2 => run_move (h1.ev rfl)) ?_
       refine Tq.val (wg rfl rfl rfl) rfl (fun _ _ h1 h2 => run_sub (h1.ev rfl) (h1.ev rfl)) ?_
       obtain ⟨x120, hx120, H⟩ := bnd H
       obtain ⟨hx1200, hx1201, hx1202⟩ := zh hx120
       obtain ⟨u121, hRu121, hoku121, hcu121⟩ := (hp0_0).el hx1202
       obtain ⟨Au121_0, cu121_0⟩ := u121
       have hoku121_0 := hoku121
       replace hoku121_0 : Sl w.R w.W zN Au121_0 cu121_0 x120.Rects := hoku121_0
       refine Tq.val (wg rfl rfl rfl) rfl (fun _ _ h1 h2 => zH el_22 (h1.ev rfl) hp0_0.form (h1.ev rfl) hx1200 hx1201) ?_
       refine Tq.val (wg rfl rfl rfl) rfl (fun _ _ h1 h2 => zB fo_64_0 (h1.ev rfl)) ?_
       refine Tq.val (wg rfl rfl rfl) rfl (fun _ _ h1 h2 => zC ag_9 (h1.ev rfl) (zL.drop (rdR hRu121 hcu121 h2) 0) rfl) ?_
       refine Tq.val (wg rfl rfl rfl) rfl (fun _ _ h1 h2 => run_leqS (h1.ev rfl) (h1.ev rfl)) ?_
       refine Tq.va rfl (fun _ _ h1 h2 => ze (h1.ev rfl) (h1.ev rfl)) ?_
       obtain rfl := Option.some.inj H
       exact Tq.fin (.cons rfl (.cons rfl (.cons rfl (.cons rfl (.cons rfl .nil)))))
     ·refine Tq.nil (Tr.zA ?_)
      refine Tr.cond rfl H (fun H => ?_) (fun H => ?_)
      ·refine Tr.sr ?_
       refine Tr.asg rfl rfl ?_
       refine Tr.nil (Tr.zA ?_)
       refine Tr.ret (Tr.zAB (Tr.zU (Tr.zU (Tr.zAB (Tr.zU ?_)))))
       obtain rfl := Option.some.inj H
       exact Tr.out (m := [(iv 8)]) [] (zP rfl zQ) (fun W hW => ⟨rfl, hW.low leB⟩)
      ·refine Tr.skip (Tr.zW (Tr.zA ?_))
       refine Tr.region ?_
       refine Tr.va rfl (fun _ _ h1 h2 => zx (h1.ev rfl) (h1.ev rfl)) ?_
       refine Tr.mv rfl rfl ?_
       refine Tr.nil ?_
       exact Tr.zZ leL1 (restL1, (iL1 + 1)) ⟨rfl, range_tl hdL1, zo hdL1, H⟩ (.cons rfl (.cons rfl (.cons rfl (.cons (congrArg (fun z => some (Value.int .i64 z)) (range_up hdL1 hp0_0.form)) .nil)))) (.cons rfl .nil)

theorem F_plot_scaled_1_ok {w : Bs} (p0 : Int) (q0 : Bool) (bq0 : Nat) (q1 : zt) (Aq1_0 : Option Addr) (cq1_0 : Nat) (hq1_0 : Sl w.R w.W zK Aq1_0 cq1_0 q1.Tools) (Aq1_1 : Option Addr) (cq1_1 : Nat) (hq1_1 : Sl w.R w.W zG Aq1_1 cq1_1 q1.Steps) (bq1 : Nat) (hb1 : w.R bq1) (hc1 : zL w.W bq1 0 [(iv q1.Unit), (.slice Aq1_0 (q1.Tools).length cq1_0), (.slice Aq1_1 (q1.Steps).length cq1_1)]) (q2 : Int) (bq2 : Nat) (hb2 : w.R bq2) (hc2 : zL w.W bq2 0 [(iv q2)]) (r : (Int × Bool)) (H : F_plot_scaled_1 p0 q0 q1 q2 = some r) (hE : HF w w.W (LEn [bx bq0 #[(.bool q0)] 4])) : Calls Tryz.prog 44 [(iv p0), (.pointer (some ⟨bq0, 0, none⟩)), (.pointer (some ⟨bq1, 0, none⟩)), (.pointer (some ⟨bq2, 0, none⟩))].toArray w.W fun e W' => ∃ u : Unit, e = .returned (iv r.1) ∧ (True) ∧ HF w W' (LEn [bx bq0 #[(.bool r.2)] 4]) := by
 unfold F_plot_scaled_1 at H
 have leB := Bs.Le.refl w
 refine Tr.enter (n := 22) Tryz.func44 rfl rfl rfl hE ?_
 refine Tr.sr ?_
 refine Tr.asg rfl rfl ?_
 refine Tr.nil (Tr.zA ?_)
 refine Tr.sr ?_
 refine Tr.va rfl (fun _ _ h1 h2 => zC ag_4 (h1.ev rfl) (rdb h2 (vs := [(.bool q0)]) (k := 0) rfl 0) rfl) ?_
 refine Tr.mv rfl rfl ?_
 obtain ⟨g101, hg101, H⟩ := bnd H
 refine Tr.mid0 8 [(0, (iv p0)), (1, (.pointer (some ⟨bq0, 0, none⟩))), (2, (.pointer (some ⟨bq1, 0, none⟩))), (3, (.pointer (some ⟨bq2, 0, none⟩))), (15, (.bool g101))] [(0, bx bq0 #[(.bool q0)] 4)] ?_ ?_
 ·cases hg103 : q0
  ·rw [hg103] at hg101
   rw [if_neg (by decide)] at hg101
   have H := hg101
   obtain rfl := Option.some.inj H
   refine Tr.pass rfl rfl rfl rfl rfl (by decide) ?_
   refine Tr.pass rfl rfl rfl rfl rfl (by decide) ?_
   refine Tr.pass rfl rfl rfl rfl rfl (by decide) ?_
   refine Tr.pass rfl rfl rfl rfl rfl (by decide) ?_
   refine Tr.pass rfl rfl rfl rfl rfl (by decide) ?_
   refine Tr.pass rfl rfl rfl rfl rfl (by decide) ?_
   refine Tr.pass rfl rfl rfl rfl rfl (by decide) ?_
   refine Tr.va rfl (fun _ _ h1 h2 => zf (h1.ev rfl) (h1.ev rfl)) ?_
   exact Tr.nil (Tr.fin0 (.cons rfl (.cons rfl (.cons rfl (.cons rfl (.cons rfl .nil))))) (.cons rfl .nil))
  ·rw [hg103] at hg101
   rw [if_pos rfl] at hg101
   have H := hg101
   refine Tr.val (wg rfl rfl rfl) rfl (fun _ _ h1 h2 => run_move (h1.ev rfl)) ?_
   refine Tr.val (wg rfl rfl rfl) rfl (fun _ _ h1 h2 => zB fo_25_0 (h1.ev rfl)) ?_
   refine Tr.val (wg rfl rfl rfl) rfl (fun _ _ h1 h2 => zC ag_3 (h1.ev rfl) (zL.drop (rdR hb1 hc1 h2) 0) rfl) ?_
   refine Tr.val (wg rfl rfl rfl) rfl (fun _ _ h1 h2 => run_mul (h1.ev rfl) (h1.ev rfl)) ?_
   refine Tr.val (wg rfl rfl rfl) rfl (fun _ _ h1 h2 => zC ag_3 (h1.ev rfl) (rdR hb2 hc2 h2) rfl) ?_
   obtain ⟨q102, hq102, H⟩ := bnd H
   refine Tr.val (wg rfl rfl rfl) rfl (fun _ _ h1 h2 => run_md (h1.ev rfl) (h1.ev rfl) hq102) ?_
   refine Tr.val (wg rfl rfl rfl) rfl (fun _ _ h1 h2 => run_eql (h1.ev rfl) (h1.ev rfl)) ?_
   refine Tr.va rfl (fun _ _ h1 h2 => ze (h1.ev rfl) (h1.ev rfl)) ?_
   obtain rfl := Option.some.inj H
   exact Tr.nil (Tr.fin0 (.cons rfl (.cons rfl (.cons rfl (.cons rfl (.cons rfl .nil))))) (.cons rfl .nil))
 ·show Tr _ _ (LF [(0, (iv p0)), (1, (.pointer (some ⟨bq0, 0, none⟩))), (2, (.pointer (some ⟨bq1, 0, none⟩))), (3, (.pointer (some ⟨bq2, 0, none⟩))), (15, (.bool g101))]) (LE [(0, bx bq0 #[(.bool q0)] 4)]) _
  refine Tr.store 0 (cs := [(.bool g101)]) [(.bool g101)] (wn rfl) rfl rfl rfl rfl sz_4 rfl rfl rfl ?_
  refine Tr.nil (Tr.zA ?_)
  refine Tr.sr ?_
  refine Tr.mv rfl rfl ?_
  refine Tr.va rfl (fun _ _ h1 h2 => zB fo_25_0 (h1.ev rfl)) ?_
  refine Tr.va rfl (fun _ _ h1 h2 => zC ag_3 (h1.ev rfl) (zL.drop (rdR hb1 hc1 h2) 0) rfl) ?_
  refine Tr.va rfl (fun _ _ h1 h2 => run_mul (h1.ev rfl) (h1.ev rfl)) ?_
  refine Tr.va rfl (fun _ _ h1 h2 => zC ag_3 (h1.ev rfl) (rdR hb2 hc2 h2) rfl) ?_
  obtain ⟨q103, hq103, H⟩ := bnd H
  refine Tr.va rfl (fun _ _ h1 h2 => run_dv (h1.ev rfl) (h1.ev rfl) hq103) ?_
  refine Tr.asg rfl rfl ?_
  refine Tr.nil (Tr.zA ?_)
  refine Tr.ret ?_
  obtain rfl := Option.some.inj H
  exact Tr.out (m := [(iv q103)]) [] (zP rfl zQ) (fun W hW => ⟨(), rfl, trivial, HF.lowE leB (hW.pick (ks := [0]) (by decide) (zM rfl zY)) ⟨bx_any _ _ _, trivial⟩⟩)

theorem F_slices_Clone_PlotTool_ok {w : Bs} (p0 : (List zS)) (Ap0_0 : Option Addr) (cp0_0 : Nat) (hp0_0 : Sl w.O w.W zK Ap0_0 cp0_0 p0) (r : (List zS)) (H : F_slices_Clone_PlotTool p0 = some r) (hE : HF w w.W (LEn [emp])) : Calls Tryz.prog 92 [(.slice Ap0_0 (p0).length cp0_0)].toArray w.W fun e W' => ∃ (w' : Bs) (u : (Option Addr × Nat)), w.Le w' ∧ e = .returned (.slice u.1 (r).length u.2) ∧ (SlF u.1 (r).length u.2) ∧ HF w' W' (LEn [ow u.1 u.2 64 zK r]) := by
 unfold F_slices_Clone_PlotTool at H
 have leB := Bs.Le.refl w
 refine Tr.enter (n := 8) Tryz.func92 rfl rfl rfl hE ?_
 refine Tr.sr ?_
 refine Tr.asg rfl rfl ?_
 refine Tr.nilOwn 1 64 zK ?_
 show Tr _ _ (uf _ 2 (.slice none (([] : List zS)).length 0)) _ _
 refine Tr.nil (Tr.zA ?_)
 refine Tr.seq ?_
 refine Tr.sr ?_
 refine Tr.mv rfl rfl ?_
 refine Tr.va rfl (fun _ _ h1 h2 => run_eqlNil un_22 (h1.ev rfl) (h1.ev rfl)) ?_
 refine Tr.nil (Tr.zA ?_)
 cases Ap0_0 with
 | none =>
  have hl0 := slf_none hp0_0.form
  replace H : (some ([] : List zS)) = some r := by simpa [apd, hl0] using H
  refine Tr.condT rfl rfl ?_
  refine Tr.sr ?_
  refine Tr.asg rfl rfl ?_
  refine Tr.nilOwn 2 64 zK ?_
  show Tr _ _ (uf _ 2 (.slice none (([] : List zS)).length 0)) _ _
  refine Tr.nil (Tr.zA ?_)
  refine Tr.ret (Tr.zU ?_)
  obtain rfl := Option.some.inj H
  exact Tr.out (m := [(.slice none (([] : List zS)).length 0)]) [] (zP rfl zQ) (fun W hW => ⟨w, (none, 0), leB, rfl, slf_nil, hW.pick (ks := [2]) (by decide) (zM rfl zY)⟩)
 | some a102 =>
  refine Tr.condF rfl rfl ?_
  refine Tr.skip (Tr.zA ?_)
  refine Tr.sr ?_
  refine Tr.buildSlice 3 (e := 64) (vs := []) (cs := []) (wn rfl) rfl evs_nil (by kernel_rfl) fun b100 => ?_
  refine Tr.mv rfl rfl ?_
  refine Tr.own 3 zK ([] : List zS) (css := []) rfl .nil rfl (by decide) (lit_max rfl) ?_
  obtain ⟨l101, hl101, H⟩ := bnd H
  refine Tr.appendS 3 (t := zK) (l := ([] : List zS)) (l2 := p0) (wn rfl) rfl rfl rfl rfl (apO hp0_0) un_22 sz_64 zl_64 (by decide) by_64 rfl hl101 fun Al101 cl101 hAl101 => ?_
  refine Tr.asg rfl rfl ?_
  refine Tr.nil (Tr.zA ?_)
  refine Tr.ret ?_
  obtain rfl := Option.some.inj H
  exact Tr.out (m := [(.slice Al101 (l101).length cl101)]) [] (zP rfl zQ) (fun W hW => ⟨w, (Al101, cl101), leB, rfl, hAl101, hW.pick (ks := [3]) (by decide) (zM rfl zY)⟩)

theorem F_slices_Clone_Rect_ok {w : Bs} (p0 : (List zT)) (Ap0_0 : Option Addr) (cp0_0 : Nat) (hp0_0 : Sl w.R w.W zN Ap0_0 cp0_0 p0) (r : (List zT)) (H : F_slices_Clone_Rect p0 = some r) (hE : HF w w.W (LEn [emp])) : Calls Tryz.prog 80 [(.slice Ap0_0 (p0).length cp0_0)].toArray w.W fun e W' => ∃ u : (Option Addr × Nat), e = .returned (.slice u.1 (r).length u.2) ∧ (SlF u.1 (r).length u.2) ∧ HF w W' (LEn [ow u.1 u.2 36 zN r]) := by
 unfold F_slices_Clone_Rect at H
 have leB := Bs.Le.refl w
 refine Tr.enter (n := 8) Tryz.func80 rfl rfl rfl hE ?_
 refine Tr.sr ?_
 refine Tr.asg rfl rfl ?_
 refine Tr.nilOwn 1 36 zN ?_
 show Tr _ _ (uf _ 2 (.slice none (([] : List zT)).length 0)) _ _
 refine Tr.nil (Tr.zA ?_)
 refine Tr.seq ?_
 refine Tr.sr ?_
 refine Tr.mv rfl rfl ?_
 refine Tr.va rfl (fun _ _ h1 h2 => run_eqlNil un_31 (h1.ev rfl) (h1.ev rfl)) ?_
 refine Tr.nil (Tr.zA ?_)
 cases Ap0_0 with
 | none =>
  have hl0 := slf_none hp0_0.form
  replace H : (some ([] : List zT)) = some r := by simpa [apd, hl0] using H
  refine Tr.condT rfl rfl ?_
  refine Tr.sr ?_
  refine Tr.asg rfl rfl ?_
  refine Tr.nilOwn 2 36 zN ?_
  show Tr _ _ (uf _ 2 (.slice none (([] : List zT)).length 0)) _ _
  refine Tr.nil (Tr.zA ?_)
  refine Tr.ret (Tr.zU ?_)
  obtain rfl := Option.some.inj H
  exact Tr.out (m := [(.slice none (([] : List zT)).length 0)]) [] (zP rfl zQ) (fun W hW => ⟨(none, 0), rfl, slf_nil, HF.lowE leB (hW.pick (ks := [2]) (by decide) (zM rfl zY)) ⟨ow_any _ _ _ _ tr_TRect, trivial⟩⟩)
 | some a102 =>
  refine Tr.condF rfl rfl ?_
  refine Tr.skip (Tr.zA ?_)
  refine Tr.sr ?_
  refine Tr.buildSlice 3 (e := 36) (vs := []) (cs := []) (wn rfl) rfl evs_nil (by kernel_rfl) fun b100 => ?_
  refine Tr.mv rfl rfl ?_
  refine Tr.own 3 zN ([] : List zT) (css := []) rfl .nil rfl (by decide) (lit_max rfl) ?_
  obtain ⟨l101, hl101, H⟩ := bnd H
  refine Tr.appendS 3 (t := zN) (l := ([] : List zT)) (l2 := p0) (wn rfl) rfl rfl rfl rfl (apT tr_TRect (fun W hW => (Sl.inB hp0_0 hW))) un_31 sz_36 zl_36 (by decide) by_36 rfl hl101 fun Al101 cl101 hAl101 => ?_
  refine Tr.asg rfl rfl ?_
  refine Tr.nil (Tr.zA ?_)
  refine Tr.ret ?_
  obtain rfl := Option.some.inj H
  exact Tr.out (m := [(.slice Al101 (l101).length cl101)]) [] (zP rfl zQ) (fun W hW => ⟨(Al101, cl101), rfl, hAl101, HF.lowE leB (hW.pick (ks := [3]) (by decide) (zM rfl zY)) ⟨ow_any _ _ _ _ tr_TRect, trivial⟩⟩)

theorem F_slices_Clone_PlotStep_ok {w : Bs} (p0 : (List zD)) (Ap0_0 : Option Addr) (cp0_0 : Nat) (hp0_0 : Sl w.O w.W zG Ap0_0 cp0_0 p0) (r : (List zD)) (H : F_slices_Clone_PlotStep p0 = some r) (hE : HF w w.W (LEn [emp])) : Calls Tryz.prog 14 [(.slice Ap0_0 (p0).length cp0_0)].toArray w.W fun e W' => ∃ (w' : Bs) (u : (Option Addr × Nat)), w.Le w' ∧ e = .returned (.slice u.1 (r).length u.2) ∧ (SlF u.1 (r).length u.2) ∧ HF w' W' (LEn [ow u.1 u.2 46 zG r]) := by
 unfold F_slices_Clone_PlotStep at H
 have leB := Bs.Le.refl w
 refine Tr.enter (n := 8) Tryz.func14 rfl rfl rfl hE ?_
 refine Tr.sr ?_
 refine Tr.asg rfl rfl ?_
 refine Tr.nilOwn 1 46 zG ?_
 show Tr _ _ (uf _ 2 (.slice none (([] : List zD)).length 0)) _ _
 refine Tr.nil (Tr.zA ?_)
 refine Tr.seq ?_
 refine Tr.sr ?_
 refine Tr.mv rfl rfl ?_
 refine Tr.va rfl (fun _ _ h1 h2 => run_eqlNil un_23 (h1.ev rfl) (h1.ev rfl)) ?_
 refine Tr.nil (Tr.zA ?_)
 cases Ap0_0 with
 | none =>
  have hl0 := slf_none hp0_0.form
  replace H : (some ([] : List zD)) = some r := by simpa [apd, hl0] using H
  refine Tr.condT rfl rfl ?_
  refine Tr.sr ?_
  refine Tr.asg rfl rfl ?_
  refine Tr.nilOwn 2 46 zG ?_
  show Tr _ _ (uf _ 2 (.slice none (([] : List zD)).length 0)) _ _
  refine Tr.nil (Tr.zA ?_)
  refine Tr.ret (Tr.zU ?_)
  obtain rfl := Option.some.inj H
  exact Tr.out (m := [(.slice none (([] : List zD)).length 0)]) [] (zP rfl zQ) (fun W hW => ⟨w, (none, 0), leB, rfl, slf_nil, hW.pick (ks := [2]) (by decide) (zM rfl zY)⟩)
 | some a102 =>
  refine Tr.condF rfl rfl ?_
  refine Tr.skip (Tr.zA ?_)
  refine Tr.sr ?_
  refine Tr.buildSlice 3 (e := 46) (vs := []) (cs := []) (wn rfl) rfl evs_nil (by kernel_rfl) fun b100 => ?_
  refine Tr.mv rfl rfl ?_
  refine Tr.own 3 zG ([] : List zD) (css := []) rfl .nil rfl (by decide) (lit_max rfl) ?_
  obtain ⟨l101, hl101, H⟩ := bnd H
  refine Tr.appendS 3 (t := zG) (l := ([] : List zD)) (l2 := p0) (wn rfl) rfl rfl rfl rfl (apO hp0_0) un_23 sz_46 zl_46 (by decide) by_46 rfl hl101 fun Al101 cl101 hAl101 => ?_
  refine Tr.asg rfl rfl ?_
  refine Tr.nil (Tr.zA ?_)
  refine Tr.ret ?_
  obtain rfl := Option.some.inj H
  exact Tr.out (m := [(.slice Al101 (l101).length cl101)]) [] (zP rfl zQ) (fun W hW => ⟨w, (Al101, cl101), leB, rfl, hAl101, hW.pick (ks := [3]) (by decide) (zM rfl zY)⟩)

theorem F_slices_Clone_Point_ok {w : Bs} (p0 : (List zI)) (Ap0_0 : Option Addr) (cp0_0 : Nat) (hp0_0 : Sl w.R w.W zy Ap0_0 cp0_0 p0) (r : (List zI)) (H : F_slices_Clone_Point p0 = some r) (hE : HF w w.W (LEn [emp])) : Calls Tryz.prog 57 [(.slice Ap0_0 (p0).length cp0_0)].toArray w.W fun e W' => ∃ u : (Option Addr × Nat), e = .returned (.slice u.1 (r).length u.2) ∧ (SlF u.1 (r).length u.2) ∧ HF w W' (LEn [ow u.1 u.2 43 zy r]) := by
 unfold F_slices_Clone_Point at H
 have leB := Bs.Le.refl w
 refine Tr.enter (n := 8) Tryz.func57 rfl rfl rfl hE ?_
 refine Tr.sr ?_
 refine Tr.asg rfl rfl ?_
 refine Tr.nilOwn 1 43 zy ?_
 show Tr _ _ (uf _ 2 (.slice none (([] : List zI)).length 0)) _ _
 refine Tr.nil (Tr.zA ?_)
 refine Tr.seq ?_
 refine Tr.sr ?_
 refine Tr.mv rfl rfl ?_
 refine Tr.va rfl (fun _ _ h1 h2 => run_eqlNil un_44 (h1.ev rfl) (h1.ev rfl)) ?_
 refine Tr.nil (Tr.zA ?_)
 cases Ap0_0 with
 | none =>
  have hl0 := slf_none hp0_0.form
  replace H : (some ([] : List zI)) = some r := by simpa [apd, hl0] using H
  refine Tr.condT rfl rfl ?_
  refine Tr.sr ?_
  refine Tr.asg rfl rfl ?_
  refine Tr.nilOwn 2 43 zy ?_
  show Tr _ _ (uf _ 2 (.slice none (([] : List zI)).length 0)) _ _
  refine Tr.nil (Tr.zA ?_)
  refine Tr.ret (Tr.zU ?_)
  obtain rfl := Option.some.inj H
  exact Tr.out (m := [(.slice none (([] : List zI)).length 0)]) [] (zP rfl zQ) (fun W hW => ⟨(none, 0), rfl, slf_nil, HF.lowE leB (hW.pick (ks := [2]) (by decide) (zM rfl zY)) ⟨ow_any _ _ _ _ tr_TPoint, trivial⟩⟩)
 | some a102 =>
  refine Tr.condF rfl rfl ?_
  refine Tr.skip (Tr.zA ?_)
  refine Tr.sr ?_
  refine Tr.buildSlice 3 (e := 43) (vs := []) (cs := []) (wn rfl) rfl evs_nil (by kernel_rfl) fun b100 => ?_
  refine Tr.mv rfl rfl ?_
  refine Tr.own 3 zy ([] : List zI) (css := []) rfl .nil rfl (by decide) (lit_max rfl) ?_
  obtain ⟨l101, hl101, H⟩ := bnd H
  refine Tr.appendS 3 (t := zy) (l := ([] : List zI)) (l2 := p0) (wn rfl) rfl rfl rfl rfl (apT tr_TPoint (fun W hW => (Sl.inB hp0_0 hW))) un_44 sz_43 zl_43 (by decide) by_43 rfl hl101 fun Al101 cl101 hAl101 => ?_
  refine Tr.asg rfl rfl ?_
  refine Tr.nil (Tr.zA ?_)
  refine Tr.ret ?_
  obtain rfl := Option.some.inj H
  exact Tr.out (m := [(.slice Al101 (l101).length cl101)]) [] (zP rfl zQ) (fun W hW => ⟨(Al101, cl101), rfl, hAl101, HF.lowE leB (hW.pick (ks := [3]) (by decide) (zM rfl zY)) ⟨ow_any _ _ _ _ tr_TPoint, trivial⟩⟩)

theorem F_plot_changed_2__scaled_1_ok {w : Bs} (p0 : zT) (bq0 : Nat) (q1 : Bool) (bq1 : Nat) (q2 : zt) (Aq2_0 : Option Addr) (cq2_0 : Nat) (hq2_0 : Sl w.R w.W zK Aq2_0 cq2_0 q2.Tools) (Aq2_1 : Option Addr) (cq2_1 : Nat) (hq2_1 : Sl w.R w.W zG Aq2_1 cq2_1 q2.Steps) (bq2 : Nat) (hb2 : w.R bq2) (hc2 : zL w.W bq2 0 [(iv q2.Unit), (.slice Aq2_0 (q2.Tools).length cq2_0), (.slice Aq2_1 (q2.Steps).length cq2_1)]) (q3 : Int) (bq3 : Nat) (hb3 : w.R bq3) (hc3 : zL w.W bq3 0 [(iv q3)]) (hb0 : w.R bq0) (hc0 : zL w.W bq0 0 [(.func (.func 44) #[] #[(.pointer (some ⟨bq1, 0, none⟩)), (.pointer (some ⟨bq2, 0, none⟩)), (.pointer (some ⟨bq3, 0, none⟩))])]) (r : (zT × Bool)) (H : F_plot_changed_2__scaled_1 p0 q1 q2 q3 = some r) (hE : HF w w.W (LEn [bx bq1 #[(.bool q1)] 4])) : Calls Tryz.prog 67 [(.agg #[(iv p0.X0), (iv p0.Y0), (iv p0.X1), (iv p0.Y1)]), (.pointer (some ⟨bq0, 0, none⟩))].toArray w.W fun e W' => ∃ u : Unit, e = .returned (.agg #[(iv r.1.X0), (iv r.1.Y0), (iv r.1.X1), (iv r.1.Y1)]) ∧ (True) ∧ HF w W' (LEn [bx bq1 #[(.bool r.2)] 4]) := by
 unfold F_plot_changed_2__scaled_1 at H
 have leB := Bs.Le.refl w
 refine Tr.enter (n := 21) Tryz.func67 rfl rfl rfl hE ?_
 refine Tr.sr ?_
 refine Tr.box 1 (cs := [(iv p0.X0), (iv p0.Y0), (iv p0.X1), (iv p0.Y1)]) (wn rfl) rfl rfl rfl fun b100 => ?_
 refine Tr.alloc 2 (wn rfl) rfl ze_36 fun b101 => ?_
 refine Tr.nil (Tr.zA ?_)
 refine Tr.seq ?_
 refine Tr.drawC 15 [(3, fun x => x = bq1), (7, fun x => x = bq1), (11, fun x => x = bq1)] [] (by kernel_rfl) (by kernel_rfl) fun sz102 hlosz102 hEsz102 => ?_
 refine Dr.quietZ 0 [(4, (.func (.func 44) #[] #[(.pointer (some ⟨bq1, 0, none⟩)), (.pointer (some ⟨bq2, 0, none⟩)), (.pointer (some ⟨bq3, 0, none⟩))]))] [7, 11] false (by kernel_rfl) rfl rfl (by kernel_rfl) (fun W W' h2 hsW hk => HF.keepZ (le := []) (ks := [(0, fun x => x = bq1), (0, fun x => x = bq1)]) (s0 := sz102) false h2 hk (fun h => absurd h (by decide)) .nil (fun b hb => hb.elim (fun ⟨p, hp, hf, hb⟩ => by simp only [List.mem_cons, List.not_mem_nil, or_false] at hp; rcases hp with rfl | rfl | rfl; exact absurd hf (by simp); exact .inl ⟨_, List.mem_cons_self, hb⟩; exact .inl ⟨_, (List.mem_cons_of_mem _ List.mem_cons_self), hb⟩) (fun hb => absurd hb.1 (by decide))) (List.forall_mem_cons.2 ⟨fun b hb => hb, (List.forall_mem_cons.2 ⟨fun b hb => hb, (fun _ h => nomatch h)⟩)⟩) rfl) ?_ rfl rfl ?_
 ·refine Tq.va rfl (fun _ _ h1 h2 => zC ag_88 (h1.ev rfl) (rdR hb0 hc0 h2) rfl) ?_
  exact Tq.fin (.cons rfl .nil)
 refine Dr.quietP 1 (by kernel_rfl) rfl (wn rfl) rfl (by kernel_rfl) (fun _ _ h1 => zB fo_36_0 (h1.ev rfl)) rfl ?_
 refine Dr.quietZ 2 [(6, (iv p0.X0))] [7, 11] false (by kernel_rfl) rfl rfl (by kernel_rfl) (fun W W' h2 hsW hk => HF.keepZ (le := [(1, bx b100 #[(iv p0.X0), (iv p0.Y0), (iv p0.X1), (iv p0.Y1)] 36)]) (ks := [(0, fun x => x = bq1), (0, fun x => x = bq1)]) (s0 := sz102) false h2 hk (fun h => absurd h (by decide)) (.cons rfl .nil) (fun b hb => hb.elim (fun ⟨p, hp, hf, hb⟩ => by simp only [List.mem_cons, List.not_mem_nil, or_false] at hp; rcases hp with rfl | rfl | rfl; exact absurd hf (by simp); exact .inl ⟨_, List.mem_cons_self, hb⟩; exact .inl ⟨_, (List.mem_cons_of_mem _ List.mem_cons_self), hb⟩) (fun hb => absurd hb.1 (by decide))) (List.forall_mem_cons.2 ⟨fun b hb => hb, (List.forall_mem_cons.2 ⟨fun b hb => hb, (fun _ h => nomatch h)⟩)⟩) rfl) ?_ rfl rfl ?_
 ·refine Tq.va rfl (fun _ _ h1 h2 => zC ag_3 (h1.ev rfl) (rdb h2 (vs := [(iv p0.X0), (iv p0.Y0), (iv p0.X1), (iv p0.Y1)]) (k := 1) rfl 0) rfl) ?_
  exact Tq.fin (.cons rfl .nil)
 refine Dr.quietZ 4 [(8, (.func (.func 44) #[] #[(.pointer (some ⟨bq1, 0, none⟩)), (.pointer (some ⟨bq2, 0, none⟩)), (.pointer (some ⟨bq3, 0, none⟩))]))] [3, 11] false (by kernel_rfl) rfl rfl (by kernel_rfl) (fun W W' h2 hsW hk => HF.keepZ (le := []) (ks := [(0, fun x => x = bq1), (0, fun x => x = bq1)]) (s0 := sz102) false h2 hk (fun h => absurd h (by decide)) .nil (fun b hb => hb.elim (fun ⟨p, hp, hf, hb⟩ => by simp only [List.mem_cons, List.not_mem_nil, or_false] at hp; rcases hp with rfl | rfl | rfl; exact .inl ⟨_, List.mem_cons_self, hb⟩; exact absurd hf (by simp); exact .inl ⟨_, (List.mem_cons_of_mem _ List.mem_cons_self), hb⟩) (fun hb => absurd hb.1 (by decide))) (List.forall_mem_cons.2 ⟨fun b hb => hb, (List.forall_mem_cons.2 ⟨fun b hb => hb, (fun _ h => nomatch h)⟩)⟩) rfl) ?_ rfl rfl ?_
 ·refine Tq.va rfl (fun _ _ h1 h2 => zC ag_88 (h1.ev rfl) (rdR hb0 hc0 h2) rfl) ?_
  exact Tq.fin (.cons rfl .nil)
 refine Dr.quietP 5 (by kernel_rfl) rfl (wn rfl) rfl (by kernel_rfl) (fun _ _ h1 => zB fo_36_1 (h1.ev rfl)) rfl ?_
 refine Dr.quietZ 6 [(10, (iv p0.Y0))] [3, 11] false (by kernel_rfl) rfl rfl (by kernel_rfl) (fun W W' h2 hsW hk => HF.keepZ (le := [(1, bx b100 #[(iv p0.X0), (iv p0.Y0), (iv p0.X1), (iv p0.Y1)] 36)]) (ks := [(0, fun x => x = bq1), (0, fun x => x = bq1)]) (s0 := sz102) false h2 hk (fun h => absurd h (by decide)) (.cons rfl .nil) (fun b hb => hb.elim (fun ⟨p, hp, hf, hb⟩ => by simp only [List.mem_cons, List.not_mem_nil, or_false] at hp; rcases hp with rfl | rfl | rfl; exact .inl ⟨_, List.mem_cons_self, hb⟩; exact absurd hf (by simp); exact .inl ⟨_, (List.mem_cons_of_mem _ List.mem_cons_self), hb⟩) (fun hb => absurd hb.1 (by decide))) (List.forall_mem_cons.2 ⟨fun b hb => hb, (List.forall_mem_cons.2 ⟨fun b hb => hb, (fun _ h => nomatch h)⟩)⟩) rfl) ?_ rfl rfl ?_
 ·refine Tq.va rfl (fun _ _ h1 h2 => zC ag_3 (h1.ev rfl) (rdb h2 (vs := [(iv p0.X0), (iv p0.Y0), (iv p0.X1), (iv p0.Y1)]) (k := 1) rfl 1) rfl) ?_
  exact Tq.fin (.cons rfl .nil)
 refine Dr.quietZ 8 [(12, (.func (.func 44) #[] #[(.pointer (some ⟨bq1, 0, none⟩)), (.pointer (some ⟨bq2, 0, none⟩)), (.pointer (some ⟨bq3, 0, none⟩))]))] [3, 7] false (by kernel_rfl) rfl rfl (by kernel_rfl) (fun W W' h2 hsW hk => HF.keepZ (le := []) (ks := [(0, fun x => x = bq1), (0, fun x => x = bq1)]) (s0 := sz102) false h2 hk (fun h => absurd h (by decide)) .nil (fun b hb => hb.elim (fun ⟨p, hp, hf, hb⟩ => by simp only [List.mem_cons, List.not_mem_nil, or_false] at hp; rcases hp with rfl | rfl | rfl; exact .inl ⟨_, List.mem_cons_self, hb⟩; exact .inl ⟨_, (List.mem_cons_of_mem _ List.mem_cons_self), hb⟩; exact absurd hf (by simp)) (fun hb => absurd hb.1 (by decide))) (List.forall_mem_cons.2 ⟨fun b hb => hb, (List.forall_mem_cons.2 ⟨fun b hb => hb, (fun _ h => nomatch h)⟩)⟩) rfl) ?_ rfl rfl ?_
 ·refine Tq.va rfl (fun _ _ h1 h2 => zC ag_88 (h1.ev rfl) (rdR hb0 hc0 h2) rfl) ?_
  exact Tq.fin (.cons rfl .nil)
 refine Dr.quietP 9 (by kernel_rfl) rfl (wn rfl) rfl (by kernel_rfl) (fun _ _ h1 => zB fo_36_2 (h1.ev rfl)) rfl ?_
 refine Dr.quietZ 10 [(14, (iv p0.X1))] [3, 7] false (by kernel_rfl) rfl rfl (by kernel_rfl) (fun W W' h2 hsW hk => HF.keepZ (le := [(1, bx b100 #[(iv p0.X0), (iv p0.Y0), (iv p0.X1), (iv p0.Y1)] 36)]) (ks := [(0, fun x => x = bq1), (0, fun x => x = bq1)]) (s0 := sz102) false h2 hk (fun h => absurd h (by decide)) (.cons rfl .nil) (fun b hb => hb.elim (fun ⟨p, hp, hf, hb⟩ => by simp only [List.mem_cons, List.not_mem_nil, or_false] at hp; rcases hp with rfl | rfl | rfl; exact .inl ⟨_, List.mem_cons_self, hb⟩; exact .inl ⟨_, (List.mem_cons_of_mem _ List.mem_cons_self), hb⟩; exact absurd hf (by simp)) (fun hb => absurd hb.1 (by decide))) (List.forall_mem_cons.2 ⟨fun b hb => hb, (List.forall_mem_cons.2 ⟨fun b hb => hb, (fun _ h => nomatch h)⟩)⟩) rfl) ?_ rfl rfl ?_
 ·refine Tq.va rfl (fun _ _ h1 h2 => zC ag_3 (h1.ev rfl) (rdb h2 (vs := [(iv p0.X0), (iv p0.Y0), (iv p0.X1), (iv p0.Y1)]) (k := 1) rfl 2) rfl) ?_
  exact Tq.fin (.cons rfl .nil)
 refine Dr.quietZ 12 [(16, (.func (.func 44) #[] #[(.pointer (some ⟨bq1, 0, none⟩)), (.pointer (some ⟨bq2, 0, none⟩)), (.pointer (some ⟨bq3, 0, none⟩))]))] [3, 7, 11] false (by kernel_rfl) rfl rfl (by kernel_rfl) (fun W W' h2 hsW hk => HF.keepZ (le := []) (ks := [(0, fun x => x = bq1), (0, fun x => x = bq1), (0, fun x => x = bq1)]) (s0 := sz102) false h2 hk (fun h => absurd h (by decide)) .nil (fun b hb => hb.elim (fun ⟨p, hp, hf, hb⟩ => by simp only [List.mem_cons, List.not_mem_nil, or_false] at hp; rcases hp with rfl | rfl | rfl; exact .inl ⟨_, List.mem_cons_self, hb⟩; exact .inl ⟨_, (List.mem_cons_of_mem _ List.mem_cons_self), hb⟩; exact .inl ⟨_, (List.mem_cons_of_mem _ (List.mem_cons_of_mem _ List.mem_cons_self)), hb⟩) (fun hb => absurd hb.1 (by decide))) (List.forall_mem_cons.2 ⟨fun b hb => hb, (List.forall_mem_cons.2 ⟨fun b hb => hb, (List.forall_mem_cons.2 ⟨fun b hb => hb, (fun _ h => nomatch h)⟩)⟩)⟩) rfl) ?_ rfl rfl ?_
 ·refine Tq.va rfl (fun _ _ h1 h2 => zC ag_88 (h1.ev rfl) (rdR hb0 hc0 h2) rfl) ?_
  exact Tq.fin (.cons rfl .nil)
 refine Dr.quietP 13 (by kernel_rfl) rfl (wn rfl) rfl (by kernel_rfl) (fun _ _ h1 => zB fo_36_3 (h1.ev rfl)) rfl ?_
 refine Dr.quietZ 14 [(18, (iv p0.Y1))] [3, 7, 11] false (by kernel_rfl) rfl rfl (by kernel_rfl) (fun W W' h2 hsW hk => HF.keepZ (le := [(1, bx b100 #[(iv p0.X0), (iv p0.Y0), (iv p0.X1), (iv p0.Y1)] 36)]) (ks := [(0, fun x => x = bq1), (0, fun x => x = bq1), (0, fun x => x = bq1)]) (s0 := sz102) false h2 hk (fun h => absurd h (by decide)) (.cons rfl .nil) (fun b hb => hb.elim (fun ⟨p, hp, hf, hb⟩ => by simp only [List.mem_cons, List.not_mem_nil, or_false] at hp; rcases hp with rfl | rfl | rfl; exact .inl ⟨_, List.mem_cons_self, hb⟩; exact .inl ⟨_, (List.mem_cons_of_mem _ List.mem_cons_self), hb⟩; exact .inl ⟨_, (List.mem_cons_of_mem _ (List.mem_cons_of_mem _ List.mem_cons_self)), hb⟩) (fun hb => absurd hb.1 (by decide))) (List.forall_mem_cons.2 ⟨fun b hb => hb, (List.forall_mem_cons.2 ⟨fun b hb => hb, (List.forall_mem_cons.2 ⟨fun b hb => hb, (fun _ h => nomatch h)⟩)⟩)⟩) rfl) ?_ rfl rfl ?_
 ·refine Tq.va rfl (fun _ _ h1 h2 => zC ag_3 (h1.ev rfl) (rdb h2 (vs := [(iv p0.X0), (iv p0.Y0), (iv p0.X1), (iv p0.Y1)]) (k := 1) rfl 3) rfl) ?_
  exact Tq.fin (.cons rfl .nil)
 obtain ⟨y103, hy103, H⟩ := bnd H
 refine Dr.one 3 (by kernel_rfl) ?_
 refine St.callMC 3 [0] [bx bq1 #[(.bool q1)] 4] (U := Unit) (fun u => (iv y103.1)) (fun u => True) (fun u => [bx bq1 #[(.bool y103.2)] 4]) rfl (zM rfl zY) (fun _ => rfl) (fun b ⟨e, he, hS⟩ => by simp only [List.mem_cons, List.not_mem_nil, or_false] at he; rcases he with rfl; exact .inl ⟨_, List.mem_cons_self, rfl, hS⟩) rfl (wn rfl) rfl rfl Tryz.call44 (zF rfl zO) (fun W hW hp hE => F_plot_scaled_1_ok p0.X0 q1 bq1 q2 Aq2_0 cq2_0 (hq2_0.ext (hW.extS hp)) Aq2_1 cq2_1 (hq2_1.ext (hW.extS hp)) bq2 ((hW.extS hp).r _ hb2) ((hW.extS hp).cells hb2 hc2) q3 bq3 ((hW.extS hp).r _ hb3) ((hW.extS hp).cells hb3 hc3) y103 hy103 hE) ?_
 intro u hu hsy103
 show Dr _ _ _ _ _ _ _ _ _ (uf _ 7 (iv y103.1)) (up _ 0 (bx bq1 #[(.bool y103.2)] 4))
 obtain ⟨y105, hy105, H⟩ := bnd H
 refine Dr.one 7 (by kernel_rfl) ?_
 refine St.callMC 7 [0] [bx bq1 #[(.bool y103.2)] 4] (U := Unit) (fun u => (iv y105.1)) (fun u => True) (fun u => [bx bq1 #[(.bool y105.2)] 4]) rfl (zM rfl zY) (fun _ => rfl) (fun b ⟨e, he, hS⟩ => by simp only [List.mem_cons, List.not_mem_nil, or_false] at he; rcases he with rfl; exact .inl ⟨_, (List.mem_cons_of_mem _ List.mem_cons_self), rfl, hS⟩) rfl (wn rfl) rfl rfl Tryz.call44 (zF rfl zO) (fun W hW hp hE => F_plot_scaled_1_ok p0.Y0 y103.2 bq1 q2 Aq2_0 cq2_0 (hq2_0.ext (hW.extS hp)) Aq2_1 cq2_1 (hq2_1.ext (hW.extS hp)) bq2 ((hW.extS hp).r _ hb2) ((hW.extS hp).cells hb2 hc2) q3 bq3 ((hW.extS hp).r _ hb3) ((hW.extS hp).cells hb3 hc3) y105 hy105 hE) ?_
 intro u hu hsy105
 show Dr _ _ _ _ _ _ _ _ _ (uf _ 11 (iv y105.1)) (up _ 0 (bx bq1 #[(.bool y105.2)] 4))
 obtain ⟨y107, hy107, H⟩ := bnd H
 refine Dr.one 11 (by kernel_rfl) ?_
 refine St.callMC 11 [0] [bx bq1 #[(.bool y105.2)] 4] (U := Unit) (fun u => (iv y107.1)) (fun u => True) (fun u => [bx bq1 #[(.bool y107.2)] 4]) rfl (zM rfl zY) (fun _ => rfl) (fun b ⟨e, he, hS⟩ => by simp only [List.mem_cons, List.not_mem_nil, or_false] at he; rcases he with rfl; exact .inl ⟨_, (List.mem_cons_of_mem _ (List.mem_cons_of_mem _ List.mem_cons_self)), rfl, hS⟩) rfl (wn rfl) rfl rfl Tryz.call44 (zF rfl zO) (fun W hW hp hE => F_plot_scaled_1_ok p0.X1 y105.2 bq1 q2 Aq2_0 cq2_0 (hq2_0.ext (hW.extS hp)) Aq2_1 cq2_1 (hq2_1.ext (hW.extS hp)) bq2 ((hW.extS hp).r _ hb2) ((hW.extS hp).cells hb2 hc2) q3 bq3 ((hW.extS hp).r _ hb3) ((hW.extS hp).cells hb3 hc3) y107 hy107 hE) ?_
 intro u hu hsy107
 show Dr _ _ _ _ _ _ _ _ _ (uf _ 15 (iv y107.1)) (up _ 0 (bx bq1 #[(.bool y107.2)] 4))
 refine Dr.tail (by kernel_rfl) ?_
 obtain ⟨y109, hy109, H⟩ := bnd H
 refine Tr.callMC [0] [bx bq1 #[(.bool y107.2)] 4] (U := Unit) (fun u => (iv y109.1)) (fun u => True) (fun u => [bx bq1 #[(.bool y109.2)] 4]) rfl (zM rfl zY) (fun _ => rfl) (wn rfl) rfl rfl Tryz.call44 (zF rfl zO) (fun W hW hp hE => F_plot_scaled_1_ok p0.Y1 y107.2 bq1 q2 Aq2_0 cq2_0 (hq2_0.ext (hW.extS hp)) Aq2_1 cq2_1 (hq2_1.ext (hW.extS hp)) bq2 ((hW.extS hp).r _ hb2) ((hW.extS hp).cells hb2 hc2) q3 bq3 ((hW.extS hp).r _ hb3) ((hW.extS hp).cells hb3 hc3) y109 hy109 hE) ?_
 intro u hu
 show Tr _ _ (uf _ 19 (iv y109.1)) (up _ 0 (bx bq1 #[(.bool y109.2)] 4)) _
 refine Tr.build (vs := [(0, (iv y103.1)), (1, (iv y105.1)), (2, (iv y107.1)), (3, (iv y109.1))]) (cs := [(iv y103.1), (iv y105.1), (iv y107.1), (iv y109.1)]) (wn rfl) rfl (zi rfl (zi rfl (zi rfl (zi rfl evs_nil)))) (by kernel_rfl) ?_
 refine Tr.store 2 (cs := [(iv y103.1), (iv y105.1), (iv y107.1), (iv y109.1)]) [(iv y103.1), (iv y105.1), (iv y107.1), (iv y109.1)] (wn rfl) rfl rfl rfl rfl sz_36 rfl rfl rfl ?_
 refine Tr.nil (Tr.zA ?_)
 refine Tr.ret ?_
 obtain rfl := Option.some.inj H
 exact Tr.out (m := [(.agg #[(iv y103.1), (iv y105.1), (iv y107.1), (iv y109.1)])]) [2] (res_cell rfl rfl ag_36 sz_36 zQ) (fun W hW => ⟨(), rfl, trivial, HF.lowE leB (hW.pick (ks := [0]) (by decide) (zM rfl zY)) ⟨bx_any _ _ _, trivial⟩⟩)

end Go.Proofs.YtoageaoknnnfbaaGreatDoor
