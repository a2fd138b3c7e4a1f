/- The walks: each function computes its plain function. -/
import Derived.Test.YtmbjoffligicnaaGreatDoorXF
namespace Go.Proofs.YtmbjoffligicnaaGreatDoor
open Go.RowKit
set_option maxRecDepth 100000
set_option maxHeartbeats 1000000
theorem F_panel_within_ok {w : Bs} (p0 : Int) (p1 : Int) (p2 : Int) (r : Bool) (H : F_panel_within p0 p1 p2 = some r) (hE : HF w w.W E0) : Calls Tryz.prog 41 [(iv p0), (iv p1), (iv p2)].toArray w.W fun e W' => e = .returned (.bool r) ∧ HF w W' E0 := by
 unfold F_panel_within at H
 have leB := Bs.Le.refl w
 refine Tr.enter (n := 15) Tryz.func41 rfl rfl rfl hE ?_
 refine Tr.sr ?_
 refine Tr.asg rfl rfl ?_
 refine Tr.nil (Tr.normThen ?_)
 refine Tr.sr ?_
 refine Tr.mv rfl rfl ?_
 refine Tr.mv rfl rfl ?_
 refine Tr.va rfl (fun _ _ h1 h2 => run_geq (h1.ev rfl) (h1.ev rfl)) ?_
 refine Tr.mv rfl rfl ?_
 refine Tr.mid0 4 [(14, (.bool ((decide (p1 ≤ p0)) && (decide (p0 ≤ p2)))))] [] ?_ ?_
 ·cases hg99 : (decide (p1 ≤ p0))
  ·refine Tr.pass rfl rfl rfl rfl rfl (by decide) ?_
   refine Tr.pass rfl rfl rfl rfl rfl (by decide) ?_
   refine Tr.pass rfl rfl rfl rfl rfl (by decide) ?_
   refine Tr.va rfl (fun _ _ h1 h2 => run_pickF (h1.ev rfl) (h1.ev rfl)) ?_
   exact Tr.nil (Tr.fin0 (.cons rfl .nil) .nil)
  ·refine Tr.val (wg rfl rfl rfl) rfl (fun _ _ h1 h2 => run_move (h1.ev rfl)) ?_
   refine Tr.val (wg rfl rfl rfl) rfl (fun _ _ h1 h2 => run_move (h1.ev rfl)) ?_
   refine Tr.val (wg rfl rfl rfl) rfl (fun _ _ h1 h2 => run_leq (h1.ev rfl) (h1.ev rfl)) ?_
   refine Tr.va rfl (fun _ _ h1 h2 => run_pickT (h1.ev rfl) (h1.ev rfl)) ?_
   exact Tr.nil (Tr.fin0 (.cons rfl .nil) .nil)
 ·show Tr _ _ (LF [(14, (.bool ((decide (p1 ≤ p0)) && (decide (p0 ≤ p2)))))]) (LE []) _
  refine Tr.asg rfl rfl ?_
  refine Tr.nil (Tr.normThen ?_)
  refine Tr.ret ?_
  obtain rfl := Option.some.inj H
  exact Tr.out (m := [(.bool ((decide (p1 ≤ p0)) && (decide (p0 ≤ p2))))]) [] (res_tmp rfl res_nil) (fun W hW => ⟨rfl, hW.low leB⟩)

theorem F_plot_IsName_ok (N : Nat) {w : Bs} (p0 : ByteArray) (r : Bool) (H : F_plot_IsName N p0 = some r) (hE : HF w w.W E0) : Calls Tryz.prog 65 [(sv p0)].toArray w.W fun e W' => e = .returned (.bool r) ∧ HF w W' E0 := by
 unfold F_plot_IsName at H
 have leB := Bs.Le.refl w
 refine Tr.enter (n := 59) Tryz.func65 rfl rfl rfl hE ?_
 refine Tr.sr ?_
 refine Tr.asg rfl rfl ?_
 refine Tr.nil (Tr.normThen ?_)
 refine Tr.seq ?_
 refine Tr.sr ?_
 refine Tr.mv rfl rfl ?_
 refine Tr.va rfl (fun _ _ h1 h2 => run_lenS un_9 (h1.ev rfl)) ?_
 refine Tr.mv rfl rfl ?_
 refine Tr.nil (Tr.normThen ?_)
 refine Tr.block ?_
 refine Tr.loop (σ := Int) (fun m w s => F_plot_IsName_L1 p0 m s = some r) (fun s => [(0, (sv p0)), (7, (iv (p0.size : Int))), (8, (iv s))]) (fun s => []) N 0 H (.cons rfl (.cons rfl (.cons rfl .nil))) .nil (fun _ _ h => noSome (h)) ?_
 intro w leL1 mL1 x105 hs
 have H := hs
 replace H : F_plot_IsName_L1 p0 (mL1 + 1) x105 = some r := H
 replace leB := leB.trans leL1
 rw [F_plot_IsName_L1.eq_2] at H
 show Tr _ _ (LF [(0, (sv p0)), (7, (iv (p0.size : Int))), (8, (iv x105))]) (LE []) _
 refine Tr.sr ?_
 refine Tr.va rfl (fun _ _ h1 h2 => run_lss (h1.ev rfl) (h1.ev rfl)) ?_
 refine Tr.nil (Tr.normThen ?_)
 refine Tr.seq ?_
 refine Tr.cond rfl H (fun H => ?_) (fun H => ?_)
 ·refine Tr.skip (Tr.normThen ?_)
  refine Tr.seq ?_
  refine Tr.block ?_
  refine Tr.sr ?_
  refine Tr.mv rfl rfl ?_
  refine Tr.asg rfl rfl ?_
  refine Tr.nil (Tr.normThen ?_)
  refine Tr.sr ?_
  refine Tr.mv rfl rfl ?_
  refine Tr.mv rfl rfl ?_
  obtain ⟨c106, hc106, H⟩ := bnd H
  refine Tr.va rfl (fun _ _ h1 h2 => run_indexS un_9 (h1.ev rfl) (h1.ev rfl) hc106) ?_
  refine Tr.asg rfl rfl ?_
  refine Tr.nil (Tr.normThen ?_)
  refine Tr.sr ?_
  refine Tr.mv rfl rfl ?_
  refine Tr.va rfl (fun _ _ h1 h2 => run_geq (h1.ev rfl) (h1.ev rfl)) ?_
  refine Tr.mv rfl rfl ?_
  refine Tr.mid0 3 [(0, (sv p0)), (3, (iv x105)), (4, (.int .u8 c106)), (7, (iv (p0.size : Int))), (8, (iv x105)), (19, (.bool ((decide (97 ≤ c106)) && (decide (c106 ≤ 122)))))] [] ?_ ?_
  ·cases hg106 : (decide (97 ≤ c106))
   ·refine Tr.pass rfl rfl rfl rfl rfl (by decide) ?_
    refine Tr.pass rfl rfl rfl rfl rfl (by decide) ?_
    refine Tr.va rfl (fun _ _ h1 h2 => run_pickF (h1.ev rfl) (h1.ev rfl)) ?_
    exact Tr.nil (Tr.fin0 (.cons rfl (.cons rfl (.cons rfl (.cons rfl (.cons rfl (.cons rfl .nil)))))) .nil)
   ·refine Tr.val (wg rfl rfl rfl) rfl (fun _ _ h1 h2 => run_move (h1.ev rfl)) ?_
    refine Tr.val (wg rfl rfl rfl) rfl (fun _ _ h1 h2 => run_leq (h1.ev rfl) (h1.ev rfl)) ?_
    refine Tr.va rfl (fun _ _ h1 h2 => run_pickT (h1.ev rfl) (h1.ev rfl)) ?_
    exact Tr.nil (Tr.fin0 (.cons rfl (.cons rfl (.cons rfl (.cons rfl (.cons rfl (.cons rfl .nil)))))) .nil)
  ·show Tr _ _ (LF [(0, (sv p0)), (3, (iv x105)), (4, (.int .u8 c106)), (7, (iv (p0.size : Int))), (8, (iv x105)), (19, (.bool ((decide (97 ≤ c106)) && (decide (c106 ≤ 122)))))]) (LE []) _
   refine Tr.mv rfl rfl ?_
   refine Tr.mid0 7 [(0, (sv p0)), (3, (iv x105)), (4, (.int .u8 c106)), (7, (iv (p0.size : Int))), (8, (iv x105)), (27, (.bool (((decide (97 ≤ c106)) && (decide (c106 ≤ 122))) || ((decide (65 ≤ c106)) && (decide (c106 ≤ 90))))))] [] ?_ ?_
   ·cases hg106 : ((decide (97 ≤ c106)) && (decide (c106 ≤ 122)))
    ·refine Tr.val (wg rfl rfl rfl) rfl (fun _ _ h1 h2 => run_move (h1.ev rfl)) ?_
     refine Tr.val (wg rfl rfl rfl) rfl (fun _ _ h1 h2 => run_geq (h1.ev rfl) (h1.ev rfl)) ?_
     refine Tr.val (wg rfl rfl rfl) rfl (fun _ _ h1 h2 => run_move (h1.ev rfl)) ?_
     refine Tr.mid0 3 [(0, (sv p0)), (3, (iv x105)), (4, (.int .u8 c106)), (7, (iv (p0.size : Int))), (8, (iv x105)), (20, (.bool false)), (26, (.bool ((decide (65 ≤ c106)) && (decide (c106 ≤ 90)))))] [] ?_ ?_
     ·cases hg106 : (decide (65 ≤ c106))
      ·refine Tr.pass rfl rfl rfl rfl rfl (by decide) ?_
       refine Tr.pass rfl rfl rfl rfl rfl (by decide) ?_
       refine Tr.val (wg rfl rfl rfl) rfl (fun _ _ h1 h2 => run_pickF (h1.ev rfl) (h1.ev rfl)) ?_
       exact Tr.nil (Tr.fin0 (.cons rfl (.cons rfl (.cons rfl (.cons rfl (.cons rfl (.cons rfl (.cons rfl .nil))))))) .nil)
      ·refine Tr.val (wg rfl rfl rfl) rfl (fun _ _ h1 h2 => run_move (h1.ev rfl)) ?_
       refine Tr.val (wg rfl rfl rfl) rfl (fun _ _ h1 h2 => run_leq (h1.ev rfl) (h1.ev rfl)) ?_
       refine Tr.val (wg rfl rfl rfl) rfl (fun _ _ h1 h2 => run_pickT (h1.ev rfl) (h1.ev rfl)) ?_
       exact Tr.nil (Tr.fin0 (.cons rfl (.cons rfl (.cons rfl (.cons rfl (.cons rfl (.cons rfl (.cons rfl .nil))))))) .nil)
     ·show Tr _ _ (LF [(0, (sv p0)), (3, (iv x105)), (4, (.int .u8 c106)), (7, (iv (p0.size : Int))), (8, (iv x105)), (20, (.bool false)), (26, (.bool ((decide (65 ≤ c106)) && (decide (c106 ≤ 90)))))]) (LE []) _
      refine Tr.va rfl (fun _ _ h1 h2 => run_pickF (h1.ev rfl) (h1.ev rfl)) ?_
      exact Tr.nil (Tr.fin0 (.cons rfl (.cons rfl (.cons rfl (.cons rfl (.cons rfl (.cons rfl .nil)))))) .nil)
    ·refine Tr.pass rfl rfl rfl rfl rfl (by decide) ?_
     refine Tr.pass rfl rfl rfl rfl rfl (by decide) ?_
     refine Tr.pass rfl rfl rfl rfl rfl (by decide) ?_
     refine Tr.passU rfl rfl rfl rfl (by decide) ?_
     refine Tr.passU rfl rfl rfl rfl (by decide) ?_
     refine Tr.pass rfl rfl rfl rfl rfl (by decide) ?_
     refine Tr.va rfl (fun _ _ h1 h2 => run_pickT (h1.ev rfl) (h1.ev rfl)) ?_
     exact Tr.nil (Tr.fin0 (.cons rfl (.cons rfl (.cons rfl (.cons rfl (.cons rfl (.cons rfl .nil)))))) .nil)
   ·show Tr _ _ (LF [(0, (sv p0)), (3, (iv x105)), (4, (.int .u8 c106)), (7, (iv (p0.size : Int))), (8, (iv x105)), (27, (.bool (((decide (97 ≤ c106)) && (decide (c106 ≤ 122))) || ((decide (65 ≤ c106)) && (decide (c106 ≤ 90))))))]) (LE []) _
    refine Tr.asg rfl rfl ?_
    refine Tr.nil (Tr.normThen ?_)
    refine Tr.sr ?_
    refine Tr.mv rfl rfl ?_
    refine Tr.va rfl (fun _ _ h1 h2 => run_not (h1.ev rfl)) ?_
    refine Tr.mv rfl rfl ?_
    refine Tr.mid0 19 [(0, (sv p0)), (7, (iv (p0.size : Int))), (8, (iv x105)), (49, (.bool ((!(((decide (97 ≤ c106)) && (decide (c106 ≤ 122))) || ((decide (65 ≤ c106)) && (decide (c106 ≤ 90))))) && ((x105 == 0) || ((((decide (c106 < 48)) || (decide (57 < c106))) && (c106 != 95)) && (c106 != 45))))))] [] ?_ ?_
    ·cases hg106 : (!(((decide (97 ≤ c106)) && (decide (c106 ≤ 122))) || ((decide (65 ≤ c106)) && (decide (c106 ≤ 90)))))
     ·refine Tr.pass rfl rfl rfl rfl rfl (by decide) ?_
      refine Tr.pass rfl rfl rfl rfl rfl (by decide) ?_
      refine Tr.pass rfl rfl rfl rfl rfl (by decide) ?_
      refine Tr.passU rfl rfl rfl rfl (by decide) ?_
      refine Tr.passU rfl rfl rfl rfl (by decide) ?_
      refine Tr.passU rfl rfl rfl rfl (by decide) ?_
      refine Tr.passU rfl rfl rfl rfl (by decide) ?_
      refine Tr.passU rfl rfl rfl rfl (by decide) ?_
      refine Tr.passU rfl rfl rfl rfl (by decide) ?_
      refine Tr.passU rfl rfl rfl rfl (by decide) ?_
      refine Tr.passU rfl rfl rfl rfl (by decide) ?_
      refine Tr.passU rfl rfl rfl rfl (by decide) ?_
      refine Tr.passU rfl rfl rfl rfl (by decide) ?_
      refine Tr.passU rfl rfl rfl rfl (by decide) ?_
      refine Tr.passU rfl rfl rfl rfl (by decide) ?_
      refine Tr.passU rfl rfl rfl rfl (by decide) ?_
      refine Tr.passU rfl rfl rfl rfl (by decide) ?_
      refine Tr.pass rfl rfl rfl rfl rfl (by decide) ?_
      refine Tr.va rfl (fun _ _ h1 h2 => run_pickF (h1.ev rfl) (h1.ev rfl)) ?_
      exact Tr.nil (Tr.fin0 (.cons rfl (.cons rfl (.cons rfl (.cons rfl .nil)))) .nil)
     ·refine Tr.val (wg rfl rfl rfl) rfl (fun _ _ h1 h2 => run_move (h1.ev rfl)) ?_
      refine Tr.val (wg rfl rfl rfl) rfl (fun _ _ h1 h2 => run_eql (h1.ev rfl) (h1.ev rfl)) ?_
      refine Tr.val (wg rfl rfl rfl) rfl (fun _ _ h1 h2 => run_move (h1.ev rfl)) ?_
      refine Tr.mid0 15 [(0, (sv p0)), (7, (iv (p0.size : Int))), (8, (iv x105)), (30, (.bool true)), (48, (.bool ((x105 == 0) || ((((decide (c106 < 48)) || (decide (57 < c106))) && (c106 != 95)) && (c106 != 45)))))] [] ?_ ?_
      ·cases hg106 : (x105 == 0)
       ·refine Tr.val (wg rfl rfl rfl) rfl (fun _ _ h1 h2 => run_move (h1.ev rfl)) ?_
        refine Tr.val (wg rfl rfl rfl) rfl (fun _ _ h1 h2 => run_lss (h1.ev rfl) (h1.ev rfl)) ?_
        refine Tr.val (wg rfl rfl rfl) rfl (fun _ _ h1 h2 => run_move (h1.ev rfl)) ?_
        refine Tr.mid0 3 [(0, (sv p0)), (4, (.int .u8 c106)), (7, (iv (p0.size : Int))), (8, (iv x105)), (30, (.bool true)), (33, (.bool false)), (39, (.bool ((decide (c106 < 48)) || (decide (57 < c106)))))] [] ?_ ?_
        ·cases hg106 : (decide (c106 < 48))
         ·refine Tr.val (wg rfl rfl rfl) rfl (fun _ _ h1 h2 => run_move (h1.ev rfl)) ?_
          refine Tr.val (wg rfl rfl rfl) rfl (fun _ _ h1 h2 => run_gtr (h1.ev rfl) (h1.ev rfl)) ?_
          refine Tr.val (wg rfl rfl rfl) rfl (fun _ _ h1 h2 => run_pickF (h1.ev rfl) (h1.ev rfl)) ?_
          exact Tr.nil (Tr.fin0 (.cons rfl (.cons rfl (.cons rfl (.cons rfl (.cons rfl (.cons rfl (.cons rfl .nil))))))) .nil)
         ·refine Tr.pass rfl rfl rfl rfl rfl (by decide) ?_
          refine Tr.pass rfl rfl rfl rfl rfl (by decide) ?_
          refine Tr.val (wg rfl rfl rfl) rfl (fun _ _ h1 h2 => run_pickT (h1.ev rfl) (h1.ev rfl)) ?_
          exact Tr.nil (Tr.fin0 (.cons rfl (.cons rfl (.cons rfl (.cons rfl (.cons rfl (.cons rfl (.cons rfl .nil))))))) .nil)
        ·show Tr _ _ (LF [(0, (sv p0)), (4, (.int .u8 c106)), (7, (iv (p0.size : Int))), (8, (iv x105)), (30, (.bool true)), (33, (.bool false)), (39, (.bool ((decide (c106 < 48)) || (decide (57 < c106)))))]) (LE []) _
         refine Tr.val (wg rfl rfl rfl) rfl (fun _ _ h1 h2 => run_move (h1.ev rfl)) ?_
         refine Tr.mid0 3 [(0, (sv p0)), (4, (.int .u8 c106)), (7, (iv (p0.size : Int))), (8, (iv x105)), (30, (.bool true)), (33, (.bool false)), (43, (.bool (((decide (c106 < 48)) || (decide (57 < c106))) && (c106 != 95))))] [] ?_ ?_
         ·cases hg106 : ((decide (c106 < 48)) || (decide (57 < c106)))
          ·refine Tr.pass rfl rfl rfl rfl rfl (by decide) ?_
           refine Tr.pass rfl rfl rfl rfl rfl (by decide) ?_
           refine Tr.val (wg rfl rfl rfl) rfl (fun _ _ h1 h2 => run_pickF (h1.ev rfl) (h1.ev rfl)) ?_
           exact Tr.nil (Tr.fin0 (.cons rfl (.cons rfl (.cons rfl (.cons rfl (.cons rfl (.cons rfl (.cons rfl .nil))))))) .nil)
          ·refine Tr.val (wg rfl rfl rfl) rfl (fun _ _ h1 h2 => run_move (h1.ev rfl)) ?_
           refine Tr.val (wg rfl rfl rfl) rfl (fun _ _ h1 h2 => run_neq (h1.ev rfl) (h1.ev rfl)) ?_
           refine Tr.val (wg rfl rfl rfl) rfl (fun _ _ h1 h2 => run_pickT (h1.ev rfl) (h1.ev rfl)) ?_
           exact Tr.nil (Tr.fin0 (.cons rfl (.cons rfl (.cons rfl (.cons rfl (.cons rfl (.cons rfl (.cons rfl .nil))))))) .nil)
         ·show Tr _ _ (LF [(0, (sv p0)), (4, (.int .u8 c106)), (7, (iv (p0.size : Int))), (8, (iv x105)), (30, (.bool true)), (33, (.bool false)), (43, (.bool (((decide (c106 < 48)) || (decide (57 < c106))) && (c106 != 95))))]) (LE []) _
          refine Tr.val (wg rfl rfl rfl) rfl (fun _ _ h1 h2 => run_move (h1.ev rfl)) ?_
          refine Tr.mid0 3 [(0, (sv p0)), (7, (iv (p0.size : Int))), (8, (iv x105)), (30, (.bool true)), (33, (.bool false)), (47, (.bool ((((decide (c106 < 48)) || (decide (57 < c106))) && (c106 != 95)) && (c106 != 45))))] [] ?_ ?_
          ·cases hg106 : (((decide (c106 < 48)) || (decide (57 < c106))) && (c106 != 95))
           ·refine Tr.pass rfl rfl rfl rfl rfl (by decide) ?_
            refine Tr.pass rfl rfl rfl rfl rfl (by decide) ?_
            refine Tr.val (wg rfl rfl rfl) rfl (fun _ _ h1 h2 => run_pickF (h1.ev rfl) (h1.ev rfl)) ?_
            exact Tr.nil (Tr.fin0 (.cons rfl (.cons rfl (.cons rfl (.cons rfl (.cons rfl (.cons rfl .nil)))))) .nil)
           ·refine Tr.val (wg rfl rfl rfl) rfl (fun _ _ h1 h2 => run_move (h1.ev rfl)) ?_
            refine Tr.val (wg rfl rfl rfl) rfl (fun _ _ h1 h2 => run_neq (h1.ev rfl) (h1.ev rfl)) ?_
            refine Tr.val (wg rfl rfl rfl) rfl (fun _ _ h1 h2 => run_pickT (h1.ev rfl) (h1.ev rfl)) ?_
            exact Tr.nil (Tr.fin0 (.cons rfl (.cons rfl (.cons rfl (.cons rfl (.cons rfl (.cons rfl .nil)))))) .nil)
          ·show Tr _ _ (LF [(0, (sv p0)), (7, (iv (p0.size : Int))), (8, (iv x105)), (30, (.bool true)), (33, (.bool false)), (47, (.bool ((((decide (c106 < 48)) || (decide (57 < c106))) && (c106 != 95)) && (c106 != 45))))]) (LE []) _
           refine Tr.val (wg rfl rfl rfl) rfl (fun _ _ h1 h2 => run_pickF (h1.ev rfl) (h1.ev rfl)) ?_
           exact Tr.nil (Tr.fin0 (.cons rfl (.cons rfl (.cons rfl (.cons rfl (.cons rfl .nil))))) .nil)
       ·refine Tr.pass rfl rfl rfl rfl rfl (by decide) ?_
        refine Tr.pass rfl rfl rfl rfl rfl (by decide) ?_
        refine Tr.pass rfl rfl rfl rfl rfl (by decide) ?_
        refine Tr.passU rfl rfl rfl rfl (by decide) ?_
        refine Tr.passU rfl rfl rfl rfl (by decide) ?_
        refine Tr.pass rfl rfl rfl rfl rfl (by decide) ?_
        refine Tr.pass rfl rfl rfl rfl rfl (by decide) ?_
        refine Tr.passU rfl rfl rfl rfl (by decide) ?_
        refine Tr.passU rfl rfl rfl rfl (by decide) ?_
        refine Tr.pass rfl rfl rfl rfl rfl (by decide) ?_
        refine Tr.pass rfl rfl rfl rfl rfl (by decide) ?_
        refine Tr.passU rfl rfl rfl rfl (by decide) ?_
        refine Tr.passU rfl rfl rfl rfl (by decide) ?_
        refine Tr.pass rfl rfl rfl rfl rfl (by decide) ?_
        refine Tr.val (wg rfl rfl rfl) rfl (fun _ _ h1 h2 => run_pickT (h1.ev rfl) (h1.ev rfl)) ?_
        exact Tr.nil (Tr.fin0 (.cons rfl (.cons rfl (.cons rfl (.cons rfl (.cons rfl .nil))))) .nil)
      ·show Tr _ _ (LF [(0, (sv p0)), (7, (iv (p0.size : Int))), (8, (iv x105)), (30, (.bool true)), (48, (.bool ((x105 == 0) || ((((decide (c106 < 48)) || (decide (57 < c106))) && (c106 != 95)) && (c106 != 45)))))]) (LE []) _
       refine Tr.va rfl (fun _ _ h1 h2 => run_pickT (h1.ev rfl) (h1.ev rfl)) ?_
       exact Tr.nil (Tr.fin0 (.cons rfl (.cons rfl (.cons rfl (.cons rfl .nil)))) .nil)
    ·show Tr _ _ (LF [(0, (sv p0)), (7, (iv (p0.size : Int))), (8, (iv x105)), (49, (.bool ((!(((decide (97 ≤ c106)) && (decide (c106 ≤ 122))) || ((decide (65 ≤ c106)) && (decide (c106 ≤ 90))))) && ((x105 == 0) || ((((decide (c106 < 48)) || (decide (57 < c106))) && (c106 != 95)) && (c106 != 45))))))]) (LE []) _
     refine Tr.nil (Tr.normThen ?_)
     refine Tr.cond rfl H (fun H => ?_) (fun H => ?_)
     ·refine Tr.sr ?_
      refine Tr.asg rfl rfl ?_
      refine Tr.nil (Tr.normThen ?_)
      refine Tr.ret (Tr.retBlock (Tr.retThen (Tr.retThen (Tr.retBlock (Tr.retThen ?_)))))
      obtain rfl := Option.some.inj H
      exact Tr.out (m := [(.bool false)]) [] (res_tmp rfl res_nil) (fun W hW => ⟨rfl, hW.low leB⟩)
     ·refine Tr.skip (Tr.normBlock (Tr.normThen ?_))
      refine Tr.region ?_
      refine Tr.va rfl (fun _ _ h1 h2 => run_add (h1.ev rfl) (h1.ev rfl)) ?_
      refine Tr.mv rfl rfl ?_
      refine Tr.nil ?_
      exact Tr.backThen leL1 (w64 (x105 + 1)) H (.cons rfl (.cons rfl (.cons rfl .nil))) .nil
 ·refine Tr.exit (Tr.exitThen (Tr.exitThen (Tr.exitBlock (Tr.normThen ?_))))
  refine Tr.sr ?_
  refine Tr.mv rfl rfl ?_
  refine Tr.va rfl (fun _ _ h1 h2 => run_lenS un_9 (h1.ev rfl)) ?_
  refine Tr.va rfl (fun _ _ h1 h2 => run_geq (h1.ev rfl) (h1.ev rfl)) ?_
  refine Tr.mv rfl rfl ?_
  refine Tr.mid0 4 [(58, (.bool ((decide (1 ≤ (p0.size : Int))) && (decide ((p0.size : Int) ≤ 40)))))] [] ?_ ?_
  ·cases hg106 : (decide (1 ≤ (p0.size : Int)))
   ·refine Tr.pass rfl rfl rfl rfl rfl (by decide) ?_
    refine Tr.pass rfl rfl rfl rfl rfl (by decide) ?_
    refine Tr.pass rfl rfl rfl rfl rfl (by decide) ?_
    refine Tr.va rfl (fun _ _ h1 h2 => run_pickF (h1.ev rfl) (h1.ev rfl)) ?_
    exact Tr.nil (Tr.fin0 (.cons rfl .nil) .nil)
   ·refine Tr.val (wg rfl rfl rfl) rfl (fun _ _ h1 h2 => run_move (h1.ev rfl)) ?_
    refine Tr.val (wg rfl rfl rfl) rfl (fun _ _ h1 h2 => run_lenS un_9 (h1.ev rfl)) ?_
    refine Tr.val (wg rfl rfl rfl) rfl (fun _ _ h1 h2 => run_leq (h1.ev rfl) (h1.ev rfl)) ?_
    refine Tr.va rfl (fun _ _ h1 h2 => run_pickT (h1.ev rfl) (h1.ev rfl)) ?_
    exact Tr.nil (Tr.fin0 (.cons rfl .nil) .nil)
  ·show Tr _ _ (LF [(58, (.bool ((decide (1 ≤ (p0.size : Int))) && (decide ((p0.size : Int) ≤ 40)))))]) (LE []) _
   refine Tr.asg rfl rfl ?_
   refine Tr.nil (Tr.normThen ?_)
   refine Tr.ret ?_
   obtain rfl := Option.some.inj H
   exact Tr.out (m := [(.bool ((decide (1 ≤ (p0.size : Int))) && (decide ((p0.size : Int) ≤ 40))))]) [] (res_tmp rfl res_nil) (fun W hW => ⟨rfl, hW.low leB⟩)

theorem F_panel_checkKinds_ok (N : Nat) {w : Bs} (p0 : (List TBoardKind)) (Ap0_0 : Option Addr) (cp0_0 : Nat) (hp0_0 : Sl w.R w.W fl_TBoardKind Ap0_0 cp0_0 p0) (r : Int) (H : F_panel_checkKinds N p0 = some r) (hE : HF w w.W E0) : Calls Tryz.prog 42 [(.slice Ap0_0 (p0).length cp0_0)].toArray w.W fun e W' => e = .returned (iv r) ∧ HF w W' E0 := by
 unfold F_panel_checkKinds at H
 have leB := Bs.Le.refl w
 refine Tr.enter (n := 46) Tryz.func42 rfl rfl rfl hE ?_
 refine Tr.sr ?_
 refine Tr.asg rfl rfl ?_
 refine Tr.nil (Tr.normThen ?_)
 refine Tr.seq ?_
 refine Tr.sr ?_
 refine Tr.mv rfl rfl ?_
 refine Tr.va rfl (fun _ _ h1 h2 => run_len un_22 (h1.ev rfl)) ?_
 refine Tr.va rfl (fun _ _ h1 h2 => run_gtr (h1.ev rfl) (h1.ev rfl)) ?_
 refine Tr.nil (Tr.normThen ?_)
 refine Tr.cond rfl H (fun H => ?_) (fun H => ?_)
 ·refine Tr.sr ?_
  refine Tr.asg rfl rfl ?_
  refine Tr.nil (Tr.normThen ?_)
  refine Tr.ret (Tr.retThen ?_)
  obtain rfl := Option.some.inj H
  exact Tr.out (m := [(iv 2)]) [] (res_tmp rfl res_nil) (fun W hW => ⟨rfl, hW.low leB⟩)
 ·refine Tr.skip (Tr.normThen ?_)
  refine Tr.seq ?_
  refine Tr.sr ?_
  refine Tr.mv rfl rfl ?_
  refine Tr.va rfl (fun _ _ h1 h2 => run_len un_22 (h1.ev rfl)) ?_
  refine Tr.mv rfl rfl ?_
  refine Tr.nil (Tr.normThen ?_)
  refine Tr.block ?_
  refine Tr.loop (σ := (List TBoardKind) × Nat) (fun m w s => m = s.1.length + 1 ∧ s.1 = List.drop s.2 p0 ∧ s.2 ≤ p0.length ∧ F_panel_checkKinds_L1 N p0 s.1 s.2 = some r) (fun s => [(0, (.slice Ap0_0 (p0).length cp0_0)), (8, (.slice Ap0_0 (p0).length cp0_0)), (9, (iv (p0.length : Int))), (10, (iv (s.2 : Int)))]) (fun s => []) (p0.length + 1) (p0, 0) ⟨rfl, rfl, Nat.zero_le _, H⟩ (.cons rfl (.cons rfl (.cons rfl (.cons rfl .nil)))) .nil (fun _ _ h => absurd h.1 (by simp)) ?_
  intro w leL1 m s hs
  obtain ⟨restL1, iL1⟩ := s
  obtain ⟨hmL1, hdL1, hiL1, H⟩ := hs
  replace hdL1 : restL1 = List.drop iL1 p0 := hdL1
  replace H : F_panel_checkKinds_L1 N p0 restL1 iL1 = some r := H
  replace hmL1 : m + 1 = restL1.length + 1 := hmL1
  replace hp0_0 := hp0_0.leR leL1
  replace leB := leB.trans leL1
  obtain rfl : m = restL1.length := by omega
  clear hmL1
  show Tr _ _ (LF [(0, (.slice Ap0_0 (p0).length cp0_0)), (8, (.slice Ap0_0 (p0).length cp0_0)), (9, (iv (p0.length : Int))), (10, (iv (iL1 : Int)))]) (LE []) _
  cases restL1 with
  | nil =>
   rw [F_panel_checkKinds_L1.eq_1] at H
   refine Tr.sr ?_
   refine Tr.va rfl (fun _ _ h1 h2 => run_lss (h1.ev rfl) (h1.ev rfl)) ?_
   refine Tr.nil (Tr.normThen ?_)
   refine Tr.seq ?_
   refine Tr.condF rfl (range_nil hdL1) ?_
   refine Tr.exit (Tr.exitThen (Tr.exitThen (Tr.exitBlock (Tr.normThen ?_))))
   refine Tr.sr ?_
   refine Tr.asg rfl rfl ?_
   refine Tr.nil (Tr.normThen ?_)
   refine Tr.ret ?_
   obtain rfl := Option.some.inj H
   exact Tr.out (m := [(iv 0)]) [] (res_tmp rfl res_nil) (fun W hW => ⟨rfl, hW.low leB⟩)
  | cons xL1 restL1 =>
   rw [F_panel_checkKinds_L1.eq_2] at H
   refine Tr.sr ?_
   refine Tr.va rfl (fun _ _ h1 h2 => run_lss (h1.ev rfl) (h1.ev rfl)) ?_
   refine Tr.nil (Tr.normThen ?_)
   refine Tr.seq ?_
   refine Tr.condT rfl (range_on hdL1) ?_
   refine Tr.skip (Tr.normThen ?_)
   refine Tr.seq ?_
   refine Tr.block ?_
   refine Tr.sr ?_
   refine Tr.mv rfl rfl ?_
   refine Tr.va rfl (fun _ _ h1 h2 => run_indexAddr el_22 (h1.ev rfl) hp0_0.form (h1.ev rfl) (Int.natCast_nonneg _) (range_lt hdL1)) ?_
   refine Tr.va rfl (fun _ _ h1 h2 => run_loadN (cs := [(sv xL1.Name), (iv xL1.W), (iv xL1.H)]) ag_49 sz_49 (h1.ev rfl) (CellsAt.take (rdF ef_TBoardKind hp0_0 (range_at hdL1) h2) 3) rfl) ?_
   refine Tr.alloc 2 (wn rfl) rfl ze_49 fun b111 => ?_
   refine Tr.asg rfl rfl ?_
   refine Tr.store 2 (cs := [(sv xL1.Name), (iv xL1.W), (iv xL1.H)]) [(sv xL1.Name), (iv xL1.W), (iv xL1.H)] (wn rfl) rfl rfl rfl rfl sz_49 rfl rfl rfl ?_
   refine Tr.nil (Tr.normThen ?_)
   refine Tr.block ?_
   refine Tr.sr ?_
   refine Tr.va rfl (fun _ _ h1 h2 => run_fieldAddr fo_49_0 (h1.ev rfl)) ?_
   refine Tr.va rfl (fun _ _ h1 h2 => run_load1 ag_9 (h1.ev rfl) (rdb h2 (vs := [(sv xL1.Name), (iv xL1.W), (iv xL1.H)]) (k := 2) rfl 0) rfl) ?_
   obtain ⟨y112, hy112, H⟩ := bnd H
   refine Tr.call0 (r := (.bool y112)) (wn rfl) rfl Tryz.call65 (evl_cons rfl evl_nil) (fun W hW => F_plot_IsName_ok N xL1.Name y112 hy112 (HF.start _)) ?_
   refine Tr.va rfl (fun _ _ h1 h2 => run_not (h1.ev rfl)) ?_
   refine Tr.asg rfl rfl ?_
   refine Tr.nil (Tr.normThen ?_)
   refine Tr.cond rfl H (fun H => ?_) (fun H => ?_)
   ·refine Tr.sr ?_
    refine Tr.asg rfl rfl ?_
    refine Tr.nil (Tr.normThen ?_)
    refine Tr.ret (Tr.retBlock (Tr.retBlock (Tr.retThen (Tr.retThen (Tr.retBlock (Tr.retThen ?_))))))
    obtain rfl := Option.some.inj H
    exact Tr.out (m := [(iv 5)]) [] (res_tmp rfl res_nil) (fun W hW => ⟨rfl, hW.low leB⟩)
   ·refine Tr.sr ?_
    refine Tr.va rfl (fun _ _ h1 h2 => run_fieldAddr fo_49_1 (h1.ev rfl)) ?_
    refine Tr.va rfl (fun _ _ h1 h2 => run_load1 ag_3 (h1.ev rfl) (rdb h2 (vs := [(sv xL1.Name), (iv xL1.W), (iv xL1.H)]) (k := 2) rfl 1) rfl) ?_
    obtain ⟨y113, hy113, H⟩ := bnd H
    refine Tr.call0 (r := (.bool y113)) (wn rfl) rfl Tryz.call41 (evl_cons rfl (evl_cons rfl (evl_cons rfl evl_nil))) (fun W hW => F_panel_within_ok xL1.W 1 1000000 y113 hy113 (HF.start _)) ?_
    refine Tr.va rfl (fun _ _ h1 h2 => run_not (h1.ev rfl)) ?_
    refine Tr.mv rfl rfl ?_
    obtain ⟨g115, hg115, H⟩ := bnd H
    refine Tr.mid0 5 [(0, (.slice Ap0_0 (p0).length cp0_0)), (3, (iv (iL1 : Int))), (4, (.pointer (some ⟨b111, 0, none⟩))), (8, (.slice Ap0_0 (p0).length cp0_0)), (9, (iv (p0.length : Int))), (10, (iv (iL1 : Int))), (30, (.bool g115))] [(2, bx b111 #[(sv xL1.Name), (iv xL1.W), (iv xL1.H)] 49)] ?_ ?_
    ·cases hg119 : (!y113)
     ·rw [hg119] at hg115
      rw [if_neg (by decide)] at hg115
      have H := hg115
      refine Tr.val (wg rfl rfl rfl) rfl (fun _ _ h1 h2 => run_fieldAddr fo_49_2 (h1.ev rfl)) ?_
      refine Tr.val (wg rfl rfl rfl) rfl (fun _ _ h1 h2 => run_load1 ag_3 (h1.ev rfl) (rdb h2 (vs := [(sv xL1.Name), (iv xL1.W), (iv xL1.H)]) (k := 2) rfl 2) rfl) ?_
      obtain ⟨y116, hy116, H⟩ := bnd H
      refine Tr.call0 (r := (.bool y116)) (wg rfl rfl rfl) rfl Tryz.call41 (evl_cons rfl (evl_cons rfl (evl_cons rfl evl_nil))) (fun W hW => F_panel_within_ok xL1.H 1 1000000 y116 hy116 (HF.start _)) ?_
      refine Tr.val (wg rfl rfl rfl) rfl (fun _ _ h1 h2 => run_not (h1.ev rfl)) ?_
      refine Tr.va rfl (fun _ _ h1 h2 => run_pickF (h1.ev rfl) (h1.ev rfl)) ?_
      obtain rfl := Option.some.inj H
      exact Tr.nil (Tr.fin0 (.cons rfl (.cons rfl (.cons rfl (.cons rfl (.cons rfl (.cons rfl (.cons rfl .nil))))))) (.cons rfl .nil))
     ·rw [hg119] at hg115
      rw [if_pos rfl] at hg115
      have H := hg115
      obtain rfl := Option.some.inj H
      refine Tr.pass rfl rfl rfl rfl rfl (by decide) ?_
      refine Tr.pass rfl rfl rfl rfl rfl (by decide) ?_
      refine Tr.pass rfl rfl rfl rfl rfl (by decide) ?_
      refine Tr.pass rfl rfl rfl rfl rfl (by decide) ?_
      refine Tr.va rfl (fun _ _ h1 h2 => run_pickT (h1.ev rfl) (h1.ev rfl)) ?_
      exact Tr.nil (Tr.fin0 (.cons rfl (.cons rfl (.cons rfl (.cons rfl (.cons rfl (.cons rfl (.cons rfl .nil))))))) (.cons rfl .nil))
    ·show Tr _ _ (LF [(0, (.slice Ap0_0 (p0).length cp0_0)), (3, (iv (iL1 : Int))), (4, (.pointer (some ⟨b111, 0, none⟩))), (8, (.slice Ap0_0 (p0).length cp0_0)), (9, (iv (p0.length : Int))), (10, (iv (iL1 : Int))), (30, (.bool g115))]) (LE [(2, bx b111 #[(sv xL1.Name), (iv xL1.W), (iv xL1.H)] 49)]) _
     refine Tr.asg rfl rfl ?_
     refine Tr.nil (Tr.normThen ?_)
     refine Tr.cond rfl H (fun H => ?_) (fun H => ?_)
     ·refine Tr.sr ?_
      refine Tr.asg rfl rfl ?_
      refine Tr.nil (Tr.normThen ?_)
      refine Tr.ret (Tr.retBlock (Tr.retBlock (Tr.retThen (Tr.retThen (Tr.retBlock (Tr.retThen ?_))))))
      obtain rfl := Option.some.inj H
      exact Tr.out (m := [(iv 1)]) [] (res_tmp rfl res_nil) (fun W hW => ⟨rfl, hW.low leB⟩)
     ·refine Tr.seq ?_
      refine Tr.draw (by kernel_rfl) (by kernel_rfl) ?_
      refine Tq.mv rfl rfl ?_
      refine Tq.va rfl (fun _ _ h1 h2 => run_gtr (h1.ev rfl) (h1.ev rfl)) ?_
      refine Tq.mv rfl rfl ?_
      obtain ⟨g118, hg118, H⟩ := bnd H
      refine Tq.mid 10 [(0, (.slice Ap0_0 (p0).length cp0_0)), (8, (.slice Ap0_0 (p0).length cp0_0)), (9, (iv (p0.length : Int))), (10, (iv (iL1 : Int))), (44, (.bool g118))] ?_ ?_
      ·cases hg119 : (decide (0 < (iL1 : Int)))
       ·rw [hg119] at hg118
        rw [if_neg (by decide)] at hg118
        have H := hg118
        obtain rfl := Option.some.inj H
        refine Tq.pass rfl rfl rfl rfl rfl (by decide) ?_
        refine Tq.pass rfl rfl rfl rfl rfl (by decide) ?_
        refine Tq.pass rfl rfl rfl rfl rfl (by decide) ?_
        refine Tq.pass rfl rfl rfl rfl rfl (by decide) ?_
        refine Tq.pass rfl rfl rfl rfl rfl (by decide) ?_
        refine Tq.pass rfl rfl rfl rfl rfl (by decide) ?_
        refine Tq.pass rfl rfl rfl rfl rfl (by decide) ?_
        refine Tq.pass rfl rfl rfl rfl rfl (by decide) ?_
        refine Tq.pass rfl rfl rfl rfl rfl (by decide) ?_
        refine Tq.va rfl (fun _ _ h1 h2 => run_pickF (h1.ev rfl) (h1.ev rfl)) ?_
        exact Tq.fin (.cons rfl (.cons rfl (.cons rfl (.cons rfl (.cons rfl .nil)))))
       ·rw [hg119] at hg118
        rw [if_pos rfl] at hg118
        have H := hg118
        refine Tq.val (wg rfl rfl rfl) rfl (fun _ _ h1 h2 => run_fieldAddr fo_49_0 (h1.ev rfl)) ?_
        refine Tq.val (wg rfl rfl rfl) rfl (fun _ _ h1 h2 => run_load1 ag_9 (h1.ev rfl) (rdb h2 (vs := [(sv xL1.Name), (iv xL1.W), (iv xL1.H)]) (k := 2) rfl 0) rfl) ?_
        refine Tq.val (wg rfl rfl rfl) rfl (fun _ _ h1 h2 => run_move (h1.ev rfl)) ?_
        refine Tq.val (wg rfl rfl rfl) rfl (fun _ _ h1 h2 => run_move (h1.ev rfl)) ?_
        refine Tq.val (wg rfl rfl rfl) rfl (fun _ _ h1 h2 => run_sub (h1.ev rfl) (h1.ev rfl)) ?_
        obtain ⟨x119, hx119, H⟩ := bnd H
        obtain ⟨hx1190, hx1191, hx1192⟩ := idx_some hx119
        refine Tq.val (wg rfl rfl rfl) rfl (fun _ _ h1 h2 => run_indexAddr el_22 (h1.ev rfl) hp0_0.form (h1.ev rfl) hx1190 hx1191) ?_
        refine Tq.val (wg rfl rfl rfl) rfl (fun _ _ h1 h2 => run_fieldAddr fo_49_0 (h1.ev rfl)) ?_
        refine Tq.val (wg rfl rfl rfl) rfl (fun _ _ h1 h2 => run_load1 ag_9 (h1.ev rfl) (CellsAt.drop (rdF ef_TBoardKind hp0_0 hx1192 h2) 0) rfl) ?_
        refine Tq.val (wg rfl rfl rfl) rfl (fun _ _ h1 h2 => run_leqS (h1.ev rfl) (h1.ev rfl)) ?_
        refine Tq.va rfl (fun _ _ h1 h2 => run_pickT (h1.ev rfl) (h1.ev rfl)) ?_
        obtain rfl := Option.some.inj H
        exact Tq.fin (.cons rfl (.cons rfl (.cons rfl (.cons rfl (.cons rfl .nil)))))
      ·refine Tq.asg rfl rfl ?_
       refine Tq.nil (Tr.normThen ?_)
       refine Tr.cond rfl H (fun H => ?_) (fun H => ?_)
       ·refine Tr.sr ?_
        refine Tr.asg rfl rfl ?_
        refine Tr.nil (Tr.normThen ?_)
        refine Tr.ret (Tr.retBlock (Tr.retBlock (Tr.retThen (Tr.retThen (Tr.retBlock (Tr.retThen ?_))))))
        obtain rfl := Option.some.inj H
        exact Tr.out (m := [(iv 8)]) [] (res_tmp rfl res_nil) (fun W hW => ⟨rfl, hW.low leB⟩)
       ·refine Tr.skip (Tr.normBlock (Tr.normBlock (Tr.normThen ?_)))
        refine Tr.region ?_
        refine Tr.va rfl (fun _ _ h1 h2 => run_add (h1.ev rfl) (h1.ev rfl)) ?_
        refine Tr.mv rfl rfl ?_
        refine Tr.nil ?_
        exact Tr.backThen leL1 (restL1, (iL1 + 1)) ⟨rfl, range_tl hdL1, range_lt hdL1, H⟩ (.cons rfl (.cons rfl (.cons rfl (.cons (congrArg (fun z => some (Value.int .i64 z)) (range_up hdL1 hp0_0.form)) .nil)))) .nil

theorem F_panel_kindAt_1_ok {w : Bs} (p0 : TBoardKind) (q0 : ByteArray) (bq0 : Nat) (hb0 : w.R bq0) (hc0 : CellsAt w.W bq0 0 [(sv q0)]) (r : Bool) (H : F_panel_kindAt_1 p0 q0 = some r) (hE : HF w w.W E0) : Calls Tryz.prog 91 [(.agg #[(sv p0.Name), (iv p0.W), (iv p0.H)]), (.pointer (some ⟨bq0, 0, none⟩))].toArray w.W fun e W' => e = .returned (.bool r) ∧ HF w W' E0 := by
 unfold F_panel_kindAt_1 at H
 have leB := Bs.Le.refl w
 refine Tr.enter (n := 8) Tryz.func91 rfl rfl rfl hE ?_
 refine Tr.sr ?_
 refine Tr.box 1 (cs := [(sv p0.Name), (iv p0.W), (iv p0.H)]) (wn rfl) rfl rfl rfl fun b100 => ?_
 refine Tr.asg rfl rfl ?_
 refine Tr.nil (Tr.normThen ?_)
 refine Tr.sr ?_
 refine Tr.va rfl (fun _ _ h1 h2 => run_fieldAddr fo_49_0 (h1.ev rfl)) ?_
 refine Tr.va rfl (fun _ _ h1 h2 => run_load1 ag_9 (h1.ev rfl) (rdb h2 (vs := [(sv p0.Name), (iv p0.W), (iv p0.H)]) (k := 1) rfl 0) rfl) ?_
 refine Tr.va rfl (fun _ _ h1 h2 => run_load1 ag_9 (h1.ev rfl) (rdR hb0 hc0 h2) rfl) ?_
 refine Tr.va rfl (fun _ _ h1 h2 => run_eqlS (h1.ev rfl) (h1.ev rfl)) ?_
 refine Tr.asg rfl rfl ?_
 refine Tr.nil (Tr.normThen ?_)
 refine Tr.ret ?_
 obtain rfl := Option.some.inj H
 exact Tr.out (m := [(.bool (sEq p0.Name q0))]) [] (res_tmp rfl res_nil) (fun W hW => ⟨rfl, hW.low leB⟩)

theorem F_slices_IndexFunc_BoardKind_ok {w : Bs} (p0 : (List TBoardKind)) (Ap0_0 : Option Addr) (cp0_0 : Nat) (hp0_0 : Sl w.R w.W fl_TBoardKind Ap0_0 cp0_0 p0) (p1 : TBoardKind → Option Bool) (fid1 : Nat) (cap1 : List Value) (hg1 : ∀ args W, (callFunc fid1 args).run Tryz.prog W = .ok (.enter fid1 args) W) (hf1 : ∀ (w' : Bs), w.Ext w' → ∀ (z0 : TBoardKind), ∀ y, p1 z0 = some y → Calls Tryz.prog fid1 (([(.agg #[(sv z0.Name), (iv z0.W), (iv z0.H)])] : List Value) ++ cap1).toArray w'.W fun e W'' => e = .returned (.bool y) ∧ HF w' W'' E0) (r : Int) (H : F_slices_IndexFunc_BoardKind p0 p1 = some r) (hE : HF w w.W E0) : Calls Tryz.prog 90 [(.slice Ap0_0 (p0).length cp0_0), (.func (.func fid1) #[] cap1.toArray)].toArray w.W fun e W' => e = .returned (iv r) ∧ HF w W' E0 := by
 unfold F_slices_IndexFunc_BoardKind at H
 have leB := Bs.Le.refl w
 refine Tr.enter (n := 19) Tryz.func90 rfl rfl rfl hE ?_
 refine Tr.sr ?_
 refine Tr.asg rfl rfl ?_
 refine Tr.nil (Tr.normThen ?_)
 refine Tr.seq ?_
 refine Tr.sr ?_
 refine Tr.mv rfl rfl ?_
 refine Tr.va rfl (fun _ _ h1 h2 => run_len un_22 (h1.ev rfl)) ?_
 refine Tr.mv rfl rfl ?_
 refine Tr.nil (Tr.normThen ?_)
 refine Tr.block ?_
 refine Tr.loop (σ := (List TBoardKind) × Nat) (fun m w s => m = s.1.length + 1 ∧ s.1 = List.drop s.2 p0 ∧ s.2 ≤ p0.length ∧ F_slices_IndexFunc_BoardKind_L1 p1 s.1 s.2 = some r) (fun s => [(0, (.slice Ap0_0 (p0).length cp0_0)), (1, (.func (.func fid1) #[] cap1.toArray)), (7, (iv (p0.length : Int))), (8, (iv (s.2 : Int)))]) (fun s => []) (p0.length + 1) (p0, 0) ⟨rfl, rfl, Nat.zero_le _, H⟩ (.cons rfl (.cons rfl (.cons rfl (.cons rfl .nil)))) .nil (fun _ _ h => absurd h.1 (by simp)) ?_
 intro w leL1 m s hs
 obtain ⟨restL1, iL1⟩ := s
 obtain ⟨hmL1, hdL1, hiL1, H⟩ := hs
 replace hdL1 : restL1 = List.drop iL1 p0 := hdL1
 replace H : F_slices_IndexFunc_BoardKind_L1 p1 restL1 iL1 = some r := H
 replace hmL1 : m + 1 = restL1.length + 1 := hmL1
 replace hp0_0 := hp0_0.leR leL1
 replace hf1 := fun w' he => hf1 w' (leL1.ext.trans he)
 replace leB := leB.trans leL1
 obtain rfl : m = restL1.length := by omega
 clear hmL1
 show Tr _ _ (LF [(0, (.slice Ap0_0 (p0).length cp0_0)), (1, (.func (.func fid1) #[] cap1.toArray)), (7, (iv (p0.length : Int))), (8, (iv (iL1 : Int)))]) (LE []) _
 cases restL1 with
 | nil =>
  rw [F_slices_IndexFunc_BoardKind_L1.eq_1] at H
  refine Tr.sr ?_
  refine Tr.va rfl (fun _ _ h1 h2 => run_lss (h1.ev rfl) (h1.ev rfl)) ?_
  refine Tr.nil (Tr.normThen ?_)
  refine Tr.seq ?_
  refine Tr.condF rfl (range_nil hdL1) ?_
  refine Tr.exit (Tr.exitThen (Tr.exitThen (Tr.exitBlock (Tr.normThen ?_))))
  refine Tr.sr ?_
  refine Tr.asg rfl rfl ?_
  refine Tr.nil (Tr.normThen ?_)
  refine Tr.ret ?_
  obtain rfl := Option.some.inj H
  exact Tr.out (m := [(iv (-1))]) [] (res_tmp rfl res_nil) (fun W hW => ⟨rfl, hW.low leB⟩)
 | cons xL1 restL1 =>
  rw [F_slices_IndexFunc_BoardKind_L1.eq_2] at H
  refine Tr.sr ?_
  refine Tr.va rfl (fun _ _ h1 h2 => run_lss (h1.ev rfl) (h1.ev rfl)) ?_
  refine Tr.nil (Tr.normThen ?_)
  refine Tr.seq ?_
  refine Tr.condT rfl (range_on hdL1) ?_
  refine Tr.skip (Tr.normThen ?_)
  refine Tr.seq ?_
  refine Tr.block ?_
  refine Tr.sr ?_
  refine Tr.mv rfl rfl ?_
  refine Tr.asg rfl rfl ?_
  refine Tr.nil (Tr.normThen ?_)
  refine Tr.sr ?_
  refine Tr.mv rfl rfl ?_
  refine Tr.mv rfl rfl ?_
  refine Tr.mv rfl rfl ?_
  refine Tr.va rfl (fun _ _ h1 h2 => run_indexAddr el_22 (h1.ev rfl) hp0_0.form (h1.ev rfl) (Int.natCast_nonneg _) (range_lt hdL1)) ?_
  refine Tr.va rfl (fun _ _ h1 h2 => run_loadN (cs := [(sv xL1.Name), (iv xL1.W), (iv xL1.H)]) ag_49 sz_49 (h1.ev rfl) (CellsAt.take (rdF ef_TBoardKind hp0_0 (range_at hdL1) h2) 3) rfl) ?_
  obtain ⟨y103, hy103, H⟩ := bnd H
  refine Tr.callF (r := (.bool y103)) (wn rfl) rfl rfl hg1 (evl_cons rfl evl_nil) (fun W hW => hf1 hW.all hW.extAll xL1 _ hy103) ?_
  refine Tr.nil (Tr.normThen ?_)
  refine Tr.cond rfl H (fun H => ?_) (fun H => ?_)
  ·refine Tr.sr ?_
   refine Tr.mv rfl rfl ?_
   refine Tr.asg rfl rfl ?_
   refine Tr.nil (Tr.normThen ?_)
   refine Tr.ret (Tr.retBlock (Tr.retThen (Tr.retThen (Tr.retBlock (Tr.retThen ?_)))))
   obtain rfl := Option.some.inj H
   exact Tr.out (m := [(iv (iL1 : Int))]) [] (res_tmp rfl res_nil) (fun W hW => ⟨rfl, hW.low leB⟩)
  ·refine Tr.skip (Tr.normBlock (Tr.normThen ?_))
   refine Tr.region ?_
   refine Tr.va rfl (fun _ _ h1 h2 => run_add (h1.ev rfl) (h1.ev rfl)) ?_
   refine Tr.mv rfl rfl ?_
   refine Tr.nil ?_
   exact Tr.backThen leL1 (restL1, (iL1 + 1)) ⟨rfl, range_tl hdL1, range_lt hdL1, H⟩ (.cons rfl (.cons rfl (.cons rfl (.cons (congrArg (fun z => some (Value.int .i64 z)) (range_up hdL1 hp0_0.form)) .nil)))) .nil

theorem F_panel_kindAt_ok {w : Bs} (p0 : TPanel) (Ap0_0 : Option Addr) (cp0_0 : Nat) (hp0_0 : Sl w.R w.W fl_TBoardKind Ap0_0 cp0_0 p0.Kinds) (Ap0_1 : Option Addr) (cp0_1 : Nat) (hp0_1 : Sl w.R w.W fl_TSlot Ap0_1 cp0_1 p0.Slots) (Ap0_2 : Option Addr) (cp0_2 : Nat) (hp0_2 : Sl w.R w.W fl_TPoint Ap0_2 cp0_2 p0.Marks) (p1 : ByteArray) (r : Int) (H : F_panel_kindAt p0 p1 = some r) (hE : HF w w.W E0) : Calls Tryz.prog 66 [(.agg #[(iv p0.W), (iv p0.H), (iv p0.Rail), (iv p0.Gap), (.slice Ap0_0 (p0.Kinds).length cp0_0), (.slice Ap0_1 (p0.Slots).length cp0_1), (.slice Ap0_2 (p0.Marks).length cp0_2)]), (sv p1)].toArray w.W fun e W' => e = .returned (iv r) ∧ HF w W' E0 := by
 unfold F_panel_kindAt at H
 have leB := Bs.Le.refl w
 refine Tr.enter (n := 9) Tryz.func66 rfl rfl rfl hE ?_
 refine Tr.sr ?_
 refine Tr.box 1 (cs := [(iv p0.W), (iv p0.H), (iv p0.Rail), (iv p0.Gap), (.slice Ap0_0 (p0.Kinds).length cp0_0), (.slice Ap0_1 (p0.Slots).length cp0_1), (.slice Ap0_2 (p0.Marks).length cp0_2)]) (wn rfl) rfl rfl rfl fun b100 => ?_
 refine Tr.box 2 (cs := [(sv p1)]) (wn rfl) rfl rfl rfl fun b101 => ?_
 refine Tr.asg rfl rfl ?_
 refine Tr.nil (Tr.normThen ?_)
 refine Tr.sr ?_
 refine Tr.va rfl (fun _ _ h1 h2 => run_fieldAddr fo_26_4 (h1.ev rfl)) ?_
 refine Tr.va rfl (fun _ _ h1 h2 => run_load1 ag_22 (h1.ev rfl) (rdb h2 (vs := [(iv p0.W), (iv p0.H), (iv p0.Rail), (iv p0.Gap), (.slice Ap0_0 (p0.Kinds).length cp0_0), (.slice Ap0_1 (p0.Slots).length cp0_1), (.slice Ap0_2 (p0.Marks).length cp0_2)]) (k := 1) rfl 4) rfl) ?_
 refine Tr.mkFunc (vs := [(.pointer (some ⟨b101, 0, none⟩))]) (wn rfl) rfl (evl_cons rfl evl_nil) ?_
 obtain ⟨y102, hy102, H⟩ := bnd H
 refine Tr.call0 (r := (iv y102)) (wn rfl) rfl Tryz.call90 (evl_cons rfl (evl_cons rfl evl_nil)) (fun W hW => F_slices_IndexFunc_BoardKind_ok p0.Kinds Ap0_0 cp0_0 (hp0_0.ext hW.extAll) (fun z0 => F_panel_kindAt_1 z0 p1) 91 [(.pointer (some ⟨b101, 0, none⟩))] Tryz.call91 (fun w' he z0 y hy => F_panel_kindAt_1_ok z0 p1 b101 (he.r _ (hW.capR (k := 2) rfl)) (he.cells (hW.capR (k := 2) rfl) (hW.capC (k := 2) rfl)) y hy (HF.start _)) y102 hy102 (HF.start _)) ?_
 refine Tr.asg rfl rfl ?_
 refine Tr.nil (Tr.normThen ?_)
 refine Tr.ret ?_
 obtain rfl := Option.some.inj H
 exact Tr.out (m := [(iv y102)]) [] (res_tmp rfl res_nil) (fun W hW => ⟨rfl, hW.low leB⟩)

theorem F_panel_sizeOf_ok {w : Bs} (p0 : TBoardKind) (p1 : Int) (r : (Int × Int)) (H : F_panel_sizeOf p0 p1 = some r) (hE : HF w w.W E0) : Calls Tryz.prog 92 [(.agg #[(sv p0.Name), (iv p0.W), (iv p0.H)]), (iv p1)].toArray w.W fun e W' => e = .returned (.tuple #[(iv r.1), (iv r.2)]) ∧ HF w W' E0 := by
 unfold F_panel_sizeOf at H
 have leB := Bs.Le.refl w
 refine Tr.enter (n := 17) Tryz.func92 rfl rfl rfl hE ?_
 refine Tr.sr ?_
 refine Tr.box 1 (cs := [(sv p0.Name), (iv p0.W), (iv p0.H)]) (wn rfl) rfl rfl rfl fun b100 => ?_
 refine Tr.asg rfl rfl ?_
 refine Tr.asg rfl rfl ?_
 refine Tr.nil (Tr.normThen ?_)
 refine Tr.seq ?_
 refine Tr.sr ?_
 refine Tr.mv rfl rfl ?_
 refine Tr.va rfl (fun _ _ h1 h2 => run_rem (h1.ev rfl) (h1.ev rfl) (by decide)) ?_
 refine Tr.va rfl (fun _ _ h1 h2 => run_eql (h1.ev rfl) (h1.ev rfl)) ?_
 refine Tr.nil (Tr.normThen ?_)
 refine Tr.cond rfl H (fun H => ?_) (fun H => ?_)
 ·refine Tr.seq ?_
  refine Tr.draw (by kernel_rfl) (by kernel_rfl) ?_
  refine Tq.va rfl (fun _ _ h1 h2 => run_fieldAddr fo_49_2 (h1.ev rfl)) ?_
  refine Tq.va rfl (fun _ _ h1 h2 => run_load1 ag_3 (h1.ev rfl) (rdb h2 (vs := [(sv p0.Name), (iv p0.W), (iv p0.H)]) (k := 1) rfl 2) rfl) ?_
  refine Tq.va rfl (fun _ _ h1 h2 => run_fieldAddr fo_49_1 (h1.ev rfl)) ?_
  refine Tq.va rfl (fun _ _ h1 h2 => run_load1 ag_3 (h1.ev rfl) (rdb h2 (vs := [(sv p0.Name), (iv p0.W), (iv p0.H)]) (k := 1) rfl 1) rfl) ?_
  refine Tq.asg rfl rfl ?_
  refine Tq.asg rfl rfl ?_
  refine Tq.nil (Tr.normThen ?_)
  refine Tr.ret (Tr.retThen ?_)
  obtain rfl := Option.some.inj H
  exact Tr.out (m := [(iv p0.H), (iv p0.W)]) [] (res_tmp rfl (res_tmp rfl res_nil)) (fun W hW => ⟨rfl, hW.low leB⟩)
 ·refine Tr.skip (Tr.normThen ?_)
  refine Tr.seq ?_
  refine Tr.draw (by kernel_rfl) (by kernel_rfl) ?_
  refine Tq.va rfl (fun _ _ h1 h2 => run_fieldAddr fo_49_1 (h1.ev rfl)) ?_
  refine Tq.va rfl (fun _ _ h1 h2 => run_load1 ag_3 (h1.ev rfl) (rdb h2 (vs := [(sv p0.Name), (iv p0.W), (iv p0.H)]) (k := 1) rfl 1) rfl) ?_
  refine Tq.va rfl (fun _ _ h1 h2 => run_fieldAddr fo_49_2 (h1.ev rfl)) ?_
  refine Tq.va rfl (fun _ _ h1 h2 => run_load1 ag_3 (h1.ev rfl) (rdb h2 (vs := [(sv p0.Name), (iv p0.W), (iv p0.H)]) (k := 1) rfl 2) rfl) ?_
  refine Tq.asg rfl rfl ?_
  refine Tq.asg rfl rfl ?_
  refine Tq.nil (Tr.normThen ?_)
  refine Tr.ret ?_
  obtain rfl := Option.some.inj H
  exact Tr.out (m := [(iv p0.W), (iv p0.H)]) [] (res_tmp rfl (res_tmp rfl res_nil)) (fun W hW => ⟨rfl, hW.low leB⟩)

theorem F_panel_cellOf_ok {w : Bs} (p0 : TPanel) (Ap0_0 : Option Addr) (cp0_0 : Nat) (hp0_0 : Sl w.R w.W fl_TBoardKind Ap0_0 cp0_0 p0.Kinds) (Ap0_1 : Option Addr) (cp0_1 : Nat) (hp0_1 : Sl w.R w.W fl_TSlot Ap0_1 cp0_1 p0.Slots) (Ap0_2 : Option Addr) (cp0_2 : Nat) (hp0_2 : Sl w.R w.W fl_TPoint Ap0_2 cp0_2 p0.Marks) (p1 : TSlot) (r : TRect) (H : F_panel_cellOf p0 p1 = some r) (hE : HF w w.W E0) : Calls Tryz.prog 67 [(.agg #[(iv p0.W), (iv p0.H), (iv p0.Rail), (iv p0.Gap), (.slice Ap0_0 (p0.Kinds).length cp0_0), (.slice Ap0_1 (p0.Slots).length cp0_1), (.slice Ap0_2 (p0.Marks).length cp0_2)]), (.agg #[(sv p1.Board), (iv p1.Quarters), (iv p1.At.X), (iv p1.At.Y)])].toArray w.W fun e W' => e = .returned (.agg #[(iv r.X0), (iv r.Y0), (iv r.X1), (iv r.Y1)]) ∧ HF w W' E0 := by
 unfold F_panel_cellOf at H
 have leB := Bs.Le.refl w
 refine Tr.enter (n := 38) Tryz.func67 rfl rfl rfl hE ?_
 refine Tr.sr ?_
 refine Tr.box 1 (cs := [(iv p0.W), (iv p0.H), (iv p0.Rail), (iv p0.Gap), (.slice Ap0_0 (p0.Kinds).length cp0_0), (.slice Ap0_1 (p0.Slots).length cp0_1), (.slice Ap0_2 (p0.Marks).length cp0_2)]) (wn rfl) rfl rfl rfl fun b100 => ?_
 refine Tr.box 2 (cs := [(sv p1.Board), (iv p1.Quarters), (iv p1.At.X), (iv p1.At.Y)]) (wn rfl) rfl rfl rfl fun b101 => ?_
 refine Tr.alloc 3 (wn rfl) rfl ze_86 fun b102 => ?_
 refine Tr.nil (Tr.normThen ?_)
 refine Tr.seq ?_
 refine Tr.draw (by kernel_rfl) (by kernel_rfl) ?_
 refine Tq.va rfl (fun _ _ h1 h2 => run_fieldAddr fo_26_4 (h1.ev rfl)) ?_
 refine Tq.va rfl (fun _ _ h1 h2 => run_load1 ag_22 (h1.ev rfl) (rdb h2 (vs := [(iv p0.W), (iv p0.H), (iv p0.Rail), (iv p0.Gap), (.slice Ap0_0 (p0.Kinds).length cp0_0), (.slice Ap0_1 (p0.Slots).length cp0_1), (.slice Ap0_2 (p0.Marks).length cp0_2)]) (k := 1) rfl 4) rfl) ?_
 refine Tq.va rfl (fun _ _ h1 h2 => run_loadN (cs := [(iv p0.W), (iv p0.H), (iv p0.Rail), (iv p0.Gap), (.slice Ap0_0 (p0.Kinds).length cp0_0), (.slice Ap0_1 (p0.Slots).length cp0_1), (.slice Ap0_2 (p0.Marks).length cp0_2)]) ag_26 sz_26 (h1.ev rfl) (CellsAt.take (rdb h2 (vs := [(iv p0.W), (iv p0.H), (iv p0.Rail), (iv p0.Gap), (.slice Ap0_0 (p0.Kinds).length cp0_0), (.slice Ap0_1 (p0.Slots).length cp0_1), (.slice Ap0_2 (p0.Marks).length cp0_2)]) (k := 1) rfl 0) 7) rfl) ?_
 refine Tq.va rfl (fun _ _ h1 h2 => run_fieldAddr fo_53_0 (h1.ev rfl)) ?_
 refine Tq.va rfl (fun _ _ h1 h2 => run_load1 ag_9 (h1.ev rfl) (rdb h2 (vs := [(sv p1.Board), (iv p1.Quarters), (iv p1.At.X), (iv p1.At.Y)]) (k := 2) rfl 0) rfl) ?_
 obtain ⟨y103, hy103, H⟩ := bnd H
 refine Tq.call0 (r := (iv y103)) (wn rfl) rfl Tryz.call66 (evl_cons rfl (evl_cons rfl evl_nil)) (fun W hW => F_panel_kindAt_ok p0 Ap0_0 cp0_0 (hp0_0.ext hW.extAll) Ap0_1 cp0_1 (hp0_1.ext hW.extAll) Ap0_2 cp0_2 (hp0_2.ext hW.extAll) p1.Board y103 hy103 (HF.start _)) ?_
 obtain ⟨x104, hx104, H⟩ := bnd H
 obtain ⟨hx1040, hx1041, hx1042⟩ := idx_some hx104
 refine Tq.va rfl (fun _ _ h1 h2 => run_indexAddr el_22 (h1.ev rfl) hp0_0.form (h1.ev rfl) hx1040 hx1041) ?_
 refine Tq.va rfl (fun _ _ h1 h2 => run_loadN (cs := [(sv x104.Name), (iv x104.W), (iv x104.H)]) ag_49 sz_49 (h1.ev rfl) (CellsAt.take (rdF ef_TBoardKind hp0_0 hx1042 h2) 3) rfl) ?_
 refine Tq.va rfl (fun _ _ h1 h2 => run_fieldAddr fo_53_1 (h1.ev rfl)) ?_
 refine Tq.va rfl (fun _ _ h1 h2 => run_load1 ag_3 (h1.ev rfl) (rdb h2 (vs := [(sv p1.Board), (iv p1.Quarters), (iv p1.At.X), (iv p1.At.Y)]) (k := 2) rfl 1) rfl) ?_
 obtain ⟨y105, hy105, H⟩ := bnd H
 refine Tq.call0 (r := (.tuple #[(iv y105.1), (iv y105.2)])) (wn rfl) rfl Tryz.call92 (evl_cons rfl (evl_cons rfl evl_nil)) (fun W hW => F_panel_sizeOf_ok x104 p1.Quarters y105 hy105 (HF.start _)) ?_
 refine Tq.mv rfl rfl ?_
 refine Tq.va rfl (fun _ _ h1 h2 => run_extract (h1.ev rfl) rfl) ?_
 refine Tq.va rfl (fun _ _ h1 h2 => run_extract (h1.ev rfl) rfl) ?_
 refine Tq.asg rfl rfl ?_
 refine Tq.asg rfl rfl ?_
 refine Tq.nil (Tr.normThen ?_)
 refine Tr.sr ?_
 refine Tr.va rfl (fun _ _ h1 h2 => run_fieldAddr fo_53_2 (h1.ev rfl)) ?_
 refine Tr.va rfl (fun _ _ h1 h2 => run_fieldAddr fo_51_0 (h1.ev rfl)) ?_
 refine Tr.va rfl (fun _ _ h1 h2 => run_load1 ag_3 (h1.ev rfl) (rdb h2 (vs := [(sv p1.Board), (iv p1.Quarters), (iv p1.At.X), (iv p1.At.Y)]) (k := 2) rfl 2) rfl) ?_
 refine Tr.va rfl (fun _ _ h1 h2 => run_fieldAddr fo_53_2 (h1.ev rfl)) ?_
 refine Tr.va rfl (fun _ _ h1 h2 => run_fieldAddr fo_51_1 (h1.ev rfl)) ?_
 refine Tr.va rfl (fun _ _ h1 h2 => run_load1 ag_3 (h1.ev rfl) (rdb h2 (vs := [(sv p1.Board), (iv p1.Quarters), (iv p1.At.X), (iv p1.At.Y)]) (k := 2) rfl 3) rfl) ?_
 refine Tr.va rfl (fun _ _ h1 h2 => run_fieldAddr fo_53_2 (h1.ev rfl)) ?_
 refine Tr.va rfl (fun _ _ h1 h2 => run_fieldAddr fo_51_0 (h1.ev rfl)) ?_
 refine Tr.va rfl (fun _ _ h1 h2 => run_load1 ag_3 (h1.ev rfl) (rdb h2 (vs := [(sv p1.Board), (iv p1.Quarters), (iv p1.At.X), (iv p1.At.Y)]) (k := 2) rfl 2) rfl) ?_
 refine Tr.mv rfl rfl ?_
 refine Tr.va rfl (fun _ _ h1 h2 => run_add (h1.ev rfl) (h1.ev rfl)) ?_
 refine Tr.va rfl (fun _ _ h1 h2 => run_fieldAddr fo_53_2 (h1.ev rfl)) ?_
 refine Tr.va rfl (fun _ _ h1 h2 => run_fieldAddr fo_51_1 (h1.ev rfl)) ?_
 refine Tr.va rfl (fun _ _ h1 h2 => run_load1 ag_3 (h1.ev rfl) (rdb h2 (vs := [(sv p1.Board), (iv p1.Quarters), (iv p1.At.X), (iv p1.At.Y)]) (k := 2) rfl 3) rfl) ?_
 refine Tr.mv rfl rfl ?_
 refine Tr.va rfl (fun _ _ h1 h2 => run_add (h1.ev rfl) (h1.ev rfl)) ?_
 refine Tr.build (vs := [(0, (iv p1.At.X)), (1, (iv p1.At.Y)), (2, (iv (w64 (p1.At.X + y105.1)))), (3, (iv (w64 (p1.At.Y + y105.2))))]) (cs := [(iv p1.At.X), (iv p1.At.Y), (iv (w64 (p1.At.X + y105.1))), (iv (w64 (p1.At.Y + y105.2)))]) (wn rfl) rfl (evs_cons rfl (evs_cons rfl (evs_cons rfl (evs_cons rfl evs_nil)))) (by kernel_rfl) ?_
 refine Tr.store 3 (cs := [(iv p1.At.X), (iv p1.At.Y), (iv (w64 (p1.At.X + y105.1))), (iv (w64 (p1.At.Y + y105.2)))]) [(iv p1.At.X), (iv p1.At.Y), (iv (w64 (p1.At.X + y105.1))), (iv (w64 (p1.At.Y + y105.2)))] (wn rfl) rfl rfl rfl rfl sz_86 rfl rfl rfl ?_
 refine Tr.nil (Tr.normThen ?_)
 refine Tr.ret ?_
 obtain rfl := Option.some.inj H
 exact Tr.out (m := [(.agg #[(iv p1.At.X), (iv p1.At.Y), (iv (w64 (p1.At.X + y105.1))), (iv (w64 (p1.At.Y + y105.2)))])]) [3] (res_cell rfl rfl ag_86 sz_86 res_nil) (fun W hW => ⟨rfl, hW.low leB⟩)

theorem F_panel_isOn_ok {w : Bs} (p0 : TPanel) (Ap0_0 : Option Addr) (cp0_0 : Nat) (hp0_0 : Sl w.R w.W fl_TBoardKind Ap0_0 cp0_0 p0.Kinds) (Ap0_1 : Option Addr) (cp0_1 : Nat) (hp0_1 : Sl w.R w.W fl_TSlot Ap0_1 cp0_1 p0.Slots) (Ap0_2 : Option Addr) (cp0_2 : Nat) (hp0_2 : Sl w.R w.W fl_TPoint Ap0_2 cp0_2 p0.Marks) (p1 : TRect) (r : Bool) (H : F_panel_isOn p0 p1 = some r) (hE : HF w w.W E0) : Calls Tryz.prog 68 [(.agg #[(iv p0.W), (iv p0.H), (iv p0.Rail), (iv p0.Gap), (.slice Ap0_0 (p0.Kinds).length cp0_0), (.slice Ap0_1 (p0.Slots).length cp0_1), (.slice Ap0_2 (p0.Marks).length cp0_2)]), (.agg #[(iv p1.X0), (iv p1.Y0), (iv p1.X1), (iv p1.Y1)])].toArray w.W fun e W' => e = .returned (.bool r) ∧ HF w W' E0 := by
 unfold F_panel_isOn at H
 have leB := Bs.Le.refl w
 refine Tr.enter (n := 51) Tryz.func68 rfl rfl rfl hE ?_
 refine Tr.sr ?_
 refine Tr.box 1 (cs := [(iv p0.W), (iv p0.H), (iv p0.Rail), (iv p0.Gap), (.slice Ap0_0 (p0.Kinds).length cp0_0), (.slice Ap0_1 (p0.Slots).length cp0_1), (.slice Ap0_2 (p0.Marks).length cp0_2)]) (wn rfl) rfl rfl rfl fun b100 => ?_
 refine Tr.box 2 (cs := [(iv p1.X0), (iv p1.Y0), (iv p1.X1), (iv p1.Y1)]) (wn rfl) rfl rfl rfl fun b101 => ?_
 refine Tr.asg rfl rfl ?_
 refine Tr.nil (Tr.normThen ?_)
 refine Tr.sr ?_
 refine Tr.va rfl (fun _ _ h1 h2 => run_fieldAddr fo_86_0 (h1.ev rfl)) ?_
 refine Tr.va rfl (fun _ _ h1 h2 => run_load1 ag_3 (h1.ev rfl) (rdb h2 (vs := [(iv p1.X0), (iv p1.Y0), (iv p1.X1), (iv p1.Y1)]) (k := 2) rfl 0) rfl) ?_
 refine Tr.va rfl (fun _ _ h1 h2 => run_fieldAddr fo_26_2 (h1.ev rfl)) ?_
 refine Tr.va rfl (fun _ _ h1 h2 => run_load1 ag_3 (h1.ev rfl) (rdb h2 (vs := [(iv p0.W), (iv p0.H), (iv p0.Rail), (iv p0.Gap), (.slice Ap0_0 (p0.Kinds).length cp0_0), (.slice Ap0_1 (p0.Slots).length cp0_1), (.slice Ap0_2 (p0.Marks).length cp0_2)]) (k := 1) rfl 2) rfl) ?_
 refine Tr.va rfl (fun _ _ h1 h2 => run_geq (h1.ev rfl) (h1.ev rfl)) ?_
 refine Tr.mv rfl rfl ?_
 refine Tr.mid0 6 [(2, (.pointer (some ⟨b100, 0, none⟩))), (3, (.pointer (some ⟨b101, 0, none⟩))), (16, (.bool ((decide (p0.Rail ≤ p1.X0)) && (decide (p0.Rail ≤ p1.Y0)))))] [(1, bx b100 #[(iv p0.W), (iv p0.H), (iv p0.Rail), (iv p0.Gap), (.slice Ap0_0 (p0.Kinds).length cp0_0), (.slice Ap0_1 (p0.Slots).length cp0_1), (.slice Ap0_2 (p0.Marks).length cp0_2)] 26), (2, bx b101 #[(iv p1.X0), (iv p1.Y0), (iv p1.X1), (iv p1.Y1)] 86)] ?_ ?_
 ·cases hg101 : (decide (p0.Rail ≤ p1.X0))
  ·refine Tr.pass rfl rfl rfl rfl rfl (by decide) ?_
   refine Tr.pass rfl rfl rfl rfl rfl (by decide) ?_
   refine Tr.pass rfl rfl rfl rfl rfl (by decide) ?_
   refine Tr.pass rfl rfl rfl rfl rfl (by decide) ?_
   refine Tr.pass rfl rfl rfl rfl rfl (by decide) ?_
   refine Tr.va rfl (fun _ _ h1 h2 => run_pickF (h1.ev rfl) (h1.ev rfl)) ?_
   exact Tr.nil (Tr.fin0 (.cons rfl (.cons rfl (.cons rfl .nil))) (.cons rfl (.cons rfl .nil)))
  ·refine Tr.val (wg rfl rfl rfl) rfl (fun _ _ h1 h2 => run_fieldAddr fo_86_1 (h1.ev rfl)) ?_
   refine Tr.val (wg rfl rfl rfl) rfl (fun _ _ h1 h2 => run_load1 ag_3 (h1.ev rfl) (rdb h2 (vs := [(iv p1.X0), (iv p1.Y0), (iv p1.X1), (iv p1.Y1)]) (k := 2) rfl 1) rfl) ?_
   refine Tr.val (wg rfl rfl rfl) rfl (fun _ _ h1 h2 => run_fieldAddr fo_26_2 (h1.ev rfl)) ?_
   refine Tr.val (wg rfl rfl rfl) rfl (fun _ _ h1 h2 => run_load1 ag_3 (h1.ev rfl) (rdb h2 (vs := [(iv p0.W), (iv p0.H), (iv p0.Rail), (iv p0.Gap), (.slice Ap0_0 (p0.Kinds).length cp0_0), (.slice Ap0_1 (p0.Slots).length cp0_1), (.slice Ap0_2 (p0.Marks).length cp0_2)]) (k := 1) rfl 2) rfl) ?_
   refine Tr.val (wg rfl rfl rfl) rfl (fun _ _ h1 h2 => run_geq (h1.ev rfl) (h1.ev rfl)) ?_
   refine Tr.va rfl (fun _ _ h1 h2 => run_pickT (h1.ev rfl) (h1.ev rfl)) ?_
   exact Tr.nil (Tr.fin0 (.cons rfl (.cons rfl (.cons rfl .nil))) (.cons rfl (.cons rfl .nil)))
 ·show Tr _ _ (LF [(2, (.pointer (some ⟨b100, 0, none⟩))), (3, (.pointer (some ⟨b101, 0, none⟩))), (16, (.bool ((decide (p0.Rail ≤ p1.X0)) && (decide (p0.Rail ≤ p1.Y0)))))]) (LE [(1, bx b100 #[(iv p0.W), (iv p0.H), (iv p0.Rail), (iv p0.Gap), (.slice Ap0_0 (p0.Kinds).length cp0_0), (.slice Ap0_1 (p0.Slots).length cp0_1), (.slice Ap0_2 (p0.Marks).length cp0_2)] 26), (2, bx b101 #[(iv p1.X0), (iv p1.Y0), (iv p1.X1), (iv p1.Y1)] 86)]) _
  refine Tr.mv rfl rfl ?_
  refine Tr.mid0 6 [(2, (.pointer (some ⟨b100, 0, none⟩))), (3, (.pointer (some ⟨b101, 0, none⟩))), (23, (.bool (((decide (p0.Rail ≤ p1.X0)) && (decide (p0.Rail ≤ p1.Y0))) && (decide (p1.X0 ≤ p0.W)))))] [(1, bx b100 #[(iv p0.W), (iv p0.H), (iv p0.Rail), (iv p0.Gap), (.slice Ap0_0 (p0.Kinds).length cp0_0), (.slice Ap0_1 (p0.Slots).length cp0_1), (.slice Ap0_2 (p0.Marks).length cp0_2)] 26), (2, bx b101 #[(iv p1.X0), (iv p1.Y0), (iv p1.X1), (iv p1.Y1)] 86)] ?_ ?_
  ·cases hg101 : ((decide (p0.Rail ≤ p1.X0)) && (decide (p0.Rail ≤ p1.Y0)))
   ·refine Tr.pass rfl rfl rfl rfl rfl (by decide) ?_
    refine Tr.pass rfl rfl rfl rfl rfl (by decide) ?_
    refine Tr.pass rfl rfl rfl rfl rfl (by decide) ?_
    refine Tr.pass rfl rfl rfl rfl rfl (by decide) ?_
    refine Tr.pass rfl rfl rfl rfl rfl (by decide) ?_
    refine Tr.va rfl (fun _ _ h1 h2 => run_pickF (h1.ev rfl) (h1.ev rfl)) ?_
    exact Tr.nil (Tr.fin0 (.cons rfl (.cons rfl (.cons rfl .nil))) (.cons rfl (.cons rfl .nil)))
   ·refine Tr.val (wg rfl rfl rfl) rfl (fun _ _ h1 h2 => run_fieldAddr fo_86_0 (h1.ev rfl)) ?_
    refine Tr.val (wg rfl rfl rfl) rfl (fun _ _ h1 h2 => run_load1 ag_3 (h1.ev rfl) (rdb h2 (vs := [(iv p1.X0), (iv p1.Y0), (iv p1.X1), (iv p1.Y1)]) (k := 2) rfl 0) rfl) ?_
    refine Tr.val (wg rfl rfl rfl) rfl (fun _ _ h1 h2 => run_fieldAddr fo_26_0 (h1.ev rfl)) ?_
    refine Tr.val (wg rfl rfl rfl) rfl (fun _ _ h1 h2 => run_load1 ag_3 (h1.ev rfl) (rdb h2 (vs := [(iv p0.W), (iv p0.H), (iv p0.Rail), (iv p0.Gap), (.slice Ap0_0 (p0.Kinds).length cp0_0), (.slice Ap0_1 (p0.Slots).length cp0_1), (.slice Ap0_2 (p0.Marks).length cp0_2)]) (k := 1) rfl 0) rfl) ?_
    refine Tr.val (wg rfl rfl rfl) rfl (fun _ _ h1 h2 => run_leq (h1.ev rfl) (h1.ev rfl)) ?_
    refine Tr.va rfl (fun _ _ h1 h2 => run_pickT (h1.ev rfl) (h1.ev rfl)) ?_
    exact Tr.nil (Tr.fin0 (.cons rfl (.cons rfl (.cons rfl .nil))) (.cons rfl (.cons rfl .nil)))
  ·show Tr _ _ (LF [(2, (.pointer (some ⟨b100, 0, none⟩))), (3, (.pointer (some ⟨b101, 0, none⟩))), (23, (.bool (((decide (p0.Rail ≤ p1.X0)) && (decide (p0.Rail ≤ p1.Y0))) && (decide (p1.X0 ≤ p0.W)))))]) (LE [(1, bx b100 #[(iv p0.W), (iv p0.H), (iv p0.Rail), (iv p0.Gap), (.slice Ap0_0 (p0.Kinds).length cp0_0), (.slice Ap0_1 (p0.Slots).length cp0_1), (.slice Ap0_2 (p0.Marks).length cp0_2)] 26), (2, bx b101 #[(iv p1.X0), (iv p1.Y0), (iv p1.X1), (iv p1.Y1)] 86)]) _
   refine Tr.mv rfl rfl ?_
   refine Tr.mid0 6 [(2, (.pointer (some ⟨b100, 0, none⟩))), (3, (.pointer (some ⟨b101, 0, none⟩))), (30, (.bool ((((decide (p0.Rail ≤ p1.X0)) && (decide (p0.Rail ≤ p1.Y0))) && (decide (p1.X0 ≤ p0.W))) && (decide (p1.Y0 ≤ p0.H)))))] [(1, bx b100 #[(iv p0.W), (iv p0.H), (iv p0.Rail), (iv p0.Gap), (.slice Ap0_0 (p0.Kinds).length cp0_0), (.slice Ap0_1 (p0.Slots).length cp0_1), (.slice Ap0_2 (p0.Marks).length cp0_2)] 26), (2, bx b101 #[(iv p1.X0), (iv p1.Y0), (iv p1.X1), (iv p1.Y1)] 86)] ?_ ?_
   ·cases hg101 : (((decide (p0.Rail ≤ p1.X0)) && (decide (p0.Rail ≤ p1.Y0))) && (decide (p1.X0 ≤ p0.W)))
    ·refine Tr.pass rfl rfl rfl rfl rfl (by decide) ?_
     refine Tr.pass rfl rfl rfl rfl rfl (by decide) ?_
     refine Tr.pass rfl rfl rfl rfl rfl (by decide) ?_
     refine Tr.pass rfl rfl rfl rfl rfl (by decide) ?_
     refine Tr.pass rfl rfl rfl rfl rfl (by decide) ?_
     refine Tr.va rfl (fun _ _ h1 h2 => run_pickF (h1.ev rfl) (h1.ev rfl)) ?_
     exact Tr.nil (Tr.fin0 (.cons rfl (.cons rfl (.cons rfl .nil))) (.cons rfl (.cons rfl .nil)))
    ·refine Tr.val (wg rfl rfl rfl) rfl (fun _ _ h1 h2 => run_fieldAddr fo_86_1 (h1.ev rfl)) ?_
     refine Tr.val (wg rfl rfl rfl) rfl (fun _ _ h1 h2 => run_load1 ag_3 (h1.ev rfl) (rdb h2 (vs := [(iv p1.X0), (iv p1.Y0), (iv p1.X1), (iv p1.Y1)]) (k := 2) rfl 1) rfl) ?_
     refine Tr.val (wg rfl rfl rfl) rfl (fun _ _ h1 h2 => run_fieldAddr fo_26_1 (h1.ev rfl)) ?_
     refine Tr.val (wg rfl rfl rfl) rfl (fun _ _ h1 h2 => run_load1 ag_3 (h1.ev rfl) (rdb h2 (vs := [(iv p0.W), (iv p0.H), (iv p0.Rail), (iv p0.Gap), (.slice Ap0_0 (p0.Kinds).length cp0_0), (.slice Ap0_1 (p0.Slots).length cp0_1), (.slice Ap0_2 (p0.Marks).length cp0_2)]) (k := 1) rfl 1) rfl) ?_
     refine Tr.val (wg rfl rfl rfl) rfl (fun _ _ h1 h2 => run_leq (h1.ev rfl) (h1.ev rfl)) ?_
     refine Tr.va rfl (fun _ _ h1 h2 => run_pickT (h1.ev rfl) (h1.ev rfl)) ?_
     exact Tr.nil (Tr.fin0 (.cons rfl (.cons rfl (.cons rfl .nil))) (.cons rfl (.cons rfl .nil)))
   ·show Tr _ _ (LF [(2, (.pointer (some ⟨b100, 0, none⟩))), (3, (.pointer (some ⟨b101, 0, none⟩))), (30, (.bool ((((decide (p0.Rail ≤ p1.X0)) && (decide (p0.Rail ≤ p1.Y0))) && (decide (p1.X0 ≤ p0.W))) && (decide (p1.Y0 ≤ p0.H)))))]) (LE [(1, bx b100 #[(iv p0.W), (iv p0.H), (iv p0.Rail), (iv p0.Gap), (.slice Ap0_0 (p0.Kinds).length cp0_0), (.slice Ap0_1 (p0.Slots).length cp0_1), (.slice Ap0_2 (p0.Marks).length cp0_2)] 26), (2, bx b101 #[(iv p1.X0), (iv p1.Y0), (iv p1.X1), (iv p1.Y1)] 86)]) _
    refine Tr.mv rfl rfl ?_
    refine Tr.mid0 9 [(2, (.pointer (some ⟨b100, 0, none⟩))), (3, (.pointer (some ⟨b101, 0, none⟩))), (40, (.bool (((((decide (p0.Rail ≤ p1.X0)) && (decide (p0.Rail ≤ p1.Y0))) && (decide (p1.X0 ≤ p0.W))) && (decide (p1.Y0 ≤ p0.H))) && (decide (p1.X1 ≤ (w64 (p0.W - p0.Rail)))))))] [(1, bx b100 #[(iv p0.W), (iv p0.H), (iv p0.Rail), (iv p0.Gap), (.slice Ap0_0 (p0.Kinds).length cp0_0), (.slice Ap0_1 (p0.Slots).length cp0_1), (.slice Ap0_2 (p0.Marks).length cp0_2)] 26), (2, bx b101 #[(iv p1.X0), (iv p1.Y0), (iv p1.X1), (iv p1.Y1)] 86)] ?_ ?_
    ·cases hg101 : ((((decide (p0.Rail ≤ p1.X0)) && (decide (p0.Rail ≤ p1.Y0))) && (decide (p1.X0 ≤ p0.W))) && (decide (p1.Y0 ≤ p0.H)))
     ·refine Tr.pass rfl rfl rfl rfl rfl (by decide) ?_
      refine Tr.pass rfl rfl rfl rfl rfl (by decide) ?_
      refine Tr.pass rfl rfl rfl rfl rfl (by decide) ?_
      refine Tr.pass rfl rfl rfl rfl rfl (by decide) ?_
      refine Tr.pass rfl rfl rfl rfl rfl (by decide) ?_
      refine Tr.pass rfl rfl rfl rfl rfl (by decide) ?_
      refine Tr.pass rfl rfl rfl rfl rfl (by decide) ?_
      refine Tr.pass rfl rfl rfl rfl rfl (by decide) ?_
      refine Tr.va rfl (fun _ _ h1 h2 => run_pickF (h1.ev rfl) (h1.ev rfl)) ?_
      exact Tr.nil (Tr.fin0 (.cons rfl (.cons rfl (.cons rfl .nil))) (.cons rfl (.cons rfl .nil)))
     ·refine Tr.val (wg rfl rfl rfl) rfl (fun _ _ h1 h2 => run_fieldAddr fo_86_2 (h1.ev rfl)) ?_
      refine Tr.val (wg rfl rfl rfl) rfl (fun _ _ h1 h2 => run_load1 ag_3 (h1.ev rfl) (rdb h2 (vs := [(iv p1.X0), (iv p1.Y0), (iv p1.X1), (iv p1.Y1)]) (k := 2) rfl 2) rfl) ?_
      refine Tr.val (wg rfl rfl rfl) rfl (fun _ _ h1 h2 => run_fieldAddr fo_26_0 (h1.ev rfl)) ?_
      refine Tr.val (wg rfl rfl rfl) rfl (fun _ _ h1 h2 => run_load1 ag_3 (h1.ev rfl) (rdb h2 (vs := [(iv p0.W), (iv p0.H), (iv p0.Rail), (iv p0.Gap), (.slice Ap0_0 (p0.Kinds).length cp0_0), (.slice Ap0_1 (p0.Slots).length cp0_1), (.slice Ap0_2 (p0.Marks).length cp0_2)]) (k := 1) rfl 0) rfl) ?_
      refine Tr.val (wg rfl rfl rfl) rfl (fun _ _ h1 h2 => run_fieldAddr fo_26_2 (h1.ev rfl)) ?_
      refine Tr.val (wg rfl rfl rfl) rfl (fun _ _ h1 h2 => run_load1 ag_3 (h1.ev rfl) (rdb h2 (vs := [(iv p0.W), (iv p0.H), (iv p0.Rail), (iv p0.Gap), (.slice Ap0_0 (p0.Kinds).length cp0_0), (.slice Ap0_1 (p0.Slots).length cp0_1), (.slice Ap0_2 (p0.Marks).length cp0_2)]) (k := 1) rfl 2) rfl) ?_
      refine Tr.val (wg rfl rfl rfl) rfl (fun _ _ h1 h2 => run_sub (h1.ev rfl) (h1.ev rfl)) ?_
      refine Tr.val (wg rfl rfl rfl) rfl (fun _ _ h1 h2 => run_leq (h1.ev rfl) (h1.ev rfl)) ?_
      refine Tr.va rfl (fun _ _ h1 h2 => run_pickT (h1.ev rfl) (h1.ev rfl)) ?_
      exact Tr.nil (Tr.fin0 (.cons rfl (.cons rfl (.cons rfl .nil))) (.cons rfl (.cons rfl .nil)))
    ·show Tr _ _ (LF [(2, (.pointer (some ⟨b100, 0, none⟩))), (3, (.pointer (some ⟨b101, 0, none⟩))), (40, (.bool (((((decide (p0.Rail ≤ p1.X0)) && (decide (p0.Rail ≤ p1.Y0))) && (decide (p1.X0 ≤ p0.W))) && (decide (p1.Y0 ≤ p0.H))) && (decide (p1.X1 ≤ (w64 (p0.W - p0.Rail)))))))]) (LE [(1, bx b100 #[(iv p0.W), (iv p0.H), (iv p0.Rail), (iv p0.Gap), (.slice Ap0_0 (p0.Kinds).length cp0_0), (.slice Ap0_1 (p0.Slots).length cp0_1), (.slice Ap0_2 (p0.Marks).length cp0_2)] 26), (2, bx b101 #[(iv p1.X0), (iv p1.Y0), (iv p1.X1), (iv p1.Y1)] 86)]) _
     refine Tr.mv rfl rfl ?_
     refine Tr.mid0 9 [(50, (.bool ((((((decide (p0.Rail ≤ p1.X0)) && (decide (p0.Rail ≤ p1.Y0))) && (decide (p1.X0 ≤ p0.W))) && (decide (p1.Y0 ≤ p0.H))) && (decide (p1.X1 ≤ (w64 (p0.W - p0.Rail))))) && (decide (p1.Y1 ≤ (w64 (p0.H - p0.Rail)))))))] [(1, bx b100 #[(iv p0.W), (iv p0.H), (iv p0.Rail), (iv p0.Gap), (.slice Ap0_0 (p0.Kinds).length cp0_0), (.slice Ap0_1 (p0.Slots).length cp0_1), (.slice Ap0_2 (p0.Marks).length cp0_2)] 26), (2, bx b101 #[(iv p1.X0), (iv p1.Y0), (iv p1.X1), (iv p1.Y1)] 86)] ?_ ?_
     ·cases hg101 : (((((decide (p0.Rail ≤ p1.X0)) && (decide (p0.Rail ≤ p1.Y0))) && (decide (p1.X0 ≤ p0.W))) && (decide (p1.Y0 ≤ p0.H))) && (decide (p1.X1 ≤ (w64 (p0.W - p0.Rail)))))
      ·refine Tr.pass rfl rfl rfl rfl rfl (by decide) ?_
       refine Tr.pass rfl rfl rfl rfl rfl (by decide) ?_
       refine Tr.pass rfl rfl rfl rfl rfl (by decide) ?_
       refine Tr.pass rfl rfl rfl rfl rfl (by decide) ?_
       refine Tr.pass rfl rfl rfl rfl rfl (by decide) ?_
       refine Tr.pass rfl rfl rfl rfl rfl (by decide) ?_
       refine Tr.pass rfl rfl rfl rfl rfl (by decide) ?_
       refine Tr.pass rfl rfl rfl rfl rfl (by decide) ?_
       refine Tr.va rfl (fun _ _ h1 h2 => run_pickF (h1.ev rfl) (h1.ev rfl)) ?_
       exact Tr.nil (Tr.fin0 (.cons rfl .nil) (.cons rfl (.cons rfl .nil)))
      ·refine Tr.val (wg rfl rfl rfl) rfl (fun _ _ h1 h2 => run_fieldAddr fo_86_3 (h1.ev rfl)) ?_
       refine Tr.val (wg rfl rfl rfl) rfl (fun _ _ h1 h2 => run_load1 ag_3 (h1.ev rfl) (rdb h2 (vs := [(iv p1.X0), (iv p1.Y0), (iv p1.X1), (iv p1.Y1)]) (k := 2) rfl 3) rfl) ?_
       refine Tr.val (wg rfl rfl rfl) rfl (fun _ _ h1 h2 => run_fieldAddr fo_26_1 (h1.ev rfl)) ?_
       refine Tr.val (wg rfl rfl rfl) rfl (fun _ _ h1 h2 => run_load1 ag_3 (h1.ev rfl) (rdb h2 (vs := [(iv p0.W), (iv p0.H), (iv p0.Rail), (iv p0.Gap), (.slice Ap0_0 (p0.Kinds).length cp0_0), (.slice Ap0_1 (p0.Slots).length cp0_1), (.slice Ap0_2 (p0.Marks).length cp0_2)]) (k := 1) rfl 1) rfl) ?_
       refine Tr.val (wg rfl rfl rfl) rfl (fun _ _ h1 h2 => run_fieldAddr fo_26_2 (h1.ev rfl)) ?_
       refine Tr.val (wg rfl rfl rfl) rfl (fun _ _ h1 h2 => run_load1 ag_3 (h1.ev rfl) (rdb h2 (vs := [(iv p0.W), (iv p0.H), (iv p0.Rail), (iv p0.Gap), (.slice Ap0_0 (p0.Kinds).length cp0_0), (.slice Ap0_1 (p0.Slots).length cp0_1), (.slice Ap0_2 (p0.Marks).length cp0_2)]) (k := 1) rfl 2) rfl) ?_
       refine Tr.val (wg rfl rfl rfl) rfl (fun _ _ h1 h2 => run_sub (h1.ev rfl) (h1.ev rfl)) ?_
       refine Tr.val (wg rfl rfl rfl) rfl (fun _ _ h1 h2 => run_leq (h1.ev rfl) (h1.ev rfl)) ?_
       refine Tr.va rfl (fun _ _ h1 h2 => run_pickT (h1.ev rfl) (h1.ev rfl)) ?_
       exact Tr.nil (Tr.fin0 (.cons rfl .nil) (.cons rfl (.cons rfl .nil)))
     ·show Tr _ _ (LF [(50, (.bool ((((((decide (p0.Rail ≤ p1.X0)) && (decide (p0.Rail ≤ p1.Y0))) && (decide (p1.X0 ≤ p0.W))) && (decide (p1.Y0 ≤ p0.H))) && (decide (p1.X1 ≤ (w64 (p0.W - p0.Rail))))) && (decide (p1.Y1 ≤ (w64 (p0.H - p0.Rail)))))))]) (LE [(1, bx b100 #[(iv p0.W), (iv p0.H), (iv p0.Rail), (iv p0.Gap), (.slice Ap0_0 (p0.Kinds).length cp0_0), (.slice Ap0_1 (p0.Slots).length cp0_1), (.slice Ap0_2 (p0.Marks).length cp0_2)] 26), (2, bx b101 #[(iv p1.X0), (iv p1.Y0), (iv p1.X1), (iv p1.Y1)] 86)]) _
      refine Tr.asg rfl rfl ?_
      refine Tr.nil (Tr.normThen ?_)
      refine Tr.ret ?_
      obtain rfl := Option.some.inj H
      exact Tr.out (m := [(.bool ((((((decide (p0.Rail ≤ p1.X0)) && (decide (p0.Rail ≤ p1.Y0))) && (decide (p1.X0 ≤ p0.W))) && (decide (p1.Y0 ≤ p0.H))) && (decide (p1.X1 ≤ (w64 (p0.W - p0.Rail))))) && (decide (p1.Y1 ≤ (w64 (p0.H - p0.Rail))))))]) [] (res_tmp rfl res_nil) (fun W hW => ⟨rfl, hW.low leB⟩)

theorem F_panel_isApart_ok {w : Bs} (p0 : TRect) (p1 : TRect) (p2 : Int) (r : Bool) (H : F_panel_isApart p0 p1 p2 = some r) (hE : HF w w.W E0) : Calls Tryz.prog 70 [(.agg #[(iv p0.X0), (iv p0.Y0), (iv p0.X1), (iv p0.Y1)]), (.agg #[(iv p1.X0), (iv p1.Y0), (iv p1.X1), (iv p1.Y1)]), (iv p2)].toArray w.W fun e W' => e = .returned (.bool r) ∧ HF w W' E0 := by
 unfold F_panel_isApart at H
 have leB := Bs.Le.refl w
 refine Tr.enter (n := 41) Tryz.func70 rfl rfl rfl hE ?_
 refine Tr.sr ?_
 refine Tr.box 1 (cs := [(iv p0.X0), (iv p0.Y0), (iv p0.X1), (iv p0.Y1)]) (wn rfl) rfl rfl rfl fun b100 => ?_
 refine Tr.box 2 (cs := [(iv p1.X0), (iv p1.Y0), (iv p1.X1), (iv p1.Y1)]) (wn rfl) rfl rfl rfl fun b101 => ?_
 refine Tr.asg rfl rfl ?_
 refine Tr.nil (Tr.normThen ?_)
 refine Tr.sr ?_
 refine Tr.va rfl (fun _ _ h1 h2 => run_fieldAddr fo_86_2 (h1.ev rfl)) ?_
 refine Tr.va rfl (fun _ _ h1 h2 => run_load1 ag_3 (h1.ev rfl) (rdb h2 (vs := [(iv p0.X0), (iv p0.Y0), (iv p0.X1), (iv p0.Y1)]) (k := 1) rfl 2) rfl) ?_
 refine Tr.mv rfl rfl ?_
 refine Tr.va rfl (fun _ _ h1 h2 => run_add (h1.ev rfl) (h1.ev rfl)) ?_
 refine Tr.va rfl (fun _ _ h1 h2 => run_fieldAddr fo_86_0 (h1.ev rfl)) ?_
 refine Tr.va rfl (fun _ _ h1 h2 => run_load1 ag_3 (h1.ev rfl) (rdb h2 (vs := [(iv p1.X0), (iv p1.Y0), (iv p1.X1), (iv p1.Y1)]) (k := 2) rfl 0) rfl) ?_
 refine Tr.va rfl (fun _ _ h1 h2 => run_leq (h1.ev rfl) (h1.ev rfl)) ?_
 refine Tr.mv rfl rfl ?_
 refine Tr.mid0 8 [(2, (iv p2)), (3, (.pointer (some ⟨b100, 0, none⟩))), (4, (.pointer (some ⟨b101, 0, none⟩))), (22, (.bool ((decide ((w64 (p0.X1 + p2)) ≤ p1.X0)) || (decide ((w64 (p1.X1 + p2)) ≤ p0.X0)))))] [(1, bx b100 #[(iv p0.X0), (iv p0.Y0), (iv p0.X1), (iv p0.Y1)] 86), (2, bx b101 #[(iv p1.X0), (iv p1.Y0), (iv p1.X1), (iv p1.Y1)] 86)] ?_ ?_
 ·cases hg101 : (decide ((w64 (p0.X1 + p2)) ≤ p1.X0))
  ·refine Tr.val (wg rfl rfl rfl) rfl (fun _ _ h1 h2 => run_fieldAddr fo_86_2 (h1.ev rfl)) ?_
   refine Tr.val (wg rfl rfl rfl) rfl (fun _ _ h1 h2 => run_load1 ag_3 (h1.ev rfl) (rdb h2 (vs := [(iv p1.X0), (iv p1.Y0), (iv p1.X1), (iv p1.Y1)]) (k := 2) rfl 2) rfl) ?_
   refine Tr.val (wg rfl rfl rfl) rfl (fun _ _ h1 h2 => run_move (h1.ev rfl)) ?_
   refine Tr.val (wg rfl rfl rfl) rfl (fun _ _ h1 h2 => run_add (h1.ev rfl) (h1.ev rfl)) ?_
   refine Tr.val (wg rfl rfl rfl) rfl (fun _ _ h1 h2 => run_fieldAddr fo_86_0 (h1.ev rfl)) ?_
   refine Tr.val (wg rfl rfl rfl) rfl (fun _ _ h1 h2 => run_load1 ag_3 (h1.ev rfl) (rdb h2 (vs := [(iv p0.X0), (iv p0.Y0), (iv p0.X1), (iv p0.Y1)]) (k := 1) rfl 0) rfl) ?_
   refine Tr.val (wg rfl rfl rfl) rfl (fun _ _ h1 h2 => run_leq (h1.ev rfl) (h1.ev rfl)) ?_
   refine Tr.va rfl (fun _ _ h1 h2 => run_pickF (h1.ev rfl) (h1.ev rfl)) ?_
   exact Tr.nil (Tr.fin0 (.cons rfl (.cons rfl (.cons rfl (.cons rfl .nil)))) (.cons rfl (.cons rfl .nil)))
  ·refine Tr.pass rfl rfl rfl rfl rfl (by decide) ?_
   refine Tr.pass rfl rfl rfl rfl rfl (by decide) ?_
   refine Tr.pass rfl rfl rfl rfl rfl (by decide) ?_
   refine Tr.pass rfl rfl rfl rfl rfl (by decide) ?_
   refine Tr.pass rfl rfl rfl rfl rfl (by decide) ?_
   refine Tr.pass rfl rfl rfl rfl rfl (by decide) ?_
   refine Tr.pass rfl rfl rfl rfl rfl (by decide) ?_
   refine Tr.va rfl (fun _ _ h1 h2 => run_pickT (h1.ev rfl) (h1.ev rfl)) ?_
   exact Tr.nil (Tr.fin0 (.cons rfl (.cons rfl (.cons rfl (.cons rfl .nil)))) (.cons rfl (.cons rfl .nil)))
 ·show Tr _ _ (LF [(2, (iv p2)), (3, (.pointer (some ⟨b100, 0, none⟩))), (4, (.pointer (some ⟨b101, 0, none⟩))), (22, (.bool ((decide ((w64 (p0.X1 + p2)) ≤ p1.X0)) || (decide ((w64 (p1.X1 + p2)) ≤ p0.X0)))))]) (LE [(1, bx b100 #[(iv p0.X0), (iv p0.Y0), (iv p0.X1), (iv p0.Y1)] 86), (2, bx b101 #[(iv p1.X0), (iv p1.Y0), (iv p1.X1), (iv p1.Y1)] 86)]) _
  refine Tr.mv rfl rfl ?_
  refine Tr.mid0 8 [(2, (iv p2)), (3, (.pointer (some ⟨b100, 0, none⟩))), (4, (.pointer (some ⟨b101, 0, none⟩))), (31, (.bool (((decide ((w64 (p0.X1 + p2)) ≤ p1.X0)) || (decide ((w64 (p1.X1 + p2)) ≤ p0.X0))) || (decide ((w64 (p0.Y1 + p2)) ≤ p1.Y0)))))] [(1, bx b100 #[(iv p0.X0), (iv p0.Y0), (iv p0.X1), (iv p0.Y1)] 86), (2, bx b101 #[(iv p1.X0), (iv p1.Y0), (iv p1.X1), (iv p1.Y1)] 86)] ?_ ?_
  ·cases hg101 : ((decide ((w64 (p0.X1 + p2)) ≤ p1.X0)) || (decide ((w64 (p1.X1 + p2)) ≤ p0.X0)))
   ·refine Tr.val (wg rfl rfl rfl) rfl (fun _ _ h1 h2 => run_fieldAddr fo_86_3 (h1.ev rfl)) ?_
    refine Tr.val (wg rfl rfl rfl) rfl (fun _ _ h1 h2 => run_load1 ag_3 (h1.ev rfl) (rdb h2 (vs := [(iv p0.X0), (iv p0.Y0), (iv p0.X1), (iv p0.Y1)]) (k := 1) rfl 3) rfl) ?_
    refine Tr.val (wg rfl rfl rfl) rfl (fun _ _ h1 h2 => run_move (h1.ev rfl)) ?_
    refine Tr.val (wg rfl rfl rfl) rfl (fun _ _ h1 h2 => run_add (h1.ev rfl) (h1.ev rfl)) ?_
    refine Tr.val (wg rfl rfl rfl) rfl (fun _ _ h1 h2 => run_fieldAddr fo_86_1 (h1.ev rfl)) ?_
    refine Tr.val (wg rfl rfl rfl) rfl (fun _ _ h1 h2 => run_load1 ag_3 (h1.ev rfl) (rdb h2 (vs := [(iv p1.X0), (iv p1.Y0), (iv p1.X1), (iv p1.Y1)]) (k := 2) rfl 1) rfl) ?_
    refine Tr.val (wg rfl rfl rfl) rfl (fun _ _ h1 h2 => run_leq (h1.ev rfl) (h1.ev rfl)) ?_
    refine Tr.va rfl (fun _ _ h1 h2 => run_pickF (h1.ev rfl) (h1.ev rfl)) ?_
    exact Tr.nil (Tr.fin0 (.cons rfl (.cons rfl (.cons rfl (.cons rfl .nil)))) (.cons rfl (.cons rfl .nil)))
   ·refine Tr.pass rfl rfl rfl rfl rfl (by decide) ?_
    refine Tr.pass rfl rfl rfl rfl rfl (by decide) ?_
    refine Tr.pass rfl rfl rfl rfl rfl (by decide) ?_
    refine Tr.pass rfl rfl rfl rfl rfl (by decide) ?_
    refine Tr.pass rfl rfl rfl rfl rfl (by decide) ?_
    refine Tr.pass rfl rfl rfl rfl rfl (by decide) ?_
    refine Tr.pass rfl rfl rfl rfl rfl (by decide) ?_
    refine Tr.va rfl (fun _ _ h1 h2 => run_pickT (h1.ev rfl) (h1.ev rfl)) ?_
    exact Tr.nil (Tr.fin0 (.cons rfl (.cons rfl (.cons rfl (.cons rfl .nil)))) (.cons rfl (.cons rfl .nil)))
  ·show Tr _ _ (LF [(2, (iv p2)), (3, (.pointer (some ⟨b100, 0, none⟩))), (4, (.pointer (some ⟨b101, 0, none⟩))), (31, (.bool (((decide ((w64 (p0.X1 + p2)) ≤ p1.X0)) || (decide ((w64 (p1.X1 + p2)) ≤ p0.X0))) || (decide ((w64 (p0.Y1 + p2)) ≤ p1.Y0)))))]) (LE [(1, bx b100 #[(iv p0.X0), (iv p0.Y0), (iv p0.X1), (iv p0.Y1)] 86), (2, bx b101 #[(iv p1.X0), (iv p1.Y0), (iv p1.X1), (iv p1.Y1)] 86)]) _
   refine Tr.mv rfl rfl ?_
   refine Tr.mid0 8 [(40, (.bool ((((decide ((w64 (p0.X1 + p2)) ≤ p1.X0)) || (decide ((w64 (p1.X1 + p2)) ≤ p0.X0))) || (decide ((w64 (p0.Y1 + p2)) ≤ p1.Y0))) || (decide ((w64 (p1.Y1 + p2)) ≤ p0.Y0)))))] [(1, bx b100 #[(iv p0.X0), (iv p0.Y0), (iv p0.X1), (iv p0.Y1)] 86), (2, bx b101 #[(iv p1.X0), (iv p1.Y0), (iv p1.X1), (iv p1.Y1)] 86)] ?_ ?_
   ·cases hg101 : (((decide ((w64 (p0.X1 + p2)) ≤ p1.X0)) || (decide ((w64 (p1.X1 + p2)) ≤ p0.X0))) || (decide ((w64 (p0.Y1 + p2)) ≤ p1.Y0)))
    ·refine Tr.val (wg rfl rfl rfl) rfl (fun _ _ h1 h2 => run_fieldAddr fo_86_3 (h1.ev rfl)) ?_
     refine Tr.val (wg rfl rfl rfl) rfl (fun _ _ h1 h2 => run_load1 ag_3 (h1.ev rfl) (rdb h2 (vs := [(iv p1.X0), (iv p1.Y0), (iv p1.X1), (iv p1.Y1)]) (k := 2) rfl 3) rfl) ?_
     refine Tr.val (wg rfl rfl rfl) rfl (fun _ _ h1 h2 => run_move (h1.ev rfl)) ?_
     refine Tr.val (wg rfl rfl rfl) rfl (fun _ _ h1 h2 => run_add (h1.ev rfl) (h1.ev rfl)) ?_
     refine Tr.val (wg rfl rfl rfl) rfl (fun _ _ h1 h2 => run_fieldAddr fo_86_1 (h1.ev rfl)) ?_
     refine Tr.val (wg rfl rfl rfl) rfl (fun _ _ h1 h2 => run_load1 ag_3 (h1.ev rfl) (rdb h2 (vs := [(iv p0.X0), (iv p0.Y0), (iv p0.X1), (iv p0.Y1)]) (k := 1) rfl 1) rfl) ?_
     refine Tr.val (wg rfl rfl rfl) rfl (fun _ _ h1 h2 => run_leq (h1.ev rfl) (h1.ev rfl)) ?_
     refine Tr.va rfl (fun _ _ h1 h2 => run_pickF (h1.ev rfl) (h1.ev rfl)) ?_
     exact Tr.nil (Tr.fin0 (.cons rfl .nil) (.cons rfl (.cons rfl .nil)))
    ·refine Tr.pass rfl rfl rfl rfl rfl (by decide) ?_
     refine Tr.pass rfl rfl rfl rfl rfl (by decide) ?_
     refine Tr.pass rfl rfl rfl rfl rfl (by decide) ?_
     refine Tr.pass rfl rfl rfl rfl rfl (by decide) ?_
     refine Tr.pass rfl rfl rfl rfl rfl (by decide) ?_
     refine Tr.pass rfl rfl rfl rfl rfl (by decide) ?_
     refine Tr.pass rfl rfl rfl rfl rfl (by decide) ?_
     refine Tr.va rfl (fun _ _ h1 h2 => run_pickT (h1.ev rfl) (h1.ev rfl)) ?_
     exact Tr.nil (Tr.fin0 (.cons rfl .nil) (.cons rfl (.cons rfl .nil)))
   ·show Tr _ _ (LF [(40, (.bool ((((decide ((w64 (p0.X1 + p2)) ≤ p1.X0)) || (decide ((w64 (p1.X1 + p2)) ≤ p0.X0))) || (decide ((w64 (p0.Y1 + p2)) ≤ p1.Y0))) || (decide ((w64 (p1.Y1 + p2)) ≤ p0.Y0)))))]) (LE [(1, bx b100 #[(iv p0.X0), (iv p0.Y0), (iv p0.X1), (iv p0.Y1)] 86), (2, bx b101 #[(iv p1.X0), (iv p1.Y0), (iv p1.X1), (iv p1.Y1)] 86)]) _
    refine Tr.asg rfl rfl ?_
    refine Tr.nil (Tr.normThen ?_)
    refine Tr.ret ?_
    obtain rfl := Option.some.inj H
    exact Tr.out (m := [(.bool ((((decide ((w64 (p0.X1 + p2)) ≤ p1.X0)) || (decide ((w64 (p1.X1 + p2)) ≤ p0.X0))) || (decide ((w64 (p0.Y1 + p2)) ≤ p1.Y0))) || (decide ((w64 (p1.Y1 + p2)) ≤ p0.Y0))))]) [] (res_tmp rfl res_nil) (fun W hW => ⟨rfl, hW.low leB⟩)

theorem F_panel_cells_1_ok {w : Bs} (p0 : TRect) (q0 : TRect) (bq0 : Nat) (hb0 : w.R bq0) (hc0 : CellsAt w.W bq0 0 [(iv q0.X0), (iv q0.Y0), (iv q0.X1), (iv q0.Y1)]) (q1 : TPanel) (Aq1_0 : Option Addr) (cq1_0 : Nat) (hq1_0 : Sl w.R w.W fl_TBoardKind Aq1_0 cq1_0 q1.Kinds) (Aq1_1 : Option Addr) (cq1_1 : Nat) (hq1_1 : Sl w.R w.W fl_TSlot Aq1_1 cq1_1 q1.Slots) (Aq1_2 : Option Addr) (cq1_2 : Nat) (hq1_2 : Sl w.R w.W fl_TPoint Aq1_2 cq1_2 q1.Marks) (bq1 : Nat) (hb1 : w.R bq1) (hc1 : CellsAt w.W bq1 0 [(iv q1.W), (iv q1.H), (iv q1.Rail), (iv q1.Gap), (.slice Aq1_0 (q1.Kinds).length cq1_0), (.slice Aq1_1 (q1.Slots).length cq1_1), (.slice Aq1_2 (q1.Marks).length cq1_2)]) (r : Bool) (H : F_panel_cells_1 p0 q0 q1 = some r) (hE : HF w w.W E0) : Calls Tryz.prog 69 [(.agg #[(iv p0.X0), (iv p0.Y0), (iv p0.X1), (iv p0.Y1)]), (.pointer (some ⟨bq0, 0, none⟩)), (.pointer (some ⟨bq1, 0, none⟩))].toArray w.W fun e W' => e = .returned (.bool r) ∧ HF w W' E0 := by
 unfold F_panel_cells_1 at H
 have leB := Bs.Le.refl w
 refine Tr.enter (n := 11) Tryz.func69 rfl rfl rfl hE ?_
 refine Tr.sr ?_
 refine Tr.box 1 (cs := [(iv p0.X0), (iv p0.Y0), (iv p0.X1), (iv p0.Y1)]) (wn rfl) rfl rfl rfl fun b100 => ?_
 refine Tr.asg rfl rfl ?_
 refine Tr.nil (Tr.normThen ?_)
 refine Tr.sr ?_
 refine Tr.va rfl (fun _ _ h1 h2 => run_loadN (cs := [(iv q0.X0), (iv q0.Y0), (iv q0.X1), (iv q0.Y1)]) ag_86 sz_86 (h1.ev rfl) (CellsAt.take (rdR hb0 hc0 h2) 4) rfl) ?_
 refine Tr.va rfl (fun _ _ h1 h2 => run_loadN (cs := [(iv p0.X0), (iv p0.Y0), (iv p0.X1), (iv p0.Y1)]) ag_86 sz_86 (h1.ev rfl) (CellsAt.take (rdb h2 (vs := [(iv p0.X0), (iv p0.Y0), (iv p0.X1), (iv p0.Y1)]) (k := 1) rfl 0) 4) rfl) ?_
 refine Tr.va rfl (fun _ _ h1 h2 => run_fieldAddr fo_26_3 (h1.ev rfl)) ?_
 refine Tr.va rfl (fun _ _ h1 h2 => run_load1 ag_3 (h1.ev rfl) (CellsAt.drop (rdR hb1 hc1 h2) 3) rfl) ?_
 obtain ⟨y101, hy101, H⟩ := bnd H
 refine Tr.call0 (r := (.bool y101)) (wn rfl) rfl Tryz.call70 (evl_cons rfl (evl_cons rfl (evl_cons rfl evl_nil))) (fun W hW => F_panel_isApart_ok q0 p0 q1.Gap y101 hy101 (HF.start _)) ?_
 refine Tr.va rfl (fun _ _ h1 h2 => run_not (h1.ev rfl)) ?_
 refine Tr.asg rfl rfl ?_
 refine Tr.nil (Tr.normThen ?_)
 refine Tr.ret ?_
 obtain rfl := Option.some.inj H
 exact Tr.out (m := [(.bool (!y101))]) [] (res_tmp rfl res_nil) (fun W hW => ⟨rfl, hW.low leB⟩)

theorem F_slices_IndexFunc_Rect_ok {w : Bs} (p0 : (List TRect)) (Ap0_0 : Option Addr) (cp0_0 : Nat) (hp0_0 : Sl w.R w.W fl_TRect Ap0_0 cp0_0 p0) (p1 : TRect → Option Bool) (fid1 : Nat) (cap1 : List Value) (hg1 : ∀ args W, (callFunc fid1 args).run Tryz.prog W = .ok (.enter fid1 args) W) (hf1 : ∀ (w' : Bs), w.Ext w' → ∀ (z0 : TRect), ∀ y, p1 z0 = some y → Calls Tryz.prog fid1 (([(.agg #[(iv z0.X0), (iv z0.Y0), (iv z0.X1), (iv z0.Y1)])] : List Value) ++ cap1).toArray w'.W fun e W'' => e = .returned (.bool y) ∧ HF w' W'' E0) (r : Int) (H : F_slices_IndexFunc_Rect p0 p1 = some r) (hE : HF w w.W E0) : Calls Tryz.prog 71 [(.slice Ap0_0 (p0).length cp0_0), (.func (.func fid1) #[] cap1.toArray)].toArray w.W fun e W' => e = .returned (iv r) ∧ HF w W' E0 := by
 unfold F_slices_IndexFunc_Rect at H
 have leB := Bs.Le.refl w
 refine Tr.enter (n := 19) Tryz.func71 rfl rfl rfl hE ?_
 refine Tr.sr ?_
 refine Tr.asg rfl rfl ?_
 refine Tr.nil (Tr.normThen ?_)
 refine Tr.seq ?_
 refine Tr.sr ?_
 refine Tr.mv rfl rfl ?_
 refine Tr.va rfl (fun _ _ h1 h2 => run_len un_66 (h1.ev rfl)) ?_
 refine Tr.mv rfl rfl ?_
 refine Tr.nil (Tr.normThen ?_)
 refine Tr.block ?_
 refine Tr.loop (σ := (List TRect) × Nat) (fun m w s => m = s.1.length + 1 ∧ s.1 = List.drop s.2 p0 ∧ s.2 ≤ p0.length ∧ F_slices_IndexFunc_Rect_L1 p1 s.1 s.2 = some r) (fun s => [(0, (.slice Ap0_0 (p0).length cp0_0)), (1, (.func (.func fid1) #[] cap1.toArray)), (7, (iv (p0.length : Int))), (8, (iv (s.2 : Int)))]) (fun s => []) (p0.length + 1) (p0, 0) ⟨rfl, rfl, Nat.zero_le _, H⟩ (.cons rfl (.cons rfl (.cons rfl (.cons rfl .nil)))) .nil (fun _ _ h => absurd h.1 (by simp)) ?_
 intro w leL1 m s hs
 obtain ⟨restL1, iL1⟩ := s
 obtain ⟨hmL1, hdL1, hiL1, H⟩ := hs
 replace hdL1 : restL1 = List.drop iL1 p0 := hdL1
 replace H : F_slices_IndexFunc_Rect_L1 p1 restL1 iL1 = some r := H
 replace hmL1 : m + 1 = restL1.length + 1 := hmL1
 replace hp0_0 := hp0_0.leR leL1
 replace hf1 := fun w' he => hf1 w' (leL1.ext.trans he)
 replace leB := leB.trans leL1
 obtain rfl : m = restL1.length := by omega
 clear hmL1
 show Tr _ _ (LF [(0, (.slice Ap0_0 (p0).length cp0_0)), (1, (.func (.func fid1) #[] cap1.toArray)), (7, (iv (p0.length : Int))), (8, (iv (iL1 : Int)))]) (LE []) _
 cases restL1 with
 | nil =>
  rw [F_slices_IndexFunc_Rect_L1.eq_1] at H
  refine Tr.sr ?_
  refine Tr.va rfl (fun _ _ h1 h2 => run_lss (h1.ev rfl) (h1.ev rfl)) ?_
  refine Tr.nil (Tr.normThen ?_)
  refine Tr.seq ?_
  refine Tr.condF rfl (range_nil hdL1) ?_
  refine Tr.exit (Tr.exitThen (Tr.exitThen (Tr.exitBlock (Tr.normThen ?_))))
  refine Tr.sr ?_
  refine Tr.asg rfl rfl ?_
  refine Tr.nil (Tr.normThen ?_)
  refine Tr.ret ?_
  obtain rfl := Option.some.inj H
  exact Tr.out (m := [(iv (-1))]) [] (res_tmp rfl res_nil) (fun W hW => ⟨rfl, hW.low leB⟩)
 | cons xL1 restL1 =>
  rw [F_slices_IndexFunc_Rect_L1.eq_2] at H
  refine Tr.sr ?_
  refine Tr.va rfl (fun _ _ h1 h2 => run_lss (h1.ev rfl) (h1.ev rfl)) ?_
  refine Tr.nil (Tr.normThen ?_)
  refine Tr.seq ?_
  refine Tr.condT rfl (range_on hdL1) ?_
  refine Tr.skip (Tr.normThen ?_)
  refine Tr.seq ?_
  refine Tr.block ?_
  refine Tr.sr ?_
  refine Tr.mv rfl rfl ?_
  refine Tr.asg rfl rfl ?_
  refine Tr.nil (Tr.normThen ?_)
  refine Tr.sr ?_
  refine Tr.mv rfl rfl ?_
  refine Tr.mv rfl rfl ?_
  refine Tr.mv rfl rfl ?_
  refine Tr.va rfl (fun _ _ h1 h2 => run_indexAddr el_66 (h1.ev rfl) hp0_0.form (h1.ev rfl) (Int.natCast_nonneg _) (range_lt hdL1)) ?_
  refine Tr.va rfl (fun _ _ h1 h2 => run_loadN (cs := [(iv xL1.X0), (iv xL1.Y0), (iv xL1.X1), (iv xL1.Y1)]) ag_86 sz_86 (h1.ev rfl) (CellsAt.take (rdF ef_TRect hp0_0 (range_at hdL1) h2) 4) rfl) ?_
  obtain ⟨y103, hy103, H⟩ := bnd H
  refine Tr.callF (r := (.bool y103)) (wn rfl) rfl rfl hg1 (evl_cons rfl evl_nil) (fun W hW => hf1 hW.all hW.extAll xL1 _ hy103) ?_
  refine Tr.nil (Tr.normThen ?_)
  refine Tr.cond rfl H (fun H => ?_) (fun H => ?_)
  ·refine Tr.sr ?_
   refine Tr.mv rfl rfl ?_
   refine Tr.asg rfl rfl ?_
   refine Tr.nil (Tr.normThen ?_)
   refine Tr.ret (Tr.retBlock (Tr.retThen (Tr.retThen (Tr.retBlock (Tr.retThen ?_)))))
   obtain rfl := Option.some.inj H
   exact Tr.out (m := [(iv (iL1 : Int))]) [] (res_tmp rfl res_nil) (fun W hW => ⟨rfl, hW.low leB⟩)
  ·refine Tr.skip (Tr.normBlock (Tr.normThen ?_))
   refine Tr.region ?_
   refine Tr.va rfl (fun _ _ h1 h2 => run_add (h1.ev rfl) (h1.ev rfl)) ?_
   refine Tr.mv rfl rfl ?_
   refine Tr.nil ?_
   exact Tr.backThen leL1 (restL1, (iL1 + 1)) ⟨rfl, range_tl hdL1, range_lt hdL1, H⟩ (.cons rfl (.cons rfl (.cons rfl (.cons (congrArg (fun z => some (Value.int .i64 z)) (range_up hdL1 hp0_0.form)) .nil)))) .nil

theorem F_slices_ContainsFunc_Rect_ok {w : Bs} (p0 : (List TRect)) (Ap0_0 : Option Addr) (cp0_0 : Nat) (hp0_0 : Sl w.R w.W fl_TRect Ap0_0 cp0_0 p0) (p1 : TRect → Option Bool) (fid1 : Nat) (cap1 : List Value) (hg1 : ∀ args W, (callFunc fid1 args).run Tryz.prog W = .ok (.enter fid1 args) W) (hf1 : ∀ (w' : Bs), w.Ext w' → ∀ (z0 : TRect), ∀ y, p1 z0 = some y → Calls Tryz.prog fid1 (([(.agg #[(iv z0.X0), (iv z0.Y0), (iv z0.X1), (iv z0.Y1)])] : List Value) ++ cap1).toArray w'.W fun e W'' => e = .returned (.bool y) ∧ HF w' W'' E0) (r : Bool) (H : F_slices_ContainsFunc_Rect p0 p1 = some r) (hE : HF w w.W E0) : Calls Tryz.prog 45 [(.slice Ap0_0 (p0).length cp0_0), (.func (.func fid1) #[] cap1.toArray)].toArray w.W fun e W' => e = .returned (.bool r) ∧ HF w W' E0 := by
 unfold F_slices_ContainsFunc_Rect at H
 have leB := Bs.Le.refl w
 refine Tr.enter (n := 9) Tryz.func45 rfl rfl rfl hE ?_
 refine Tr.sr ?_
 refine Tr.asg rfl rfl ?_
 refine Tr.nil (Tr.normThen ?_)
 refine Tr.sr ?_
 refine Tr.mv rfl rfl ?_
 refine Tr.mv rfl rfl ?_
 obtain ⟨y100, hy100, H⟩ := bnd H
 refine Tr.call0 (r := (iv y100)) (wn rfl) rfl Tryz.call71 (evl_cons rfl (evl_cons rfl evl_nil)) (fun W hW => F_slices_IndexFunc_Rect_ok p0 Ap0_0 cp0_0 (hp0_0.ext hW.extAll) p1 fid1 cap1 hg1 (fun w' he => hf1 w' (hW.extAll.trans he)) y100 hy100 (HF.start _)) ?_
 refine Tr.va rfl (fun _ _ h1 h2 => run_geq (h1.ev rfl) (h1.ev rfl)) ?_
 refine Tr.asg rfl rfl ?_
 refine Tr.nil (Tr.normThen ?_)
 refine Tr.ret ?_
 obtain rfl := Option.some.inj H
 exact Tr.out (m := [(.bool (decide (0 ≤ y100)))]) [] (res_tmp rfl res_nil) (fun W hW => ⟨rfl, hW.low leB⟩)

theorem F_panel_cells_ok {w : Bs} (p0 : TPanel) (Ap0_0 : Option Addr) (cp0_0 : Nat) (hp0_0 : Sl w.R w.W fl_TBoardKind Ap0_0 cp0_0 p0.Kinds) (Ap0_1 : Option Addr) (cp0_1 : Nat) (hp0_1 : Sl w.R w.W fl_TSlot Ap0_1 cp0_1 p0.Slots) (Ap0_2 : Option Addr) (cp0_2 : Nat) (hp0_2 : Sl w.R w.W fl_TPoint Ap0_2 cp0_2 p0.Marks) (r : ((List TRect) × Int)) (H : F_panel_cells p0 = some r) (hE : HF w w.W (LEn [emp])) : Calls Tryz.prog 43 [(.agg #[(iv p0.W), (iv p0.H), (iv p0.Rail), (iv p0.Gap), (.slice Ap0_0 (p0.Kinds).length cp0_0), (.slice Ap0_1 (p0.Slots).length cp0_1), (.slice Ap0_2 (p0.Marks).length cp0_2)])].toArray w.W fun e W' => ∃ u : (Option Addr × Nat), e = .returned (.tuple #[(.slice u.1 (r.1).length u.2), (iv r.2)]) ∧ (SlF u.1 (r.1).length u.2) ∧ HF w W' (LEn [ow u.1 u.2 86 fl_TRect r.1]) := by
 unfold F_panel_cells at H
 have leB := Bs.Le.refl w
 refine Tr.enter (n := 62) Tryz.func43 rfl rfl rfl hE ?_
 refine Tr.sr ?_
 refine Tr.box 1 (cs := [(iv p0.W), (iv p0.H), (iv p0.Rail), (iv p0.Gap), (.slice Ap0_0 (p0.Kinds).length cp0_0), (.slice Ap0_1 (p0.Slots).length cp0_1), (.slice Ap0_2 (p0.Marks).length cp0_2)]) (wn rfl) rfl rfl rfl fun b100 => ?_
 refine Tr.asg rfl rfl ?_
 refine Tr.nilOwn 2 86 fl_TRect ?_
 show Tr _ _ (uf _ 2 (.slice none (([] : List TRect)).length 0)) _ _
 refine Tr.asg rfl rfl ?_
 refine Tr.nil (Tr.normThen ?_)
 refine Tr.seq ?_
 refine Tr.sr ?_
 refine Tr.va rfl (fun _ _ h1 h2 => run_fieldAddr fo_26_5 (h1.ev rfl)) ?_
 refine Tr.va rfl (fun _ _ h1 h2 => run_load1 ag_23 (h1.ev rfl) (rdb h2 (vs := [(iv p0.W), (iv p0.H), (iv p0.Rail), (iv p0.Gap), (.slice Ap0_0 (p0.Kinds).length cp0_0), (.slice Ap0_1 (p0.Slots).length cp0_1), (.slice Ap0_2 (p0.Marks).length cp0_2)]) (k := 1) rfl 5) rfl) ?_
 refine Tr.va rfl (fun _ _ h1 h2 => run_len un_23 (h1.ev rfl)) ?_
 refine Tr.va rfl (fun _ _ h1 h2 => run_gtr (h1.ev rfl) (h1.ev rfl)) ?_
 refine Tr.nil (Tr.normThen ?_)
 refine Tr.cond rfl H (fun H => ?_) (fun H => ?_)
 ·refine Tr.sr ?_
  refine Tr.asg rfl rfl ?_
  refine Tr.nilOwn 3 86 fl_TRect ?_
  show Tr _ _ (uf _ 2 (.slice none (([] : List TRect)).length 0)) _ _
  refine Tr.asg rfl rfl ?_
  refine Tr.nil (Tr.normThen ?_)
  refine Tr.ret (Tr.retThen ?_)
  obtain rfl := Option.some.inj H
  exact Tr.out (m := [(.slice none (([] : List TRect)).length 0), (iv 2)]) [] (res_tmp rfl (res_tmp rfl res_nil)) (fun W hW => ⟨(none, 0), rfl, slf_nil, HF.lowE leB (hW.pick (ks := [3]) (by decide) (pk_cons rfl pk_nil)) ⟨ow_any _ _ _ _ tr_TRect, trivial⟩⟩)
 ·refine Tr.skip (Tr.normThen ?_)
  refine Tr.sr ?_
  refine Tr.asg rfl rfl ?_
  refine Tr.nilOwn 4 86 fl_TRect ?_
  show Tr _ _ (uf _ 4 (.slice none (([] : List TRect)).length 0)) _ _
  refine Tr.nil (Tr.normThen ?_)
  refine Tr.seq ?_
  refine Tr.sr ?_
  refine Tr.va rfl (fun _ _ h1 h2 => run_fieldAddr fo_26_5 (h1.ev rfl)) ?_
  refine Tr.va rfl (fun _ _ h1 h2 => run_load1 ag_23 (h1.ev rfl) (rdb h2 (vs := [(iv p0.W), (iv p0.H), (iv p0.Rail), (iv p0.Gap), (.slice Ap0_0 (p0.Kinds).length cp0_0), (.slice Ap0_1 (p0.Slots).length cp0_1), (.slice Ap0_2 (p0.Marks).length cp0_2)]) (k := 1) rfl 5) rfl) ?_
  refine Tr.va rfl (fun _ _ h1 h2 => run_len un_23 (h1.ev rfl)) ?_
  refine Tr.mv rfl rfl ?_
  refine Tr.nil (Tr.normThen ?_)
  refine Tr.block ?_
  refine Tr.loop (σ := (List TSlot) × Nat × (List TRect) × (Option Addr) × Nat) (fun m w s => m = s.1.length + 1 ∧ s.1 = List.drop s.2.1 p0.Slots ∧ s.2.1 ≤ p0.Slots.length ∧ F_panel_cells_L1 p0 s.1 s.2.1 s.2.2.1 = some r ∧ SlF s.2.2.2.1 (s.2.2.1).length s.2.2.2.2) (fun s => [(1, (.pointer (some ⟨b100, 0, none⟩))), (4, (.slice s.2.2.2.1 (s.2.2.1).length s.2.2.2.2)), (13, (.slice Ap0_1 (p0.Slots).length cp0_1)), (14, (iv (p0.Slots.length : Int))), (15, (iv (s.2.1 : Int)))]) (fun s => [(1, bx b100 #[(iv p0.W), (iv p0.H), (iv p0.Rail), (iv p0.Gap), (.slice Ap0_0 (p0.Kinds).length cp0_0), (.slice Ap0_1 (p0.Slots).length cp0_1), (.slice Ap0_2 (p0.Marks).length cp0_2)] 26), (4, ow s.2.2.2.1 s.2.2.2.2 86 fl_TRect s.2.2.1)]) (p0.Slots.length + 1) (p0.Slots, 0, ([] : List TRect), none, 0) ⟨rfl, rfl, Nat.zero_le _, H, slf_nil⟩ (.cons rfl (.cons rfl (.cons rfl (.cons rfl (.cons rfl .nil))))) (.cons rfl (.cons rfl .nil)) (fun _ _ h => absurd h.1 (by simp)) ?_
  intro w leL1 m s hs
  obtain ⟨restL1, iL1, l139, Al139, cl139⟩ := s
  obtain ⟨hmL1, hdL1, hiL1, H, hl139⟩ := hs
  replace hdL1 : restL1 = List.drop iL1 p0.Slots := hdL1
  replace H : F_panel_cells_L1 p0 restL1 iL1 l139 = some r := H
  replace hmL1 : m + 1 = restL1.length + 1 := hmL1
  replace hp0_0 := hp0_0.leR leL1
  replace hp0_1 := hp0_1.leR leL1
  replace hp0_2 := hp0_2.leR leL1
  replace leB := leB.trans leL1
  replace hl139 : SlF Al139 (l139).length cl139 := hl139
  obtain rfl : m = restL1.length := by omega
  clear hmL1
  show Tr _ _ (LF [(1, (.pointer (some ⟨b100, 0, none⟩))), (4, (.slice Al139 (l139).length cl139)), (13, (.slice Ap0_1 (p0.Slots).length cp0_1)), (14, (iv (p0.Slots.length : Int))), (15, (iv (iL1 : Int)))]) (LE [(1, bx b100 #[(iv p0.W), (iv p0.H), (iv p0.Rail), (iv p0.Gap), (.slice Ap0_0 (p0.Kinds).length cp0_0), (.slice Ap0_1 (p0.Slots).length cp0_1), (.slice Ap0_2 (p0.Marks).length cp0_2)] 26), (4, ow Al139 cl139 86 fl_TRect l139)]) _
  cases restL1 with
  | nil =>
   rw [F_panel_cells_L1.eq_1] at H
   refine Tr.sr ?_
   refine Tr.va rfl (fun _ _ h1 h2 => run_lss (h1.ev rfl) (h1.ev rfl)) ?_
   refine Tr.nil (Tr.normThen ?_)
   refine Tr.seq ?_
   refine Tr.condF rfl (range_nil hdL1) ?_
   refine Tr.exit (Tr.exitThen (Tr.exitThen (Tr.exitBlock (Tr.normThen ?_))))
   refine Tr.sr ?_
   refine Tr.mv rfl rfl ?_
   refine Tr.asg rfl rfl ?_
   refine Tr.asg rfl rfl ?_
   refine Tr.nil (Tr.normThen ?_)
   refine Tr.ret ?_
   obtain rfl := Option.some.inj H
   exact Tr.out (m := [(.slice Al139 (l139).length cl139), (iv 0)]) [] (res_tmp rfl (res_tmp rfl res_nil)) (fun W hW => ⟨(Al139, cl139), rfl, hl139, HF.lowE leB (hW.pick (ks := [4]) (by decide) (pk_cons rfl pk_nil)) ⟨ow_any _ _ _ _ tr_TRect, trivial⟩⟩)
  | cons xL1 restL1 =>
   rw [F_panel_cells_L1.eq_2] at H
   refine Tr.sr ?_
   refine Tr.va rfl (fun _ _ h1 h2 => run_lss (h1.ev rfl) (h1.ev rfl)) ?_
   refine Tr.nil (Tr.normThen ?_)
   refine Tr.seq ?_
   refine Tr.condT rfl (range_on hdL1) ?_
   refine Tr.skip (Tr.normThen ?_)
   refine Tr.seq ?_
   refine Tr.block ?_
   refine Tr.sr ?_
   refine Tr.va rfl (fun _ _ h1 h2 => run_indexAddr el_23 (h1.ev rfl) hp0_1.form (h1.ev rfl) (Int.natCast_nonneg _) (range_lt hdL1)) ?_
   refine Tr.va rfl (fun _ _ h1 h2 => run_loadN (cs := [(sv xL1.Board), (iv xL1.Quarters), (iv xL1.At.X), (iv xL1.At.Y)]) ag_53 sz_53 (h1.ev rfl) (CellsAt.take (rdF ef_TSlot hp0_1 (range_at hdL1) h2) 4) rfl) ?_
   refine Tr.alloc 19 (wn rfl) rfl ze_53 fun b140 => ?_
   refine Tr.store 19 (cs := [(sv xL1.Board), (iv xL1.Quarters), (iv xL1.At.X), (iv xL1.At.Y)]) [(sv xL1.Board), (iv xL1.Quarters), (iv xL1.At.X), (iv xL1.At.Y)] (wn rfl) rfl rfl rfl rfl sz_53 rfl rfl rfl ?_
   refine Tr.nil (Tr.normThen ?_)
   refine Tr.seq ?_
   refine Tr.sr ?_
   refine Tr.va rfl (fun _ _ h1 h2 => run_loadN (cs := [(iv p0.W), (iv p0.H), (iv p0.Rail), (iv p0.Gap), (.slice Ap0_0 (p0.Kinds).length cp0_0), (.slice Ap0_1 (p0.Slots).length cp0_1), (.slice Ap0_2 (p0.Marks).length cp0_2)]) ag_26 sz_26 (h1.ev rfl) (CellsAt.take (rdb h2 (vs := [(iv p0.W), (iv p0.H), (iv p0.Rail), (iv p0.Gap), (.slice Ap0_0 (p0.Kinds).length cp0_0), (.slice Ap0_1 (p0.Slots).length cp0_1), (.slice Ap0_2 (p0.Marks).length cp0_2)]) (k := 1) rfl 0) 7) rfl) ?_
   refine Tr.va rfl (fun _ _ h1 h2 => run_fieldAddr fo_53_0 (h1.ev rfl)) ?_
   refine Tr.va rfl (fun _ _ h1 h2 => run_load1 ag_9 (h1.ev rfl) (rdb h2 (vs := [(sv xL1.Board), (iv xL1.Quarters), (iv xL1.At.X), (iv xL1.At.Y)]) (k := 19) rfl 0) rfl) ?_
   obtain ⟨y141, hy141, H⟩ := bnd H
   refine Tr.call0 (r := (iv y141)) (wn rfl) rfl Tryz.call66 (evl_cons rfl (evl_cons rfl evl_nil)) (fun W hW => F_panel_kindAt_ok p0 Ap0_0 cp0_0 (hp0_0.ext hW.extAll) Ap0_1 cp0_1 (hp0_1.ext hW.extAll) Ap0_2 cp0_2 (hp0_2.ext hW.extAll) xL1.Board y141 hy141 (HF.start _)) ?_
   refine Tr.va rfl (fun _ _ h1 h2 => run_lss (h1.ev rfl) (h1.ev rfl)) ?_
   refine Tr.nil (Tr.normThen ?_)
   refine Tr.cond rfl H (fun H => ?_) (fun H => ?_)
   ·refine Tr.sr ?_
    refine Tr.asg rfl rfl ?_
    refine Tr.nilOwn 20 86 fl_TRect ?_
    show Tr _ _ (uf _ 2 (.slice none (([] : List TRect)).length 0)) _ _
    refine Tr.asg rfl rfl ?_
    refine Tr.nil (Tr.normThen ?_)
    refine Tr.ret (Tr.retThen (Tr.retBlock (Tr.retThen (Tr.retThen (Tr.retBlock (Tr.retThen ?_))))))
    obtain rfl := Option.some.inj H
    exact Tr.out (m := [(.slice none (([] : List TRect)).length 0), (iv 5)]) [] (res_tmp rfl (res_tmp rfl res_nil)) (fun W hW => ⟨(none, 0), rfl, slf_nil, HF.lowE leB (hW.pick (ks := [20]) (by decide) (pk_cons rfl pk_nil)) ⟨ow_any _ _ _ _ tr_TRect, trivial⟩⟩)
   ·refine Tr.skip (Tr.normThen ?_)
    refine Tr.seq ?_
    refine Tr.sr ?_
    refine Tr.va rfl (fun _ _ h1 h2 => run_fieldAddr fo_53_1 (h1.ev rfl)) ?_
    refine Tr.va rfl (fun _ _ h1 h2 => run_load1 ag_3 (h1.ev rfl) (rdb h2 (vs := [(sv xL1.Board), (iv xL1.Quarters), (iv xL1.At.X), (iv xL1.At.Y)]) (k := 19) rfl 1) rfl) ?_
    obtain ⟨y142, hy142, H⟩ := bnd H
    refine Tr.call0 (r := (.bool y142)) (wn rfl) rfl Tryz.call41 (evl_cons rfl (evl_cons rfl (evl_cons rfl evl_nil))) (fun W hW => F_panel_within_ok xL1.Quarters 0 3 y142 hy142 (HF.start _)) ?_
    refine Tr.va rfl (fun _ _ h1 h2 => run_not (h1.ev rfl)) ?_
    refine Tr.mv rfl rfl ?_
    obtain ⟨g144, hg144, H⟩ := bnd H
    refine Tr.mid0 8 [(1, (.pointer (some ⟨b100, 0, none⟩))), (4, (.slice Al139 (l139).length cl139)), (6, (.pointer (some ⟨b140, 0, none⟩))), (13, (.slice Ap0_1 (p0.Slots).length cp0_1)), (14, (iv (p0.Slots.length : Int))), (15, (iv (iL1 : Int))), (36, (.bool g144))] [(1, bx b100 #[(iv p0.W), (iv p0.H), (iv p0.Rail), (iv p0.Gap), (.slice Ap0_0 (p0.Kinds).length cp0_0), (.slice Ap0_1 (p0.Slots).length cp0_1), (.slice Ap0_2 (p0.Marks).length cp0_2)] 26), (4, ow Al139 cl139 86 fl_TRect l139), (19, bx b140 #[(sv xL1.Board), (iv xL1.Quarters), (iv xL1.At.X), (iv xL1.At.Y)] 53)] ?_ ?_
    ·cases hg154 : (!y142)
     ·rw [hg154] at hg144
      rw [if_neg (by decide)] at hg144
      have H := hg144
      refine Tr.val (wg rfl rfl rfl) rfl (fun _ _ h1 h2 => run_fieldAddr fo_53_2 (h1.ev rfl)) ?_
      refine Tr.val (wg rfl rfl rfl) rfl (fun _ _ h1 h2 => run_fieldAddr fo_51_0 (h1.ev rfl)) ?_
      refine Tr.val (wg rfl rfl rfl) rfl (fun _ _ h1 h2 => run_load1 ag_3 (h1.ev rfl) (rdb h2 (vs := [(sv xL1.Board), (iv xL1.Quarters), (iv xL1.At.X), (iv xL1.At.Y)]) (k := 19) rfl 2) rfl) ?_
      refine Tr.val (wg rfl rfl rfl) rfl (fun _ _ h1 h2 => run_fieldAddr fo_26_0 (h1.ev rfl)) ?_
      refine Tr.val (wg rfl rfl rfl) rfl (fun _ _ h1 h2 => run_load1 ag_3 (h1.ev rfl) (rdb h2 (vs := [(iv p0.W), (iv p0.H), (iv p0.Rail), (iv p0.Gap), (.slice Ap0_0 (p0.Kinds).length cp0_0), (.slice Ap0_1 (p0.Slots).length cp0_1), (.slice Ap0_2 (p0.Marks).length cp0_2)]) (k := 1) rfl 0) rfl) ?_
      obtain ⟨y145, hy145, H⟩ := bnd H
      refine Tr.call0 (r := (.bool y145)) (wg rfl rfl rfl) rfl Tryz.call41 (evl_cons rfl (evl_cons rfl (evl_cons rfl evl_nil))) (fun W hW => F_panel_within_ok xL1.At.X 0 p0.W y145 hy145 (HF.start _)) ?_
      refine Tr.val (wg rfl rfl rfl) rfl (fun _ _ h1 h2 => run_not (h1.ev rfl)) ?_
      refine Tr.va rfl (fun _ _ h1 h2 => run_pickF (h1.ev rfl) (h1.ev rfl)) ?_
      obtain rfl := Option.some.inj H
      exact Tr.nil (Tr.fin0 (.cons rfl (.cons rfl (.cons rfl (.cons rfl (.cons rfl (.cons rfl (.cons rfl .nil))))))) (.cons rfl (.cons rfl (.cons rfl .nil))))
     ·rw [hg154] at hg144
      rw [if_pos rfl] at hg144
      have H := hg144
      obtain rfl := Option.some.inj H
      refine Tr.pass rfl rfl rfl rfl rfl (by decide) ?_
      refine Tr.pass rfl rfl rfl rfl rfl (by decide) ?_
      refine Tr.pass rfl rfl rfl rfl rfl (by decide) ?_
      refine Tr.pass rfl rfl rfl rfl rfl (by decide) ?_
      refine Tr.pass rfl rfl rfl rfl rfl (by decide) ?_
      refine Tr.pass rfl rfl rfl rfl rfl (by decide) ?_
      refine Tr.pass rfl rfl rfl rfl rfl (by decide) ?_
      refine Tr.va rfl (fun _ _ h1 h2 => run_pickT (h1.ev rfl) (h1.ev rfl)) ?_
      exact Tr.nil (Tr.fin0 (.cons rfl (.cons rfl (.cons rfl (.cons rfl (.cons rfl (.cons rfl (.cons rfl .nil))))))) (.cons rfl (.cons rfl (.cons rfl .nil))))
    ·show Tr _ _ (LF [(1, (.pointer (some ⟨b100, 0, none⟩))), (4, (.slice Al139 (l139).length cl139)), (6, (.pointer (some ⟨b140, 0, none⟩))), (13, (.slice Ap0_1 (p0.Slots).length cp0_1)), (14, (iv (p0.Slots.length : Int))), (15, (iv (iL1 : Int))), (36, (.bool g144))]) (LE [(1, bx b100 #[(iv p0.W), (iv p0.H), (iv p0.Rail), (iv p0.Gap), (.slice Ap0_0 (p0.Kinds).length cp0_0), (.slice Ap0_1 (p0.Slots).length cp0_1), (.slice Ap0_2 (p0.Marks).length cp0_2)] 26), (4, ow Al139 cl139 86 fl_TRect l139), (19, bx b140 #[(sv xL1.Board), (iv xL1.Quarters), (iv xL1.At.X), (iv xL1.At.Y)] 53)]) _
     refine Tr.mv rfl rfl ?_
     obtain ⟨g147, hg147, H⟩ := bnd H
     refine Tr.mid0 8 [(1, (.pointer (some ⟨b100, 0, none⟩))), (4, (.slice Al139 (l139).length cl139)), (6, (.pointer (some ⟨b140, 0, none⟩))), (13, (.slice Ap0_1 (p0.Slots).length cp0_1)), (14, (iv (p0.Slots.length : Int))), (15, (iv (iL1 : Int))), (45, (.bool g147))] [(1, bx b100 #[(iv p0.W), (iv p0.H), (iv p0.Rail), (iv p0.Gap), (.slice Ap0_0 (p0.Kinds).length cp0_0), (.slice Ap0_1 (p0.Slots).length cp0_1), (.slice Ap0_2 (p0.Marks).length cp0_2)] 26), (4, ow Al139 cl139 86 fl_TRect l139), (19, bx b140 #[(sv xL1.Board), (iv xL1.Quarters), (iv xL1.At.X), (iv xL1.At.Y)] 53)] ?_ ?_
     ·cases hg154 : g144
      ·rw [hg154] at hg147
       rw [if_neg (by decide)] at hg147
       have H := hg147
       refine Tr.val (wg rfl rfl rfl) rfl (fun _ _ h1 h2 => run_fieldAddr fo_53_2 (h1.ev rfl)) ?_
       refine Tr.val (wg rfl rfl rfl) rfl (fun _ _ h1 h2 => run_fieldAddr fo_51_1 (h1.ev rfl)) ?_
       refine Tr.val (wg rfl rfl rfl) rfl (fun _ _ h1 h2 => run_load1 ag_3 (h1.ev rfl) (rdb h2 (vs := [(sv xL1.Board), (iv xL1.Quarters), (iv xL1.At.X), (iv xL1.At.Y)]) (k := 19) rfl 3) rfl) ?_
       refine Tr.val (wg rfl rfl rfl) rfl (fun _ _ h1 h2 => run_fieldAddr fo_26_1 (h1.ev rfl)) ?_
       refine Tr.val (wg rfl rfl rfl) rfl (fun _ _ h1 h2 => run_load1 ag_3 (h1.ev rfl) (rdb h2 (vs := [(iv p0.W), (iv p0.H), (iv p0.Rail), (iv p0.Gap), (.slice Ap0_0 (p0.Kinds).length cp0_0), (.slice Ap0_1 (p0.Slots).length cp0_1), (.slice Ap0_2 (p0.Marks).length cp0_2)]) (k := 1) rfl 1) rfl) ?_
       obtain ⟨y148, hy148, H⟩ := bnd H
       refine Tr.call0 (r := (.bool y148)) (wg rfl rfl rfl) rfl Tryz.call41 (evl_cons rfl (evl_cons rfl (evl_cons rfl evl_nil))) (fun W hW => F_panel_within_ok xL1.At.Y 0 p0.H y148 hy148 (HF.start _)) ?_
       refine Tr.val (wg rfl rfl rfl) rfl (fun _ _ h1 h2 => run_not (h1.ev rfl)) ?_
       refine Tr.va rfl (fun _ _ h1 h2 => run_pickF (h1.ev rfl) (h1.ev rfl)) ?_
       obtain rfl := Option.some.inj H
       exact Tr.nil (Tr.fin0 (.cons rfl (.cons rfl (.cons rfl (.cons rfl (.cons rfl (.cons rfl (.cons rfl .nil))))))) (.cons rfl (.cons rfl (.cons rfl .nil))))
      ·rw [hg154] at hg147
       rw [if_pos rfl] at hg147
       have H := hg147
       obtain rfl := Option.some.inj H
       refine Tr.pass rfl rfl rfl rfl rfl (by decide) ?_
       refine Tr.pass rfl rfl rfl rfl rfl (by decide) ?_
       refine Tr.pass rfl rfl rfl rfl rfl (by decide) ?_
       refine Tr.pass rfl rfl rfl rfl rfl (by decide) ?_
       refine Tr.pass rfl rfl rfl rfl rfl (by decide) ?_
       refine Tr.pass rfl rfl rfl rfl rfl (by decide) ?_
       refine Tr.pass rfl rfl rfl rfl rfl (by decide) ?_
       refine Tr.va rfl (fun _ _ h1 h2 => run_pickT (h1.ev rfl) (h1.ev rfl)) ?_
       exact Tr.nil (Tr.fin0 (.cons rfl (.cons rfl (.cons rfl (.cons rfl (.cons rfl (.cons rfl (.cons rfl .nil))))))) (.cons rfl (.cons rfl (.cons rfl .nil))))
     ·show Tr _ _ (LF [(1, (.pointer (some ⟨b100, 0, none⟩))), (4, (.slice Al139 (l139).length cl139)), (6, (.pointer (some ⟨b140, 0, none⟩))), (13, (.slice Ap0_1 (p0.Slots).length cp0_1)), (14, (iv (p0.Slots.length : Int))), (15, (iv (iL1 : Int))), (45, (.bool g147))]) (LE [(1, bx b100 #[(iv p0.W), (iv p0.H), (iv p0.Rail), (iv p0.Gap), (.slice Ap0_0 (p0.Kinds).length cp0_0), (.slice Ap0_1 (p0.Slots).length cp0_1), (.slice Ap0_2 (p0.Marks).length cp0_2)] 26), (4, ow Al139 cl139 86 fl_TRect l139), (19, bx b140 #[(sv xL1.Board), (iv xL1.Quarters), (iv xL1.At.X), (iv xL1.At.Y)] 53)]) _
      refine Tr.nil (Tr.normThen ?_)
      refine Tr.cond rfl H (fun H => ?_) (fun H => ?_)
      ·refine Tr.sr ?_
       refine Tr.asg rfl rfl ?_
       refine Tr.nilOwn 21 86 fl_TRect ?_
       show Tr _ _ (uf _ 2 (.slice none (([] : List TRect)).length 0)) _ _
       refine Tr.asg rfl rfl ?_
       refine Tr.nil (Tr.normThen ?_)
       refine Tr.ret (Tr.retThen (Tr.retBlock (Tr.retThen (Tr.retThen (Tr.retBlock (Tr.retThen ?_))))))
       obtain rfl := Option.some.inj H
       exact Tr.out (m := [(.slice none (([] : List TRect)).length 0), (iv 1)]) [] (res_tmp rfl (res_tmp rfl res_nil)) (fun W hW => ⟨(none, 0), rfl, slf_nil, HF.lowE leB (hW.pick (ks := [21]) (by decide) (pk_cons rfl pk_nil)) ⟨ow_any _ _ _ _ tr_TRect, trivial⟩⟩)
      ·refine Tr.skip (Tr.normThen ?_)
       refine Tr.sr ?_
       refine Tr.va rfl (fun _ _ h1 h2 => run_loadN (cs := [(iv p0.W), (iv p0.H), (iv p0.Rail), (iv p0.Gap), (.slice Ap0_0 (p0.Kinds).length cp0_0), (.slice Ap0_1 (p0.Slots).length cp0_1), (.slice Ap0_2 (p0.Marks).length cp0_2)]) ag_26 sz_26 (h1.ev rfl) (CellsAt.take (rdb h2 (vs := [(iv p0.W), (iv p0.H), (iv p0.Rail), (iv p0.Gap), (.slice Ap0_0 (p0.Kinds).length cp0_0), (.slice Ap0_1 (p0.Slots).length cp0_1), (.slice Ap0_2 (p0.Marks).length cp0_2)]) (k := 1) rfl 0) 7) rfl) ?_
       refine Tr.va rfl (fun _ _ h1 h2 => run_loadN (cs := [(sv xL1.Board), (iv xL1.Quarters), (iv xL1.At.X), (iv xL1.At.Y)]) ag_53 sz_53 (h1.ev rfl) (CellsAt.take (rdb h2 (vs := [(sv xL1.Board), (iv xL1.Quarters), (iv xL1.At.X), (iv xL1.At.Y)]) (k := 19) rfl 0) 4) rfl) ?_
       obtain ⟨y149, hy149, H⟩ := bnd H
       refine Tr.call0 (r := (.agg #[(iv y149.X0), (iv y149.Y0), (iv y149.X1), (iv y149.Y1)])) (wn rfl) rfl Tryz.call67 (evl_cons rfl (evl_cons rfl evl_nil)) (fun W hW => F_panel_cellOf_ok p0 Ap0_0 cp0_0 (hp0_0.ext hW.extAll) Ap0_1 cp0_1 (hp0_1.ext hW.extAll) Ap0_2 cp0_2 (hp0_2.ext hW.extAll) xL1 y149 hy149 (HF.start _)) ?_
       refine Tr.alloc 22 (wn rfl) rfl ze_86 fun b150 => ?_
       refine Tr.store 22 (cs := [(iv y149.X0), (iv y149.Y0), (iv y149.X1), (iv y149.Y1)]) [(iv y149.X0), (iv y149.Y0), (iv y149.X1), (iv y149.Y1)] (wn rfl) rfl rfl rfl rfl sz_86 rfl rfl rfl ?_
       refine Tr.nil (Tr.normThen ?_)
       refine Tr.seq ?_
       refine Tr.sr ?_
       refine Tr.va rfl (fun _ _ h1 h2 => run_loadN (cs := [(iv p0.W), (iv p0.H), (iv p0.Rail), (iv p0.Gap), (.slice Ap0_0 (p0.Kinds).length cp0_0), (.slice Ap0_1 (p0.Slots).length cp0_1), (.slice Ap0_2 (p0.Marks).length cp0_2)]) ag_26 sz_26 (h1.ev rfl) (CellsAt.take (rdb h2 (vs := [(iv p0.W), (iv p0.H), (iv p0.Rail), (iv p0.Gap), (.slice Ap0_0 (p0.Kinds).length cp0_0), (.slice Ap0_1 (p0.Slots).length cp0_1), (.slice Ap0_2 (p0.Marks).length cp0_2)]) (k := 1) rfl 0) 7) rfl) ?_
       refine Tr.va rfl (fun _ _ h1 h2 => run_loadN (cs := [(iv y149.X0), (iv y149.Y0), (iv y149.X1), (iv y149.Y1)]) ag_86 sz_86 (h1.ev rfl) (CellsAt.take (rdb h2 (vs := [(iv y149.X0), (iv y149.Y0), (iv y149.X1), (iv y149.Y1)]) (k := 22) rfl 0) 4) rfl) ?_
       obtain ⟨y151, hy151, H⟩ := bnd H
       refine Tr.call0 (r := (.bool y151)) (wn rfl) rfl Tryz.call68 (evl_cons rfl (evl_cons rfl evl_nil)) (fun W hW => F_panel_isOn_ok p0 Ap0_0 cp0_0 (hp0_0.ext hW.extAll) Ap0_1 cp0_1 (hp0_1.ext hW.extAll) Ap0_2 cp0_2 (hp0_2.ext hW.extAll) y149 y151 hy151 (HF.start _)) ?_
       refine Tr.va rfl (fun _ _ h1 h2 => run_not (h1.ev rfl)) ?_
       refine Tr.nil (Tr.normThen ?_)
       refine Tr.cond rfl H (fun H => ?_) (fun H => ?_)
       ·refine Tr.sr ?_
        refine Tr.asg rfl rfl ?_
        refine Tr.nilOwn 23 86 fl_TRect ?_
        show Tr _ _ (uf _ 2 (.slice none (([] : List TRect)).length 0)) _ _
        refine Tr.asg rfl rfl ?_
        refine Tr.nil (Tr.normThen ?_)
        refine Tr.ret (Tr.retThen (Tr.retBlock (Tr.retThen (Tr.retThen (Tr.retBlock (Tr.retThen ?_))))))
        obtain rfl := Option.some.inj H
        exact Tr.out (m := [(.slice none (([] : List TRect)).length 0), (iv 1)]) [] (res_tmp rfl (res_tmp rfl res_nil)) (fun W hW => ⟨(none, 0), rfl, slf_nil, HF.lowE leB (hW.pick (ks := [23]) (by decide) (pk_cons rfl pk_nil)) ⟨ow_any _ _ _ _ tr_TRect, trivial⟩⟩)
       ·refine Tr.skip (Tr.normThen ?_)
        refine Tr.seq ?_
        refine Tr.sr ?_
        refine Tr.mv rfl rfl ?_
        refine Tr.mkFunc (vs := [(.pointer (some ⟨b150, 0, none⟩)), (.pointer (some ⟨b100, 0, none⟩))]) (wn rfl) rfl (evl_cons rfl (evl_cons rfl evl_nil)) ?_
        obtain ⟨y152, hy152, H⟩ := bnd H
        refine Tr.call0 (r := (.bool y152)) (wn rfl) rfl Tryz.call45 (evl_cons rfl (evl_cons rfl evl_nil)) (fun W hW => F_slices_ContainsFunc_Rect_ok l139 Al139 cl139 (hW.slCall (k := 4) rfl) (fun z0 => F_panel_cells_1 z0 y149 p0) 69 [(.pointer (some ⟨b150, 0, none⟩)), (.pointer (some ⟨b100, 0, none⟩))] Tryz.call69 (fun w' he z0 y hy => F_panel_cells_1_ok z0 y149 b150 (he.r _ (hW.capR (k := 22) rfl)) (he.cells (hW.capR (k := 22) rfl) (hW.capC (k := 22) rfl)) p0 Ap0_0 cp0_0 (hp0_0.ext (hW.extAll.trans he)) Ap0_1 cp0_1 (hp0_1.ext (hW.extAll.trans he)) Ap0_2 cp0_2 (hp0_2.ext (hW.extAll.trans he)) b100 (he.r _ (hW.capR (k := 1) rfl)) (he.cells (hW.capR (k := 1) rfl) (hW.capC (k := 1) rfl)) y hy (HF.start _)) y152 hy152 (HF.start _)) ?_
        refine Tr.nil (Tr.normThen ?_)
        refine Tr.cond rfl H (fun H => ?_) (fun H => ?_)
        ·refine Tr.sr ?_
         refine Tr.asg rfl rfl ?_
         refine Tr.nilOwn 24 86 fl_TRect ?_
         show Tr _ _ (uf _ 2 (.slice none (([] : List TRect)).length 0)) _ _
         refine Tr.asg rfl rfl ?_
         refine Tr.nil (Tr.normThen ?_)
         refine Tr.ret (Tr.retThen (Tr.retBlock (Tr.retThen (Tr.retThen (Tr.retBlock (Tr.retThen ?_))))))
         obtain rfl := Option.some.inj H
         exact Tr.out (m := [(.slice none (([] : List TRect)).length 0), (iv 12)]) [] (res_tmp rfl (res_tmp rfl res_nil)) (fun W hW => ⟨(none, 0), rfl, slf_nil, HF.lowE leB (hW.pick (ks := [24]) (by decide) (pk_cons rfl pk_nil)) ⟨ow_any _ _ _ _ tr_TRect, trivial⟩⟩)
        ·refine Tr.skip (Tr.normThen ?_)
         refine Tr.region ?_
         refine Tr.mv rfl rfl ?_
         refine Tr.va rfl (fun _ _ h1 h2 => run_loadN (cs := [(iv y149.X0), (iv y149.Y0), (iv y149.X1), (iv y149.Y1)]) ag_86 sz_86 (h1.ev rfl) (CellsAt.take (rdb h2 (vs := [(iv y149.X0), (iv y149.Y0), (iv y149.X1), (iv y149.Y1)]) (k := 22) rfl 0) 4) rfl) ?_
         refine Tr.buildSlice 25 (e := 86) (vs := [(0, (.agg #[(iv y149.X0), (iv y149.Y0), (iv y149.X1), (iv y149.Y1)]))]) (cs := [(iv y149.X0), (iv y149.Y0), (iv y149.X1), (iv y149.Y1)]) (wn rfl) rfl (evs_cons rfl evs_nil) (by kernel_rfl) fun b153 => ?_
         obtain ⟨l154, hl154, H⟩ := bnd H
         refine Tr.append 4 (t := fl_TRect) (l := l139) (l2 := [y149]) (wn rfl) rfl rfl rfl rfl (fun W hW => ⟨[[(iv y149.X0), (iv y149.Y0), (iv y149.X1), (iv y149.Y1)]], (.cons ⟨(), trivial, rfl⟩ .nil), rdb hW (vs := [(iv y149.X0), (iv y149.Y0), (iv y149.X1), (iv y149.Y1)]) (k := 25) rfl 0⟩) un_66 sz_86 zl_86 (by decide) by_86 rfl hl154 fun Al154 cl154 hAl154 => ?_
         refine Tr.asg rfl rfl ?_
         refine Tr.nil (Tr.normBlock (Tr.normThen ?_))
         refine Tr.region ?_
         refine Tr.va rfl (fun _ _ h1 h2 => run_add (h1.ev rfl) (h1.ev rfl)) ?_
         refine Tr.mv rfl rfl ?_
         refine Tr.nil ?_
         exact Tr.backThen leL1 (restL1, (iL1 + 1), l154, Al154, cl154) ⟨rfl, range_tl hdL1, range_lt hdL1, H, hAl154⟩ (.cons rfl (.cons rfl (.cons rfl (.cons rfl (.cons (congrArg (fun z => some (Value.int .i64 z)) (range_up hdL1 hp0_1.form)) .nil))))) (.cons rfl (.cons rfl .nil))

theorem F_panel_isOnPanel_ok {w : Bs} (p0 : TPanel) (Ap0_0 : Option Addr) (cp0_0 : Nat) (hp0_0 : Sl w.R w.W fl_TBoardKind Ap0_0 cp0_0 p0.Kinds) (Ap0_1 : Option Addr) (cp0_1 : Nat) (hp0_1 : Sl w.R w.W fl_TSlot Ap0_1 cp0_1 p0.Slots) (Ap0_2 : Option Addr) (cp0_2 : Nat) (hp0_2 : Sl w.R w.W fl_TPoint Ap0_2 cp0_2 p0.Marks) (p1 : TPoint) (r : Bool) (H : F_panel_isOnPanel p0 p1 = some r) (hE : HF w w.W E0) : Calls Tryz.prog 44 [(.agg #[(iv p0.W), (iv p0.H), (iv p0.Rail), (iv p0.Gap), (.slice Ap0_0 (p0.Kinds).length cp0_0), (.slice Ap0_1 (p0.Slots).length cp0_1), (.slice Ap0_2 (p0.Marks).length cp0_2)]), (.agg #[(iv p1.X), (iv p1.Y)])].toArray w.W fun e W' => e = .returned (.bool r) ∧ HF w W' E0 := by
 unfold F_panel_isOnPanel at H
 have leB := Bs.Le.refl w
 refine Tr.enter (n := 17) Tryz.func44 rfl rfl rfl hE ?_
 refine Tr.sr ?_
 refine Tr.box 1 (cs := [(iv p0.W), (iv p0.H), (iv p0.Rail), (iv p0.Gap), (.slice Ap0_0 (p0.Kinds).length cp0_0), (.slice Ap0_1 (p0.Slots).length cp0_1), (.slice Ap0_2 (p0.Marks).length cp0_2)]) (wn rfl) rfl rfl rfl fun b100 => ?_
 refine Tr.box 2 (cs := [(iv p1.X), (iv p1.Y)]) (wn rfl) rfl rfl rfl fun b101 => ?_
 refine Tr.asg rfl rfl ?_
 refine Tr.nil (Tr.normThen ?_)
 refine Tr.sr ?_
 refine Tr.va rfl (fun _ _ h1 h2 => run_fieldAddr fo_51_0 (h1.ev rfl)) ?_
 refine Tr.va rfl (fun _ _ h1 h2 => run_load1 ag_3 (h1.ev rfl) (rdb h2 (vs := [(iv p1.X), (iv p1.Y)]) (k := 2) rfl 0) rfl) ?_
 refine Tr.va rfl (fun _ _ h1 h2 => run_fieldAddr fo_26_0 (h1.ev rfl)) ?_
 refine Tr.va rfl (fun _ _ h1 h2 => run_load1 ag_3 (h1.ev rfl) (rdb h2 (vs := [(iv p0.W), (iv p0.H), (iv p0.Rail), (iv p0.Gap), (.slice Ap0_0 (p0.Kinds).length cp0_0), (.slice Ap0_1 (p0.Slots).length cp0_1), (.slice Ap0_2 (p0.Marks).length cp0_2)]) (k := 1) rfl 0) rfl) ?_
 obtain ⟨y102, hy102, H⟩ := bnd H
 refine Tr.call0 (r := (.bool y102)) (wn rfl) rfl Tryz.call41 (evl_cons rfl (evl_cons rfl (evl_cons rfl evl_nil))) (fun W hW => F_panel_within_ok p1.X 0 p0.W y102 hy102 (HF.start _)) ?_
 refine Tr.mv rfl rfl ?_
 obtain ⟨g104, hg104, H⟩ := bnd H
 refine Tr.mid0 6 [(16, (.bool g104))] [(1, bx b100 #[(iv p0.W), (iv p0.H), (iv p0.Rail), (iv p0.Gap), (.slice Ap0_0 (p0.Kinds).length cp0_0), (.slice Ap0_1 (p0.Slots).length cp0_1), (.slice Ap0_2 (p0.Marks).length cp0_2)] 26), (2, bx b101 #[(iv p1.X), (iv p1.Y)] 51)] ?_ ?_
 ·cases hg105 : y102
  ·rw [hg105] at hg104
   rw [if_neg (by decide)] at hg104
   have H := hg104
   obtain rfl := Option.some.inj H
   refine Tr.pass rfl rfl rfl rfl rfl (by decide) ?_
   refine Tr.pass rfl rfl rfl rfl rfl (by decide) ?_
   refine Tr.pass rfl rfl rfl rfl rfl (by decide) ?_
   refine Tr.pass rfl rfl rfl rfl rfl (by decide) ?_
   refine Tr.pass rfl rfl rfl rfl rfl (by decide) ?_
   refine Tr.va rfl (fun _ _ h1 h2 => run_pickF (h1.ev rfl) (h1.ev rfl)) ?_
   exact Tr.nil (Tr.fin0 (.cons rfl .nil) (.cons rfl (.cons rfl .nil)))
  ·rw [hg105] at hg104
   rw [if_pos rfl] at hg104
   have H := hg104
   refine Tr.val (wg rfl rfl rfl) rfl (fun _ _ h1 h2 => run_fieldAddr fo_51_1 (h1.ev rfl)) ?_
   refine Tr.val (wg rfl rfl rfl) rfl (fun _ _ h1 h2 => run_load1 ag_3 (h1.ev rfl) (rdb h2 (vs := [(iv p1.X), (iv p1.Y)]) (k := 2) rfl 1) rfl) ?_
   refine Tr.val (wg rfl rfl rfl) rfl (fun _ _ h1 h2 => run_fieldAddr fo_26_1 (h1.ev rfl)) ?_
   refine Tr.val (wg rfl rfl rfl) rfl (fun _ _ h1 h2 => run_load1 ag_3 (h1.ev rfl) (rdb h2 (vs := [(iv p0.W), (iv p0.H), (iv p0.Rail), (iv p0.Gap), (.slice Ap0_0 (p0.Kinds).length cp0_0), (.slice Ap0_1 (p0.Slots).length cp0_1), (.slice Ap0_2 (p0.Marks).length cp0_2)]) (k := 1) rfl 1) rfl) ?_
   obtain ⟨y105, hy105, H⟩ := bnd H
   refine Tr.call0 (r := (.bool y105)) (wg rfl rfl rfl) rfl Tryz.call41 (evl_cons rfl (evl_cons rfl (evl_cons rfl evl_nil))) (fun W hW => F_panel_within_ok p1.Y 0 p0.H y105 hy105 (HF.start _)) ?_
   refine Tr.va rfl (fun _ _ h1 h2 => run_pickT (h1.ev rfl) (h1.ev rfl)) ?_
   obtain rfl := Option.some.inj H
   exact Tr.nil (Tr.fin0 (.cons rfl .nil) (.cons rfl (.cons rfl .nil)))
 ·show Tr _ _ (LF [(16, (.bool g104))]) (LE [(1, bx b100 #[(iv p0.W), (iv p0.H), (iv p0.Rail), (iv p0.Gap), (.slice Ap0_0 (p0.Kinds).length cp0_0), (.slice Ap0_1 (p0.Slots).length cp0_1), (.slice Ap0_2 (p0.Marks).length cp0_2)] 26), (2, bx b101 #[(iv p1.X), (iv p1.Y)] 51)]) _
  refine Tr.asg rfl rfl ?_
  refine Tr.nil (Tr.normThen ?_)
  refine Tr.ret ?_
  obtain rfl := Option.some.inj H
  exact Tr.out (m := [(.bool g104)]) [] (res_tmp rfl res_nil) (fun W hW => ⟨rfl, hW.low leB⟩)

theorem F_panel_isInside_ok {w : Bs} (p0 : TRect) (p1 : TPoint) (r : Bool) (H : F_panel_isInside p0 p1 = some r) (hE : HF w w.W E0) : Calls Tryz.prog 47 [(.agg #[(iv p0.X0), (iv p0.Y0), (iv p0.X1), (iv p0.Y1)]), (.agg #[(iv p1.X), (iv p1.Y)])].toArray w.W fun e W' => e = .returned (.bool r) ∧ HF w W' E0 := by
 unfold F_panel_isInside at H
 have leB := Bs.Le.refl w
 refine Tr.enter (n := 31) Tryz.func47 rfl rfl rfl hE ?_
 refine Tr.sr ?_
 refine Tr.box 1 (cs := [(iv p0.X0), (iv p0.Y0), (iv p0.X1), (iv p0.Y1)]) (wn rfl) rfl rfl rfl fun b100 => ?_
 refine Tr.box 2 (cs := [(iv p1.X), (iv p1.Y)]) (wn rfl) rfl rfl rfl fun b101 => ?_
 refine Tr.asg rfl rfl ?_
 refine Tr.nil (Tr.normThen ?_)
 refine Tr.sr ?_
 refine Tr.va rfl (fun _ _ h1 h2 => run_fieldAddr fo_51_0 (h1.ev rfl)) ?_
 refine Tr.va rfl (fun _ _ h1 h2 => run_load1 ag_3 (h1.ev rfl) (rdb h2 (vs := [(iv p1.X), (iv p1.Y)]) (k := 2) rfl 0) rfl) ?_
 refine Tr.va rfl (fun _ _ h1 h2 => run_fieldAddr fo_86_0 (h1.ev rfl)) ?_
 refine Tr.va rfl (fun _ _ h1 h2 => run_load1 ag_3 (h1.ev rfl) (rdb h2 (vs := [(iv p0.X0), (iv p0.Y0), (iv p0.X1), (iv p0.Y1)]) (k := 1) rfl 0) rfl) ?_
 refine Tr.va rfl (fun _ _ h1 h2 => run_gtr (h1.ev rfl) (h1.ev rfl)) ?_
 refine Tr.mv rfl rfl ?_
 refine Tr.mid0 6 [(2, (.pointer (some ⟨b100, 0, none⟩))), (3, (.pointer (some ⟨b101, 0, none⟩))), (16, (.bool ((decide (p0.X0 < p1.X)) && (decide (p1.X < p0.X1)))))] [(1, bx b100 #[(iv p0.X0), (iv p0.Y0), (iv p0.X1), (iv p0.Y1)] 86), (2, bx b101 #[(iv p1.X), (iv p1.Y)] 51)] ?_ ?_
 ·cases hg101 : (decide (p0.X0 < p1.X))
  ·refine Tr.pass rfl rfl rfl rfl rfl (by decide) ?_
   refine Tr.pass rfl rfl rfl rfl rfl (by decide) ?_
   refine Tr.pass rfl rfl rfl rfl rfl (by decide) ?_
   refine Tr.pass rfl rfl rfl rfl rfl (by decide) ?_
   refine Tr.pass rfl rfl rfl rfl rfl (by decide) ?_
   refine Tr.va rfl (fun _ _ h1 h2 => run_pickF (h1.ev rfl) (h1.ev rfl)) ?_
   exact Tr.nil (Tr.fin0 (.cons rfl (.cons rfl (.cons rfl .nil))) (.cons rfl (.cons rfl .nil)))
  ·refine Tr.val (wg rfl rfl rfl) rfl (fun _ _ h1 h2 => run_fieldAddr fo_51_0 (h1.ev rfl)) ?_
   refine Tr.val (wg rfl rfl rfl) rfl (fun _ _ h1 h2 => run_load1 ag_3 (h1.ev rfl) (rdb h2 (vs := [(iv p1.X), (iv p1.Y)]) (k := 2) rfl 0) rfl) ?_
   refine Tr.val (wg rfl rfl rfl) rfl (fun _ _ h1 h2 => run_fieldAddr fo_86_2 (h1.ev rfl)) ?_
   refine Tr.val (wg rfl rfl rfl) rfl (fun _ _ h1 h2 => run_load1 ag_3 (h1.ev rfl) (rdb h2 (vs := [(iv p0.X0), (iv p0.Y0), (iv p0.X1), (iv p0.Y1)]) (k := 1) rfl 2) rfl) ?_
   refine Tr.val (wg rfl rfl rfl) rfl (fun _ _ h1 h2 => run_lss (h1.ev rfl) (h1.ev rfl)) ?_
   refine Tr.va rfl (fun _ _ h1 h2 => run_pickT (h1.ev rfl) (h1.ev rfl)) ?_
   exact Tr.nil (Tr.fin0 (.cons rfl (.cons rfl (.cons rfl .nil))) (.cons rfl (.cons rfl .nil)))
 ·show Tr _ _ (LF [(2, (.pointer (some ⟨b100, 0, none⟩))), (3, (.pointer (some ⟨b101, 0, none⟩))), (16, (.bool ((decide (p0.X0 < p1.X)) && (decide (p1.X < p0.X1)))))]) (LE [(1, bx b100 #[(iv p0.X0), (iv p0.Y0), (iv p0.X1), (iv p0.Y1)] 86), (2, bx b101 #[(iv p1.X), (iv p1.Y)] 51)]) _
  refine Tr.mv rfl rfl ?_
  refine Tr.mid0 6 [(2, (.pointer (some ⟨b100, 0, none⟩))), (3, (.pointer (some ⟨b101, 0, none⟩))), (23, (.bool (((decide (p0.X0 < p1.X)) && (decide (p1.X < p0.X1))) && (decide (p0.Y0 < p1.Y)))))] [(1, bx b100 #[(iv p0.X0), (iv p0.Y0), (iv p0.X1), (iv p0.Y1)] 86), (2, bx b101 #[(iv p1.X), (iv p1.Y)] 51)] ?_ ?_
  ·cases hg101 : ((decide (p0.X0 < p1.X)) && (decide (p1.X < p0.X1)))
   ·refine Tr.pass rfl rfl rfl rfl rfl (by decide) ?_
    refine Tr.pass rfl rfl rfl rfl rfl (by decide) ?_
    refine Tr.pass rfl rfl rfl rfl rfl (by decide) ?_
    refine Tr.pass rfl rfl rfl rfl rfl (by decide) ?_
    refine Tr.pass rfl rfl rfl rfl rfl (by decide) ?_
    refine Tr.va rfl (fun _ _ h1 h2 => run_pickF (h1.ev rfl) (h1.ev rfl)) ?_
    exact Tr.nil (Tr.fin0 (.cons rfl (.cons rfl (.cons rfl .nil))) (.cons rfl (.cons rfl .nil)))
   ·refine Tr.val (wg rfl rfl rfl) rfl (fun _ _ h1 h2 => run_fieldAddr fo_51_1 (h1.ev rfl)) ?_
    refine Tr.val (wg rfl rfl rfl) rfl (fun _ _ h1 h2 => run_load1 ag_3 (h1.ev rfl) (rdb h2 (vs := [(iv p1.X), (iv p1.Y)]) (k := 2) rfl 1) rfl) ?_
    refine Tr.val (wg rfl rfl rfl) rfl (fun _ _ h1 h2 => run_fieldAddr fo_86_1 (h1.ev rfl)) ?_
    refine Tr.val (wg rfl rfl rfl) rfl (fun _ _ h1 h2 => run_load1 ag_3 (h1.ev rfl) (rdb h2 (vs := [(iv p0.X0), (iv p0.Y0), (iv p0.X1), (iv p0.Y1)]) (k := 1) rfl 1) rfl) ?_
    refine Tr.val (wg rfl rfl rfl) rfl (fun _ _ h1 h2 => run_gtr (h1.ev rfl) (h1.ev rfl)) ?_
    refine Tr.va rfl (fun _ _ h1 h2 => run_pickT (h1.ev rfl) (h1.ev rfl)) ?_
    exact Tr.nil (Tr.fin0 (.cons rfl (.cons rfl (.cons rfl .nil))) (.cons rfl (.cons rfl .nil)))
  ·show Tr _ _ (LF [(2, (.pointer (some ⟨b100, 0, none⟩))), (3, (.pointer (some ⟨b101, 0, none⟩))), (23, (.bool (((decide (p0.X0 < p1.X)) && (decide (p1.X < p0.X1))) && (decide (p0.Y0 < p1.Y)))))]) (LE [(1, bx b100 #[(iv p0.X0), (iv p0.Y0), (iv p0.X1), (iv p0.Y1)] 86), (2, bx b101 #[(iv p1.X), (iv p1.Y)] 51)]) _
   refine Tr.mv rfl rfl ?_
   refine Tr.mid0 6 [(30, (.bool ((((decide (p0.X0 < p1.X)) && (decide (p1.X < p0.X1))) && (decide (p0.Y0 < p1.Y))) && (decide (p1.Y < p0.Y1)))))] [(1, bx b100 #[(iv p0.X0), (iv p0.Y0), (iv p0.X1), (iv p0.Y1)] 86), (2, bx b101 #[(iv p1.X), (iv p1.Y)] 51)] ?_ ?_
   ·cases hg101 : (((decide (p0.X0 < p1.X)) && (decide (p1.X < p0.X1))) && (decide (p0.Y0 < p1.Y)))
    ·refine Tr.pass rfl rfl rfl rfl rfl (by decide) ?_
     refine Tr.pass rfl rfl rfl rfl rfl (by decide) ?_
     refine Tr.pass rfl rfl rfl rfl rfl (by decide) ?_
     refine Tr.pass rfl rfl rfl rfl rfl (by decide) ?_
     refine Tr.pass rfl rfl rfl rfl rfl (by decide) ?_
     refine Tr.va rfl (fun _ _ h1 h2 => run_pickF (h1.ev rfl) (h1.ev rfl)) ?_
     exact Tr.nil (Tr.fin0 (.cons rfl .nil) (.cons rfl (.cons rfl .nil)))
    ·refine Tr.val (wg rfl rfl rfl) rfl (fun _ _ h1 h2 => run_fieldAddr fo_51_1 (h1.ev rfl)) ?_
     refine Tr.val (wg rfl rfl rfl) rfl (fun _ _ h1 h2 => run_load1 ag_3 (h1.ev rfl) (rdb h2 (vs := [(iv p1.X), (iv p1.Y)]) (k := 2) rfl 1) rfl) ?_
     refine Tr.val (wg rfl rfl rfl) rfl (fun _ _ h1 h2 => run_fieldAddr fo_86_3 (h1.ev rfl)) ?_
     refine Tr.val (wg rfl rfl rfl) rfl (fun _ _ h1 h2 => run_load1 ag_3 (h1.ev rfl) (rdb h2 (vs := [(iv p0.X0), (iv p0.Y0), (iv p0.X1), (iv p0.Y1)]) (k := 1) rfl 3) rfl) ?_
     refine Tr.val (wg rfl rfl rfl) rfl (fun _ _ h1 h2 => run_lss (h1.ev rfl) (h1.ev rfl)) ?_
     refine Tr.va rfl (fun _ _ h1 h2 => run_pickT (h1.ev rfl) (h1.ev rfl)) ?_
     exact Tr.nil (Tr.fin0 (.cons rfl .nil) (.cons rfl (.cons rfl .nil)))
   ·show Tr _ _ (LF [(30, (.bool ((((decide (p0.X0 < p1.X)) && (decide (p1.X < p0.X1))) && (decide (p0.Y0 < p1.Y))) && (decide (p1.Y < p0.Y1)))))]) (LE [(1, bx b100 #[(iv p0.X0), (iv p0.Y0), (iv p0.X1), (iv p0.Y1)] 86), (2, bx b101 #[(iv p1.X), (iv p1.Y)] 51)]) _
    refine Tr.asg rfl rfl ?_
    refine Tr.nil (Tr.normThen ?_)
    refine Tr.ret ?_
    obtain rfl := Option.some.inj H
    exact Tr.out (m := [(.bool ((((decide (p0.X0 < p1.X)) && (decide (p1.X < p0.X1))) && (decide (p0.Y0 < p1.Y))) && (decide (p1.Y < p0.Y1))))]) [] (res_tmp rfl res_nil) (fun W hW => ⟨rfl, hW.low leB⟩)

theorem F_panel_open_1_ok {w : Bs} (p0 : TRect) (q0 : TPoint) (bq0 : Nat) (hb0 : w.R bq0) (hc0 : CellsAt w.W bq0 0 [(iv q0.X), (iv q0.Y)]) (r : Bool) (H : F_panel_open_1 p0 q0 = some r) (hE : HF w w.W E0) : Calls Tryz.prog 46 [(.agg #[(iv p0.X0), (iv p0.Y0), (iv p0.X1), (iv p0.Y1)]), (.pointer (some ⟨bq0, 0, none⟩))].toArray w.W fun e W' => e = .returned (.bool r) ∧ HF w W' E0 := by
 unfold F_panel_open_1 at H
 have leB := Bs.Le.refl w
 refine Tr.enter (n := 7) Tryz.func46 rfl rfl rfl hE ?_
 refine Tr.sr ?_
 refine Tr.box 1 (cs := [(iv p0.X0), (iv p0.Y0), (iv p0.X1), (iv p0.Y1)]) (wn rfl) rfl rfl rfl fun b100 => ?_
 refine Tr.asg rfl rfl ?_
 refine Tr.nil (Tr.normThen ?_)
 refine Tr.sr ?_
 refine Tr.va rfl (fun _ _ h1 h2 => run_loadN (cs := [(iv p0.X0), (iv p0.Y0), (iv p0.X1), (iv p0.Y1)]) ag_86 sz_86 (h1.ev rfl) (CellsAt.take (rdb h2 (vs := [(iv p0.X0), (iv p0.Y0), (iv p0.X1), (iv p0.Y1)]) (k := 1) rfl 0) 4) rfl) ?_
 refine Tr.va rfl (fun _ _ h1 h2 => run_loadN (cs := [(iv q0.X), (iv q0.Y)]) ag_51 sz_51 (h1.ev rfl) (CellsAt.take (rdR hb0 hc0 h2) 2) rfl) ?_
 obtain ⟨y101, hy101, H⟩ := bnd H
 refine Tr.call0 (r := (.bool y101)) (wn rfl) rfl Tryz.call47 (evl_cons rfl (evl_cons rfl evl_nil)) (fun W hW => F_panel_isInside_ok p0 q0 y101 hy101 (HF.start _)) ?_
 refine Tr.asg rfl rfl ?_
 refine Tr.nil (Tr.normThen ?_)
 refine Tr.ret ?_
 obtain rfl := Option.some.inj H
 exact Tr.out (m := [(.bool y101)]) [] (res_tmp rfl res_nil) (fun W hW => ⟨rfl, hW.low leB⟩)

theorem F_slices_Index_Point_ok {w : Bs} (p0 : (List TPoint)) (Ap0_0 : Option Addr) (cp0_0 : Nat) (hp0_0 : Sl w.R w.W fl_TPoint Ap0_0 cp0_0 p0) (p1 : TPoint) (r : Int) (H : F_slices_Index_Point p0 p1 = some r) (hE : HF w w.W E0) : Calls Tryz.prog 72 [(.slice Ap0_0 (p0).length cp0_0), (.agg #[(iv p1.X), (iv p1.Y)])].toArray w.W fun e W' => e = .returned (iv r) ∧ HF w W' E0 := by
 unfold F_slices_Index_Point at H
 have leB := Bs.Le.refl w
 refine Tr.enter (n := 19) Tryz.func72 rfl rfl rfl hE ?_
 refine Tr.sr ?_
 refine Tr.box 1 (cs := [(iv p1.X), (iv p1.Y)]) (wn rfl) rfl rfl rfl fun b100 => ?_
 refine Tr.asg rfl rfl ?_
 refine Tr.nil (Tr.normThen ?_)
 refine Tr.seq ?_
 refine Tr.sr ?_
 refine Tr.mv rfl rfl ?_
 refine Tr.va rfl (fun _ _ h1 h2 => run_len un_24 (h1.ev rfl)) ?_
 refine Tr.mv rfl rfl ?_
 refine Tr.nil (Tr.normThen ?_)
 refine Tr.block ?_
 refine Tr.loop (σ := (List TPoint) × Nat) (fun m w s => m = s.1.length + 1 ∧ s.1 = List.drop s.2 p0 ∧ s.2 ≤ p0.length ∧ F_slices_Index_Point_L1 p1 s.1 s.2 = some r) (fun s => [(0, (.slice Ap0_0 (p0).length cp0_0)), (3, (.pointer (some ⟨b100, 0, none⟩))), (7, (iv (p0.length : Int))), (8, (iv (s.2 : Int)))]) (fun s => [(1, bx b100 #[(iv p1.X), (iv p1.Y)] 51)]) (p0.length + 1) (p0, 0) ⟨rfl, rfl, Nat.zero_le _, H⟩ (.cons rfl (.cons rfl (.cons rfl (.cons rfl .nil)))) (.cons rfl .nil) (fun _ _ h => absurd h.1 (by simp)) ?_
 intro w leL1 m s hs
 obtain ⟨restL1, iL1⟩ := s
 obtain ⟨hmL1, hdL1, hiL1, H⟩ := hs
 replace hdL1 : restL1 = List.drop iL1 p0 := hdL1
 replace H : F_slices_Index_Point_L1 p1 restL1 iL1 = some r := H
 replace hmL1 : m + 1 = restL1.length + 1 := hmL1
 replace hp0_0 := hp0_0.leR leL1
 replace leB := leB.trans leL1
 obtain rfl : m = restL1.length := by omega
 clear hmL1
 show Tr _ _ (LF [(0, (.slice Ap0_0 (p0).length cp0_0)), (3, (.pointer (some ⟨b100, 0, none⟩))), (7, (iv (p0.length : Int))), (8, (iv (iL1 : Int)))]) (LE [(1, bx b100 #[(iv p1.X), (iv p1.Y)] 51)]) _
 cases restL1 with
 | nil =>
  rw [F_slices_Index_Point_L1.eq_1] at H
  refine Tr.sr ?_
  refine Tr.va rfl (fun _ _ h1 h2 => run_lss (h1.ev rfl) (h1.ev rfl)) ?_
  refine Tr.nil (Tr.normThen ?_)
  refine Tr.seq ?_
  refine Tr.condF rfl (range_nil hdL1) ?_
  refine Tr.exit (Tr.exitThen (Tr.exitThen (Tr.exitBlock (Tr.normThen ?_))))
  refine Tr.sr ?_
  refine Tr.asg rfl rfl ?_
  refine Tr.nil (Tr.normThen ?_)
  refine Tr.ret ?_
  obtain rfl := Option.some.inj H
  exact Tr.out (m := [(iv (-1))]) [] (res_tmp rfl res_nil) (fun W hW => ⟨rfl, hW.low leB⟩)
 | cons xL1 restL1 =>
  rw [F_slices_Index_Point_L1.eq_2] at H
  refine Tr.sr ?_
  refine Tr.va rfl (fun _ _ h1 h2 => run_lss (h1.ev rfl) (h1.ev rfl)) ?_
  refine Tr.nil (Tr.normThen ?_)
  refine Tr.seq ?_
  refine Tr.condT rfl (range_on hdL1) ?_
  refine Tr.skip (Tr.normThen ?_)
  refine Tr.seq ?_
  refine Tr.block ?_
  refine Tr.sr ?_
  refine Tr.mv rfl rfl ?_
  refine Tr.asg rfl rfl ?_
  refine Tr.nil (Tr.normThen ?_)
  refine Tr.seq ?_
  refine Tr.draw (by kernel_rfl) (by kernel_rfl) ?_
  refine Tq.va rfl (fun _ _ h1 h2 => run_loadN (cs := [(iv p1.X), (iv p1.Y)]) ag_51 sz_51 (h1.ev rfl) (CellsAt.take (rdb h2 (vs := [(iv p1.X), (iv p1.Y)]) (k := 1) rfl 0) 2) rfl) ?_
  refine Tq.mv rfl rfl ?_
  refine Tq.mv rfl rfl ?_
  refine Tq.va rfl (fun _ _ h1 h2 => run_indexAddr el_24 (h1.ev rfl) hp0_0.form (h1.ev rfl) (Int.natCast_nonneg _) (range_lt hdL1)) ?_
  refine Tq.va rfl (fun _ _ h1 h2 => run_loadN (cs := [(iv xL1.X), (iv xL1.Y)]) ag_51 sz_51 (h1.ev rfl) (CellsAt.take (rdF ef_TPoint hp0_0 (range_at hdL1) h2) 2) rfl) ?_
  refine Tq.va rfl (fun _ _ h1 h2 => run_eql_51 p1 xL1 (h1.ev rfl) (h1.ev rfl)) ?_
  refine Tq.nil (Tr.normThen ?_)
  refine Tr.cond rfl H (fun H => ?_) (fun H => ?_)
  ·refine Tr.sr ?_
   refine Tr.mv rfl rfl ?_
   refine Tr.asg rfl rfl ?_
   refine Tr.nil (Tr.normThen ?_)
   refine Tr.ret (Tr.retBlock (Tr.retThen (Tr.retThen (Tr.retBlock (Tr.retThen ?_)))))
   obtain rfl := Option.some.inj H
   exact Tr.out (m := [(iv (iL1 : Int))]) [] (res_tmp rfl res_nil) (fun W hW => ⟨rfl, hW.low leB⟩)
  ·refine Tr.skip (Tr.normBlock (Tr.normThen ?_))
   refine Tr.region ?_
   refine Tr.va rfl (fun _ _ h1 h2 => run_add (h1.ev rfl) (h1.ev rfl)) ?_
   refine Tr.mv rfl rfl ?_
   refine Tr.nil ?_
   exact Tr.backThen leL1 (restL1, (iL1 + 1)) ⟨rfl, range_tl hdL1, range_lt hdL1, H⟩ (.cons rfl (.cons rfl (.cons rfl (.cons (congrArg (fun z => some (Value.int .i64 z)) (range_up hdL1 hp0_0.form)) .nil)))) (.cons rfl .nil)

theorem F_slices_Contains_Point_ok {w : Bs} (p0 : (List TPoint)) (Ap0_0 : Option Addr) (cp0_0 : Nat) (hp0_0 : Sl w.R w.W fl_TPoint Ap0_0 cp0_0 p0) (p1 : TPoint) (r : Bool) (H : F_slices_Contains_Point p0 p1 = some r) (hE : HF w w.W E0) : Calls Tryz.prog 48 [(.slice Ap0_0 (p0).length cp0_0), (.agg #[(iv p1.X), (iv p1.Y)])].toArray w.W fun e W' => e = .returned (.bool r) ∧ HF w W' E0 := by
 unfold F_slices_Contains_Point at H
 have leB := Bs.Le.refl w
 refine Tr.enter (n := 9) Tryz.func48 rfl rfl rfl hE ?_
 refine Tr.sr ?_
 refine Tr.box 1 (cs := [(iv p1.X), (iv p1.Y)]) (wn rfl) rfl rfl rfl fun b100 => ?_
 refine Tr.asg rfl rfl ?_
 refine Tr.nil (Tr.normThen ?_)
 refine Tr.sr ?_
 refine Tr.mv rfl rfl ?_
 refine Tr.va rfl (fun _ _ h1 h2 => run_loadN (cs := [(iv p1.X), (iv p1.Y)]) ag_51 sz_51 (h1.ev rfl) (CellsAt.take (rdb h2 (vs := [(iv p1.X), (iv p1.Y)]) (k := 1) rfl 0) 2) rfl) ?_
 obtain ⟨y101, hy101, H⟩ := bnd H
 refine Tr.call0 (r := (iv y101)) (wn rfl) rfl Tryz.call72 (evl_cons rfl (evl_cons rfl evl_nil)) (fun W hW => F_slices_Index_Point_ok p0 Ap0_0 cp0_0 (hp0_0.ext hW.extAll) p1 y101 hy101 (HF.start _)) ?_
 refine Tr.va rfl (fun _ _ h1 h2 => run_geq (h1.ev rfl) (h1.ev rfl)) ?_
 refine Tr.asg rfl rfl ?_
 refine Tr.nil (Tr.normThen ?_)
 refine Tr.ret ?_
 obtain rfl := Option.some.inj H
 exact Tr.out (m := [(.bool (decide (0 ≤ y101)))]) [] (res_tmp rfl res_nil) (fun W hW => ⟨rfl, hW.low leB⟩)

theorem F_panel_open_ok (N : Nat) {w : Bs} (p0 : TPanel) (Ap0_0 : Option Addr) (cp0_0 : Nat) (hp0_0 : Sl w.R w.W fl_TBoardKind Ap0_0 cp0_0 p0.Kinds) (Ap0_1 : Option Addr) (cp0_1 : Nat) (hp0_1 : Sl w.R w.W fl_TSlot Ap0_1 cp0_1 p0.Slots) (Ap0_2 : Option Addr) (cp0_2 : Nat) (hp0_2 : Sl w.R w.W fl_TPoint Ap0_2 cp0_2 p0.Marks) (r : ((List TRect) × Int)) (H : F_panel_open N p0 = some r) (hE : HF w w.W (LEn [emp])) : Calls Tryz.prog 23 [(.agg #[(iv p0.W), (iv p0.H), (iv p0.Rail), (iv p0.Gap), (.slice Ap0_0 (p0.Kinds).length cp0_0), (.slice Ap0_1 (p0.Slots).length cp0_1), (.slice Ap0_2 (p0.Marks).length cp0_2)])].toArray w.W fun e W' => ∃ u : (Option Addr × Nat), e = .returned (.tuple #[(.slice u.1 (r.1).length u.2), (iv r.2)]) ∧ (SlF u.1 (r.1).length u.2) ∧ HF w W' (LEn [ow u.1 u.2 86 fl_TRect r.1]) := by
 unfold F_panel_open at H
 have leB := Bs.Le.refl w
 refine Tr.enter (n := 75) Tryz.func23 rfl rfl rfl hE ?_
 refine Tr.sr ?_
 refine Tr.box 1 (cs := [(iv p0.W), (iv p0.H), (iv p0.Rail), (iv p0.Gap), (.slice Ap0_0 (p0.Kinds).length cp0_0), (.slice Ap0_1 (p0.Slots).length cp0_1), (.slice Ap0_2 (p0.Marks).length cp0_2)]) (wn rfl) rfl rfl rfl fun b100 => ?_
 refine Tr.asg rfl rfl ?_
 refine Tr.nilOwn 2 86 fl_TRect ?_
 show Tr _ _ (uf _ 2 (.slice none (([] : List TRect)).length 0)) _ _
 refine Tr.asg rfl rfl ?_
 refine Tr.nil (Tr.normThen ?_)
 refine Tr.seq ?_
 refine Tr.sr ?_
 refine Tr.va rfl (fun _ _ h1 h2 => run_fieldAddr fo_26_0 (h1.ev rfl)) ?_
 refine Tr.va rfl (fun _ _ h1 h2 => run_load1 ag_3 (h1.ev rfl) (rdb h2 (vs := [(iv p0.W), (iv p0.H), (iv p0.Rail), (iv p0.Gap), (.slice Ap0_0 (p0.Kinds).length cp0_0), (.slice Ap0_1 (p0.Slots).length cp0_1), (.slice Ap0_2 (p0.Marks).length cp0_2)]) (k := 1) rfl 0) rfl) ?_
 obtain ⟨y101, hy101, H⟩ := bnd H
 refine Tr.call0 (r := (.bool y101)) (wn rfl) rfl Tryz.call41 (evl_cons rfl (evl_cons rfl (evl_cons rfl evl_nil))) (fun W hW => F_panel_within_ok p0.W 1 1000000 y101 hy101 (HF.start _)) ?_
 refine Tr.va rfl (fun _ _ h1 h2 => run_not (h1.ev rfl)) ?_
 refine Tr.mv rfl rfl ?_
 obtain ⟨g103, hg103, H⟩ := bnd H
 refine Tr.mid0 5 [(1, (.pointer (some ⟨b100, 0, none⟩))), (18, (.bool g103))] [(1, bx b100 #[(iv p0.W), (iv p0.H), (iv p0.Rail), (iv p0.Gap), (.slice Ap0_0 (p0.Kinds).length cp0_0), (.slice Ap0_1 (p0.Slots).length cp0_1), (.slice Ap0_2 (p0.Marks).length cp0_2)] 26), (2, ow none 0 86 fl_TRect ([] : List TRect))] ?_ ?_
 ·cases hg125 : (!y101)
  ·rw [hg125] at hg103
   rw [if_neg (by decide)] at hg103
   have H := hg103
   refine Tr.val (wg rfl rfl rfl) rfl (fun _ _ h1 h2 => run_fieldAddr fo_26_1 (h1.ev rfl)) ?_
   refine Tr.val (wg rfl rfl rfl) rfl (fun _ _ h1 h2 => run_load1 ag_3 (h1.ev rfl) (rdb h2 (vs := [(iv p0.W), (iv p0.H), (iv p0.Rail), (iv p0.Gap), (.slice Ap0_0 (p0.Kinds).length cp0_0), (.slice Ap0_1 (p0.Slots).length cp0_1), (.slice Ap0_2 (p0.Marks).length cp0_2)]) (k := 1) rfl 1) rfl) ?_
   obtain ⟨y104, hy104, H⟩ := bnd H
   refine Tr.call0 (r := (.bool y104)) (wg rfl rfl rfl) rfl Tryz.call41 (evl_cons rfl (evl_cons rfl (evl_cons rfl evl_nil))) (fun W hW => F_panel_within_ok p0.H 1 1000000 y104 hy104 (HF.start _)) ?_
   refine Tr.val (wg rfl rfl rfl) rfl (fun _ _ h1 h2 => run_not (h1.ev rfl)) ?_
   refine Tr.va rfl (fun _ _ h1 h2 => run_pickF (h1.ev rfl) (h1.ev rfl)) ?_
   obtain rfl := Option.some.inj H
   exact Tr.nil (Tr.fin0 (.cons rfl (.cons rfl .nil)) (.cons rfl (.cons rfl .nil)))
  ·rw [hg125] at hg103
   rw [if_pos rfl] at hg103
   have H := hg103
   obtain rfl := Option.some.inj H
   refine Tr.pass rfl rfl rfl rfl rfl (by decide) ?_
   refine Tr.pass rfl rfl rfl rfl rfl (by decide) ?_
   refine Tr.pass rfl rfl rfl rfl rfl (by decide) ?_
   refine Tr.pass rfl rfl rfl rfl rfl (by decide) ?_
   refine Tr.va rfl (fun _ _ h1 h2 => run_pickT (h1.ev rfl) (h1.ev rfl)) ?_
   exact Tr.nil (Tr.fin0 (.cons rfl (.cons rfl .nil)) (.cons rfl (.cons rfl .nil)))
 ·show Tr _ _ (LF [(1, (.pointer (some ⟨b100, 0, none⟩))), (18, (.bool g103))]) (LE [(1, bx b100 #[(iv p0.W), (iv p0.H), (iv p0.Rail), (iv p0.Gap), (.slice Ap0_0 (p0.Kinds).length cp0_0), (.slice Ap0_1 (p0.Slots).length cp0_1), (.slice Ap0_2 (p0.Marks).length cp0_2)] 26), (2, ow none 0 86 fl_TRect ([] : List TRect))]) _
  refine Tr.mv rfl rfl ?_
  obtain ⟨g106, hg106, H⟩ := bnd H
  refine Tr.mid0 5 [(1, (.pointer (some ⟨b100, 0, none⟩))), (24, (.bool g106))] [(1, bx b100 #[(iv p0.W), (iv p0.H), (iv p0.Rail), (iv p0.Gap), (.slice Ap0_0 (p0.Kinds).length cp0_0), (.slice Ap0_1 (p0.Slots).length cp0_1), (.slice Ap0_2 (p0.Marks).length cp0_2)] 26), (2, ow none 0 86 fl_TRect ([] : List TRect))] ?_ ?_
  ·cases hg125 : g103
   ·rw [hg125] at hg106
    rw [if_neg (by decide)] at hg106
    have H := hg106
    refine Tr.val (wg rfl rfl rfl) rfl (fun _ _ h1 h2 => run_fieldAddr fo_26_2 (h1.ev rfl)) ?_
    refine Tr.val (wg rfl rfl rfl) rfl (fun _ _ h1 h2 => run_load1 ag_3 (h1.ev rfl) (rdb h2 (vs := [(iv p0.W), (iv p0.H), (iv p0.Rail), (iv p0.Gap), (.slice Ap0_0 (p0.Kinds).length cp0_0), (.slice Ap0_1 (p0.Slots).length cp0_1), (.slice Ap0_2 (p0.Marks).length cp0_2)]) (k := 1) rfl 2) rfl) ?_
    obtain ⟨y107, hy107, H⟩ := bnd H
    refine Tr.call0 (r := (.bool y107)) (wg rfl rfl rfl) rfl Tryz.call41 (evl_cons rfl (evl_cons rfl (evl_cons rfl evl_nil))) (fun W hW => F_panel_within_ok p0.Rail 0 1000000 y107 hy107 (HF.start _)) ?_
    refine Tr.val (wg rfl rfl rfl) rfl (fun _ _ h1 h2 => run_not (h1.ev rfl)) ?_
    refine Tr.va rfl (fun _ _ h1 h2 => run_pickF (h1.ev rfl) (h1.ev rfl)) ?_
    obtain rfl := Option.some.inj H
    exact Tr.nil (Tr.fin0 (.cons rfl (.cons rfl .nil)) (.cons rfl (.cons rfl .nil)))
   ·rw [hg125] at hg106
    rw [if_pos rfl] at hg106
    have H := hg106
    obtain rfl := Option.some.inj H
    refine Tr.pass rfl rfl rfl rfl rfl (by decide) ?_
    refine Tr.pass rfl rfl rfl rfl rfl (by decide) ?_
    refine Tr.pass rfl rfl rfl rfl rfl (by decide) ?_
    refine Tr.pass rfl rfl rfl rfl rfl (by decide) ?_
    refine Tr.va rfl (fun _ _ h1 h2 => run_pickT (h1.ev rfl) (h1.ev rfl)) ?_
    exact Tr.nil (Tr.fin0 (.cons rfl (.cons rfl .nil)) (.cons rfl (.cons rfl .nil)))
  ·show Tr _ _ (LF [(1, (.pointer (some ⟨b100, 0, none⟩))), (24, (.bool g106))]) (LE [(1, bx b100 #[(iv p0.W), (iv p0.H), (iv p0.Rail), (iv p0.Gap), (.slice Ap0_0 (p0.Kinds).length cp0_0), (.slice Ap0_1 (p0.Slots).length cp0_1), (.slice Ap0_2 (p0.Marks).length cp0_2)] 26), (2, ow none 0 86 fl_TRect ([] : List TRect))]) _
   refine Tr.mv rfl rfl ?_
   obtain ⟨g109, hg109, H⟩ := bnd H
   refine Tr.mid0 5 [(1, (.pointer (some ⟨b100, 0, none⟩))), (30, (.bool g109))] [(1, bx b100 #[(iv p0.W), (iv p0.H), (iv p0.Rail), (iv p0.Gap), (.slice Ap0_0 (p0.Kinds).length cp0_0), (.slice Ap0_1 (p0.Slots).length cp0_1), (.slice Ap0_2 (p0.Marks).length cp0_2)] 26), (2, ow none 0 86 fl_TRect ([] : List TRect))] ?_ ?_
   ·cases hg125 : g106
    ·rw [hg125] at hg109
     rw [if_neg (by decide)] at hg109
     have H := hg109
     refine Tr.val (wg rfl rfl rfl) rfl (fun _ _ h1 h2 => run_fieldAddr fo_26_3 (h1.ev rfl)) ?_
     refine Tr.val (wg rfl rfl rfl) rfl (fun _ _ h1 h2 => run_load1 ag_3 (h1.ev rfl) (rdb h2 (vs := [(iv p0.W), (iv p0.H), (iv p0.Rail), (iv p0.Gap), (.slice Ap0_0 (p0.Kinds).length cp0_0), (.slice Ap0_1 (p0.Slots).length cp0_1), (.slice Ap0_2 (p0.Marks).length cp0_2)]) (k := 1) rfl 3) rfl) ?_
     obtain ⟨y110, hy110, H⟩ := bnd H
     refine Tr.call0 (r := (.bool y110)) (wg rfl rfl rfl) rfl Tryz.call41 (evl_cons rfl (evl_cons rfl (evl_cons rfl evl_nil))) (fun W hW => F_panel_within_ok p0.Gap 0 1000000 y110 hy110 (HF.start _)) ?_
     refine Tr.val (wg rfl rfl rfl) rfl (fun _ _ h1 h2 => run_not (h1.ev rfl)) ?_
     refine Tr.va rfl (fun _ _ h1 h2 => run_pickF (h1.ev rfl) (h1.ev rfl)) ?_
     obtain rfl := Option.some.inj H
     exact Tr.nil (Tr.fin0 (.cons rfl (.cons rfl .nil)) (.cons rfl (.cons rfl .nil)))
    ·rw [hg125] at hg109
     rw [if_pos rfl] at hg109
     have H := hg109
     obtain rfl := Option.some.inj H
     refine Tr.pass rfl rfl rfl rfl rfl (by decide) ?_
     refine Tr.pass rfl rfl rfl rfl rfl (by decide) ?_
     refine Tr.pass rfl rfl rfl rfl rfl (by decide) ?_
     refine Tr.pass rfl rfl rfl rfl rfl (by decide) ?_
     refine Tr.va rfl (fun _ _ h1 h2 => run_pickT (h1.ev rfl) (h1.ev rfl)) ?_
     exact Tr.nil (Tr.fin0 (.cons rfl (.cons rfl .nil)) (.cons rfl (.cons rfl .nil)))
   ·show Tr _ _ (LF [(1, (.pointer (some ⟨b100, 0, none⟩))), (30, (.bool g109))]) (LE [(1, bx b100 #[(iv p0.W), (iv p0.H), (iv p0.Rail), (iv p0.Gap), (.slice Ap0_0 (p0.Kinds).length cp0_0), (.slice Ap0_1 (p0.Slots).length cp0_1), (.slice Ap0_2 (p0.Marks).length cp0_2)] 26), (2, ow none 0 86 fl_TRect ([] : List TRect))]) _
    refine Tr.nil (Tr.normThen ?_)
    refine Tr.cond rfl H (fun H => ?_) (fun H => ?_)
    ·refine Tr.sr ?_
     refine Tr.asg rfl rfl ?_
     refine Tr.nilOwn 3 86 fl_TRect ?_
     show Tr _ _ (uf _ 2 (.slice none (([] : List TRect)).length 0)) _ _
     refine Tr.asg rfl rfl ?_
     refine Tr.nil (Tr.normThen ?_)
     refine Tr.ret (Tr.retThen ?_)
     obtain rfl := Option.some.inj H
     exact Tr.out (m := [(.slice none (([] : List TRect)).length 0), (iv 1)]) [] (res_tmp rfl (res_tmp rfl res_nil)) (fun W hW => ⟨(none, 0), rfl, slf_nil, HF.lowE leB (hW.pick (ks := [3]) (by decide) (pk_cons rfl pk_nil)) ⟨ow_any _ _ _ _ tr_TRect, trivial⟩⟩)
    ·refine Tr.skip (Tr.normThen ?_)
     refine Tr.seq ?_
     refine Tr.sr ?_
     refine Tr.va rfl (fun _ _ h1 h2 => run_fieldAddr fo_26_4 (h1.ev rfl)) ?_
     refine Tr.va rfl (fun _ _ h1 h2 => run_load1 ag_22 (h1.ev rfl) (rdb h2 (vs := [(iv p0.W), (iv p0.H), (iv p0.Rail), (iv p0.Gap), (.slice Ap0_0 (p0.Kinds).length cp0_0), (.slice Ap0_1 (p0.Slots).length cp0_1), (.slice Ap0_2 (p0.Marks).length cp0_2)]) (k := 1) rfl 4) rfl) ?_
     obtain ⟨y111, hy111, H⟩ := bnd H
     refine Tr.call0 (r := (iv y111)) (wn rfl) rfl Tryz.call42 (evl_cons rfl evl_nil) (fun W hW => F_panel_checkKinds_ok N p0.Kinds Ap0_0 cp0_0 (hp0_0.ext hW.extAll) y111 hy111 (HF.start _)) ?_
     refine Tr.asg rfl rfl ?_
     refine Tr.nil (Tr.normThen ?_)
     refine Tr.sr ?_
     refine Tr.mv rfl rfl ?_
     refine Tr.va rfl (fun _ _ h1 h2 => run_neq (h1.ev rfl) (h1.ev rfl)) ?_
     refine Tr.nil (Tr.normThen ?_)
     refine Tr.cond rfl H (fun H => ?_) (fun H => ?_)
     ·refine Tr.sr ?_
      refine Tr.mv rfl rfl ?_
      refine Tr.asg rfl rfl ?_
      refine Tr.nilOwn 4 86 fl_TRect ?_
      show Tr _ _ (uf _ 2 (.slice none (([] : List TRect)).length 0)) _ _
      refine Tr.asg rfl rfl ?_
      refine Tr.nil (Tr.normThen ?_)
      refine Tr.ret (Tr.retThen ?_)
      obtain rfl := Option.some.inj H
      exact Tr.out (m := [(.slice none (([] : List TRect)).length 0), (iv y111)]) [] (res_tmp rfl (res_tmp rfl res_nil)) (fun W hW => ⟨(none, 0), rfl, slf_nil, HF.lowE leB (hW.pick (ks := [4]) (by decide) (pk_cons rfl pk_nil)) ⟨ow_any _ _ _ _ tr_TRect, trivial⟩⟩)
     ·refine Tr.skip (Tr.normThen ?_)
      refine Tr.sr ?_
      refine Tr.va rfl (fun _ _ h1 h2 => run_loadN (cs := [(iv p0.W), (iv p0.H), (iv p0.Rail), (iv p0.Gap), (.slice Ap0_0 (p0.Kinds).length cp0_0), (.slice Ap0_1 (p0.Slots).length cp0_1), (.slice Ap0_2 (p0.Marks).length cp0_2)]) ag_26 sz_26 (h1.ev rfl) (CellsAt.take (rdb h2 (vs := [(iv p0.W), (iv p0.H), (iv p0.Rail), (iv p0.Gap), (.slice Ap0_0 (p0.Kinds).length cp0_0), (.slice Ap0_1 (p0.Slots).length cp0_1), (.slice Ap0_2 (p0.Marks).length cp0_2)]) (k := 1) rfl 0) 7) rfl) ?_
      obtain ⟨y112, hy112, H⟩ := bnd H
      refine Tr.callM [5] [emp] (U := (Option Addr × Nat)) (fun u => (.tuple #[(.slice u.1 (y112.1).length u.2), (iv y112.2)])) (fun u => SlF u.1 (y112.1).length u.2) (fun u => [ow u.1 u.2 86 fl_TRect y112.1]) rfl (pk_cons rfl pk_nil) (fun _ => rfl) (wn rfl) rfl Tryz.call43 (evl_cons rfl evl_nil) (fun W hW hp hE => F_panel_cells_ok p0 Ap0_0 cp0_0 (hp0_0.ext (hW.extS hp)) Ap0_1 cp0_1 (hp0_1.ext (hW.extS hp)) Ap0_2 cp0_2 (hp0_2.ext (hW.extS hp)) y112 hy112 hE) ?_
      intro u hu
      obtain ⟨Ay112_0, cy112_0⟩ := u
      have gy112_0 := hu
      have hgy112_0 : SlF Ay112_0 (y112.1).length cy112_0 := gy112_0 --@phi
      show Tr _ _ (uf _ 39 (.tuple #[(.slice Ay112_0 (y112.1).length cy112_0), (iv y112.2)])) (up _ 5 (ow Ay112_0 cy112_0 86 fl_TRect y112.1)) _
      refine Tr.mv rfl rfl ?_
      refine Tr.va rfl (fun _ _ h1 h2 => run_extract (h1.ev rfl) rfl) ?_
      refine Tr.va rfl (fun _ _ h1 h2 => run_extract (h1.ev rfl) rfl) ?_
      refine Tr.asg rfl rfl ?_
      refine Tr.asg rfl rfl ?_
      refine Tr.nil (Tr.normThen ?_)
      refine Tr.seq ?_
      refine Tr.sr ?_
      refine Tr.mv rfl rfl ?_
      refine Tr.va rfl (fun _ _ h1 h2 => run_neq (h1.ev rfl) (h1.ev rfl)) ?_
      refine Tr.nil (Tr.normThen ?_)
      refine Tr.cond rfl H (fun H => ?_) (fun H => ?_)
      ·refine Tr.sr ?_
       refine Tr.mv rfl rfl ?_
       refine Tr.asg rfl rfl ?_
       refine Tr.nilOwn 6 86 fl_TRect ?_
       show Tr _ _ (uf _ 2 (.slice none (([] : List TRect)).length 0)) _ _
       refine Tr.asg rfl rfl ?_
       refine Tr.nil (Tr.normThen ?_)
       refine Tr.ret (Tr.retThen ?_)
       obtain rfl := Option.some.inj H
       exact Tr.out (m := [(.slice none (([] : List TRect)).length 0), (iv y112.2)]) [] (res_tmp rfl (res_tmp rfl res_nil)) (fun W hW => ⟨(none, 0), rfl, slf_nil, HF.lowE leB (hW.pick (ks := [6]) (by decide) (pk_cons rfl pk_nil)) ⟨ow_any _ _ _ _ tr_TRect, trivial⟩⟩)
      ·refine Tr.skip (Tr.normThen ?_)
       refine Tr.seq ?_
       refine Tr.sr ?_
       refine Tr.va rfl (fun _ _ h1 h2 => run_fieldAddr fo_26_6 (h1.ev rfl)) ?_
       refine Tr.va rfl (fun _ _ h1 h2 => run_load1 ag_24 (h1.ev rfl) (rdb h2 (vs := [(iv p0.W), (iv p0.H), (iv p0.Rail), (iv p0.Gap), (.slice Ap0_0 (p0.Kinds).length cp0_0), (.slice Ap0_1 (p0.Slots).length cp0_1), (.slice Ap0_2 (p0.Marks).length cp0_2)]) (k := 1) rfl 6) rfl) ?_
       refine Tr.va rfl (fun _ _ h1 h2 => run_len un_24 (h1.ev rfl)) ?_
       refine Tr.va rfl (fun _ _ h1 h2 => run_gtr (h1.ev rfl) (h1.ev rfl)) ?_
       refine Tr.nil (Tr.normThen ?_)
       refine Tr.cond rfl H (fun H => ?_) (fun H => ?_)
       ·refine Tr.sr ?_
        refine Tr.asg rfl rfl ?_
        refine Tr.nilOwn 7 86 fl_TRect ?_
        show Tr _ _ (uf _ 2 (.slice none (([] : List TRect)).length 0)) _ _
        refine Tr.asg rfl rfl ?_
        refine Tr.nil (Tr.normThen ?_)
        refine Tr.ret (Tr.retThen ?_)
        obtain rfl := Option.some.inj H
        exact Tr.out (m := [(.slice none (([] : List TRect)).length 0), (iv 2)]) [] (res_tmp rfl (res_tmp rfl res_nil)) (fun W hW => ⟨(none, 0), rfl, slf_nil, HF.lowE leB (hW.pick (ks := [7]) (by decide) (pk_cons rfl pk_nil)) ⟨ow_any _ _ _ _ tr_TRect, trivial⟩⟩)
       ·refine Tr.skip (Tr.normThen ?_)
        refine Tr.seq ?_
        refine Tr.sr ?_
        refine Tr.va rfl (fun _ _ h1 h2 => run_fieldAddr fo_26_6 (h1.ev rfl)) ?_
        refine Tr.va rfl (fun _ _ h1 h2 => run_load1 ag_24 (h1.ev rfl) (rdb h2 (vs := [(iv p0.W), (iv p0.H), (iv p0.Rail), (iv p0.Gap), (.slice Ap0_0 (p0.Kinds).length cp0_0), (.slice Ap0_1 (p0.Slots).length cp0_1), (.slice Ap0_2 (p0.Marks).length cp0_2)]) (k := 1) rfl 6) rfl) ?_
        refine Tr.va rfl (fun _ _ h1 h2 => run_len un_24 (h1.ev rfl)) ?_
        refine Tr.mv rfl rfl ?_
        refine Tr.nil (Tr.normThen ?_)
        refine Tr.block ?_
        refine Tr.loop (σ := (List TPoint) × Nat) (fun m w s => m = s.1.length + 1 ∧ s.1 = List.drop s.2 p0.Marks ∧ s.2 ≤ p0.Marks.length ∧ F_panel_open_L1 p0 y112 s.1 s.2 = some r) (fun s => [(1, (.pointer (some ⟨b100, 0, none⟩))), (5, (.slice Ay112_0 (y112.1).length cy112_0)), (50, (.slice Ap0_2 (p0.Marks).length cp0_2)), (51, (iv (p0.Marks.length : Int))), (52, (iv (s.2 : Int)))]) (fun s => [(1, bx b100 #[(iv p0.W), (iv p0.H), (iv p0.Rail), (iv p0.Gap), (.slice Ap0_0 (p0.Kinds).length cp0_0), (.slice Ap0_1 (p0.Slots).length cp0_1), (.slice Ap0_2 (p0.Marks).length cp0_2)] 26), (5, ow Ay112_0 cy112_0 86 fl_TRect y112.1)]) (p0.Marks.length + 1) (p0.Marks, 0) ⟨rfl, rfl, Nat.zero_le _, H⟩ (.cons rfl (.cons rfl (.cons rfl (.cons rfl (.cons rfl .nil))))) (.cons rfl (.cons rfl .nil)) (fun _ _ h => absurd h.1 (by simp)) ?_
        intro w leL1 m s hs
        obtain ⟨restL1, iL1⟩ := s
        obtain ⟨hmL1, hdL1, hiL1, H⟩ := hs
        replace hdL1 : restL1 = List.drop iL1 p0.Marks := hdL1
        replace H : F_panel_open_L1 p0 y112 restL1 iL1 = some r := H
        replace hmL1 : m + 1 = restL1.length + 1 := hmL1
        replace hp0_0 := hp0_0.leR leL1
        replace hp0_1 := hp0_1.leR leL1
        replace hp0_2 := hp0_2.leR leL1
        replace leB := leB.trans leL1
        obtain rfl : m = restL1.length := by omega
        clear hmL1
        show Tr _ _ (LF [(1, (.pointer (some ⟨b100, 0, none⟩))), (5, (.slice Ay112_0 (y112.1).length cy112_0)), (50, (.slice Ap0_2 (p0.Marks).length cp0_2)), (51, (iv (p0.Marks.length : Int))), (52, (iv (iL1 : Int)))]) (LE [(1, bx b100 #[(iv p0.W), (iv p0.H), (iv p0.Rail), (iv p0.Gap), (.slice Ap0_0 (p0.Kinds).length cp0_0), (.slice Ap0_1 (p0.Slots).length cp0_1), (.slice Ap0_2 (p0.Marks).length cp0_2)] 26), (5, ow Ay112_0 cy112_0 86 fl_TRect y112.1)]) _
        cases restL1 with
        | nil =>
         rw [F_panel_open_L1.eq_1] at H
         refine Tr.sr ?_
         refine Tr.va rfl (fun _ _ h1 h2 => run_lss (h1.ev rfl) (h1.ev rfl)) ?_
         refine Tr.nil (Tr.normThen ?_)
         refine Tr.seq ?_
         refine Tr.condF rfl (range_nil hdL1) ?_
         refine Tr.exit (Tr.exitThen (Tr.exitThen (Tr.exitBlock (Tr.normThen ?_))))
         refine Tr.sr ?_
         refine Tr.mv rfl rfl ?_
         refine Tr.asg rfl rfl ?_
         refine Tr.asg rfl rfl ?_
         refine Tr.nil (Tr.normThen ?_)
         refine Tr.ret ?_
         obtain rfl := Option.some.inj H
         exact Tr.out (m := [(.slice Ay112_0 (y112.1).length cy112_0), (iv 0)]) [] (res_tmp rfl (res_tmp rfl res_nil)) (fun W hW => ⟨(Ay112_0, cy112_0), rfl, hgy112_0, HF.lowE leB (hW.pick (ks := [5]) (by decide) (pk_cons rfl pk_nil)) ⟨ow_any _ _ _ _ tr_TRect, trivial⟩⟩)
        | cons xL1 restL1 =>
         rw [F_panel_open_L1.eq_2] at H
         refine Tr.sr ?_
         refine Tr.va rfl (fun _ _ h1 h2 => run_lss (h1.ev rfl) (h1.ev rfl)) ?_
         refine Tr.nil (Tr.normThen ?_)
         refine Tr.seq ?_
         refine Tr.condT rfl (range_on hdL1) ?_
         refine Tr.skip (Tr.normThen ?_)
         refine Tr.seq ?_
         refine Tr.block ?_
         refine Tr.sr ?_
         refine Tr.mv rfl rfl ?_
         refine Tr.va rfl (fun _ _ h1 h2 => run_indexAddr el_24 (h1.ev rfl) hp0_2.form (h1.ev rfl) (Int.natCast_nonneg _) (range_lt hdL1)) ?_
         refine Tr.va rfl (fun _ _ h1 h2 => run_loadN (cs := [(iv xL1.X), (iv xL1.Y)]) ag_51 sz_51 (h1.ev rfl) (CellsAt.take (rdF ef_TPoint hp0_2 (range_at hdL1) h2) 2) rfl) ?_
         refine Tr.alloc 12 (wn rfl) rfl ze_51 fun b121 => ?_
         refine Tr.asg rfl rfl ?_
         refine Tr.store 12 (cs := [(iv xL1.X), (iv xL1.Y)]) [(iv xL1.X), (iv xL1.Y)] (wn rfl) rfl rfl rfl rfl sz_51 rfl rfl rfl ?_
         refine Tr.nil (Tr.normThen ?_)
         refine Tr.block ?_
         refine Tr.sr ?_
         refine Tr.va rfl (fun _ _ h1 h2 => run_loadN (cs := [(iv p0.W), (iv p0.H), (iv p0.Rail), (iv p0.Gap), (.slice Ap0_0 (p0.Kinds).length cp0_0), (.slice Ap0_1 (p0.Slots).length cp0_1), (.slice Ap0_2 (p0.Marks).length cp0_2)]) ag_26 sz_26 (h1.ev rfl) (CellsAt.take (rdb h2 (vs := [(iv p0.W), (iv p0.H), (iv p0.Rail), (iv p0.Gap), (.slice Ap0_0 (p0.Kinds).length cp0_0), (.slice Ap0_1 (p0.Slots).length cp0_1), (.slice Ap0_2 (p0.Marks).length cp0_2)]) (k := 1) rfl 0) 7) rfl) ?_
         refine Tr.va rfl (fun _ _ h1 h2 => run_loadN (cs := [(iv xL1.X), (iv xL1.Y)]) ag_51 sz_51 (h1.ev rfl) (CellsAt.take (rdb h2 (vs := [(iv xL1.X), (iv xL1.Y)]) (k := 12) rfl 0) 2) rfl) ?_
         obtain ⟨y122, hy122, H⟩ := bnd H
         refine Tr.call0 (r := (.bool y122)) (wn rfl) rfl Tryz.call44 (evl_cons rfl (evl_cons rfl evl_nil)) (fun W hW => F_panel_isOnPanel_ok p0 Ap0_0 cp0_0 (hp0_0.ext hW.extAll) Ap0_1 cp0_1 (hp0_1.ext hW.extAll) Ap0_2 cp0_2 (hp0_2.ext hW.extAll) xL1 y122 hy122 (HF.start _)) ?_
         refine Tr.va rfl (fun _ _ h1 h2 => run_not (h1.ev rfl)) ?_
         refine Tr.asg rfl rfl ?_
         refine Tr.nil (Tr.normThen ?_)
         refine Tr.cond rfl H (fun H => ?_) (fun H => ?_)
         ·refine Tr.sr ?_
          refine Tr.asg rfl rfl ?_
          refine Tr.nilOwn 13 86 fl_TRect ?_
          show Tr _ _ (uf _ 2 (.slice none (([] : List TRect)).length 0)) _ _
          refine Tr.asg rfl rfl ?_
          refine Tr.nil (Tr.normThen ?_)
          refine Tr.ret (Tr.retBlock (Tr.retBlock (Tr.retThen (Tr.retThen (Tr.retBlock (Tr.retThen ?_))))))
          obtain rfl := Option.some.inj H
          exact Tr.out (m := [(.slice none (([] : List TRect)).length 0), (iv 1)]) [] (res_tmp rfl (res_tmp rfl res_nil)) (fun W hW => ⟨(none, 0), rfl, slf_nil, HF.lowE leB (hW.pick (ks := [13]) (by decide) (pk_cons rfl pk_nil)) ⟨ow_any _ _ _ _ tr_TRect, trivial⟩⟩)
         ·refine Tr.sr ?_
          refine Tr.mv rfl rfl ?_
          refine Tr.mkFunc (vs := [(.pointer (some ⟨b121, 0, none⟩))]) (wn rfl) rfl (evl_cons rfl evl_nil) ?_
          obtain ⟨y123, hy123, H⟩ := bnd H
          refine Tr.call0 (r := (.bool y123)) (wn rfl) rfl Tryz.call45 (evl_cons rfl (evl_cons rfl evl_nil)) (fun W hW => F_slices_ContainsFunc_Rect_ok y112.1 Ay112_0 cy112_0 (hW.slCall (k := 5) rfl) (fun z0 => F_panel_open_1 z0 xL1) 46 [(.pointer (some ⟨b121, 0, none⟩))] Tryz.call46 (fun w' he z0 y hy => F_panel_open_1_ok z0 xL1 b121 (he.r _ (hW.capR (k := 12) rfl)) (he.cells (hW.capR (k := 12) rfl) (hW.capC (k := 12) rfl)) y hy (HF.start _)) y123 hy123 (HF.start _)) ?_
          refine Tr.asg rfl rfl ?_
          refine Tr.nil (Tr.normThen ?_)
          refine Tr.cond rfl H (fun H => ?_) (fun H => ?_)
          ·refine Tr.sr ?_
           refine Tr.asg rfl rfl ?_
           refine Tr.nilOwn 14 86 fl_TRect ?_
           show Tr _ _ (uf _ 2 (.slice none (([] : List TRect)).length 0)) _ _
           refine Tr.asg rfl rfl ?_
           refine Tr.nil (Tr.normThen ?_)
           refine Tr.ret (Tr.retBlock (Tr.retBlock (Tr.retThen (Tr.retThen (Tr.retBlock (Tr.retThen ?_))))))
           obtain rfl := Option.some.inj H
           exact Tr.out (m := [(.slice none (([] : List TRect)).length 0), (iv 12)]) [] (res_tmp rfl (res_tmp rfl res_nil)) (fun W hW => ⟨(none, 0), rfl, slf_nil, HF.lowE leB (hW.pick (ks := [14]) (by decide) (pk_cons rfl pk_nil)) ⟨ow_any _ _ _ _ tr_TRect, trivial⟩⟩)
          ·refine Tr.seq ?_
           refine Tr.draw (by kernel_rfl) (by kernel_rfl) ?_
           refine Tq.va rfl (fun _ _ h1 h2 => run_fieldAddr fo_26_6 (h1.ev rfl)) ?_
           refine Tq.va rfl (fun _ _ h1 h2 => run_load1 ag_24 (h1.ev rfl) (rdb h2 (vs := [(iv p0.W), (iv p0.H), (iv p0.Rail), (iv p0.Gap), (.slice Ap0_0 (p0.Kinds).length cp0_0), (.slice Ap0_1 (p0.Slots).length cp0_1), (.slice Ap0_2 (p0.Marks).length cp0_2)]) (k := 1) rfl 6) rfl) ?_
           refine Tq.mv rfl rfl ?_
           obtain ⟨l124, hl124, H⟩ := bnd H
           refine Tq.va rfl (fun _ _ h1 h2 => run_pre el_24 (h1.ev rfl) hp0_2.form (h1.ev rfl) hl124) ?_
           refine Tq.va rfl (fun _ _ h1 h2 => run_loadN (cs := [(iv xL1.X), (iv xL1.Y)]) ag_51 sz_51 (h1.ev rfl) (CellsAt.take (rdb h2 (vs := [(iv xL1.X), (iv xL1.Y)]) (k := 12) rfl 0) 2) rfl) ?_
           obtain ⟨y125, hy125, H⟩ := bnd H
           refine Tq.call0 (r := (.bool y125)) (wn rfl) rfl Tryz.call48 (evl_cons rfl (evl_cons rfl evl_nil)) (fun W hW => F_slices_Contains_Point_ok l124 Ap0_2 cp0_2 (Sl.pre (hp0_2.ext hW.extAll) hl124) xL1 y125 hy125 (HF.start _)) ?_
           refine Tq.asg rfl rfl ?_
           refine Tq.nil (Tr.normThen ?_)
           refine Tr.cond rfl H (fun H => ?_) (fun H => ?_)
           ·refine Tr.sr ?_
            refine Tr.asg rfl rfl ?_
            refine Tr.nilOwn 15 86 fl_TRect ?_
            show Tr _ _ (uf _ 2 (.slice none (([] : List TRect)).length 0)) _ _
            refine Tr.asg rfl rfl ?_
            refine Tr.nil (Tr.normThen ?_)
            refine Tr.ret (Tr.retBlock (Tr.retBlock (Tr.retThen (Tr.retThen (Tr.retBlock (Tr.retThen ?_))))))
            obtain rfl := Option.some.inj H
            exact Tr.out (m := [(.slice none (([] : List TRect)).length 0), (iv 7)]) [] (res_tmp rfl (res_tmp rfl res_nil)) (fun W hW => ⟨(none, 0), rfl, slf_nil, HF.lowE leB (hW.pick (ks := [15]) (by decide) (pk_cons rfl pk_nil)) ⟨ow_any _ _ _ _ tr_TRect, trivial⟩⟩)
           ·refine Tr.skip (Tr.normBlock (Tr.normBlock (Tr.normThen ?_)))
            refine Tr.region ?_
            refine Tr.va rfl (fun _ _ h1 h2 => run_add (h1.ev rfl) (h1.ev rfl)) ?_
            refine Tr.mv rfl rfl ?_
            refine Tr.nil ?_
            exact Tr.backThen leL1 (restL1, (iL1 + 1)) ⟨rfl, range_tl hdL1, range_lt hdL1, H⟩ (.cons rfl (.cons rfl (.cons rfl (.cons rfl (.cons (congrArg (fun z => some (Value.int .i64 z)) (range_up hdL1 hp0_2.form)) .nil))))) (.cons rfl (.cons rfl .nil))

theorem F_panel_CheckPanel_ok (N : Nat) {w : Bs} (p0 : TPanel) (Ap0_0 : Option Addr) (cp0_0 : Nat) (hp0_0 : Sl w.R w.W fl_TBoardKind Ap0_0 cp0_0 p0.Kinds) (Ap0_1 : Option Addr) (cp0_1 : Nat) (hp0_1 : Sl w.R w.W fl_TSlot Ap0_1 cp0_1 p0.Slots) (Ap0_2 : Option Addr) (cp0_2 : Nat) (hp0_2 : Sl w.R w.W fl_TPoint Ap0_2 cp0_2 p0.Marks) (r : Int) (H : F_panel_CheckPanel N p0 = some r) (hE : HF w w.W E0) : Calls Tryz.prog 11 [(.agg #[(iv p0.W), (iv p0.H), (iv p0.Rail), (iv p0.Gap), (.slice Ap0_0 (p0.Kinds).length cp0_0), (.slice Ap0_1 (p0.Slots).length cp0_1), (.slice Ap0_2 (p0.Marks).length cp0_2)])].toArray w.W fun e W' => e = .returned (iv r) ∧ HF w W' E0 := by
 unfold F_panel_CheckPanel at H
 have leB := Bs.Le.refl w
 refine Tr.enter (n := 11) Tryz.func11 rfl rfl rfl hE ?_
 refine Tr.sr ?_
 refine Tr.box 1 (cs := [(iv p0.W), (iv p0.H), (iv p0.Rail), (iv p0.Gap), (.slice Ap0_0 (p0.Kinds).length cp0_0), (.slice Ap0_1 (p0.Slots).length cp0_1), (.slice Ap0_2 (p0.Marks).length cp0_2)]) (wn rfl) rfl rfl rfl fun b100 => ?_
 refine Tr.asg rfl rfl ?_
 refine Tr.nil (Tr.normThen ?_)
 refine Tr.sr ?_
 refine Tr.va rfl (fun _ _ h1 h2 => run_loadN (cs := [(iv p0.W), (iv p0.H), (iv p0.Rail), (iv p0.Gap), (.slice Ap0_0 (p0.Kinds).length cp0_0), (.slice Ap0_1 (p0.Slots).length cp0_1), (.slice Ap0_2 (p0.Marks).length cp0_2)]) ag_26 sz_26 (h1.ev rfl) (CellsAt.take (rdb h2 (vs := [(iv p0.W), (iv p0.H), (iv p0.Rail), (iv p0.Gap), (.slice Ap0_0 (p0.Kinds).length cp0_0), (.slice Ap0_1 (p0.Slots).length cp0_1), (.slice Ap0_2 (p0.Marks).length cp0_2)]) (k := 1) rfl 0) 7) rfl) ?_
 obtain ⟨y101, hy101, H⟩ := bnd H
 refine Tr.callM [2] [emp] (U := (Option Addr × Nat)) (fun u => (.tuple #[(.slice u.1 (y101.1).length u.2), (iv y101.2)])) (fun u => SlF u.1 (y101.1).length u.2) (fun u => [ow u.1 u.2 86 fl_TRect y101.1]) rfl (pk_cons rfl pk_nil) (fun _ => rfl) (wn rfl) rfl Tryz.call23 (evl_cons rfl evl_nil) (fun W hW hp hE => F_panel_open_ok N p0 Ap0_0 cp0_0 (hp0_0.ext (hW.extS hp)) Ap0_1 cp0_1 (hp0_1.ext (hW.extS hp)) Ap0_2 cp0_2 (hp0_2.ext (hW.extS hp)) y101 hy101 hE) ?_
 intro u hu
 obtain ⟨Ay101_0, cy101_0⟩ := u
 have gy101_0 := hu
 have hgy101_0 : SlF Ay101_0 (y101.1).length cy101_0 := gy101_0 --@phi
 show Tr _ _ (uf _ 7 (.tuple #[(.slice Ay101_0 (y101.1).length cy101_0), (iv y101.2)])) (up _ 2 (ow Ay101_0 cy101_0 86 fl_TRect y101.1)) _
 refine Tr.mv rfl rfl ?_
 refine Tr.va rfl (fun _ _ h1 h2 => run_extract (h1.ev rfl) rfl) ?_
 refine Tr.va rfl (fun _ _ h1 h2 => run_extract (h1.ev rfl) rfl) ?_
 refine Tr.asg rfl rfl ?_
 refine Tr.asg rfl rfl ?_
 refine Tr.nil (Tr.normThen ?_)
 refine Tr.sr ?_
 refine Tr.mv rfl rfl ?_
 refine Tr.asg rfl rfl ?_
 refine Tr.nil (Tr.normThen ?_)
 refine Tr.ret ?_
 obtain rfl := Option.some.inj H
 exact Tr.out (m := [(iv y101.2)]) [] (res_tmp rfl res_nil) (fun W hW => ⟨rfl, hW.low leB⟩)

end Go.Proofs.YtmbjoffligicnaaGreatDoor
namespace Go.Proofs
open Go.Shelf
def Tryz.join14_ren : Go.Shelf.Ren := ⟨fun | 156 => 14 | 165 => 25 | 166 => 13 | 169 => 16 | 240 => 24 | 241 => 50 | 276 => 49 | 277 => 73 | n => n, fun | 5 => 5 | 31 => 40 | 37 => 37 | 70 => 36 | 72 => 39 | 75 => 42 | 76 => 43 | 80 => 54 | 127 => 70 | 164 => 90 | n => n, fun n => n⟩
theorem Tryz.join14 : Go.Proofs.Lays.n156 Tryz.prog Tryz.join14_ren := {
 mixed := by kernel_rfl
 f156 := Tryz.func14.trans (congrArg some (by kernel_rfl))
 f165 := Tryz.func25.trans (congrArg some (by kernel_rfl))
 f166 := Tryz.func13.trans (congrArg some (by kernel_rfl))
 f169 := Tryz.func16.trans (congrArg some (by kernel_rfl))
 f240 := Tryz.func24.trans (congrArg some (by kernel_rfl))
 f241 := Tryz.func50.trans (congrArg some (by kernel_rfl))
 f276 := Tryz.func49.trans (congrArg some (by kernel_rfl))
 f277 := Tryz.func73.trans (congrArg some (by kernel_rfl))
 t0 := Tryz.underlying0
 a0 := Tryz.isAgg0
 z0 := Tryz.sizeOf0
 v0 := Tryz.zeroValue0
 t3 := Tryz.underlying3
 a3 := Tryz.isAgg3
 z3 := Tryz.sizeOf3
 v3 := Tryz.zeroValue3
 t4 := Tryz.underlying4
 a4 := Tryz.isAgg4
 z4 := Tryz.sizeOf4
 v4 := Tryz.zeroValue4
 t9 := Tryz.underlying9
 a9 := Tryz.isAgg9
 z9 := Tryz.sizeOf9
 v9 := Tryz.zeroValue9
 t20 := Tryz.underlying20
 a20 := Tryz.isAgg20
 z20 := Tryz.sizeOf20
 v20 := Tryz.zeroValue20
 t31 := Tryz.underlying40
 a31 := Tryz.isAgg40
 z31 := Tryz.sizeOf40
 v31 := Tryz.zeroValue40
 t37 := Tryz.underlying37
 a37 := Tryz.isAgg37
 z37 := Tryz.sizeOf37
 v37 := Tryz.zeroValue37
 t70 := Tryz.underlying36
 a70 := Tryz.isAgg36
 z70 := Tryz.sizeOf36
 v70 := Tryz.zeroValue36
 t72 := Tryz.underlying39
 a72 := Tryz.isAgg39
 z72 := Tryz.sizeOf39
 v72 := Tryz.zeroValue39
 t75 := Tryz.underlying42
 a75 := Tryz.isAgg42
 z75 := Tryz.sizeOf42
 v75 := Tryz.zeroValue42
 t76 := Tryz.underlying43
 a76 := Tryz.isAgg43
 z76 := Tryz.sizeOf43
 v76 := Tryz.zeroValue43
 t127 := Tryz.underlying70
 a127 := Tryz.isAgg70
 z127 := Tryz.sizeOf70
 v127 := Tryz.zeroValue70
 t164 := Tryz.underlying90
 a164 := Tryz.isAgg90
 z164 := Tryz.sizeOf90
 v164 := Tryz.zeroValue90
}
end Go.Proofs
namespace Go.Proofs.YtmbjoffligicnaaGreatDoor
open Go.RowKit
theorem bX14 : Builder.Extra Tryz.prog Tryz.join14_ren where
 sizeBuilder := by kernel_rfl
 liesBuilder := by kernel_rfl
 t5 := Tryz.underlying5
 a5 := Tryz.isAgg5
 z5 := Tryz.sizeOf5
 v5 := Tryz.zeroValue5
 infoByte := by kernel_rfl
 cellsByte := by kernel_rfl
 sizeByte := by kernel_rfl
 neB5 := by decide
theorem F_strings_Join_ok {w : Bs} (p0 : (List ByteArray)) (Ap0_0 : Option Addr) (cp0_0 : Nat) (hp0_0 : Sl w.R w.W fl_str Ap0_0 cp0_0 p0) (p1 : ByteArray) (r : ByteArray) (H : joinF p0 p1 = some r) (hE : HF w w.W E0) : Calls Tryz.prog 14 [(.slice Ap0_0 (p0).length cp0_0), (sv p1)].toArray w.W fun e W' => e = .returned (sv r) ∧ HF w W' E0 :=
 joinF_rule (ρ := Tryz.join14_ren) Tryz.join14 bX14 ef_str hp0_0 H hE

end Go.Proofs.YtmbjoffligicnaaGreatDoor
namespace Go.Proofs
open Go.Shelf
def Tryz.bld13_ren : Go.Shelf.Ren := ⟨fun | 166 => 13 | 240 => 24 | 276 => 49 | n => n, fun | 5 => 5 | 37 => 37 | 70 => 36 | 72 => 39 | 75 => 42 | 80 => 54 | 164 => 90 | n => n, fun n => n⟩
theorem Tryz.bld13 : Go.Proofs.Lays.n166 Tryz.prog Tryz.bld13_ren := {
 mixed := by kernel_rfl
 f166 := Tryz.func13.trans (congrArg some (by kernel_rfl))
 f240 := Tryz.func24.trans (congrArg some (by kernel_rfl))
 f276 := Tryz.func49.trans (congrArg some (by kernel_rfl))
 t0 := Tryz.underlying0
 a0 := Tryz.isAgg0
 z0 := Tryz.sizeOf0
 v0 := Tryz.zeroValue0
 t3 := Tryz.underlying3
 a3 := Tryz.isAgg3
 z3 := Tryz.sizeOf3
 v3 := Tryz.zeroValue3
 t4 := Tryz.underlying4
 a4 := Tryz.isAgg4
 z4 := Tryz.sizeOf4
 v4 := Tryz.zeroValue4
 t9 := Tryz.underlying9
 a9 := Tryz.isAgg9
 z9 := Tryz.sizeOf9
 v9 := Tryz.zeroValue9
 t20 := Tryz.underlying20
 a20 := Tryz.isAgg20
 z20 := Tryz.sizeOf20
 v20 := Tryz.zeroValue20
 t37 := Tryz.underlying37
 a37 := Tryz.isAgg37
 z37 := Tryz.sizeOf37
 v37 := Tryz.zeroValue37
 t70 := Tryz.underlying36
 a70 := Tryz.isAgg36
 z70 := Tryz.sizeOf36
 v70 := Tryz.zeroValue36
 t72 := Tryz.underlying39
 a72 := Tryz.isAgg39
 z72 := Tryz.sizeOf39
 v72 := Tryz.zeroValue39
 t75 := Tryz.underlying42
 a75 := Tryz.isAgg42
 z75 := Tryz.sizeOf42
 v75 := Tryz.zeroValue42
 t164 := Tryz.underlying90
 a164 := Tryz.isAgg90
 z164 := Tryz.sizeOf90
 v164 := Tryz.zeroValue90
}
end Go.Proofs
namespace Go.Proofs.YtmbjoffligicnaaGreatDoor
open Go.RowKit
theorem bX13 : Builder.Extra Tryz.prog Tryz.bld13_ren where
 sizeBuilder := by kernel_rfl
 liesBuilder := by kernel_rfl
 t5 := Tryz.underlying5
 a5 := Tryz.isAgg5
 z5 := Tryz.sizeOf5
 v5 := Tryz.zeroValue5
 infoByte := by kernel_rfl
 cellsByte := by kernel_rfl
 sizeByte := by kernel_rfl
 neB5 := by decide
theorem F_strings_Builder_WriteString_ok {w : Bs} (p0 : ByteArray) (Ap0_0 : Option Addr) (cp0_0 : Nat) (bp0 : Nat) (p1 : ByteArray) (r : ByteArray) (H : sbW p0 p1 = some r) (hE : HF w w.W (LEn [sb 39 5 bp0 Ap0_0 cp0_0 p0])) : Calls Tryz.prog 13 [(.pointer (some ⟨bp0, 0, none⟩)), .string p1].toArray w.W fun e W' => ∃ u : (Option Addr × Nat), e = .returned (.tuple #[.int .i64 p1.size, .nilIface]) ∧ (True) ∧ HF w W' (LEn [sb 39 5 bp0 u.1 u.2 r]) :=
 sb_write (ρ := Tryz.bld13_ren) Tryz.bld13 bX13 H hE

theorem F_panel_Text_1_ok {w : Bs} (p0 : (List ByteArray)) (Ap0_0 : Option Addr) (cp0_0 : Nat) (hp0_0 : Sl w.R w.W fl_str Ap0_0 cp0_0 p0) (q0 : ByteArray) (Aq0_0 : Option Addr) (cq0_0 : Nat) (bq0 : Nat) (r : ByteArray) (H : F_panel_Text_1 p0 q0 = some r) (hE : HF w w.W (LEn [sb 39 5 bq0 Aq0_0 cq0_0 q0])) : Calls Tryz.prog 12 [(.slice Ap0_0 (p0).length cp0_0), (.pointer (some ⟨bq0, 0, none⟩))].toArray w.W fun e W' => ∃ u : (Option Addr × Nat), e = .returned (.tuple #[]) ∧ (True) ∧ HF w W' (LEn [sb 39 5 bq0 u.1 u.2 r]) := by
 unfold F_panel_Text_1 at H
 have leB := Bs.Le.refl w
 refine Tr.enter (n := 7) Tryz.func12 rfl rfl rfl hE ?_
 refine Tr.region ?_
 refine Tr.mv rfl rfl ?_
 obtain ⟨y100, hy100, H⟩ := bnd H
 refine Tr.call0 (r := (sv y100)) (wn rfl) rfl Tryz.call14 (evl_cons rfl (evl_cons rfl evl_nil)) (fun W hW => F_strings_Join_ok p0 Ap0_0 cp0_0 (hp0_0.ext hW.extAll) (⟨#[32]⟩) y100 hy100 (HF.start _)) ?_
 obtain ⟨t101, ht101, H⟩ := bnd H
 refine Tr.va rfl (fun _ _ h1 h2 => run_catS (h1.ev rfl) (h1.ev rfl) ht101) ?_
 obtain ⟨y102, hy102, H⟩ := bnd H
 refine Tr.callM [0] [sb 39 5 bq0 Aq0_0 cq0_0 q0] (U := (Option Addr × Nat)) (fun u => (.tuple #[(iv ((t101 : ByteArray).size : Int)), .nilIface])) (fun u => True) (fun u => [sb 39 5 bq0 u.1 u.2 y102]) rfl (pk_cons rfl pk_nil) (fun _ => rfl) (wn rfl) rfl Tryz.call13 (evl_cons rfl (evl_cons rfl evl_nil)) (fun W hW hp hE => F_strings_Builder_WriteString_ok q0 Aq0_0 cq0_0 bq0 t101 y102 hy102 hE) ?_
 intro u hu
 obtain ⟨Ay102_0, cy102_0⟩ := u
 have gy102_0 := hu
 have hgy102_0 : True := gy102_0 --@phi
 show Tr _ _ (uf _ 6 (.tuple #[(iv ((t101 : ByteArray).size : Int)), .nilIface])) (up _ 0 (sb 39 5 bq0 Ay102_0 cy102_0 y102)) _
 refine Tr.nil (Tr.offEnd ?_)
 obtain rfl := Option.some.inj H
 exact Tr.out (m := []) [] res_nil (fun W hW => ⟨(Ay102_0, cy102_0), rfl, trivial, HF.lowE leB (hW.pick (ks := [0]) (by decide) (pk_cons rfl pk_nil)) ⟨sb_any, trivial⟩⟩)

theorem F_strconv_Itoa_ok {w : Bs} (hT : Tab Tryz.prog w) (p0 : Int) (r : ByteArray) (H : itoaF p0 = some r) (hE : HF w w.W E0) : Calls Tryz.prog 15 [(iv p0)].toArray w.W fun e W' => e = .returned (sv r) ∧ HF w W' E0 :=
 itoaF_rule (ρ := Tryz.itoa15_ren) Tryz.itoa15 hT H hE

end Go.Proofs.YtmbjoffligicnaaGreatDoor
namespace Go.Proofs
open Go.Shelf
def Tryz.bld16_ren : Go.Shelf.Ren := ⟨fun | 169 => 16 | n => n, fun | 5 => 5 | 37 => 37 | 70 => 36 | 72 => 39 | 127 => 70 | n => n, fun n => n⟩
theorem Tryz.bld16 : Go.Proofs.Lays.n169 Tryz.prog Tryz.bld16_ren := {
 mixed := by kernel_rfl
 f169 := Tryz.func16.trans (congrArg some (by kernel_rfl))
 t0 := Tryz.underlying0
 a0 := Tryz.isAgg0
 z0 := Tryz.sizeOf0
 v0 := Tryz.zeroValue0
 t3 := Tryz.underlying3
 a3 := Tryz.isAgg3
 z3 := Tryz.sizeOf3
 v3 := Tryz.zeroValue3
 t9 := Tryz.underlying9
 a9 := Tryz.isAgg9
 z9 := Tryz.sizeOf9
 v9 := Tryz.zeroValue9
 t37 := Tryz.underlying37
 a37 := Tryz.isAgg37
 z37 := Tryz.sizeOf37
 v37 := Tryz.zeroValue37
 t70 := Tryz.underlying36
 a70 := Tryz.isAgg36
 z70 := Tryz.sizeOf36
 v70 := Tryz.zeroValue36
 t72 := Tryz.underlying39
 a72 := Tryz.isAgg39
 z72 := Tryz.sizeOf39
 v72 := Tryz.zeroValue39
 t127 := Tryz.underlying70
 a127 := Tryz.isAgg70
 z127 := Tryz.sizeOf70
 v127 := Tryz.zeroValue70
}
end Go.Proofs
namespace Go.Proofs.YtmbjoffligicnaaGreatDoor
open Go.RowKit
theorem bX16 : Builder.Extra Tryz.prog Tryz.bld16_ren where
 sizeBuilder := by kernel_rfl
 liesBuilder := by kernel_rfl
 t5 := Tryz.underlying5
 a5 := Tryz.isAgg5
 z5 := Tryz.sizeOf5
 v5 := Tryz.zeroValue5
 infoByte := by kernel_rfl
 cellsByte := by kernel_rfl
 sizeByte := by kernel_rfl
 neB5 := by decide
theorem F_strings_Builder_String_ok {w : Bs} (p0 : ByteArray) (Ap0_0 : Option Addr) (cp0_0 : Nat) (bp0 : Nat) (r : (ByteArray × ByteArray)) (H : sbS p0 = some r) (hE : HF w w.W (LEn [sb 39 5 bp0 Ap0_0 cp0_0 p0])) : Calls Tryz.prog 16 [(.pointer (some ⟨bp0, 0, none⟩))].toArray w.W fun e W' => ∃ u : (Option Addr × Nat), e = .returned (sv r.1) ∧ (True) ∧ HF w W' (LEn [sb 39 5 bp0 u.1 u.2 r.2]) :=
 sb_string (ρ := Tryz.bld16_ren) Tryz.bld16 bX16 H hE

theorem F_panel_Text_ok (N : Nat) {w : Bs} (hT : Tab Tryz.prog w) (p0 : TPanel) (Ap0_0 : Option Addr) (cp0_0 : Nat) (hp0_0 : Sl w.R w.W fl_TBoardKind Ap0_0 cp0_0 p0.Kinds) (Ap0_1 : Option Addr) (cp0_1 : Nat) (hp0_1 : Sl w.R w.W fl_TSlot Ap0_1 cp0_1 p0.Slots) (Ap0_2 : Option Addr) (cp0_2 : Nat) (hp0_2 : Sl w.R w.W fl_TPoint Ap0_2 cp0_2 p0.Marks) (r : (ByteArray × Int)) (H : F_panel_Text N p0 = some r) (hE : HF w w.W E0) : Calls Tryz.prog 5 [(.agg #[(iv p0.W), (iv p0.H), (iv p0.Rail), (iv p0.Gap), (.slice Ap0_0 (p0.Kinds).length cp0_0), (.slice Ap0_1 (p0.Slots).length cp0_1), (.slice Ap0_2 (p0.Marks).length cp0_2)])].toArray w.W fun e W' => e = .returned (.tuple #[(sv r.1), (iv r.2)]) ∧ HF w W' E0 := by
 unfold F_panel_Text at H
 have leB := Bs.Le.refl w
 refine Tr.enter (n := 107) Tryz.func5 rfl rfl rfl hE ?_
 refine Tr.sr ?_
 refine Tr.box 1 (cs := [(iv p0.W), (iv p0.H), (iv p0.Rail), (iv p0.Gap), (.slice Ap0_0 (p0.Kinds).length cp0_0), (.slice Ap0_1 (p0.Slots).length cp0_1), (.slice Ap0_2 (p0.Marks).length cp0_2)]) (wn rfl) rfl rfl rfl fun b100 => ?_
 refine Tr.asg rfl rfl ?_
 refine Tr.asg rfl rfl ?_
 refine Tr.nil (Tr.normThen ?_)
 refine Tr.seq ?_
 refine Tr.sr ?_
 refine Tr.va rfl (fun _ _ h1 h2 => run_loadN (cs := [(iv p0.W), (iv p0.H), (iv p0.Rail), (iv p0.Gap), (.slice Ap0_0 (p0.Kinds).length cp0_0), (.slice Ap0_1 (p0.Slots).length cp0_1), (.slice Ap0_2 (p0.Marks).length cp0_2)]) ag_26 sz_26 (h1.ev rfl) (CellsAt.take (rdb h2 (vs := [(iv p0.W), (iv p0.H), (iv p0.Rail), (iv p0.Gap), (.slice Ap0_0 (p0.Kinds).length cp0_0), (.slice Ap0_1 (p0.Slots).length cp0_1), (.slice Ap0_2 (p0.Marks).length cp0_2)]) (k := 1) rfl 0) 7) rfl) ?_
 obtain ⟨y101, hy101, H⟩ := bnd H
 refine Tr.call0 (r := (iv y101)) (wn rfl) rfl Tryz.call11 (evl_cons rfl evl_nil) (fun W hW => F_panel_CheckPanel_ok N p0 Ap0_0 cp0_0 (hp0_0.ext hW.extAll) Ap0_1 cp0_1 (hp0_1.ext hW.extAll) Ap0_2 cp0_2 (hp0_2.ext hW.extAll) y101 hy101 (HF.start _)) ?_
 refine Tr.asg rfl rfl ?_
 refine Tr.nil (Tr.normThen ?_)
 refine Tr.sr ?_
 refine Tr.mv rfl rfl ?_
 refine Tr.va rfl (fun _ _ h1 h2 => run_neq (h1.ev rfl) (h1.ev rfl)) ?_
 refine Tr.nil (Tr.normThen ?_)
 refine Tr.cond rfl H (fun H => ?_) (fun H => ?_)
 ·refine Tr.sr ?_
  refine Tr.mv rfl rfl ?_
  refine Tr.asg rfl rfl ?_
  refine Tr.asg rfl rfl ?_
  refine Tr.nil (Tr.normThen ?_)
  refine Tr.ret (Tr.retThen ?_)
  obtain rfl := Option.some.inj H
  exact Tr.out (m := [(sv ⟨#[]⟩), (iv y101)]) [] (res_tmp rfl (res_tmp rfl res_nil)) (fun W hW => ⟨rfl, hW.low leB⟩)
 ·refine Tr.skip (Tr.normThen ?_)
  refine Tr.sr ?_
  refine Tr.sbNew (e := 5) 2 (wn rfl) rfl zb_39 fun b102 => ?_
  refine Tr.nil (Tr.normThen ?_)
  refine Tr.sr ?_
  refine Tr.mkFunc (vs := [(.pointer (some ⟨b102, 0, none⟩))]) (wn rfl) rfl (evl_cons rfl evl_nil) ?_
  refine Tr.asg rfl rfl ?_
  refine Tr.nil (Tr.normThen ?_)
  refine Tr.sr ?_
  refine Tr.asg rfl rfl ?_
  refine Tr.nil (Tr.normThen ?_)
  refine Tr.seq ?_
  obtain ⟨y104, hy104, H⟩ := bnd H
  obtain ⟨y105, hy105, H⟩ := bnd H
  obtain ⟨y106, hy106, H⟩ := bnd H
  obtain ⟨y107, hy107, H⟩ := bnd H
  refine Tr.drawF 18 [(17, .makeFunc (.func 0) #[] #[.const (sv ⟨#[112, 97, 110, 101, 108]⟩), .tmp 24, .tmp 28, .tmp 32, .tmp 36])] [(17, ⟨37, 3, (.func (.func 0) #[] #[(sv ⟨#[112, 97, 110, 101, 108]⟩), (sv y104), (sv y105), (sv y106), (sv y107)]), fun b => .slice (some ⟨b, 0, none⟩) 5 5, fun b => bx b #[(sv ⟨#[112, 97, 110, 101, 108]⟩), (sv y104), (sv y105), (sv y106), (sv y107)] 9⟩)] [(0, (.agg #[(iv p0.W), (iv p0.H), (iv p0.Rail), (iv p0.Gap), (.slice Ap0_0 (p0.Kinds).length cp0_0), (.slice Ap0_1 (p0.Slots).length cp0_1), (.slice Ap0_2 (p0.Marks).length cp0_2)])), (1, (.pointer (some ⟨b100, 0, none⟩))), (2, (sv ⟨#[]⟩)), (3, (iv 0)), (4, (iv y101)), (5, (.pointer (some ⟨b102, 0, none⟩))), (6, (.func (.func 12) #[] #[(.pointer (some ⟨b102, 0, none⟩))])), (7, (.func (.func 15) #[] #[])), (14, (.agg #[(iv p0.W), (iv p0.H), (iv p0.Rail), (iv p0.Gap), (.slice Ap0_0 (p0.Kinds).length cp0_0), (.slice Ap0_1 (p0.Slots).length cp0_1), (.slice Ap0_2 (p0.Marks).length cp0_2)])), (15, (iv y101)), (16, (iv y101)), (17, (.bool (y101 != 0))), (19, (.func (.func 12) #[] #[(.pointer (some ⟨b102, 0, none⟩))])), (20, (.func (.func 12) #[] #[(.pointer (some ⟨b102, 0, none⟩))])), (21, (.func (.func 15) #[] #[])), (22, (.pointer (some ⟨b100, 0, none⟩))), (23, (iv p0.W)), (24, (sv y104)), (25, (.func (.func 15) #[] #[])), (26, (.pointer (some ⟨b100, 1, none⟩))), (27, (iv p0.H)), (28, (sv y105)), (29, (.func (.func 15) #[] #[])), (30, (.pointer (some ⟨b100, 2, none⟩))), (31, (iv p0.Rail)), (32, (sv y106)), (33, (.func (.func 15) #[] #[])), (34, (.pointer (some ⟨b100, 3, none⟩))), (35, (iv p0.Gap)), (36, (sv y107)), (37, (.func (.func 0) #[] #[(sv ⟨#[112, 97, 110, 101, 108]⟩), (sv y104), (sv y105), (sv y106), (sv y107)]))] (by kernel_rfl) (by kernel_rfl) (by kernel_rfl) (by kernel_rfl) (by kernel_rfl) (by kernel_rfl) (by kernel_rfl) (fall_cons (fr_lit (vs := [(0, (sv ⟨#[112, 97, 110, 101, 108]⟩)), (1, (sv y104)), (2, (sv y105)), (3, (sv y106)), (4, (sv y107))]) rfl rfl rfl (by kernel_rfl)) fall_nil) (fall_cons rfl fall_nil) (fall_cons rfl fall_nil) ?_ ?_
  ·refine Tq.mv rfl rfl ?_
   refine Tq.mv rfl rfl ?_
   refine Tq.va rfl (fun _ _ h1 h2 => run_fieldAddr fo_26_0 (h1.ev rfl)) ?_
   refine Tq.va rfl (fun _ _ h1 h2 => run_load1 ag_3 (h1.ev rfl) (rdb h2 (vs := [(iv p0.W), (iv p0.H), (iv p0.Rail), (iv p0.Gap), (.slice Ap0_0 (p0.Kinds).length cp0_0), (.slice Ap0_1 (p0.Slots).length cp0_1), (.slice Ap0_2 (p0.Marks).length cp0_2)]) (k := 1) rfl 0) rfl) ?_
   refine Tq.callF (r := (sv y104)) (wn rfl) rfl rfl Tryz.call15 (evl_cons rfl evl_nil) (fun W hW => F_strconv_Itoa_ok (hT.ext hW.extAll) p0.W y104 hy104 (HF.start _)) ?_
   refine Tq.mv rfl rfl ?_
   refine Tq.va rfl (fun _ _ h1 h2 => run_fieldAddr fo_26_1 (h1.ev rfl)) ?_
   refine Tq.va rfl (fun _ _ h1 h2 => run_load1 ag_3 (h1.ev rfl) (rdb h2 (vs := [(iv p0.W), (iv p0.H), (iv p0.Rail), (iv p0.Gap), (.slice Ap0_0 (p0.Kinds).length cp0_0), (.slice Ap0_1 (p0.Slots).length cp0_1), (.slice Ap0_2 (p0.Marks).length cp0_2)]) (k := 1) rfl 1) rfl) ?_
   refine Tq.callF (r := (sv y105)) (wn rfl) rfl rfl Tryz.call15 (evl_cons rfl evl_nil) (fun W hW => F_strconv_Itoa_ok (hT.ext hW.extAll) p0.H y105 hy105 (HF.start _)) ?_
   refine Tq.mv rfl rfl ?_
   refine Tq.va rfl (fun _ _ h1 h2 => run_fieldAddr fo_26_2 (h1.ev rfl)) ?_
   refine Tq.va rfl (fun _ _ h1 h2 => run_load1 ag_3 (h1.ev rfl) (rdb h2 (vs := [(iv p0.W), (iv p0.H), (iv p0.Rail), (iv p0.Gap), (.slice Ap0_0 (p0.Kinds).length cp0_0), (.slice Ap0_1 (p0.Slots).length cp0_1), (.slice Ap0_2 (p0.Marks).length cp0_2)]) (k := 1) rfl 2) rfl) ?_
   refine Tq.callF (r := (sv y106)) (wn rfl) rfl rfl Tryz.call15 (evl_cons rfl evl_nil) (fun W hW => F_strconv_Itoa_ok (hT.ext hW.extAll) p0.Rail y106 hy106 (HF.start _)) ?_
   refine Tq.mv rfl rfl ?_
   refine Tq.va rfl (fun _ _ h1 h2 => run_fieldAddr fo_26_3 (h1.ev rfl)) ?_
   refine Tq.va rfl (fun _ _ h1 h2 => run_load1 ag_3 (h1.ev rfl) (rdb h2 (vs := [(iv p0.W), (iv p0.H), (iv p0.Rail), (iv p0.Gap), (.slice Ap0_0 (p0.Kinds).length cp0_0), (.slice Ap0_1 (p0.Slots).length cp0_1), (.slice Ap0_2 (p0.Marks).length cp0_2)]) (k := 1) rfl 3) rfl) ?_
   refine Tq.callF (r := (sv y107)) (wn rfl) rfl rfl Tryz.call15 (evl_cons rfl evl_nil) (fun W hW => F_strconv_Itoa_ok (hT.ext hW.extAll) p0.Gap y107 hy107 (HF.start _)) ?_
   refine Tq.mkFunc (vs := [(sv ⟨#[112, 97, 110, 101, 108]⟩), (sv y104), (sv y105), (sv y106), (sv y107)]) (wn rfl) rfl (evl_cons rfl (evl_cons rfl (evl_cons rfl (evl_cons rfl (evl_cons rfl evl_nil))))) ?_
   exact Tq.fin (.cons rfl (.cons rfl (.cons rfl (.cons rfl (.cons rfl (.cons rfl (.cons rfl (.cons rfl (.cons rfl (.cons rfl (.cons rfl (.cons rfl (.cons rfl (.cons rfl (.cons rfl (.cons rfl (.cons rfl (.cons rfl (.cons rfl (.cons rfl (.cons rfl (.cons rfl (.cons rfl (.cons rfl (.cons rfl (.cons rfl (.cons rfl (.cons rfl (.cons rfl (.cons rfl (.cons rfl .nil)))))))))))))))))))))))))))))))
  ·intro bs103
   refine Tr.sel (lf := [(1, (.pointer (some ⟨b100, 0, none⟩))), (5, (.pointer (some ⟨b102, 0, none⟩))), (6, (.func (.func 12) #[] #[(.pointer (some ⟨b102, 0, none⟩))])), (7, (.func (.func 15) #[] #[])), (20, (.func (.func 12) #[] #[(.pointer (some ⟨b102, 0, none⟩))])), (37, (.slice (some ⟨(bs103 17), 0, none⟩) 5 5))]) (le := [(1, bx b100 #[(iv p0.W), (iv p0.H), (iv p0.Rail), (iv p0.Gap), (.slice Ap0_0 (p0.Kinds).length cp0_0), (.slice Ap0_1 (p0.Slots).length cp0_1), (.slice Ap0_2 (p0.Marks).length cp0_2)] 26), (2, sb 39 5 b102 none 0 ByteArray.empty), (3, bx (bs103 17) #[(sv ⟨#[112, 97, 110, 101, 108]⟩), (sv y104), (sv y105), (sv y106), (sv y107)] 9)]) (.cons rfl (.cons rfl (.cons rfl (.cons rfl (.cons rfl (.cons rfl .nil)))))) (.cons rfl (.cons rfl (.cons rfl .nil))) ?_
   refine Tr.own 3 fl_str [⟨#[112, 97, 110, 101, 108]⟩, y104, y105, y106, y107] (css := [[(sv ⟨#[112, 97, 110, 101, 108]⟩)], [(sv y104)], [(sv y105)], [(sv y106)], [(sv y107)]]) rfl (.cons ⟨(), trivial, rfl⟩ (.cons ⟨(), trivial, rfl⟩ (.cons ⟨(), trivial, rfl⟩ (.cons ⟨(), trivial, rfl⟩ (.cons ⟨(), trivial, rfl⟩ .nil))))) rfl (by decide) (lit_max rfl) ?_
   obtain ⟨y108, hy108, H⟩ := bnd H
   refine Tr.callMC [2] [sb 39 5 b102 none 0 ByteArray.empty] (U := (Option Addr × Nat)) (fun u => (.tuple #[])) (fun u => True) (fun u => [sb 39 5 b102 u.1 u.2 y108]) rfl (pk_cons rfl pk_nil) (fun _ => rfl) (wn rfl) rfl rfl Tryz.call12 (evl_cons rfl evl_nil) (fun W hW hp hE => F_panel_Text_1_ok ([⟨#[112, 97, 110, 101, 108]⟩, y104, y105, y106, y107]) (some ⟨(bs103 17), 0, none⟩) 5 (hW.slS (k := 3) rfl hp rfl) ByteArray.empty none 0 b102 y108 hy108 hE) ?_
   intro u hu
   obtain ⟨Ay108_0, cy108_0⟩ := u
   have gy108_0 := hu
   have hgy108_0 : True := gy108_0 --@phi
   show Tr _ _ (uf _ 38 (.tuple #[])) (up _ 2 (sb 39 5 b102 Ay108_0 cy108_0 y108)) _
   refine Tr.nil (Tr.normThen ?_)
   refine Tr.seq ?_
   refine Tr.sr ?_
   refine Tr.va rfl (fun _ _ h1 h2 => run_fieldAddr fo_26_4 (h1.ev rfl)) ?_
   refine Tr.va rfl (fun _ _ h1 h2 => run_load1 ag_22 (h1.ev rfl) (rdb h2 (vs := [(iv p0.W), (iv p0.H), (iv p0.Rail), (iv p0.Gap), (.slice Ap0_0 (p0.Kinds).length cp0_0), (.slice Ap0_1 (p0.Slots).length cp0_1), (.slice Ap0_2 (p0.Marks).length cp0_2)]) (k := 1) rfl 4) rfl) ?_
   refine Tr.va rfl (fun _ _ h1 h2 => run_len un_22 (h1.ev rfl)) ?_
   refine Tr.mv rfl rfl ?_
   refine Tr.nil (Tr.normThen ?_)
   refine Tr.block ?_
   refine Tr.loop (σ := (List TBoardKind) × Nat × ByteArray × (Option Addr) × Nat) (fun m w s => m = s.1.length + 1 ∧ s.1 = List.drop s.2.1 p0.Kinds ∧ s.2.1 ≤ p0.Kinds.length ∧ F_panel_Text_L1 p0 s.1 s.2.1 s.2.2.1 = some r) (fun s => [(1, (.pointer (some ⟨b100, 0, none⟩))), (5, (.pointer (some ⟨b102, 0, none⟩))), (6, (.func (.func 12) #[] #[(.pointer (some ⟨b102, 0, none⟩))])), (7, (.func (.func 15) #[] #[])), (40, (.slice Ap0_0 (p0.Kinds).length cp0_0)), (41, (iv (p0.Kinds.length : Int))), (42, (iv (s.2.1 : Int)))]) (fun s => [(1, bx b100 #[(iv p0.W), (iv p0.H), (iv p0.Rail), (iv p0.Gap), (.slice Ap0_0 (p0.Kinds).length cp0_0), (.slice Ap0_1 (p0.Slots).length cp0_1), (.slice Ap0_2 (p0.Marks).length cp0_2)] 26), (2, sb 39 5 b102 s.2.2.2.1 s.2.2.2.2 s.2.2.1)]) (p0.Kinds.length + 1) (p0.Kinds, 0, y108, Ay108_0, cy108_0) ⟨rfl, rfl, Nat.zero_le _, H⟩ (.cons rfl (.cons rfl (.cons rfl (.cons rfl (.cons rfl (.cons rfl (.cons rfl .nil))))))) (.cons rfl (.cons rfl .nil)) (fun _ _ h => absurd h.1 (by simp)) ?_
   intro w leL1 m s hs
   obtain ⟨restL1, iL1, m130, Am130, cm130⟩ := s
   obtain ⟨hmL1, hdL1, hiL1, H⟩ := hs
   replace hdL1 : restL1 = List.drop iL1 p0.Kinds := hdL1
   replace H : F_panel_Text_L1 p0 restL1 iL1 m130 = some r := H
   replace hmL1 : m + 1 = restL1.length + 1 := hmL1
   replace hT := hT.ext leL1.ext
   replace hp0_0 := hp0_0.leR leL1
   replace hp0_1 := hp0_1.leR leL1
   replace hp0_2 := hp0_2.leR leL1
   replace leB := leB.trans leL1
   obtain rfl : m = restL1.length := by omega
   clear hmL1
   show Tr _ _ (LF [(1, (.pointer (some ⟨b100, 0, none⟩))), (5, (.pointer (some ⟨b102, 0, none⟩))), (6, (.func (.func 12) #[] #[(.pointer (some ⟨b102, 0, none⟩))])), (7, (.func (.func 15) #[] #[])), (40, (.slice Ap0_0 (p0.Kinds).length cp0_0)), (41, (iv (p0.Kinds.length : Int))), (42, (iv (iL1 : Int)))]) (LE [(1, bx b100 #[(iv p0.W), (iv p0.H), (iv p0.Rail), (iv p0.Gap), (.slice Ap0_0 (p0.Kinds).length cp0_0), (.slice Ap0_1 (p0.Slots).length cp0_1), (.slice Ap0_2 (p0.Marks).length cp0_2)] 26), (2, sb 39 5 b102 Am130 cm130 m130)]) _
   cases restL1 with
   | nil =>
    rw [F_panel_Text_L1.eq_1] at H
    refine Tr.sr ?_
    refine Tr.va rfl (fun _ _ h1 h2 => run_lss (h1.ev rfl) (h1.ev rfl)) ?_
    refine Tr.nil (Tr.normThen ?_)
    refine Tr.seq ?_
    refine Tr.condF rfl (range_nil hdL1) ?_
    refine Tr.exit (Tr.exitThen (Tr.exitThen (Tr.exitBlock (Tr.normThen ?_))))
    refine Tr.seq ?_
    refine Tr.sr ?_
    refine Tr.va rfl (fun _ _ h1 h2 => run_fieldAddr fo_26_5 (h1.ev rfl)) ?_
    refine Tr.va rfl (fun _ _ h1 h2 => run_load1 ag_23 (h1.ev rfl) (rdb h2 (vs := [(iv p0.W), (iv p0.H), (iv p0.Rail), (iv p0.Gap), (.slice Ap0_0 (p0.Kinds).length cp0_0), (.slice Ap0_1 (p0.Slots).length cp0_1), (.slice Ap0_2 (p0.Marks).length cp0_2)]) (k := 1) rfl 5) rfl) ?_
    refine Tr.va rfl (fun _ _ h1 h2 => run_len un_23 (h1.ev rfl)) ?_
    refine Tr.mv rfl rfl ?_
    refine Tr.nil (Tr.normThen ?_)
    refine Tr.block ?_
    refine Tr.loop (σ := (List TSlot) × Nat × ByteArray × (Option Addr) × Nat) (fun m w s => m = s.1.length + 1 ∧ s.1 = List.drop s.2.1 p0.Slots ∧ s.2.1 ≤ p0.Slots.length ∧ F_panel_Text_L2 p0 s.1 s.2.1 s.2.2.1 = some r) (fun s => [(1, (.pointer (some ⟨b100, 0, none⟩))), (5, (.pointer (some ⟨b102, 0, none⟩))), (6, (.func (.func 12) #[] #[(.pointer (some ⟨b102, 0, none⟩))])), (7, (.func (.func 15) #[] #[])), (61, (.slice Ap0_1 (p0.Slots).length cp0_1)), (62, (iv (p0.Slots.length : Int))), (63, (iv (s.2.1 : Int)))]) (fun s => [(1, bx b100 #[(iv p0.W), (iv p0.H), (iv p0.Rail), (iv p0.Gap), (.slice Ap0_0 (p0.Kinds).length cp0_0), (.slice Ap0_1 (p0.Slots).length cp0_1), (.slice Ap0_2 (p0.Marks).length cp0_2)] 26), (2, sb 39 5 b102 s.2.2.2.1 s.2.2.2.2 s.2.2.1)]) (p0.Slots.length + 1) (p0.Slots, 0, m130, Am130, cm130) ⟨rfl, rfl, Nat.zero_le _, H⟩ (.cons rfl (.cons rfl (.cons rfl (.cons rfl (.cons rfl (.cons rfl (.cons rfl .nil))))))) (.cons rfl (.cons rfl .nil)) (fun _ _ h => absurd h.1 (by simp)) ?_
    intro w leL2 m s hs
    obtain ⟨restL2, iL2, m153, Am153, cm153⟩ := s
    obtain ⟨hmL2, hdL2, hiL2, H⟩ := hs
    replace hdL2 : restL2 = List.drop iL2 p0.Slots := hdL2
    replace H : F_panel_Text_L2 p0 restL2 iL2 m153 = some r := H
    replace hmL2 : m + 1 = restL2.length + 1 := hmL2
    replace hT := hT.ext leL2.ext
    replace hp0_0 := hp0_0.leR leL2
    replace hp0_1 := hp0_1.leR leL2
    replace hp0_2 := hp0_2.leR leL2
    replace leB := leB.trans leL2
    replace leL1 := leL1.trans leL2
    obtain rfl : m = restL2.length := by omega
    clear hmL2
    show Tr _ _ (LF [(1, (.pointer (some ⟨b100, 0, none⟩))), (5, (.pointer (some ⟨b102, 0, none⟩))), (6, (.func (.func 12) #[] #[(.pointer (some ⟨b102, 0, none⟩))])), (7, (.func (.func 15) #[] #[])), (61, (.slice Ap0_1 (p0.Slots).length cp0_1)), (62, (iv (p0.Slots.length : Int))), (63, (iv (iL2 : Int)))]) (LE [(1, bx b100 #[(iv p0.W), (iv p0.H), (iv p0.Rail), (iv p0.Gap), (.slice Ap0_0 (p0.Kinds).length cp0_0), (.slice Ap0_1 (p0.Slots).length cp0_1), (.slice Ap0_2 (p0.Marks).length cp0_2)] 26), (2, sb 39 5 b102 Am153 cm153 m153)]) _
    cases restL2 with
    | nil =>
     rw [F_panel_Text_L2.eq_1] at H
     refine Tr.sr ?_
     refine Tr.va rfl (fun _ _ h1 h2 => run_lss (h1.ev rfl) (h1.ev rfl)) ?_
     refine Tr.nil (Tr.normThen ?_)
     refine Tr.seq ?_
     refine Tr.condF rfl (range_nil hdL2) ?_
     refine Tr.exit (Tr.exitThen (Tr.exitThen (Tr.exitBlock (Tr.normThen ?_))))
     refine Tr.seq ?_
     refine Tr.sr ?_
     refine Tr.va rfl (fun _ _ h1 h2 => run_fieldAddr fo_26_6 (h1.ev rfl)) ?_
     refine Tr.va rfl (fun _ _ h1 h2 => run_load1 ag_24 (h1.ev rfl) (rdb h2 (vs := [(iv p0.W), (iv p0.H), (iv p0.Rail), (iv p0.Gap), (.slice Ap0_0 (p0.Kinds).length cp0_0), (.slice Ap0_1 (p0.Slots).length cp0_1), (.slice Ap0_2 (p0.Marks).length cp0_2)]) (k := 1) rfl 6) rfl) ?_
     refine Tr.va rfl (fun _ _ h1 h2 => run_len un_24 (h1.ev rfl)) ?_
     refine Tr.mv rfl rfl ?_
     refine Tr.nil (Tr.normThen ?_)
     refine Tr.block ?_
     refine Tr.loop (σ := (List TPoint) × Nat × ByteArray × (Option Addr) × Nat) (fun m w s => m = s.1.length + 1 ∧ s.1 = List.drop s.2.1 p0.Marks ∧ s.2.1 ≤ p0.Marks.length ∧ F_panel_Text_L3 s.1 s.2.1 s.2.2.1 = some r) (fun s => [(5, (.pointer (some ⟨b102, 0, none⟩))), (6, (.func (.func 12) #[] #[(.pointer (some ⟨b102, 0, none⟩))])), (7, (.func (.func 15) #[] #[])), (88, (.slice Ap0_2 (p0.Marks).length cp0_2)), (89, (iv (p0.Marks.length : Int))), (90, (iv (s.2.1 : Int)))]) (fun s => [(2, sb 39 5 b102 s.2.2.2.1 s.2.2.2.2 s.2.2.1)]) (p0.Marks.length + 1) (p0.Marks, 0, m153, Am153, cm153) ⟨rfl, rfl, Nat.zero_le _, H⟩ (.cons rfl (.cons rfl (.cons rfl (.cons rfl (.cons rfl (.cons rfl .nil)))))) (.cons rfl .nil) (fun _ _ h => absurd h.1 (by simp)) ?_
     intro w leL3 m s hs
     obtain ⟨restL3, iL3, m174, Am174, cm174⟩ := s
     obtain ⟨hmL3, hdL3, hiL3, H⟩ := hs
     replace hdL3 : restL3 = List.drop iL3 p0.Marks := hdL3
     replace H : F_panel_Text_L3 restL3 iL3 m174 = some r := H
     replace hmL3 : m + 1 = restL3.length + 1 := hmL3
     replace hT := hT.ext leL3.ext
     replace hp0_2 := hp0_2.leR leL3
     replace leB := leB.trans leL3
     replace leL1 := leL1.trans leL3
     replace leL2 := leL2.trans leL3
     obtain rfl : m = restL3.length := by omega
     clear hmL3
     show Tr _ _ (LF [(5, (.pointer (some ⟨b102, 0, none⟩))), (6, (.func (.func 12) #[] #[(.pointer (some ⟨b102, 0, none⟩))])), (7, (.func (.func 15) #[] #[])), (88, (.slice Ap0_2 (p0.Marks).length cp0_2)), (89, (iv (p0.Marks.length : Int))), (90, (iv (iL3 : Int)))]) (LE [(2, sb 39 5 b102 Am174 cm174 m174)]) _
     cases restL3 with
     | nil =>
      rw [F_panel_Text_L3.eq_1] at H
      refine Tr.sr ?_
      refine Tr.va rfl (fun _ _ h1 h2 => run_lss (h1.ev rfl) (h1.ev rfl)) ?_
      refine Tr.nil (Tr.normThen ?_)
      refine Tr.seq ?_
      refine Tr.condF rfl (range_nil hdL3) ?_
      refine Tr.exit (Tr.exitThen (Tr.exitThen (Tr.exitBlock (Tr.normThen ?_))))
      refine Tr.sr ?_
      obtain ⟨y175, hy175, H⟩ := bnd H
      refine Tr.callM [2] [sb 39 5 b102 Am174 cm174 m174] (U := (Option Addr × Nat)) (fun u => (sv y175.1)) (fun u => True) (fun u => [sb 39 5 b102 u.1 u.2 y175.2]) rfl (pk_cons rfl pk_nil) (fun _ => rfl) (wn rfl) rfl Tryz.call16 (evl_cons rfl evl_nil) (fun W hW hp hE => F_strings_Builder_String_ok m174 Am174 cm174 b102 y175 hy175 hE) ?_
      intro u hu
      obtain ⟨Ay175_0, cy175_0⟩ := u
      have gy175_0 := hu
      have hgy175_0 : True := gy175_0 --@phi
      show Tr _ _ (uf _ 106 (sv y175.1)) (up _ 2 (sb 39 5 b102 Ay175_0 cy175_0 y175.2)) _
      refine Tr.asg rfl rfl ?_
      refine Tr.asg rfl rfl ?_
      refine Tr.nil (Tr.normThen ?_)
      refine Tr.ret ?_
      obtain rfl := Option.some.inj H
      exact Tr.out (m := [(sv y175.1), (iv 0)]) [] (res_tmp rfl (res_tmp rfl res_nil)) (fun W hW => ⟨rfl, hW.low leB⟩)
     | cons xL3 restL3 =>
      rw [F_panel_Text_L3.eq_2] at H
      refine Tr.sr ?_
      refine Tr.va rfl (fun _ _ h1 h2 => run_lss (h1.ev rfl) (h1.ev rfl)) ?_
      refine Tr.nil (Tr.normThen ?_)
      refine Tr.seq ?_
      refine Tr.condT rfl (range_on hdL3) ?_
      refine Tr.skip (Tr.normThen ?_)
      refine Tr.seq ?_
      refine Tr.block ?_
      refine Tr.sr ?_
      refine Tr.va rfl (fun _ _ h1 h2 => run_indexAddr el_24 (h1.ev rfl) hp0_2.form (h1.ev rfl) (Int.natCast_nonneg _) (range_lt hdL3)) ?_
      refine Tr.va rfl (fun _ _ h1 h2 => run_loadN (cs := [(iv xL3.X), (iv xL3.Y)]) ag_51 sz_51 (h1.ev rfl) (CellsAt.take (rdF ef_TPoint hp0_2 (range_at hdL3) h2) 2) rfl) ?_
      refine Tr.alloc 16 (wn rfl) rfl ze_51 fun b177 => ?_
      refine Tr.store 16 (cs := [(iv xL3.X), (iv xL3.Y)]) [(iv xL3.X), (iv xL3.Y)] (wn rfl) rfl rfl rfl rfl sz_51 rfl rfl rfl ?_
      refine Tr.nil (Tr.normThen ?_)
      obtain ⟨y179, hy179, H⟩ := bnd H
      obtain ⟨y180, hy180, H⟩ := bnd H
      refine Tr.drawF 10 [(9, .makeFunc (.func 0) #[] #[.const (sv ⟨#[109, 97, 114, 107]⟩), .tmp 98, .tmp 102])] [(9, ⟨103, 17, (.func (.func 0) #[] #[(sv ⟨#[109, 97, 114, 107]⟩), (sv y179), (sv y180)]), fun b => .slice (some ⟨b, 0, none⟩) 3 3, fun b => bx b #[(sv ⟨#[109, 97, 114, 107]⟩), (sv y179), (sv y180)] 9⟩)] [(5, (.pointer (some ⟨b102, 0, none⟩))), (6, (.func (.func 12) #[] #[(.pointer (some ⟨b102, 0, none⟩))])), (7, (.func (.func 15) #[] #[])), (13, (.pointer (some ⟨b177, 0, none⟩))), (88, (.slice Ap0_2 (p0.Marks).length cp0_2)), (89, (iv (p0.Marks.length : Int))), (90, (iv (iL3 : Int))), (91, (.bool (decide ((iL3 : Int) < (p0.Marks.length : Int))))), (92, (.pointer (some ⟨adB Ap0_2, adO Ap0_2 + ((iL3 : Int)).toNat * 2, none⟩))), (93, (.agg #[(iv xL3.X), (iv xL3.Y)])), (94, (.func (.func 12) #[] #[(.pointer (some ⟨b102, 0, none⟩))])), (95, (.func (.func 15) #[] #[])), (96, (.pointer (some ⟨b177, 0, none⟩))), (97, (iv xL3.X)), (98, (sv y179)), (99, (.func (.func 15) #[] #[])), (100, (.pointer (some ⟨b177, 1, none⟩))), (101, (iv xL3.Y)), (102, (sv y180)), (103, (.func (.func 0) #[] #[(sv ⟨#[109, 97, 114, 107]⟩), (sv y179), (sv y180)]))] (by kernel_rfl) (by kernel_rfl) (by kernel_rfl) (by kernel_rfl) (by kernel_rfl) (by kernel_rfl) (by kernel_rfl) (fall_cons (fr_lit (vs := [(0, (sv ⟨#[109, 97, 114, 107]⟩)), (1, (sv y179)), (2, (sv y180))]) rfl rfl rfl (by kernel_rfl)) fall_nil) (fall_cons rfl fall_nil) (fall_cons rfl fall_nil) ?_ ?_
      ·refine Tq.mv rfl rfl ?_
       refine Tq.mv rfl rfl ?_
       refine Tq.va rfl (fun _ _ h1 h2 => run_fieldAddr fo_51_0 (h1.ev rfl)) ?_
       refine Tq.va rfl (fun _ _ h1 h2 => run_load1 ag_3 (h1.ev rfl) (rdb h2 (vs := [(iv xL3.X), (iv xL3.Y)]) (k := 16) rfl 0) rfl) ?_
       refine Tq.callF (r := (sv y179)) (wn rfl) rfl rfl Tryz.call15 (evl_cons rfl evl_nil) (fun W hW => F_strconv_Itoa_ok (hT.ext hW.extAll) xL3.X y179 hy179 (HF.start _)) ?_
       refine Tq.mv rfl rfl ?_
       refine Tq.va rfl (fun _ _ h1 h2 => run_fieldAddr fo_51_1 (h1.ev rfl)) ?_
       refine Tq.va rfl (fun _ _ h1 h2 => run_load1 ag_3 (h1.ev rfl) (rdb h2 (vs := [(iv xL3.X), (iv xL3.Y)]) (k := 16) rfl 1) rfl) ?_
       refine Tq.callF (r := (sv y180)) (wn rfl) rfl rfl Tryz.call15 (evl_cons rfl evl_nil) (fun W hW => F_strconv_Itoa_ok (hT.ext hW.extAll) xL3.Y y180 hy180 (HF.start _)) ?_
       refine Tq.mkFunc (vs := [(sv ⟨#[109, 97, 114, 107]⟩), (sv y179), (sv y180)]) (wn rfl) rfl (evl_cons rfl (evl_cons rfl (evl_cons rfl evl_nil))) ?_
       exact Tq.fin (.cons rfl (.cons rfl (.cons rfl (.cons rfl (.cons rfl (.cons rfl (.cons rfl (.cons rfl (.cons rfl (.cons rfl (.cons rfl (.cons rfl (.cons rfl (.cons rfl (.cons rfl (.cons rfl (.cons rfl (.cons rfl (.cons rfl (.cons rfl .nil))))))))))))))))))))
      ·intro bs178
       refine Tr.sel (lf := [(5, (.pointer (some ⟨b102, 0, none⟩))), (6, (.func (.func 12) #[] #[(.pointer (some ⟨b102, 0, none⟩))])), (7, (.func (.func 15) #[] #[])), (88, (.slice Ap0_2 (p0.Marks).length cp0_2)), (89, (iv (p0.Marks.length : Int))), (90, (iv (iL3 : Int))), (94, (.func (.func 12) #[] #[(.pointer (some ⟨b102, 0, none⟩))])), (103, (.slice (some ⟨(bs178 9), 0, none⟩) 3 3))]) (le := [(2, sb 39 5 b102 Am174 cm174 m174), (16, bx b177 #[(iv xL3.X), (iv xL3.Y)] 51), (17, bx (bs178 9) #[(sv ⟨#[109, 97, 114, 107]⟩), (sv y179), (sv y180)] 9)]) (.cons rfl (.cons rfl (.cons rfl (.cons rfl (.cons rfl (.cons rfl (.cons rfl (.cons rfl .nil)))))))) (.cons rfl (.cons rfl (.cons rfl .nil))) ?_
       refine Tr.own 17 fl_str [⟨#[109, 97, 114, 107]⟩, y179, y180] (css := [[(sv ⟨#[109, 97, 114, 107]⟩)], [(sv y179)], [(sv y180)]]) rfl (.cons ⟨(), trivial, rfl⟩ (.cons ⟨(), trivial, rfl⟩ (.cons ⟨(), trivial, rfl⟩ .nil))) rfl (by decide) (lit_max rfl) ?_
       obtain ⟨y181, hy181, H⟩ := bnd H
       refine Tr.callMC [2] [sb 39 5 b102 Am174 cm174 m174] (U := (Option Addr × Nat)) (fun u => (.tuple #[])) (fun u => True) (fun u => [sb 39 5 b102 u.1 u.2 y181]) rfl (pk_cons rfl pk_nil) (fun _ => rfl) (wn rfl) rfl rfl Tryz.call12 (evl_cons rfl evl_nil) (fun W hW hp hE => F_panel_Text_1_ok ([⟨#[109, 97, 114, 107]⟩, y179, y180]) (some ⟨(bs178 9), 0, none⟩) 3 (hW.slS (k := 17) rfl hp rfl) m174 Am174 cm174 b102 y181 hy181 hE) ?_
       intro u hu
       obtain ⟨Ay181_0, cy181_0⟩ := u
       have gy181_0 := hu
       have hgy181_0 : True := gy181_0 --@phi
       show Tr _ _ (uf _ 104 (.tuple #[])) (up _ 2 (sb 39 5 b102 Ay181_0 cy181_0 y181)) _
       refine Tr.nil (Tr.normBlock (Tr.normThen ?_))
       refine Tr.region ?_
       refine Tr.va rfl (fun _ _ h1 h2 => run_add (h1.ev rfl) (h1.ev rfl)) ?_
       refine Tr.mv rfl rfl ?_
       refine Tr.nil ?_
       exact Tr.backThen leL3 (restL3, (iL3 + 1), y181, Ay181_0, cy181_0) ⟨rfl, range_tl hdL3, range_lt hdL3, H⟩ (.cons rfl (.cons rfl (.cons rfl (.cons rfl (.cons rfl (.cons (congrArg (fun z => some (Value.int .i64 z)) (range_up hdL3 hp0_2.form)) .nil)))))) (.cons rfl .nil)
    | cons xL2 restL2 =>
     rw [F_panel_Text_L2.eq_2] at H
     refine Tr.sr ?_
     refine Tr.va rfl (fun _ _ h1 h2 => run_lss (h1.ev rfl) (h1.ev rfl)) ?_
     refine Tr.nil (Tr.normThen ?_)
     refine Tr.seq ?_
     refine Tr.condT rfl (range_on hdL2) ?_
     refine Tr.skip (Tr.normThen ?_)
     refine Tr.seq ?_
     refine Tr.block ?_
     refine Tr.sr ?_
     refine Tr.va rfl (fun _ _ h1 h2 => run_indexAddr el_23 (h1.ev rfl) hp0_1.form (h1.ev rfl) (Int.natCast_nonneg _) (range_lt hdL2)) ?_
     refine Tr.va rfl (fun _ _ h1 h2 => run_loadN (cs := [(sv xL2.Board), (iv xL2.Quarters), (iv xL2.At.X), (iv xL2.At.Y)]) ag_53 sz_53 (h1.ev rfl) (CellsAt.take (rdF ef_TSlot hp0_1 (range_at hdL2) h2) 4) rfl) ?_
     refine Tr.alloc 18 (wn rfl) rfl ze_53 fun b183 => ?_
     refine Tr.store 18 (cs := [(sv xL2.Board), (iv xL2.Quarters), (iv xL2.At.X), (iv xL2.At.Y)]) [(sv xL2.Board), (iv xL2.Quarters), (iv xL2.At.X), (iv xL2.At.Y)] (wn rfl) rfl rfl rfl rfl sz_53 rfl rfl rfl ?_
     refine Tr.nil (Tr.normThen ?_)
     obtain ⟨y185, hy185, H⟩ := bnd H
     obtain ⟨y186, hy186, H⟩ := bnd H
     obtain ⟨y187, hy187, H⟩ := bnd H
     refine Tr.drawF 18 [(17, .makeFunc (.func 0) #[] #[.const (sv ⟨#[115, 108, 111, 116]⟩), .tmp 69, .tmp 73, .tmp 78, .tmp 83])] [(17, ⟨84, 19, (.func (.func 0) #[] #[(sv ⟨#[115, 108, 111, 116]⟩), (sv xL2.Board), (sv y185), (sv y186), (sv y187)]), fun b => .slice (some ⟨b, 0, none⟩) 5 5, fun b => bx b #[(sv ⟨#[115, 108, 111, 116]⟩), (sv xL2.Board), (sv y185), (sv y186), (sv y187)] 9⟩)] [(1, (.pointer (some ⟨b100, 0, none⟩))), (5, (.pointer (some ⟨b102, 0, none⟩))), (6, (.func (.func 12) #[] #[(.pointer (some ⟨b102, 0, none⟩))])), (7, (.func (.func 15) #[] #[])), (11, (.pointer (some ⟨b183, 0, none⟩))), (61, (.slice Ap0_1 (p0.Slots).length cp0_1)), (62, (iv (p0.Slots.length : Int))), (63, (iv (iL2 : Int))), (64, (.bool (decide ((iL2 : Int) < (p0.Slots.length : Int))))), (65, (.pointer (some ⟨adB Ap0_1, adO Ap0_1 + ((iL2 : Int)).toNat * 4, none⟩))), (66, (.agg #[(sv xL2.Board), (iv xL2.Quarters), (iv xL2.At.X), (iv xL2.At.Y)])), (67, (.func (.func 12) #[] #[(.pointer (some ⟨b102, 0, none⟩))])), (68, (.pointer (some ⟨b183, 0, none⟩))), (69, (sv xL2.Board)), (70, (.func (.func 15) #[] #[])), (71, (.pointer (some ⟨b183, 1, none⟩))), (72, (iv xL2.Quarters)), (73, (sv y185)), (74, (.func (.func 15) #[] #[])), (75, (.pointer (some ⟨b183, 2, none⟩))), (76, (.pointer (some ⟨b183, 2, none⟩))), (77, (iv xL2.At.X)), (78, (sv y186)), (79, (.func (.func 15) #[] #[])), (80, (.pointer (some ⟨b183, 2, none⟩))), (81, (.pointer (some ⟨b183, 3, none⟩))), (82, (iv xL2.At.Y)), (83, (sv y187)), (84, (.func (.func 0) #[] #[(sv ⟨#[115, 108, 111, 116]⟩), (sv xL2.Board), (sv y185), (sv y186), (sv y187)]))] (by kernel_rfl) (by kernel_rfl) (by kernel_rfl) (by kernel_rfl) (by kernel_rfl) (by kernel_rfl) (by kernel_rfl) (fall_cons (fr_lit (vs := [(0, (sv ⟨#[115, 108, 111, 116]⟩)), (1, (sv xL2.Board)), (2, (sv y185)), (3, (sv y186)), (4, (sv y187))]) rfl rfl rfl (by kernel_rfl)) fall_nil) (fall_cons rfl fall_nil) (fall_cons rfl fall_nil) ?_ ?_
     ·refine Tq.mv rfl rfl ?_
      refine Tq.va rfl (fun _ _ h1 h2 => run_fieldAddr fo_53_0 (h1.ev rfl)) ?_
      refine Tq.va rfl (fun _ _ h1 h2 => run_load1 ag_9 (h1.ev rfl) (rdb h2 (vs := [(sv xL2.Board), (iv xL2.Quarters), (iv xL2.At.X), (iv xL2.At.Y)]) (k := 18) rfl 0) rfl) ?_
      refine Tq.mv rfl rfl ?_
      refine Tq.va rfl (fun _ _ h1 h2 => run_fieldAddr fo_53_1 (h1.ev rfl)) ?_
      refine Tq.va rfl (fun _ _ h1 h2 => run_load1 ag_3 (h1.ev rfl) (rdb h2 (vs := [(sv xL2.Board), (iv xL2.Quarters), (iv xL2.At.X), (iv xL2.At.Y)]) (k := 18) rfl 1) rfl) ?_
      refine Tq.callF (r := (sv y185)) (wn rfl) rfl rfl Tryz.call15 (evl_cons rfl evl_nil) (fun W hW => F_strconv_Itoa_ok (hT.ext hW.extAll) xL2.Quarters y185 hy185 (HF.start _)) ?_
      refine Tq.mv rfl rfl ?_
      refine Tq.va rfl (fun _ _ h1 h2 => run_fieldAddr fo_53_2 (h1.ev rfl)) ?_
      refine Tq.va rfl (fun _ _ h1 h2 => run_fieldAddr fo_51_0 (h1.ev rfl)) ?_
      refine Tq.va rfl (fun _ _ h1 h2 => run_load1 ag_3 (h1.ev rfl) (rdb h2 (vs := [(sv xL2.Board), (iv xL2.Quarters), (iv xL2.At.X), (iv xL2.At.Y)]) (k := 18) rfl 2) rfl) ?_
      refine Tq.callF (r := (sv y186)) (wn rfl) rfl rfl Tryz.call15 (evl_cons rfl evl_nil) (fun W hW => F_strconv_Itoa_ok (hT.ext hW.extAll) xL2.At.X y186 hy186 (HF.start _)) ?_
      refine Tq.mv rfl rfl ?_
      refine Tq.va rfl (fun _ _ h1 h2 => run_fieldAddr fo_53_2 (h1.ev rfl)) ?_
      refine Tq.va rfl (fun _ _ h1 h2 => run_fieldAddr fo_51_1 (h1.ev rfl)) ?_
      refine Tq.va rfl (fun _ _ h1 h2 => run_load1 ag_3 (h1.ev rfl) (rdb h2 (vs := [(sv xL2.Board), (iv xL2.Quarters), (iv xL2.At.X), (iv xL2.At.Y)]) (k := 18) rfl 3) rfl) ?_
      refine Tq.callF (r := (sv y187)) (wn rfl) rfl rfl Tryz.call15 (evl_cons rfl evl_nil) (fun W hW => F_strconv_Itoa_ok (hT.ext hW.extAll) xL2.At.Y y187 hy187 (HF.start _)) ?_
      refine Tq.mkFunc (vs := [(sv ⟨#[115, 108, 111, 116]⟩), (sv xL2.Board), (sv y185), (sv y186), (sv y187)]) (wn rfl) rfl (evl_cons rfl (evl_cons rfl (evl_cons rfl (evl_cons rfl (evl_cons rfl evl_nil))))) ?_
      exact Tq.fin (.cons rfl (.cons rfl (.cons rfl (.cons rfl (.cons rfl (.cons rfl (.cons rfl (.cons rfl (.cons rfl (.cons rfl (.cons rfl (.cons rfl (.cons rfl (.cons rfl (.cons rfl (.cons rfl (.cons rfl (.cons rfl (.cons rfl (.cons rfl (.cons rfl (.cons rfl (.cons rfl (.cons rfl (.cons rfl (.cons rfl (.cons rfl (.cons rfl (.cons rfl .nil)))))))))))))))))))))))))))))
     ·intro bs184
      refine Tr.sel (lf := [(1, (.pointer (some ⟨b100, 0, none⟩))), (5, (.pointer (some ⟨b102, 0, none⟩))), (6, (.func (.func 12) #[] #[(.pointer (some ⟨b102, 0, none⟩))])), (7, (.func (.func 15) #[] #[])), (61, (.slice Ap0_1 (p0.Slots).length cp0_1)), (62, (iv (p0.Slots.length : Int))), (63, (iv (iL2 : Int))), (67, (.func (.func 12) #[] #[(.pointer (some ⟨b102, 0, none⟩))])), (84, (.slice (some ⟨(bs184 17), 0, none⟩) 5 5))]) (le := [(1, bx b100 #[(iv p0.W), (iv p0.H), (iv p0.Rail), (iv p0.Gap), (.slice Ap0_0 (p0.Kinds).length cp0_0), (.slice Ap0_1 (p0.Slots).length cp0_1), (.slice Ap0_2 (p0.Marks).length cp0_2)] 26), (2, sb 39 5 b102 Am153 cm153 m153), (18, bx b183 #[(sv xL2.Board), (iv xL2.Quarters), (iv xL2.At.X), (iv xL2.At.Y)] 53), (19, bx (bs184 17) #[(sv ⟨#[115, 108, 111, 116]⟩), (sv xL2.Board), (sv y185), (sv y186), (sv y187)] 9)]) (.cons rfl (.cons rfl (.cons rfl (.cons rfl (.cons rfl (.cons rfl (.cons rfl (.cons rfl (.cons rfl .nil))))))))) (.cons rfl (.cons rfl (.cons rfl (.cons rfl .nil)))) ?_
      refine Tr.own 19 fl_str [⟨#[115, 108, 111, 116]⟩, xL2.Board, y185, y186, y187] (css := [[(sv ⟨#[115, 108, 111, 116]⟩)], [(sv xL2.Board)], [(sv y185)], [(sv y186)], [(sv y187)]]) rfl (.cons ⟨(), trivial, rfl⟩ (.cons ⟨(), trivial, rfl⟩ (.cons ⟨(), trivial, rfl⟩ (.cons ⟨(), trivial, rfl⟩ (.cons ⟨(), trivial, rfl⟩ .nil))))) rfl (by decide) (lit_max rfl) ?_
      obtain ⟨y188, hy188, H⟩ := bnd H
      refine Tr.callMC [2] [sb 39 5 b102 Am153 cm153 m153] (U := (Option Addr × Nat)) (fun u => (.tuple #[])) (fun u => True) (fun u => [sb 39 5 b102 u.1 u.2 y188]) rfl (pk_cons rfl pk_nil) (fun _ => rfl) (wn rfl) rfl rfl Tryz.call12 (evl_cons rfl evl_nil) (fun W hW hp hE => F_panel_Text_1_ok ([⟨#[115, 108, 111, 116]⟩, xL2.Board, y185, y186, y187]) (some ⟨(bs184 17), 0, none⟩) 5 (hW.slS (k := 19) rfl hp rfl) m153 Am153 cm153 b102 y188 hy188 hE) ?_
      intro u hu
      obtain ⟨Ay188_0, cy188_0⟩ := u
      have gy188_0 := hu
      have hgy188_0 : True := gy188_0 --@phi
      show Tr _ _ (uf _ 85 (.tuple #[])) (up _ 2 (sb 39 5 b102 Ay188_0 cy188_0 y188)) _
      refine Tr.nil (Tr.normBlock (Tr.normThen ?_))
      refine Tr.region ?_
      refine Tr.va rfl (fun _ _ h1 h2 => run_add (h1.ev rfl) (h1.ev rfl)) ?_
      refine Tr.mv rfl rfl ?_
      refine Tr.nil ?_
      exact Tr.backThen leL2 (restL2, (iL2 + 1), y188, Ay188_0, cy188_0) ⟨rfl, range_tl hdL2, range_lt hdL2, H⟩ (.cons rfl (.cons rfl (.cons rfl (.cons rfl (.cons rfl (.cons rfl (.cons (congrArg (fun z => some (Value.int .i64 z)) (range_up hdL2 hp0_1.form)) .nil))))))) (.cons rfl (.cons rfl .nil))
   | cons xL1 restL1 =>
    rw [F_panel_Text_L1.eq_2] at H
    refine Tr.sr ?_
    refine Tr.va rfl (fun _ _ h1 h2 => run_lss (h1.ev rfl) (h1.ev rfl)) ?_
    refine Tr.nil (Tr.normThen ?_)
    refine Tr.seq ?_
    refine Tr.condT rfl (range_on hdL1) ?_
    refine Tr.skip (Tr.normThen ?_)
    refine Tr.seq ?_
    refine Tr.block ?_
    refine Tr.sr ?_
    refine Tr.va rfl (fun _ _ h1 h2 => run_indexAddr el_22 (h1.ev rfl) hp0_0.form (h1.ev rfl) (Int.natCast_nonneg _) (range_lt hdL1)) ?_
    refine Tr.va rfl (fun _ _ h1 h2 => run_loadN (cs := [(sv xL1.Name), (iv xL1.W), (iv xL1.H)]) ag_49 sz_49 (h1.ev rfl) (CellsAt.take (rdF ef_TBoardKind hp0_0 (range_at hdL1) h2) 3) rfl) ?_
    refine Tr.alloc 20 (wn rfl) rfl ze_49 fun b190 => ?_
    refine Tr.store 20 (cs := [(sv xL1.Name), (iv xL1.W), (iv xL1.H)]) [(sv xL1.Name), (iv xL1.W), (iv xL1.H)] (wn rfl) rfl rfl rfl rfl sz_49 rfl rfl rfl ?_
    refine Tr.nil (Tr.normThen ?_)
    obtain ⟨y192, hy192, H⟩ := bnd H
    obtain ⟨y193, hy193, H⟩ := bnd H
    refine Tr.drawF 12 [(11, .makeFunc (.func 0) #[] #[.const (sv ⟨#[98, 111, 97, 114, 100]⟩), .tmp 48, .tmp 52, .tmp 56])] [(11, ⟨57, 21, (.func (.func 0) #[] #[(sv ⟨#[98, 111, 97, 114, 100]⟩), (sv xL1.Name), (sv y192), (sv y193)]), fun b => .slice (some ⟨b, 0, none⟩) 4 4, fun b => bx b #[(sv ⟨#[98, 111, 97, 114, 100]⟩), (sv xL1.Name), (sv y192), (sv y193)] 9⟩)] [(1, (.pointer (some ⟨b100, 0, none⟩))), (5, (.pointer (some ⟨b102, 0, none⟩))), (6, (.func (.func 12) #[] #[(.pointer (some ⟨b102, 0, none⟩))])), (7, (.func (.func 15) #[] #[])), (9, (.pointer (some ⟨b190, 0, none⟩))), (40, (.slice Ap0_0 (p0.Kinds).length cp0_0)), (41, (iv (p0.Kinds.length : Int))), (42, (iv (iL1 : Int))), (43, (.bool (decide ((iL1 : Int) < (p0.Kinds.length : Int))))), (44, (.pointer (some ⟨adB Ap0_0, adO Ap0_0 + ((iL1 : Int)).toNat * 3, none⟩))), (45, (.agg #[(sv xL1.Name), (iv xL1.W), (iv xL1.H)])), (46, (.func (.func 12) #[] #[(.pointer (some ⟨b102, 0, none⟩))])), (47, (.pointer (some ⟨b190, 0, none⟩))), (48, (sv xL1.Name)), (49, (.func (.func 15) #[] #[])), (50, (.pointer (some ⟨b190, 1, none⟩))), (51, (iv xL1.W)), (52, (sv y192)), (53, (.func (.func 15) #[] #[])), (54, (.pointer (some ⟨b190, 2, none⟩))), (55, (iv xL1.H)), (56, (sv y193)), (57, (.func (.func 0) #[] #[(sv ⟨#[98, 111, 97, 114, 100]⟩), (sv xL1.Name), (sv y192), (sv y193)]))] (by kernel_rfl) (by kernel_rfl) (by kernel_rfl) (by kernel_rfl) (by kernel_rfl) (by kernel_rfl) (by kernel_rfl) (fall_cons (fr_lit (vs := [(0, (sv ⟨#[98, 111, 97, 114, 100]⟩)), (1, (sv xL1.Name)), (2, (sv y192)), (3, (sv y193))]) rfl rfl rfl (by kernel_rfl)) fall_nil) (fall_cons rfl fall_nil) (fall_cons rfl fall_nil) ?_ ?_
    ·refine Tq.mv rfl rfl ?_
     refine Tq.va rfl (fun _ _ h1 h2 => run_fieldAddr fo_49_0 (h1.ev rfl)) ?_
     refine Tq.va rfl (fun _ _ h1 h2 => run_load1 ag_9 (h1.ev rfl) (rdb h2 (vs := [(sv xL1.Name), (iv xL1.W), (iv xL1.H)]) (k := 20) rfl 0) rfl) ?_
     refine Tq.mv rfl rfl ?_
     refine Tq.va rfl (fun _ _ h1 h2 => run_fieldAddr fo_49_1 (h1.ev rfl)) ?_
     refine Tq.va rfl (fun _ _ h1 h2 => run_load1 ag_3 (h1.ev rfl) (rdb h2 (vs := [(sv xL1.Name), (iv xL1.W), (iv xL1.H)]) (k := 20) rfl 1) rfl) ?_
     refine Tq.callF (r := (sv y192)) (wn rfl) rfl rfl Tryz.call15 (evl_cons rfl evl_nil) (fun W hW => F_strconv_Itoa_ok (hT.ext hW.extAll) xL1.W y192 hy192 (HF.start _)) ?_
     refine Tq.mv rfl rfl ?_
     refine Tq.va rfl (fun _ _ h1 h2 => run_fieldAddr fo_49_2 (h1.ev rfl)) ?_
     refine Tq.va rfl (fun _ _ h1 h2 => run_load1 ag_3 (h1.ev rfl) (rdb h2 (vs := [(sv xL1.Name), (iv xL1.W), (iv xL1.H)]) (k := 20) rfl 2) rfl) ?_
     refine Tq.callF (r := (sv y193)) (wn rfl) rfl rfl Tryz.call15 (evl_cons rfl evl_nil) (fun W hW => F_strconv_Itoa_ok (hT.ext hW.extAll) xL1.H y193 hy193 (HF.start _)) ?_
     refine Tq.mkFunc (vs := [(sv ⟨#[98, 111, 97, 114, 100]⟩), (sv xL1.Name), (sv y192), (sv y193)]) (wn rfl) rfl (evl_cons rfl (evl_cons rfl (evl_cons rfl (evl_cons rfl evl_nil)))) ?_
     exact Tq.fin (.cons rfl (.cons rfl (.cons rfl (.cons rfl (.cons rfl (.cons rfl (.cons rfl (.cons rfl (.cons rfl (.cons rfl (.cons rfl (.cons rfl (.cons rfl (.cons rfl (.cons rfl (.cons rfl (.cons rfl (.cons rfl (.cons rfl (.cons rfl (.cons rfl (.cons rfl (.cons rfl .nil)))))))))))))))))))))))
    ·intro bs191
     refine Tr.sel (lf := [(1, (.pointer (some ⟨b100, 0, none⟩))), (5, (.pointer (some ⟨b102, 0, none⟩))), (6, (.func (.func 12) #[] #[(.pointer (some ⟨b102, 0, none⟩))])), (7, (.func (.func 15) #[] #[])), (40, (.slice Ap0_0 (p0.Kinds).length cp0_0)), (41, (iv (p0.Kinds.length : Int))), (42, (iv (iL1 : Int))), (46, (.func (.func 12) #[] #[(.pointer (some ⟨b102, 0, none⟩))])), (57, (.slice (some ⟨(bs191 11), 0, none⟩) 4 4))]) (le := [(1, bx b100 #[(iv p0.W), (iv p0.H), (iv p0.Rail), (iv p0.Gap), (.slice Ap0_0 (p0.Kinds).length cp0_0), (.slice Ap0_1 (p0.Slots).length cp0_1), (.slice Ap0_2 (p0.Marks).length cp0_2)] 26), (2, sb 39 5 b102 Am130 cm130 m130), (20, bx b190 #[(sv xL1.Name), (iv xL1.W), (iv xL1.H)] 49), (21, bx (bs191 11) #[(sv ⟨#[98, 111, 97, 114, 100]⟩), (sv xL1.Name), (sv y192), (sv y193)] 9)]) (.cons rfl (.cons rfl (.cons rfl (.cons rfl (.cons rfl (.cons rfl (.cons rfl (.cons rfl (.cons rfl .nil))))))))) (.cons rfl (.cons rfl (.cons rfl (.cons rfl .nil)))) ?_
     refine Tr.own 21 fl_str [⟨#[98, 111, 97, 114, 100]⟩, xL1.Name, y192, y193] (css := [[(sv ⟨#[98, 111, 97, 114, 100]⟩)], [(sv xL1.Name)], [(sv y192)], [(sv y193)]]) rfl (.cons ⟨(), trivial, rfl⟩ (.cons ⟨(), trivial, rfl⟩ (.cons ⟨(), trivial, rfl⟩ (.cons ⟨(), trivial, rfl⟩ .nil)))) rfl (by decide) (lit_max rfl) ?_
     obtain ⟨y194, hy194, H⟩ := bnd H
     refine Tr.callMC [2] [sb 39 5 b102 Am130 cm130 m130] (U := (Option Addr × Nat)) (fun u => (.tuple #[])) (fun u => True) (fun u => [sb 39 5 b102 u.1 u.2 y194]) rfl (pk_cons rfl pk_nil) (fun _ => rfl) (wn rfl) rfl rfl Tryz.call12 (evl_cons rfl evl_nil) (fun W hW hp hE => F_panel_Text_1_ok ([⟨#[98, 111, 97, 114, 100]⟩, xL1.Name, y192, y193]) (some ⟨(bs191 11), 0, none⟩) 4 (hW.slS (k := 21) rfl hp rfl) m130 Am130 cm130 b102 y194 hy194 hE) ?_
     intro u hu
     obtain ⟨Ay194_0, cy194_0⟩ := u
     have gy194_0 := hu
     have hgy194_0 : True := gy194_0 --@phi
     show Tr _ _ (uf _ 58 (.tuple #[])) (up _ 2 (sb 39 5 b102 Ay194_0 cy194_0 y194)) _
     refine Tr.nil (Tr.normBlock (Tr.normThen ?_))
     refine Tr.region ?_
     refine Tr.va rfl (fun _ _ h1 h2 => run_add (h1.ev rfl) (h1.ev rfl)) ?_
     refine Tr.mv rfl rfl ?_
     refine Tr.nil ?_
     exact Tr.backThen leL1 (restL1, (iL1 + 1), y194, Ay194_0, cy194_0) ⟨rfl, range_tl hdL1, range_lt hdL1, H⟩ (.cons rfl (.cons rfl (.cons rfl (.cons rfl (.cons rfl (.cons rfl (.cons (congrArg (fun z => some (Value.int .i64 z)) (range_up hdL1 hp0_0.form)) .nil))))))) (.cons rfl (.cons rfl .nil))

theorem F_strings_Cut_ok {w : Bs} (hT : Tab Tryz.prog w) (p0 : ByteArray) (p1 : ByteArray) (r : (ByteArray × ByteArray × Bool)) (H : cutF p0 p1 = some r) (hE : HF w w.W E0) : Calls Tryz.prog 17 [(sv p0), (sv p1)].toArray w.W fun e W' => e = .returned (.tuple #[(sv r.1), (sv r.2.1), (.bool r.2.2)]) ∧ HF w W' E0 :=
 cutF_rule (ρ := Tryz.cut17_ren) { Tryz.cut17 with } hT Tryz.cut17.g1 H hE

theorem F_strings_Split_ok {w : Bs} (hT : Tab Tryz.prog w) (p0 : ByteArray) (p1 : ByteArray) (r : (List ByteArray)) (H : splitF p0 p1 = some r) (hE : HF w w.W (LEn [emp])) : Calls Tryz.prog 28 [(sv p0), (sv p1)].toArray w.W fun e W' => ∃ u : (Option Addr × Nat), e = .returned (.slice u.1 (r).length u.2) ∧ (SlF u.1 (r).length u.2) ∧ HF w W' (LEn [ow u.1 u.2 9 fl_str r]) :=
 splitF_rule (ρ := Tryz.split28_ren) Tryz.split28 hT Tryz.split28.g1 (t := fl_str) rfl ef_str () tr_str (by kernel_rfl) H hE

theorem F_slices_IndexFunc_string_ok {w : Bs} (p0 : (List ByteArray)) (Ap0_0 : Option Addr) (cp0_0 : Nat) (hp0_0 : Sl w.R w.W fl_str Ap0_0 cp0_0 p0) (p1 : ByteArray → Option Bool) (fid1 : Nat) (cap1 : List Value) (hg1 : ∀ args W, (callFunc fid1 args).run Tryz.prog W = .ok (.enter fid1 args) W) (hf1 : ∀ (w' : Bs), w.Ext w' → ∀ (z0 : ByteArray), ∀ y, p1 z0 = some y → Calls Tryz.prog fid1 (([(sv z0)] : List Value) ++ cap1).toArray w'.W fun e W'' => e = .returned (.bool y) ∧ HF w' W'' E0) (r : Int) (H : F_slices_IndexFunc_string p0 p1 = some r) (hE : HF w w.W E0) : Calls Tryz.prog 54 [(.slice Ap0_0 (p0).length cp0_0), (.func (.func fid1) #[] cap1.toArray)].toArray w.W fun e W' => e = .returned (iv r) ∧ HF w W' E0 := by
 unfold F_slices_IndexFunc_string at H
 have leB := Bs.Le.refl w
 refine Tr.enter (n := 19) Tryz.func54 rfl rfl rfl hE ?_
 refine Tr.sr ?_
 refine Tr.asg rfl rfl ?_
 refine Tr.nil (Tr.normThen ?_)
 refine Tr.seq ?_
 refine Tr.sr ?_
 refine Tr.mv rfl rfl ?_
 refine Tr.va rfl (fun _ _ h1 h2 => run_len un_40 (h1.ev rfl)) ?_
 refine Tr.mv rfl rfl ?_
 refine Tr.nil (Tr.normThen ?_)
 refine Tr.block ?_
 refine Tr.loop (σ := (List ByteArray) × Nat) (fun m w s => m = s.1.length + 1 ∧ s.1 = List.drop s.2 p0 ∧ s.2 ≤ p0.length ∧ F_slices_IndexFunc_string_L1 p1 s.1 s.2 = some r) (fun s => [(0, (.slice Ap0_0 (p0).length cp0_0)), (1, (.func (.func fid1) #[] cap1.toArray)), (7, (iv (p0.length : Int))), (8, (iv (s.2 : Int)))]) (fun s => []) (p0.length + 1) (p0, 0) ⟨rfl, rfl, Nat.zero_le _, H⟩ (.cons rfl (.cons rfl (.cons rfl (.cons rfl .nil)))) .nil (fun _ _ h => absurd h.1 (by simp)) ?_
 intro w leL1 m s hs
 obtain ⟨restL1, iL1⟩ := s
 obtain ⟨hmL1, hdL1, hiL1, H⟩ := hs
 replace hdL1 : restL1 = List.drop iL1 p0 := hdL1
 replace H : F_slices_IndexFunc_string_L1 p1 restL1 iL1 = some r := H
 replace hmL1 : m + 1 = restL1.length + 1 := hmL1
 replace hp0_0 := hp0_0.leR leL1
 replace hf1 := fun w' he => hf1 w' (leL1.ext.trans he)
 replace leB := leB.trans leL1
 obtain rfl : m = restL1.length := by omega
 clear hmL1
 show Tr _ _ (LF [(0, (.slice Ap0_0 (p0).length cp0_0)), (1, (.func (.func fid1) #[] cap1.toArray)), (7, (iv (p0.length : Int))), (8, (iv (iL1 : Int)))]) (LE []) _
 cases restL1 with
 | nil =>
  rw [F_slices_IndexFunc_string_L1.eq_1] at H
  refine Tr.sr ?_
  refine Tr.va rfl (fun _ _ h1 h2 => run_lss (h1.ev rfl) (h1.ev rfl)) ?_
  refine Tr.nil (Tr.normThen ?_)
  refine Tr.seq ?_
  refine Tr.condF rfl (range_nil hdL1) ?_
  refine Tr.exit (Tr.exitThen (Tr.exitThen (Tr.exitBlock (Tr.normThen ?_))))
  refine Tr.sr ?_
  refine Tr.asg rfl rfl ?_
  refine Tr.nil (Tr.normThen ?_)
  refine Tr.ret ?_
  obtain rfl := Option.some.inj H
  exact Tr.out (m := [(iv (-1))]) [] (res_tmp rfl res_nil) (fun W hW => ⟨rfl, hW.low leB⟩)
 | cons xL1 restL1 =>
  rw [F_slices_IndexFunc_string_L1.eq_2] at H
  refine Tr.sr ?_
  refine Tr.va rfl (fun _ _ h1 h2 => run_lss (h1.ev rfl) (h1.ev rfl)) ?_
  refine Tr.nil (Tr.normThen ?_)
  refine Tr.seq ?_
  refine Tr.condT rfl (range_on hdL1) ?_
  refine Tr.skip (Tr.normThen ?_)
  refine Tr.seq ?_
  refine Tr.block ?_
  refine Tr.sr ?_
  refine Tr.mv rfl rfl ?_
  refine Tr.asg rfl rfl ?_
  refine Tr.nil (Tr.normThen ?_)
  refine Tr.sr ?_
  refine Tr.mv rfl rfl ?_
  refine Tr.mv rfl rfl ?_
  refine Tr.mv rfl rfl ?_
  refine Tr.va rfl (fun _ _ h1 h2 => run_indexAddr el_40 (h1.ev rfl) hp0_0.form (h1.ev rfl) (Int.natCast_nonneg _) (range_lt hdL1)) ?_
  refine Tr.va rfl (fun _ _ h1 h2 => run_load1 ag_9 (h1.ev rfl) (rdF ef_str hp0_0 (range_at hdL1) h2) rfl) ?_
  obtain ⟨y103, hy103, H⟩ := bnd H
  refine Tr.callF (r := (.bool y103)) (wn rfl) rfl rfl hg1 (evl_cons rfl evl_nil) (fun W hW => hf1 hW.all hW.extAll xL1 _ hy103) ?_
  refine Tr.nil (Tr.normThen ?_)
  refine Tr.cond rfl H (fun H => ?_) (fun H => ?_)
  ·refine Tr.sr ?_
   refine Tr.mv rfl rfl ?_
   refine Tr.asg rfl rfl ?_
   refine Tr.nil (Tr.normThen ?_)
   refine Tr.ret (Tr.retBlock (Tr.retThen (Tr.retThen (Tr.retBlock (Tr.retThen ?_)))))
   obtain rfl := Option.some.inj H
   exact Tr.out (m := [(iv (iL1 : Int))]) [] (res_tmp rfl res_nil) (fun W hW => ⟨rfl, hW.low leB⟩)
  ·refine Tr.skip (Tr.normBlock (Tr.normThen ?_))
   refine Tr.region ?_
   refine Tr.va rfl (fun _ _ h1 h2 => run_add (h1.ev rfl) (h1.ev rfl)) ?_
   refine Tr.mv rfl rfl ?_
   refine Tr.nil ?_
   exact Tr.backThen leL1 (restL1, (iL1 + 1)) ⟨rfl, range_tl hdL1, range_lt hdL1, H⟩ (.cons rfl (.cons rfl (.cons rfl (.cons (congrArg (fun z => some (Value.int .i64 z)) (range_up hdL1 hp0_0.form)) .nil)))) .nil

theorem F_slices_ContainsFunc_string_ok {w : Bs} (p0 : (List ByteArray)) (Ap0_0 : Option Addr) (cp0_0 : Nat) (hp0_0 : Sl w.R w.W fl_str Ap0_0 cp0_0 p0) (p1 : ByteArray → Option Bool) (fid1 : Nat) (cap1 : List Value) (hg1 : ∀ args W, (callFunc fid1 args).run Tryz.prog W = .ok (.enter fid1 args) W) (hf1 : ∀ (w' : Bs), w.Ext w' → ∀ (z0 : ByteArray), ∀ y, p1 z0 = some y → Calls Tryz.prog fid1 (([(sv z0)] : List Value) ++ cap1).toArray w'.W fun e W'' => e = .returned (.bool y) ∧ HF w' W'' E0) (r : Bool) (H : F_slices_ContainsFunc_string p0 p1 = some r) (hE : HF w w.W E0) : Calls Tryz.prog 29 [(.slice Ap0_0 (p0).length cp0_0), (.func (.func fid1) #[] cap1.toArray)].toArray w.W fun e W' => e = .returned (.bool r) ∧ HF w W' E0 := by
 unfold F_slices_ContainsFunc_string at H
 have leB := Bs.Le.refl w
 refine Tr.enter (n := 9) Tryz.func29 rfl rfl rfl hE ?_
 refine Tr.sr ?_
 refine Tr.asg rfl rfl ?_
 refine Tr.nil (Tr.normThen ?_)
 refine Tr.sr ?_
 refine Tr.mv rfl rfl ?_
 refine Tr.mv rfl rfl ?_
 obtain ⟨y100, hy100, H⟩ := bnd H
 refine Tr.call0 (r := (iv y100)) (wn rfl) rfl Tryz.call54 (evl_cons rfl (evl_cons rfl evl_nil)) (fun W hW => F_slices_IndexFunc_string_ok p0 Ap0_0 cp0_0 (hp0_0.ext hW.extAll) p1 fid1 cap1 hg1 (fun w' he => hf1 w' (hW.extAll.trans he)) y100 hy100 (HF.start _)) ?_
 refine Tr.va rfl (fun _ _ h1 h2 => run_geq (h1.ev rfl) (h1.ev rfl)) ?_
 refine Tr.asg rfl rfl ?_
 refine Tr.nil (Tr.normThen ?_)
 refine Tr.ret ?_
 obtain rfl := Option.some.inj H
 exact Tr.out (m := [(.bool (decide (0 ≤ y100)))]) [] (res_tmp rfl res_nil) (fun W hW => ⟨rfl, hW.low leB⟩)

theorem F_strings_ContainsFunc_ok {w : Bs} (p0 : ByteArray) (p1 : Int → Option Bool) (fid1 : Nat) (cap1 : List Value) (hg1 : ∀ args W, (callFunc fid1 args).run Tryz.prog W = .ok (.enter fid1 args) W) (hf1 : ∀ (w' : Bs), w.Ext w' → ∀ (z0 : Int), ∀ y, p1 z0 = some y → Calls Tryz.prog fid1 (([(.int .i32 z0)] : List Value) ++ cap1).toArray w'.W fun e W'' => e = .returned (.bool y) ∧ HF w' W'' E0) (r : Bool) (H : containsF p0 p1 = some r) (hE : HF w w.W E0) : Calls Tryz.prog 55 [(sv p0), (.func (.func fid1) #[] cap1.toArray)].toArray w.W fun e W' => e = .returned (.bool r) ∧ HF w W' E0 :=
 containsF_rule (ρ := Tryz.containsfunc55_ren) Tryz.containsfunc55 hg1 hf1 H hE

theorem F_plot_IsRow_1_ok {w : Bs} (p0 : Int) (r : Bool) (H : F_plot_IsRow_1 p0 = some r) (hE : HF w w.W E0) : Calls Tryz.prog 56 [(.int .i32 p0)].toArray w.W fun e W' => e = .returned (.bool r) ∧ HF w W' E0 := by
 unfold F_plot_IsRow_1 at H
 have leB := Bs.Le.refl w
 refine Tr.enter (n := 9) Tryz.func56 rfl rfl rfl hE ?_
 refine Tr.sr ?_
 refine Tr.asg rfl rfl ?_
 refine Tr.nil (Tr.normThen ?_)
 refine Tr.sr ?_
 refine Tr.mv rfl rfl ?_
 refine Tr.va rfl (fun _ _ h1 h2 => run_lss (h1.ev rfl) (h1.ev rfl)) ?_
 refine Tr.mv rfl rfl ?_
 refine Tr.mid0 3 [(8, (.bool ((decide (p0 < 33)) || (decide (126 < p0)))))] [] ?_ ?_
 ·cases hg99 : (decide (p0 < 33))
  ·refine Tr.val (wg rfl rfl rfl) rfl (fun _ _ h1 h2 => run_move (h1.ev rfl)) ?_
   refine Tr.val (wg rfl rfl rfl) rfl (fun _ _ h1 h2 => run_gtr (h1.ev rfl) (h1.ev rfl)) ?_
   refine Tr.va rfl (fun _ _ h1 h2 => run_pickF (h1.ev rfl) (h1.ev rfl)) ?_
   exact Tr.nil (Tr.fin0 (.cons rfl .nil) .nil)
  ·refine Tr.pass rfl rfl rfl rfl rfl (by decide) ?_
   refine Tr.pass rfl rfl rfl rfl rfl (by decide) ?_
   refine Tr.va rfl (fun _ _ h1 h2 => run_pickT (h1.ev rfl) (h1.ev rfl)) ?_
   exact Tr.nil (Tr.fin0 (.cons rfl .nil) .nil)
 ·show Tr _ _ (LF [(8, (.bool ((decide (p0 < 33)) || (decide (126 < p0)))))]) (LE []) _
  refine Tr.asg rfl rfl ?_
  refine Tr.nil (Tr.normThen ?_)
  refine Tr.ret ?_
  obtain rfl := Option.some.inj H
  exact Tr.out (m := [(.bool ((decide (p0 < 33)) || (decide (126 < p0))))]) [] (res_tmp rfl res_nil) (fun W hW => ⟨rfl, hW.low leB⟩)

theorem F_plot_IsRow_ok {w : Bs} (p0 : ByteArray) (r : Bool) (H : F_plot_IsRow p0 = some r) (hE : HF w w.W E0) : Calls Tryz.prog 31 [(sv p0)].toArray w.W fun e W' => e = .returned (.bool r) ∧ HF w W' E0 := by
 unfold F_plot_IsRow at H
 have leB := Bs.Le.refl w
 refine Tr.enter (n := 10) Tryz.func31 rfl rfl rfl hE ?_
 refine Tr.sr ?_
 refine Tr.asg rfl rfl ?_
 refine Tr.nil (Tr.normThen ?_)
 refine Tr.sr ?_
 refine Tr.mv rfl rfl ?_
 refine Tr.va rfl (fun _ _ h1 h2 => run_neqS (h1.ev rfl) (h1.ev rfl)) ?_
 refine Tr.mv rfl rfl ?_
 obtain ⟨g101, hg101, H⟩ := bnd H
 refine Tr.mid0 4 [(9, (.bool g101))] [] ?_ ?_
 ·cases hg102 : (!sEq p0 (⟨#[]⟩))
  ·rw [hg102] at hg101
   rw [if_neg (by decide)] at hg101
   have H := hg101
   obtain rfl := Option.some.inj H
   refine Tr.pass rfl rfl rfl rfl rfl (by decide) ?_
   refine Tr.pass rfl rfl rfl rfl rfl (by decide) ?_
   refine Tr.pass rfl rfl rfl rfl rfl (by decide) ?_
   refine Tr.va rfl (fun _ _ h1 h2 => run_pickF (h1.ev rfl) (h1.ev rfl)) ?_
   exact Tr.nil (Tr.fin0 (.cons rfl .nil) .nil)
  ·rw [hg102] at hg101
   rw [if_pos rfl] at hg101
   have H := hg101
   refine Tr.val (wg rfl rfl rfl) rfl (fun _ _ h1 h2 => run_move (h1.ev rfl)) ?_
   obtain ⟨y102, hy102, H⟩ := bnd H
   refine Tr.call0 (r := (.bool y102)) (wg rfl rfl rfl) rfl Tryz.call55 (evl_cons rfl (evl_cons rfl evl_nil)) (fun W hW => F_strings_ContainsFunc_ok p0 (fun z0 => F_plot_IsRow_1 z0) 56 [] Tryz.call56 (fun w' he z0 y hy => F_plot_IsRow_1_ok z0 y hy (HF.start _)) y102 hy102 (HF.start _)) ?_
   refine Tr.val (wg rfl rfl rfl) rfl (fun _ _ h1 h2 => run_not (h1.ev rfl)) ?_
   refine Tr.va rfl (fun _ _ h1 h2 => run_pickT (h1.ev rfl) (h1.ev rfl)) ?_
   obtain rfl := Option.some.inj H
   exact Tr.nil (Tr.fin0 (.cons rfl .nil) .nil)
 ·show Tr _ _ (LF [(9, (.bool g101))]) (LE []) _
  refine Tr.asg rfl rfl ?_
  refine Tr.nil (Tr.normThen ?_)
  refine Tr.ret ?_
  obtain rfl := Option.some.inj H
  exact Tr.out (m := [(.bool g101)]) [] (res_tmp rfl res_nil) (fun W hW => ⟨rfl, hW.low leB⟩)

theorem F_panel_readLine_1_ok {w : Bs} (p0 : ByteArray) (r : Bool) (H : F_panel_readLine_1 p0 = some r) (hE : HF w w.W E0) : Calls Tryz.prog 30 [(sv p0)].toArray w.W fun e W' => e = .returned (.bool r) ∧ HF w W' E0 := by
 unfold F_panel_readLine_1 at H
 have leB := Bs.Le.refl w
 refine Tr.enter (n := 6) Tryz.func30 rfl rfl rfl hE ?_
 refine Tr.sr ?_
 refine Tr.asg rfl rfl ?_
 refine Tr.nil (Tr.normThen ?_)
 refine Tr.sr ?_
 refine Tr.mv rfl rfl ?_
 obtain ⟨y100, hy100, H⟩ := bnd H
 refine Tr.call0 (r := (.bool y100)) (wn rfl) rfl Tryz.call31 (evl_cons rfl evl_nil) (fun W hW => F_plot_IsRow_ok p0 y100 hy100 (HF.start _)) ?_
 refine Tr.va rfl (fun _ _ h1 h2 => run_not (h1.ev rfl)) ?_
 refine Tr.asg rfl rfl ?_
 refine Tr.nil (Tr.normThen ?_)
 refine Tr.ret ?_
 obtain rfl := Option.some.inj H
 exact Tr.out (m := [(.bool (!y100))]) [] (res_tmp rfl res_nil) (fun W hW => ⟨rfl, hW.low leB⟩)

theorem F_stringslite_HasPrefix_ok {w : Bs} (p0 : ByteArray) (p1 : ByteArray) (r : Bool) (H : F_stringslite_HasPrefix p0 p1 = some r) (hE : HF w w.W E0) : Calls Tryz.prog 118 [(sv p0), (sv p1)].toArray w.W fun e W' => e = .returned (.bool r) ∧ HF w W' E0 := by
 unfold F_stringslite_HasPrefix at H
 have leB := Bs.Le.refl w
 refine Tr.enter (n := 18) Tryz.func118 rfl rfl rfl hE ?_
 refine Tr.sr ?_
 refine Tr.asg rfl rfl ?_
 refine Tr.nil (Tr.normThen ?_)
 refine Tr.sr ?_
 refine Tr.mv rfl rfl ?_
 refine Tr.va rfl (fun _ _ h1 h2 => run_lenS un_9 (h1.ev rfl)) ?_
 refine Tr.mv rfl rfl ?_
 refine Tr.va rfl (fun _ _ h1 h2 => run_lenS un_9 (h1.ev rfl)) ?_
 refine Tr.va rfl (fun _ _ h1 h2 => run_geq (h1.ev rfl) (h1.ev rfl)) ?_
 refine Tr.mv rfl rfl ?_
 obtain ⟨g101, hg101, H⟩ := bnd H
 refine Tr.mid0 7 [(17, (.bool g101))] [] ?_ ?_
 ·cases hg102 : (decide ((p1.size : Int) ≤ (p0.size : Int)))
  ·rw [hg102] at hg101
   rw [if_neg (by decide)] at hg101
   have H := hg101
   obtain rfl := Option.some.inj H
   refine Tr.pass rfl rfl rfl rfl rfl (by decide) ?_
   refine Tr.pass rfl rfl rfl rfl rfl (by decide) ?_
   refine Tr.pass rfl rfl rfl rfl rfl (by decide) ?_
   refine Tr.pass rfl rfl rfl rfl rfl (by decide) ?_
   refine Tr.pass rfl rfl rfl rfl rfl (by decide) ?_
   refine Tr.pass rfl rfl rfl rfl rfl (by decide) ?_
   refine Tr.va rfl (fun _ _ h1 h2 => run_pickF (h1.ev rfl) (h1.ev rfl)) ?_
   exact Tr.nil (Tr.fin0 (.cons rfl .nil) .nil)
  ·rw [hg102] at hg101
   rw [if_pos rfl] at hg101
   have H := hg101
   refine Tr.val (wg rfl rfl rfl) rfl (fun _ _ h1 h2 => run_move (h1.ev rfl)) ?_
   refine Tr.val (wg rfl rfl rfl) rfl (fun _ _ h1 h2 => run_move (h1.ev rfl)) ?_
   refine Tr.val (wg rfl rfl rfl) rfl (fun _ _ h1 h2 => run_lenS un_9 (h1.ev rfl)) ?_
   obtain ⟨t102, ht102, H⟩ := bnd H
   refine Tr.val (wg rfl rfl rfl) rfl (fun _ _ h1 h2 => run_cutSH un_9 (h1.ev rfl) (h1.ev rfl) ht102) ?_
   refine Tr.val (wg rfl rfl rfl) rfl (fun _ _ h1 h2 => run_move (h1.ev rfl)) ?_
   refine Tr.val (wg rfl rfl rfl) rfl (fun _ _ h1 h2 => run_eqlS (h1.ev rfl) (h1.ev rfl)) ?_
   refine Tr.va rfl (fun _ _ h1 h2 => run_pickT (h1.ev rfl) (h1.ev rfl)) ?_
   obtain rfl := Option.some.inj H
   exact Tr.nil (Tr.fin0 (.cons rfl .nil) .nil)
 ·show Tr _ _ (LF [(17, (.bool g101))]) (LE []) _
  refine Tr.asg rfl rfl ?_
  refine Tr.nil (Tr.normThen ?_)
  refine Tr.ret ?_
  obtain rfl := Option.some.inj H
  exact Tr.out (m := [(.bool g101)]) [] (res_tmp rfl res_nil) (fun W hW => ⟨rfl, hW.low leB⟩)

theorem F_stringslite_TrimPrefix_ok {w : Bs} (p0 : ByteArray) (p1 : ByteArray) (r : ByteArray) (H : F_stringslite_TrimPrefix p0 p1 = some r) (hE : HF w w.W E0) : Calls Tryz.prog 104 [(sv p0), (sv p1)].toArray w.W fun e W' => e = .returned (sv r) ∧ HF w W' E0 := by
 unfold F_stringslite_TrimPrefix at H
 have leB := Bs.Le.refl w
 refine Tr.enter (n := 13) Tryz.func104 rfl rfl rfl hE ?_
 refine Tr.sr ?_
 refine Tr.asg rfl rfl ?_
 refine Tr.nil (Tr.normThen ?_)
 refine Tr.seq ?_
 refine Tr.sr ?_
 refine Tr.mv rfl rfl ?_
 refine Tr.mv rfl rfl ?_
 obtain ⟨y100, hy100, H⟩ := bnd H
 refine Tr.call0 (r := (.bool y100)) (wn rfl) rfl Tryz.call118 (evl_cons rfl (evl_cons rfl evl_nil)) (fun W hW => F_stringslite_HasPrefix_ok p0 p1 y100 hy100 (HF.start _)) ?_
 refine Tr.nil (Tr.normThen ?_)
 refine Tr.cond rfl H (fun H => ?_) (fun H => ?_)
 ·refine Tr.sr ?_
  refine Tr.mv rfl rfl ?_
  refine Tr.mv rfl rfl ?_
  refine Tr.va rfl (fun _ _ h1 h2 => run_lenS un_9 (h1.ev rfl)) ?_
  obtain ⟨t101, ht101, H⟩ := bnd H
  refine Tr.va rfl (fun _ _ h1 h2 => run_cutSL un_9 (h1.ev rfl) (h1.ev rfl) ht101) ?_
  refine Tr.asg rfl rfl ?_
  refine Tr.nil (Tr.normThen ?_)
  refine Tr.ret (Tr.retThen ?_)
  obtain rfl := Option.some.inj H
  exact Tr.out (m := [(sv t101)]) [] (res_tmp rfl res_nil) (fun W hW => ⟨rfl, hW.low leB⟩)
 ·refine Tr.skip (Tr.normThen ?_)
  refine Tr.sr ?_
  refine Tr.mv rfl rfl ?_
  refine Tr.asg rfl rfl ?_
  refine Tr.nil (Tr.normThen ?_)
  refine Tr.ret ?_
  obtain rfl := Option.some.inj H
  exact Tr.out (m := [(sv p0)]) [] (res_tmp rfl res_nil) (fun W hW => ⟨rfl, hW.low leB⟩)

theorem F_strings_TrimPrefix_ok {w : Bs} (p0 : ByteArray) (p1 : ByteArray) (r : ByteArray) (H : F_strings_TrimPrefix p0 p1 = some r) (hE : HF w w.W E0) : Calls Tryz.prog 86 [(sv p0), (sv p1)].toArray w.W fun e W' => e = .returned (sv r) ∧ HF w W' E0 := by
 unfold F_strings_TrimPrefix at H
 have leB := Bs.Le.refl w
 refine Tr.enter (n := 8) Tryz.func86 rfl rfl rfl hE ?_
 refine Tr.sr ?_
 refine Tr.asg rfl rfl ?_
 refine Tr.nil (Tr.normThen ?_)
 refine Tr.sr ?_
 refine Tr.mv rfl rfl ?_
 refine Tr.mv rfl rfl ?_
 obtain ⟨y100, hy100, H⟩ := bnd H
 refine Tr.call0 (r := (sv y100)) (wn rfl) rfl Tryz.call104 (evl_cons rfl (evl_cons rfl evl_nil)) (fun W hW => F_stringslite_TrimPrefix_ok p0 p1 y100 hy100 (HF.start _)) ?_
 refine Tr.asg rfl rfl ?_
 refine Tr.nil (Tr.normThen ?_)
 refine Tr.ret ?_
 obtain rfl := Option.some.inj H
 exact Tr.out (m := [(sv y100)]) [] (res_tmp rfl res_nil) (fun W hW => ⟨rfl, hW.low leB⟩)

end Go.Proofs.YtmbjoffligicnaaGreatDoor
