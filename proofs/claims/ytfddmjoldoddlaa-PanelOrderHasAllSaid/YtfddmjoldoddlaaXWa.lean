/- The walks: each function computes its plain function. -/
import Derived.Test.YtfddmjoldoddlaaXF
namespace Go.Proofs.Ytfddmjoldoddlaa
open Go.RowKit
set_option maxRecDepth 100000
set_option maxHeartbeats 1000000
theorem F_panel_within_ok {w : Bs} (p0 : Int) (p1 : Int) (p2 : Int) (r : Bool) (H : F_panel_within p0 p1 p2 = some r) (hE : HF w w.W E0) : Calls Try.prog 50 [(.int .i64 p0), (.int .i64 p1), (.int .i64 p2)].toArray w.W fun e W' => e = .returned (.bool r) ∧ HF w W' E0 := by
 unfold F_panel_within at H
 have leB := Bs.Le.refl w
 refine Tr.enter (n := 15) Try.func50 rfl rfl rfl hE ?_
 refine Tr.sr ?_
 refine Tr.asg rfl rfl ?_
 refine Tr.nil (Tr.normThen ?_)
 refine Tr.sr ?_
 refine Tr.mv rfl rfl ?_
 refine Tr.mv rfl rfl ?_
 refine Tr.va rfl (fun _ _ h1 h2 => run_geq (h1.ev rfl) (h1.ev rfl)) ?_
 refine Tr.mv rfl rfl ?_
 refine Tr.mid0 4 [(14, (.bool ((decide (p1 ≤ p0)) && (decide (p0 ≤ p2)))))] [] ?_ ?_
 ·cases hg99 : (decide (p1 ≤ p0))
  ·refine Tr.pass rfl rfl rfl rfl rfl (by decide) ?_
   refine Tr.pass rfl rfl rfl rfl rfl (by decide) ?_
   refine Tr.pass rfl rfl rfl rfl rfl (by decide) ?_
   refine Tr.va rfl (fun _ _ h1 h2 => run_pickF (h1.ev rfl) (h1.ev rfl)) ?_
   exact Tr.nil (Tr.fin0 (.cons rfl .nil) .nil)
  ·refine Tr.val (wg rfl rfl rfl) rfl (fun _ _ h1 h2 => run_move (h1.ev rfl)) ?_
   refine Tr.val (wg rfl rfl rfl) rfl (fun _ _ h1 h2 => run_move (h1.ev rfl)) ?_
   refine Tr.val (wg rfl rfl rfl) rfl (fun _ _ h1 h2 => run_leq (h1.ev rfl) (h1.ev rfl)) ?_
   refine Tr.va rfl (fun _ _ h1 h2 => run_pickT (h1.ev rfl) (h1.ev rfl)) ?_
   exact Tr.nil (Tr.fin0 (.cons rfl .nil) .nil)
 ·show Tr _ _ (LF [(14, (.bool ((decide (p1 ≤ p0)) && (decide (p0 ≤ p2)))))]) (LE []) _
  refine Tr.asg rfl rfl ?_
  refine Tr.nil (Tr.normThen ?_)
  refine Tr.ret ?_
  obtain rfl := Option.some.inj H
  exact Tr.out (m := [(.bool ((decide (p1 ≤ p0)) && (decide (p0 ≤ p2))))]) [] (res_tmp rfl res_nil) (fun W hW => ⟨rfl, hW.low leB⟩)

theorem F_plot_IsName_ok (N : Nat) {w : Bs} (p0 : ByteArray) (r : Bool) (H : F_plot_IsName N p0 = some r) (hE : HF w w.W E0) : Calls Try.prog 70 [(.string p0)].toArray w.W fun e W' => e = .returned (.bool r) ∧ HF w W' E0 := by
 unfold F_plot_IsName at H
 have leB := Bs.Le.refl w
 refine Tr.enter (n := 59) Try.func70 rfl rfl rfl hE ?_
 refine Tr.sr ?_
 refine Tr.asg rfl rfl ?_
 refine Tr.nil (Tr.normThen ?_)
 refine Tr.seq ?_
 refine Tr.sr ?_
 refine Tr.mv rfl rfl ?_
 refine Tr.va rfl (fun _ _ h1 h2 => run_lenS un_9 (h1.ev rfl)) ?_
 refine Tr.mv rfl rfl ?_
 refine Tr.nil (Tr.normThen ?_)
 refine Tr.block ?_
 refine Tr.loop (σ := Int) (fun m w s => F_plot_IsName_L1 p0 m s = some r) (fun s => [(0, (.string p0)), (7, (.int .i64 (p0.size : Int))), (8, (.int .i64 s))]) (fun s => []) N 0 H (.cons rfl (.cons rfl (.cons rfl .nil))) .nil (fun _ _ h => noSome (h)) ?_
 intro w leF_plot_IsName_L1 mF_plot_IsName_L1 x105 hs
 have H := hs
 replace H : F_plot_IsName_L1 p0 (mF_plot_IsName_L1 + 1) x105 = some r := H
 replace leB := leB.trans leF_plot_IsName_L1
 rw [F_plot_IsName_L1.eq_2] at H
 show Tr _ _ (LF [(0, (.string p0)), (7, (.int .i64 (p0.size : Int))), (8, (.int .i64 x105))]) (LE []) _
 refine Tr.sr ?_
 refine Tr.va rfl (fun _ _ h1 h2 => run_lss (h1.ev rfl) (h1.ev rfl)) ?_
 refine Tr.nil (Tr.normThen ?_)
 refine Tr.seq ?_
 refine Tr.cond rfl H (fun H => ?_) (fun H => ?_)
 ·refine Tr.skip (Tr.normThen ?_)
  refine Tr.seq ?_
  refine Tr.block ?_
  refine Tr.sr ?_
  refine Tr.mv rfl rfl ?_
  refine Tr.asg rfl rfl ?_
  refine Tr.nil (Tr.normThen ?_)
  refine Tr.sr ?_
  refine Tr.mv rfl rfl ?_
  refine Tr.mv rfl rfl ?_
  obtain ⟨c106, hc106, H⟩ := bnd H
  refine Tr.va rfl (fun _ _ h1 h2 => run_indexS un_9 (h1.ev rfl) (h1.ev rfl) hc106) ?_
  refine Tr.asg rfl rfl ?_
  refine Tr.nil (Tr.normThen ?_)
  refine Tr.sr ?_
  refine Tr.mv rfl rfl ?_
  refine Tr.va rfl (fun _ _ h1 h2 => run_geq (h1.ev rfl) (h1.ev rfl)) ?_
  refine Tr.mv rfl rfl ?_
  refine Tr.mid0 3 [(0, (.string p0)), (3, (.int .i64 x105)), (4, (.int .u8 c106)), (7, (.int .i64 (p0.size : Int))), (8, (.int .i64 x105)), (19, (.bool ((decide (97 ≤ c106)) && (decide (c106 ≤ 122)))))] [] ?_ ?_
  ·cases hg106 : (decide (97 ≤ c106))
   ·refine Tr.pass rfl rfl rfl rfl rfl (by decide) ?_
    refine Tr.pass rfl rfl rfl rfl rfl (by decide) ?_
    refine Tr.va rfl (fun _ _ h1 h2 => run_pickF (h1.ev rfl) (h1.ev rfl)) ?_
    exact Tr.nil (Tr.fin0 (.cons rfl (.cons rfl (.cons rfl (.cons rfl (.cons rfl (.cons rfl .nil)))))) .nil)
   ·refine Tr.val (wg rfl rfl rfl) rfl (fun _ _ h1 h2 => run_move (h1.ev rfl)) ?_
    refine Tr.val (wg rfl rfl rfl) rfl (fun _ _ h1 h2 => run_leq (h1.ev rfl) (h1.ev rfl)) ?_
    refine Tr.va rfl (fun _ _ h1 h2 => run_pickT (h1.ev rfl) (h1.ev rfl)) ?_
    exact Tr.nil (Tr.fin0 (.cons rfl (.cons rfl (.cons rfl (.cons rfl (.cons rfl (.cons rfl .nil)))))) .nil)
  ·show Tr _ _ (LF [(0, (.string p0)), (3, (.int .i64 x105)), (4, (.int .u8 c106)), (7, (.int .i64 (p0.size : Int))), (8, (.int .i64 x105)), (19, (.bool ((decide (97 ≤ c106)) && (decide (c106 ≤ 122)))))]) (LE []) _
   refine Tr.mv rfl rfl ?_
   refine Tr.mid0 7 [(0, (.string p0)), (3, (.int .i64 x105)), (4, (.int .u8 c106)), (7, (.int .i64 (p0.size : Int))), (8, (.int .i64 x105)), (27, (.bool (((decide (97 ≤ c106)) && (decide (c106 ≤ 122))) || ((decide (65 ≤ c106)) && (decide (c106 ≤ 90))))))] [] ?_ ?_
   ·cases hg106 : ((decide (97 ≤ c106)) && (decide (c106 ≤ 122)))
    ·refine Tr.val (wg rfl rfl rfl) rfl (fun _ _ h1 h2 => run_move (h1.ev rfl)) ?_
     refine Tr.val (wg rfl rfl rfl) rfl (fun _ _ h1 h2 => run_geq (h1.ev rfl) (h1.ev rfl)) ?_
     refine Tr.val (wg rfl rfl rfl) rfl (fun _ _ h1 h2 => run_move (h1.ev rfl)) ?_
     refine Tr.mid0 3 [(0, (.string p0)), (3, (.int .i64 x105)), (4, (.int .u8 c106)), (7, (.int .i64 (p0.size : Int))), (8, (.int .i64 x105)), (20, (.bool false)), (26, (.bool ((decide (65 ≤ c106)) && (decide (c106 ≤ 90)))))] [] ?_ ?_
     ·cases hg106 : (decide (65 ≤ c106))
      ·refine Tr.pass rfl rfl rfl rfl rfl (by decide) ?_
       refine Tr.pass rfl rfl rfl rfl rfl (by decide) ?_
       refine Tr.val (wg rfl rfl rfl) rfl (fun _ _ h1 h2 => run_pickF (h1.ev rfl) (h1.ev rfl)) ?_
       exact Tr.nil (Tr.fin0 (.cons rfl (.cons rfl (.cons rfl (.cons rfl (.cons rfl (.cons rfl (.cons rfl .nil))))))) .nil)
      ·refine Tr.val (wg rfl rfl rfl) rfl (fun _ _ h1 h2 => run_move (h1.ev rfl)) ?_
       refine Tr.val (wg rfl rfl rfl) rfl (fun _ _ h1 h2 => run_leq (h1.ev rfl) (h1.ev rfl)) ?_
       refine Tr.val (wg rfl rfl rfl) rfl (fun _ _ h1 h2 => run_pickT (h1.ev rfl) (h1.ev rfl)) ?_
       exact Tr.nil (Tr.fin0 (.cons rfl (.cons rfl (.cons rfl (.cons rfl (.cons rfl (.cons rfl (.cons rfl .nil))))))) .nil)
     ·show Tr _ _ (LF [(0, (.string p0)), (3, (.int .i64 x105)), (4, (.int .u8 c106)), (7, (.int .i64 (p0.size : Int))), (8, (.int .i64 x105)), (20, (.bool false)), (26, (.bool ((decide (65 ≤ c106)) && (decide (c106 ≤ 90)))))]) (LE []) _
      refine Tr.va rfl (fun _ _ h1 h2 => run_pickF (h1.ev rfl) (h1.ev rfl)) ?_
      exact Tr.nil (Tr.fin0 (.cons rfl (.cons rfl (.cons rfl (.cons rfl (.cons rfl (.cons rfl .nil)))))) .nil)
    ·refine Tr.pass rfl rfl rfl rfl rfl (by decide) ?_
     refine Tr.pass rfl rfl rfl rfl rfl (by decide) ?_
     refine Tr.pass rfl rfl rfl rfl rfl (by decide) ?_
     refine Tr.passU rfl rfl rfl rfl (by decide) ?_
     refine Tr.passU rfl rfl rfl rfl (by decide) ?_
     refine Tr.pass rfl rfl rfl rfl rfl (by decide) ?_
     refine Tr.va rfl (fun _ _ h1 h2 => run_pickT (h1.ev rfl) (h1.ev rfl)) ?_
     exact Tr.nil (Tr.fin0 (.cons rfl (.cons rfl (.cons rfl (.cons rfl (.cons rfl (.cons rfl .nil)))))) .nil)
   ·show Tr _ _ (LF [(0, (.string p0)), (3, (.int .i64 x105)), (4, (.int .u8 c106)), (7, (.int .i64 (p0.size : Int))), (8, (.int .i64 x105)), (27, (.bool (((decide (97 ≤ c106)) && (decide (c106 ≤ 122))) || ((decide (65 ≤ c106)) && (decide (c106 ≤ 90))))))]) (LE []) _
    refine Tr.asg rfl rfl ?_
    refine Tr.nil (Tr.normThen ?_)
    refine Tr.sr ?_
    refine Tr.mv rfl rfl ?_
    refine Tr.va rfl (fun _ _ h1 h2 => run_not (h1.ev rfl)) ?_
    refine Tr.mv rfl rfl ?_
    refine Tr.mid0 19 [(0, (.string p0)), (7, (.int .i64 (p0.size : Int))), (8, (.int .i64 x105)), (49, (.bool ((!(((decide (97 ≤ c106)) && (decide (c106 ≤ 122))) || ((decide (65 ≤ c106)) && (decide (c106 ≤ 90))))) && ((x105 == 0) || ((((decide (c106 < 48)) || (decide (57 < c106))) && (c106 != 95)) && (c106 != 45))))))] [] ?_ ?_
    ·cases hg106 : (!(((decide (97 ≤ c106)) && (decide (c106 ≤ 122))) || ((decide (65 ≤ c106)) && (decide (c106 ≤ 90)))))
     ·refine Tr.pass rfl rfl rfl rfl rfl (by decide) ?_
      refine Tr.pass rfl rfl rfl rfl rfl (by decide) ?_
      refine Tr.pass rfl rfl rfl rfl rfl (by decide) ?_
      refine Tr.passU rfl rfl rfl rfl (by decide) ?_
      refine Tr.passU rfl rfl rfl rfl (by decide) ?_
      refine Tr.passU rfl rfl rfl rfl (by decide) ?_
      refine Tr.passU rfl rfl rfl rfl (by decide) ?_
      refine Tr.passU rfl rfl rfl rfl (by decide) ?_
      refine Tr.passU rfl rfl rfl rfl (by decide) ?_
      refine Tr.passU rfl rfl rfl rfl (by decide) ?_
      refine Tr.passU rfl rfl rfl rfl (by decide) ?_
      refine Tr.passU rfl rfl rfl rfl (by decide) ?_
      refine Tr.passU rfl rfl rfl rfl (by decide) ?_
      refine Tr.passU rfl rfl rfl rfl (by decide) ?_
      refine Tr.passU rfl rfl rfl rfl (by decide) ?_
      refine Tr.passU rfl rfl rfl rfl (by decide) ?_
      refine Tr.passU rfl rfl rfl rfl (by decide) ?_
      refine Tr.pass rfl rfl rfl rfl rfl (by decide) ?_
      refine Tr.va rfl (fun _ _ h1 h2 => run_pickF (h1.ev rfl) (h1.ev rfl)) ?_
      exact Tr.nil (Tr.fin0 (.cons rfl (.cons rfl (.cons rfl (.cons rfl .nil)))) .nil)
     ·refine Tr.val (wg rfl rfl rfl) rfl (fun _ _ h1 h2 => run_move (h1.ev rfl)) ?_
      refine Tr.val (wg rfl rfl rfl) rfl (fun _ _ h1 h2 => run_eql (h1.ev rfl) (h1.ev rfl)) ?_
      refine Tr.val (wg rfl rfl rfl) rfl (fun _ _ h1 h2 => run_move (h1.ev rfl)) ?_
      refine Tr.mid0 15 [(0, (.string p0)), (7, (.int .i64 (p0.size : Int))), (8, (.int .i64 x105)), (30, (.bool true)), (48, (.bool ((x105 == 0) || ((((decide (c106 < 48)) || (decide (57 < c106))) && (c106 != 95)) && (c106 != 45)))))] [] ?_ ?_
      ·cases hg106 : (x105 == 0)
       ·refine Tr.val (wg rfl rfl rfl) rfl (fun _ _ h1 h2 => run_move (h1.ev rfl)) ?_
        refine Tr.val (wg rfl rfl rfl) rfl (fun _ _ h1 h2 => run_lss (h1.ev rfl) (h1.ev rfl)) ?_
        refine Tr.val (wg rfl rfl rfl) rfl (fun _ _ h1 h2 => run_move (h1.ev rfl)) ?_
        refine Tr.mid0 3 [(0, (.string p0)), (4, (.int .u8 c106)), (7, (.int .i64 (p0.size : Int))), (8, (.int .i64 x105)), (30, (.bool true)), (33, (.bool false)), (39, (.bool ((decide (c106 < 48)) || (decide (57 < c106)))))] [] ?_ ?_
        ·cases hg106 : (decide (c106 < 48))
         ·refine Tr.val (wg rfl rfl rfl) rfl (fun _ _ h1 h2 => run_move (h1.ev rfl)) ?_
          refine Tr.val (wg rfl rfl rfl) rfl (fun _ _ h1 h2 => run_gtr (h1.ev rfl) (h1.ev rfl)) ?_
          refine Tr.val (wg rfl rfl rfl) rfl (fun _ _ h1 h2 => run_pickF (h1.ev rfl) (h1.ev rfl)) ?_
          exact Tr.nil (Tr.fin0 (.cons rfl (.cons rfl (.cons rfl (.cons rfl (.cons rfl (.cons rfl (.cons rfl .nil))))))) .nil)
         ·refine Tr.pass rfl rfl rfl rfl rfl (by decide) ?_
          refine Tr.pass rfl rfl rfl rfl rfl (by decide) ?_
          refine Tr.val (wg rfl rfl rfl) rfl (fun _ _ h1 h2 => run_pickT (h1.ev rfl) (h1.ev rfl)) ?_
          exact Tr.nil (Tr.fin0 (.cons rfl (.cons rfl (.cons rfl (.cons rfl (.cons rfl (.cons rfl (.cons rfl .nil))))))) .nil)
        ·show Tr _ _ (LF [(0, (.string p0)), (4, (.int .u8 c106)), (7, (.int .i64 (p0.size : Int))), (8, (.int .i64 x105)), (30, (.bool true)), (33, (.bool false)), (39, (.bool ((decide (c106 < 48)) || (decide (57 < c106)))))]) (LE []) _
         refine Tr.val (wg rfl rfl rfl) rfl (fun _ _ h1 h2 => run_move (h1.ev rfl)) ?_
         refine Tr.mid0 3 [(0, (.string p0)), (4, (.int .u8 c106)), (7, (.int .i64 (p0.size : Int))), (8, (.int .i64 x105)), (30, (.bool true)), (33, (.bool false)), (43, (.bool (((decide (c106 < 48)) || (decide (57 < c106))) && (c106 != 95))))] [] ?_ ?_
         ·cases hg106 : ((decide (c106 < 48)) || (decide (57 < c106)))
          ·refine Tr.pass rfl rfl rfl rfl rfl (by decide) ?_
           refine Tr.pass rfl rfl rfl rfl rfl (by decide) ?_
           refine Tr.val (wg rfl rfl rfl) rfl (fun _ _ h1 h2 => run_pickF (h1.ev rfl) (h1.ev rfl)) ?_
           exact Tr.nil (Tr.fin0 (.cons rfl (.cons rfl (.cons rfl (.cons rfl (.cons rfl (.cons rfl (.cons rfl .nil))))))) .nil)
          ·refine Tr.val (wg rfl rfl rfl) rfl (fun _ _ h1 h2 => run_move (h1.ev rfl)) ?_
           refine Tr.val (wg rfl rfl rfl) rfl (fun _ _ h1 h2 => run_neq (h1.ev rfl) (h1.ev rfl)) ?_
           refine Tr.val (wg rfl rfl rfl) rfl (fun _ _ h1 h2 => run_pickT (h1.ev rfl) (h1.ev rfl)) ?_
           exact Tr.nil (Tr.fin0 (.cons rfl (.cons rfl (.cons rfl (.cons rfl (.cons rfl (.cons rfl (.cons rfl .nil))))))) .nil)
         ·show Tr _ _ (LF [(0, (.string p0)), (4, (.int .u8 c106)), (7, (.int .i64 (p0.size : Int))), (8, (.int .i64 x105)), (30, (.bool true)), (33, (.bool false)), (43, (.bool (((decide (c106 < 48)) || (decide (57 < c106))) && (c106 != 95))))]) (LE []) _
          refine Tr.val (wg rfl rfl rfl) rfl (fun _ _ h1 h2 => run_move (h1.ev rfl)) ?_
          refine Tr.mid0 3 [(0, (.string p0)), (7, (.int .i64 (p0.size : Int))), (8, (.int .i64 x105)), (30, (.bool true)), (33, (.bool false)), (47, (.bool ((((decide (c106 < 48)) || (decide (57 < c106))) && (c106 != 95)) && (c106 != 45))))] [] ?_ ?_
          ·cases hg106 : (((decide (c106 < 48)) || (decide (57 < c106))) && (c106 != 95))
           ·refine Tr.pass rfl rfl rfl rfl rfl (by decide) ?_
            refine Tr.pass rfl rfl rfl rfl rfl (by decide) ?_
            refine Tr.val (wg rfl rfl rfl) rfl (fun _ _ h1 h2 => run_pickF (h1.ev rfl) (h1.ev rfl)) ?_
            exact Tr.nil (Tr.fin0 (.cons rfl (.cons rfl (.cons rfl (.cons rfl (.cons rfl (.cons rfl .nil)))))) .nil)
           ·refine Tr.val (wg rfl rfl rfl) rfl (fun _ _ h1 h2 => run_move (h1.ev rfl)) ?_
            refine Tr.val (wg rfl rfl rfl) rfl (fun _ _ h1 h2 => run_neq (h1.ev rfl) (h1.ev rfl)) ?_
            refine Tr.val (wg rfl rfl rfl) rfl (fun _ _ h1 h2 => run_pickT (h1.ev rfl) (h1.ev rfl)) ?_
            exact Tr.nil (Tr.fin0 (.cons rfl (.cons rfl (.cons rfl (.cons rfl (.cons rfl (.cons rfl .nil)))))) .nil)
          ·show Tr _ _ (LF [(0, (.string p0)), (7, (.int .i64 (p0.size : Int))), (8, (.int .i64 x105)), (30, (.bool true)), (33, (.bool false)), (47, (.bool ((((decide (c106 < 48)) || (decide (57 < c106))) && (c106 != 95)) && (c106 != 45))))]) (LE []) _
           refine Tr.val (wg rfl rfl rfl) rfl (fun _ _ h1 h2 => run_pickF (h1.ev rfl) (h1.ev rfl)) ?_
           exact Tr.nil (Tr.fin0 (.cons rfl (.cons rfl (.cons rfl (.cons rfl (.cons rfl .nil))))) .nil)
       ·refine Tr.pass rfl rfl rfl rfl rfl (by decide) ?_
        refine Tr.pass rfl rfl rfl rfl rfl (by decide) ?_
        refine Tr.pass rfl rfl rfl rfl rfl (by decide) ?_
        refine Tr.passU rfl rfl rfl rfl (by decide) ?_
        refine Tr.passU rfl rfl rfl rfl (by decide) ?_
        refine Tr.pass rfl rfl rfl rfl rfl (by decide) ?_
        refine Tr.pass rfl rfl rfl rfl rfl (by decide) ?_
        refine Tr.passU rfl rfl rfl rfl (by decide) ?_
        refine Tr.passU rfl rfl rfl rfl (by decide) ?_
        refine Tr.pass rfl rfl rfl rfl rfl (by decide) ?_
        refine Tr.pass rfl rfl rfl rfl rfl (by decide) ?_
        refine Tr.passU rfl rfl rfl rfl (by decide) ?_
        refine Tr.passU rfl rfl rfl rfl (by decide) ?_
        refine Tr.pass rfl rfl rfl rfl rfl (by decide) ?_
        refine Tr.val (wg rfl rfl rfl) rfl (fun _ _ h1 h2 => run_pickT (h1.ev rfl) (h1.ev rfl)) ?_
        exact Tr.nil (Tr.fin0 (.cons rfl (.cons rfl (.cons rfl (.cons rfl (.cons rfl .nil))))) .nil)
      ·show Tr _ _ (LF [(0, (.string p0)), (7, (.int .i64 (p0.size : Int))), (8, (.int .i64 x105)), (30, (.bool true)), (48, (.bool ((x105 == 0) || ((((decide (c106 < 48)) || (decide (57 < c106))) && (c106 != 95)) && (c106 != 45)))))]) (LE []) _
       refine Tr.va rfl (fun _ _ h1 h2 => run_pickT (h1.ev rfl) (h1.ev rfl)) ?_
       exact Tr.nil (Tr.fin0 (.cons rfl (.cons rfl (.cons rfl (.cons rfl .nil)))) .nil)
    ·show Tr _ _ (LF [(0, (.string p0)), (7, (.int .i64 (p0.size : Int))), (8, (.int .i64 x105)), (49, (.bool ((!(((decide (97 ≤ c106)) && (decide (c106 ≤ 122))) || ((decide (65 ≤ c106)) && (decide (c106 ≤ 90))))) && ((x105 == 0) || ((((decide (c106 < 48)) || (decide (57 < c106))) && (c106 != 95)) && (c106 != 45))))))]) (LE []) _
     refine Tr.nil (Tr.normThen ?_)
     refine Tr.cond rfl H (fun H => ?_) (fun H => ?_)
     ·refine Tr.sr ?_
      refine Tr.asg rfl rfl ?_
      refine Tr.nil (Tr.normThen ?_)
      refine Tr.ret (Tr.retBlock (Tr.retThen (Tr.retThen (Tr.retBlock (Tr.retThen ?_)))))
      obtain rfl := Option.some.inj H
      exact Tr.out (m := [(.bool false)]) [] (res_tmp rfl res_nil) (fun W hW => ⟨rfl, hW.low leB⟩)
     ·refine Tr.skip (Tr.normBlock (Tr.normThen ?_))
      refine Tr.region ?_
      refine Tr.va rfl (fun _ _ h1 h2 => run_add (h1.ev rfl) (h1.ev rfl)) ?_
      refine Tr.mv rfl rfl ?_
      refine Tr.nil ?_
      exact Tr.backThen leF_plot_IsName_L1 (w64 (x105 + 1)) H (.cons rfl (.cons rfl (.cons rfl .nil))) .nil
 ·refine Tr.exit (Tr.exitThen (Tr.exitThen (Tr.exitBlock (Tr.normThen ?_))))
  refine Tr.sr ?_
  refine Tr.mv rfl rfl ?_
  refine Tr.va rfl (fun _ _ h1 h2 => run_lenS un_9 (h1.ev rfl)) ?_
  refine Tr.va rfl (fun _ _ h1 h2 => run_geq (h1.ev rfl) (h1.ev rfl)) ?_
  refine Tr.mv rfl rfl ?_
  refine Tr.mid0 4 [(58, (.bool ((decide (1 ≤ (p0.size : Int))) && (decide ((p0.size : Int) ≤ 40)))))] [] ?_ ?_
  ·cases hg106 : (decide (1 ≤ (p0.size : Int)))
   ·refine Tr.pass rfl rfl rfl rfl rfl (by decide) ?_
    refine Tr.pass rfl rfl rfl rfl rfl (by decide) ?_
    refine Tr.pass rfl rfl rfl rfl rfl (by decide) ?_
    refine Tr.va rfl (fun _ _ h1 h2 => run_pickF (h1.ev rfl) (h1.ev rfl)) ?_
    exact Tr.nil (Tr.fin0 (.cons rfl .nil) .nil)
   ·refine Tr.val (wg rfl rfl rfl) rfl (fun _ _ h1 h2 => run_move (h1.ev rfl)) ?_
    refine Tr.val (wg rfl rfl rfl) rfl (fun _ _ h1 h2 => run_lenS un_9 (h1.ev rfl)) ?_
    refine Tr.val (wg rfl rfl rfl) rfl (fun _ _ h1 h2 => run_leq (h1.ev rfl) (h1.ev rfl)) ?_
    refine Tr.va rfl (fun _ _ h1 h2 => run_pickT (h1.ev rfl) (h1.ev rfl)) ?_
    exact Tr.nil (Tr.fin0 (.cons rfl .nil) .nil)
  ·show Tr _ _ (LF [(58, (.bool ((decide (1 ≤ (p0.size : Int))) && (decide ((p0.size : Int) ≤ 40)))))]) (LE []) _
   refine Tr.asg rfl rfl ?_
   refine Tr.nil (Tr.normThen ?_)
   refine Tr.ret ?_
   obtain rfl := Option.some.inj H
   exact Tr.out (m := [(.bool ((decide (1 ≤ (p0.size : Int))) && (decide ((p0.size : Int) ≤ 40))))]) [] (res_tmp rfl res_nil) (fun W hW => ⟨rfl, hW.low leB⟩)

theorem F_panel_checkKinds_ok (N : Nat) {w : Bs} (p0 : (List TBoardKind)) (Ap0_0 : Option Addr) (cp0_0 : Nat) (hp0_0 : Sl w.R w.W fl_TBoardKind Ap0_0 cp0_0 p0) (r : Int) (H : F_panel_checkKinds N p0 = some r) (hE : HF w w.W E0) : Calls Try.prog 51 [(.slice Ap0_0 (p0).length cp0_0)].toArray w.W fun e W' => e = .returned (.int .i64 r) ∧ HF w W' E0 := by
 unfold F_panel_checkKinds at H
 have leB := Bs.Le.refl w
 refine Tr.enter (n := 46) Try.func51 rfl rfl rfl hE ?_
 refine Tr.sr ?_
 refine Tr.asg rfl rfl ?_
 refine Tr.nil (Tr.normThen ?_)
 refine Tr.seq ?_
 refine Tr.sr ?_
 refine Tr.mv rfl rfl ?_
 refine Tr.va rfl (fun _ _ h1 h2 => run_len un_22 (h1.ev rfl)) ?_
 refine Tr.va rfl (fun _ _ h1 h2 => run_gtr (h1.ev rfl) (h1.ev rfl)) ?_
 refine Tr.nil (Tr.normThen ?_)
 refine Tr.cond rfl H (fun H => ?_) (fun H => ?_)
 ·refine Tr.sr ?_
  refine Tr.asg rfl rfl ?_
  refine Tr.nil (Tr.normThen ?_)
  refine Tr.ret (Tr.retThen ?_)
  obtain rfl := Option.some.inj H
  exact Tr.out (m := [(.int .i64 2)]) [] (res_tmp rfl res_nil) (fun W hW => ⟨rfl, hW.low leB⟩)
 ·refine Tr.skip (Tr.normThen ?_)
  refine Tr.seq ?_
  refine Tr.sr ?_
  refine Tr.mv rfl rfl ?_
  refine Tr.va rfl (fun _ _ h1 h2 => run_len un_22 (h1.ev rfl)) ?_
  refine Tr.mv rfl rfl ?_
  refine Tr.nil (Tr.normThen ?_)
  refine Tr.block ?_
  refine Tr.loop (σ := (List TBoardKind) × Nat) (fun m w s => m = s.1.length + 1 ∧ s.1 = List.drop s.2 p0 ∧ s.2 ≤ p0.length ∧ F_panel_checkKinds_L1 N p0 s.1 s.2 = some r) (fun s => [(0, (.slice Ap0_0 (p0).length cp0_0)), (8, (.slice Ap0_0 (p0).length cp0_0)), (9, (.int .i64 (p0.length : Int))), (10, (.int .i64 (s.2 : Int)))]) (fun s => []) (p0.length + 1) (p0, 0) ⟨rfl, rfl, Nat.zero_le _, H⟩ (.cons rfl (.cons rfl (.cons rfl (.cons rfl .nil)))) .nil (fun _ _ h => absurd h.1 (by simp)) ?_
  intro w leF_panel_checkKinds_L1 m s hs
  obtain ⟨restF_panel_checkKinds_L1, iF_panel_checkKinds_L1⟩ := s
  obtain ⟨hmF_panel_checkKinds_L1, hdF_panel_checkKinds_L1, hiF_panel_checkKinds_L1, H⟩ := hs
  replace hdF_panel_checkKinds_L1 : restF_panel_checkKinds_L1 = List.drop iF_panel_checkKinds_L1 p0 := hdF_panel_checkKinds_L1
  replace H : F_panel_checkKinds_L1 N p0 restF_panel_checkKinds_L1 iF_panel_checkKinds_L1 = some r := H
  replace hmF_panel_checkKinds_L1 : m + 1 = restF_panel_checkKinds_L1.length + 1 := hmF_panel_checkKinds_L1
  replace hp0_0 := hp0_0.leR leF_panel_checkKinds_L1
  replace leB := leB.trans leF_panel_checkKinds_L1
  obtain rfl : m = restF_panel_checkKinds_L1.length := by omega
  clear hmF_panel_checkKinds_L1
  show Tr _ _ (LF [(0, (.slice Ap0_0 (p0).length cp0_0)), (8, (.slice Ap0_0 (p0).length cp0_0)), (9, (.int .i64 (p0.length : Int))), (10, (.int .i64 (iF_panel_checkKinds_L1 : Int)))]) (LE []) _
  cases restF_panel_checkKinds_L1 with
  | nil =>
   rw [F_panel_checkKinds_L1.eq_1] at H
   refine Tr.sr ?_
   refine Tr.va rfl (fun _ _ h1 h2 => run_lss (h1.ev rfl) (h1.ev rfl)) ?_
   refine Tr.nil (Tr.normThen ?_)
   refine Tr.seq ?_
   refine Tr.condF rfl (range_nil hdF_panel_checkKinds_L1) ?_
   refine Tr.exit (Tr.exitThen (Tr.exitThen (Tr.exitBlock (Tr.normThen ?_))))
   refine Tr.sr ?_
   refine Tr.asg rfl rfl ?_
   refine Tr.nil (Tr.normThen ?_)
   refine Tr.ret ?_
   obtain rfl := Option.some.inj H
   exact Tr.out (m := [(.int .i64 0)]) [] (res_tmp rfl res_nil) (fun W hW => ⟨rfl, hW.low leB⟩)
  | cons xF_panel_checkKinds_L1 restF_panel_checkKinds_L1 =>
   rw [F_panel_checkKinds_L1.eq_2] at H
   refine Tr.sr ?_
   refine Tr.va rfl (fun _ _ h1 h2 => run_lss (h1.ev rfl) (h1.ev rfl)) ?_
   refine Tr.nil (Tr.normThen ?_)
   refine Tr.seq ?_
   refine Tr.condT rfl (range_on hdF_panel_checkKinds_L1) ?_
   refine Tr.skip (Tr.normThen ?_)
   refine Tr.seq ?_
   refine Tr.block ?_
   refine Tr.sr ?_
   refine Tr.mv rfl rfl ?_
   refine Tr.va rfl (fun _ _ h1 h2 => run_indexAddr el_22 (h1.ev rfl) hp0_0.form (h1.ev rfl) (Int.natCast_nonneg _) (range_lt hdF_panel_checkKinds_L1)) ?_
   refine Tr.va rfl (fun _ _ h1 h2 => run_loadN (cs := [(.string xF_panel_checkKinds_L1.Name), (.int .i64 xF_panel_checkKinds_L1.W), (.int .i64 xF_panel_checkKinds_L1.H)]) ag_74 sz_74 (h1.ev rfl) (CellsAt.take (rdF ef_TBoardKind hp0_0 (range_at hdF_panel_checkKinds_L1) h2) 3) rfl) ?_
   refine Tr.alloc 2 (wn rfl) rfl ze_74 fun b111 => ?_
   refine Tr.asg rfl rfl ?_
   refine Tr.store 2 (cs := [(.string xF_panel_checkKinds_L1.Name), (.int .i64 xF_panel_checkKinds_L1.W), (.int .i64 xF_panel_checkKinds_L1.H)]) [(.string xF_panel_checkKinds_L1.Name), (.int .i64 xF_panel_checkKinds_L1.W), (.int .i64 xF_panel_checkKinds_L1.H)] (wn rfl) rfl rfl rfl rfl sz_74 rfl rfl rfl ?_
   refine Tr.nil (Tr.normThen ?_)
   refine Tr.block ?_
   refine Tr.sr ?_
   refine Tr.va rfl (fun _ _ h1 h2 => run_fieldAddr fo_74_0 (h1.ev rfl)) ?_
   refine Tr.va rfl (fun _ _ h1 h2 => run_load1 ag_9 (h1.ev rfl) (rdb h2 (vs := [(.string xF_panel_checkKinds_L1.Name), (.int .i64 xF_panel_checkKinds_L1.W), (.int .i64 xF_panel_checkKinds_L1.H)]) (k := 2) rfl 0) rfl) ?_
   obtain ⟨y112, hy112, H⟩ := bnd H
   refine Tr.call0 (r := (.bool y112)) (wn rfl) rfl Try.call70 (evl_cons rfl evl_nil) (fun W hW => F_plot_IsName_ok N xF_panel_checkKinds_L1.Name y112 hy112 (HF.start _)) ?_
   refine Tr.va rfl (fun _ _ h1 h2 => run_not (h1.ev rfl)) ?_
   refine Tr.asg rfl rfl ?_
   refine Tr.nil (Tr.normThen ?_)
   refine Tr.cond rfl H (fun H => ?_) (fun H => ?_)
   ·refine Tr.sr ?_
    refine Tr.asg rfl rfl ?_
    refine Tr.nil (Tr.normThen ?_)
    refine Tr.ret (Tr.retBlock (Tr.retBlock (Tr.retThen (Tr.retThen (Tr.retBlock (Tr.retThen ?_))))))
    obtain rfl := Option.some.inj H
    exact Tr.out (m := [(.int .i64 5)]) [] (res_tmp rfl res_nil) (fun W hW => ⟨rfl, hW.low leB⟩)
   ·refine Tr.sr ?_
    refine Tr.va rfl (fun _ _ h1 h2 => run_fieldAddr fo_74_1 (h1.ev rfl)) ?_
    refine Tr.va rfl (fun _ _ h1 h2 => run_load1 ag_3 (h1.ev rfl) (rdb h2 (vs := [(.string xF_panel_checkKinds_L1.Name), (.int .i64 xF_panel_checkKinds_L1.W), (.int .i64 xF_panel_checkKinds_L1.H)]) (k := 2) rfl 1) rfl) ?_
    obtain ⟨y113, hy113, H⟩ := bnd H
    refine Tr.call0 (r := (.bool y113)) (wn rfl) rfl Try.call50 (evl_cons rfl (evl_cons rfl (evl_cons rfl evl_nil))) (fun W hW => F_panel_within_ok xF_panel_checkKinds_L1.W 1 1000000 y113 hy113 (HF.start _)) ?_
    refine Tr.va rfl (fun _ _ h1 h2 => run_not (h1.ev rfl)) ?_
    refine Tr.mv rfl rfl ?_
    obtain ⟨g115, hg115, H⟩ := bnd H
    refine Tr.mid0 5 [(0, (.slice Ap0_0 (p0).length cp0_0)), (3, (.int .i64 (iF_panel_checkKinds_L1 : Int))), (4, (.pointer (some ⟨b111, 0, none⟩))), (8, (.slice Ap0_0 (p0).length cp0_0)), (9, (.int .i64 (p0.length : Int))), (10, (.int .i64 (iF_panel_checkKinds_L1 : Int))), (30, (.bool g115))] [(2, bx b111 #[(.string xF_panel_checkKinds_L1.Name), (.int .i64 xF_panel_checkKinds_L1.W), (.int .i64 xF_panel_checkKinds_L1.H)] 74)] ?_ ?_
    ·cases hg119 : (!y113)
     ·rw [hg119] at hg115
      rw [if_neg (by decide)] at hg115
      have H := hg115
      refine Tr.val (wg rfl rfl rfl) rfl (fun _ _ h1 h2 => run_fieldAddr fo_74_2 (h1.ev rfl)) ?_
      refine Tr.val (wg rfl rfl rfl) rfl (fun _ _ h1 h2 => run_load1 ag_3 (h1.ev rfl) (rdb h2 (vs := [(.string xF_panel_checkKinds_L1.Name), (.int .i64 xF_panel_checkKinds_L1.W), (.int .i64 xF_panel_checkKinds_L1.H)]) (k := 2) rfl 2) rfl) ?_
      obtain ⟨y116, hy116, H⟩ := bnd H
      refine Tr.call0 (r := (.bool y116)) (wg rfl rfl rfl) rfl Try.call50 (evl_cons rfl (evl_cons rfl (evl_cons rfl evl_nil))) (fun W hW => F_panel_within_ok xF_panel_checkKinds_L1.H 1 1000000 y116 hy116 (HF.start _)) ?_
      refine Tr.val (wg rfl rfl rfl) rfl (fun _ _ h1 h2 => run_not (h1.ev rfl)) ?_
      refine Tr.va rfl (fun _ _ h1 h2 => run_pickF (h1.ev rfl) (h1.ev rfl)) ?_
      obtain rfl := Option.some.inj H
      exact Tr.nil (Tr.fin0 (.cons rfl (.cons rfl (.cons rfl (.cons rfl (.cons rfl (.cons rfl (.cons rfl .nil))))))) (.cons rfl .nil))
     ·rw [hg119] at hg115
      rw [if_pos rfl] at hg115
      have H := hg115
      obtain rfl := Option.some.inj H
      refine Tr.pass rfl rfl rfl rfl rfl (by decide) ?_
      refine Tr.pass rfl rfl rfl rfl rfl (by decide) ?_
      refine Tr.pass rfl rfl rfl rfl rfl (by decide) ?_
      refine Tr.pass rfl rfl rfl rfl rfl (by decide) ?_
      refine Tr.va rfl (fun _ _ h1 h2 => run_pickT (h1.ev rfl) (h1.ev rfl)) ?_
      exact Tr.nil (Tr.fin0 (.cons rfl (.cons rfl (.cons rfl (.cons rfl (.cons rfl (.cons rfl (.cons rfl .nil))))))) (.cons rfl .nil))
    ·show Tr _ _ (LF [(0, (.slice Ap0_0 (p0).length cp0_0)), (3, (.int .i64 (iF_panel_checkKinds_L1 : Int))), (4, (.pointer (some ⟨b111, 0, none⟩))), (8, (.slice Ap0_0 (p0).length cp0_0)), (9, (.int .i64 (p0.length : Int))), (10, (.int .i64 (iF_panel_checkKinds_L1 : Int))), (30, (.bool g115))]) (LE [(2, bx b111 #[(.string xF_panel_checkKinds_L1.Name), (.int .i64 xF_panel_checkKinds_L1.W), (.int .i64 xF_panel_checkKinds_L1.H)] 74)]) _
     refine Tr.asg rfl rfl ?_
     refine Tr.nil (Tr.normThen ?_)
     refine Tr.cond rfl H (fun H => ?_) (fun H => ?_)
     ·refine Tr.sr ?_
      refine Tr.asg rfl rfl ?_
      refine Tr.nil (Tr.normThen ?_)
      refine Tr.ret (Tr.retBlock (Tr.retBlock (Tr.retThen (Tr.retThen (Tr.retBlock (Tr.retThen ?_))))))
      obtain rfl := Option.some.inj H
      exact Tr.out (m := [(.int .i64 1)]) [] (res_tmp rfl res_nil) (fun W hW => ⟨rfl, hW.low leB⟩)
     ·refine Tr.seq ?_
      refine Tr.draw (by kernel_rfl) (by kernel_rfl) ?_
      refine Tq.mv rfl rfl ?_
      refine Tq.va rfl (fun _ _ h1 h2 => run_gtr (h1.ev rfl) (h1.ev rfl)) ?_
      refine Tq.mv rfl rfl ?_
      obtain ⟨g118, hg118, H⟩ := bnd H
      refine Tq.mid 10 [(0, (.slice Ap0_0 (p0).length cp0_0)), (8, (.slice Ap0_0 (p0).length cp0_0)), (9, (.int .i64 (p0.length : Int))), (10, (.int .i64 (iF_panel_checkKinds_L1 : Int))), (44, (.bool g118))] ?_ ?_
      ·cases hg119 : (decide (0 < (iF_panel_checkKinds_L1 : Int)))
       ·rw [hg119] at hg118
        rw [if_neg (by decide)] at hg118
        have H := hg118
        obtain rfl := Option.some.inj H
        refine Tq.pass rfl rfl rfl rfl rfl (by decide) ?_
        refine Tq.pass rfl rfl rfl rfl rfl (by decide) ?_
        refine Tq.pass rfl rfl rfl rfl rfl (by decide) ?_
        refine Tq.pass rfl rfl rfl rfl rfl (by decide) ?_
        refine Tq.pass rfl rfl rfl rfl rfl (by decide) ?_
        refine Tq.pass rfl rfl rfl rfl rfl (by decide) ?_
        refine Tq.pass rfl rfl rfl rfl rfl (by decide) ?_
        refine Tq.pass rfl rfl rfl rfl rfl (by decide) ?_
        refine Tq.pass rfl rfl rfl rfl rfl (by decide) ?_
        refine Tq.va rfl (fun _ _ h1 h2 => run_pickF (h1.ev rfl) (h1.ev rfl)) ?_
        exact Tq.fin (.cons rfl (.cons rfl (.cons rfl (.cons rfl (.cons rfl .nil)))))
       ·rw [hg119] at hg118
        rw [if_pos rfl] at hg118
        have H := hg118
        refine Tq.val (wg rfl rfl rfl) rfl (fun _ _ h1 h2 => run_fieldAddr fo_74_0 (h1.ev rfl)) ?_
        refine Tq.val (wg rfl rfl rfl) rfl (fun _ _ h1 h2 => run_load1 ag_9 (h1.ev rfl) (rdb h2 (vs := [(.string xF_panel_checkKinds_L1.Name), (.int .i64 xF_panel_checkKinds_L1.W), (.int .i64 xF_panel_checkKinds_L1.H)]) (k := 2) rfl 0) rfl) ?_
        refine Tq.val (wg rfl rfl rfl) rfl (fun _ _ h1 h2 => run_move (h1.ev rfl)) ?_
        refine Tq.val (wg rfl rfl rfl) rfl (fun _ _ h1 h2 => run_move (h1.ev rfl)) ?_
        refine Tq.val (wg rfl rfl rfl) rfl (fun _ _ h1 h2 => run_sub (h1.ev rfl) (h1.ev rfl)) ?_
        obtain ⟨x119, hx119, H⟩ := bnd H
        obtain ⟨hx1190, hx1191, hx1192⟩ := idx_some hx119
        refine Tq.val (wg rfl rfl rfl) rfl (fun _ _ h1 h2 => run_indexAddr el_22 (h1.ev rfl) hp0_0.form (h1.ev rfl) hx1190 hx1191) ?_
        refine Tq.val (wg rfl rfl rfl) rfl (fun _ _ h1 h2 => run_fieldAddr fo_74_0 (h1.ev rfl)) ?_
        refine Tq.val (wg rfl rfl rfl) rfl (fun _ _ h1 h2 => run_load1 ag_9 (h1.ev rfl) (CellsAt.drop (rdF ef_TBoardKind hp0_0 hx1192 h2) 0) rfl) ?_
        refine Tq.val (wg rfl rfl rfl) rfl (fun _ _ h1 h2 => run_leqS (h1.ev rfl) (h1.ev rfl)) ?_
        refine Tq.va rfl (fun _ _ h1 h2 => run_pickT (h1.ev rfl) (h1.ev rfl)) ?_
        obtain rfl := Option.some.inj H
        exact Tq.fin (.cons rfl (.cons rfl (.cons rfl (.cons rfl (.cons rfl .nil)))))
      ·refine Tq.asg rfl rfl ?_
       refine Tq.nil (Tr.normThen ?_)
       refine Tr.cond rfl H (fun H => ?_) (fun H => ?_)
       ·refine Tr.sr ?_
        refine Tr.asg rfl rfl ?_
        refine Tr.nil (Tr.normThen ?_)
        refine Tr.ret (Tr.retBlock (Tr.retBlock (Tr.retThen (Tr.retThen (Tr.retBlock (Tr.retThen ?_))))))
        obtain rfl := Option.some.inj H
        exact Tr.out (m := [(.int .i64 8)]) [] (res_tmp rfl res_nil) (fun W hW => ⟨rfl, hW.low leB⟩)
       ·refine Tr.skip (Tr.normBlock (Tr.normBlock (Tr.normThen ?_)))
        refine Tr.region ?_
        refine Tr.va rfl (fun _ _ h1 h2 => run_add (h1.ev rfl) (h1.ev rfl)) ?_
        refine Tr.mv rfl rfl ?_
        refine Tr.nil ?_
        exact Tr.backThen leF_panel_checkKinds_L1 (restF_panel_checkKinds_L1, (iF_panel_checkKinds_L1 + 1)) ⟨rfl, range_tl hdF_panel_checkKinds_L1, range_lt hdF_panel_checkKinds_L1, H⟩ (.cons rfl (.cons rfl (.cons rfl (.cons (congrArg (fun z => some (Value.int .i64 z)) (range_up hdF_panel_checkKinds_L1 hp0_0.form)) .nil)))) .nil

theorem F_panel_kindAt_1_ok {w : Bs} (p0 : TBoardKind) (q0 : ByteArray) (bq0 : Nat) (hb0 : w.R bq0) (hc0 : CellsAt w.W bq0 0 [(.string q0)]) (r : Bool) (H : F_panel_kindAt_1 p0 q0 = some r) (hE : HF w w.W E0) : Calls Try.prog 99 [(.agg #[(.string p0.Name), (.int .i64 p0.W), (.int .i64 p0.H)]), (.pointer (some ⟨bq0, 0, none⟩))].toArray w.W fun e W' => e = .returned (.bool r) ∧ HF w W' E0 := by
 unfold F_panel_kindAt_1 at H
 have leB := Bs.Le.refl w
 refine Tr.enter (n := 8) Try.func99 rfl rfl rfl hE ?_
 refine Tr.sr ?_
 refine Tr.box 1 (cs := [(.string p0.Name), (.int .i64 p0.W), (.int .i64 p0.H)]) (wn rfl) rfl rfl rfl fun b100 => ?_
 refine Tr.asg rfl rfl ?_
 refine Tr.nil (Tr.normThen ?_)
 refine Tr.sr ?_
 refine Tr.va rfl (fun _ _ h1 h2 => run_fieldAddr fo_74_0 (h1.ev rfl)) ?_
 refine Tr.va rfl (fun _ _ h1 h2 => run_load1 ag_9 (h1.ev rfl) (rdb h2 (vs := [(.string p0.Name), (.int .i64 p0.W), (.int .i64 p0.H)]) (k := 1) rfl 0) rfl) ?_
 refine Tr.va rfl (fun _ _ h1 h2 => run_load1 ag_9 (h1.ev rfl) (rdR hb0 hc0 h2) rfl) ?_
 refine Tr.va rfl (fun _ _ h1 h2 => run_eqlS (h1.ev rfl) (h1.ev rfl)) ?_
 refine Tr.asg rfl rfl ?_
 refine Tr.nil (Tr.normThen ?_)
 refine Tr.ret ?_
 obtain rfl := Option.some.inj H
 exact Tr.out (m := [(.bool (sEq p0.Name q0))]) [] (res_tmp rfl res_nil) (fun W hW => ⟨rfl, hW.low leB⟩)

theorem F_slices_IndexFunc_BoardKind_ok {w : Bs} (p0 : (List TBoardKind)) (Ap0_0 : Option Addr) (cp0_0 : Nat) (hp0_0 : Sl w.R w.W fl_TBoardKind Ap0_0 cp0_0 p0) (p1 : TBoardKind → Option Bool) (fid1 : Nat) (cap1 : List Value) (hg1 : ∀ args W, (callFunc fid1 args).run Try.prog W = .ok (.enter fid1 args) W) (hf1 : ∀ (w' : Bs), w.Ext w' → ∀ (z0 : TBoardKind), ∀ y, p1 z0 = some y → Calls Try.prog fid1 (([(.agg #[(.string z0.Name), (.int .i64 z0.W), (.int .i64 z0.H)])] : List Value) ++ cap1).toArray w'.W fun e W'' => e = .returned (.bool y) ∧ HF w' W'' E0) (r : Int) (H : F_slices_IndexFunc_BoardKind p0 p1 = some r) (hE : HF w w.W E0) : Calls Try.prog 98 [(.slice Ap0_0 (p0).length cp0_0), (.func (.func fid1) #[] cap1.toArray)].toArray w.W fun e W' => e = .returned (.int .i64 r) ∧ HF w W' E0 := by
 unfold F_slices_IndexFunc_BoardKind at H
 have leB := Bs.Le.refl w
 refine Tr.enter (n := 19) Try.func98 rfl rfl rfl hE ?_
 refine Tr.sr ?_
 refine Tr.asg rfl rfl ?_
 refine Tr.nil (Tr.normThen ?_)
 refine Tr.seq ?_
 refine Tr.sr ?_
 refine Tr.mv rfl rfl ?_
 refine Tr.va rfl (fun _ _ h1 h2 => run_len un_22 (h1.ev rfl)) ?_
 refine Tr.mv rfl rfl ?_
 refine Tr.nil (Tr.normThen ?_)
 refine Tr.block ?_
 refine Tr.loop (σ := (List TBoardKind) × Nat) (fun m w s => m = s.1.length + 1 ∧ s.1 = List.drop s.2 p0 ∧ s.2 ≤ p0.length ∧ F_slices_IndexFunc_BoardKind_L1 p1 s.1 s.2 = some r) (fun s => [(0, (.slice Ap0_0 (p0).length cp0_0)), (1, (.func (.func fid1) #[] cap1.toArray)), (7, (.int .i64 (p0.length : Int))), (8, (.int .i64 (s.2 : Int)))]) (fun s => []) (p0.length + 1) (p0, 0) ⟨rfl, rfl, Nat.zero_le _, H⟩ (.cons rfl (.cons rfl (.cons rfl (.cons rfl .nil)))) .nil (fun _ _ h => absurd h.1 (by simp)) ?_
 intro w leF_slices_IndexFunc_BoardKind_L1 m s hs
 obtain ⟨restF_slices_IndexFunc_BoardKind_L1, iF_slices_IndexFunc_BoardKind_L1⟩ := s
 obtain ⟨hmF_slices_IndexFunc_BoardKind_L1, hdF_slices_IndexFunc_BoardKind_L1, hiF_slices_IndexFunc_BoardKind_L1, H⟩ := hs
 replace hdF_slices_IndexFunc_BoardKind_L1 : restF_slices_IndexFunc_BoardKind_L1 = List.drop iF_slices_IndexFunc_BoardKind_L1 p0 := hdF_slices_IndexFunc_BoardKind_L1
 replace H : F_slices_IndexFunc_BoardKind_L1 p1 restF_slices_IndexFunc_BoardKind_L1 iF_slices_IndexFunc_BoardKind_L1 = some r := H
 replace hmF_slices_IndexFunc_BoardKind_L1 : m + 1 = restF_slices_IndexFunc_BoardKind_L1.length + 1 := hmF_slices_IndexFunc_BoardKind_L1
 replace hp0_0 := hp0_0.leR leF_slices_IndexFunc_BoardKind_L1
 replace hf1 := fun w' he => hf1 w' (leF_slices_IndexFunc_BoardKind_L1.ext.trans he)
 replace leB := leB.trans leF_slices_IndexFunc_BoardKind_L1
 obtain rfl : m = restF_slices_IndexFunc_BoardKind_L1.length := by omega
 clear hmF_slices_IndexFunc_BoardKind_L1
 show Tr _ _ (LF [(0, (.slice Ap0_0 (p0).length cp0_0)), (1, (.func (.func fid1) #[] cap1.toArray)), (7, (.int .i64 (p0.length : Int))), (8, (.int .i64 (iF_slices_IndexFunc_BoardKind_L1 : Int)))]) (LE []) _
 cases restF_slices_IndexFunc_BoardKind_L1 with
 | nil =>
  rw [F_slices_IndexFunc_BoardKind_L1.eq_1] at H
  refine Tr.sr ?_
  refine Tr.va rfl (fun _ _ h1 h2 => run_lss (h1.ev rfl) (h1.ev rfl)) ?_
  refine Tr.nil (Tr.normThen ?_)
  refine Tr.seq ?_
  refine Tr.condF rfl (range_nil hdF_slices_IndexFunc_BoardKind_L1) ?_
  refine Tr.exit (Tr.exitThen (Tr.exitThen (Tr.exitBlock (Tr.normThen ?_))))
  refine Tr.sr ?_
  refine Tr.asg rfl rfl ?_
  refine Tr.nil (Tr.normThen ?_)
  refine Tr.ret ?_
  obtain rfl := Option.some.inj H
  exact Tr.out (m := [(.int .i64 (-1))]) [] (res_tmp rfl res_nil) (fun W hW => ⟨rfl, hW.low leB⟩)
 | cons xF_slices_IndexFunc_BoardKind_L1 restF_slices_IndexFunc_BoardKind_L1 =>
  rw [F_slices_IndexFunc_BoardKind_L1.eq_2] at H
  refine Tr.sr ?_
  refine Tr.va rfl (fun _ _ h1 h2 => run_lss (h1.ev rfl) (h1.ev rfl)) ?_
  refine Tr.nil (Tr.normThen ?_)
  refine Tr.seq ?_
  refine Tr.condT rfl (range_on hdF_slices_IndexFunc_BoardKind_L1) ?_
  refine Tr.skip (Tr.normThen ?_)
  refine Tr.seq ?_
  refine Tr.block ?_
  refine Tr.sr ?_
  refine Tr.mv rfl rfl ?_
  refine Tr.asg rfl rfl ?_
  refine Tr.nil (Tr.normThen ?_)
  refine Tr.sr ?_
  refine Tr.mv rfl rfl ?_
  refine Tr.mv rfl rfl ?_
  refine Tr.mv rfl rfl ?_
  refine Tr.va rfl (fun _ _ h1 h2 => run_indexAddr el_22 (h1.ev rfl) hp0_0.form (h1.ev rfl) (Int.natCast_nonneg _) (range_lt hdF_slices_IndexFunc_BoardKind_L1)) ?_
  refine Tr.va rfl (fun _ _ h1 h2 => run_loadN (cs := [(.string xF_slices_IndexFunc_BoardKind_L1.Name), (.int .i64 xF_slices_IndexFunc_BoardKind_L1.W), (.int .i64 xF_slices_IndexFunc_BoardKind_L1.H)]) ag_74 sz_74 (h1.ev rfl) (CellsAt.take (rdF ef_TBoardKind hp0_0 (range_at hdF_slices_IndexFunc_BoardKind_L1) h2) 3) rfl) ?_
  obtain ⟨y103, hy103, H⟩ := bnd H
  refine Tr.callF (r := (.bool y103)) (wn rfl) rfl rfl hg1 (evl_cons rfl evl_nil) (fun W hW => hf1 hW.all hW.extAll xF_slices_IndexFunc_BoardKind_L1 _ hy103) ?_
  refine Tr.nil (Tr.normThen ?_)
  refine Tr.cond rfl H (fun H => ?_) (fun H => ?_)
  ·refine Tr.sr ?_
   refine Tr.mv rfl rfl ?_
   refine Tr.asg rfl rfl ?_
   refine Tr.nil (Tr.normThen ?_)
   refine Tr.ret (Tr.retBlock (Tr.retThen (Tr.retThen (Tr.retBlock (Tr.retThen ?_)))))
   obtain rfl := Option.some.inj H
   exact Tr.out (m := [(.int .i64 (iF_slices_IndexFunc_BoardKind_L1 : Int))]) [] (res_tmp rfl res_nil) (fun W hW => ⟨rfl, hW.low leB⟩)
  ·refine Tr.skip (Tr.normBlock (Tr.normThen ?_))
   refine Tr.region ?_
   refine Tr.va rfl (fun _ _ h1 h2 => run_add (h1.ev rfl) (h1.ev rfl)) ?_
   refine Tr.mv rfl rfl ?_
   refine Tr.nil ?_
   exact Tr.backThen leF_slices_IndexFunc_BoardKind_L1 (restF_slices_IndexFunc_BoardKind_L1, (iF_slices_IndexFunc_BoardKind_L1 + 1)) ⟨rfl, range_tl hdF_slices_IndexFunc_BoardKind_L1, range_lt hdF_slices_IndexFunc_BoardKind_L1, H⟩ (.cons rfl (.cons rfl (.cons rfl (.cons (congrArg (fun z => some (Value.int .i64 z)) (range_up hdF_slices_IndexFunc_BoardKind_L1 hp0_0.form)) .nil)))) .nil

theorem F_panel_kindAt_ok {w : Bs} (p0 : TPanel) (Ap0_0 : Option Addr) (cp0_0 : Nat) (hp0_0 : Sl w.R w.W fl_TBoardKind Ap0_0 cp0_0 p0.Kinds) (Ap0_1 : Option Addr) (cp0_1 : Nat) (hp0_1 : Sl w.R w.W fl_TSlot Ap0_1 cp0_1 p0.Slots) (Ap0_2 : Option Addr) (cp0_2 : Nat) (hp0_2 : Sl w.R w.W fl_TPoint Ap0_2 cp0_2 p0.Marks) (p1 : ByteArray) (r : Int) (H : F_panel_kindAt p0 p1 = some r) (hE : HF w w.W E0) : Calls Try.prog 71 [(.agg #[(.int .i64 p0.W), (.int .i64 p0.H), (.int .i64 p0.Rail), (.int .i64 p0.Gap), (.slice Ap0_0 (p0.Kinds).length cp0_0), (.slice Ap0_1 (p0.Slots).length cp0_1), (.slice Ap0_2 (p0.Marks).length cp0_2)]), (.string p1)].toArray w.W fun e W' => e = .returned (.int .i64 r) ∧ HF w W' E0 := by
 unfold F_panel_kindAt at H
 have leB := Bs.Le.refl w
 refine Tr.enter (n := 9) Try.func71 rfl rfl rfl hE ?_
 refine Tr.sr ?_
 refine Tr.box 1 (cs := [(.int .i64 p0.W), (.int .i64 p0.H), (.int .i64 p0.Rail), (.int .i64 p0.Gap), (.slice Ap0_0 (p0.Kinds).length cp0_0), (.slice Ap0_1 (p0.Slots).length cp0_1), (.slice Ap0_2 (p0.Marks).length cp0_2)]) (wn rfl) rfl rfl rfl fun b100 => ?_
 refine Tr.box 2 (cs := [(.string p1)]) (wn rfl) rfl rfl rfl fun b101 => ?_
 refine Tr.asg rfl rfl ?_
 refine Tr.nil (Tr.normThen ?_)
 refine Tr.sr ?_
 refine Tr.va rfl (fun _ _ h1 h2 => run_fieldAddr fo_26_4 (h1.ev rfl)) ?_
 refine Tr.va rfl (fun _ _ h1 h2 => run_load1 ag_22 (h1.ev rfl) (rdb h2 (vs := [(.int .i64 p0.W), (.int .i64 p0.H), (.int .i64 p0.Rail), (.int .i64 p0.Gap), (.slice Ap0_0 (p0.Kinds).length cp0_0), (.slice Ap0_1 (p0.Slots).length cp0_1), (.slice Ap0_2 (p0.Marks).length cp0_2)]) (k := 1) rfl 4) rfl) ?_
 refine Tr.mkFunc (vs := [(.pointer (some ⟨b101, 0, none⟩))]) (wn rfl) rfl (evl_cons rfl evl_nil) ?_
 obtain ⟨y102, hy102, H⟩ := bnd H
 refine Tr.call0 (r := (.int .i64 y102)) (wn rfl) rfl Try.call98 (evl_cons rfl (evl_cons rfl evl_nil)) (fun W hW => F_slices_IndexFunc_BoardKind_ok p0.Kinds Ap0_0 cp0_0 (hp0_0.ext hW.extAll) (fun z0 => F_panel_kindAt_1 z0 p1) 99 [(.pointer (some ⟨b101, 0, none⟩))] Try.call99 (fun w' he z0 y hy => F_panel_kindAt_1_ok z0 p1 b101 (he.r _ (hW.capR (k := 2) rfl)) (he.cells (hW.capR (k := 2) rfl) (hW.capC (k := 2) rfl)) y hy (HF.start _)) y102 hy102 (HF.start _)) ?_
 refine Tr.asg rfl rfl ?_
 refine Tr.nil (Tr.normThen ?_)
 refine Tr.ret ?_
 obtain rfl := Option.some.inj H
 exact Tr.out (m := [(.int .i64 y102)]) [] (res_tmp rfl res_nil) (fun W hW => ⟨rfl, hW.low leB⟩)

theorem F_panel_sizeOf_ok {w : Bs} (p0 : TBoardKind) (p1 : Int) (r : (Int × Int)) (H : F_panel_sizeOf p0 p1 = some r) (hE : HF w w.W E0) : Calls Try.prog 100 [(.agg #[(.string p0.Name), (.int .i64 p0.W), (.int .i64 p0.H)]), (.int .i64 p1)].toArray w.W fun e W' => e = .returned (.tuple #[(.int .i64 r.1), (.int .i64 r.2)]) ∧ HF w W' E0 := by
 unfold F_panel_sizeOf at H
 have leB := Bs.Le.refl w
 refine Tr.enter (n := 17) Try.func100 rfl rfl rfl hE ?_
 refine Tr.sr ?_
 refine Tr.box 1 (cs := [(.string p0.Name), (.int .i64 p0.W), (.int .i64 p0.H)]) (wn rfl) rfl rfl rfl fun b100 => ?_
 refine Tr.asg rfl rfl ?_
 refine Tr.asg rfl rfl ?_
 refine Tr.nil (Tr.normThen ?_)
 refine Tr.seq ?_
 refine Tr.sr ?_
 refine Tr.mv rfl rfl ?_
 refine Tr.va rfl (fun _ _ h1 h2 => run_rem (h1.ev rfl) (h1.ev rfl) (by decide)) ?_
 refine Tr.va rfl (fun _ _ h1 h2 => run_eql (h1.ev rfl) (h1.ev rfl)) ?_
 refine Tr.nil (Tr.normThen ?_)
 refine Tr.cond rfl H (fun H => ?_) (fun H => ?_)
 ·refine Tr.seq ?_
  refine Tr.draw (by kernel_rfl) (by kernel_rfl) ?_
  refine Tq.va rfl (fun _ _ h1 h2 => run_fieldAddr fo_74_2 (h1.ev rfl)) ?_
  refine Tq.va rfl (fun _ _ h1 h2 => run_load1 ag_3 (h1.ev rfl) (rdb h2 (vs := [(.string p0.Name), (.int .i64 p0.W), (.int .i64 p0.H)]) (k := 1) rfl 2) rfl) ?_
  refine Tq.va rfl (fun _ _ h1 h2 => run_fieldAddr fo_74_1 (h1.ev rfl)) ?_
  refine Tq.va rfl (fun _ _ h1 h2 => run_load1 ag_3 (h1.ev rfl) (rdb h2 (vs := [(.string p0.Name), (.int .i64 p0.W), (.int .i64 p0.H)]) (k := 1) rfl 1) rfl) ?_
  refine Tq.asg rfl rfl ?_
  refine Tq.asg rfl rfl ?_
  refine Tq.nil (Tr.normThen ?_)
  refine Tr.ret (Tr.retThen ?_)
  obtain rfl := Option.some.inj H
  exact Tr.out (m := [(.int .i64 p0.H), (.int .i64 p0.W)]) [] (res_tmp rfl (res_tmp rfl res_nil)) (fun W hW => ⟨rfl, hW.low leB⟩)
 ·refine Tr.skip (Tr.normThen ?_)
  refine Tr.seq ?_
  refine Tr.draw (by kernel_rfl) (by kernel_rfl) ?_
  refine Tq.va rfl (fun _ _ h1 h2 => run_fieldAddr fo_74_1 (h1.ev rfl)) ?_
  refine Tq.va rfl (fun _ _ h1 h2 => run_load1 ag_3 (h1.ev rfl) (rdb h2 (vs := [(.string p0.Name), (.int .i64 p0.W), (.int .i64 p0.H)]) (k := 1) rfl 1) rfl) ?_
  refine Tq.va rfl (fun _ _ h1 h2 => run_fieldAddr fo_74_2 (h1.ev rfl)) ?_
  refine Tq.va rfl (fun _ _ h1 h2 => run_load1 ag_3 (h1.ev rfl) (rdb h2 (vs := [(.string p0.Name), (.int .i64 p0.W), (.int .i64 p0.H)]) (k := 1) rfl 2) rfl) ?_
  refine Tq.asg rfl rfl ?_
  refine Tq.asg rfl rfl ?_
  refine Tq.nil (Tr.normThen ?_)
  refine Tr.ret ?_
  obtain rfl := Option.some.inj H
  exact Tr.out (m := [(.int .i64 p0.W), (.int .i64 p0.H)]) [] (res_tmp rfl (res_tmp rfl res_nil)) (fun W hW => ⟨rfl, hW.low leB⟩)

theorem F_panel_cellOf_ok {w : Bs} (p0 : TPanel) (Ap0_0 : Option Addr) (cp0_0 : Nat) (hp0_0 : Sl w.R w.W fl_TBoardKind Ap0_0 cp0_0 p0.Kinds) (Ap0_1 : Option Addr) (cp0_1 : Nat) (hp0_1 : Sl w.R w.W fl_TSlot Ap0_1 cp0_1 p0.Slots) (Ap0_2 : Option Addr) (cp0_2 : Nat) (hp0_2 : Sl w.R w.W fl_TPoint Ap0_2 cp0_2 p0.Marks) (p1 : TSlot) (r : TRect) (H : F_panel_cellOf p0 p1 = some r) (hE : HF w w.W E0) : Calls Try.prog 72 [(.agg #[(.int .i64 p0.W), (.int .i64 p0.H), (.int .i64 p0.Rail), (.int .i64 p0.Gap), (.slice Ap0_0 (p0.Kinds).length cp0_0), (.slice Ap0_1 (p0.Slots).length cp0_1), (.slice Ap0_2 (p0.Marks).length cp0_2)]), (.agg #[(.string p1.Board), (.int .i64 p1.Quarters), (.int .i64 p1.At.X), (.int .i64 p1.At.Y)])].toArray w.W fun e W' => e = .returned (.agg #[(.int .i64 r.X0), (.int .i64 r.Y0), (.int .i64 r.X1), (.int .i64 r.Y1)]) ∧ HF w W' E0 := by
 unfold F_panel_cellOf at H
 have leB := Bs.Le.refl w
 refine Tr.enter (n := 38) Try.func72 rfl rfl rfl hE ?_
 refine Tr.sr ?_
 refine Tr.box 1 (cs := [(.int .i64 p0.W), (.int .i64 p0.H), (.int .i64 p0.Rail), (.int .i64 p0.Gap), (.slice Ap0_0 (p0.Kinds).length cp0_0), (.slice Ap0_1 (p0.Slots).length cp0_1), (.slice Ap0_2 (p0.Marks).length cp0_2)]) (wn rfl) rfl rfl rfl fun b100 => ?_
 refine Tr.box 2 (cs := [(.string p1.Board), (.int .i64 p1.Quarters), (.int .i64 p1.At.X), (.int .i64 p1.At.Y)]) (wn rfl) rfl rfl rfl fun b101 => ?_
 refine Tr.alloc 3 (wn rfl) rfl ze_38 fun b102 => ?_
 refine Tr.nil (Tr.normThen ?_)
 refine Tr.seq ?_
 refine Tr.draw (by kernel_rfl) (by kernel_rfl) ?_
 refine Tq.va rfl (fun _ _ h1 h2 => run_fieldAddr fo_26_4 (h1.ev rfl)) ?_
 refine Tq.va rfl (fun _ _ h1 h2 => run_load1 ag_22 (h1.ev rfl) (rdb h2 (vs := [(.int .i64 p0.W), (.int .i64 p0.H), (.int .i64 p0.Rail), (.int .i64 p0.Gap), (.slice Ap0_0 (p0.Kinds).length cp0_0), (.slice Ap0_1 (p0.Slots).length cp0_1), (.slice Ap0_2 (p0.Marks).length cp0_2)]) (k := 1) rfl 4) rfl) ?_
 refine Tq.va rfl (fun _ _ h1 h2 => run_loadN (cs := [(.int .i64 p0.W), (.int .i64 p0.H), (.int .i64 p0.Rail), (.int .i64 p0.Gap), (.slice Ap0_0 (p0.Kinds).length cp0_0), (.slice Ap0_1 (p0.Slots).length cp0_1), (.slice Ap0_2 (p0.Marks).length cp0_2)]) ag_26 sz_26 (h1.ev rfl) (CellsAt.take (rdb h2 (vs := [(.int .i64 p0.W), (.int .i64 p0.H), (.int .i64 p0.Rail), (.int .i64 p0.Gap), (.slice Ap0_0 (p0.Kinds).length cp0_0), (.slice Ap0_1 (p0.Slots).length cp0_1), (.slice Ap0_2 (p0.Marks).length cp0_2)]) (k := 1) rfl 0) 7) rfl) ?_
 refine Tq.va rfl (fun _ _ h1 h2 => run_fieldAddr fo_96_0 (h1.ev rfl)) ?_
 refine Tq.va rfl (fun _ _ h1 h2 => run_load1 ag_9 (h1.ev rfl) (rdb h2 (vs := [(.string p1.Board), (.int .i64 p1.Quarters), (.int .i64 p1.At.X), (.int .i64 p1.At.Y)]) (k := 2) rfl 0) rfl) ?_
 obtain ⟨y103, hy103, H⟩ := bnd H
 refine Tq.call0 (r := (.int .i64 y103)) (wn rfl) rfl Try.call71 (evl_cons rfl (evl_cons rfl evl_nil)) (fun W hW => F_panel_kindAt_ok p0 Ap0_0 cp0_0 (hp0_0.ext hW.extAll) Ap0_1 cp0_1 (hp0_1.ext hW.extAll) Ap0_2 cp0_2 (hp0_2.ext hW.extAll) p1.Board y103 hy103 (HF.start _)) ?_
 obtain ⟨x104, hx104, H⟩ := bnd H
 obtain ⟨hx1040, hx1041, hx1042⟩ := idx_some hx104
 refine Tq.va rfl (fun _ _ h1 h2 => run_indexAddr el_22 (h1.ev rfl) hp0_0.form (h1.ev rfl) hx1040 hx1041) ?_
 refine Tq.va rfl (fun _ _ h1 h2 => run_loadN (cs := [(.string x104.Name), (.int .i64 x104.W), (.int .i64 x104.H)]) ag_74 sz_74 (h1.ev rfl) (CellsAt.take (rdF ef_TBoardKind hp0_0 hx1042 h2) 3) rfl) ?_
 refine Tq.va rfl (fun _ _ h1 h2 => run_fieldAddr fo_96_1 (h1.ev rfl)) ?_
 refine Tq.va rfl (fun _ _ h1 h2 => run_load1 ag_3 (h1.ev rfl) (rdb h2 (vs := [(.string p1.Board), (.int .i64 p1.Quarters), (.int .i64 p1.At.X), (.int .i64 p1.At.Y)]) (k := 2) rfl 1) rfl) ?_
 obtain ⟨y105, hy105, H⟩ := bnd H
 refine Tq.call0 (r := (.tuple #[(.int .i64 y105.1), (.int .i64 y105.2)])) (wn rfl) rfl Try.call100 (evl_cons rfl (evl_cons rfl evl_nil)) (fun W hW => F_panel_sizeOf_ok x104 p1.Quarters y105 hy105 (HF.start _)) ?_
 refine Tq.mv rfl rfl ?_
 refine Tq.va rfl (fun _ _ h1 h2 => run_extract (h1.ev rfl) rfl) ?_
 refine Tq.va rfl (fun _ _ h1 h2 => run_extract (h1.ev rfl) rfl) ?_
 refine Tq.asg rfl rfl ?_
 refine Tq.asg rfl rfl ?_
 refine Tq.nil (Tr.normThen ?_)
 refine Tr.sr ?_
 refine Tr.va rfl (fun _ _ h1 h2 => run_fieldAddr fo_96_2 (h1.ev rfl)) ?_
 refine Tr.va rfl (fun _ _ h1 h2 => run_fieldAddr fo_82_0 (h1.ev rfl)) ?_
 refine Tr.va rfl (fun _ _ h1 h2 => run_load1 ag_3 (h1.ev rfl) (rdb h2 (vs := [(.string p1.Board), (.int .i64 p1.Quarters), (.int .i64 p1.At.X), (.int .i64 p1.At.Y)]) (k := 2) rfl 2) rfl) ?_
 refine Tr.va rfl (fun _ _ h1 h2 => run_fieldAddr fo_96_2 (h1.ev rfl)) ?_
 refine Tr.va rfl (fun _ _ h1 h2 => run_fieldAddr fo_82_1 (h1.ev rfl)) ?_
 refine Tr.va rfl (fun _ _ h1 h2 => run_load1 ag_3 (h1.ev rfl) (rdb h2 (vs := [(.string p1.Board), (.int .i64 p1.Quarters), (.int .i64 p1.At.X), (.int .i64 p1.At.Y)]) (k := 2) rfl 3) rfl) ?_
 refine Tr.va rfl (fun _ _ h1 h2 => run_fieldAddr fo_96_2 (h1.ev rfl)) ?_
 refine Tr.va rfl (fun _ _ h1 h2 => run_fieldAddr fo_82_0 (h1.ev rfl)) ?_
 refine Tr.va rfl (fun _ _ h1 h2 => run_load1 ag_3 (h1.ev rfl) (rdb h2 (vs := [(.string p1.Board), (.int .i64 p1.Quarters), (.int .i64 p1.At.X), (.int .i64 p1.At.Y)]) (k := 2) rfl 2) rfl) ?_
 refine Tr.mv rfl rfl ?_
 refine Tr.va rfl (fun _ _ h1 h2 => run_add (h1.ev rfl) (h1.ev rfl)) ?_
 refine Tr.va rfl (fun _ _ h1 h2 => run_fieldAddr fo_96_2 (h1.ev rfl)) ?_
 refine Tr.va rfl (fun _ _ h1 h2 => run_fieldAddr fo_82_1 (h1.ev rfl)) ?_
 refine Tr.va rfl (fun _ _ h1 h2 => run_load1 ag_3 (h1.ev rfl) (rdb h2 (vs := [(.string p1.Board), (.int .i64 p1.Quarters), (.int .i64 p1.At.X), (.int .i64 p1.At.Y)]) (k := 2) rfl 3) rfl) ?_
 refine Tr.mv rfl rfl ?_
 refine Tr.va rfl (fun _ _ h1 h2 => run_add (h1.ev rfl) (h1.ev rfl)) ?_
 refine Tr.build (vs := [(0, (.int .i64 p1.At.X)), (1, (.int .i64 p1.At.Y)), (2, (.int .i64 (w64 (p1.At.X + y105.1)))), (3, (.int .i64 (w64 (p1.At.Y + y105.2))))]) (cs := [(.int .i64 p1.At.X), (.int .i64 p1.At.Y), (.int .i64 (w64 (p1.At.X + y105.1))), (.int .i64 (w64 (p1.At.Y + y105.2)))]) (wn rfl) rfl (evs_cons rfl (evs_cons rfl (evs_cons rfl (evs_cons rfl evs_nil)))) (by kernel_rfl) ?_
 refine Tr.store 3 (cs := [(.int .i64 p1.At.X), (.int .i64 p1.At.Y), (.int .i64 (w64 (p1.At.X + y105.1))), (.int .i64 (w64 (p1.At.Y + y105.2)))]) [(.int .i64 p1.At.X), (.int .i64 p1.At.Y), (.int .i64 (w64 (p1.At.X + y105.1))), (.int .i64 (w64 (p1.At.Y + y105.2)))] (wn rfl) rfl rfl rfl rfl sz_38 rfl rfl rfl ?_
 refine Tr.nil (Tr.normThen ?_)
 refine Tr.ret ?_
 obtain rfl := Option.some.inj H
 exact Tr.out (m := [(.agg #[(.int .i64 p1.At.X), (.int .i64 p1.At.Y), (.int .i64 (w64 (p1.At.X + y105.1))), (.int .i64 (w64 (p1.At.Y + y105.2)))])]) [3] (res_cell rfl rfl ag_38 sz_38 res_nil) (fun W hW => ⟨rfl, hW.low leB⟩)

theorem F_panel_isOn_ok {w : Bs} (p0 : TPanel) (Ap0_0 : Option Addr) (cp0_0 : Nat) (hp0_0 : Sl w.R w.W fl_TBoardKind Ap0_0 cp0_0 p0.Kinds) (Ap0_1 : Option Addr) (cp0_1 : Nat) (hp0_1 : Sl w.R w.W fl_TSlot Ap0_1 cp0_1 p0.Slots) (Ap0_2 : Option Addr) (cp0_2 : Nat) (hp0_2 : Sl w.R w.W fl_TPoint Ap0_2 cp0_2 p0.Marks) (p1 : TRect) (r : Bool) (H : F_panel_isOn p0 p1 = some r) (hE : HF w w.W E0) : Calls Try.prog 73 [(.agg #[(.int .i64 p0.W), (.int .i64 p0.H), (.int .i64 p0.Rail), (.int .i64 p0.Gap), (.slice Ap0_0 (p0.Kinds).length cp0_0), (.slice Ap0_1 (p0.Slots).length cp0_1), (.slice Ap0_2 (p0.Marks).length cp0_2)]), (.agg #[(.int .i64 p1.X0), (.int .i64 p1.Y0), (.int .i64 p1.X1), (.int .i64 p1.Y1)])].toArray w.W fun e W' => e = .returned (.bool r) ∧ HF w W' E0 := by
 unfold F_panel_isOn at H
 have leB := Bs.Le.refl w
 refine Tr.enter (n := 51) Try.func73 rfl rfl rfl hE ?_
 refine Tr.sr ?_
 refine Tr.box 1 (cs := [(.int .i64 p0.W), (.int .i64 p0.H), (.int .i64 p0.Rail), (.int .i64 p0.Gap), (.slice Ap0_0 (p0.Kinds).length cp0_0), (.slice Ap0_1 (p0.Slots).length cp0_1), (.slice Ap0_2 (p0.Marks).length cp0_2)]) (wn rfl) rfl rfl rfl fun b100 => ?_
 refine Tr.box 2 (cs := [(.int .i64 p1.X0), (.int .i64 p1.Y0), (.int .i64 p1.X1), (.int .i64 p1.Y1)]) (wn rfl) rfl rfl rfl fun b101 => ?_
 refine Tr.asg rfl rfl ?_
 refine Tr.nil (Tr.normThen ?_)
 refine Tr.sr ?_
 refine Tr.va rfl (fun _ _ h1 h2 => run_fieldAddr fo_38_0 (h1.ev rfl)) ?_
 refine Tr.va rfl (fun _ _ h1 h2 => run_load1 ag_3 (h1.ev rfl) (rdb h2 (vs := [(.int .i64 p1.X0), (.int .i64 p1.Y0), (.int .i64 p1.X1), (.int .i64 p1.Y1)]) (k := 2) rfl 0) rfl) ?_
 refine Tr.va rfl (fun _ _ h1 h2 => run_fieldAddr fo_26_2 (h1.ev rfl)) ?_
 refine Tr.va rfl (fun _ _ h1 h2 => run_load1 ag_3 (h1.ev rfl) (rdb h2 (vs := [(.int .i64 p0.W), (.int .i64 p0.H), (.int .i64 p0.Rail), (.int .i64 p0.Gap), (.slice Ap0_0 (p0.Kinds).length cp0_0), (.slice Ap0_1 (p0.Slots).length cp0_1), (.slice Ap0_2 (p0.Marks).length cp0_2)]) (k := 1) rfl 2) rfl) ?_
 refine Tr.va rfl (fun _ _ h1 h2 => run_geq (h1.ev rfl) (h1.ev rfl)) ?_
 refine Tr.mv rfl rfl ?_
 refine Tr.mid0 6 [(2, (.pointer (some ⟨b100, 0, none⟩))), (3, (.pointer (some ⟨b101, 0, none⟩))), (16, (.bool ((decide (p0.Rail ≤ p1.X0)) && (decide (p0.Rail ≤ p1.Y0)))))] [(1, bx b100 #[(.int .i64 p0.W), (.int .i64 p0.H), (.int .i64 p0.Rail), (.int .i64 p0.Gap), (.slice Ap0_0 (p0.Kinds).length cp0_0), (.slice Ap0_1 (p0.Slots).length cp0_1), (.slice Ap0_2 (p0.Marks).length cp0_2)] 26), (2, bx b101 #[(.int .i64 p1.X0), (.int .i64 p1.Y0), (.int .i64 p1.X1), (.int .i64 p1.Y1)] 38)] ?_ ?_
 ·cases hg101 : (decide (p0.Rail ≤ p1.X0))
  ·refine Tr.pass rfl rfl rfl rfl rfl (by decide) ?_
   refine Tr.pass rfl rfl rfl rfl rfl (by decide) ?_
   refine Tr.pass rfl rfl rfl rfl rfl (by decide) ?_
   refine Tr.pass rfl rfl rfl rfl rfl (by decide) ?_
   refine Tr.pass rfl rfl rfl rfl rfl (by decide) ?_
   refine Tr.va rfl (fun _ _ h1 h2 => run_pickF (h1.ev rfl) (h1.ev rfl)) ?_
   exact Tr.nil (Tr.fin0 (.cons rfl (.cons rfl (.cons rfl .nil))) (.cons rfl (.cons rfl .nil)))
  ·refine Tr.val (wg rfl rfl rfl) rfl (fun _ _ h1 h2 => run_fieldAddr fo_38_1 (h1.ev rfl)) ?_
   refine Tr.val (wg rfl rfl rfl) rfl (fun _ _ h1 h2 => run_load1 ag_3 (h1.ev rfl) (rdb h2 (vs := [(.int .i64 p1.X0), (.int .i64 p1.Y0), (.int .i64 p1.X1), (.int .i64 p1.Y1)]) (k := 2) rfl 1) rfl) ?_
   refine Tr.val (wg rfl rfl rfl) rfl (fun _ _ h1 h2 => run_fieldAddr fo_26_2 (h1.ev rfl)) ?_
   refine Tr.val (wg rfl rfl rfl) rfl (fun _ _ h1 h2 => run_load1 ag_3 (h1.ev rfl) (rdb h2 (vs := [(.int .i64 p0.W), (.int .i64 p0.H), (.int .i64 p0.Rail), (.int .i64 p0.Gap), (.slice Ap0_0 (p0.Kinds).length cp0_0), (.slice Ap0_1 (p0.Slots).length cp0_1), (.slice Ap0_2 (p0.Marks).length cp0_2)]) (k := 1) rfl 2) rfl) ?_
   refine Tr.val (wg rfl rfl rfl) rfl (fun _ _ h1 h2 => run_geq (h1.ev rfl) (h1.ev rfl)) ?_
   refine Tr.va rfl (fun _ _ h1 h2 => run_pickT (h1.ev rfl) (h1.ev rfl)) ?_
   exact Tr.nil (Tr.fin0 (.cons rfl (.cons rfl (.cons rfl .nil))) (.cons rfl (.cons rfl .nil)))
 ·show Tr _ _ (LF [(2, (.pointer (some ⟨b100, 0, none⟩))), (3, (.pointer (some ⟨b101, 0, none⟩))), (16, (.bool ((decide (p0.Rail ≤ p1.X0)) && (decide (p0.Rail ≤ p1.Y0)))))]) (LE [(1, bx b100 #[(.int .i64 p0.W), (.int .i64 p0.H), (.int .i64 p0.Rail), (.int .i64 p0.Gap), (.slice Ap0_0 (p0.Kinds).length cp0_0), (.slice Ap0_1 (p0.Slots).length cp0_1), (.slice Ap0_2 (p0.Marks).length cp0_2)] 26), (2, bx b101 #[(.int .i64 p1.X0), (.int .i64 p1.Y0), (.int .i64 p1.X1), (.int .i64 p1.Y1)] 38)]) _
  refine Tr.mv rfl rfl ?_
  refine Tr.mid0 6 [(2, (.pointer (some ⟨b100, 0, none⟩))), (3, (.pointer (some ⟨b101, 0, none⟩))), (23, (.bool (((decide (p0.Rail ≤ p1.X0)) && (decide (p0.Rail ≤ p1.Y0))) && (decide (p1.X0 ≤ p0.W)))))] [(1, bx b100 #[(.int .i64 p0.W), (.int .i64 p0.H), (.int .i64 p0.Rail), (.int .i64 p0.Gap), (.slice Ap0_0 (p0.Kinds).length cp0_0), (.slice Ap0_1 (p0.Slots).length cp0_1), (.slice Ap0_2 (p0.Marks).length cp0_2)] 26), (2, bx b101 #[(.int .i64 p1.X0), (.int .i64 p1.Y0), (.int .i64 p1.X1), (.int .i64 p1.Y1)] 38)] ?_ ?_
  ·cases hg101 : ((decide (p0.Rail ≤ p1.X0)) && (decide (p0.Rail ≤ p1.Y0)))
   ·refine Tr.pass rfl rfl rfl rfl rfl (by decide) ?_
    refine Tr.pass rfl rfl rfl rfl rfl (by decide) ?_
    refine Tr.pass rfl rfl rfl rfl rfl (by decide) ?_
    refine Tr.pass rfl rfl rfl rfl rfl (by decide) ?_
    refine Tr.pass rfl rfl rfl rfl rfl (by decide) ?_
    refine Tr.va rfl (fun _ _ h1 h2 => run_pickF (h1.ev rfl) (h1.ev rfl)) ?_
    exact Tr.nil (Tr.fin0 (.cons rfl (.cons rfl (.cons rfl .nil))) (.cons rfl (.cons rfl .nil)))
   ·refine Tr.val (wg rfl rfl rfl) rfl (fun _ _ h1 h2 => run_fieldAddr fo_38_0 (h1.ev rfl)) ?_
    refine Tr.val (wg rfl rfl rfl) rfl (fun _ _ h1 h2 => run_load1 ag_3 (h1.ev rfl) (rdb h2 (vs := [(.int .i64 p1.X0), (.int .i64 p1.Y0), (.int .i64 p1.X1), (.int .i64 p1.Y1)]) (k := 2) rfl 0) rfl) ?_
    refine Tr.val (wg rfl rfl rfl) rfl (fun _ _ h1 h2 => run_fieldAddr fo_26_0 (h1.ev rfl)) ?_
    refine Tr.val (wg rfl rfl rfl) rfl (fun _ _ h1 h2 => run_load1 ag_3 (h1.ev rfl) (rdb h2 (vs := [(.int .i64 p0.W), (.int .i64 p0.H), (.int .i64 p0.Rail), (.int .i64 p0.Gap), (.slice Ap0_0 (p0.Kinds).length cp0_0), (.slice Ap0_1 (p0.Slots).length cp0_1), (.slice Ap0_2 (p0.Marks).length cp0_2)]) (k := 1) rfl 0) rfl) ?_
    refine Tr.val (wg rfl rfl rfl) rfl (fun _ _ h1 h2 => run_leq (h1.ev rfl) (h1.ev rfl)) ?_
    refine Tr.va rfl (fun _ _ h1 h2 => run_pickT (h1.ev rfl) (h1.ev rfl)) ?_
    exact Tr.nil (Tr.fin0 (.cons rfl (.cons rfl (.cons rfl .nil))) (.cons rfl (.cons rfl .nil)))
  ·show Tr _ _ (LF [(2, (.pointer (some ⟨b100, 0, none⟩))), (3, (.pointer (some ⟨b101, 0, none⟩))), (23, (.bool (((decide (p0.Rail ≤ p1.X0)) && (decide (p0.Rail ≤ p1.Y0))) && (decide (p1.X0 ≤ p0.W)))))]) (LE [(1, bx b100 #[(.int .i64 p0.W), (.int .i64 p0.H), (.int .i64 p0.Rail), (.int .i64 p0.Gap), (.slice Ap0_0 (p0.Kinds).length cp0_0), (.slice Ap0_1 (p0.Slots).length cp0_1), (.slice Ap0_2 (p0.Marks).length cp0_2)] 26), (2, bx b101 #[(.int .i64 p1.X0), (.int .i64 p1.Y0), (.int .i64 p1.X1), (.int .i64 p1.Y1)] 38)]) _
   refine Tr.mv rfl rfl ?_
   refine Tr.mid0 6 [(2, (.pointer (some ⟨b100, 0, none⟩))), (3, (.pointer (some ⟨b101, 0, none⟩))), (30, (.bool ((((decide (p0.Rail ≤ p1.X0)) && (decide (p0.Rail ≤ p1.Y0))) && (decide (p1.X0 ≤ p0.W))) && (decide (p1.Y0 ≤ p0.H)))))] [(1, bx b100 #[(.int .i64 p0.W), (.int .i64 p0.H), (.int .i64 p0.Rail), (.int .i64 p0.Gap), (.slice Ap0_0 (p0.Kinds).length cp0_0), (.slice Ap0_1 (p0.Slots).length cp0_1), (.slice Ap0_2 (p0.Marks).length cp0_2)] 26), (2, bx b101 #[(.int .i64 p1.X0), (.int .i64 p1.Y0), (.int .i64 p1.X1), (.int .i64 p1.Y1)] 38)] ?_ ?_
   ·cases hg101 : (((decide (p0.Rail ≤ p1.X0)) && (decide (p0.Rail ≤ p1.Y0))) && (decide (p1.X0 ≤ p0.W)))
    ·refine Tr.pass rfl rfl rfl rfl rfl (by decide) ?_
     refine Tr.pass rfl rfl rfl rfl rfl (by decide) ?_
     refine Tr.pass rfl rfl rfl rfl rfl (by decide) ?_
     refine Tr.pass rfl rfl rfl rfl rfl (by decide) ?_
     refine Tr.pass rfl rfl rfl rfl rfl (by decide) ?_
     refine Tr.va rfl (fun _ _ h1 h2 => run_pickF (h1.ev rfl) (h1.ev rfl)) ?_
     exact Tr.nil (Tr.fin0 (.cons rfl (.cons rfl (.cons rfl .nil))) (.cons rfl (.cons rfl .nil)))
    ·refine Tr.val (wg rfl rfl rfl) rfl (fun _ _ h1 h2 => run_fieldAddr fo_38_1 (h1.ev rfl)) ?_
     refine Tr.val (wg rfl rfl rfl) rfl (fun _ _ h1 h2 => run_load1 ag_3 (h1.ev rfl) (rdb h2 (vs := [(.int .i64 p1.X0), (.int .i64 p1.Y0), (.int .i64 p1.X1), (.int .i64 p1.Y1)]) (k := 2) rfl 1) rfl) ?_
     refine Tr.val (wg rfl rfl rfl) rfl (fun _ _ h1 h2 => run_fieldAddr fo_26_1 (h1.ev rfl)) ?_
     refine Tr.val (wg rfl rfl rfl) rfl (fun _ _ h1 h2 => run_load1 ag_3 (h1.ev rfl) (rdb h2 (vs := [(.int .i64 p0.W), (.int .i64 p0.H), (.int .i64 p0.Rail), (.int .i64 p0.Gap), (.slice Ap0_0 (p0.Kinds).length cp0_0), (.slice Ap0_1 (p0.Slots).length cp0_1), (.slice Ap0_2 (p0.Marks).length cp0_2)]) (k := 1) rfl 1) rfl) ?_
     refine Tr.val (wg rfl rfl rfl) rfl (fun _ _ h1 h2 => run_leq (h1.ev rfl) (h1.ev rfl)) ?_
     refine Tr.va rfl (fun _ _ h1 h2 => run_pickT (h1.ev rfl) (h1.ev rfl)) ?_
     exact Tr.nil (Tr.fin0 (.cons rfl (.cons rfl (.cons rfl .nil))) (.cons rfl (.cons rfl .nil)))
   ·show Tr _ _ (LF [(2, (.pointer (some ⟨b100, 0, none⟩))), (3, (.pointer (some ⟨b101, 0, none⟩))), (30, (.bool ((((decide (p0.Rail ≤ p1.X0)) && (decide (p0.Rail ≤ p1.Y0))) && (decide (p1.X0 ≤ p0.W))) && (decide (p1.Y0 ≤ p0.H)))))]) (LE [(1, bx b100 #[(.int .i64 p0.W), (.int .i64 p0.H), (.int .i64 p0.Rail), (.int .i64 p0.Gap), (.slice Ap0_0 (p0.Kinds).length cp0_0), (.slice Ap0_1 (p0.Slots).length cp0_1), (.slice Ap0_2 (p0.Marks).length cp0_2)] 26), (2, bx b101 #[(.int .i64 p1.X0), (.int .i64 p1.Y0), (.int .i64 p1.X1), (.int .i64 p1.Y1)] 38)]) _
    refine Tr.mv rfl rfl ?_
    refine Tr.mid0 9 [(2, (.pointer (some ⟨b100, 0, none⟩))), (3, (.pointer (some ⟨b101, 0, none⟩))), (40, (.bool (((((decide (p0.Rail ≤ p1.X0)) && (decide (p0.Rail ≤ p1.Y0))) && (decide (p1.X0 ≤ p0.W))) && (decide (p1.Y0 ≤ p0.H))) && (decide (p1.X1 ≤ (w64 (p0.W - p0.Rail)))))))] [(1, bx b100 #[(.int .i64 p0.W), (.int .i64 p0.H), (.int .i64 p0.Rail), (.int .i64 p0.Gap), (.slice Ap0_0 (p0.Kinds).length cp0_0), (.slice Ap0_1 (p0.Slots).length cp0_1), (.slice Ap0_2 (p0.Marks).length cp0_2)] 26), (2, bx b101 #[(.int .i64 p1.X0), (.int .i64 p1.Y0), (.int .i64 p1.X1), (.int .i64 p1.Y1)] 38)] ?_ ?_
    ·cases hg101 : ((((decide (p0.Rail ≤ p1.X0)) && (decide (p0.Rail ≤ p1.Y0))) && (decide (p1.X0 ≤ p0.W))) && (decide (p1.Y0 ≤ p0.H)))
     ·refine Tr.pass rfl rfl rfl rfl rfl (by decide) ?_
      refine Tr.pass rfl rfl rfl rfl rfl (by decide) ?_
      refine Tr.pass rfl rfl rfl rfl rfl (by decide) ?_
      refine Tr.pass rfl rfl rfl rfl rfl (by decide) ?_
      refine Tr.pass rfl rfl rfl rfl rfl (by decide) ?_
      refine Tr.pass rfl rfl rfl rfl rfl (by decide) ?_
      refine Tr.pass rfl rfl rfl rfl rfl (by decide) ?_
      refine Tr.pass rfl rfl rfl rfl rfl (by decide) ?_
      refine Tr.va rfl (fun _ _ h1 h2 => run_pickF (h1.ev rfl) (h1.ev rfl)) ?_
      exact Tr.nil (Tr.fin0 (.cons rfl (.cons rfl (.cons rfl .nil))) (.cons rfl (.cons rfl .nil)))
     ·refine Tr.val (wg rfl rfl rfl) rfl (fun _ _ h1 h2 => run_fieldAddr fo_38_2 (h1.ev rfl)) ?_
      refine Tr.val (wg rfl rfl rfl) rfl (fun _ _ h1 h2 => run_load1 ag_3 (h1.ev rfl) (rdb h2 (vs := [(.int .i64 p1.X0), (.int .i64 p1.Y0), (.int .i64 p1.X1), (.int .i64 p1.Y1)]) (k := 2) rfl 2) rfl) ?_
      refine Tr.val (wg rfl rfl rfl) rfl (fun _ _ h1 h2 => run_fieldAddr fo_26_0 (h1.ev rfl)) ?_
      refine Tr.val (wg rfl rfl rfl) rfl (fun _ _ h1 h2 => run_load1 ag_3 (h1.ev rfl) (rdb h2 (vs := [(.int .i64 p0.W), (.int .i64 p0.H), (.int .i64 p0.Rail), (.int .i64 p0.Gap), (.slice Ap0_0 (p0.Kinds).length cp0_0), (.slice Ap0_1 (p0.Slots).length cp0_1), (.slice Ap0_2 (p0.Marks).length cp0_2)]) (k := 1) rfl 0) rfl) ?_
      refine Tr.val (wg rfl rfl rfl) rfl (fun _ _ h1 h2 => run_fieldAddr fo_26_2 (h1.ev rfl)) ?_
      refine Tr.val (wg rfl rfl rfl) rfl (fun _ _ h1 h2 => run_load1 ag_3 (h1.ev rfl) (rdb h2 (vs := [(.int .i64 p0.W), (.int .i64 p0.H), (.int .i64 p0.Rail), (.int .i64 p0.Gap), (.slice Ap0_0 (p0.Kinds).length cp0_0), (.slice Ap0_1 (p0.Slots).length cp0_1), (.slice Ap0_2 (p0.Marks).length cp0_2)]) (k := 1) rfl 2) rfl) ?_
      refine Tr.val (wg rfl rfl rfl) rfl (fun _ _ h1 h2 => run_sub (h1.ev rfl) (h1.ev rfl)) ?_
      refine Tr.val (wg rfl rfl rfl) rfl (fun _ _ h1 h2 => run_leq (h1.ev rfl) (h1.ev rfl)) ?_
      refine Tr.va rfl (fun _ _ h1 h2 => run_pickT (h1.ev rfl) (h1.ev rfl)) ?_
      exact Tr.nil (Tr.fin0 (.cons rfl (.cons rfl (.cons rfl .nil))) (.cons rfl (.cons rfl .nil)))
    ·show Tr _ _ (LF [(2, (.pointer (some ⟨b100, 0, none⟩))), (3, (.pointer (some ⟨b101, 0, none⟩))), (40, (.bool (((((decide (p0.Rail ≤ p1.X0)) && (decide (p0.Rail ≤ p1.Y0))) && (decide (p1.X0 ≤ p0.W))) && (decide (p1.Y0 ≤ p0.H))) && (decide (p1.X1 ≤ (w64 (p0.W - p0.Rail)))))))]) (LE [(1, bx b100 #[(.int .i64 p0.W), (.int .i64 p0.H), (.int .i64 p0.Rail), (.int .i64 p0.Gap), (.slice Ap0_0 (p0.Kinds).length cp0_0), (.slice Ap0_1 (p0.Slots).length cp0_1), (.slice Ap0_2 (p0.Marks).length cp0_2)] 26), (2, bx b101 #[(.int .i64 p1.X0), (.int .i64 p1.Y0), (.int .i64 p1.X1), (.int .i64 p1.Y1)] 38)]) _
     refine Tr.mv rfl rfl ?_
     refine Tr.mid0 9 [(50, (.bool ((((((decide (p0.Rail ≤ p1.X0)) && (decide (p0.Rail ≤ p1.Y0))) && (decide (p1.X0 ≤ p0.W))) && (decide (p1.Y0 ≤ p0.H))) && (decide (p1.X1 ≤ (w64 (p0.W - p0.Rail))))) && (decide (p1.Y1 ≤ (w64 (p0.H - p0.Rail)))))))] [(1, bx b100 #[(.int .i64 p0.W), (.int .i64 p0.H), (.int .i64 p0.Rail), (.int .i64 p0.Gap), (.slice Ap0_0 (p0.Kinds).length cp0_0), (.slice Ap0_1 (p0.Slots).length cp0_1), (.slice Ap0_2 (p0.Marks).length cp0_2)] 26), (2, bx b101 #[(.int .i64 p1.X0), (.int .i64 p1.Y0), (.int .i64 p1.X1), (.int .i64 p1.Y1)] 38)] ?_ ?_
     ·cases hg101 : (((((decide (p0.Rail ≤ p1.X0)) && (decide (p0.Rail ≤ p1.Y0))) && (decide (p1.X0 ≤ p0.W))) && (decide (p1.Y0 ≤ p0.H))) && (decide (p1.X1 ≤ (w64 (p0.W - p0.Rail)))))
      ·refine Tr.pass rfl rfl rfl rfl rfl (by decide) ?_
       refine Tr.pass rfl rfl rfl rfl rfl (by decide) ?_
       refine Tr.pass rfl rfl rfl rfl rfl (by decide) ?_
       refine Tr.pass rfl rfl rfl rfl rfl (by decide) ?_
       refine Tr.pass rfl rfl rfl rfl rfl (by decide) ?_
       refine Tr.pass rfl rfl rfl rfl rfl (by decide) ?_
       refine Tr.pass rfl rfl rfl rfl rfl (by decide) ?_
       refine Tr.pass rfl rfl rfl rfl rfl (by decide) ?_
       refine Tr.va rfl (fun _ _ h1 h2 => run_pickF (h1.ev rfl) (h1.ev rfl)) ?_
       exact Tr.nil (Tr.fin0 (.cons rfl .nil) (.cons rfl (.cons rfl .nil)))
      ·refine Tr.val (wg rfl rfl rfl) rfl (fun _ _ h1 h2 => run_fieldAddr fo_38_3 (h1.ev rfl)) ?_
       refine Tr.val (wg rfl rfl rfl) rfl (fun _ _ h1 h2 => run_load1 ag_3 (h1.ev rfl) (rdb h2 (vs := [(.int .i64 p1.X0), (.int .i64 p1.Y0), (.int .i64 p1.X1), (.int .i64 p1.Y1)]) (k := 2) rfl 3) rfl) ?_
       refine Tr.val (wg rfl rfl rfl) rfl (fun _ _ h1 h2 => run_fieldAddr fo_26_1 (h1.ev rfl)) ?_
       refine Tr.val (wg rfl rfl rfl) rfl (fun _ _ h1 h2 => run_load1 ag_3 (h1.ev rfl) (rdb h2 (vs := [(.int .i64 p0.W), (.int .i64 p0.H), (.int .i64 p0.Rail), (.int .i64 p0.Gap), (.slice Ap0_0 (p0.Kinds).length cp0_0), (.slice Ap0_1 (p0.Slots).length cp0_1), (.slice Ap0_2 (p0.Marks).length cp0_2)]) (k := 1) rfl 1) rfl) ?_
       refine Tr.val (wg rfl rfl rfl) rfl (fun _ _ h1 h2 => run_fieldAddr fo_26_2 (h1.ev rfl)) ?_
       refine Tr.val (wg rfl rfl rfl) rfl (fun _ _ h1 h2 => run_load1 ag_3 (h1.ev rfl) (rdb h2 (vs := [(.int .i64 p0.W), (.int .i64 p0.H), (.int .i64 p0.Rail), (.int .i64 p0.Gap), (.slice Ap0_0 (p0.Kinds).length cp0_0), (.slice Ap0_1 (p0.Slots).length cp0_1), (.slice Ap0_2 (p0.Marks).length cp0_2)]) (k := 1) rfl 2) rfl) ?_
       refine Tr.val (wg rfl rfl rfl) rfl (fun _ _ h1 h2 => run_sub (h1.ev rfl) (h1.ev rfl)) ?_
       refine Tr.val (wg rfl rfl rfl) rfl (fun _ _ h1 h2 => run_leq (h1.ev rfl) (h1.ev rfl)) ?_
       refine Tr.va rfl (fun _ _ h1 h2 => run_pickT (h1.ev rfl) (h1.ev rfl)) ?_
       exact Tr.nil (Tr.fin0 (.cons rfl .nil) (.cons rfl (.cons rfl .nil)))
     ·show Tr _ _ (LF [(50, (.bool ((((((decide (p0.Rail ≤ p1.X0)) && (decide (p0.Rail ≤ p1.Y0))) && (decide (p1.X0 ≤ p0.W))) && (decide (p1.Y0 ≤ p0.H))) && (decide (p1.X1 ≤ (w64 (p0.W - p0.Rail))))) && (decide (p1.Y1 ≤ (w64 (p0.H - p0.Rail)))))))]) (LE [(1, bx b100 #[(.int .i64 p0.W), (.int .i64 p0.H), (.int .i64 p0.Rail), (.int .i64 p0.Gap), (.slice Ap0_0 (p0.Kinds).length cp0_0), (.slice Ap0_1 (p0.Slots).length cp0_1), (.slice Ap0_2 (p0.Marks).length cp0_2)] 26), (2, bx b101 #[(.int .i64 p1.X0), (.int .i64 p1.Y0), (.int .i64 p1.X1), (.int .i64 p1.Y1)] 38)]) _
      refine Tr.asg rfl rfl ?_
      refine Tr.nil (Tr.normThen ?_)
      refine Tr.ret ?_
      obtain rfl := Option.some.inj H
      exact Tr.out (m := [(.bool ((((((decide (p0.Rail ≤ p1.X0)) && (decide (p0.Rail ≤ p1.Y0))) && (decide (p1.X0 ≤ p0.W))) && (decide (p1.Y0 ≤ p0.H))) && (decide (p1.X1 ≤ (w64 (p0.W - p0.Rail))))) && (decide (p1.Y1 ≤ (w64 (p0.H - p0.Rail))))))]) [] (res_tmp rfl res_nil) (fun W hW => ⟨rfl, hW.low leB⟩)

theorem F_panel_isApart_ok {w : Bs} (p0 : TRect) (p1 : TRect) (p2 : Int) (r : Bool) (H : F_panel_isApart p0 p1 p2 = some r) (hE : HF w w.W E0) : Calls Try.prog 75 [(.agg #[(.int .i64 p0.X0), (.int .i64 p0.Y0), (.int .i64 p0.X1), (.int .i64 p0.Y1)]), (.agg #[(.int .i64 p1.X0), (.int .i64 p1.Y0), (.int .i64 p1.X1), (.int .i64 p1.Y1)]), (.int .i64 p2)].toArray w.W fun e W' => e = .returned (.bool r) ∧ HF w W' E0 := by
 unfold F_panel_isApart at H
 have leB := Bs.Le.refl w
 refine Tr.enter (n := 41) Try.func75 rfl rfl rfl hE ?_
 refine Tr.sr ?_
 refine Tr.box 1 (cs := [(.int .i64 p0.X0), (.int .i64 p0.Y0), (.int .i64 p0.X1), (.int .i64 p0.Y1)]) (wn rfl) rfl rfl rfl fun b100 => ?_
 refine Tr.box 2 (cs := [(.int .i64 p1.X0), (.int .i64 p1.Y0), (.int .i64 p1.X1), (.int .i64 p1.Y1)]) (wn rfl) rfl rfl rfl fun b101 => ?_
 refine Tr.asg rfl rfl ?_
 refine Tr.nil (Tr.normThen ?_)
 refine Tr.sr ?_
 refine Tr.va rfl (fun _ _ h1 h2 => run_fieldAddr fo_38_2 (h1.ev rfl)) ?_
 refine Tr.va rfl (fun _ _ h1 h2 => run_load1 ag_3 (h1.ev rfl) (rdb h2 (vs := [(.int .i64 p0.X0), (.int .i64 p0.Y0), (.int .i64 p0.X1), (.int .i64 p0.Y1)]) (k := 1) rfl 2) rfl) ?_
 refine Tr.mv rfl rfl ?_
 refine Tr.va rfl (fun _ _ h1 h2 => run_add (h1.ev rfl) (h1.ev rfl)) ?_
 refine Tr.va rfl (fun _ _ h1 h2 => run_fieldAddr fo_38_0 (h1.ev rfl)) ?_
 refine Tr.va rfl (fun _ _ h1 h2 => run_load1 ag_3 (h1.ev rfl) (rdb h2 (vs := [(.int .i64 p1.X0), (.int .i64 p1.Y0), (.int .i64 p1.X1), (.int .i64 p1.Y1)]) (k := 2) rfl 0) rfl) ?_
 refine Tr.va rfl (fun _ _ h1 h2 => run_leq (h1.ev rfl) (h1.ev rfl)) ?_
 refine Tr.mv rfl rfl ?_
 refine Tr.mid0 8 [(2, (.int .i64 p2)), (3, (.pointer (some ⟨b100, 0, none⟩))), (4, (.pointer (some ⟨b101, 0, none⟩))), (22, (.bool ((decide ((w64 (p0.X1 + p2)) ≤ p1.X0)) || (decide ((w64 (p1.X1 + p2)) ≤ p0.X0)))))] [(1, bx b100 #[(.int .i64 p0.X0), (.int .i64 p0.Y0), (.int .i64 p0.X1), (.int .i64 p0.Y1)] 38), (2, bx b101 #[(.int .i64 p1.X0), (.int .i64 p1.Y0), (.int .i64 p1.X1), (.int .i64 p1.Y1)] 38)] ?_ ?_
 ·cases hg101 : (decide ((w64 (p0.X1 + p2)) ≤ p1.X0))
  ·refine Tr.val (wg rfl rfl rfl) rfl (fun _ _ h1 h2 => run_fieldAddr fo_38_2 (h1.ev rfl)) ?_
   refine Tr.val (wg rfl rfl rfl) rfl (fun _ _ h1 h2 => run_load1 ag_3 (h1.ev rfl) (rdb h2 (vs := [(.int .i64 p1.X0), (.int .i64 p1.Y0), (.int .i64 p1.X1), (.int .i64 p1.Y1)]) (k := 2) rfl 2) rfl) ?_
   refine Tr.val (wg rfl rfl rfl) rfl (fun _ _ h1 h2 => run_move (h1.ev rfl)) ?_
   refine Tr.val (wg rfl rfl rfl) rfl (fun _ _ h1 h2 => run_add (h1.ev rfl) (h1.ev rfl)) ?_
   refine Tr.val (wg rfl rfl rfl) rfl (fun _ _ h1 h2 => run_fieldAddr fo_38_0 (h1.ev rfl)) ?_
   refine Tr.val (wg rfl rfl rfl) rfl (fun _ _ h1 h2 => run_load1 ag_3 (h1.ev rfl) (rdb h2 (vs := [(.int .i64 p0.X0), (.int .i64 p0.Y0), (.int .i64 p0.X1), (.int .i64 p0.Y1)]) (k := 1) rfl 0) rfl) ?_
   refine Tr.val (wg rfl rfl rfl) rfl (fun _ _ h1 h2 => run_leq (h1.ev rfl) (h1.ev rfl)) ?_
   refine Tr.va rfl (fun _ _ h1 h2 => run_pickF (h1.ev rfl) (h1.ev rfl)) ?_
   exact Tr.nil (Tr.fin0 (.cons rfl (.cons rfl (.cons rfl (.cons rfl .nil)))) (.cons rfl (.cons rfl .nil)))
  ·refine Tr.pass rfl rfl rfl rfl rfl (by decide) ?_
   refine Tr.pass rfl rfl rfl rfl rfl (by decide) ?_
   refine Tr.pass rfl rfl rfl rfl rfl (by decide) ?_
   refine Tr.pass rfl rfl rfl rfl rfl (by decide) ?_
   refine Tr.pass rfl rfl rfl rfl rfl (by decide) ?_
   refine Tr.pass rfl rfl rfl rfl rfl (by decide) ?_
   refine Tr.pass rfl rfl rfl rfl rfl (by decide) ?_
   refine Tr.va rfl (fun _ _ h1 h2 => run_pickT (h1.ev rfl) (h1.ev rfl)) ?_
   exact Tr.nil (Tr.fin0 (.cons rfl (.cons rfl (.cons rfl (.cons rfl .nil)))) (.cons rfl (.cons rfl .nil)))
 ·show Tr _ _ (LF [(2, (.int .i64 p2)), (3, (.pointer (some ⟨b100, 0, none⟩))), (4, (.pointer (some ⟨b101, 0, none⟩))), (22, (.bool ((decide ((w64 (p0.X1 + p2)) ≤ p1.X0)) || (decide ((w64 (p1.X1 + p2)) ≤ p0.X0)))))]) (LE [(1, bx b100 #[(.int .i64 p0.X0), (.int .i64 p0.Y0), (.int .i64 p0.X1), (.int .i64 p0.Y1)] 38), (2, bx b101 #[(.int .i64 p1.X0), (.int .i64 p1.Y0), (.int .i64 p1.X1), (.int .i64 p1.Y1)] 38)]) _
  refine Tr.mv rfl rfl ?_
  refine Tr.mid0 8 [(2, (.int .i64 p2)), (3, (.pointer (some ⟨b100, 0, none⟩))), (4, (.pointer (some ⟨b101, 0, none⟩))), (31, (.bool (((decide ((w64 (p0.X1 + p2)) ≤ p1.X0)) || (decide ((w64 (p1.X1 + p2)) ≤ p0.X0))) || (decide ((w64 (p0.Y1 + p2)) ≤ p1.Y0)))))] [(1, bx b100 #[(.int .i64 p0.X0), (.int .i64 p0.Y0), (.int .i64 p0.X1), (.int .i64 p0.Y1)] 38), (2, bx b101 #[(.int .i64 p1.X0), (.int .i64 p1.Y0), (.int .i64 p1.X1), (.int .i64 p1.Y1)] 38)] ?_ ?_
  ·cases hg101 : ((decide ((w64 (p0.X1 + p2)) ≤ p1.X0)) || (decide ((w64 (p1.X1 + p2)) ≤ p0.X0)))
   ·refine Tr.val (wg rfl rfl rfl) rfl (fun _ _ h1 h2 => run_fieldAddr fo_38_3 (h1.ev rfl)) ?_
    refine Tr.val (wg rfl rfl rfl) rfl (fun _ _ h1 h2 => run_load1 ag_3 (h1.ev rfl) (rdb h2 (vs := [(.int .i64 p0.X0), (.int .i64 p0.Y0), (.int .i64 p0.X1), (.int .i64 p0.Y1)]) (k := 1) rfl 3) rfl) ?_
    refine Tr.val (wg rfl rfl rfl) rfl (fun _ _ h1 h2 => run_move (h1.ev rfl)) ?_
    refine Tr.val (wg rfl rfl rfl) rfl (fun _ _ h1 h2 => run_add (h1.ev rfl) (h1.ev rfl)) ?_
    refine Tr.val (wg rfl rfl rfl) rfl (fun _ _ h1 h2 => run_fieldAddr fo_38_1 (h1.ev rfl)) ?_
    refine Tr.val (wg rfl rfl rfl) rfl (fun _ _ h1 h2 => run_load1 ag_3 (h1.ev rfl) (rdb h2 (vs := [(.int .i64 p1.X0), (.int .i64 p1.Y0), (.int .i64 p1.X1), (.int .i64 p1.Y1)]) (k := 2) rfl 1) rfl) ?_
    refine Tr.val (wg rfl rfl rfl) rfl (fun _ _ h1 h2 => run_leq (h1.ev rfl) (h1.ev rfl)) ?_
    refine Tr.va rfl (fun _ _ h1 h2 => run_pickF (h1.ev rfl) (h1.ev rfl)) ?_
    exact Tr.nil (Tr.fin0 (.cons rfl (.cons rfl (.cons rfl (.cons rfl .nil)))) (.cons rfl (.cons rfl .nil)))
   ·refine Tr.pass rfl rfl rfl rfl rfl (by decide) ?_
    refine Tr.pass rfl rfl rfl rfl rfl (by decide) ?_
    refine Tr.pass rfl rfl rfl rfl rfl (by decide) ?_
    refine Tr.pass rfl rfl rfl rfl rfl (by decide) ?_
    refine Tr.pass rfl rfl rfl rfl rfl (by decide) ?_
    refine Tr.pass rfl rfl rfl rfl rfl (by decide) ?_
    refine Tr.pass rfl rfl rfl rfl rfl (by decide) ?_
    refine Tr.va rfl (fun _ _ h1 h2 => run_pickT (h1.ev rfl) (h1.ev rfl)) ?_
    exact Tr.nil (Tr.fin0 (.cons rfl (.cons rfl (.cons rfl (.cons rfl .nil)))) (.cons rfl (.cons rfl .nil)))
  ·show Tr _ _ (LF [(2, (.int .i64 p2)), (3, (.pointer (some ⟨b100, 0, none⟩))), (4, (.pointer (some ⟨b101, 0, none⟩))), (31, (.bool (((decide ((w64 (p0.X1 + p2)) ≤ p1.X0)) || (decide ((w64 (p1.X1 + p2)) ≤ p0.X0))) || (decide ((w64 (p0.Y1 + p2)) ≤ p1.Y0)))))]) (LE [(1, bx b100 #[(.int .i64 p0.X0), (.int .i64 p0.Y0), (.int .i64 p0.X1), (.int .i64 p0.Y1)] 38), (2, bx b101 #[(.int .i64 p1.X0), (.int .i64 p1.Y0), (.int .i64 p1.X1), (.int .i64 p1.Y1)] 38)]) _
   refine Tr.mv rfl rfl ?_
   refine Tr.mid0 8 [(40, (.bool ((((decide ((w64 (p0.X1 + p2)) ≤ p1.X0)) || (decide ((w64 (p1.X1 + p2)) ≤ p0.X0))) || (decide ((w64 (p0.Y1 + p2)) ≤ p1.Y0))) || (decide ((w64 (p1.Y1 + p2)) ≤ p0.Y0)))))] [(1, bx b100 #[(.int .i64 p0.X0), (.int .i64 p0.Y0), (.int .i64 p0.X1), (.int .i64 p0.Y1)] 38), (2, bx b101 #[(.int .i64 p1.X0), (.int .i64 p1.Y0), (.int .i64 p1.X1), (.int .i64 p1.Y1)] 38)] ?_ ?_
   ·cases hg101 : (((decide ((w64 (p0.X1 + p2)) ≤ p1.X0)) || (decide ((w64 (p1.X1 + p2)) ≤ p0.X0))) || (decide ((w64 (p0.Y1 + p2)) ≤ p1.Y0)))
    ·refine Tr.val (wg rfl rfl rfl) rfl (fun _ _ h1 h2 => run_fieldAddr fo_38_3 (h1.ev rfl)) ?_
     refine Tr.val (wg rfl rfl rfl) rfl (fun _ _ h1 h2 => run_load1 ag_3 (h1.ev rfl) (rdb h2 (vs := [(.int .i64 p1.X0), (.int .i64 p1.Y0), (.int .i64 p1.X1), (.int .i64 p1.Y1)]) (k := 2) rfl 3) rfl) ?_
     refine Tr.val (wg rfl rfl rfl) rfl (fun _ _ h1 h2 => run_move (h1.ev rfl)) ?_
     refine Tr.val (wg rfl rfl rfl) rfl (fun _ _ h1 h2 => run_add (h1.ev rfl) (h1.ev rfl)) ?_
     refine Tr.val (wg rfl rfl rfl) rfl (fun _ _ h1 h2 => run_fieldAddr fo_38_1 (h1.ev rfl)) ?_
     refine Tr.val (wg rfl rfl rfl) rfl (fun _ _ h1 h2 => run_load1 ag_3 (h1.ev rfl) (rdb h2 (vs := [(.int .i64 p0.X0), (.int .i64 p0.Y0), (.int .i64 p0.X1), (.int .i64 p0.Y1)]) (k := 1) rfl 1) rfl) ?_
     refine Tr.val (wg rfl rfl rfl) rfl (fun _ _ h1 h2 => run_leq (h1.ev rfl) (h1.ev rfl)) ?_
     refine Tr.va rfl (fun _ _ h1 h2 => run_pickF (h1.ev rfl) (h1.ev rfl)) ?_
     exact Tr.nil (Tr.fin0 (.cons rfl .nil) (.cons rfl (.cons rfl .nil)))
    ·refine Tr.pass rfl rfl rfl rfl rfl (by decide) ?_
     refine Tr.pass rfl rfl rfl rfl rfl (by decide) ?_
     refine Tr.pass rfl rfl rfl rfl rfl (by decide) ?_
     refine Tr.pass rfl rfl rfl rfl rfl (by decide) ?_
     refine Tr.pass rfl rfl rfl rfl rfl (by decide) ?_
     refine Tr.pass rfl rfl rfl rfl rfl (by decide) ?_
     refine Tr.pass rfl rfl rfl rfl rfl (by decide) ?_
     refine Tr.va rfl (fun _ _ h1 h2 => run_pickT (h1.ev rfl) (h1.ev rfl)) ?_
     exact Tr.nil (Tr.fin0 (.cons rfl .nil) (.cons rfl (.cons rfl .nil)))
   ·show Tr _ _ (LF [(40, (.bool ((((decide ((w64 (p0.X1 + p2)) ≤ p1.X0)) || (decide ((w64 (p1.X1 + p2)) ≤ p0.X0))) || (decide ((w64 (p0.Y1 + p2)) ≤ p1.Y0))) || (decide ((w64 (p1.Y1 + p2)) ≤ p0.Y0)))))]) (LE [(1, bx b100 #[(.int .i64 p0.X0), (.int .i64 p0.Y0), (.int .i64 p0.X1), (.int .i64 p0.Y1)] 38), (2, bx b101 #[(.int .i64 p1.X0), (.int .i64 p1.Y0), (.int .i64 p1.X1), (.int .i64 p1.Y1)] 38)]) _
    refine Tr.asg rfl rfl ?_
    refine Tr.nil (Tr.normThen ?_)
    refine Tr.ret ?_
    obtain rfl := Option.some.inj H
    exact Tr.out (m := [(.bool ((((decide ((w64 (p0.X1 + p2)) ≤ p1.X0)) || (decide ((w64 (p1.X1 + p2)) ≤ p0.X0))) || (decide ((w64 (p0.Y1 + p2)) ≤ p1.Y0))) || (decide ((w64 (p1.Y1 + p2)) ≤ p0.Y0))))]) [] (res_tmp rfl res_nil) (fun W hW => ⟨rfl, hW.low leB⟩)

theorem F_panel_cells_1_ok {w : Bs} (p0 : TRect) (q0 : TRect) (bq0 : Nat) (hb0 : w.R bq0) (hc0 : CellsAt w.W bq0 0 [(.int .i64 q0.X0), (.int .i64 q0.Y0), (.int .i64 q0.X1), (.int .i64 q0.Y1)]) (q1 : TPanel) (Aq1_0 : Option Addr) (cq1_0 : Nat) (hq1_0 : Sl w.R w.W fl_TBoardKind Aq1_0 cq1_0 q1.Kinds) (Aq1_1 : Option Addr) (cq1_1 : Nat) (hq1_1 : Sl w.R w.W fl_TSlot Aq1_1 cq1_1 q1.Slots) (Aq1_2 : Option Addr) (cq1_2 : Nat) (hq1_2 : Sl w.R w.W fl_TPoint Aq1_2 cq1_2 q1.Marks) (bq1 : Nat) (hb1 : w.R bq1) (hc1 : CellsAt w.W bq1 0 [(.int .i64 q1.W), (.int .i64 q1.H), (.int .i64 q1.Rail), (.int .i64 q1.Gap), (.slice Aq1_0 (q1.Kinds).length cq1_0), (.slice Aq1_1 (q1.Slots).length cq1_1), (.slice Aq1_2 (q1.Marks).length cq1_2)]) (r : Bool) (H : F_panel_cells_1 p0 q0 q1 = some r) (hE : HF w w.W E0) : Calls Try.prog 74 [(.agg #[(.int .i64 p0.X0), (.int .i64 p0.Y0), (.int .i64 p0.X1), (.int .i64 p0.Y1)]), (.pointer (some ⟨bq0, 0, none⟩)), (.pointer (some ⟨bq1, 0, none⟩))].toArray w.W fun e W' => e = .returned (.bool r) ∧ HF w W' E0 := by
 unfold F_panel_cells_1 at H
 have leB := Bs.Le.refl w
 refine Tr.enter (n := 11) Try.func74 rfl rfl rfl hE ?_
 refine Tr.sr ?_
 refine Tr.box 1 (cs := [(.int .i64 p0.X0), (.int .i64 p0.Y0), (.int .i64 p0.X1), (.int .i64 p0.Y1)]) (wn rfl) rfl rfl rfl fun b100 => ?_
 refine Tr.asg rfl rfl ?_
 refine Tr.nil (Tr.normThen ?_)
 refine Tr.sr ?_
 refine Tr.va rfl (fun _ _ h1 h2 => run_loadN (cs := [(.int .i64 q0.X0), (.int .i64 q0.Y0), (.int .i64 q0.X1), (.int .i64 q0.Y1)]) ag_38 sz_38 (h1.ev rfl) (CellsAt.take (rdR hb0 hc0 h2) 4) rfl) ?_
 refine Tr.va rfl (fun _ _ h1 h2 => run_loadN (cs := [(.int .i64 p0.X0), (.int .i64 p0.Y0), (.int .i64 p0.X1), (.int .i64 p0.Y1)]) ag_38 sz_38 (h1.ev rfl) (CellsAt.take (rdb h2 (vs := [(.int .i64 p0.X0), (.int .i64 p0.Y0), (.int .i64 p0.X1), (.int .i64 p0.Y1)]) (k := 1) rfl 0) 4) rfl) ?_
 refine Tr.va rfl (fun _ _ h1 h2 => run_fieldAddr fo_26_3 (h1.ev rfl)) ?_
 refine Tr.va rfl (fun _ _ h1 h2 => run_load1 ag_3 (h1.ev rfl) (CellsAt.drop (rdR hb1 hc1 h2) 3) rfl) ?_
 obtain ⟨y101, hy101, H⟩ := bnd H
 refine Tr.call0 (r := (.bool y101)) (wn rfl) rfl Try.call75 (evl_cons rfl (evl_cons rfl (evl_cons rfl evl_nil))) (fun W hW => F_panel_isApart_ok q0 p0 q1.Gap y101 hy101 (HF.start _)) ?_
 refine Tr.va rfl (fun _ _ h1 h2 => run_not (h1.ev rfl)) ?_
 refine Tr.asg rfl rfl ?_
 refine Tr.nil (Tr.normThen ?_)
 refine Tr.ret ?_
 obtain rfl := Option.some.inj H
 exact Tr.out (m := [(.bool (!y101))]) [] (res_tmp rfl res_nil) (fun W hW => ⟨rfl, hW.low leB⟩)

theorem F_slices_IndexFunc_Rect_ok {w : Bs} (p0 : (List TRect)) (Ap0_0 : Option Addr) (cp0_0 : Nat) (hp0_0 : Sl w.R w.W fl_TRect Ap0_0 cp0_0 p0) (p1 : TRect → Option Bool) (fid1 : Nat) (cap1 : List Value) (hg1 : ∀ args W, (callFunc fid1 args).run Try.prog W = .ok (.enter fid1 args) W) (hf1 : ∀ (w' : Bs), w.Ext w' → ∀ (z0 : TRect), ∀ y, p1 z0 = some y → Calls Try.prog fid1 (([(.agg #[(.int .i64 z0.X0), (.int .i64 z0.Y0), (.int .i64 z0.X1), (.int .i64 z0.Y1)])] : List Value) ++ cap1).toArray w'.W fun e W'' => e = .returned (.bool y) ∧ HF w' W'' E0) (r : Int) (H : F_slices_IndexFunc_Rect p0 p1 = some r) (hE : HF w w.W E0) : Calls Try.prog 61 [(.slice Ap0_0 (p0).length cp0_0), (.func (.func fid1) #[] cap1.toArray)].toArray w.W fun e W' => e = .returned (.int .i64 r) ∧ HF w W' E0 := by
 unfold F_slices_IndexFunc_Rect at H
 have leB := Bs.Le.refl w
 refine Tr.enter (n := 19) Try.func61 rfl rfl rfl hE ?_
 refine Tr.sr ?_
 refine Tr.asg rfl rfl ?_
 refine Tr.nil (Tr.normThen ?_)
 refine Tr.seq ?_
 refine Tr.sr ?_
 refine Tr.mv rfl rfl ?_
 refine Tr.va rfl (fun _ _ h1 h2 => run_len un_32 (h1.ev rfl)) ?_
 refine Tr.mv rfl rfl ?_
 refine Tr.nil (Tr.normThen ?_)
 refine Tr.block ?_
 refine Tr.loop (σ := (List TRect) × Nat) (fun m w s => m = s.1.length + 1 ∧ s.1 = List.drop s.2 p0 ∧ s.2 ≤ p0.length ∧ F_slices_IndexFunc_Rect_L1 p1 s.1 s.2 = some r) (fun s => [(0, (.slice Ap0_0 (p0).length cp0_0)), (1, (.func (.func fid1) #[] cap1.toArray)), (7, (.int .i64 (p0.length : Int))), (8, (.int .i64 (s.2 : Int)))]) (fun s => []) (p0.length + 1) (p0, 0) ⟨rfl, rfl, Nat.zero_le _, H⟩ (.cons rfl (.cons rfl (.cons rfl (.cons rfl .nil)))) .nil (fun _ _ h => absurd h.1 (by simp)) ?_
 intro w leF_slices_IndexFunc_Rect_L1 m s hs
 obtain ⟨restF_slices_IndexFunc_Rect_L1, iF_slices_IndexFunc_Rect_L1⟩ := s
 obtain ⟨hmF_slices_IndexFunc_Rect_L1, hdF_slices_IndexFunc_Rect_L1, hiF_slices_IndexFunc_Rect_L1, H⟩ := hs
 replace hdF_slices_IndexFunc_Rect_L1 : restF_slices_IndexFunc_Rect_L1 = List.drop iF_slices_IndexFunc_Rect_L1 p0 := hdF_slices_IndexFunc_Rect_L1
 replace H : F_slices_IndexFunc_Rect_L1 p1 restF_slices_IndexFunc_Rect_L1 iF_slices_IndexFunc_Rect_L1 = some r := H
 replace hmF_slices_IndexFunc_Rect_L1 : m + 1 = restF_slices_IndexFunc_Rect_L1.length + 1 := hmF_slices_IndexFunc_Rect_L1
 replace hp0_0 := hp0_0.leR leF_slices_IndexFunc_Rect_L1
 replace hf1 := fun w' he => hf1 w' (leF_slices_IndexFunc_Rect_L1.ext.trans he)
 replace leB := leB.trans leF_slices_IndexFunc_Rect_L1
 obtain rfl : m = restF_slices_IndexFunc_Rect_L1.length := by omega
 clear hmF_slices_IndexFunc_Rect_L1
 show Tr _ _ (LF [(0, (.slice Ap0_0 (p0).length cp0_0)), (1, (.func (.func fid1) #[] cap1.toArray)), (7, (.int .i64 (p0.length : Int))), (8, (.int .i64 (iF_slices_IndexFunc_Rect_L1 : Int)))]) (LE []) _
 cases restF_slices_IndexFunc_Rect_L1 with
 | nil =>
  rw [F_slices_IndexFunc_Rect_L1.eq_1] at H
  refine Tr.sr ?_
  refine Tr.va rfl (fun _ _ h1 h2 => run_lss (h1.ev rfl) (h1.ev rfl)) ?_
  refine Tr.nil (Tr.normThen ?_)
  refine Tr.seq ?_
  refine Tr.condF rfl (range_nil hdF_slices_IndexFunc_Rect_L1) ?_
  refine Tr.exit (Tr.exitThen (Tr.exitThen (Tr.exitBlock (Tr.normThen ?_))))
  refine Tr.sr ?_
  refine Tr.asg rfl rfl ?_
  refine Tr.nil (Tr.normThen ?_)
  refine Tr.ret ?_
  obtain rfl := Option.some.inj H
  exact Tr.out (m := [(.int .i64 (-1))]) [] (res_tmp rfl res_nil) (fun W hW => ⟨rfl, hW.low leB⟩)
 | cons xF_slices_IndexFunc_Rect_L1 restF_slices_IndexFunc_Rect_L1 =>
  rw [F_slices_IndexFunc_Rect_L1.eq_2] at H
  refine Tr.sr ?_
  refine Tr.va rfl (fun _ _ h1 h2 => run_lss (h1.ev rfl) (h1.ev rfl)) ?_
  refine Tr.nil (Tr.normThen ?_)
  refine Tr.seq ?_
  refine Tr.condT rfl (range_on hdF_slices_IndexFunc_Rect_L1) ?_
  refine Tr.skip (Tr.normThen ?_)
  refine Tr.seq ?_
  refine Tr.block ?_
  refine Tr.sr ?_
  refine Tr.mv rfl rfl ?_
  refine Tr.asg rfl rfl ?_
  refine Tr.nil (Tr.normThen ?_)
  refine Tr.sr ?_
  refine Tr.mv rfl rfl ?_
  refine Tr.mv rfl rfl ?_
  refine Tr.mv rfl rfl ?_
  refine Tr.va rfl (fun _ _ h1 h2 => run_indexAddr el_32 (h1.ev rfl) hp0_0.form (h1.ev rfl) (Int.natCast_nonneg _) (range_lt hdF_slices_IndexFunc_Rect_L1)) ?_
  refine Tr.va rfl (fun _ _ h1 h2 => run_loadN (cs := [(.int .i64 xF_slices_IndexFunc_Rect_L1.X0), (.int .i64 xF_slices_IndexFunc_Rect_L1.Y0), (.int .i64 xF_slices_IndexFunc_Rect_L1.X1), (.int .i64 xF_slices_IndexFunc_Rect_L1.Y1)]) ag_38 sz_38 (h1.ev rfl) (CellsAt.take (rdF ef_TRect hp0_0 (range_at hdF_slices_IndexFunc_Rect_L1) h2) 4) rfl) ?_
  obtain ⟨y103, hy103, H⟩ := bnd H
  refine Tr.callF (r := (.bool y103)) (wn rfl) rfl rfl hg1 (evl_cons rfl evl_nil) (fun W hW => hf1 hW.all hW.extAll xF_slices_IndexFunc_Rect_L1 _ hy103) ?_
  refine Tr.nil (Tr.normThen ?_)
  refine Tr.cond rfl H (fun H => ?_) (fun H => ?_)
  ·refine Tr.sr ?_
   refine Tr.mv rfl rfl ?_
   refine Tr.asg rfl rfl ?_
   refine Tr.nil (Tr.normThen ?_)
   refine Tr.ret (Tr.retBlock (Tr.retThen (Tr.retThen (Tr.retBlock (Tr.retThen ?_)))))
   obtain rfl := Option.some.inj H
   exact Tr.out (m := [(.int .i64 (iF_slices_IndexFunc_Rect_L1 : Int))]) [] (res_tmp rfl res_nil) (fun W hW => ⟨rfl, hW.low leB⟩)
  ·refine Tr.skip (Tr.normBlock (Tr.normThen ?_))
   refine Tr.region ?_
   refine Tr.va rfl (fun _ _ h1 h2 => run_add (h1.ev rfl) (h1.ev rfl)) ?_
   refine Tr.mv rfl rfl ?_
   refine Tr.nil ?_
   exact Tr.backThen leF_slices_IndexFunc_Rect_L1 (restF_slices_IndexFunc_Rect_L1, (iF_slices_IndexFunc_Rect_L1 + 1)) ⟨rfl, range_tl hdF_slices_IndexFunc_Rect_L1, range_lt hdF_slices_IndexFunc_Rect_L1, H⟩ (.cons rfl (.cons rfl (.cons rfl (.cons (congrArg (fun z => some (Value.int .i64 z)) (range_up hdF_slices_IndexFunc_Rect_L1 hp0_0.form)) .nil)))) .nil

theorem F_slices_ContainsFunc_Rect_ok {w : Bs} (p0 : (List TRect)) (Ap0_0 : Option Addr) (cp0_0 : Nat) (hp0_0 : Sl w.R w.W fl_TRect Ap0_0 cp0_0 p0) (p1 : TRect → Option Bool) (fid1 : Nat) (cap1 : List Value) (hg1 : ∀ args W, (callFunc fid1 args).run Try.prog W = .ok (.enter fid1 args) W) (hf1 : ∀ (w' : Bs), w.Ext w' → ∀ (z0 : TRect), ∀ y, p1 z0 = some y → Calls Try.prog fid1 (([(.agg #[(.int .i64 z0.X0), (.int .i64 z0.Y0), (.int .i64 z0.X1), (.int .i64 z0.Y1)])] : List Value) ++ cap1).toArray w'.W fun e W'' => e = .returned (.bool y) ∧ HF w' W'' E0) (r : Bool) (H : F_slices_ContainsFunc_Rect p0 p1 = some r) (hE : HF w w.W E0) : Calls Try.prog 31 [(.slice Ap0_0 (p0).length cp0_0), (.func (.func fid1) #[] cap1.toArray)].toArray w.W fun e W' => e = .returned (.bool r) ∧ HF w W' E0 := by
 unfold F_slices_ContainsFunc_Rect at H
 have leB := Bs.Le.refl w
 refine Tr.enter (n := 9) Try.func31 rfl rfl rfl hE ?_
 refine Tr.sr ?_
 refine Tr.asg rfl rfl ?_
 refine Tr.nil (Tr.normThen ?_)
 refine Tr.sr ?_
 refine Tr.mv rfl rfl ?_
 refine Tr.mv rfl rfl ?_
 obtain ⟨y100, hy100, H⟩ := bnd H
 refine Tr.call0 (r := (.int .i64 y100)) (wn rfl) rfl Try.call61 (evl_cons rfl (evl_cons rfl evl_nil)) (fun W hW => F_slices_IndexFunc_Rect_ok p0 Ap0_0 cp0_0 (hp0_0.ext hW.extAll) p1 fid1 cap1 hg1 (fun w' he => hf1 w' (hW.extAll.trans he)) y100 hy100 (HF.start _)) ?_
 refine Tr.va rfl (fun _ _ h1 h2 => run_geq (h1.ev rfl) (h1.ev rfl)) ?_
 refine Tr.asg rfl rfl ?_
 refine Tr.nil (Tr.normThen ?_)
 refine Tr.ret ?_
 obtain rfl := Option.some.inj H
 exact Tr.out (m := [(.bool (decide (0 ≤ y100)))]) [] (res_tmp rfl res_nil) (fun W hW => ⟨rfl, hW.low leB⟩)

theorem F_panel_cells_ok {w : Bs} (p0 : TPanel) (Ap0_0 : Option Addr) (cp0_0 : Nat) (hp0_0 : Sl w.R w.W fl_TBoardKind Ap0_0 cp0_0 p0.Kinds) (Ap0_1 : Option Addr) (cp0_1 : Nat) (hp0_1 : Sl w.R w.W fl_TSlot Ap0_1 cp0_1 p0.Slots) (Ap0_2 : Option Addr) (cp0_2 : Nat) (hp0_2 : Sl w.R w.W fl_TPoint Ap0_2 cp0_2 p0.Marks) (r : ((List TRect) × Int)) (H : F_panel_cells p0 = some r) (hE : HF w w.W (LEn [emp])) : Calls Try.prog 52 [(.agg #[(.int .i64 p0.W), (.int .i64 p0.H), (.int .i64 p0.Rail), (.int .i64 p0.Gap), (.slice Ap0_0 (p0.Kinds).length cp0_0), (.slice Ap0_1 (p0.Slots).length cp0_1), (.slice Ap0_2 (p0.Marks).length cp0_2)])].toArray w.W fun e W' => ∃ u : (Option Addr × Nat), e = .returned (.tuple #[(.slice u.1 (r.1).length u.2), (.int .i64 r.2)]) ∧ (SlF u.1 (r.1).length u.2) ∧ HF w W' (LEn [ow u.1 u.2 38 fl_TRect r.1]) := by
 unfold F_panel_cells at H
 have leB := Bs.Le.refl w
 refine Tr.enter (n := 62) Try.func52 rfl rfl rfl hE ?_
 refine Tr.sr ?_
 refine Tr.box 1 (cs := [(.int .i64 p0.W), (.int .i64 p0.H), (.int .i64 p0.Rail), (.int .i64 p0.Gap), (.slice Ap0_0 (p0.Kinds).length cp0_0), (.slice Ap0_1 (p0.Slots).length cp0_1), (.slice Ap0_2 (p0.Marks).length cp0_2)]) (wn rfl) rfl rfl rfl fun b100 => ?_
 refine Tr.asg rfl rfl ?_
 refine Tr.nilOwn 2 38 fl_TRect ?_
 show Tr _ _ (uf _ 2 (.slice none (([] : List TRect)).length 0)) _ _
 refine Tr.asg rfl rfl ?_
 refine Tr.nil (Tr.normThen ?_)
 refine Tr.seq ?_
 refine Tr.sr ?_
 refine Tr.va rfl (fun _ _ h1 h2 => run_fieldAddr fo_26_5 (h1.ev rfl)) ?_
 refine Tr.va rfl (fun _ _ h1 h2 => run_load1 ag_23 (h1.ev rfl) (rdb h2 (vs := [(.int .i64 p0.W), (.int .i64 p0.H), (.int .i64 p0.Rail), (.int .i64 p0.Gap), (.slice Ap0_0 (p0.Kinds).length cp0_0), (.slice Ap0_1 (p0.Slots).length cp0_1), (.slice Ap0_2 (p0.Marks).length cp0_2)]) (k := 1) rfl 5) rfl) ?_
 refine Tr.va rfl (fun _ _ h1 h2 => run_len un_23 (h1.ev rfl)) ?_
 refine Tr.va rfl (fun _ _ h1 h2 => run_gtr (h1.ev rfl) (h1.ev rfl)) ?_
 refine Tr.nil (Tr.normThen ?_)
 refine Tr.cond rfl H (fun H => ?_) (fun H => ?_)
 ·refine Tr.sr ?_
  refine Tr.asg rfl rfl ?_
  refine Tr.nilOwn 3 38 fl_TRect ?_
  show Tr _ _ (uf _ 2 (.slice none (([] : List TRect)).length 0)) _ _
  refine Tr.asg rfl rfl ?_
  refine Tr.nil (Tr.normThen ?_)
  refine Tr.ret (Tr.retThen ?_)
  obtain rfl := Option.some.inj H
  exact Tr.out (m := [(.slice none (([] : List TRect)).length 0), (.int .i64 2)]) [] (res_tmp rfl (res_tmp rfl res_nil)) (fun W hW => ⟨(none, 0), rfl, slf_nil, HF.lowE leB (hW.pick (ks := [3]) (by decide) (pk_cons rfl pk_nil)) ⟨ow_any _ _ _ _ tr_TRect, trivial⟩⟩)
 ·refine Tr.skip (Tr.normThen ?_)
  refine Tr.sr ?_
  refine Tr.asg rfl rfl ?_
  refine Tr.nilOwn 4 38 fl_TRect ?_
  show Tr _ _ (uf _ 4 (.slice none (([] : List TRect)).length 0)) _ _
  refine Tr.nil (Tr.normThen ?_)
  refine Tr.seq ?_
  refine Tr.sr ?_
  refine Tr.va rfl (fun _ _ h1 h2 => run_fieldAddr fo_26_5 (h1.ev rfl)) ?_
  refine Tr.va rfl (fun _ _ h1 h2 => run_load1 ag_23 (h1.ev rfl) (rdb h2 (vs := [(.int .i64 p0.W), (.int .i64 p0.H), (.int .i64 p0.Rail), (.int .i64 p0.Gap), (.slice Ap0_0 (p0.Kinds).length cp0_0), (.slice Ap0_1 (p0.Slots).length cp0_1), (.slice Ap0_2 (p0.Marks).length cp0_2)]) (k := 1) rfl 5) rfl) ?_
  refine Tr.va rfl (fun _ _ h1 h2 => run_len un_23 (h1.ev rfl)) ?_
  refine Tr.mv rfl rfl ?_
  refine Tr.nil (Tr.normThen ?_)
  refine Tr.block ?_
  refine Tr.loop (σ := (List TSlot) × Nat × (List TRect) × (Option Addr) × Nat) (fun m w s => m = s.1.length + 1 ∧ s.1 = List.drop s.2.1 p0.Slots ∧ s.2.1 ≤ p0.Slots.length ∧ F_panel_cells_L1 p0 s.1 s.2.1 s.2.2.1 = some r ∧ SlF s.2.2.2.1 (s.2.2.1).length s.2.2.2.2) (fun s => [(1, (.pointer (some ⟨b100, 0, none⟩))), (4, (.slice s.2.2.2.1 (s.2.2.1).length s.2.2.2.2)), (13, (.slice Ap0_1 (p0.Slots).length cp0_1)), (14, (.int .i64 (p0.Slots.length : Int))), (15, (.int .i64 (s.2.1 : Int)))]) (fun s => [(1, bx b100 #[(.int .i64 p0.W), (.int .i64 p0.H), (.int .i64 p0.Rail), (.int .i64 p0.Gap), (.slice Ap0_0 (p0.Kinds).length cp0_0), (.slice Ap0_1 (p0.Slots).length cp0_1), (.slice Ap0_2 (p0.Marks).length cp0_2)] 26), (4, ow s.2.2.2.1 s.2.2.2.2 38 fl_TRect s.2.2.1)]) (p0.Slots.length + 1) (p0.Slots, 0, ([] : List TRect), none, 0) ⟨rfl, rfl, Nat.zero_le _, H, slf_nil⟩ (.cons rfl (.cons rfl (.cons rfl (.cons rfl (.cons rfl .nil))))) (.cons rfl (.cons rfl .nil)) (fun _ _ h => absurd h.1 (by simp)) ?_
  intro w leF_panel_cells_L1 m s hs
  obtain ⟨restF_panel_cells_L1, iF_panel_cells_L1, l139, Al139, cl139⟩ := s
  obtain ⟨hmF_panel_cells_L1, hdF_panel_cells_L1, hiF_panel_cells_L1, H, hl139⟩ := hs
  replace hdF_panel_cells_L1 : restF_panel_cells_L1 = List.drop iF_panel_cells_L1 p0.Slots := hdF_panel_cells_L1
  replace H : F_panel_cells_L1 p0 restF_panel_cells_L1 iF_panel_cells_L1 l139 = some r := H
  replace hmF_panel_cells_L1 : m + 1 = restF_panel_cells_L1.length + 1 := hmF_panel_cells_L1
  replace hp0_0 := hp0_0.leR leF_panel_cells_L1
  replace hp0_1 := hp0_1.leR leF_panel_cells_L1
  replace hp0_2 := hp0_2.leR leF_panel_cells_L1
  replace leB := leB.trans leF_panel_cells_L1
  replace hl139 : SlF Al139 (l139).length cl139 := hl139
  obtain rfl : m = restF_panel_cells_L1.length := by omega
  clear hmF_panel_cells_L1
  show Tr _ _ (LF [(1, (.pointer (some ⟨b100, 0, none⟩))), (4, (.slice Al139 (l139).length cl139)), (13, (.slice Ap0_1 (p0.Slots).length cp0_1)), (14, (.int .i64 (p0.Slots.length : Int))), (15, (.int .i64 (iF_panel_cells_L1 : Int)))]) (LE [(1, bx b100 #[(.int .i64 p0.W), (.int .i64 p0.H), (.int .i64 p0.Rail), (.int .i64 p0.Gap), (.slice Ap0_0 (p0.Kinds).length cp0_0), (.slice Ap0_1 (p0.Slots).length cp0_1), (.slice Ap0_2 (p0.Marks).length cp0_2)] 26), (4, ow Al139 cl139 38 fl_TRect l139)]) _
  cases restF_panel_cells_L1 with
  | nil =>
   rw [F_panel_cells_L1.eq_1] at H
   refine Tr.sr ?_
   refine Tr.va rfl (fun _ _ h1 h2 => run_lss (h1.ev rfl) (h1.ev rfl)) ?_
   refine Tr.nil (Tr.normThen ?_)
   refine Tr.seq ?_
   refine Tr.condF rfl (range_nil hdF_panel_cells_L1) ?_
   refine Tr.exit (Tr.exitThen (Tr.exitThen (Tr.exitBlock (Tr.normThen ?_))))
   refine Tr.sr ?_
   refine Tr.mv rfl rfl ?_
   refine Tr.asg rfl rfl ?_
   refine Tr.asg rfl rfl ?_
   refine Tr.nil (Tr.normThen ?_)
   refine Tr.ret ?_
   obtain rfl := Option.some.inj H
   exact Tr.out (m := [(.slice Al139 (l139).length cl139), (.int .i64 0)]) [] (res_tmp rfl (res_tmp rfl res_nil)) (fun W hW => ⟨(Al139, cl139), rfl, hl139, HF.lowE leB (hW.pick (ks := [4]) (by decide) (pk_cons rfl pk_nil)) ⟨ow_any _ _ _ _ tr_TRect, trivial⟩⟩)
  | cons xF_panel_cells_L1 restF_panel_cells_L1 =>
   rw [F_panel_cells_L1.eq_2] at H
   refine Tr.sr ?_
   refine Tr.va rfl (fun _ _ h1 h2 => run_lss (h1.ev rfl) (h1.ev rfl)) ?_
   refine Tr.nil (Tr.normThen ?_)
   refine Tr.seq ?_
   refine Tr.condT rfl (range_on hdF_panel_cells_L1) ?_
   refine Tr.skip (Tr.normThen ?_)
   refine Tr.seq ?_
   refine Tr.block ?_
   refine Tr.sr ?_
   refine Tr.va rfl (fun _ _ h1 h2 => run_indexAddr el_23 (h1.ev rfl) hp0_1.form (h1.ev rfl) (Int.natCast_nonneg _) (range_lt hdF_panel_cells_L1)) ?_
   refine Tr.va rfl (fun _ _ h1 h2 => run_loadN (cs := [(.string xF_panel_cells_L1.Board), (.int .i64 xF_panel_cells_L1.Quarters), (.int .i64 xF_panel_cells_L1.At.X), (.int .i64 xF_panel_cells_L1.At.Y)]) ag_96 sz_96 (h1.ev rfl) (CellsAt.take (rdF ef_TSlot hp0_1 (range_at hdF_panel_cells_L1) h2) 4) rfl) ?_
   refine Tr.alloc 19 (wn rfl) rfl ze_96 fun b140 => ?_
   refine Tr.store 19 (cs := [(.string xF_panel_cells_L1.Board), (.int .i64 xF_panel_cells_L1.Quarters), (.int .i64 xF_panel_cells_L1.At.X), (.int .i64 xF_panel_cells_L1.At.Y)]) [(.string xF_panel_cells_L1.Board), (.int .i64 xF_panel_cells_L1.Quarters), (.int .i64 xF_panel_cells_L1.At.X), (.int .i64 xF_panel_cells_L1.At.Y)] (wn rfl) rfl rfl rfl rfl sz_96 rfl rfl rfl ?_
   refine Tr.nil (Tr.normThen ?_)
   refine Tr.seq ?_
   refine Tr.sr ?_
   refine Tr.va rfl (fun _ _ h1 h2 => run_loadN (cs := [(.int .i64 p0.W), (.int .i64 p0.H), (.int .i64 p0.Rail), (.int .i64 p0.Gap), (.slice Ap0_0 (p0.Kinds).length cp0_0), (.slice Ap0_1 (p0.Slots).length cp0_1), (.slice Ap0_2 (p0.Marks).length cp0_2)]) ag_26 sz_26 (h1.ev rfl) (CellsAt.take (rdb h2 (vs := [(.int .i64 p0.W), (.int .i64 p0.H), (.int .i64 p0.Rail), (.int .i64 p0.Gap), (.slice Ap0_0 (p0.Kinds).length cp0_0), (.slice Ap0_1 (p0.Slots).length cp0_1), (.slice Ap0_2 (p0.Marks).length cp0_2)]) (k := 1) rfl 0) 7) rfl) ?_
   refine Tr.va rfl (fun _ _ h1 h2 => run_fieldAddr fo_96_0 (h1.ev rfl)) ?_
   refine Tr.va rfl (fun _ _ h1 h2 => run_load1 ag_9 (h1.ev rfl) (rdb h2 (vs := [(.string xF_panel_cells_L1.Board), (.int .i64 xF_panel_cells_L1.Quarters), (.int .i64 xF_panel_cells_L1.At.X), (.int .i64 xF_panel_cells_L1.At.Y)]) (k := 19) rfl 0) rfl) ?_
   obtain ⟨y141, hy141, H⟩ := bnd H
   refine Tr.call0 (r := (.int .i64 y141)) (wn rfl) rfl Try.call71 (evl_cons rfl (evl_cons rfl evl_nil)) (fun W hW => F_panel_kindAt_ok p0 Ap0_0 cp0_0 (hp0_0.ext hW.extAll) Ap0_1 cp0_1 (hp0_1.ext hW.extAll) Ap0_2 cp0_2 (hp0_2.ext hW.extAll) xF_panel_cells_L1.Board y141 hy141 (HF.start _)) ?_
   refine Tr.va rfl (fun _ _ h1 h2 => run_lss (h1.ev rfl) (h1.ev rfl)) ?_
   refine Tr.nil (Tr.normThen ?_)
   refine Tr.cond rfl H (fun H => ?_) (fun H => ?_)
   ·refine Tr.sr ?_
    refine Tr.asg rfl rfl ?_
    refine Tr.nilOwn 20 38 fl_TRect ?_
    show Tr _ _ (uf _ 2 (.slice none (([] : List TRect)).length 0)) _ _
    refine Tr.asg rfl rfl ?_
    refine Tr.nil (Tr.normThen ?_)
    refine Tr.ret (Tr.retThen (Tr.retBlock (Tr.retThen (Tr.retThen (Tr.retBlock (Tr.retThen ?_))))))
    obtain rfl := Option.some.inj H
    exact Tr.out (m := [(.slice none (([] : List TRect)).length 0), (.int .i64 5)]) [] (res_tmp rfl (res_tmp rfl res_nil)) (fun W hW => ⟨(none, 0), rfl, slf_nil, HF.lowE leB (hW.pick (ks := [20]) (by decide) (pk_cons rfl pk_nil)) ⟨ow_any _ _ _ _ tr_TRect, trivial⟩⟩)
   ·refine Tr.skip (Tr.normThen ?_)
    refine Tr.seq ?_
    refine Tr.sr ?_
    refine Tr.va rfl (fun _ _ h1 h2 => run_fieldAddr fo_96_1 (h1.ev rfl)) ?_
    refine Tr.va rfl (fun _ _ h1 h2 => run_load1 ag_3 (h1.ev rfl) (rdb h2 (vs := [(.string xF_panel_cells_L1.Board), (.int .i64 xF_panel_cells_L1.Quarters), (.int .i64 xF_panel_cells_L1.At.X), (.int .i64 xF_panel_cells_L1.At.Y)]) (k := 19) rfl 1) rfl) ?_
    obtain ⟨y142, hy142, H⟩ := bnd H
    refine Tr.call0 (r := (.bool y142)) (wn rfl) rfl Try.call50 (evl_cons rfl (evl_cons rfl (evl_cons rfl evl_nil))) (fun W hW => F_panel_within_ok xF_panel_cells_L1.Quarters 0 3 y142 hy142 (HF.start _)) ?_
    refine Tr.va rfl (fun _ _ h1 h2 => run_not (h1.ev rfl)) ?_
    refine Tr.mv rfl rfl ?_
    obtain ⟨g144, hg144, H⟩ := bnd H
    refine Tr.mid0 8 [(1, (.pointer (some ⟨b100, 0, none⟩))), (4, (.slice Al139 (l139).length cl139)), (6, (.pointer (some ⟨b140, 0, none⟩))), (13, (.slice Ap0_1 (p0.Slots).length cp0_1)), (14, (.int .i64 (p0.Slots.length : Int))), (15, (.int .i64 (iF_panel_cells_L1 : Int))), (36, (.bool g144))] [(1, bx b100 #[(.int .i64 p0.W), (.int .i64 p0.H), (.int .i64 p0.Rail), (.int .i64 p0.Gap), (.slice Ap0_0 (p0.Kinds).length cp0_0), (.slice Ap0_1 (p0.Slots).length cp0_1), (.slice Ap0_2 (p0.Marks).length cp0_2)] 26), (4, ow Al139 cl139 38 fl_TRect l139), (19, bx b140 #[(.string xF_panel_cells_L1.Board), (.int .i64 xF_panel_cells_L1.Quarters), (.int .i64 xF_panel_cells_L1.At.X), (.int .i64 xF_panel_cells_L1.At.Y)] 96)] ?_ ?_
    ·cases hg154 : (!y142)
     ·rw [hg154] at hg144
      rw [if_neg (by decide)] at hg144
      have H := hg144
      refine Tr.val (wg rfl rfl rfl) rfl (fun _ _ h1 h2 => run_fieldAddr fo_96_2 (h1.ev rfl)) ?_
      refine Tr.val (wg rfl rfl rfl) rfl (fun _ _ h1 h2 => run_fieldAddr fo_82_0 (h1.ev rfl)) ?_
      refine Tr.val (wg rfl rfl rfl) rfl (fun _ _ h1 h2 => run_load1 ag_3 (h1.ev rfl) (rdb h2 (vs := [(.string xF_panel_cells_L1.Board), (.int .i64 xF_panel_cells_L1.Quarters), (.int .i64 xF_panel_cells_L1.At.X), (.int .i64 xF_panel_cells_L1.At.Y)]) (k := 19) rfl 2) rfl) ?_
      refine Tr.val (wg rfl rfl rfl) rfl (fun _ _ h1 h2 => run_fieldAddr fo_26_0 (h1.ev rfl)) ?_
      refine Tr.val (wg rfl rfl rfl) rfl (fun _ _ h1 h2 => run_load1 ag_3 (h1.ev rfl) (rdb h2 (vs := [(.int .i64 p0.W), (.int .i64 p0.H), (.int .i64 p0.Rail), (.int .i64 p0.Gap), (.slice Ap0_0 (p0.Kinds).length cp0_0), (.slice Ap0_1 (p0.Slots).length cp0_1), (.slice Ap0_2 (p0.Marks).length cp0_2)]) (k := 1) rfl 0) rfl) ?_
      obtain ⟨y145, hy145, H⟩ := bnd H
      refine Tr.call0 (r := (.bool y145)) (wg rfl rfl rfl) rfl Try.call50 (evl_cons rfl (evl_cons rfl (evl_cons rfl evl_nil))) (fun W hW => F_panel_within_ok xF_panel_cells_L1.At.X 0 p0.W y145 hy145 (HF.start _)) ?_
      refine Tr.val (wg rfl rfl rfl) rfl (fun _ _ h1 h2 => run_not (h1.ev rfl)) ?_
      refine Tr.va rfl (fun _ _ h1 h2 => run_pickF (h1.ev rfl) (h1.ev rfl)) ?_
      obtain rfl := Option.some.inj H
      exact Tr.nil (Tr.fin0 (.cons rfl (.cons rfl (.cons rfl (.cons rfl (.cons rfl (.cons rfl (.cons rfl .nil))))))) (.cons rfl (.cons rfl (.cons rfl .nil))))
     ·rw [hg154] at hg144
      rw [if_pos rfl] at hg144
      have H := hg144
      obtain rfl := Option.some.inj H
      refine Tr.pass rfl rfl rfl rfl rfl (by decide) ?_
      refine Tr.pass rfl rfl rfl rfl rfl (by decide) ?_
      refine Tr.pass rfl rfl rfl rfl rfl (by decide) ?_
      refine Tr.pass rfl rfl rfl rfl rfl (by decide) ?_
      refine Tr.pass rfl rfl rfl rfl rfl (by decide) ?_
      refine Tr.pass rfl rfl rfl rfl rfl (by decide) ?_
      refine Tr.pass rfl rfl rfl rfl rfl (by decide) ?_
      refine Tr.va rfl (fun _ _ h1 h2 => run_pickT (h1.ev rfl) (h1.ev rfl)) ?_
      exact Tr.nil (Tr.fin0 (.cons rfl (.cons rfl (.cons rfl (.cons rfl (.cons rfl (.cons rfl (.cons rfl .nil))))))) (.cons rfl (.cons rfl (.cons rfl .nil))))
    ·show Tr _ _ (LF [(1, (.pointer (some ⟨b100, 0, none⟩))), (4, (.slice Al139 (l139).length cl139)), (6, (.pointer (some ⟨b140, 0, none⟩))), (13, (.slice Ap0_1 (p0.Slots).length cp0_1)), (14, (.int .i64 (p0.Slots.length : Int))), (15, (.int .i64 (iF_panel_cells_L1 : Int))), (36, (.bool g144))]) (LE [(1, bx b100 #[(.int .i64 p0.W), (.int .i64 p0.H), (.int .i64 p0.Rail), (.int .i64 p0.Gap), (.slice Ap0_0 (p0.Kinds).length cp0_0), (.slice Ap0_1 (p0.Slots).length cp0_1), (.slice Ap0_2 (p0.Marks).length cp0_2)] 26), (4, ow Al139 cl139 38 fl_TRect l139), (19, bx b140 #[(.string xF_panel_cells_L1.Board), (.int .i64 xF_panel_cells_L1.Quarters), (.int .i64 xF_panel_cells_L1.At.X), (.int .i64 xF_panel_cells_L1.At.Y)] 96)]) _
     refine Tr.mv rfl rfl ?_
     obtain ⟨g147, hg147, H⟩ := bnd H
     refine Tr.mid0 8 [(1, (.pointer (some ⟨b100, 0, none⟩))), (4, (.slice Al139 (l139).length cl139)), (6, (.pointer (some ⟨b140, 0, none⟩))), (13, (.slice Ap0_1 (p0.Slots).length cp0_1)), (14, (.int .i64 (p0.Slots.length : Int))), (15, (.int .i64 (iF_panel_cells_L1 : Int))), (45, (.bool g147))] [(1, bx b100 #[(.int .i64 p0.W), (.int .i64 p0.H), (.int .i64 p0.Rail), (.int .i64 p0.Gap), (.slice Ap0_0 (p0.Kinds).length cp0_0), (.slice Ap0_1 (p0.Slots).length cp0_1), (.slice Ap0_2 (p0.Marks).length cp0_2)] 26), (4, ow Al139 cl139 38 fl_TRect l139), (19, bx b140 #[(.string xF_panel_cells_L1.Board), (.int .i64 xF_panel_cells_L1.Quarters), (.int .i64 xF_panel_cells_L1.At.X), (.int .i64 xF_panel_cells_L1.At.Y)] 96)] ?_ ?_
     ·cases hg154 : g144
      ·rw [hg154] at hg147
       rw [if_neg (by decide)] at hg147
       have H := hg147
       refine Tr.val (wg rfl rfl rfl) rfl (fun _ _ h1 h2 => run_fieldAddr fo_96_2 (h1.ev rfl)) ?_
       refine Tr.val (wg rfl rfl rfl) rfl (fun _ _ h1 h2 => run_fieldAddr fo_82_1 (h1.ev rfl)) ?_
       refine Tr.val (wg rfl rfl rfl) rfl (fun _ _ h1 h2 => run_load1 ag_3 (h1.ev rfl) (rdb h2 (vs := [(.string xF_panel_cells_L1.Board), (.int .i64 xF_panel_cells_L1.Quarters), (.int .i64 xF_panel_cells_L1.At.X), (.int .i64 xF_panel_cells_L1.At.Y)]) (k := 19) rfl 3) rfl) ?_
       refine Tr.val (wg rfl rfl rfl) rfl (fun _ _ h1 h2 => run_fieldAddr fo_26_1 (h1.ev rfl)) ?_
       refine Tr.val (wg rfl rfl rfl) rfl (fun _ _ h1 h2 => run_load1 ag_3 (h1.ev rfl) (rdb h2 (vs := [(.int .i64 p0.W), (.int .i64 p0.H), (.int .i64 p0.Rail), (.int .i64 p0.Gap), (.slice Ap0_0 (p0.Kinds).length cp0_0), (.slice Ap0_1 (p0.Slots).length cp0_1), (.slice Ap0_2 (p0.Marks).length cp0_2)]) (k := 1) rfl 1) rfl) ?_
       obtain ⟨y148, hy148, H⟩ := bnd H
       refine Tr.call0 (r := (.bool y148)) (wg rfl rfl rfl) rfl Try.call50 (evl_cons rfl (evl_cons rfl (evl_cons rfl evl_nil))) (fun W hW => F_panel_within_ok xF_panel_cells_L1.At.Y 0 p0.H y148 hy148 (HF.start _)) ?_
       refine Tr.val (wg rfl rfl rfl) rfl (fun _ _ h1 h2 => run_not (h1.ev rfl)) ?_
       refine Tr.va rfl (fun _ _ h1 h2 => run_pickF (h1.ev rfl) (h1.ev rfl)) ?_
       obtain rfl := Option.some.inj H
       exact Tr.nil (Tr.fin0 (.cons rfl (.cons rfl (.cons rfl (.cons rfl (.cons rfl (.cons rfl (.cons rfl .nil))))))) (.cons rfl (.cons rfl (.cons rfl .nil))))
      ·rw [hg154] at hg147
       rw [if_pos rfl] at hg147
       have H := hg147
       obtain rfl := Option.some.inj H
       refine Tr.pass rfl rfl rfl rfl rfl (by decide) ?_
       refine Tr.pass rfl rfl rfl rfl rfl (by decide) ?_
       refine Tr.pass rfl rfl rfl rfl rfl (by decide) ?_
       refine Tr.pass rfl rfl rfl rfl rfl (by decide) ?_
       refine Tr.pass rfl rfl rfl rfl rfl (by decide) ?_
       refine Tr.pass rfl rfl rfl rfl rfl (by decide) ?_
       refine Tr.pass rfl rfl rfl rfl rfl (by decide) ?_
       refine Tr.va rfl (fun _ _ h1 h2 => run_pickT (h1.ev rfl) (h1.ev rfl)) ?_
       exact Tr.nil (Tr.fin0 (.cons rfl (.cons rfl (.cons rfl (.cons rfl (.cons rfl (.cons rfl (.cons rfl .nil))))))) (.cons rfl (.cons rfl (.cons rfl .nil))))
     ·show Tr _ _ (LF [(1, (.pointer (some ⟨b100, 0, none⟩))), (4, (.slice Al139 (l139).length cl139)), (6, (.pointer (some ⟨b140, 0, none⟩))), (13, (.slice Ap0_1 (p0.Slots).length cp0_1)), (14, (.int .i64 (p0.Slots.length : Int))), (15, (.int .i64 (iF_panel_cells_L1 : Int))), (45, (.bool g147))]) (LE [(1, bx b100 #[(.int .i64 p0.W), (.int .i64 p0.H), (.int .i64 p0.Rail), (.int .i64 p0.Gap), (.slice Ap0_0 (p0.Kinds).length cp0_0), (.slice Ap0_1 (p0.Slots).length cp0_1), (.slice Ap0_2 (p0.Marks).length cp0_2)] 26), (4, ow Al139 cl139 38 fl_TRect l139), (19, bx b140 #[(.string xF_panel_cells_L1.Board), (.int .i64 xF_panel_cells_L1.Quarters), (.int .i64 xF_panel_cells_L1.At.X), (.int .i64 xF_panel_cells_L1.At.Y)] 96)]) _
      refine Tr.nil (Tr.normThen ?_)
      refine Tr.cond rfl H (fun H => ?_) (fun H => ?_)
      ·refine Tr.sr ?_
       refine Tr.asg rfl rfl ?_
       refine Tr.nilOwn 21 38 fl_TRect ?_
       show Tr _ _ (uf _ 2 (.slice none (([] : List TRect)).length 0)) _ _
       refine Tr.asg rfl rfl ?_
       refine Tr.nil (Tr.normThen ?_)
       refine Tr.ret (Tr.retThen (Tr.retBlock (Tr.retThen (Tr.retThen (Tr.retBlock (Tr.retThen ?_))))))
       obtain rfl := Option.some.inj H
       exact Tr.out (m := [(.slice none (([] : List TRect)).length 0), (.int .i64 1)]) [] (res_tmp rfl (res_tmp rfl res_nil)) (fun W hW => ⟨(none, 0), rfl, slf_nil, HF.lowE leB (hW.pick (ks := [21]) (by decide) (pk_cons rfl pk_nil)) ⟨ow_any _ _ _ _ tr_TRect, trivial⟩⟩)
      ·refine Tr.skip (Tr.normThen ?_)
       refine Tr.sr ?_
       refine Tr.va rfl (fun _ _ h1 h2 => run_loadN (cs := [(.int .i64 p0.W), (.int .i64 p0.H), (.int .i64 p0.Rail), (.int .i64 p0.Gap), (.slice Ap0_0 (p0.Kinds).length cp0_0), (.slice Ap0_1 (p0.Slots).length cp0_1), (.slice Ap0_2 (p0.Marks).length cp0_2)]) ag_26 sz_26 (h1.ev rfl) (CellsAt.take (rdb h2 (vs := [(.int .i64 p0.W), (.int .i64 p0.H), (.int .i64 p0.Rail), (.int .i64 p0.Gap), (.slice Ap0_0 (p0.Kinds).length cp0_0), (.slice Ap0_1 (p0.Slots).length cp0_1), (.slice Ap0_2 (p0.Marks).length cp0_2)]) (k := 1) rfl 0) 7) rfl) ?_
       refine Tr.va rfl (fun _ _ h1 h2 => run_loadN (cs := [(.string xF_panel_cells_L1.Board), (.int .i64 xF_panel_cells_L1.Quarters), (.int .i64 xF_panel_cells_L1.At.X), (.int .i64 xF_panel_cells_L1.At.Y)]) ag_96 sz_96 (h1.ev rfl) (CellsAt.take (rdb h2 (vs := [(.string xF_panel_cells_L1.Board), (.int .i64 xF_panel_cells_L1.Quarters), (.int .i64 xF_panel_cells_L1.At.X), (.int .i64 xF_panel_cells_L1.At.Y)]) (k := 19) rfl 0) 4) rfl) ?_
       obtain ⟨y149, hy149, H⟩ := bnd H
       refine Tr.call0 (r := (.agg #[(.int .i64 y149.X0), (.int .i64 y149.Y0), (.int .i64 y149.X1), (.int .i64 y149.Y1)])) (wn rfl) rfl Try.call72 (evl_cons rfl (evl_cons rfl evl_nil)) (fun W hW => F_panel_cellOf_ok p0 Ap0_0 cp0_0 (hp0_0.ext hW.extAll) Ap0_1 cp0_1 (hp0_1.ext hW.extAll) Ap0_2 cp0_2 (hp0_2.ext hW.extAll) xF_panel_cells_L1 y149 hy149 (HF.start _)) ?_
       refine Tr.alloc 22 (wn rfl) rfl ze_38 fun b150 => ?_
       refine Tr.store 22 (cs := [(.int .i64 y149.X0), (.int .i64 y149.Y0), (.int .i64 y149.X1), (.int .i64 y149.Y1)]) [(.int .i64 y149.X0), (.int .i64 y149.Y0), (.int .i64 y149.X1), (.int .i64 y149.Y1)] (wn rfl) rfl rfl rfl rfl sz_38 rfl rfl rfl ?_
       refine Tr.nil (Tr.normThen ?_)
       refine Tr.seq ?_
       refine Tr.sr ?_
       refine Tr.va rfl (fun _ _ h1 h2 => run_loadN (cs := [(.int .i64 p0.W), (.int .i64 p0.H), (.int .i64 p0.Rail), (.int .i64 p0.Gap), (.slice Ap0_0 (p0.Kinds).length cp0_0), (.slice Ap0_1 (p0.Slots).length cp0_1), (.slice Ap0_2 (p0.Marks).length cp0_2)]) ag_26 sz_26 (h1.ev rfl) (CellsAt.take (rdb h2 (vs := [(.int .i64 p0.W), (.int .i64 p0.H), (.int .i64 p0.Rail), (.int .i64 p0.Gap), (.slice Ap0_0 (p0.Kinds).length cp0_0), (.slice Ap0_1 (p0.Slots).length cp0_1), (.slice Ap0_2 (p0.Marks).length cp0_2)]) (k := 1) rfl 0) 7) rfl) ?_
       refine Tr.va rfl (fun _ _ h1 h2 => run_loadN (cs := [(.int .i64 y149.X0), (.int .i64 y149.Y0), (.int .i64 y149.X1), (.int .i64 y149.Y1)]) ag_38 sz_38 (h1.ev rfl) (CellsAt.take (rdb h2 (vs := [(.int .i64 y149.X0), (.int .i64 y149.Y0), (.int .i64 y149.X1), (.int .i64 y149.Y1)]) (k := 22) rfl 0) 4) rfl) ?_
       obtain ⟨y151, hy151, H⟩ := bnd H
       refine Tr.call0 (r := (.bool y151)) (wn rfl) rfl Try.call73 (evl_cons rfl (evl_cons rfl evl_nil)) (fun W hW => F_panel_isOn_ok p0 Ap0_0 cp0_0 (hp0_0.ext hW.extAll) Ap0_1 cp0_1 (hp0_1.ext hW.extAll) Ap0_2 cp0_2 (hp0_2.ext hW.extAll) y149 y151 hy151 (HF.start _)) ?_
       refine Tr.va rfl (fun _ _ h1 h2 => run_not (h1.ev rfl)) ?_
       refine Tr.nil (Tr.normThen ?_)
       refine Tr.cond rfl H (fun H => ?_) (fun H => ?_)
       ·refine Tr.sr ?_
        refine Tr.asg rfl rfl ?_
        refine Tr.nilOwn 23 38 fl_TRect ?_
        show Tr _ _ (uf _ 2 (.slice none (([] : List TRect)).length 0)) _ _
        refine Tr.asg rfl rfl ?_
        refine Tr.nil (Tr.normThen ?_)
        refine Tr.ret (Tr.retThen (Tr.retBlock (Tr.retThen (Tr.retThen (Tr.retBlock (Tr.retThen ?_))))))
        obtain rfl := Option.some.inj H
        exact Tr.out (m := [(.slice none (([] : List TRect)).length 0), (.int .i64 1)]) [] (res_tmp rfl (res_tmp rfl res_nil)) (fun W hW => ⟨(none, 0), rfl, slf_nil, HF.lowE leB (hW.pick (ks := [23]) (by decide) (pk_cons rfl pk_nil)) ⟨ow_any _ _ _ _ tr_TRect, trivial⟩⟩)
       ·refine Tr.skip (Tr.normThen ?_)
        refine Tr.seq ?_
        refine Tr.sr ?_
        refine Tr.mv rfl rfl ?_
        refine Tr.mkFunc (vs := [(.pointer (some ⟨b150, 0, none⟩)), (.pointer (some ⟨b100, 0, none⟩))]) (wn rfl) rfl (evl_cons rfl (evl_cons rfl evl_nil)) ?_
        obtain ⟨y152, hy152, H⟩ := bnd H
        refine Tr.call0 (r := (.bool y152)) (wn rfl) rfl Try.call31 (evl_cons rfl (evl_cons rfl evl_nil)) (fun W hW => F_slices_ContainsFunc_Rect_ok l139 Al139 cl139 (hW.slCall (k := 4) rfl) (fun z0 => F_panel_cells_1 z0 y149 p0) 74 [(.pointer (some ⟨b150, 0, none⟩)), (.pointer (some ⟨b100, 0, none⟩))] Try.call74 (fun w' he z0 y hy => F_panel_cells_1_ok z0 y149 b150 (he.r _ (hW.capR (k := 22) rfl)) (he.cells (hW.capR (k := 22) rfl) (hW.capC (k := 22) rfl)) p0 Ap0_0 cp0_0 (hp0_0.ext (hW.extAll.trans he)) Ap0_1 cp0_1 (hp0_1.ext (hW.extAll.trans he)) Ap0_2 cp0_2 (hp0_2.ext (hW.extAll.trans he)) b100 (he.r _ (hW.capR (k := 1) rfl)) (he.cells (hW.capR (k := 1) rfl) (hW.capC (k := 1) rfl)) y hy (HF.start _)) y152 hy152 (HF.start _)) ?_
        refine Tr.nil (Tr.normThen ?_)
        refine Tr.cond rfl H (fun H => ?_) (fun H => ?_)
        ·refine Tr.sr ?_
         refine Tr.asg rfl rfl ?_
         refine Tr.nilOwn 24 38 fl_TRect ?_
         show Tr _ _ (uf _ 2 (.slice none (([] : List TRect)).length 0)) _ _
         refine Tr.asg rfl rfl ?_
         refine Tr.nil (Tr.normThen ?_)
         refine Tr.ret (Tr.retThen (Tr.retBlock (Tr.retThen (Tr.retThen (Tr.retBlock (Tr.retThen ?_))))))
         obtain rfl := Option.some.inj H
         exact Tr.out (m := [(.slice none (([] : List TRect)).length 0), (.int .i64 12)]) [] (res_tmp rfl (res_tmp rfl res_nil)) (fun W hW => ⟨(none, 0), rfl, slf_nil, HF.lowE leB (hW.pick (ks := [24]) (by decide) (pk_cons rfl pk_nil)) ⟨ow_any _ _ _ _ tr_TRect, trivial⟩⟩)
        ·refine Tr.skip (Tr.normThen ?_)
         refine Tr.region ?_
         refine Tr.mv rfl rfl ?_
         refine Tr.va rfl (fun _ _ h1 h2 => run_loadN (cs := [(.int .i64 y149.X0), (.int .i64 y149.Y0), (.int .i64 y149.X1), (.int .i64 y149.Y1)]) ag_38 sz_38 (h1.ev rfl) (CellsAt.take (rdb h2 (vs := [(.int .i64 y149.X0), (.int .i64 y149.Y0), (.int .i64 y149.X1), (.int .i64 y149.Y1)]) (k := 22) rfl 0) 4) rfl) ?_
         refine Tr.buildSlice 25 (e := 38) (vs := [(0, (.agg #[(.int .i64 y149.X0), (.int .i64 y149.Y0), (.int .i64 y149.X1), (.int .i64 y149.Y1)]))]) (cs := [(.int .i64 y149.X0), (.int .i64 y149.Y0), (.int .i64 y149.X1), (.int .i64 y149.Y1)]) (wn rfl) rfl (evs_cons rfl evs_nil) (by kernel_rfl) fun b153 => ?_
         obtain ⟨l154, hl154, H⟩ := bnd H
         refine Tr.append 4 (t := fl_TRect) (l := l139) (l2 := [y149]) (wn rfl) rfl rfl rfl rfl (fun W hW => ⟨[[(.int .i64 y149.X0), (.int .i64 y149.Y0), (.int .i64 y149.X1), (.int .i64 y149.Y1)]], (.cons ⟨(), trivial, rfl⟩ .nil), rdb hW (vs := [(.int .i64 y149.X0), (.int .i64 y149.Y0), (.int .i64 y149.X1), (.int .i64 y149.Y1)]) (k := 25) rfl 0⟩) un_32 sz_38 zl_38 (by decide) by_38 rfl hl154 fun Al154 cl154 hAl154 => ?_
         refine Tr.asg rfl rfl ?_
         refine Tr.nil (Tr.normBlock (Tr.normThen ?_))
         refine Tr.region ?_
         refine Tr.va rfl (fun _ _ h1 h2 => run_add (h1.ev rfl) (h1.ev rfl)) ?_
         refine Tr.mv rfl rfl ?_
         refine Tr.nil ?_
         exact Tr.backThen leF_panel_cells_L1 (restF_panel_cells_L1, (iF_panel_cells_L1 + 1), l154, Al154, cl154) ⟨rfl, range_tl hdF_panel_cells_L1, range_lt hdF_panel_cells_L1, H, hAl154⟩ (.cons rfl (.cons rfl (.cons rfl (.cons rfl (.cons (congrArg (fun z => some (Value.int .i64 z)) (range_up hdF_panel_cells_L1 hp0_1.form)) .nil))))) (.cons rfl (.cons rfl .nil))

theorem F_panel_isOnPanel_ok {w : Bs} (p0 : TPanel) (Ap0_0 : Option Addr) (cp0_0 : Nat) (hp0_0 : Sl w.R w.W fl_TBoardKind Ap0_0 cp0_0 p0.Kinds) (Ap0_1 : Option Addr) (cp0_1 : Nat) (hp0_1 : Sl w.R w.W fl_TSlot Ap0_1 cp0_1 p0.Slots) (Ap0_2 : Option Addr) (cp0_2 : Nat) (hp0_2 : Sl w.R w.W fl_TPoint Ap0_2 cp0_2 p0.Marks) (p1 : TPoint) (r : Bool) (H : F_panel_isOnPanel p0 p1 = some r) (hE : HF w w.W E0) : Calls Try.prog 53 [(.agg #[(.int .i64 p0.W), (.int .i64 p0.H), (.int .i64 p0.Rail), (.int .i64 p0.Gap), (.slice Ap0_0 (p0.Kinds).length cp0_0), (.slice Ap0_1 (p0.Slots).length cp0_1), (.slice Ap0_2 (p0.Marks).length cp0_2)]), (.agg #[(.int .i64 p1.X), (.int .i64 p1.Y)])].toArray w.W fun e W' => e = .returned (.bool r) ∧ HF w W' E0 := by
 unfold F_panel_isOnPanel at H
 have leB := Bs.Le.refl w
 refine Tr.enter (n := 17) Try.func53 rfl rfl rfl hE ?_
 refine Tr.sr ?_
 refine Tr.box 1 (cs := [(.int .i64 p0.W), (.int .i64 p0.H), (.int .i64 p0.Rail), (.int .i64 p0.Gap), (.slice Ap0_0 (p0.Kinds).length cp0_0), (.slice Ap0_1 (p0.Slots).length cp0_1), (.slice Ap0_2 (p0.Marks).length cp0_2)]) (wn rfl) rfl rfl rfl fun b100 => ?_
 refine Tr.box 2 (cs := [(.int .i64 p1.X), (.int .i64 p1.Y)]) (wn rfl) rfl rfl rfl fun b101 => ?_
 refine Tr.asg rfl rfl ?_
 refine Tr.nil (Tr.normThen ?_)
 refine Tr.sr ?_
 refine Tr.va rfl (fun _ _ h1 h2 => run_fieldAddr fo_82_0 (h1.ev rfl)) ?_
 refine Tr.va rfl (fun _ _ h1 h2 => run_load1 ag_3 (h1.ev rfl) (rdb h2 (vs := [(.int .i64 p1.X), (.int .i64 p1.Y)]) (k := 2) rfl 0) rfl) ?_
 refine Tr.va rfl (fun _ _ h1 h2 => run_fieldAddr fo_26_0 (h1.ev rfl)) ?_
 refine Tr.va rfl (fun _ _ h1 h2 => run_load1 ag_3 (h1.ev rfl) (rdb h2 (vs := [(.int .i64 p0.W), (.int .i64 p0.H), (.int .i64 p0.Rail), (.int .i64 p0.Gap), (.slice Ap0_0 (p0.Kinds).length cp0_0), (.slice Ap0_1 (p0.Slots).length cp0_1), (.slice Ap0_2 (p0.Marks).length cp0_2)]) (k := 1) rfl 0) rfl) ?_
 obtain ⟨y102, hy102, H⟩ := bnd H
 refine Tr.call0 (r := (.bool y102)) (wn rfl) rfl Try.call50 (evl_cons rfl (evl_cons rfl (evl_cons rfl evl_nil))) (fun W hW => F_panel_within_ok p1.X 0 p0.W y102 hy102 (HF.start _)) ?_
 refine Tr.mv rfl rfl ?_
 obtain ⟨g104, hg104, H⟩ := bnd H
 refine Tr.mid0 6 [(16, (.bool g104))] [(1, bx b100 #[(.int .i64 p0.W), (.int .i64 p0.H), (.int .i64 p0.Rail), (.int .i64 p0.Gap), (.slice Ap0_0 (p0.Kinds).length cp0_0), (.slice Ap0_1 (p0.Slots).length cp0_1), (.slice Ap0_2 (p0.Marks).length cp0_2)] 26), (2, bx b101 #[(.int .i64 p1.X), (.int .i64 p1.Y)] 82)] ?_ ?_
 ·cases hg105 : y102
  ·rw [hg105] at hg104
   rw [if_neg (by decide)] at hg104
   have H := hg104
   obtain rfl := Option.some.inj H
   refine Tr.pass rfl rfl rfl rfl rfl (by decide) ?_
   refine Tr.pass rfl rfl rfl rfl rfl (by decide) ?_
   refine Tr.pass rfl rfl rfl rfl rfl (by decide) ?_
   refine Tr.pass rfl rfl rfl rfl rfl (by decide) ?_
   refine Tr.pass rfl rfl rfl rfl rfl (by decide) ?_
   refine Tr.va rfl (fun _ _ h1 h2 => run_pickF (h1.ev rfl) (h1.ev rfl)) ?_
   exact Tr.nil (Tr.fin0 (.cons rfl .nil) (.cons rfl (.cons rfl .nil)))
  ·rw [hg105] at hg104
   rw [if_pos rfl] at hg104
   have H := hg104
   refine Tr.val (wg rfl rfl rfl) rfl (fun _ _ h1 h2 => run_fieldAddr fo_82_1 (h1.ev rfl)) ?_
   refine Tr.val (wg rfl rfl rfl) rfl (fun _ _ h1 h2 => run_load1 ag_3 (h1.ev rfl) (rdb h2 (vs := [(.int .i64 p1.X), (.int .i64 p1.Y)]) (k := 2) rfl 1) rfl) ?_
   refine Tr.val (wg rfl rfl rfl) rfl (fun _ _ h1 h2 => run_fieldAddr fo_26_1 (h1.ev rfl)) ?_
   refine Tr.val (wg rfl rfl rfl) rfl (fun _ _ h1 h2 => run_load1 ag_3 (h1.ev rfl) (rdb h2 (vs := [(.int .i64 p0.W), (.int .i64 p0.H), (.int .i64 p0.Rail), (.int .i64 p0.Gap), (.slice Ap0_0 (p0.Kinds).length cp0_0), (.slice Ap0_1 (p0.Slots).length cp0_1), (.slice Ap0_2 (p0.Marks).length cp0_2)]) (k := 1) rfl 1) rfl) ?_
   obtain ⟨y105, hy105, H⟩ := bnd H
   refine Tr.call0 (r := (.bool y105)) (wg rfl rfl rfl) rfl Try.call50 (evl_cons rfl (evl_cons rfl (evl_cons rfl evl_nil))) (fun W hW => F_panel_within_ok p1.Y 0 p0.H y105 hy105 (HF.start _)) ?_
   refine Tr.va rfl (fun _ _ h1 h2 => run_pickT (h1.ev rfl) (h1.ev rfl)) ?_
   obtain rfl := Option.some.inj H
   exact Tr.nil (Tr.fin0 (.cons rfl .nil) (.cons rfl (.cons rfl .nil)))
 ·show Tr _ _ (LF [(16, (.bool g104))]) (LE [(1, bx b100 #[(.int .i64 p0.W), (.int .i64 p0.H), (.int .i64 p0.Rail), (.int .i64 p0.Gap), (.slice Ap0_0 (p0.Kinds).length cp0_0), (.slice Ap0_1 (p0.Slots).length cp0_1), (.slice Ap0_2 (p0.Marks).length cp0_2)] 26), (2, bx b101 #[(.int .i64 p1.X), (.int .i64 p1.Y)] 82)]) _
  refine Tr.asg rfl rfl ?_
  refine Tr.nil (Tr.normThen ?_)
  refine Tr.ret ?_
  obtain rfl := Option.some.inj H
  exact Tr.out (m := [(.bool g104)]) [] (res_tmp rfl res_nil) (fun W hW => ⟨rfl, hW.low leB⟩)

theorem F_panel_isInside_ok {w : Bs} (p0 : TRect) (p1 : TPoint) (r : Bool) (H : F_panel_isInside p0 p1 = some r) (hE : HF w w.W E0) : Calls Try.prog 55 [(.agg #[(.int .i64 p0.X0), (.int .i64 p0.Y0), (.int .i64 p0.X1), (.int .i64 p0.Y1)]), (.agg #[(.int .i64 p1.X), (.int .i64 p1.Y)])].toArray w.W fun e W' => e = .returned (.bool r) ∧ HF w W' E0 := by
 unfold F_panel_isInside at H
 have leB := Bs.Le.refl w
 refine Tr.enter (n := 31) Try.func55 rfl rfl rfl hE ?_
 refine Tr.sr ?_
 refine Tr.box 1 (cs := [(.int .i64 p0.X0), (.int .i64 p0.Y0), (.int .i64 p0.X1), (.int .i64 p0.Y1)]) (wn rfl) rfl rfl rfl fun b100 => ?_
 refine Tr.box 2 (cs := [(.int .i64 p1.X), (.int .i64 p1.Y)]) (wn rfl) rfl rfl rfl fun b101 => ?_
 refine Tr.asg rfl rfl ?_
 refine Tr.nil (Tr.normThen ?_)
 refine Tr.sr ?_
 refine Tr.va rfl (fun _ _ h1 h2 => run_fieldAddr fo_82_0 (h1.ev rfl)) ?_
 refine Tr.va rfl (fun _ _ h1 h2 => run_load1 ag_3 (h1.ev rfl) (rdb h2 (vs := [(.int .i64 p1.X), (.int .i64 p1.Y)]) (k := 2) rfl 0) rfl) ?_
 refine Tr.va rfl (fun _ _ h1 h2 => run_fieldAddr fo_38_0 (h1.ev rfl)) ?_
 refine Tr.va rfl (fun _ _ h1 h2 => run_load1 ag_3 (h1.ev rfl) (rdb h2 (vs := [(.int .i64 p0.X0), (.int .i64 p0.Y0), (.int .i64 p0.X1), (.int .i64 p0.Y1)]) (k := 1) rfl 0) rfl) ?_
 refine Tr.va rfl (fun _ _ h1 h2 => run_gtr (h1.ev rfl) (h1.ev rfl)) ?_
 refine Tr.mv rfl rfl ?_
 refine Tr.mid0 6 [(2, (.pointer (some ⟨b100, 0, none⟩))), (3, (.pointer (some ⟨b101, 0, none⟩))), (16, (.bool ((decide (p0.X0 < p1.X)) && (decide (p1.X < p0.X1)))))] [(1, bx b100 #[(.int .i64 p0.X0), (.int .i64 p0.Y0), (.int .i64 p0.X1), (.int .i64 p0.Y1)] 38), (2, bx b101 #[(.int .i64 p1.X), (.int .i64 p1.Y)] 82)] ?_ ?_
 ·cases hg101 : (decide (p0.X0 < p1.X))
  ·refine Tr.pass rfl rfl rfl rfl rfl (by decide) ?_
   refine Tr.pass rfl rfl rfl rfl rfl (by decide) ?_
   refine Tr.pass rfl rfl rfl rfl rfl (by decide) ?_
   refine Tr.pass rfl rfl rfl rfl rfl (by decide) ?_
   refine Tr.pass rfl rfl rfl rfl rfl (by decide) ?_
   refine Tr.va rfl (fun _ _ h1 h2 => run_pickF (h1.ev rfl) (h1.ev rfl)) ?_
   exact Tr.nil (Tr.fin0 (.cons rfl (.cons rfl (.cons rfl .nil))) (.cons rfl (.cons rfl .nil)))
  ·refine Tr.val (wg rfl rfl rfl) rfl (fun _ _ h1 h2 => run_fieldAddr fo_82_0 (h1.ev rfl)) ?_
   refine Tr.val (wg rfl rfl rfl) rfl (fun _ _ h1 h2 => run_load1 ag_3 (h1.ev rfl) (rdb h2 (vs := [(.int .i64 p1.X), (.int .i64 p1.Y)]) (k := 2) rfl 0) rfl) ?_
   refine Tr.val (wg rfl rfl rfl) rfl (fun _ _ h1 h2 => run_fieldAddr fo_38_2 (h1.ev rfl)) ?_
   refine Tr.val (wg rfl rfl rfl) rfl (fun _ _ h1 h2 => run_load1 ag_3 (h1.ev rfl) (rdb h2 (vs := [(.int .i64 p0.X0), (.int .i64 p0.Y0), (.int .i64 p0.X1), (.int .i64 p0.Y1)]) (k := 1) rfl 2) rfl) ?_
   refine Tr.val (wg rfl rfl rfl) rfl (fun _ _ h1 h2 => run_lss (h1.ev rfl) (h1.ev rfl)) ?_
   refine Tr.va rfl (fun _ _ h1 h2 => run_pickT (h1.ev rfl) (h1.ev rfl)) ?_
   exact Tr.nil (Tr.fin0 (.cons rfl (.cons rfl (.cons rfl .nil))) (.cons rfl (.cons rfl .nil)))
 ·show Tr _ _ (LF [(2, (.pointer (some ⟨b100, 0, none⟩))), (3, (.pointer (some ⟨b101, 0, none⟩))), (16, (.bool ((decide (p0.X0 < p1.X)) && (decide (p1.X < p0.X1)))))]) (LE [(1, bx b100 #[(.int .i64 p0.X0), (.int .i64 p0.Y0), (.int .i64 p0.X1), (.int .i64 p0.Y1)] 38), (2, bx b101 #[(.int .i64 p1.X), (.int .i64 p1.Y)] 82)]) _
  refine Tr.mv rfl rfl ?_
  refine Tr.mid0 6 [(2, (.pointer (some ⟨b100, 0, none⟩))), (3, (.pointer (some ⟨b101, 0, none⟩))), (23, (.bool (((decide (p0.X0 < p1.X)) && (decide (p1.X < p0.X1))) && (decide (p0.Y0 < p1.Y)))))] [(1, bx b100 #[(.int .i64 p0.X0), (.int .i64 p0.Y0), (.int .i64 p0.X1), (.int .i64 p0.Y1)] 38), (2, bx b101 #[(.int .i64 p1.X), (.int .i64 p1.Y)] 82)] ?_ ?_
  ·cases hg101 : ((decide (p0.X0 < p1.X)) && (decide (p1.X < p0.X1)))
   ·refine Tr.pass rfl rfl rfl rfl rfl (by decide) ?_
    refine Tr.pass rfl rfl rfl rfl rfl (by decide) ?_
    refine Tr.pass rfl rfl rfl rfl rfl (by decide) ?_
    refine Tr.pass rfl rfl rfl rfl rfl (by decide) ?_
    refine Tr.pass rfl rfl rfl rfl rfl (by decide) ?_
    refine Tr.va rfl (fun _ _ h1 h2 => run_pickF (h1.ev rfl) (h1.ev rfl)) ?_
    exact Tr.nil (Tr.fin0 (.cons rfl (.cons rfl (.cons rfl .nil))) (.cons rfl (.cons rfl .nil)))
   ·refine Tr.val (wg rfl rfl rfl) rfl (fun _ _ h1 h2 => run_fieldAddr fo_82_1 (h1.ev rfl)) ?_
    refine Tr.val (wg rfl rfl rfl) rfl (fun _ _ h1 h2 => run_load1 ag_3 (h1.ev rfl) (rdb h2 (vs := [(.int .i64 p1.X), (.int .i64 p1.Y)]) (k := 2) rfl 1) rfl) ?_
    refine Tr.val (wg rfl rfl rfl) rfl (fun _ _ h1 h2 => run_fieldAddr fo_38_1 (h1.ev rfl)) ?_
    refine Tr.val (wg rfl rfl rfl) rfl (fun _ _ h1 h2 => run_load1 ag_3 (h1.ev rfl) (rdb h2 (vs := [(.int .i64 p0.X0), (.int .i64 p0.Y0), (.int .i64 p0.X1), (.int .i64 p0.Y1)]) (k := 1) rfl 1) rfl) ?_
    refine Tr.val (wg rfl rfl rfl) rfl (fun _ _ h1 h2 => run_gtr (h1.ev rfl) (h1.ev rfl)) ?_
    refine Tr.va rfl (fun _ _ h1 h2 => run_pickT (h1.ev rfl) (h1.ev rfl)) ?_
    exact Tr.nil (Tr.fin0 (.cons rfl (.cons rfl (.cons rfl .nil))) (.cons rfl (.cons rfl .nil)))
  ·show Tr _ _ (LF [(2, (.pointer (some ⟨b100, 0, none⟩))), (3, (.pointer (some ⟨b101, 0, none⟩))), (23, (.bool (((decide (p0.X0 < p1.X)) && (decide (p1.X < p0.X1))) && (decide (p0.Y0 < p1.Y)))))]) (LE [(1, bx b100 #[(.int .i64 p0.X0), (.int .i64 p0.Y0), (.int .i64 p0.X1), (.int .i64 p0.Y1)] 38), (2, bx b101 #[(.int .i64 p1.X), (.int .i64 p1.Y)] 82)]) _
   refine Tr.mv rfl rfl ?_
   refine Tr.mid0 6 [(30, (.bool ((((decide (p0.X0 < p1.X)) && (decide (p1.X < p0.X1))) && (decide (p0.Y0 < p1.Y))) && (decide (p1.Y < p0.Y1)))))] [(1, bx b100 #[(.int .i64 p0.X0), (.int .i64 p0.Y0), (.int .i64 p0.X1), (.int .i64 p0.Y1)] 38), (2, bx b101 #[(.int .i64 p1.X), (.int .i64 p1.Y)] 82)] ?_ ?_
   ·cases hg101 : (((decide (p0.X0 < p1.X)) && (decide (p1.X < p0.X1))) && (decide (p0.Y0 < p1.Y)))
    ·refine Tr.pass rfl rfl rfl rfl rfl (by decide) ?_
     refine Tr.pass rfl rfl rfl rfl rfl (by decide) ?_
     refine Tr.pass rfl rfl rfl rfl rfl (by decide) ?_
     refine Tr.pass rfl rfl rfl rfl rfl (by decide) ?_
     refine Tr.pass rfl rfl rfl rfl rfl (by decide) ?_
     refine Tr.va rfl (fun _ _ h1 h2 => run_pickF (h1.ev rfl) (h1.ev rfl)) ?_
     exact Tr.nil (Tr.fin0 (.cons rfl .nil) (.cons rfl (.cons rfl .nil)))
    ·refine Tr.val (wg rfl rfl rfl) rfl (fun _ _ h1 h2 => run_fieldAddr fo_82_1 (h1.ev rfl)) ?_
     refine Tr.val (wg rfl rfl rfl) rfl (fun _ _ h1 h2 => run_load1 ag_3 (h1.ev rfl) (rdb h2 (vs := [(.int .i64 p1.X), (.int .i64 p1.Y)]) (k := 2) rfl 1) rfl) ?_
     refine Tr.val (wg rfl rfl rfl) rfl (fun _ _ h1 h2 => run_fieldAddr fo_38_3 (h1.ev rfl)) ?_
     refine Tr.val (wg rfl rfl rfl) rfl (fun _ _ h1 h2 => run_load1 ag_3 (h1.ev rfl) (rdb h2 (vs := [(.int .i64 p0.X0), (.int .i64 p0.Y0), (.int .i64 p0.X1), (.int .i64 p0.Y1)]) (k := 1) rfl 3) rfl) ?_
     refine Tr.val (wg rfl rfl rfl) rfl (fun _ _ h1 h2 => run_lss (h1.ev rfl) (h1.ev rfl)) ?_
     refine Tr.va rfl (fun _ _ h1 h2 => run_pickT (h1.ev rfl) (h1.ev rfl)) ?_
     exact Tr.nil (Tr.fin0 (.cons rfl .nil) (.cons rfl (.cons rfl .nil)))
   ·show Tr _ _ (LF [(30, (.bool ((((decide (p0.X0 < p1.X)) && (decide (p1.X < p0.X1))) && (decide (p0.Y0 < p1.Y))) && (decide (p1.Y < p0.Y1)))))]) (LE [(1, bx b100 #[(.int .i64 p0.X0), (.int .i64 p0.Y0), (.int .i64 p0.X1), (.int .i64 p0.Y1)] 38), (2, bx b101 #[(.int .i64 p1.X), (.int .i64 p1.Y)] 82)]) _
    refine Tr.asg rfl rfl ?_
    refine Tr.nil (Tr.normThen ?_)
    refine Tr.ret ?_
    obtain rfl := Option.some.inj H
    exact Tr.out (m := [(.bool ((((decide (p0.X0 < p1.X)) && (decide (p1.X < p0.X1))) && (decide (p0.Y0 < p1.Y))) && (decide (p1.Y < p0.Y1))))]) [] (res_tmp rfl res_nil) (fun W hW => ⟨rfl, hW.low leB⟩)

theorem F_panel_open_1_ok {w : Bs} (p0 : TRect) (q0 : TPoint) (bq0 : Nat) (hb0 : w.R bq0) (hc0 : CellsAt w.W bq0 0 [(.int .i64 q0.X), (.int .i64 q0.Y)]) (r : Bool) (H : F_panel_open_1 p0 q0 = some r) (hE : HF w w.W E0) : Calls Try.prog 54 [(.agg #[(.int .i64 p0.X0), (.int .i64 p0.Y0), (.int .i64 p0.X1), (.int .i64 p0.Y1)]), (.pointer (some ⟨bq0, 0, none⟩))].toArray w.W fun e W' => e = .returned (.bool r) ∧ HF w W' E0 := by
 unfold F_panel_open_1 at H
 have leB := Bs.Le.refl w
 refine Tr.enter (n := 7) Try.func54 rfl rfl rfl hE ?_
 refine Tr.sr ?_
 refine Tr.box 1 (cs := [(.int .i64 p0.X0), (.int .i64 p0.Y0), (.int .i64 p0.X1), (.int .i64 p0.Y1)]) (wn rfl) rfl rfl rfl fun b100 => ?_
 refine Tr.asg rfl rfl ?_
 refine Tr.nil (Tr.normThen ?_)
 refine Tr.sr ?_
 refine Tr.va rfl (fun _ _ h1 h2 => run_loadN (cs := [(.int .i64 p0.X0), (.int .i64 p0.Y0), (.int .i64 p0.X1), (.int .i64 p0.Y1)]) ag_38 sz_38 (h1.ev rfl) (CellsAt.take (rdb h2 (vs := [(.int .i64 p0.X0), (.int .i64 p0.Y0), (.int .i64 p0.X1), (.int .i64 p0.Y1)]) (k := 1) rfl 0) 4) rfl) ?_
 refine Tr.va rfl (fun _ _ h1 h2 => run_loadN (cs := [(.int .i64 q0.X), (.int .i64 q0.Y)]) ag_82 sz_82 (h1.ev rfl) (CellsAt.take (rdR hb0 hc0 h2) 2) rfl) ?_
 obtain ⟨y101, hy101, H⟩ := bnd H
 refine Tr.call0 (r := (.bool y101)) (wn rfl) rfl Try.call55 (evl_cons rfl (evl_cons rfl evl_nil)) (fun W hW => F_panel_isInside_ok p0 q0 y101 hy101 (HF.start _)) ?_
 refine Tr.asg rfl rfl ?_
 refine Tr.nil (Tr.normThen ?_)
 refine Tr.ret ?_
 obtain rfl := Option.some.inj H
 exact Tr.out (m := [(.bool y101)]) [] (res_tmp rfl res_nil) (fun W hW => ⟨rfl, hW.low leB⟩)

theorem F_slices_Index_Point_ok {w : Bs} (p0 : (List TPoint)) (Ap0_0 : Option Addr) (cp0_0 : Nat) (hp0_0 : Sl w.R w.W fl_TPoint Ap0_0 cp0_0 p0) (p1 : TPoint) (r : Int) (H : F_slices_Index_Point p0 p1 = some r) (hE : HF w w.W E0) : Calls Try.prog 76 [(.slice Ap0_0 (p0).length cp0_0), (.agg #[(.int .i64 p1.X), (.int .i64 p1.Y)])].toArray w.W fun e W' => e = .returned (.int .i64 r) ∧ HF w W' E0 := by
 unfold F_slices_Index_Point at H
 have leB := Bs.Le.refl w
 refine Tr.enter (n := 19) Try.func76 rfl rfl rfl hE ?_
 refine Tr.sr ?_
 refine Tr.box 1 (cs := [(.int .i64 p1.X), (.int .i64 p1.Y)]) (wn rfl) rfl rfl rfl fun b100 => ?_
 refine Tr.asg rfl rfl ?_
 refine Tr.nil (Tr.normThen ?_)
 refine Tr.seq ?_
 refine Tr.sr ?_
 refine Tr.mv rfl rfl ?_
 refine Tr.va rfl (fun _ _ h1 h2 => run_len un_24 (h1.ev rfl)) ?_
 refine Tr.mv rfl rfl ?_
 refine Tr.nil (Tr.normThen ?_)
 refine Tr.block ?_
 refine Tr.loop (σ := (List TPoint) × Nat) (fun m w s => m = s.1.length + 1 ∧ s.1 = List.drop s.2 p0 ∧ s.2 ≤ p0.length ∧ F_slices_Index_Point_L1 p1 s.1 s.2 = some r) (fun s => [(0, (.slice Ap0_0 (p0).length cp0_0)), (3, (.pointer (some ⟨b100, 0, none⟩))), (7, (.int .i64 (p0.length : Int))), (8, (.int .i64 (s.2 : Int)))]) (fun s => [(1, bx b100 #[(.int .i64 p1.X), (.int .i64 p1.Y)] 82)]) (p0.length + 1) (p0, 0) ⟨rfl, rfl, Nat.zero_le _, H⟩ (.cons rfl (.cons rfl (.cons rfl (.cons rfl .nil)))) (.cons rfl .nil) (fun _ _ h => absurd h.1 (by simp)) ?_
 intro w leF_slices_Index_Point_L1 m s hs
 obtain ⟨restF_slices_Index_Point_L1, iF_slices_Index_Point_L1⟩ := s
 obtain ⟨hmF_slices_Index_Point_L1, hdF_slices_Index_Point_L1, hiF_slices_Index_Point_L1, H⟩ := hs
 replace hdF_slices_Index_Point_L1 : restF_slices_Index_Point_L1 = List.drop iF_slices_Index_Point_L1 p0 := hdF_slices_Index_Point_L1
 replace H : F_slices_Index_Point_L1 p1 restF_slices_Index_Point_L1 iF_slices_Index_Point_L1 = some r := H
 replace hmF_slices_Index_Point_L1 : m + 1 = restF_slices_Index_Point_L1.length + 1 := hmF_slices_Index_Point_L1
 replace hp0_0 := hp0_0.leR leF_slices_Index_Point_L1
 replace leB := leB.trans leF_slices_Index_Point_L1
 obtain rfl : m = restF_slices_Index_Point_L1.length := by omega
 clear hmF_slices_Index_Point_L1
 show Tr _ _ (LF [(0, (.slice Ap0_0 (p0).length cp0_0)), (3, (.pointer (some ⟨b100, 0, none⟩))), (7, (.int .i64 (p0.length : Int))), (8, (.int .i64 (iF_slices_Index_Point_L1 : Int)))]) (LE [(1, bx b100 #[(.int .i64 p1.X), (.int .i64 p1.Y)] 82)]) _
 cases restF_slices_Index_Point_L1 with
 | nil =>
  rw [F_slices_Index_Point_L1.eq_1] at H
  refine Tr.sr ?_
  refine Tr.va rfl (fun _ _ h1 h2 => run_lss (h1.ev rfl) (h1.ev rfl)) ?_
  refine Tr.nil (Tr.normThen ?_)
  refine Tr.seq ?_
  refine Tr.condF rfl (range_nil hdF_slices_Index_Point_L1) ?_
  refine Tr.exit (Tr.exitThen (Tr.exitThen (Tr.exitBlock (Tr.normThen ?_))))
  refine Tr.sr ?_
  refine Tr.asg rfl rfl ?_
  refine Tr.nil (Tr.normThen ?_)
  refine Tr.ret ?_
  obtain rfl := Option.some.inj H
  exact Tr.out (m := [(.int .i64 (-1))]) [] (res_tmp rfl res_nil) (fun W hW => ⟨rfl, hW.low leB⟩)
 | cons xF_slices_Index_Point_L1 restF_slices_Index_Point_L1 =>
  rw [F_slices_Index_Point_L1.eq_2] at H
  refine Tr.sr ?_
  refine Tr.va rfl (fun _ _ h1 h2 => run_lss (h1.ev rfl) (h1.ev rfl)) ?_
  refine Tr.nil (Tr.normThen ?_)
  refine Tr.seq ?_
  refine Tr.condT rfl (range_on hdF_slices_Index_Point_L1) ?_
  refine Tr.skip (Tr.normThen ?_)
  refine Tr.seq ?_
  refine Tr.block ?_
  refine Tr.sr ?_
  refine Tr.mv rfl rfl ?_
  refine Tr.asg rfl rfl ?_
  refine Tr.nil (Tr.normThen ?_)
  refine Tr.seq ?_
  refine Tr.draw (by kernel_rfl) (by kernel_rfl) ?_
  refine Tq.va rfl (fun _ _ h1 h2 => run_loadN (cs := [(.int .i64 p1.X), (.int .i64 p1.Y)]) ag_82 sz_82 (h1.ev rfl) (CellsAt.take (rdb h2 (vs := [(.int .i64 p1.X), (.int .i64 p1.Y)]) (k := 1) rfl 0) 2) rfl) ?_
  refine Tq.mv rfl rfl ?_
  refine Tq.mv rfl rfl ?_
  refine Tq.va rfl (fun _ _ h1 h2 => run_indexAddr el_24 (h1.ev rfl) hp0_0.form (h1.ev rfl) (Int.natCast_nonneg _) (range_lt hdF_slices_Index_Point_L1)) ?_
  refine Tq.va rfl (fun _ _ h1 h2 => run_loadN (cs := [(.int .i64 xF_slices_Index_Point_L1.X), (.int .i64 xF_slices_Index_Point_L1.Y)]) ag_82 sz_82 (h1.ev rfl) (CellsAt.take (rdF ef_TPoint hp0_0 (range_at hdF_slices_Index_Point_L1) h2) 2) rfl) ?_
  refine Tq.va rfl (fun _ _ h1 h2 => run_eql_82 p1 xF_slices_Index_Point_L1 (h1.ev rfl) (h1.ev rfl)) ?_
  refine Tq.nil (Tr.normThen ?_)
  refine Tr.cond rfl H (fun H => ?_) (fun H => ?_)
  ·refine Tr.sr ?_
   refine Tr.mv rfl rfl ?_
   refine Tr.asg rfl rfl ?_
   refine Tr.nil (Tr.normThen ?_)
   refine Tr.ret (Tr.retBlock (Tr.retThen (Tr.retThen (Tr.retBlock (Tr.retThen ?_)))))
   obtain rfl := Option.some.inj H
   exact Tr.out (m := [(.int .i64 (iF_slices_Index_Point_L1 : Int))]) [] (res_tmp rfl res_nil) (fun W hW => ⟨rfl, hW.low leB⟩)
  ·refine Tr.skip (Tr.normBlock (Tr.normThen ?_))
   refine Tr.region ?_
   refine Tr.va rfl (fun _ _ h1 h2 => run_add (h1.ev rfl) (h1.ev rfl)) ?_
   refine Tr.mv rfl rfl ?_
   refine Tr.nil ?_
   exact Tr.backThen leF_slices_Index_Point_L1 (restF_slices_Index_Point_L1, (iF_slices_Index_Point_L1 + 1)) ⟨rfl, range_tl hdF_slices_Index_Point_L1, range_lt hdF_slices_Index_Point_L1, H⟩ (.cons rfl (.cons rfl (.cons rfl (.cons (congrArg (fun z => some (Value.int .i64 z)) (range_up hdF_slices_Index_Point_L1 hp0_0.form)) .nil)))) (.cons rfl .nil)

theorem F_slices_Contains_Point_ok {w : Bs} (p0 : (List TPoint)) (Ap0_0 : Option Addr) (cp0_0 : Nat) (hp0_0 : Sl w.R w.W fl_TPoint Ap0_0 cp0_0 p0) (p1 : TPoint) (r : Bool) (H : F_slices_Contains_Point p0 p1 = some r) (hE : HF w w.W E0) : Calls Try.prog 56 [(.slice Ap0_0 (p0).length cp0_0), (.agg #[(.int .i64 p1.X), (.int .i64 p1.Y)])].toArray w.W fun e W' => e = .returned (.bool r) ∧ HF w W' E0 := by
 unfold F_slices_Contains_Point at H
 have leB := Bs.Le.refl w
 refine Tr.enter (n := 9) Try.func56 rfl rfl rfl hE ?_
 refine Tr.sr ?_
 refine Tr.box 1 (cs := [(.int .i64 p1.X), (.int .i64 p1.Y)]) (wn rfl) rfl rfl rfl fun b100 => ?_
 refine Tr.asg rfl rfl ?_
 refine Tr.nil (Tr.normThen ?_)
 refine Tr.sr ?_
 refine Tr.mv rfl rfl ?_
 refine Tr.va rfl (fun _ _ h1 h2 => run_loadN (cs := [(.int .i64 p1.X), (.int .i64 p1.Y)]) ag_82 sz_82 (h1.ev rfl) (CellsAt.take (rdb h2 (vs := [(.int .i64 p1.X), (.int .i64 p1.Y)]) (k := 1) rfl 0) 2) rfl) ?_
 obtain ⟨y101, hy101, H⟩ := bnd H
 refine Tr.call0 (r := (.int .i64 y101)) (wn rfl) rfl Try.call76 (evl_cons rfl (evl_cons rfl evl_nil)) (fun W hW => F_slices_Index_Point_ok p0 Ap0_0 cp0_0 (hp0_0.ext hW.extAll) p1 y101 hy101 (HF.start _)) ?_
 refine Tr.va rfl (fun _ _ h1 h2 => run_geq (h1.ev rfl) (h1.ev rfl)) ?_
 refine Tr.asg rfl rfl ?_
 refine Tr.nil (Tr.normThen ?_)
 refine Tr.ret ?_
 obtain rfl := Option.some.inj H
 exact Tr.out (m := [(.bool (decide (0 ≤ y101)))]) [] (res_tmp rfl res_nil) (fun W hW => ⟨rfl, hW.low leB⟩)

theorem F_panel_open_ok (N : Nat) {w : Bs} (p0 : TPanel) (Ap0_0 : Option Addr) (cp0_0 : Nat) (hp0_0 : Sl w.R w.W fl_TBoardKind Ap0_0 cp0_0 p0.Kinds) (Ap0_1 : Option Addr) (cp0_1 : Nat) (hp0_1 : Sl w.R w.W fl_TSlot Ap0_1 cp0_1 p0.Slots) (Ap0_2 : Option Addr) (cp0_2 : Nat) (hp0_2 : Sl w.R w.W fl_TPoint Ap0_2 cp0_2 p0.Marks) (r : ((List TRect) × Int)) (H : F_panel_open N p0 = some r) (hE : HF w w.W (LEn [emp])) : Calls Try.prog 25 [(.agg #[(.int .i64 p0.W), (.int .i64 p0.H), (.int .i64 p0.Rail), (.int .i64 p0.Gap), (.slice Ap0_0 (p0.Kinds).length cp0_0), (.slice Ap0_1 (p0.Slots).length cp0_1), (.slice Ap0_2 (p0.Marks).length cp0_2)])].toArray w.W fun e W' => ∃ u : (Option Addr × Nat), e = .returned (.tuple #[(.slice u.1 (r.1).length u.2), (.int .i64 r.2)]) ∧ (SlF u.1 (r.1).length u.2) ∧ HF w W' (LEn [ow u.1 u.2 38 fl_TRect r.1]) := by
 unfold F_panel_open at H
 have leB := Bs.Le.refl w
 refine Tr.enter (n := 75) Try.func25 rfl rfl rfl hE ?_
 refine Tr.sr ?_
 refine Tr.box 1 (cs := [(.int .i64 p0.W), (.int .i64 p0.H), (.int .i64 p0.Rail), (.int .i64 p0.Gap), (.slice Ap0_0 (p0.Kinds).length cp0_0), (.slice Ap0_1 (p0.Slots).length cp0_1), (.slice Ap0_2 (p0.Marks).length cp0_2)]) (wn rfl) rfl rfl rfl fun b100 => ?_
 refine Tr.asg rfl rfl ?_
 refine Tr.nilOwn 2 38 fl_TRect ?_
 show Tr _ _ (uf _ 2 (.slice none (([] : List TRect)).length 0)) _ _
 refine Tr.asg rfl rfl ?_
 refine Tr.nil (Tr.normThen ?_)
 refine Tr.seq ?_
 refine Tr.sr ?_
 refine Tr.va rfl (fun _ _ h1 h2 => run_fieldAddr fo_26_0 (h1.ev rfl)) ?_
 refine Tr.va rfl (fun _ _ h1 h2 => run_load1 ag_3 (h1.ev rfl) (rdb h2 (vs := [(.int .i64 p0.W), (.int .i64 p0.H), (.int .i64 p0.Rail), (.int .i64 p0.Gap), (.slice Ap0_0 (p0.Kinds).length cp0_0), (.slice Ap0_1 (p0.Slots).length cp0_1), (.slice Ap0_2 (p0.Marks).length cp0_2)]) (k := 1) rfl 0) rfl) ?_
 obtain ⟨y101, hy101, H⟩ := bnd H
 refine Tr.call0 (r := (.bool y101)) (wn rfl) rfl Try.call50 (evl_cons rfl (evl_cons rfl (evl_cons rfl evl_nil))) (fun W hW => F_panel_within_ok p0.W 1 1000000 y101 hy101 (HF.start _)) ?_
 refine Tr.va rfl (fun _ _ h1 h2 => run_not (h1.ev rfl)) ?_
 refine Tr.mv rfl rfl ?_
 obtain ⟨g103, hg103, H⟩ := bnd H
 refine Tr.mid0 5 [(1, (.pointer (some ⟨b100, 0, none⟩))), (18, (.bool g103))] [(1, bx b100 #[(.int .i64 p0.W), (.int .i64 p0.H), (.int .i64 p0.Rail), (.int .i64 p0.Gap), (.slice Ap0_0 (p0.Kinds).length cp0_0), (.slice Ap0_1 (p0.Slots).length cp0_1), (.slice Ap0_2 (p0.Marks).length cp0_2)] 26), (2, ow none 0 38 fl_TRect ([] : List TRect))] ?_ ?_
 ·cases hg125 : (!y101)
  ·rw [hg125] at hg103
   rw [if_neg (by decide)] at hg103
   have H := hg103
   refine Tr.val (wg rfl rfl rfl) rfl (fun _ _ h1 h2 => run_fieldAddr fo_26_1 (h1.ev rfl)) ?_
   refine Tr.val (wg rfl rfl rfl) rfl (fun _ _ h1 h2 => run_load1 ag_3 (h1.ev rfl) (rdb h2 (vs := [(.int .i64 p0.W), (.int .i64 p0.H), (.int .i64 p0.Rail), (.int .i64 p0.Gap), (.slice Ap0_0 (p0.Kinds).length cp0_0), (.slice Ap0_1 (p0.Slots).length cp0_1), (.slice Ap0_2 (p0.Marks).length cp0_2)]) (k := 1) rfl 1) rfl) ?_
   obtain ⟨y104, hy104, H⟩ := bnd H
   refine Tr.call0 (r := (.bool y104)) (wg rfl rfl rfl) rfl Try.call50 (evl_cons rfl (evl_cons rfl (evl_cons rfl evl_nil))) (fun W hW => F_panel_within_ok p0.H 1 1000000 y104 hy104 (HF.start _)) ?_
   refine Tr.val (wg rfl rfl rfl) rfl (fun _ _ h1 h2 => run_not (h1.ev rfl)) ?_
   refine Tr.va rfl (fun _ _ h1 h2 => run_pickF (h1.ev rfl) (h1.ev rfl)) ?_
   obtain rfl := Option.some.inj H
   exact Tr.nil (Tr.fin0 (.cons rfl (.cons rfl .nil)) (.cons rfl (.cons rfl .nil)))
  ·rw [hg125] at hg103
   rw [if_pos rfl] at hg103
   have H := hg103
   obtain rfl := Option.some.inj H
   refine Tr.pass rfl rfl rfl rfl rfl (by decide) ?_
   refine Tr.pass rfl rfl rfl rfl rfl (by decide) ?_
   refine Tr.pass rfl rfl rfl rfl rfl (by decide) ?_
   refine Tr.pass rfl rfl rfl rfl rfl (by decide) ?_
   refine Tr.va rfl (fun _ _ h1 h2 => run_pickT (h1.ev rfl) (h1.ev rfl)) ?_
   exact Tr.nil (Tr.fin0 (.cons rfl (.cons rfl .nil)) (.cons rfl (.cons rfl .nil)))
 ·show Tr _ _ (LF [(1, (.pointer (some ⟨b100, 0, none⟩))), (18, (.bool g103))]) (LE [(1, bx b100 #[(.int .i64 p0.W), (.int .i64 p0.H), (.int .i64 p0.Rail), (.int .i64 p0.Gap), (.slice Ap0_0 (p0.Kinds).length cp0_0), (.slice Ap0_1 (p0.Slots).length cp0_1), (.slice Ap0_2 (p0.Marks).length cp0_2)] 26), (2, ow none 0 38 fl_TRect ([] : List TRect))]) _
  refine Tr.mv rfl rfl ?_
  obtain ⟨g106, hg106, H⟩ := bnd H
  refine Tr.mid0 5 [(1, (.pointer (some ⟨b100, 0, none⟩))), (24, (.bool g106))] [(1, bx b100 #[(.int .i64 p0.W), (.int .i64 p0.H), (.int .i64 p0.Rail), (.int .i64 p0.Gap), (.slice Ap0_0 (p0.Kinds).length cp0_0), (.slice Ap0_1 (p0.Slots).length cp0_1), (.slice Ap0_2 (p0.Marks).length cp0_2)] 26), (2, ow none 0 38 fl_TRect ([] : List TRect))] ?_ ?_
  ·cases hg125 : g103
   ·rw [hg125] at hg106
    rw [if_neg (by decide)] at hg106
    have H := hg106
    refine Tr.val (wg rfl rfl rfl) rfl (fun _ _ h1 h2 => run_fieldAddr fo_26_2 (h1.ev rfl)) ?_
    refine Tr.val (wg rfl rfl rfl) rfl (fun _ _ h1 h2 => run_load1 ag_3 (h1.ev rfl) (rdb h2 (vs := [(.int .i64 p0.W), (.int .i64 p0.H), (.int .i64 p0.Rail), (.int .i64 p0.Gap), (.slice Ap0_0 (p0.Kinds).length cp0_0), (.slice Ap0_1 (p0.Slots).length cp0_1), (.slice Ap0_2 (p0.Marks).length cp0_2)]) (k := 1) rfl 2) rfl) ?_
    obtain ⟨y107, hy107, H⟩ := bnd H
    refine Tr.call0 (r := (.bool y107)) (wg rfl rfl rfl) rfl Try.call50 (evl_cons rfl (evl_cons rfl (evl_cons rfl evl_nil))) (fun W hW => F_panel_within_ok p0.Rail 0 1000000 y107 hy107 (HF.start _)) ?_
    refine Tr.val (wg rfl rfl rfl) rfl (fun _ _ h1 h2 => run_not (h1.ev rfl)) ?_
    refine Tr.va rfl (fun _ _ h1 h2 => run_pickF (h1.ev rfl) (h1.ev rfl)) ?_
    obtain rfl := Option.some.inj H
    exact Tr.nil (Tr.fin0 (.cons rfl (.cons rfl .nil)) (.cons rfl (.cons rfl .nil)))
   ·rw [hg125] at hg106
    rw [if_pos rfl] at hg106
    have H := hg106
    obtain rfl := Option.some.inj H
    refine Tr.pass rfl rfl rfl rfl rfl (by decide) ?_
    refine Tr.pass rfl rfl rfl rfl rfl (by decide) ?_
    refine Tr.pass rfl rfl rfl rfl rfl (by decide) ?_
    refine Tr.pass rfl rfl rfl rfl rfl (by decide) ?_
    refine Tr.va rfl (fun _ _ h1 h2 => run_pickT (h1.ev rfl) (h1.ev rfl)) ?_
    exact Tr.nil (Tr.fin0 (.cons rfl (.cons rfl .nil)) (.cons rfl (.cons rfl .nil)))
  ·show Tr _ _ (LF [(1, (.pointer (some ⟨b100, 0, none⟩))), (24, (.bool g106))]) (LE [(1, bx b100 #[(.int .i64 p0.W), (.int .i64 p0.H), (.int .i64 p0.Rail), (.int .i64 p0.Gap), (.slice Ap0_0 (p0.Kinds).length cp0_0), (.slice Ap0_1 (p0.Slots).length cp0_1), (.slice Ap0_2 (p0.Marks).length cp0_2)] 26), (2, ow none 0 38 fl_TRect ([] : List TRect))]) _
   refine Tr.mv rfl rfl ?_
   obtain ⟨g109, hg109, H⟩ := bnd H
   refine Tr.mid0 5 [(1, (.pointer (some ⟨b100, 0, none⟩))), (30, (.bool g109))] [(1, bx b100 #[(.int .i64 p0.W), (.int .i64 p0.H), (.int .i64 p0.Rail), (.int .i64 p0.Gap), (.slice Ap0_0 (p0.Kinds).length cp0_0), (.slice Ap0_1 (p0.Slots).length cp0_1), (.slice Ap0_2 (p0.Marks).length cp0_2)] 26), (2, ow none 0 38 fl_TRect ([] : List TRect))] ?_ ?_
   ·cases hg125 : g106
    ·rw [hg125] at hg109
     rw [if_neg (by decide)] at hg109
     have H := hg109
     refine Tr.val (wg rfl rfl rfl) rfl (fun _ _ h1 h2 => run_fieldAddr fo_26_3 (h1.ev rfl)) ?_
     refine Tr.val (wg rfl rfl rfl) rfl (fun _ _ h1 h2 => run_load1 ag_3 (h1.ev rfl) (rdb h2 (vs := [(.int .i64 p0.W), (.int .i64 p0.H), (.int .i64 p0.Rail), (.int .i64 p0.Gap), (.slice Ap0_0 (p0.Kinds).length cp0_0), (.slice Ap0_1 (p0.Slots).length cp0_1), (.slice Ap0_2 (p0.Marks).length cp0_2)]) (k := 1) rfl 3) rfl) ?_
     obtain ⟨y110, hy110, H⟩ := bnd H
     refine Tr.call0 (r := (.bool y110)) (wg rfl rfl rfl) rfl Try.call50 (evl_cons rfl (evl_cons rfl (evl_cons rfl evl_nil))) (fun W hW => F_panel_within_ok p0.Gap 0 1000000 y110 hy110 (HF.start _)) ?_
     refine Tr.val (wg rfl rfl rfl) rfl (fun _ _ h1 h2 => run_not (h1.ev rfl)) ?_
     refine Tr.va rfl (fun _ _ h1 h2 => run_pickF (h1.ev rfl) (h1.ev rfl)) ?_
     obtain rfl := Option.some.inj H
     exact Tr.nil (Tr.fin0 (.cons rfl (.cons rfl .nil)) (.cons rfl (.cons rfl .nil)))
    ·rw [hg125] at hg109
     rw [if_pos rfl] at hg109
     have H := hg109
     obtain rfl := Option.some.inj H
     refine Tr.pass rfl rfl rfl rfl rfl (by decide) ?_
     refine Tr.pass rfl rfl rfl rfl rfl (by decide) ?_
     refine Tr.pass rfl rfl rfl rfl rfl (by decide) ?_
     refine Tr.pass rfl rfl rfl rfl rfl (by decide) ?_
     refine Tr.va rfl (fun _ _ h1 h2 => run_pickT (h1.ev rfl) (h1.ev rfl)) ?_
     exact Tr.nil (Tr.fin0 (.cons rfl (.cons rfl .nil)) (.cons rfl (.cons rfl .nil)))
   ·show Tr _ _ (LF [(1, (.pointer (some ⟨b100, 0, none⟩))), (30, (.bool g109))]) (LE [(1, bx b100 #[(.int .i64 p0.W), (.int .i64 p0.H), (.int .i64 p0.Rail), (.int .i64 p0.Gap), (.slice Ap0_0 (p0.Kinds).length cp0_0), (.slice Ap0_1 (p0.Slots).length cp0_1), (.slice Ap0_2 (p0.Marks).length cp0_2)] 26), (2, ow none 0 38 fl_TRect ([] : List TRect))]) _
    refine Tr.nil (Tr.normThen ?_)
    refine Tr.cond rfl H (fun H => ?_) (fun H => ?_)
    ·refine Tr.sr ?_
     refine Tr.asg rfl rfl ?_
     refine Tr.nilOwn 3 38 fl_TRect ?_
     show Tr _ _ (uf _ 2 (.slice none (([] : List TRect)).length 0)) _ _
     refine Tr.asg rfl rfl ?_
     refine Tr.nil (Tr.normThen ?_)
     refine Tr.ret (Tr.retThen ?_)
     obtain rfl := Option.some.inj H
     exact Tr.out (m := [(.slice none (([] : List TRect)).length 0), (.int .i64 1)]) [] (res_tmp rfl (res_tmp rfl res_nil)) (fun W hW => ⟨(none, 0), rfl, slf_nil, HF.lowE leB (hW.pick (ks := [3]) (by decide) (pk_cons rfl pk_nil)) ⟨ow_any _ _ _ _ tr_TRect, trivial⟩⟩)
    ·refine Tr.skip (Tr.normThen ?_)
     refine Tr.seq ?_
     refine Tr.sr ?_
     refine Tr.va rfl (fun _ _ h1 h2 => run_fieldAddr fo_26_4 (h1.ev rfl)) ?_
     refine Tr.va rfl (fun _ _ h1 h2 => run_load1 ag_22 (h1.ev rfl) (rdb h2 (vs := [(.int .i64 p0.W), (.int .i64 p0.H), (.int .i64 p0.Rail), (.int .i64 p0.Gap), (.slice Ap0_0 (p0.Kinds).length cp0_0), (.slice Ap0_1 (p0.Slots).length cp0_1), (.slice Ap0_2 (p0.Marks).length cp0_2)]) (k := 1) rfl 4) rfl) ?_
     obtain ⟨y111, hy111, H⟩ := bnd H
     refine Tr.call0 (r := (.int .i64 y111)) (wn rfl) rfl Try.call51 (evl_cons rfl evl_nil) (fun W hW => F_panel_checkKinds_ok N p0.Kinds Ap0_0 cp0_0 (hp0_0.ext hW.extAll) y111 hy111 (HF.start _)) ?_
     refine Tr.asg rfl rfl ?_
     refine Tr.nil (Tr.normThen ?_)
     refine Tr.sr ?_
     refine Tr.mv rfl rfl ?_
     refine Tr.va rfl (fun _ _ h1 h2 => run_neq (h1.ev rfl) (h1.ev rfl)) ?_
     refine Tr.nil (Tr.normThen ?_)
     refine Tr.cond rfl H (fun H => ?_) (fun H => ?_)
     ·refine Tr.sr ?_
      refine Tr.mv rfl rfl ?_
      refine Tr.asg rfl rfl ?_
      refine Tr.nilOwn 4 38 fl_TRect ?_
      show Tr _ _ (uf _ 2 (.slice none (([] : List TRect)).length 0)) _ _
      refine Tr.asg rfl rfl ?_
      refine Tr.nil (Tr.normThen ?_)
      refine Tr.ret (Tr.retThen ?_)
      obtain rfl := Option.some.inj H
      exact Tr.out (m := [(.slice none (([] : List TRect)).length 0), (.int .i64 y111)]) [] (res_tmp rfl (res_tmp rfl res_nil)) (fun W hW => ⟨(none, 0), rfl, slf_nil, HF.lowE leB (hW.pick (ks := [4]) (by decide) (pk_cons rfl pk_nil)) ⟨ow_any _ _ _ _ tr_TRect, trivial⟩⟩)
     ·refine Tr.skip (Tr.normThen ?_)
      refine Tr.sr ?_
      refine Tr.va rfl (fun _ _ h1 h2 => run_loadN (cs := [(.int .i64 p0.W), (.int .i64 p0.H), (.int .i64 p0.Rail), (.int .i64 p0.Gap), (.slice Ap0_0 (p0.Kinds).length cp0_0), (.slice Ap0_1 (p0.Slots).length cp0_1), (.slice Ap0_2 (p0.Marks).length cp0_2)]) ag_26 sz_26 (h1.ev rfl) (CellsAt.take (rdb h2 (vs := [(.int .i64 p0.W), (.int .i64 p0.H), (.int .i64 p0.Rail), (.int .i64 p0.Gap), (.slice Ap0_0 (p0.Kinds).length cp0_0), (.slice Ap0_1 (p0.Slots).length cp0_1), (.slice Ap0_2 (p0.Marks).length cp0_2)]) (k := 1) rfl 0) 7) rfl) ?_
      obtain ⟨y112, hy112, H⟩ := bnd H
      refine Tr.callM [5] [emp] (U := (Option Addr × Nat)) (fun u => (.tuple #[(.slice u.1 (y112.1).length u.2), (.int .i64 y112.2)])) (fun u => SlF u.1 (y112.1).length u.2) (fun u => [ow u.1 u.2 38 fl_TRect y112.1]) rfl (pk_cons rfl pk_nil) (fun _ => rfl) (wn rfl) rfl Try.call52 (evl_cons rfl evl_nil) (fun W hW hp hE => F_panel_cells_ok p0 Ap0_0 cp0_0 (hp0_0.ext (hW.extS hp)) Ap0_1 cp0_1 (hp0_1.ext (hW.extS hp)) Ap0_2 cp0_2 (hp0_2.ext (hW.extS hp)) y112 hy112 hE) ?_
      intro u hu
      obtain ⟨Ay112_0, cy112_0⟩ := u
      have gy112_0 := hu
      have hgy112_0 : SlF Ay112_0 (y112.1).length cy112_0 := gy112_0 --@phi
      show Tr _ _ (uf _ 39 (.tuple #[(.slice Ay112_0 (y112.1).length cy112_0), (.int .i64 y112.2)])) (up _ 5 (ow Ay112_0 cy112_0 38 fl_TRect y112.1)) _
      refine Tr.mv rfl rfl ?_
      refine Tr.va rfl (fun _ _ h1 h2 => run_extract (h1.ev rfl) rfl) ?_
      refine Tr.va rfl (fun _ _ h1 h2 => run_extract (h1.ev rfl) rfl) ?_
      refine Tr.asg rfl rfl ?_
      refine Tr.asg rfl rfl ?_
      refine Tr.nil (Tr.normThen ?_)
      refine Tr.seq ?_
      refine Tr.sr ?_
      refine Tr.mv rfl rfl ?_
      refine Tr.va rfl (fun _ _ h1 h2 => run_neq (h1.ev rfl) (h1.ev rfl)) ?_
      refine Tr.nil (Tr.normThen ?_)
      refine Tr.cond rfl H (fun H => ?_) (fun H => ?_)
      ·refine Tr.sr ?_
       refine Tr.mv rfl rfl ?_
       refine Tr.asg rfl rfl ?_
       refine Tr.nilOwn 6 38 fl_TRect ?_
       show Tr _ _ (uf _ 2 (.slice none (([] : List TRect)).length 0)) _ _
       refine Tr.asg rfl rfl ?_
       refine Tr.nil (Tr.normThen ?_)
       refine Tr.ret (Tr.retThen ?_)
       obtain rfl := Option.some.inj H
       exact Tr.out (m := [(.slice none (([] : List TRect)).length 0), (.int .i64 y112.2)]) [] (res_tmp rfl (res_tmp rfl res_nil)) (fun W hW => ⟨(none, 0), rfl, slf_nil, HF.lowE leB (hW.pick (ks := [6]) (by decide) (pk_cons rfl pk_nil)) ⟨ow_any _ _ _ _ tr_TRect, trivial⟩⟩)
      ·refine Tr.skip (Tr.normThen ?_)
       refine Tr.seq ?_
       refine Tr.sr ?_
       refine Tr.va rfl (fun _ _ h1 h2 => run_fieldAddr fo_26_6 (h1.ev rfl)) ?_
       refine Tr.va rfl (fun _ _ h1 h2 => run_load1 ag_24 (h1.ev rfl) (rdb h2 (vs := [(.int .i64 p0.W), (.int .i64 p0.H), (.int .i64 p0.Rail), (.int .i64 p0.Gap), (.slice Ap0_0 (p0.Kinds).length cp0_0), (.slice Ap0_1 (p0.Slots).length cp0_1), (.slice Ap0_2 (p0.Marks).length cp0_2)]) (k := 1) rfl 6) rfl) ?_
       refine Tr.va rfl (fun _ _ h1 h2 => run_len un_24 (h1.ev rfl)) ?_
       refine Tr.va rfl (fun _ _ h1 h2 => run_gtr (h1.ev rfl) (h1.ev rfl)) ?_
       refine Tr.nil (Tr.normThen ?_)
       refine Tr.cond rfl H (fun H => ?_) (fun H => ?_)
       ·refine Tr.sr ?_
        refine Tr.asg rfl rfl ?_
        refine Tr.nilOwn 7 38 fl_TRect ?_
        show Tr _ _ (uf _ 2 (.slice none (([] : List TRect)).length 0)) _ _
        refine Tr.asg rfl rfl ?_
        refine Tr.nil (Tr.normThen ?_)
        refine Tr.ret (Tr.retThen ?_)
        obtain rfl := Option.some.inj H
        exact Tr.out (m := [(.slice none (([] : List TRect)).length 0), (.int .i64 2)]) [] (res_tmp rfl (res_tmp rfl res_nil)) (fun W hW => ⟨(none, 0), rfl, slf_nil, HF.lowE leB (hW.pick (ks := [7]) (by decide) (pk_cons rfl pk_nil)) ⟨ow_any _ _ _ _ tr_TRect, trivial⟩⟩)
       ·refine Tr.skip (Tr.normThen ?_)
        refine Tr.seq ?_
        refine Tr.sr ?_
        refine Tr.va rfl (fun _ _ h1 h2 => run_fieldAddr fo_26_6 (h1.ev rfl)) ?_
        refine Tr.va rfl (fun _ _ h1 h2 => run_load1 ag_24 (h1.ev rfl) (rdb h2 (vs := [(.int .i64 p0.W), (.int .i64 p0.H), (.int .i64 p0.Rail), (.int .i64 p0.Gap), (.slice Ap0_0 (p0.Kinds).length cp0_0), (.slice Ap0_1 (p0.Slots).length cp0_1), (.slice Ap0_2 (p0.Marks).length cp0_2)]) (k := 1) rfl 6) rfl) ?_
        refine Tr.va rfl (fun _ _ h1 h2 => run_len un_24 (h1.ev rfl)) ?_
        refine Tr.mv rfl rfl ?_
        refine Tr.nil (Tr.normThen ?_)
        refine Tr.block ?_
        refine Tr.loop (σ := (List TPoint) × Nat) (fun m w s => m = s.1.length + 1 ∧ s.1 = List.drop s.2 p0.Marks ∧ s.2 ≤ p0.Marks.length ∧ F_panel_open_L1 p0 y112 s.1 s.2 = some r) (fun s => [(1, (.pointer (some ⟨b100, 0, none⟩))), (5, (.slice Ay112_0 (y112.1).length cy112_0)), (50, (.slice Ap0_2 (p0.Marks).length cp0_2)), (51, (.int .i64 (p0.Marks.length : Int))), (52, (.int .i64 (s.2 : Int)))]) (fun s => [(1, bx b100 #[(.int .i64 p0.W), (.int .i64 p0.H), (.int .i64 p0.Rail), (.int .i64 p0.Gap), (.slice Ap0_0 (p0.Kinds).length cp0_0), (.slice Ap0_1 (p0.Slots).length cp0_1), (.slice Ap0_2 (p0.Marks).length cp0_2)] 26), (5, ow Ay112_0 cy112_0 38 fl_TRect y112.1)]) (p0.Marks.length + 1) (p0.Marks, 0) ⟨rfl, rfl, Nat.zero_le _, H⟩ (.cons rfl (.cons rfl (.cons rfl (.cons rfl (.cons rfl .nil))))) (.cons rfl (.cons rfl .nil)) (fun _ _ h => absurd h.1 (by simp)) ?_
        intro w leF_panel_open_L1 m s hs
        obtain ⟨restF_panel_open_L1, iF_panel_open_L1⟩ := s
        obtain ⟨hmF_panel_open_L1, hdF_panel_open_L1, hiF_panel_open_L1, H⟩ := hs
        replace hdF_panel_open_L1 : restF_panel_open_L1 = List.drop iF_panel_open_L1 p0.Marks := hdF_panel_open_L1
        replace H : F_panel_open_L1 p0 y112 restF_panel_open_L1 iF_panel_open_L1 = some r := H
        replace hmF_panel_open_L1 : m + 1 = restF_panel_open_L1.length + 1 := hmF_panel_open_L1
        replace hp0_0 := hp0_0.leR leF_panel_open_L1
        replace hp0_1 := hp0_1.leR leF_panel_open_L1
        replace hp0_2 := hp0_2.leR leF_panel_open_L1
        replace leB := leB.trans leF_panel_open_L1
        obtain rfl : m = restF_panel_open_L1.length := by omega
        clear hmF_panel_open_L1
        show Tr _ _ (LF [(1, (.pointer (some ⟨b100, 0, none⟩))), (5, (.slice Ay112_0 (y112.1).length cy112_0)), (50, (.slice Ap0_2 (p0.Marks).length cp0_2)), (51, (.int .i64 (p0.Marks.length : Int))), (52, (.int .i64 (iF_panel_open_L1 : Int)))]) (LE [(1, bx b100 #[(.int .i64 p0.W), (.int .i64 p0.H), (.int .i64 p0.Rail), (.int .i64 p0.Gap), (.slice Ap0_0 (p0.Kinds).length cp0_0), (.slice Ap0_1 (p0.Slots).length cp0_1), (.slice Ap0_2 (p0.Marks).length cp0_2)] 26), (5, ow Ay112_0 cy112_0 38 fl_TRect y112.1)]) _
        cases restF_panel_open_L1 with
        | nil =>
         rw [F_panel_open_L1.eq_1] at H
         refine Tr.sr ?_
         refine Tr.va rfl (fun _ _ h1 h2 => run_lss (h1.ev rfl) (h1.ev rfl)) ?_
         refine Tr.nil (Tr.normThen ?_)
         refine Tr.seq ?_
         refine Tr.condF rfl (range_nil hdF_panel_open_L1) ?_
         refine Tr.exit (Tr.exitThen (Tr.exitThen (Tr.exitBlock (Tr.normThen ?_))))
         refine Tr.sr ?_
         refine Tr.mv rfl rfl ?_
         refine Tr.asg rfl rfl ?_
         refine Tr.asg rfl rfl ?_
         refine Tr.nil (Tr.normThen ?_)
         refine Tr.ret ?_
         obtain rfl := Option.some.inj H
         exact Tr.out (m := [(.slice Ay112_0 (y112.1).length cy112_0), (.int .i64 0)]) [] (res_tmp rfl (res_tmp rfl res_nil)) (fun W hW => ⟨(Ay112_0, cy112_0), rfl, hgy112_0, HF.lowE leB (hW.pick (ks := [5]) (by decide) (pk_cons rfl pk_nil)) ⟨ow_any _ _ _ _ tr_TRect, trivial⟩⟩)
        | cons xF_panel_open_L1 restF_panel_open_L1 =>
         rw [F_panel_open_L1.eq_2] at H
         refine Tr.sr ?_
         refine Tr.va rfl (fun _ _ h1 h2 => run_lss (h1.ev rfl) (h1.ev rfl)) ?_
         refine Tr.nil (Tr.normThen ?_)
         refine Tr.seq ?_
         refine Tr.condT rfl (range_on hdF_panel_open_L1) ?_
         refine Tr.skip (Tr.normThen ?_)
         refine Tr.seq ?_
         refine Tr.block ?_
         refine Tr.sr ?_
         refine Tr.mv rfl rfl ?_
         refine Tr.va rfl (fun _ _ h1 h2 => run_indexAddr el_24 (h1.ev rfl) hp0_2.form (h1.ev rfl) (Int.natCast_nonneg _) (range_lt hdF_panel_open_L1)) ?_
         refine Tr.va rfl (fun _ _ h1 h2 => run_loadN (cs := [(.int .i64 xF_panel_open_L1.X), (.int .i64 xF_panel_open_L1.Y)]) ag_82 sz_82 (h1.ev rfl) (CellsAt.take (rdF ef_TPoint hp0_2 (range_at hdF_panel_open_L1) h2) 2) rfl) ?_
         refine Tr.alloc 12 (wn rfl) rfl ze_82 fun b121 => ?_
         refine Tr.asg rfl rfl ?_
         refine Tr.store 12 (cs := [(.int .i64 xF_panel_open_L1.X), (.int .i64 xF_panel_open_L1.Y)]) [(.int .i64 xF_panel_open_L1.X), (.int .i64 xF_panel_open_L1.Y)] (wn rfl) rfl rfl rfl rfl sz_82 rfl rfl rfl ?_
         refine Tr.nil (Tr.normThen ?_)
         refine Tr.block ?_
         refine Tr.sr ?_
         refine Tr.va rfl (fun _ _ h1 h2 => run_loadN (cs := [(.int .i64 p0.W), (.int .i64 p0.H), (.int .i64 p0.Rail), (.int .i64 p0.Gap), (.slice Ap0_0 (p0.Kinds).length cp0_0), (.slice Ap0_1 (p0.Slots).length cp0_1), (.slice Ap0_2 (p0.Marks).length cp0_2)]) ag_26 sz_26 (h1.ev rfl) (CellsAt.take (rdb h2 (vs := [(.int .i64 p0.W), (.int .i64 p0.H), (.int .i64 p0.Rail), (.int .i64 p0.Gap), (.slice Ap0_0 (p0.Kinds).length cp0_0), (.slice Ap0_1 (p0.Slots).length cp0_1), (.slice Ap0_2 (p0.Marks).length cp0_2)]) (k := 1) rfl 0) 7) rfl) ?_
         refine Tr.va rfl (fun _ _ h1 h2 => run_loadN (cs := [(.int .i64 xF_panel_open_L1.X), (.int .i64 xF_panel_open_L1.Y)]) ag_82 sz_82 (h1.ev rfl) (CellsAt.take (rdb h2 (vs := [(.int .i64 xF_panel_open_L1.X), (.int .i64 xF_panel_open_L1.Y)]) (k := 12) rfl 0) 2) rfl) ?_
         obtain ⟨y122, hy122, H⟩ := bnd H
         refine Tr.call0 (r := (.bool y122)) (wn rfl) rfl Try.call53 (evl_cons rfl (evl_cons rfl evl_nil)) (fun W hW => F_panel_isOnPanel_ok p0 Ap0_0 cp0_0 (hp0_0.ext hW.extAll) Ap0_1 cp0_1 (hp0_1.ext hW.extAll) Ap0_2 cp0_2 (hp0_2.ext hW.extAll) xF_panel_open_L1 y122 hy122 (HF.start _)) ?_
         refine Tr.va rfl (fun _ _ h1 h2 => run_not (h1.ev rfl)) ?_
         refine Tr.asg rfl rfl ?_
         refine Tr.nil (Tr.normThen ?_)
         refine Tr.cond rfl H (fun H => ?_) (fun H => ?_)
         ·refine Tr.sr ?_
          refine Tr.asg rfl rfl ?_
          refine Tr.nilOwn 13 38 fl_TRect ?_
          show Tr _ _ (uf _ 2 (.slice none (([] : List TRect)).length 0)) _ _
          refine Tr.asg rfl rfl ?_
          refine Tr.nil (Tr.normThen ?_)
          refine Tr.ret (Tr.retBlock (Tr.retBlock (Tr.retThen (Tr.retThen (Tr.retBlock (Tr.retThen ?_))))))
          obtain rfl := Option.some.inj H
          exact Tr.out (m := [(.slice none (([] : List TRect)).length 0), (.int .i64 1)]) [] (res_tmp rfl (res_tmp rfl res_nil)) (fun W hW => ⟨(none, 0), rfl, slf_nil, HF.lowE leB (hW.pick (ks := [13]) (by decide) (pk_cons rfl pk_nil)) ⟨ow_any _ _ _ _ tr_TRect, trivial⟩⟩)
         ·refine Tr.sr ?_
          refine Tr.mv rfl rfl ?_
          refine Tr.mkFunc (vs := [(.pointer (some ⟨b121, 0, none⟩))]) (wn rfl) rfl (evl_cons rfl evl_nil) ?_
          obtain ⟨y123, hy123, H⟩ := bnd H
          refine Tr.call0 (r := (.bool y123)) (wn rfl) rfl Try.call31 (evl_cons rfl (evl_cons rfl evl_nil)) (fun W hW => F_slices_ContainsFunc_Rect_ok y112.1 Ay112_0 cy112_0 (hW.slCall (k := 5) rfl) (fun z0 => F_panel_open_1 z0 xF_panel_open_L1) 54 [(.pointer (some ⟨b121, 0, none⟩))] Try.call54 (fun w' he z0 y hy => F_panel_open_1_ok z0 xF_panel_open_L1 b121 (he.r _ (hW.capR (k := 12) rfl)) (he.cells (hW.capR (k := 12) rfl) (hW.capC (k := 12) rfl)) y hy (HF.start _)) y123 hy123 (HF.start _)) ?_
          refine Tr.asg rfl rfl ?_
          refine Tr.nil (Tr.normThen ?_)
          refine Tr.cond rfl H (fun H => ?_) (fun H => ?_)
          ·refine Tr.sr ?_
           refine Tr.asg rfl rfl ?_
           refine Tr.nilOwn 14 38 fl_TRect ?_
           show Tr _ _ (uf _ 2 (.slice none (([] : List TRect)).length 0)) _ _
           refine Tr.asg rfl rfl ?_
           refine Tr.nil (Tr.normThen ?_)
           refine Tr.ret (Tr.retBlock (Tr.retBlock (Tr.retThen (Tr.retThen (Tr.retBlock (Tr.retThen ?_))))))
           obtain rfl := Option.some.inj H
           exact Tr.out (m := [(.slice none (([] : List TRect)).length 0), (.int .i64 12)]) [] (res_tmp rfl (res_tmp rfl res_nil)) (fun W hW => ⟨(none, 0), rfl, slf_nil, HF.lowE leB (hW.pick (ks := [14]) (by decide) (pk_cons rfl pk_nil)) ⟨ow_any _ _ _ _ tr_TRect, trivial⟩⟩)
          ·refine Tr.seq ?_
           refine Tr.draw (by kernel_rfl) (by kernel_rfl) ?_
           refine Tq.va rfl (fun _ _ h1 h2 => run_fieldAddr fo_26_6 (h1.ev rfl)) ?_
           refine Tq.va rfl (fun _ _ h1 h2 => run_load1 ag_24 (h1.ev rfl) (rdb h2 (vs := [(.int .i64 p0.W), (.int .i64 p0.H), (.int .i64 p0.Rail), (.int .i64 p0.Gap), (.slice Ap0_0 (p0.Kinds).length cp0_0), (.slice Ap0_1 (p0.Slots).length cp0_1), (.slice Ap0_2 (p0.Marks).length cp0_2)]) (k := 1) rfl 6) rfl) ?_
           refine Tq.mv rfl rfl ?_
           obtain ⟨l124, hl124, H⟩ := bnd H
           refine Tq.va rfl (fun _ _ h1 h2 => run_pre el_24 (h1.ev rfl) hp0_2.form (h1.ev rfl) hl124) ?_
           refine Tq.va rfl (fun _ _ h1 h2 => run_loadN (cs := [(.int .i64 xF_panel_open_L1.X), (.int .i64 xF_panel_open_L1.Y)]) ag_82 sz_82 (h1.ev rfl) (CellsAt.take (rdb h2 (vs := [(.int .i64 xF_panel_open_L1.X), (.int .i64 xF_panel_open_L1.Y)]) (k := 12) rfl 0) 2) rfl) ?_
           obtain ⟨y125, hy125, H⟩ := bnd H
           refine Tq.call0 (r := (.bool y125)) (wn rfl) rfl Try.call56 (evl_cons rfl (evl_cons rfl evl_nil)) (fun W hW => F_slices_Contains_Point_ok l124 Ap0_2 cp0_2 (Sl.pre (hp0_2.ext hW.extAll) hl124) xF_panel_open_L1 y125 hy125 (HF.start _)) ?_
           refine Tq.asg rfl rfl ?_
           refine Tq.nil (Tr.normThen ?_)
           refine Tr.cond rfl H (fun H => ?_) (fun H => ?_)
           ·refine Tr.sr ?_
            refine Tr.asg rfl rfl ?_
            refine Tr.nilOwn 15 38 fl_TRect ?_
            show Tr _ _ (uf _ 2 (.slice none (([] : List TRect)).length 0)) _ _
            refine Tr.asg rfl rfl ?_
            refine Tr.nil (Tr.normThen ?_)
            refine Tr.ret (Tr.retBlock (Tr.retBlock (Tr.retThen (Tr.retThen (Tr.retBlock (Tr.retThen ?_))))))
            obtain rfl := Option.some.inj H
            exact Tr.out (m := [(.slice none (([] : List TRect)).length 0), (.int .i64 7)]) [] (res_tmp rfl (res_tmp rfl res_nil)) (fun W hW => ⟨(none, 0), rfl, slf_nil, HF.lowE leB (hW.pick (ks := [15]) (by decide) (pk_cons rfl pk_nil)) ⟨ow_any _ _ _ _ tr_TRect, trivial⟩⟩)
           ·refine Tr.skip (Tr.normBlock (Tr.normBlock (Tr.normThen ?_)))
            refine Tr.region ?_
            refine Tr.va rfl (fun _ _ h1 h2 => run_add (h1.ev rfl) (h1.ev rfl)) ?_
            refine Tr.mv rfl rfl ?_
            refine Tr.nil ?_
            exact Tr.backThen leF_panel_open_L1 (restF_panel_open_L1, (iF_panel_open_L1 + 1)) ⟨rfl, range_tl hdF_panel_open_L1, range_lt hdF_panel_open_L1, H⟩ (.cons rfl (.cons rfl (.cons rfl (.cons rfl (.cons (congrArg (fun z => some (Value.int .i64 z)) (range_up hdF_panel_open_L1 hp0_2.form)) .nil))))) (.cons rfl (.cons rfl .nil))

theorem F_panel_Cells_ok (N : Nat) {w : Bs} (p0 : TPanel) (Ap0_0 : Option Addr) (cp0_0 : Nat) (hp0_0 : Sl w.R w.W fl_TBoardKind Ap0_0 cp0_0 p0.Kinds) (Ap0_1 : Option Addr) (cp0_1 : Nat) (hp0_1 : Sl w.R w.W fl_TSlot Ap0_1 cp0_1 p0.Slots) (Ap0_2 : Option Addr) (cp0_2 : Nat) (hp0_2 : Sl w.R w.W fl_TPoint Ap0_2 cp0_2 p0.Marks) (r : ((List TRect) × Int)) (H : F_panel_Cells N p0 = some r) (hE : HF w w.W (LEn [emp])) : Calls Try.prog 9 [(.agg #[(.int .i64 p0.W), (.int .i64 p0.H), (.int .i64 p0.Rail), (.int .i64 p0.Gap), (.slice Ap0_0 (p0.Kinds).length cp0_0), (.slice Ap0_1 (p0.Slots).length cp0_1), (.slice Ap0_2 (p0.Marks).length cp0_2)])].toArray w.W fun e W' => ∃ u : (Option Addr × Nat), e = .returned (.tuple #[(.slice u.1 (r.1).length u.2), (.int .i64 r.2)]) ∧ (SlF u.1 (r.1).length u.2) ∧ HF w W' (LEn [ow u.1 u.2 38 fl_TRect r.1]) := by
 unfold F_panel_Cells at H
 have leB := Bs.Le.refl w
 refine Tr.enter (n := 8) Try.func9 rfl rfl rfl hE ?_
 refine Tr.sr ?_
 refine Tr.box 1 (cs := [(.int .i64 p0.W), (.int .i64 p0.H), (.int .i64 p0.Rail), (.int .i64 p0.Gap), (.slice Ap0_0 (p0.Kinds).length cp0_0), (.slice Ap0_1 (p0.Slots).length cp0_1), (.slice Ap0_2 (p0.Marks).length cp0_2)]) (wn rfl) rfl rfl rfl fun b100 => ?_
 refine Tr.asg rfl rfl ?_
 refine Tr.nilOwn 2 38 fl_TRect ?_
 show Tr _ _ (uf _ 2 (.slice none (([] : List TRect)).length 0)) _ _
 refine Tr.asg rfl rfl ?_
 refine Tr.nil (Tr.normThen ?_)
 refine Tr.sr ?_
 refine Tr.va rfl (fun _ _ h1 h2 => run_loadN (cs := [(.int .i64 p0.W), (.int .i64 p0.H), (.int .i64 p0.Rail), (.int .i64 p0.Gap), (.slice Ap0_0 (p0.Kinds).length cp0_0), (.slice Ap0_1 (p0.Slots).length cp0_1), (.slice Ap0_2 (p0.Marks).length cp0_2)]) ag_26 sz_26 (h1.ev rfl) (CellsAt.take (rdb h2 (vs := [(.int .i64 p0.W), (.int .i64 p0.H), (.int .i64 p0.Rail), (.int .i64 p0.Gap), (.slice Ap0_0 (p0.Kinds).length cp0_0), (.slice Ap0_1 (p0.Slots).length cp0_1), (.slice Ap0_2 (p0.Marks).length cp0_2)]) (k := 1) rfl 0) 7) rfl) ?_
 obtain ⟨y101, hy101, H⟩ := bnd H
 refine Tr.callM [3] [emp] (U := (Option Addr × Nat)) (fun u => (.tuple #[(.slice u.1 (y101.1).length u.2), (.int .i64 y101.2)])) (fun u => SlF u.1 (y101.1).length u.2) (fun u => [ow u.1 u.2 38 fl_TRect y101.1]) rfl (pk_cons rfl pk_nil) (fun _ => rfl) (wn rfl) rfl Try.call25 (evl_cons rfl evl_nil) (fun W hW hp hE => F_panel_open_ok N p0 Ap0_0 cp0_0 (hp0_0.ext (hW.extS hp)) Ap0_1 cp0_1 (hp0_1.ext (hW.extS hp)) Ap0_2 cp0_2 (hp0_2.ext (hW.extS hp)) y101 hy101 hE) ?_
 intro u hu
 obtain ⟨Ay101_0, cy101_0⟩ := u
 have gy101_0 := hu
 have hgy101_0 : SlF Ay101_0 (y101.1).length cy101_0 := gy101_0 --@phi
 show Tr _ _ (uf _ 5 (.tuple #[(.slice Ay101_0 (y101.1).length cy101_0), (.int .i64 y101.2)])) (up _ 3 (ow Ay101_0 cy101_0 38 fl_TRect y101.1)) _
 refine Tr.va rfl (fun _ _ h1 h2 => run_extract (h1.ev rfl) rfl) ?_
 refine Tr.va rfl (fun _ _ h1 h2 => run_extract (h1.ev rfl) rfl) ?_
 refine Tr.asg rfl rfl ?_
 refine Tr.asg rfl rfl ?_
 refine Tr.nil (Tr.normThen ?_)
 refine Tr.ret ?_
 obtain rfl := Option.some.inj H
 exact Tr.out (m := [(.slice Ay101_0 (y101.1).length cy101_0), (.int .i64 y101.2)]) [] (res_tmp rfl (res_tmp rfl res_nil)) (fun W hW => ⟨(Ay101_0, cy101_0), rfl, hgy101_0, HF.lowE leB (hW.pick (ks := [3]) (by decide) (pk_cons rfl pk_nil)) ⟨ow_any _ _ _ _ tr_TRect, trivial⟩⟩)

theorem F_etchhouseref9_within_ok {w : Bs} (p0 : Int) (p1 : Int) (p2 : Int) (r : Bool) (H : F_etchhouseref9_within p0 p1 p2 = some r) (hE : HF w w.W E0) : Calls Try.prog 41 [(.int .i64 p0), (.int .i64 p1), (.int .i64 p2)].toArray w.W fun e W' => e = .returned (.bool r) ∧ HF w W' E0 := by
 unfold F_etchhouseref9_within at H
 have leB := Bs.Le.refl w
 refine Tr.enter (n := 15) Try.func41 rfl rfl rfl hE ?_
 refine Tr.sr ?_
 refine Tr.asg rfl rfl ?_
 refine Tr.nil (Tr.normThen ?_)
 refine Tr.sr ?_
 refine Tr.mv rfl rfl ?_
 refine Tr.mv rfl rfl ?_
 refine Tr.va rfl (fun _ _ h1 h2 => run_geq (h1.ev rfl) (h1.ev rfl)) ?_
 refine Tr.mv rfl rfl ?_
 refine Tr.mid0 4 [(14, (.bool ((decide (p1 ≤ p0)) && (decide (p0 ≤ p2)))))] [] ?_ ?_
 ·cases hg99 : (decide (p1 ≤ p0))
  ·refine Tr.pass rfl rfl rfl rfl rfl (by decide) ?_
   refine Tr.pass rfl rfl rfl rfl rfl (by decide) ?_
   refine Tr.pass rfl rfl rfl rfl rfl (by decide) ?_
   refine Tr.va rfl (fun _ _ h1 h2 => run_pickF (h1.ev rfl) (h1.ev rfl)) ?_
   exact Tr.nil (Tr.fin0 (.cons rfl .nil) .nil)
  ·refine Tr.val (wg rfl rfl rfl) rfl (fun _ _ h1 h2 => run_move (h1.ev rfl)) ?_
   refine Tr.val (wg rfl rfl rfl) rfl (fun _ _ h1 h2 => run_move (h1.ev rfl)) ?_
   refine Tr.val (wg rfl rfl rfl) rfl (fun _ _ h1 h2 => run_leq (h1.ev rfl) (h1.ev rfl)) ?_
   refine Tr.va rfl (fun _ _ h1 h2 => run_pickT (h1.ev rfl) (h1.ev rfl)) ?_
   exact Tr.nil (Tr.fin0 (.cons rfl .nil) .nil)
 ·show Tr _ _ (LF [(14, (.bool ((decide (p1 ≤ p0)) && (decide (p0 ≤ p2)))))]) (LE []) _
  refine Tr.asg rfl rfl ?_
  refine Tr.nil (Tr.normThen ?_)
  refine Tr.ret ?_
  obtain rfl := Option.some.inj H
  exact Tr.out (m := [(.bool ((decide (p1 ≤ p0)) && (decide (p0 ≤ p2))))]) [] (res_tmp rfl res_nil) (fun W hW => ⟨rfl, hW.low leB⟩)

theorem F_etchhouseref3_within_ok {w : Bs} (p0 : Int) (p1 : Int) (p2 : Int) (r : Bool) (H : F_etchhouseref3_within p0 p1 p2 = some r) (hE : HF w w.W E0) : Calls Try.prog 65 [(.int .i64 p0), (.int .i64 p1), (.int .i64 p2)].toArray w.W fun e W' => e = .returned (.bool r) ∧ HF w W' E0 := by
 unfold F_etchhouseref3_within at H
 have leB := Bs.Le.refl w
 refine Tr.enter (n := 15) Try.func65 rfl rfl rfl hE ?_
 refine Tr.sr ?_
 refine Tr.asg rfl rfl ?_
 refine Tr.nil (Tr.normThen ?_)
 refine Tr.sr ?_
 refine Tr.mv rfl rfl ?_
 refine Tr.mv rfl rfl ?_
 refine Tr.va rfl (fun _ _ h1 h2 => run_geq (h1.ev rfl) (h1.ev rfl)) ?_
 refine Tr.mv rfl rfl ?_
 refine Tr.mid0 4 [(14, (.bool ((decide (p1 ≤ p0)) && (decide (p0 ≤ p2)))))] [] ?_ ?_
 ·cases hg99 : (decide (p1 ≤ p0))
  ·refine Tr.pass rfl rfl rfl rfl rfl (by decide) ?_
   refine Tr.pass rfl rfl rfl rfl rfl (by decide) ?_
   refine Tr.pass rfl rfl rfl rfl rfl (by decide) ?_
   refine Tr.va rfl (fun _ _ h1 h2 => run_pickF (h1.ev rfl) (h1.ev rfl)) ?_
   exact Tr.nil (Tr.fin0 (.cons rfl .nil) .nil)
  ·refine Tr.val (wg rfl rfl rfl) rfl (fun _ _ h1 h2 => run_move (h1.ev rfl)) ?_
   refine Tr.val (wg rfl rfl rfl) rfl (fun _ _ h1 h2 => run_move (h1.ev rfl)) ?_
   refine Tr.val (wg rfl rfl rfl) rfl (fun _ _ h1 h2 => run_leq (h1.ev rfl) (h1.ev rfl)) ?_
   refine Tr.va rfl (fun _ _ h1 h2 => run_pickT (h1.ev rfl) (h1.ev rfl)) ?_
   exact Tr.nil (Tr.fin0 (.cons rfl .nil) .nil)
 ·show Tr _ _ (LF [(14, (.bool ((decide (p1 ≤ p0)) && (decide (p0 ≤ p2)))))]) (LE []) _
  refine Tr.asg rfl rfl ?_
  refine Tr.nil (Tr.normThen ?_)
  refine Tr.ret ?_
  obtain rfl := Option.some.inj H
  exact Tr.out (m := [(.bool ((decide (p1 ≤ p0)) && (decide (p0 ≤ p2))))]) [] (res_tmp rfl res_nil) (fun W hW => ⟨rfl, hW.low leB⟩)

theorem F_etchhouseref3_IsName_ok (N : Nat) {w : Bs} (p0 : ByteArray) (r : Bool) (H : F_etchhouseref3_IsName N p0 = some r) (hE : HF w w.W E0) : Calls Try.prog 42 [(.string p0)].toArray w.W fun e W' => e = .returned (.bool r) ∧ HF w W' E0 := by
 unfold F_etchhouseref3_IsName at H
 have leB := Bs.Le.refl w
 refine Tr.enter (n := 55) Try.func42 rfl rfl rfl hE ?_
 refine Tr.sr ?_
 refine Tr.asg rfl rfl ?_
 refine Tr.nil (Tr.normThen ?_)
 refine Tr.seq ?_
 refine Tr.sr ?_
 refine Tr.asg rfl rfl ?_
 refine Tr.nil (Tr.normThen ?_)
 refine Tr.block ?_
 refine Tr.loop (σ := Int) (fun m w s => F_etchhouseref3_IsName_L1 p0 m s = some r) (fun s => [(0, (.string p0)), (3, (.int .i64 s))]) (fun s => []) N 0 H (.cons rfl (.cons rfl .nil)) .nil (fun _ _ h => noSome (h)) ?_
 intro w leF_etchhouseref3_IsName_L1 mF_etchhouseref3_IsName_L1 x105 hs
 have H := hs
 replace H : F_etchhouseref3_IsName_L1 p0 (mF_etchhouseref3_IsName_L1 + 1) x105 = some r := H
 replace leB := leB.trans leF_etchhouseref3_IsName_L1
 rw [F_etchhouseref3_IsName_L1.eq_2] at H
 show Tr _ _ (LF [(0, (.string p0)), (3, (.int .i64 x105))]) (LE []) _
 refine Tr.seq ?_
 refine Tr.sr ?_
 refine Tr.mv rfl rfl ?_
 refine Tr.mv rfl rfl ?_
 refine Tr.va rfl (fun _ _ h1 h2 => run_lenS un_9 (h1.ev rfl)) ?_
 refine Tr.va rfl (fun _ _ h1 h2 => run_lss (h1.ev rfl) (h1.ev rfl)) ?_
 refine Tr.nil (Tr.normThen ?_)
 refine Tr.cond rfl H (fun H => ?_) (fun H => ?_)
 ·refine Tr.skip (Tr.normThen ?_)
  refine Tr.seq ?_
  refine Tr.block ?_
  refine Tr.sr ?_
  refine Tr.mv rfl rfl ?_
  refine Tr.mv rfl rfl ?_
  obtain ⟨c106, hc106, H⟩ := bnd H
  refine Tr.va rfl (fun _ _ h1 h2 => run_indexS un_9 (h1.ev rfl) (h1.ev rfl) hc106) ?_
  refine Tr.asg rfl rfl ?_
  refine Tr.nil (Tr.normThen ?_)
  refine Tr.sr ?_
  refine Tr.mv rfl rfl ?_
  refine Tr.va rfl (fun _ _ h1 h2 => run_geq (h1.ev rfl) (h1.ev rfl)) ?_
  refine Tr.mv rfl rfl ?_
  refine Tr.mid0 3 [(0, (.string p0)), (3, (.int .i64 x105)), (4, (.int .u8 c106)), (20, (.bool ((decide (97 ≤ c106)) && (decide (c106 ≤ 122)))))] [] ?_ ?_
  ·cases hg106 : (decide (97 ≤ c106))
   ·refine Tr.pass rfl rfl rfl rfl rfl (by decide) ?_
    refine Tr.pass rfl rfl rfl rfl rfl (by decide) ?_
    refine Tr.va rfl (fun _ _ h1 h2 => run_pickF (h1.ev rfl) (h1.ev rfl)) ?_
    exact Tr.nil (Tr.fin0 (.cons rfl (.cons rfl (.cons rfl (.cons rfl .nil)))) .nil)
   ·refine Tr.val (wg rfl rfl rfl) rfl (fun _ _ h1 h2 => run_move (h1.ev rfl)) ?_
    refine Tr.val (wg rfl rfl rfl) rfl (fun _ _ h1 h2 => run_leq (h1.ev rfl) (h1.ev rfl)) ?_
    refine Tr.va rfl (fun _ _ h1 h2 => run_pickT (h1.ev rfl) (h1.ev rfl)) ?_
    exact Tr.nil (Tr.fin0 (.cons rfl (.cons rfl (.cons rfl (.cons rfl .nil)))) .nil)
  ·show Tr _ _ (LF [(0, (.string p0)), (3, (.int .i64 x105)), (4, (.int .u8 c106)), (20, (.bool ((decide (97 ≤ c106)) && (decide (c106 ≤ 122)))))]) (LE []) _
   refine Tr.mv rfl rfl ?_
   refine Tr.mid0 7 [(0, (.string p0)), (3, (.int .i64 x105)), (4, (.int .u8 c106)), (28, (.bool (((decide (97 ≤ c106)) && (decide (c106 ≤ 122))) || ((decide (65 ≤ c106)) && (decide (c106 ≤ 90))))))] [] ?_ ?_
   ·cases hg106 : ((decide (97 ≤ c106)) && (decide (c106 ≤ 122)))
    ·refine Tr.val (wg rfl rfl rfl) rfl (fun _ _ h1 h2 => run_move (h1.ev rfl)) ?_
     refine Tr.val (wg rfl rfl rfl) rfl (fun _ _ h1 h2 => run_geq (h1.ev rfl) (h1.ev rfl)) ?_
     refine Tr.val (wg rfl rfl rfl) rfl (fun _ _ h1 h2 => run_move (h1.ev rfl)) ?_
     refine Tr.mid0 3 [(0, (.string p0)), (3, (.int .i64 x105)), (4, (.int .u8 c106)), (21, (.bool false)), (27, (.bool ((decide (65 ≤ c106)) && (decide (c106 ≤ 90)))))] [] ?_ ?_
     ·cases hg106 : (decide (65 ≤ c106))
      ·refine Tr.pass rfl rfl rfl rfl rfl (by decide) ?_
       refine Tr.pass rfl rfl rfl rfl rfl (by decide) ?_
       refine Tr.val (wg rfl rfl rfl) rfl (fun _ _ h1 h2 => run_pickF (h1.ev rfl) (h1.ev rfl)) ?_
       exact Tr.nil (Tr.fin0 (.cons rfl (.cons rfl (.cons rfl (.cons rfl (.cons rfl .nil))))) .nil)
      ·refine Tr.val (wg rfl rfl rfl) rfl (fun _ _ h1 h2 => run_move (h1.ev rfl)) ?_
       refine Tr.val (wg rfl rfl rfl) rfl (fun _ _ h1 h2 => run_leq (h1.ev rfl) (h1.ev rfl)) ?_
       refine Tr.val (wg rfl rfl rfl) rfl (fun _ _ h1 h2 => run_pickT (h1.ev rfl) (h1.ev rfl)) ?_
       exact Tr.nil (Tr.fin0 (.cons rfl (.cons rfl (.cons rfl (.cons rfl (.cons rfl .nil))))) .nil)
     ·show Tr _ _ (LF [(0, (.string p0)), (3, (.int .i64 x105)), (4, (.int .u8 c106)), (21, (.bool false)), (27, (.bool ((decide (65 ≤ c106)) && (decide (c106 ≤ 90)))))]) (LE []) _
      refine Tr.va rfl (fun _ _ h1 h2 => run_pickF (h1.ev rfl) (h1.ev rfl)) ?_
      exact Tr.nil (Tr.fin0 (.cons rfl (.cons rfl (.cons rfl (.cons rfl .nil)))) .nil)
    ·refine Tr.pass rfl rfl rfl rfl rfl (by decide) ?_
     refine Tr.pass rfl rfl rfl rfl rfl (by decide) ?_
     refine Tr.pass rfl rfl rfl rfl rfl (by decide) ?_
     refine Tr.passU rfl rfl rfl rfl (by decide) ?_
     refine Tr.passU rfl rfl rfl rfl (by decide) ?_
     refine Tr.pass rfl rfl rfl rfl rfl (by decide) ?_
     refine Tr.va rfl (fun _ _ h1 h2 => run_pickT (h1.ev rfl) (h1.ev rfl)) ?_
     exact Tr.nil (Tr.fin0 (.cons rfl (.cons rfl (.cons rfl (.cons rfl .nil)))) .nil)
   ·show Tr _ _ (LF [(0, (.string p0)), (3, (.int .i64 x105)), (4, (.int .u8 c106)), (28, (.bool (((decide (97 ≤ c106)) && (decide (c106 ≤ 122))) || ((decide (65 ≤ c106)) && (decide (c106 ≤ 90))))))]) (LE []) _
    refine Tr.asg rfl rfl ?_
    refine Tr.nil (Tr.normThen ?_)
    refine Tr.sr ?_
    refine Tr.mv rfl rfl ?_
    refine Tr.va rfl (fun _ _ h1 h2 => run_not (h1.ev rfl)) ?_
    refine Tr.mv rfl rfl ?_
    refine Tr.mid0 20 [(0, (.string p0)), (3, (.int .i64 x105)), (51, (.bool ((!(((decide (97 ≤ c106)) && (decide (c106 ≤ 122))) || ((decide (65 ≤ c106)) && (decide (c106 ≤ 90))))) && ((x105 == 0) || (((c106 != 95) && (c106 != 45)) && (!((decide (48 ≤ c106)) && (decide (c106 ≤ 57)))))))))] [] ?_ ?_
    ·cases hg106 : (!(((decide (97 ≤ c106)) && (decide (c106 ≤ 122))) || ((decide (65 ≤ c106)) && (decide (c106 ≤ 90)))))
     ·refine Tr.pass rfl rfl rfl rfl rfl (by decide) ?_
      refine Tr.pass rfl rfl rfl rfl rfl (by decide) ?_
      refine Tr.pass rfl rfl rfl rfl rfl (by decide) ?_
      refine Tr.passU rfl rfl rfl rfl (by decide) ?_
      refine Tr.passU rfl rfl rfl rfl (by decide) ?_
      refine Tr.passU rfl rfl rfl rfl (by decide) ?_
      refine Tr.passU rfl rfl rfl rfl (by decide) ?_
      refine Tr.passU rfl rfl rfl rfl (by decide) ?_
      refine Tr.passU rfl rfl rfl rfl (by decide) ?_
      refine Tr.passU rfl rfl rfl rfl (by decide) ?_
      refine Tr.passU rfl rfl rfl rfl (by decide) ?_
      refine Tr.passU rfl rfl rfl rfl (by decide) ?_
      refine Tr.passU rfl rfl rfl rfl (by decide) ?_
      refine Tr.passU rfl rfl rfl rfl (by decide) ?_
      refine Tr.passU rfl rfl rfl rfl (by decide) ?_
      refine Tr.passU rfl rfl rfl rfl (by decide) ?_
      refine Tr.passU rfl rfl rfl rfl (by decide) ?_
      refine Tr.passU rfl rfl rfl rfl (by decide) ?_
      refine Tr.pass rfl rfl rfl rfl rfl (by decide) ?_
      refine Tr.va rfl (fun _ _ h1 h2 => run_pickF (h1.ev rfl) (h1.ev rfl)) ?_
      exact Tr.nil (Tr.fin0 (.cons rfl (.cons rfl (.cons rfl .nil))) .nil)
     ·refine Tr.val (wg rfl rfl rfl) rfl (fun _ _ h1 h2 => run_move (h1.ev rfl)) ?_
      refine Tr.val (wg rfl rfl rfl) rfl (fun _ _ h1 h2 => run_eql (h1.ev rfl) (h1.ev rfl)) ?_
      refine Tr.val (wg rfl rfl rfl) rfl (fun _ _ h1 h2 => run_move (h1.ev rfl)) ?_
      refine Tr.mid0 16 [(0, (.string p0)), (3, (.int .i64 x105)), (31, (.bool true)), (50, (.bool ((x105 == 0) || (((c106 != 95) && (c106 != 45)) && (!((decide (48 ≤ c106)) && (decide (c106 ≤ 57))))))))] [] ?_ ?_
      ·cases hg106 : (x105 == 0)
       ·refine Tr.val (wg rfl rfl rfl) rfl (fun _ _ h1 h2 => run_move (h1.ev rfl)) ?_
        refine Tr.val (wg rfl rfl rfl) rfl (fun _ _ h1 h2 => run_neq (h1.ev rfl) (h1.ev rfl)) ?_
        refine Tr.val (wg rfl rfl rfl) rfl (fun _ _ h1 h2 => run_move (h1.ev rfl)) ?_
        refine Tr.mid0 3 [(0, (.string p0)), (3, (.int .i64 x105)), (4, (.int .u8 c106)), (31, (.bool true)), (34, (.bool false)), (40, (.bool ((c106 != 95) && (c106 != 45))))] [] ?_ ?_
        ·cases hg106 : (c106 != 95)
         ·refine Tr.pass rfl rfl rfl rfl rfl (by decide) ?_
          refine Tr.pass rfl rfl rfl rfl rfl (by decide) ?_
          refine Tr.val (wg rfl rfl rfl) rfl (fun _ _ h1 h2 => run_pickF (h1.ev rfl) (h1.ev rfl)) ?_
          exact Tr.nil (Tr.fin0 (.cons rfl (.cons rfl (.cons rfl (.cons rfl (.cons rfl (.cons rfl .nil)))))) .nil)
         ·refine Tr.val (wg rfl rfl rfl) rfl (fun _ _ h1 h2 => run_move (h1.ev rfl)) ?_
          refine Tr.val (wg rfl rfl rfl) rfl (fun _ _ h1 h2 => run_neq (h1.ev rfl) (h1.ev rfl)) ?_
          refine Tr.val (wg rfl rfl rfl) rfl (fun _ _ h1 h2 => run_pickT (h1.ev rfl) (h1.ev rfl)) ?_
          exact Tr.nil (Tr.fin0 (.cons rfl (.cons rfl (.cons rfl (.cons rfl (.cons rfl (.cons rfl .nil)))))) .nil)
        ·show Tr _ _ (LF [(0, (.string p0)), (3, (.int .i64 x105)), (4, (.int .u8 c106)), (31, (.bool true)), (34, (.bool false)), (40, (.bool ((c106 != 95) && (c106 != 45))))]) (LE []) _
         refine Tr.val (wg rfl rfl rfl) rfl (fun _ _ h1 h2 => run_move (h1.ev rfl)) ?_
         refine Tr.mid0 8 [(0, (.string p0)), (3, (.int .i64 x105)), (31, (.bool true)), (34, (.bool false)), (49, (.bool (((c106 != 95) && (c106 != 45)) && (!((decide (48 ≤ c106)) && (decide (c106 ≤ 57)))))))] [] ?_ ?_
         ·cases hg106 : ((c106 != 95) && (c106 != 45))
          ·refine Tr.pass rfl rfl rfl rfl rfl (by decide) ?_
           refine Tr.pass rfl rfl rfl rfl rfl (by decide) ?_
           refine Tr.pass rfl rfl rfl rfl rfl (by decide) ?_
           refine Tr.passU rfl rfl rfl rfl (by decide) ?_
           refine Tr.passU rfl rfl rfl rfl (by decide) ?_
           refine Tr.pass rfl rfl rfl rfl rfl (by decide) ?_
           refine Tr.pass rfl rfl rfl rfl rfl (by decide) ?_
           refine Tr.val (wg rfl rfl rfl) rfl (fun _ _ h1 h2 => run_pickF (h1.ev rfl) (h1.ev rfl)) ?_
           exact Tr.nil (Tr.fin0 (.cons rfl (.cons rfl (.cons rfl (.cons rfl (.cons rfl .nil))))) .nil)
          ·refine Tr.val (wg rfl rfl rfl) rfl (fun _ _ h1 h2 => run_move (h1.ev rfl)) ?_
           refine Tr.val (wg rfl rfl rfl) rfl (fun _ _ h1 h2 => run_geq (h1.ev rfl) (h1.ev rfl)) ?_
           refine Tr.val (wg rfl rfl rfl) rfl (fun _ _ h1 h2 => run_move (h1.ev rfl)) ?_
           refine Tr.mid0 3 [(0, (.string p0)), (3, (.int .i64 x105)), (31, (.bool true)), (34, (.bool false)), (41, (.bool true)), (47, (.bool ((decide (48 ≤ c106)) && (decide (c106 ≤ 57)))))] [] ?_ ?_
           ·cases hg106 : (decide (48 ≤ c106))
            ·refine Tr.pass rfl rfl rfl rfl rfl (by decide) ?_
             refine Tr.pass rfl rfl rfl rfl rfl (by decide) ?_
             refine Tr.val (wg rfl rfl rfl) rfl (fun _ _ h1 h2 => run_pickF (h1.ev rfl) (h1.ev rfl)) ?_
             exact Tr.nil (Tr.fin0 (.cons rfl (.cons rfl (.cons rfl (.cons rfl (.cons rfl (.cons rfl .nil)))))) .nil)
            ·refine Tr.val (wg rfl rfl rfl) rfl (fun _ _ h1 h2 => run_move (h1.ev rfl)) ?_
             refine Tr.val (wg rfl rfl rfl) rfl (fun _ _ h1 h2 => run_leq (h1.ev rfl) (h1.ev rfl)) ?_
             refine Tr.val (wg rfl rfl rfl) rfl (fun _ _ h1 h2 => run_pickT (h1.ev rfl) (h1.ev rfl)) ?_
             exact Tr.nil (Tr.fin0 (.cons rfl (.cons rfl (.cons rfl (.cons rfl (.cons rfl (.cons rfl .nil)))))) .nil)
           ·show Tr _ _ (LF [(0, (.string p0)), (3, (.int .i64 x105)), (31, (.bool true)), (34, (.bool false)), (41, (.bool true)), (47, (.bool ((decide (48 ≤ c106)) && (decide (c106 ≤ 57)))))]) (LE []) _
            refine Tr.val (wg rfl rfl rfl) rfl (fun _ _ h1 h2 => run_not (h1.ev rfl)) ?_
            refine Tr.val (wg rfl rfl rfl) rfl (fun _ _ h1 h2 => run_pickT (h1.ev rfl) (h1.ev rfl)) ?_
            exact Tr.nil (Tr.fin0 (.cons rfl (.cons rfl (.cons rfl (.cons rfl (.cons rfl .nil))))) .nil)
         ·show Tr _ _ (LF [(0, (.string p0)), (3, (.int .i64 x105)), (31, (.bool true)), (34, (.bool false)), (49, (.bool (((c106 != 95) && (c106 != 45)) && (!((decide (48 ≤ c106)) && (decide (c106 ≤ 57)))))))]) (LE []) _
          refine Tr.val (wg rfl rfl rfl) rfl (fun _ _ h1 h2 => run_pickF (h1.ev rfl) (h1.ev rfl)) ?_
          exact Tr.nil (Tr.fin0 (.cons rfl (.cons rfl (.cons rfl (.cons rfl .nil)))) .nil)
       ·refine Tr.pass rfl rfl rfl rfl rfl (by decide) ?_
        refine Tr.pass rfl rfl rfl rfl rfl (by decide) ?_
        refine Tr.pass rfl rfl rfl rfl rfl (by decide) ?_
        refine Tr.passU rfl rfl rfl rfl (by decide) ?_
        refine Tr.passU rfl rfl rfl rfl (by decide) ?_
        refine Tr.pass rfl rfl rfl rfl rfl (by decide) ?_
        refine Tr.pass rfl rfl rfl rfl rfl (by decide) ?_
        refine Tr.passU rfl rfl rfl rfl (by decide) ?_
        refine Tr.passU rfl rfl rfl rfl (by decide) ?_
        refine Tr.passU rfl rfl rfl rfl (by decide) ?_
        refine Tr.passU rfl rfl rfl rfl (by decide) ?_
        refine Tr.passU rfl rfl rfl rfl (by decide) ?_
        refine Tr.passU rfl rfl rfl rfl (by decide) ?_
        refine Tr.passU rfl rfl rfl rfl (by decide) ?_
        refine Tr.pass rfl rfl rfl rfl rfl (by decide) ?_
        refine Tr.val (wg rfl rfl rfl) rfl (fun _ _ h1 h2 => run_pickT (h1.ev rfl) (h1.ev rfl)) ?_
        exact Tr.nil (Tr.fin0 (.cons rfl (.cons rfl (.cons rfl (.cons rfl .nil)))) .nil)
      ·show Tr _ _ (LF [(0, (.string p0)), (3, (.int .i64 x105)), (31, (.bool true)), (50, (.bool ((x105 == 0) || (((c106 != 95) && (c106 != 45)) && (!((decide (48 ≤ c106)) && (decide (c106 ≤ 57))))))))]) (LE []) _
       refine Tr.va rfl (fun _ _ h1 h2 => run_pickT (h1.ev rfl) (h1.ev rfl)) ?_
       exact Tr.nil (Tr.fin0 (.cons rfl (.cons rfl (.cons rfl .nil))) .nil)
    ·show Tr _ _ (LF [(0, (.string p0)), (3, (.int .i64 x105)), (51, (.bool ((!(((decide (97 ≤ c106)) && (decide (c106 ≤ 122))) || ((decide (65 ≤ c106)) && (decide (c106 ≤ 90))))) && ((x105 == 0) || (((c106 != 95) && (c106 != 45)) && (!((decide (48 ≤ c106)) && (decide (c106 ≤ 57)))))))))]) (LE []) _
     refine Tr.nil (Tr.normThen ?_)
     refine Tr.cond rfl H (fun H => ?_) (fun H => ?_)
     ·refine Tr.sr ?_
      refine Tr.asg rfl rfl ?_
      refine Tr.nil (Tr.normThen ?_)
      refine Tr.ret (Tr.retBlock (Tr.retThen (Tr.retThen (Tr.retBlock (Tr.retThen ?_)))))
      obtain rfl := Option.some.inj H
      exact Tr.out (m := [(.bool false)]) [] (res_tmp rfl res_nil) (fun W hW => ⟨rfl, hW.low leB⟩)
     ·refine Tr.skip (Tr.normBlock (Tr.normThen ?_))
      refine Tr.region ?_
      refine Tr.mv rfl rfl ?_
      refine Tr.va rfl (fun _ _ h1 h2 => run_add (h1.ev rfl) (h1.ev rfl)) ?_
      refine Tr.asg rfl rfl ?_
      refine Tr.nil ?_
      exact Tr.backThen leF_etchhouseref3_IsName_L1 (w64 (x105 + 1)) H (.cons rfl (.cons rfl .nil)) .nil
 ·refine Tr.exit (Tr.exitThen (Tr.exitThen (Tr.exitBlock (Tr.normThen ?_))))
  refine Tr.sr ?_
  refine Tr.mv rfl rfl ?_
  refine Tr.va rfl (fun _ _ h1 h2 => run_lenS un_9 (h1.ev rfl)) ?_
  obtain ⟨y107, hy107, H⟩ := bnd H
  refine Tr.call0 (r := (.bool y107)) (wn rfl) rfl Try.call65 (evl_cons rfl (evl_cons rfl (evl_cons rfl evl_nil))) (fun W hW => F_etchhouseref3_within_ok (p0.size : Int) 1 40 y107 hy107 (HF.start _)) ?_
  refine Tr.asg rfl rfl ?_
  refine Tr.nil (Tr.normThen ?_)
  refine Tr.ret ?_
  obtain rfl := Option.some.inj H
  exact Tr.out (m := [(.bool y107)]) [] (res_tmp rfl res_nil) (fun W hW => ⟨rfl, hW.low leB⟩)

theorem F_etchhouseref9_kind_ok (N : Nat) {w : Bs} (p0 : TPanel) (Ap0_0 : Option Addr) (cp0_0 : Nat) (hp0_0 : Sl w.R w.W fl_TBoardKind Ap0_0 cp0_0 p0.Kinds) (Ap0_1 : Option Addr) (cp0_1 : Nat) (hp0_1 : Sl w.R w.W fl_TSlot Ap0_1 cp0_1 p0.Slots) (Ap0_2 : Option Addr) (cp0_2 : Nat) (hp0_2 : Sl w.R w.W fl_TPoint Ap0_2 cp0_2 p0.Marks) (p1 : ByteArray) (r : Int) (H : F_etchhouseref9_kind N p0 p1 = some r) (hE : HF w w.W E0) : Calls Try.prog 66 [(.agg #[(.int .i64 p0.W), (.int .i64 p0.H), (.int .i64 p0.Rail), (.int .i64 p0.Gap), (.slice Ap0_0 (p0.Kinds).length cp0_0), (.slice Ap0_1 (p0.Slots).length cp0_1), (.slice Ap0_2 (p0.Marks).length cp0_2)]), (.string p1)].toArray w.W fun e W' => e = .returned (.int .i64 r) ∧ HF w W' E0 := by
 unfold F_etchhouseref9_kind at H
 have leB := Bs.Le.refl w
 refine Tr.enter (n := 22) Try.func66 rfl rfl rfl hE ?_
 refine Tr.sr ?_
 refine Tr.box 1 (cs := [(.int .i64 p0.W), (.int .i64 p0.H), (.int .i64 p0.Rail), (.int .i64 p0.Gap), (.slice Ap0_0 (p0.Kinds).length cp0_0), (.slice Ap0_1 (p0.Slots).length cp0_1), (.slice Ap0_2 (p0.Marks).length cp0_2)]) (wn rfl) rfl rfl rfl fun b100 => ?_
 refine Tr.asg rfl rfl ?_
 refine Tr.nil (Tr.normThen ?_)
 refine Tr.seq ?_
 refine Tr.sr ?_
 refine Tr.asg rfl rfl ?_
 refine Tr.nil (Tr.normThen ?_)
 refine Tr.block ?_
 refine Tr.loop (σ := Int) (fun m w s => F_etchhouseref9_kind_L1 p0 p1 m s = some r) (fun s => [(1, (.string p1)), (2, (.pointer (some ⟨b100, 0, none⟩))), (5, (.int .i64 s))]) (fun s => [(1, bx b100 #[(.int .i64 p0.W), (.int .i64 p0.H), (.int .i64 p0.Rail), (.int .i64 p0.Gap), (.slice Ap0_0 (p0.Kinds).length cp0_0), (.slice Ap0_1 (p0.Slots).length cp0_1), (.slice Ap0_2 (p0.Marks).length cp0_2)] 26)]) N 0 H (.cons rfl (.cons rfl (.cons rfl .nil))) (.cons rfl .nil) (fun _ _ h => noSome (h)) ?_
 intro w leF_etchhouseref9_kind_L1 mF_etchhouseref9_kind_L1 x106 hs
 have H := hs
 replace H : F_etchhouseref9_kind_L1 p0 p1 (mF_etchhouseref9_kind_L1 + 1) x106 = some r := H
 replace hp0_0 := hp0_0.leR leF_etchhouseref9_kind_L1
 replace hp0_1 := hp0_1.leR leF_etchhouseref9_kind_L1
 replace hp0_2 := hp0_2.leR leF_etchhouseref9_kind_L1
 replace leB := leB.trans leF_etchhouseref9_kind_L1
 rw [F_etchhouseref9_kind_L1.eq_2] at H
 show Tr _ _ (LF [(1, (.string p1)), (2, (.pointer (some ⟨b100, 0, none⟩))), (5, (.int .i64 x106))]) (LE [(1, bx b100 #[(.int .i64 p0.W), (.int .i64 p0.H), (.int .i64 p0.Rail), (.int .i64 p0.Gap), (.slice Ap0_0 (p0.Kinds).length cp0_0), (.slice Ap0_1 (p0.Slots).length cp0_1), (.slice Ap0_2 (p0.Marks).length cp0_2)] 26)]) _
 refine Tr.seq ?_
 refine Tr.sr ?_
 refine Tr.mv rfl rfl ?_
 refine Tr.va rfl (fun _ _ h1 h2 => run_fieldAddr fo_26_4 (h1.ev rfl)) ?_
 refine Tr.va rfl (fun _ _ h1 h2 => run_load1 ag_22 (h1.ev rfl) (rdb h2 (vs := [(.int .i64 p0.W), (.int .i64 p0.H), (.int .i64 p0.Rail), (.int .i64 p0.Gap), (.slice Ap0_0 (p0.Kinds).length cp0_0), (.slice Ap0_1 (p0.Slots).length cp0_1), (.slice Ap0_2 (p0.Marks).length cp0_2)]) (k := 1) rfl 4) rfl) ?_
 refine Tr.va rfl (fun _ _ h1 h2 => run_len un_22 (h1.ev rfl)) ?_
 refine Tr.va rfl (fun _ _ h1 h2 => run_lss (h1.ev rfl) (h1.ev rfl)) ?_
 refine Tr.nil (Tr.normThen ?_)
 refine Tr.cond rfl H (fun H => ?_) (fun H => ?_)
 ·refine Tr.skip (Tr.normThen ?_)
  refine Tr.seq ?_
  refine Tr.block ?_
  refine Tr.sr ?_
  refine Tr.va rfl (fun _ _ h1 h2 => run_fieldAddr fo_26_4 (h1.ev rfl)) ?_
  refine Tr.va rfl (fun _ _ h1 h2 => run_load1 ag_22 (h1.ev rfl) (rdb h2 (vs := [(.int .i64 p0.W), (.int .i64 p0.H), (.int .i64 p0.Rail), (.int .i64 p0.Gap), (.slice Ap0_0 (p0.Kinds).length cp0_0), (.slice Ap0_1 (p0.Slots).length cp0_1), (.slice Ap0_2 (p0.Marks).length cp0_2)]) (k := 1) rfl 4) rfl) ?_
  refine Tr.mv rfl rfl ?_
  obtain ⟨x107, hx107, H⟩ := bnd H
  obtain ⟨hx1070, hx1071, hx1072⟩ := idx_some hx107
  refine Tr.va rfl (fun _ _ h1 h2 => run_indexAddr el_22 (h1.ev rfl) hp0_0.form (h1.ev rfl) hx1070 hx1071) ?_
  refine Tr.va rfl (fun _ _ h1 h2 => run_fieldAddr fo_74_0 (h1.ev rfl)) ?_
  refine Tr.va rfl (fun _ _ h1 h2 => run_load1 ag_9 (h1.ev rfl) (CellsAt.drop (rdF ef_TBoardKind hp0_0 hx1072 h2) 0) rfl) ?_
  refine Tr.mv rfl rfl ?_
  refine Tr.va rfl (fun _ _ h1 h2 => run_eqlS (h1.ev rfl) (h1.ev rfl)) ?_
  refine Tr.nil (Tr.normThen ?_)
  refine Tr.cond rfl H (fun H => ?_) (fun H => ?_)
  ·refine Tr.sr ?_
   refine Tr.mv rfl rfl ?_
   refine Tr.asg rfl rfl ?_
   refine Tr.nil (Tr.normThen ?_)
   refine Tr.ret (Tr.retBlock (Tr.retThen (Tr.retThen (Tr.retBlock (Tr.retThen ?_)))))
   obtain rfl := Option.some.inj H
   exact Tr.out (m := [(.int .i64 x106)]) [] (res_tmp rfl res_nil) (fun W hW => ⟨rfl, hW.low leB⟩)
  ·refine Tr.skip (Tr.normBlock (Tr.normThen ?_))
   refine Tr.region ?_
   refine Tr.mv rfl rfl ?_
   refine Tr.va rfl (fun _ _ h1 h2 => run_add (h1.ev rfl) (h1.ev rfl)) ?_
   refine Tr.asg rfl rfl ?_
   refine Tr.nil ?_
   exact Tr.backThen leF_etchhouseref9_kind_L1 (w64 (x106 + 1)) H (.cons rfl (.cons rfl (.cons rfl .nil))) (.cons rfl .nil)
 ·refine Tr.exit (Tr.exitThen (Tr.exitThen (Tr.exitBlock (Tr.normThen ?_))))
  refine Tr.sr ?_
  refine Tr.asg rfl rfl ?_
  refine Tr.nil (Tr.normThen ?_)
  refine Tr.ret ?_
  obtain rfl := Option.some.inj H
  exact Tr.out (m := [(.int .i64 (-1))]) [] (res_tmp rfl res_nil) (fun W hW => ⟨rfl, hW.low leB⟩)

theorem F_etchhouseref9_sizeOf_ok {w : Bs} (p0 : TBoardKind) (p1 : Int) (r : (Int × Int)) (H : F_etchhouseref9_sizeOf p0 p1 = some r) (hE : HF w w.W E0) : Calls Try.prog 67 [(.agg #[(.string p0.Name), (.int .i64 p0.W), (.int .i64 p0.H)]), (.int .i64 p1)].toArray w.W fun e W' => e = .returned (.tuple #[(.int .i64 r.1), (.int .i64 r.2)]) ∧ HF w W' E0 := by
 unfold F_etchhouseref9_sizeOf at H
 have leB := Bs.Le.refl w
 refine Tr.enter (n := 17) Try.func67 rfl rfl rfl hE ?_
 refine Tr.sr ?_
 refine Tr.box 1 (cs := [(.string p0.Name), (.int .i64 p0.W), (.int .i64 p0.H)]) (wn rfl) rfl rfl rfl fun b100 => ?_
 refine Tr.asg rfl rfl ?_
 refine Tr.asg rfl rfl ?_
 refine Tr.nil (Tr.normThen ?_)
 refine Tr.seq ?_
 refine Tr.sr ?_
 refine Tr.mv rfl rfl ?_
 refine Tr.va rfl (fun _ _ h1 h2 => run_rem (h1.ev rfl) (h1.ev rfl) (by decide)) ?_
 refine Tr.va rfl (fun _ _ h1 h2 => run_eql (h1.ev rfl) (h1.ev rfl)) ?_
 refine Tr.nil (Tr.normThen ?_)
 refine Tr.cond rfl H (fun H => ?_) (fun H => ?_)
 ·refine Tr.seq ?_
  refine Tr.draw (by kernel_rfl) (by kernel_rfl) ?_
  refine Tq.va rfl (fun _ _ h1 h2 => run_fieldAddr fo_74_2 (h1.ev rfl)) ?_
  refine Tq.va rfl (fun _ _ h1 h2 => run_load1 ag_3 (h1.ev rfl) (rdb h2 (vs := [(.string p0.Name), (.int .i64 p0.W), (.int .i64 p0.H)]) (k := 1) rfl 2) rfl) ?_
  refine Tq.va rfl (fun _ _ h1 h2 => run_fieldAddr fo_74_1 (h1.ev rfl)) ?_
  refine Tq.va rfl (fun _ _ h1 h2 => run_load1 ag_3 (h1.ev rfl) (rdb h2 (vs := [(.string p0.Name), (.int .i64 p0.W), (.int .i64 p0.H)]) (k := 1) rfl 1) rfl) ?_
  refine Tq.asg rfl rfl ?_
  refine Tq.asg rfl rfl ?_
  refine Tq.nil (Tr.normThen ?_)
  refine Tr.ret (Tr.retThen ?_)
  obtain rfl := Option.some.inj H
  exact Tr.out (m := [(.int .i64 p0.H), (.int .i64 p0.W)]) [] (res_tmp rfl (res_tmp rfl res_nil)) (fun W hW => ⟨rfl, hW.low leB⟩)
 ·refine Tr.skip (Tr.normThen ?_)
  refine Tr.seq ?_
  refine Tr.draw (by kernel_rfl) (by kernel_rfl) ?_
  refine Tq.va rfl (fun _ _ h1 h2 => run_fieldAddr fo_74_1 (h1.ev rfl)) ?_
  refine Tq.va rfl (fun _ _ h1 h2 => run_load1 ag_3 (h1.ev rfl) (rdb h2 (vs := [(.string p0.Name), (.int .i64 p0.W), (.int .i64 p0.H)]) (k := 1) rfl 1) rfl) ?_
  refine Tq.va rfl (fun _ _ h1 h2 => run_fieldAddr fo_74_2 (h1.ev rfl)) ?_
  refine Tq.va rfl (fun _ _ h1 h2 => run_load1 ag_3 (h1.ev rfl) (rdb h2 (vs := [(.string p0.Name), (.int .i64 p0.W), (.int .i64 p0.H)]) (k := 1) rfl 2) rfl) ?_
  refine Tq.asg rfl rfl ?_
  refine Tq.asg rfl rfl ?_
  refine Tq.nil (Tr.normThen ?_)
  refine Tr.ret ?_
  obtain rfl := Option.some.inj H
  exact Tr.out (m := [(.int .i64 p0.W), (.int .i64 p0.H)]) [] (res_tmp rfl (res_tmp rfl res_nil)) (fun W hW => ⟨rfl, hW.low leB⟩)

theorem F_etchhouseref9_lies_ok {w : Bs} (p0 : TPanel) (Ap0_0 : Option Addr) (cp0_0 : Nat) (hp0_0 : Sl w.R w.W fl_TBoardKind Ap0_0 cp0_0 p0.Kinds) (Ap0_1 : Option Addr) (cp0_1 : Nat) (hp0_1 : Sl w.R w.W fl_TSlot Ap0_1 cp0_1 p0.Slots) (Ap0_2 : Option Addr) (cp0_2 : Nat) (hp0_2 : Sl w.R w.W fl_TPoint Ap0_2 cp0_2 p0.Marks) (p1 : TPoint) (p2 : Int) (p3 : Int) (r : Bool) (H : F_etchhouseref9_lies p0 p1 p2 p3 = some r) (hE : HF w w.W E0) : Calls Try.prog 68 [(.agg #[(.int .i64 p0.W), (.int .i64 p0.H), (.int .i64 p0.Rail), (.int .i64 p0.Gap), (.slice Ap0_0 (p0.Kinds).length cp0_0), (.slice Ap0_1 (p0.Slots).length cp0_1), (.slice Ap0_2 (p0.Marks).length cp0_2)]), (.agg #[(.int .i64 p1.X), (.int .i64 p1.Y)]), (.int .i64 p2), (.int .i64 p3)].toArray w.W fun e W' => e = .returned (.bool r) ∧ HF w W' E0 := by
 unfold F_etchhouseref9_lies at H
 have leB := Bs.Le.refl w
 refine Tr.enter (n := 35) Try.func68 rfl rfl rfl hE ?_
 refine Tr.sr ?_
 refine Tr.box 1 (cs := [(.int .i64 p0.W), (.int .i64 p0.H), (.int .i64 p0.Rail), (.int .i64 p0.Gap), (.slice Ap0_0 (p0.Kinds).length cp0_0), (.slice Ap0_1 (p0.Slots).length cp0_1), (.slice Ap0_2 (p0.Marks).length cp0_2)]) (wn rfl) rfl rfl rfl fun b100 => ?_
 refine Tr.box 2 (cs := [(.int .i64 p1.X), (.int .i64 p1.Y)]) (wn rfl) rfl rfl rfl fun b101 => ?_
 refine Tr.asg rfl rfl ?_
 refine Tr.nil (Tr.normThen ?_)
 refine Tr.sr ?_
 refine Tr.va rfl (fun _ _ h1 h2 => run_fieldAddr fo_82_0 (h1.ev rfl)) ?_
 refine Tr.va rfl (fun _ _ h1 h2 => run_load1 ag_3 (h1.ev rfl) (rdb h2 (vs := [(.int .i64 p1.X), (.int .i64 p1.Y)]) (k := 2) rfl 0) rfl) ?_
 refine Tr.va rfl (fun _ _ h1 h2 => run_fieldAddr fo_26_2 (h1.ev rfl)) ?_
 refine Tr.va rfl (fun _ _ h1 h2 => run_load1 ag_3 (h1.ev rfl) (rdb h2 (vs := [(.int .i64 p0.W), (.int .i64 p0.H), (.int .i64 p0.Rail), (.int .i64 p0.Gap), (.slice Ap0_0 (p0.Kinds).length cp0_0), (.slice Ap0_1 (p0.Slots).length cp0_1), (.slice Ap0_2 (p0.Marks).length cp0_2)]) (k := 1) rfl 2) rfl) ?_
 refine Tr.va rfl (fun _ _ h1 h2 => run_fieldAddr fo_26_0 (h1.ev rfl)) ?_
 refine Tr.va rfl (fun _ _ h1 h2 => run_load1 ag_3 (h1.ev rfl) (rdb h2 (vs := [(.int .i64 p0.W), (.int .i64 p0.H), (.int .i64 p0.Rail), (.int .i64 p0.Gap), (.slice Ap0_0 (p0.Kinds).length cp0_0), (.slice Ap0_1 (p0.Slots).length cp0_1), (.slice Ap0_2 (p0.Marks).length cp0_2)]) (k := 1) rfl 0) rfl) ?_
 refine Tr.va rfl (fun _ _ h1 h2 => run_fieldAddr fo_26_2 (h1.ev rfl)) ?_
 refine Tr.va rfl (fun _ _ h1 h2 => run_load1 ag_3 (h1.ev rfl) (rdb h2 (vs := [(.int .i64 p0.W), (.int .i64 p0.H), (.int .i64 p0.Rail), (.int .i64 p0.Gap), (.slice Ap0_0 (p0.Kinds).length cp0_0), (.slice Ap0_1 (p0.Slots).length cp0_1), (.slice Ap0_2 (p0.Marks).length cp0_2)]) (k := 1) rfl 2) rfl) ?_
 refine Tr.va rfl (fun _ _ h1 h2 => run_sub (h1.ev rfl) (h1.ev rfl)) ?_
 refine Tr.mv rfl rfl ?_
 refine Tr.va rfl (fun _ _ h1 h2 => run_sub (h1.ev rfl) (h1.ev rfl)) ?_
 obtain ⟨y102, hy102, H⟩ := bnd H
 refine Tr.call0 (r := (.bool y102)) (wn rfl) rfl Try.call41 (evl_cons rfl (evl_cons rfl (evl_cons rfl evl_nil))) (fun W hW => F_etchhouseref9_within_ok p1.X p0.Rail (w64 ((w64 (p0.W - p0.Rail)) - p2)) y102 hy102 (HF.start _)) ?_
 refine Tr.mv rfl rfl ?_
 obtain ⟨g104, hg104, H⟩ := bnd H
 refine Tr.mid0 13 [(34, (.bool g104))] [(1, bx b100 #[(.int .i64 p0.W), (.int .i64 p0.H), (.int .i64 p0.Rail), (.int .i64 p0.Gap), (.slice Ap0_0 (p0.Kinds).length cp0_0), (.slice Ap0_1 (p0.Slots).length cp0_1), (.slice Ap0_2 (p0.Marks).length cp0_2)] 26), (2, bx b101 #[(.int .i64 p1.X), (.int .i64 p1.Y)] 82)] ?_ ?_
 ·cases hg105 : y102
  ·rw [hg105] at hg104
   rw [if_neg (by decide)] at hg104
   have H := hg104
   obtain rfl := Option.some.inj H
   refine Tr.pass rfl rfl rfl rfl rfl (by decide) ?_
   refine Tr.pass rfl rfl rfl rfl rfl (by decide) ?_
   refine Tr.pass rfl rfl rfl rfl rfl (by decide) ?_
   refine Tr.pass rfl rfl rfl rfl rfl (by decide) ?_
   refine Tr.pass rfl rfl rfl rfl rfl (by decide) ?_
   refine Tr.pass rfl rfl rfl rfl rfl (by decide) ?_
   refine Tr.pass rfl rfl rfl rfl rfl (by decide) ?_
   refine Tr.pass rfl rfl rfl rfl rfl (by decide) ?_
   refine Tr.pass rfl rfl rfl rfl rfl (by decide) ?_
   refine Tr.pass rfl rfl rfl rfl rfl (by decide) ?_
   refine Tr.pass rfl rfl rfl rfl rfl (by decide) ?_
   refine Tr.pass rfl rfl rfl rfl rfl (by decide) ?_
   refine Tr.va rfl (fun _ _ h1 h2 => run_pickF (h1.ev rfl) (h1.ev rfl)) ?_
   exact Tr.nil (Tr.fin0 (.cons rfl .nil) (.cons rfl (.cons rfl .nil)))
  ·rw [hg105] at hg104
   rw [if_pos rfl] at hg104
   have H := hg104
   refine Tr.val (wg rfl rfl rfl) rfl (fun _ _ h1 h2 => run_fieldAddr fo_82_1 (h1.ev rfl)) ?_
   refine Tr.val (wg rfl rfl rfl) rfl (fun _ _ h1 h2 => run_load1 ag_3 (h1.ev rfl) (rdb h2 (vs := [(.int .i64 p1.X), (.int .i64 p1.Y)]) (k := 2) rfl 1) rfl) ?_
   refine Tr.val (wg rfl rfl rfl) rfl (fun _ _ h1 h2 => run_fieldAddr fo_26_2 (h1.ev rfl)) ?_
   refine Tr.val (wg rfl rfl rfl) rfl (fun _ _ h1 h2 => run_load1 ag_3 (h1.ev rfl) (rdb h2 (vs := [(.int .i64 p0.W), (.int .i64 p0.H), (.int .i64 p0.Rail), (.int .i64 p0.Gap), (.slice Ap0_0 (p0.Kinds).length cp0_0), (.slice Ap0_1 (p0.Slots).length cp0_1), (.slice Ap0_2 (p0.Marks).length cp0_2)]) (k := 1) rfl 2) rfl) ?_
   refine Tr.val (wg rfl rfl rfl) rfl (fun _ _ h1 h2 => run_fieldAddr fo_26_1 (h1.ev rfl)) ?_
   refine Tr.val (wg rfl rfl rfl) rfl (fun _ _ h1 h2 => run_load1 ag_3 (h1.ev rfl) (rdb h2 (vs := [(.int .i64 p0.W), (.int .i64 p0.H), (.int .i64 p0.Rail), (.int .i64 p0.Gap), (.slice Ap0_0 (p0.Kinds).length cp0_0), (.slice Ap0_1 (p0.Slots).length cp0_1), (.slice Ap0_2 (p0.Marks).length cp0_2)]) (k := 1) rfl 1) rfl) ?_
   refine Tr.val (wg rfl rfl rfl) rfl (fun _ _ h1 h2 => run_fieldAddr fo_26_2 (h1.ev rfl)) ?_
   refine Tr.val (wg rfl rfl rfl) rfl (fun _ _ h1 h2 => run_load1 ag_3 (h1.ev rfl) (rdb h2 (vs := [(.int .i64 p0.W), (.int .i64 p0.H), (.int .i64 p0.Rail), (.int .i64 p0.Gap), (.slice Ap0_0 (p0.Kinds).length cp0_0), (.slice Ap0_1 (p0.Slots).length cp0_1), (.slice Ap0_2 (p0.Marks).length cp0_2)]) (k := 1) rfl 2) rfl) ?_
   refine Tr.val (wg rfl rfl rfl) rfl (fun _ _ h1 h2 => run_sub (h1.ev rfl) (h1.ev rfl)) ?_
   refine Tr.val (wg rfl rfl rfl) rfl (fun _ _ h1 h2 => run_move (h1.ev rfl)) ?_
   refine Tr.val (wg rfl rfl rfl) rfl (fun _ _ h1 h2 => run_sub (h1.ev rfl) (h1.ev rfl)) ?_
   obtain ⟨y105, hy105, H⟩ := bnd H
   refine Tr.call0 (r := (.bool y105)) (wg rfl rfl rfl) rfl Try.call41 (evl_cons rfl (evl_cons rfl (evl_cons rfl evl_nil))) (fun W hW => F_etchhouseref9_within_ok p1.Y p0.Rail (w64 ((w64 (p0.H - p0.Rail)) - p3)) y105 hy105 (HF.start _)) ?_
   refine Tr.va rfl (fun _ _ h1 h2 => run_pickT (h1.ev rfl) (h1.ev rfl)) ?_
   obtain rfl := Option.some.inj H
   exact Tr.nil (Tr.fin0 (.cons rfl .nil) (.cons rfl (.cons rfl .nil)))
 ·show Tr _ _ (LF [(34, (.bool g104))]) (LE [(1, bx b100 #[(.int .i64 p0.W), (.int .i64 p0.H), (.int .i64 p0.Rail), (.int .i64 p0.Gap), (.slice Ap0_0 (p0.Kinds).length cp0_0), (.slice Ap0_1 (p0.Slots).length cp0_1), (.slice Ap0_2 (p0.Marks).length cp0_2)] 26), (2, bx b101 #[(.int .i64 p1.X), (.int .i64 p1.Y)] 82)]) _
  refine Tr.asg rfl rfl ?_
  refine Tr.nil (Tr.normThen ?_)
  refine Tr.ret ?_
  obtain rfl := Option.some.inj H
  exact Tr.out (m := [(.bool g104)]) [] (res_tmp rfl res_nil) (fun W hW => ⟨rfl, hW.low leB⟩)

theorem F_etchhouseref9_cellOf_ok (N : Nat) {w : Bs} (p0 : TPanel) (Ap0_0 : Option Addr) (cp0_0 : Nat) (hp0_0 : Sl w.R w.W fl_TBoardKind Ap0_0 cp0_0 p0.Kinds) (Ap0_1 : Option Addr) (cp0_1 : Nat) (hp0_1 : Sl w.R w.W fl_TSlot Ap0_1 cp0_1 p0.Slots) (Ap0_2 : Option Addr) (cp0_2 : Nat) (hp0_2 : Sl w.R w.W fl_TPoint Ap0_2 cp0_2 p0.Marks) (p1 : TSlot) (r : TRect) (H : F_etchhouseref9_cellOf N p0 p1 = some r) (hE : HF w w.W E0) : Calls Try.prog 63 [(.agg #[(.int .i64 p0.W), (.int .i64 p0.H), (.int .i64 p0.Rail), (.int .i64 p0.Gap), (.slice Ap0_0 (p0.Kinds).length cp0_0), (.slice Ap0_1 (p0.Slots).length cp0_1), (.slice Ap0_2 (p0.Marks).length cp0_2)]), (.agg #[(.string p1.Board), (.int .i64 p1.Quarters), (.int .i64 p1.At.X), (.int .i64 p1.At.Y)])].toArray w.W fun e W' => e = .returned (.agg #[(.int .i64 r.X0), (.int .i64 r.Y0), (.int .i64 r.X1), (.int .i64 r.Y1)]) ∧ HF w W' E0 := by
 unfold F_etchhouseref9_cellOf at H
 have leB := Bs.Le.refl w
 refine Tr.enter (n := 38) Try.func63 rfl rfl rfl hE ?_
 refine Tr.sr ?_
 refine Tr.box 1 (cs := [(.int .i64 p0.W), (.int .i64 p0.H), (.int .i64 p0.Rail), (.int .i64 p0.Gap), (.slice Ap0_0 (p0.Kinds).length cp0_0), (.slice Ap0_1 (p0.Slots).length cp0_1), (.slice Ap0_2 (p0.Marks).length cp0_2)]) (wn rfl) rfl rfl rfl fun b100 => ?_
 refine Tr.box 2 (cs := [(.string p1.Board), (.int .i64 p1.Quarters), (.int .i64 p1.At.X), (.int .i64 p1.At.Y)]) (wn rfl) rfl rfl rfl fun b101 => ?_
 refine Tr.alloc 3 (wn rfl) rfl ze_38 fun b102 => ?_
 refine Tr.nil (Tr.normThen ?_)
 refine Tr.seq ?_
 refine Tr.draw (by kernel_rfl) (by kernel_rfl) ?_
 refine Tq.va rfl (fun _ _ h1 h2 => run_fieldAddr fo_26_4 (h1.ev rfl)) ?_
 refine Tq.va rfl (fun _ _ h1 h2 => run_load1 ag_22 (h1.ev rfl) (rdb h2 (vs := [(.int .i64 p0.W), (.int .i64 p0.H), (.int .i64 p0.Rail), (.int .i64 p0.Gap), (.slice Ap0_0 (p0.Kinds).length cp0_0), (.slice Ap0_1 (p0.Slots).length cp0_1), (.slice Ap0_2 (p0.Marks).length cp0_2)]) (k := 1) rfl 4) rfl) ?_
 refine Tq.va rfl (fun _ _ h1 h2 => run_loadN (cs := [(.int .i64 p0.W), (.int .i64 p0.H), (.int .i64 p0.Rail), (.int .i64 p0.Gap), (.slice Ap0_0 (p0.Kinds).length cp0_0), (.slice Ap0_1 (p0.Slots).length cp0_1), (.slice Ap0_2 (p0.Marks).length cp0_2)]) ag_26 sz_26 (h1.ev rfl) (CellsAt.take (rdb h2 (vs := [(.int .i64 p0.W), (.int .i64 p0.H), (.int .i64 p0.Rail), (.int .i64 p0.Gap), (.slice Ap0_0 (p0.Kinds).length cp0_0), (.slice Ap0_1 (p0.Slots).length cp0_1), (.slice Ap0_2 (p0.Marks).length cp0_2)]) (k := 1) rfl 0) 7) rfl) ?_
 refine Tq.va rfl (fun _ _ h1 h2 => run_fieldAddr fo_96_0 (h1.ev rfl)) ?_
 refine Tq.va rfl (fun _ _ h1 h2 => run_load1 ag_9 (h1.ev rfl) (rdb h2 (vs := [(.string p1.Board), (.int .i64 p1.Quarters), (.int .i64 p1.At.X), (.int .i64 p1.At.Y)]) (k := 2) rfl 0) rfl) ?_
 obtain ⟨y103, hy103, H⟩ := bnd H
 refine Tq.call0 (r := (.int .i64 y103)) (wn rfl) rfl Try.call66 (evl_cons rfl (evl_cons rfl evl_nil)) (fun W hW => F_etchhouseref9_kind_ok N p0 Ap0_0 cp0_0 (hp0_0.ext hW.extAll) Ap0_1 cp0_1 (hp0_1.ext hW.extAll) Ap0_2 cp0_2 (hp0_2.ext hW.extAll) p1.Board y103 hy103 (HF.start _)) ?_
 obtain ⟨x104, hx104, H⟩ := bnd H
 obtain ⟨hx1040, hx1041, hx1042⟩ := idx_some hx104
 refine Tq.va rfl (fun _ _ h1 h2 => run_indexAddr el_22 (h1.ev rfl) hp0_0.form (h1.ev rfl) hx1040 hx1041) ?_
 refine Tq.va rfl (fun _ _ h1 h2 => run_loadN (cs := [(.string x104.Name), (.int .i64 x104.W), (.int .i64 x104.H)]) ag_74 sz_74 (h1.ev rfl) (CellsAt.take (rdF ef_TBoardKind hp0_0 hx1042 h2) 3) rfl) ?_
 refine Tq.va rfl (fun _ _ h1 h2 => run_fieldAddr fo_96_1 (h1.ev rfl)) ?_
 refine Tq.va rfl (fun _ _ h1 h2 => run_load1 ag_3 (h1.ev rfl) (rdb h2 (vs := [(.string p1.Board), (.int .i64 p1.Quarters), (.int .i64 p1.At.X), (.int .i64 p1.At.Y)]) (k := 2) rfl 1) rfl) ?_
 obtain ⟨y105, hy105, H⟩ := bnd H
 refine Tq.call0 (r := (.tuple #[(.int .i64 y105.1), (.int .i64 y105.2)])) (wn rfl) rfl Try.call67 (evl_cons rfl (evl_cons rfl evl_nil)) (fun W hW => F_etchhouseref9_sizeOf_ok x104 p1.Quarters y105 hy105 (HF.start _)) ?_
 refine Tq.mv rfl rfl ?_
 refine Tq.va rfl (fun _ _ h1 h2 => run_extract (h1.ev rfl) rfl) ?_
 refine Tq.va rfl (fun _ _ h1 h2 => run_extract (h1.ev rfl) rfl) ?_
 refine Tq.asg rfl rfl ?_
 refine Tq.asg rfl rfl ?_
 refine Tq.nil (Tr.normThen ?_)
 refine Tr.sr ?_
 refine Tr.va rfl (fun _ _ h1 h2 => run_fieldAddr fo_96_2 (h1.ev rfl)) ?_
 refine Tr.va rfl (fun _ _ h1 h2 => run_fieldAddr fo_82_0 (h1.ev rfl)) ?_
 refine Tr.va rfl (fun _ _ h1 h2 => run_load1 ag_3 (h1.ev rfl) (rdb h2 (vs := [(.string p1.Board), (.int .i64 p1.Quarters), (.int .i64 p1.At.X), (.int .i64 p1.At.Y)]) (k := 2) rfl 2) rfl) ?_
 refine Tr.va rfl (fun _ _ h1 h2 => run_fieldAddr fo_96_2 (h1.ev rfl)) ?_
 refine Tr.va rfl (fun _ _ h1 h2 => run_fieldAddr fo_82_1 (h1.ev rfl)) ?_
 refine Tr.va rfl (fun _ _ h1 h2 => run_load1 ag_3 (h1.ev rfl) (rdb h2 (vs := [(.string p1.Board), (.int .i64 p1.Quarters), (.int .i64 p1.At.X), (.int .i64 p1.At.Y)]) (k := 2) rfl 3) rfl) ?_
 refine Tr.va rfl (fun _ _ h1 h2 => run_fieldAddr fo_96_2 (h1.ev rfl)) ?_
 refine Tr.va rfl (fun _ _ h1 h2 => run_fieldAddr fo_82_0 (h1.ev rfl)) ?_
 refine Tr.va rfl (fun _ _ h1 h2 => run_load1 ag_3 (h1.ev rfl) (rdb h2 (vs := [(.string p1.Board), (.int .i64 p1.Quarters), (.int .i64 p1.At.X), (.int .i64 p1.At.Y)]) (k := 2) rfl 2) rfl) ?_
 refine Tr.mv rfl rfl ?_
 refine Tr.va rfl (fun _ _ h1 h2 => run_add (h1.ev rfl) (h1.ev rfl)) ?_
 refine Tr.va rfl (fun _ _ h1 h2 => run_fieldAddr fo_96_2 (h1.ev rfl)) ?_
 refine Tr.va rfl (fun _ _ h1 h2 => run_fieldAddr fo_82_1 (h1.ev rfl)) ?_
 refine Tr.va rfl (fun _ _ h1 h2 => run_load1 ag_3 (h1.ev rfl) (rdb h2 (vs := [(.string p1.Board), (.int .i64 p1.Quarters), (.int .i64 p1.At.X), (.int .i64 p1.At.Y)]) (k := 2) rfl 3) rfl) ?_
 refine Tr.mv rfl rfl ?_
 refine Tr.va rfl (fun _ _ h1 h2 => run_add (h1.ev rfl) (h1.ev rfl)) ?_
 refine Tr.build (vs := [(0, (.int .i64 p1.At.X)), (1, (.int .i64 p1.At.Y)), (2, (.int .i64 (w64 (p1.At.X + y105.1)))), (3, (.int .i64 (w64 (p1.At.Y + y105.2))))]) (cs := [(.int .i64 p1.At.X), (.int .i64 p1.At.Y), (.int .i64 (w64 (p1.At.X + y105.1))), (.int .i64 (w64 (p1.At.Y + y105.2)))]) (wn rfl) rfl (evs_cons rfl (evs_cons rfl (evs_cons rfl (evs_cons rfl evs_nil)))) (by kernel_rfl) ?_
 refine Tr.store 3 (cs := [(.int .i64 p1.At.X), (.int .i64 p1.At.Y), (.int .i64 (w64 (p1.At.X + y105.1))), (.int .i64 (w64 (p1.At.Y + y105.2)))]) [(.int .i64 p1.At.X), (.int .i64 p1.At.Y), (.int .i64 (w64 (p1.At.X + y105.1))), (.int .i64 (w64 (p1.At.Y + y105.2)))] (wn rfl) rfl rfl rfl rfl sz_38 rfl rfl rfl ?_
 refine Tr.nil (Tr.normThen ?_)
 refine Tr.ret ?_
 obtain rfl := Option.some.inj H
 exact Tr.out (m := [(.agg #[(.int .i64 p1.At.X), (.int .i64 p1.At.Y), (.int .i64 (w64 (p1.At.X + y105.1))), (.int .i64 (w64 (p1.At.Y + y105.2)))])]) [3] (res_cell rfl rfl ag_38 sz_38 res_nil) (fun W hW => ⟨rfl, hW.low leB⟩)

theorem F_etchhouseref9_apart_ok {w : Bs} (p0 : TRect) (p1 : TRect) (p2 : Int) (r : Bool) (H : F_etchhouseref9_apart p0 p1 p2 = some r) (hE : HF w w.W E0) : Calls Try.prog 69 [(.agg #[(.int .i64 p0.X0), (.int .i64 p0.Y0), (.int .i64 p0.X1), (.int .i64 p0.Y1)]), (.agg #[(.int .i64 p1.X0), (.int .i64 p1.Y0), (.int .i64 p1.X1), (.int .i64 p1.Y1)]), (.int .i64 p2)].toArray w.W fun e W' => e = .returned (.bool r) ∧ HF w W' E0 := by
 unfold F_etchhouseref9_apart at H
 have leB := Bs.Le.refl w
 refine Tr.enter (n := 41) Try.func69 rfl rfl rfl hE ?_
 refine Tr.sr ?_
 refine Tr.box 1 (cs := [(.int .i64 p0.X0), (.int .i64 p0.Y0), (.int .i64 p0.X1), (.int .i64 p0.Y1)]) (wn rfl) rfl rfl rfl fun b100 => ?_
 refine Tr.box 2 (cs := [(.int .i64 p1.X0), (.int .i64 p1.Y0), (.int .i64 p1.X1), (.int .i64 p1.Y1)]) (wn rfl) rfl rfl rfl fun b101 => ?_
 refine Tr.asg rfl rfl ?_
 refine Tr.nil (Tr.normThen ?_)
 refine Tr.sr ?_
 refine Tr.va rfl (fun _ _ h1 h2 => run_fieldAddr fo_38_2 (h1.ev rfl)) ?_
 refine Tr.va rfl (fun _ _ h1 h2 => run_load1 ag_3 (h1.ev rfl) (rdb h2 (vs := [(.int .i64 p0.X0), (.int .i64 p0.Y0), (.int .i64 p0.X1), (.int .i64 p0.Y1)]) (k := 1) rfl 2) rfl) ?_
 refine Tr.mv rfl rfl ?_
 refine Tr.va rfl (fun _ _ h1 h2 => run_add (h1.ev rfl) (h1.ev rfl)) ?_
 refine Tr.va rfl (fun _ _ h1 h2 => run_fieldAddr fo_38_0 (h1.ev rfl)) ?_
 refine Tr.va rfl (fun _ _ h1 h2 => run_load1 ag_3 (h1.ev rfl) (rdb h2 (vs := [(.int .i64 p1.X0), (.int .i64 p1.Y0), (.int .i64 p1.X1), (.int .i64 p1.Y1)]) (k := 2) rfl 0) rfl) ?_
 refine Tr.va rfl (fun _ _ h1 h2 => run_leq (h1.ev rfl) (h1.ev rfl)) ?_
 refine Tr.mv rfl rfl ?_
 refine Tr.mid0 8 [(2, (.int .i64 p2)), (3, (.pointer (some ⟨b100, 0, none⟩))), (4, (.pointer (some ⟨b101, 0, none⟩))), (22, (.bool ((decide ((w64 (p0.X1 + p2)) ≤ p1.X0)) || (decide ((w64 (p1.X1 + p2)) ≤ p0.X0)))))] [(1, bx b100 #[(.int .i64 p0.X0), (.int .i64 p0.Y0), (.int .i64 p0.X1), (.int .i64 p0.Y1)] 38), (2, bx b101 #[(.int .i64 p1.X0), (.int .i64 p1.Y0), (.int .i64 p1.X1), (.int .i64 p1.Y1)] 38)] ?_ ?_
 ·cases hg101 : (decide ((w64 (p0.X1 + p2)) ≤ p1.X0))
  ·refine Tr.val (wg rfl rfl rfl) rfl (fun _ _ h1 h2 => run_fieldAddr fo_38_2 (h1.ev rfl)) ?_
   refine Tr.val (wg rfl rfl rfl) rfl (fun _ _ h1 h2 => run_load1 ag_3 (h1.ev rfl) (rdb h2 (vs := [(.int .i64 p1.X0), (.int .i64 p1.Y0), (.int .i64 p1.X1), (.int .i64 p1.Y1)]) (k := 2) rfl 2) rfl) ?_
   refine Tr.val (wg rfl rfl rfl) rfl (fun _ _ h1 h2 => run_move (h1.ev rfl)) ?_
   refine Tr.val (wg rfl rfl rfl) rfl (fun _ _ h1 h2 => run_add (h1.ev rfl) (h1.ev rfl)) ?_
   refine Tr.val (wg rfl rfl rfl) rfl (fun _ _ h1 h2 => run_fieldAddr fo_38_0 (h1.ev rfl)) ?_
   refine Tr.val (wg rfl rfl rfl) rfl (fun _ _ h1 h2 => run_load1 ag_3 (h1.ev rfl) (rdb h2 (vs := [(.int .i64 p0.X0), (.int .i64 p0.Y0), (.int .i64 p0.X1), (.int .i64 p0.Y1)]) (k := 1) rfl 0) rfl) ?_
   refine Tr.val (wg rfl rfl rfl) rfl (fun _ _ h1 h2 => run_leq (h1.ev rfl) (h1.ev rfl)) ?_
   refine Tr.va rfl (fun _ _ h1 h2 => run_pickF (h1.ev rfl) (h1.ev rfl)) ?_
   exact Tr.nil (Tr.fin0 (.cons rfl (.cons rfl (.cons rfl (.cons rfl .nil)))) (.cons rfl (.cons rfl .nil)))
  ·refine Tr.pass rfl rfl rfl rfl rfl (by decide) ?_
   refine Tr.pass rfl rfl rfl rfl rfl (by decide) ?_
   refine Tr.pass rfl rfl rfl rfl rfl (by decide) ?_
   refine Tr.pass rfl rfl rfl rfl rfl (by decide) ?_
   refine Tr.pass rfl rfl rfl rfl rfl (by decide) ?_
   refine Tr.pass rfl rfl rfl rfl rfl (by decide) ?_
   refine Tr.pass rfl rfl rfl rfl rfl (by decide) ?_
   refine Tr.va rfl (fun _ _ h1 h2 => run_pickT (h1.ev rfl) (h1.ev rfl)) ?_
   exact Tr.nil (Tr.fin0 (.cons rfl (.cons rfl (.cons rfl (.cons rfl .nil)))) (.cons rfl (.cons rfl .nil)))
 ·show Tr _ _ (LF [(2, (.int .i64 p2)), (3, (.pointer (some ⟨b100, 0, none⟩))), (4, (.pointer (some ⟨b101, 0, none⟩))), (22, (.bool ((decide ((w64 (p0.X1 + p2)) ≤ p1.X0)) || (decide ((w64 (p1.X1 + p2)) ≤ p0.X0)))))]) (LE [(1, bx b100 #[(.int .i64 p0.X0), (.int .i64 p0.Y0), (.int .i64 p0.X1), (.int .i64 p0.Y1)] 38), (2, bx b101 #[(.int .i64 p1.X0), (.int .i64 p1.Y0), (.int .i64 p1.X1), (.int .i64 p1.Y1)] 38)]) _
  refine Tr.mv rfl rfl ?_
  refine Tr.mid0 8 [(2, (.int .i64 p2)), (3, (.pointer (some ⟨b100, 0, none⟩))), (4, (.pointer (some ⟨b101, 0, none⟩))), (31, (.bool (((decide ((w64 (p0.X1 + p2)) ≤ p1.X0)) || (decide ((w64 (p1.X1 + p2)) ≤ p0.X0))) || (decide ((w64 (p0.Y1 + p2)) ≤ p1.Y0)))))] [(1, bx b100 #[(.int .i64 p0.X0), (.int .i64 p0.Y0), (.int .i64 p0.X1), (.int .i64 p0.Y1)] 38), (2, bx b101 #[(.int .i64 p1.X0), (.int .i64 p1.Y0), (.int .i64 p1.X1), (.int .i64 p1.Y1)] 38)] ?_ ?_
  ·cases hg101 : ((decide ((w64 (p0.X1 + p2)) ≤ p1.X0)) || (decide ((w64 (p1.X1 + p2)) ≤ p0.X0)))
   ·refine Tr.val (wg rfl rfl rfl) rfl (fun _ _ h1 h2 => run_fieldAddr fo_38_3 (h1.ev rfl)) ?_
    refine Tr.val (wg rfl rfl rfl) rfl (fun _ _ h1 h2 => run_load1 ag_3 (h1.ev rfl) (rdb h2 (vs := [(.int .i64 p0.X0), (.int .i64 p0.Y0), (.int .i64 p0.X1), (.int .i64 p0.Y1)]) (k := 1) rfl 3) rfl) ?_
    refine Tr.val (wg rfl rfl rfl) rfl (fun _ _ h1 h2 => run_move (h1.ev rfl)) ?_
    refine Tr.val (wg rfl rfl rfl) rfl (fun _ _ h1 h2 => run_add (h1.ev rfl) (h1.ev rfl)) ?_
    refine Tr.val (wg rfl rfl rfl) rfl (fun _ _ h1 h2 => run_fieldAddr fo_38_1 (h1.ev rfl)) ?_
    refine Tr.val (wg rfl rfl rfl) rfl (fun _ _ h1 h2 => run_load1 ag_3 (h1.ev rfl) (rdb h2 (vs := [(.int .i64 p1.X0), (.int .i64 p1.Y0), (.int .i64 p1.X1), (.int .i64 p1.Y1)]) (k := 2) rfl 1) rfl) ?_
    refine Tr.val (wg rfl rfl rfl) rfl (fun _ _ h1 h2 => run_leq (h1.ev rfl) (h1.ev rfl)) ?_
    refine Tr.va rfl (fun _ _ h1 h2 => run_pickF (h1.ev rfl) (h1.ev rfl)) ?_
    exact Tr.nil (Tr.fin0 (.cons rfl (.cons rfl (.cons rfl (.cons rfl .nil)))) (.cons rfl (.cons rfl .nil)))
   ·refine Tr.pass rfl rfl rfl rfl rfl (by decide) ?_
    refine Tr.pass rfl rfl rfl rfl rfl (by decide) ?_
    refine Tr.pass rfl rfl rfl rfl rfl (by decide) ?_
    refine Tr.pass rfl rfl rfl rfl rfl (by decide) ?_
    refine Tr.pass rfl rfl rfl rfl rfl (by decide) ?_
    refine Tr.pass rfl rfl rfl rfl rfl (by decide) ?_
    refine Tr.pass rfl rfl rfl rfl rfl (by decide) ?_
    refine Tr.va rfl (fun _ _ h1 h2 => run_pickT (h1.ev rfl) (h1.ev rfl)) ?_
    exact Tr.nil (Tr.fin0 (.cons rfl (.cons rfl (.cons rfl (.cons rfl .nil)))) (.cons rfl (.cons rfl .nil)))
  ·show Tr _ _ (LF [(2, (.int .i64 p2)), (3, (.pointer (some ⟨b100, 0, none⟩))), (4, (.pointer (some ⟨b101, 0, none⟩))), (31, (.bool (((decide ((w64 (p0.X1 + p2)) ≤ p1.X0)) || (decide ((w64 (p1.X1 + p2)) ≤ p0.X0))) || (decide ((w64 (p0.Y1 + p2)) ≤ p1.Y0)))))]) (LE [(1, bx b100 #[(.int .i64 p0.X0), (.int .i64 p0.Y0), (.int .i64 p0.X1), (.int .i64 p0.Y1)] 38), (2, bx b101 #[(.int .i64 p1.X0), (.int .i64 p1.Y0), (.int .i64 p1.X1), (.int .i64 p1.Y1)] 38)]) _
   refine Tr.mv rfl rfl ?_
   refine Tr.mid0 8 [(40, (.bool ((((decide ((w64 (p0.X1 + p2)) ≤ p1.X0)) || (decide ((w64 (p1.X1 + p2)) ≤ p0.X0))) || (decide ((w64 (p0.Y1 + p2)) ≤ p1.Y0))) || (decide ((w64 (p1.Y1 + p2)) ≤ p0.Y0)))))] [(1, bx b100 #[(.int .i64 p0.X0), (.int .i64 p0.Y0), (.int .i64 p0.X1), (.int .i64 p0.Y1)] 38), (2, bx b101 #[(.int .i64 p1.X0), (.int .i64 p1.Y0), (.int .i64 p1.X1), (.int .i64 p1.Y1)] 38)] ?_ ?_
   ·cases hg101 : (((decide ((w64 (p0.X1 + p2)) ≤ p1.X0)) || (decide ((w64 (p1.X1 + p2)) ≤ p0.X0))) || (decide ((w64 (p0.Y1 + p2)) ≤ p1.Y0)))
    ·refine Tr.val (wg rfl rfl rfl) rfl (fun _ _ h1 h2 => run_fieldAddr fo_38_3 (h1.ev rfl)) ?_
     refine Tr.val (wg rfl rfl rfl) rfl (fun _ _ h1 h2 => run_load1 ag_3 (h1.ev rfl) (rdb h2 (vs := [(.int .i64 p1.X0), (.int .i64 p1.Y0), (.int .i64 p1.X1), (.int .i64 p1.Y1)]) (k := 2) rfl 3) rfl) ?_
     refine Tr.val (wg rfl rfl rfl) rfl (fun _ _ h1 h2 => run_move (h1.ev rfl)) ?_
     refine Tr.val (wg rfl rfl rfl) rfl (fun _ _ h1 h2 => run_add (h1.ev rfl) (h1.ev rfl)) ?_
     refine Tr.val (wg rfl rfl rfl) rfl (fun _ _ h1 h2 => run_fieldAddr fo_38_1 (h1.ev rfl)) ?_
     refine Tr.val (wg rfl rfl rfl) rfl (fun _ _ h1 h2 => run_load1 ag_3 (h1.ev rfl) (rdb h2 (vs := [(.int .i64 p0.X0), (.int .i64 p0.Y0), (.int .i64 p0.X1), (.int .i64 p0.Y1)]) (k := 1) rfl 1) rfl) ?_
     refine Tr.val (wg rfl rfl rfl) rfl (fun _ _ h1 h2 => run_leq (h1.ev rfl) (h1.ev rfl)) ?_
     refine Tr.va rfl (fun _ _ h1 h2 => run_pickF (h1.ev rfl) (h1.ev rfl)) ?_
     exact Tr.nil (Tr.fin0 (.cons rfl .nil) (.cons rfl (.cons rfl .nil)))
    ·refine Tr.pass rfl rfl rfl rfl rfl (by decide) ?_
     refine Tr.pass rfl rfl rfl rfl rfl (by decide) ?_
     refine Tr.pass rfl rfl rfl rfl rfl (by decide) ?_
     refine Tr.pass rfl rfl rfl rfl rfl (by decide) ?_
     refine Tr.pass rfl rfl rfl rfl rfl (by decide) ?_
     refine Tr.pass rfl rfl rfl rfl rfl (by decide) ?_
     refine Tr.pass rfl rfl rfl rfl rfl (by decide) ?_
     refine Tr.va rfl (fun _ _ h1 h2 => run_pickT (h1.ev rfl) (h1.ev rfl)) ?_
     exact Tr.nil (Tr.fin0 (.cons rfl .nil) (.cons rfl (.cons rfl .nil)))
   ·show Tr _ _ (LF [(40, (.bool ((((decide ((w64 (p0.X1 + p2)) ≤ p1.X0)) || (decide ((w64 (p1.X1 + p2)) ≤ p0.X0))) || (decide ((w64 (p0.Y1 + p2)) ≤ p1.Y0))) || (decide ((w64 (p1.Y1 + p2)) ≤ p0.Y0)))))]) (LE [(1, bx b100 #[(.int .i64 p0.X0), (.int .i64 p0.Y0), (.int .i64 p0.X1), (.int .i64 p0.Y1)] 38), (2, bx b101 #[(.int .i64 p1.X0), (.int .i64 p1.Y0), (.int .i64 p1.X1), (.int .i64 p1.Y1)] 38)]) _
    refine Tr.asg rfl rfl ?_
    refine Tr.nil (Tr.normThen ?_)
    refine Tr.ret ?_
    obtain rfl := Option.some.inj H
    exact Tr.out (m := [(.bool ((((decide ((w64 (p0.X1 + p2)) ≤ p1.X0)) || (decide ((w64 (p1.X1 + p2)) ≤ p0.X0))) || (decide ((w64 (p0.Y1 + p2)) ≤ p1.Y0))) || (decide ((w64 (p1.Y1 + p2)) ≤ p0.Y0))))]) [] (res_tmp rfl res_nil) (fun W hW => ⟨rfl, hW.low leB⟩)

end Go.Proofs.Ytfddmjoldoddlaa
