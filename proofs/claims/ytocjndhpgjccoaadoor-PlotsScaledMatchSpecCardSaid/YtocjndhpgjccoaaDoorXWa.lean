/- The walks: each function computes its plain function. -/
import Derived.Test.YtocjndhpgjccoaaDoorXF
namespace Go.Proofs.YtocjndhpgjccoaaDoor
open Go.RowKit
set_option maxRecDepth 100000
set_option maxHeartbeats 1000000
theorem F_plot_within_ok {w : Bs} (p0 : Int) (p1 : Int) (p2 : Int) (r : Bool) (H : F_plot_within p0 p1 p2 = some r) (hE : HF w w.W E0) : Calls Tryd.prog 26 [(.int .i64 p0), (.int .i64 p1), (.int .i64 p2)].toArray w.W fun e W' => e = .returned (.bool r) ∧ HF w W' E0 := by
 unfold F_plot_within at H
 have leB := Bs.Le.refl w
 refine Tr.enter (n := 15) Tryd.func26 rfl rfl rfl hE ?_
 refine Tr.sr ?_
 refine Tr.asg rfl rfl ?_
 refine Tr.nil (Tr.normThen ?_)
 refine Tr.sr ?_
 refine Tr.mv rfl rfl ?_
 refine Tr.mv rfl rfl ?_
 refine Tr.va rfl (fun _ _ h1 h2 => run_geq (h1.ev rfl) (h1.ev rfl)) ?_
 refine Tr.mv rfl rfl ?_
 refine Tr.mid0 4 [(14, (.bool ((decide (p1 ≤ p0)) && (decide (p0 ≤ p2)))))] [] ?_ ?_
 ·cases hg99 : (decide (p1 ≤ p0))
  ·refine Tr.pass rfl rfl rfl rfl rfl (by decide) ?_
   refine Tr.pass rfl rfl rfl rfl rfl (by decide) ?_
   refine Tr.pass rfl rfl rfl rfl rfl (by decide) ?_
   refine Tr.va rfl (fun _ _ h1 h2 => run_pickF (h1.ev rfl) (h1.ev rfl)) ?_
   exact Tr.nil (Tr.fin0 (.cons rfl .nil) .nil)
  ·refine Tr.val (wg rfl rfl rfl) rfl (fun _ _ h1 h2 => run_move (h1.ev rfl)) ?_
   refine Tr.val (wg rfl rfl rfl) rfl (fun _ _ h1 h2 => run_move (h1.ev rfl)) ?_
   refine Tr.val (wg rfl rfl rfl) rfl (fun _ _ h1 h2 => run_leq (h1.ev rfl) (h1.ev rfl)) ?_
   refine Tr.va rfl (fun _ _ h1 h2 => run_pickT (h1.ev rfl) (h1.ev rfl)) ?_
   exact Tr.nil (Tr.fin0 (.cons rfl .nil) .nil)
 ·show Tr _ _ (LF [(14, (.bool ((decide (p1 ≤ p0)) && (decide (p0 ≤ p2)))))]) (LE []) _
  refine Tr.asg rfl rfl ?_
  refine Tr.nil (Tr.normThen ?_)
  refine Tr.ret ?_
  obtain rfl := Option.some.inj H
  exact Tr.out (m := [(.bool ((decide (p1 ≤ p0)) && (decide (p0 ≤ p2))))]) [] (res_tmp rfl res_nil) (fun W hW => ⟨rfl, hW.low leB⟩)

theorem F_plot_IsName_ok (N : Nat) {w : Bs} (p0 : ByteArray) (r : Bool) (H : F_plot_IsName N p0 = some r) (hE : HF w w.W E0) : Calls Tryd.prog 62 [(.string p0)].toArray w.W fun e W' => e = .returned (.bool r) ∧ HF w W' E0 := by
 unfold F_plot_IsName at H
 have leB := Bs.Le.refl w
 refine Tr.enter (n := 59) Tryd.func62 rfl rfl rfl hE ?_
 refine Tr.sr ?_
 refine Tr.asg rfl rfl ?_
 refine Tr.nil (Tr.normThen ?_)
 refine Tr.seq ?_
 refine Tr.sr ?_
 refine Tr.mv rfl rfl ?_
 refine Tr.va rfl (fun _ _ h1 h2 => run_lenS un_9 (h1.ev rfl)) ?_
 refine Tr.mv rfl rfl ?_
 refine Tr.nil (Tr.normThen ?_)
 refine Tr.block ?_
 refine Tr.loop (σ := Int) (fun m w s => F_plot_IsName_L1 p0 m s = some r) (fun s => [(0, (.string p0)), (7, (.int .i64 (p0.size : Int))), (8, (.int .i64 s))]) (fun s => []) N 0 H (.cons rfl (.cons rfl (.cons rfl .nil))) .nil (fun _ _ h => noSome (h)) ?_
 intro w leF_plot_IsName_L1 mF_plot_IsName_L1 x105 hs
 have H := hs
 replace H : F_plot_IsName_L1 p0 (mF_plot_IsName_L1 + 1) x105 = some r := H
 replace leB := leB.trans leF_plot_IsName_L1
 rw [F_plot_IsName_L1.eq_2] at H
 show Tr _ _ (LF [(0, (.string p0)), (7, (.int .i64 (p0.size : Int))), (8, (.int .i64 x105))]) (LE []) _
 refine Tr.sr ?_
 refine Tr.va rfl (fun _ _ h1 h2 => run_lss (h1.ev rfl) (h1.ev rfl)) ?_
 refine Tr.nil (Tr.normThen ?_)
 refine Tr.seq ?_
 refine Tr.cond rfl H (fun H => ?_) (fun H => ?_)
 ·refine Tr.skip (Tr.normThen ?_)
  refine Tr.seq ?_
  refine Tr.block ?_
  refine Tr.sr ?_
  refine Tr.mv rfl rfl ?_
  refine Tr.asg rfl rfl ?_
  refine Tr.nil (Tr.normThen ?_)
  refine Tr.sr ?_
  refine Tr.mv rfl rfl ?_
  refine Tr.mv rfl rfl ?_
  obtain ⟨c106, hc106, H⟩ := bnd H
  refine Tr.va rfl (fun _ _ h1 h2 => run_indexS un_9 (h1.ev rfl) (h1.ev rfl) hc106) ?_
  refine Tr.asg rfl rfl ?_
  refine Tr.nil (Tr.normThen ?_)
  refine Tr.sr ?_
  refine Tr.mv rfl rfl ?_
  refine Tr.va rfl (fun _ _ h1 h2 => run_geq (h1.ev rfl) (h1.ev rfl)) ?_
  refine Tr.mv rfl rfl ?_
  refine Tr.mid0 3 [(0, (.string p0)), (3, (.int .i64 x105)), (4, (.int .u8 c106)), (7, (.int .i64 (p0.size : Int))), (8, (.int .i64 x105)), (19, (.bool ((decide (97 ≤ c106)) && (decide (c106 ≤ 122)))))] [] ?_ ?_
  ·cases hg106 : (decide (97 ≤ c106))
   ·refine Tr.pass rfl rfl rfl rfl rfl (by decide) ?_
    refine Tr.pass rfl rfl rfl rfl rfl (by decide) ?_
    refine Tr.va rfl (fun _ _ h1 h2 => run_pickF (h1.ev rfl) (h1.ev rfl)) ?_
    exact Tr.nil (Tr.fin0 (.cons rfl (.cons rfl (.cons rfl (.cons rfl (.cons rfl (.cons rfl .nil)))))) .nil)
   ·refine Tr.val (wg rfl rfl rfl) rfl (fun _ _ h1 h2 => run_move (h1.ev rfl)) ?_
    refine Tr.val (wg rfl rfl rfl) rfl (fun _ _ h1 h2 => run_leq (h1.ev rfl) (h1.ev rfl)) ?_
    refine Tr.va rfl (fun _ _ h1 h2 => run_pickT (h1.ev rfl) (h1.ev rfl)) ?_
    exact Tr.nil (Tr.fin0 (.cons rfl (.cons rfl (.cons rfl (.cons rfl (.cons rfl (.cons rfl .nil)))))) .nil)
  ·show Tr _ _ (LF [(0, (.string p0)), (3, (.int .i64 x105)), (4, (.int .u8 c106)), (7, (.int .i64 (p0.size : Int))), (8, (.int .i64 x105)), (19, (.bool ((decide (97 ≤ c106)) && (decide (c106 ≤ 122)))))]) (LE []) _
   refine Tr.mv rfl rfl ?_
   refine Tr.mid0 7 [(0, (.string p0)), (3, (.int .i64 x105)), (4, (.int .u8 c106)), (7, (.int .i64 (p0.size : Int))), (8, (.int .i64 x105)), (27, (.bool (((decide (97 ≤ c106)) && (decide (c106 ≤ 122))) || ((decide (65 ≤ c106)) && (decide (c106 ≤ 90))))))] [] ?_ ?_
   ·cases hg106 : ((decide (97 ≤ c106)) && (decide (c106 ≤ 122)))
    ·refine Tr.val (wg rfl rfl rfl) rfl (fun _ _ h1 h2 => run_move (h1.ev rfl)) ?_
     refine Tr.val (wg rfl rfl rfl) rfl (fun _ _ h1 h2 => run_geq (h1.ev rfl) (h1.ev rfl)) ?_
     refine Tr.val (wg rfl rfl rfl) rfl (fun _ _ h1 h2 => run_move (h1.ev rfl)) ?_
     refine Tr.mid0 3 [(0, (.string p0)), (3, (.int .i64 x105)), (4, (.int .u8 c106)), (7, (.int .i64 (p0.size : Int))), (8, (.int .i64 x105)), (20, (.bool false)), (26, (.bool ((decide (65 ≤ c106)) && (decide (c106 ≤ 90)))))] [] ?_ ?_
     ·cases hg106 : (decide (65 ≤ c106))
      ·refine Tr.pass rfl rfl rfl rfl rfl (by decide) ?_
       refine Tr.pass rfl rfl rfl rfl rfl (by decide) ?_
       refine Tr.val (wg rfl rfl rfl) rfl (fun _ _ h1 h2 => run_pickF (h1.ev rfl) (h1.ev rfl)) ?_
       exact Tr.nil (Tr.fin0 (.cons rfl (.cons rfl (.cons rfl (.cons rfl (.cons rfl (.cons rfl (.cons rfl .nil))))))) .nil)
      ·refine Tr.val (wg rfl rfl rfl) rfl (fun _ _ h1 h2 => run_move (h1.ev rfl)) ?_
       refine Tr.val (wg rfl rfl rfl) rfl (fun _ _ h1 h2 => run_leq (h1.ev rfl) (h1.ev rfl)) ?_
       refine Tr.val (wg rfl rfl rfl) rfl (fun _ _ h1 h2 => run_pickT (h1.ev rfl) (h1.ev rfl)) ?_
       exact Tr.nil (Tr.fin0 (.cons rfl (.cons rfl (.cons rfl (.cons rfl (.cons rfl (.cons rfl (.cons rfl .nil))))))) .nil)
     ·show Tr _ _ (LF [(0, (.string p0)), (3, (.int .i64 x105)), (4, (.int .u8 c106)), (7, (.int .i64 (p0.size : Int))), (8, (.int .i64 x105)), (20, (.bool false)), (26, (.bool ((decide (65 ≤ c106)) && (decide (c106 ≤ 90)))))]) (LE []) _
      refine Tr.va rfl (fun _ _ h1 h2 => run_pickF (h1.ev rfl) (h1.ev rfl)) ?_
      exact Tr.nil (Tr.fin0 (.cons rfl (.cons rfl (.cons rfl (.cons rfl (.cons rfl (.cons rfl .nil)))))) .nil)
    ·refine Tr.pass rfl rfl rfl rfl rfl (by decide) ?_
     refine Tr.pass rfl rfl rfl rfl rfl (by decide) ?_
     refine Tr.pass rfl rfl rfl rfl rfl (by decide) ?_
     refine Tr.passU rfl rfl rfl rfl (by decide) ?_
     refine Tr.passU rfl rfl rfl rfl (by decide) ?_
     refine Tr.pass rfl rfl rfl rfl rfl (by decide) ?_
     refine Tr.va rfl (fun _ _ h1 h2 => run_pickT (h1.ev rfl) (h1.ev rfl)) ?_
     exact Tr.nil (Tr.fin0 (.cons rfl (.cons rfl (.cons rfl (.cons rfl (.cons rfl (.cons rfl .nil)))))) .nil)
   ·show Tr _ _ (LF [(0, (.string p0)), (3, (.int .i64 x105)), (4, (.int .u8 c106)), (7, (.int .i64 (p0.size : Int))), (8, (.int .i64 x105)), (27, (.bool (((decide (97 ≤ c106)) && (decide (c106 ≤ 122))) || ((decide (65 ≤ c106)) && (decide (c106 ≤ 90))))))]) (LE []) _
    refine Tr.asg rfl rfl ?_
    refine Tr.nil (Tr.normThen ?_)
    refine Tr.sr ?_
    refine Tr.mv rfl rfl ?_
    refine Tr.va rfl (fun _ _ h1 h2 => run_not (h1.ev rfl)) ?_
    refine Tr.mv rfl rfl ?_
    refine Tr.mid0 19 [(0, (.string p0)), (7, (.int .i64 (p0.size : Int))), (8, (.int .i64 x105)), (49, (.bool ((!(((decide (97 ≤ c106)) && (decide (c106 ≤ 122))) || ((decide (65 ≤ c106)) && (decide (c106 ≤ 90))))) && ((x105 == 0) || ((((decide (c106 < 48)) || (decide (57 < c106))) && (c106 != 95)) && (c106 != 45))))))] [] ?_ ?_
    ·cases hg106 : (!(((decide (97 ≤ c106)) && (decide (c106 ≤ 122))) || ((decide (65 ≤ c106)) && (decide (c106 ≤ 90)))))
     ·refine Tr.pass rfl rfl rfl rfl rfl (by decide) ?_
      refine Tr.pass rfl rfl rfl rfl rfl (by decide) ?_
      refine Tr.pass rfl rfl rfl rfl rfl (by decide) ?_
      refine Tr.passU rfl rfl rfl rfl (by decide) ?_
      refine Tr.passU rfl rfl rfl rfl (by decide) ?_
      refine Tr.passU rfl rfl rfl rfl (by decide) ?_
      refine Tr.passU rfl rfl rfl rfl (by decide) ?_
      refine Tr.passU rfl rfl rfl rfl (by decide) ?_
      refine Tr.passU rfl rfl rfl rfl (by decide) ?_
      refine Tr.passU rfl rfl rfl rfl (by decide) ?_
      refine Tr.passU rfl rfl rfl rfl (by decide) ?_
      refine Tr.passU rfl rfl rfl rfl (by decide) ?_
      refine Tr.passU rfl rfl rfl rfl (by decide) ?_
      refine Tr.passU rfl rfl rfl rfl (by decide) ?_
      refine Tr.passU rfl rfl rfl rfl (by decide) ?_
      refine Tr.passU rfl rfl rfl rfl (by decide) ?_
      refine Tr.passU rfl rfl rfl rfl (by decide) ?_
      refine Tr.pass rfl rfl rfl rfl rfl (by decide) ?_
      refine Tr.va rfl (fun _ _ h1 h2 => run_pickF (h1.ev rfl) (h1.ev rfl)) ?_
      exact Tr.nil (Tr.fin0 (.cons rfl (.cons rfl (.cons rfl (.cons rfl .nil)))) .nil)
     ·refine Tr.val (wg rfl rfl rfl) rfl (fun _ _ h1 h2 => run_move (h1.ev rfl)) ?_
      refine Tr.val (wg rfl rfl rfl) rfl (fun _ _ h1 h2 => run_eql (h1.ev rfl) (h1.ev rfl)) ?_
      refine Tr.val (wg rfl rfl rfl) rfl (fun _ _ h1 h2 => run_move (h1.ev rfl)) ?_
      refine Tr.mid0 15 [(0, (.string p0)), (7, (.int .i64 (p0.size : Int))), (8, (.int .i64 x105)), (30, (.bool true)), (48, (.bool ((x105 == 0) || ((((decide (c106 < 48)) || (decide (57 < c106))) && (c106 != 95)) && (c106 != 45)))))] [] ?_ ?_
      ·cases hg106 : (x105 == 0)
       ·refine Tr.val (wg rfl rfl rfl) rfl (fun _ _ h1 h2 => run_move (h1.ev rfl)) ?_
        refine Tr.val (wg rfl rfl rfl) rfl (fun _ _ h1 h2 => run_lss (h1.ev rfl) (h1.ev rfl)) ?_
        refine Tr.val (wg rfl rfl rfl) rfl (fun _ _ h1 h2 => run_move (h1.ev rfl)) ?_
        refine Tr.mid0 3 [(0, (.string p0)), (4, (.int .u8 c106)), (7, (.int .i64 (p0.size : Int))), (8, (.int .i64 x105)), (30, (.bool true)), (33, (.bool false)), (39, (.bool ((decide (c106 < 48)) || (decide (57 < c106)))))] [] ?_ ?_
        ·cases hg106 : (decide (c106 < 48))
         ·refine Tr.val (wg rfl rfl rfl) rfl (fun _ _ h1 h2 => run_move (h1.ev rfl)) ?_
          refine Tr.val (wg rfl rfl rfl) rfl (fun _ _ h1 h2 => run_gtr (h1.ev rfl) (h1.ev rfl)) ?_
          refine Tr.val (wg rfl rfl rfl) rfl (fun _ _ h1 h2 => run_pickF (h1.ev rfl) (h1.ev rfl)) ?_
          exact Tr.nil (Tr.fin0 (.cons rfl (.cons rfl (.cons rfl (.cons rfl (.cons rfl (.cons rfl (.cons rfl .nil))))))) .nil)
         ·refine Tr.pass rfl rfl rfl rfl rfl (by decide) ?_
          refine Tr.pass rfl rfl rfl rfl rfl (by decide) ?_
          refine Tr.val (wg rfl rfl rfl) rfl (fun _ _ h1 h2 => run_pickT (h1.ev rfl) (h1.ev rfl)) ?_
          exact Tr.nil (Tr.fin0 (.cons rfl (.cons rfl (.cons rfl (.cons rfl (.cons rfl (.cons rfl (.cons rfl .nil))))))) .nil)
        ·show Tr _ _ (LF [(0, (.string p0)), (4, (.int .u8 c106)), (7, (.int .i64 (p0.size : Int))), (8, (.int .i64 x105)), (30, (.bool true)), (33, (.bool false)), (39, (.bool ((decide (c106 < 48)) || (decide (57 < c106)))))]) (LE []) _
         refine Tr.val (wg rfl rfl rfl) rfl (fun _ _ h1 h2 => run_move (h1.ev rfl)) ?_
         refine Tr.mid0 3 [(0, (.string p0)), (4, (.int .u8 c106)), (7, (.int .i64 (p0.size : Int))), (8, (.int .i64 x105)), (30, (.bool true)), (33, (.bool false)), (43, (.bool (((decide (c106 < 48)) || (decide (57 < c106))) && (c106 != 95))))] [] ?_ ?_
         ·cases hg106 : ((decide (c106 < 48)) || (decide (57 < c106)))
          ·refine Tr.pass rfl rfl rfl rfl rfl (by decide) ?_
           refine Tr.pass rfl rfl rfl rfl rfl (by decide) ?_
           refine Tr.val (wg rfl rfl rfl) rfl (fun _ _ h1 h2 => run_pickF (h1.ev rfl) (h1.ev rfl)) ?_
           exact Tr.nil (Tr.fin0 (.cons rfl (.cons rfl (.cons rfl (.cons rfl (.cons rfl (.cons rfl (.cons rfl .nil))))))) .nil)
          ·refine Tr.val (wg rfl rfl rfl) rfl (fun _ _ h1 h2 => run_move (h1.ev rfl)) ?_
           refine Tr.val (wg rfl rfl rfl) rfl (fun _ _ h1 h2 => run_neq (h1.ev rfl) (h1.ev rfl)) ?_
           refine Tr.val (wg rfl rfl rfl) rfl (fun _ _ h1 h2 => run_pickT (h1.ev rfl) (h1.ev rfl)) ?_
           exact Tr.nil (Tr.fin0 (.cons rfl (.cons rfl (.cons rfl (.cons rfl (.cons rfl (.cons rfl (.cons rfl .nil))))))) .nil)
         ·show Tr _ _ (LF [(0, (.string p0)), (4, (.int .u8 c106)), (7, (.int .i64 (p0.size : Int))), (8, (.int .i64 x105)), (30, (.bool true)), (33, (.bool false)), (43, (.bool (((decide (c106 < 48)) || (decide (57 < c106))) && (c106 != 95))))]) (LE []) _
          refine Tr.val (wg rfl rfl rfl) rfl (fun _ _ h1 h2 => run_move (h1.ev rfl)) ?_
          refine Tr.mid0 3 [(0, (.string p0)), (7, (.int .i64 (p0.size : Int))), (8, (.int .i64 x105)), (30, (.bool true)), (33, (.bool false)), (47, (.bool ((((decide (c106 < 48)) || (decide (57 < c106))) && (c106 != 95)) && (c106 != 45))))] [] ?_ ?_
          ·cases hg106 : (((decide (c106 < 48)) || (decide (57 < c106))) && (c106 != 95))
           ·refine Tr.pass rfl rfl rfl rfl rfl (by decide) ?_
            refine Tr.pass rfl rfl rfl rfl rfl (by decide) ?_
            refine Tr.val (wg rfl rfl rfl) rfl (fun _ _ h1 h2 => run_pickF (h1.ev rfl) (h1.ev rfl)) ?_
            exact Tr.nil (Tr.fin0 (.cons rfl (.cons rfl (.cons rfl (.cons rfl (.cons rfl (.cons rfl .nil)))))) .nil)
           ·refine Tr.val (wg rfl rfl rfl) rfl (fun _ _ h1 h2 => run_move (h1.ev rfl)) ?_
            refine Tr.val (wg rfl rfl rfl) rfl (fun _ _ h1 h2 => run_neq (h1.ev rfl) (h1.ev rfl)) ?_
            refine Tr.val (wg rfl rfl rfl) rfl (fun _ _ h1 h2 => run_pickT (h1.ev rfl) (h1.ev rfl)) ?_
            exact Tr.nil (Tr.fin0 (.cons rfl (.cons rfl (.cons rfl (.cons rfl (.cons rfl (.cons rfl .nil)))))) .nil)
          ·show Tr _ _ (LF [(0, (.string p0)), (7, (.int .i64 (p0.size : Int))), (8, (.int .i64 x105)), (30, (.bool true)), (33, (.bool false)), (47, (.bool ((((decide (c106 < 48)) || (decide (57 < c106))) && (c106 != 95)) && (c106 != 45))))]) (LE []) _
           refine Tr.val (wg rfl rfl rfl) rfl (fun _ _ h1 h2 => run_pickF (h1.ev rfl) (h1.ev rfl)) ?_
           exact Tr.nil (Tr.fin0 (.cons rfl (.cons rfl (.cons rfl (.cons rfl (.cons rfl .nil))))) .nil)
       ·refine Tr.pass rfl rfl rfl rfl rfl (by decide) ?_
        refine Tr.pass rfl rfl rfl rfl rfl (by decide) ?_
        refine Tr.pass rfl rfl rfl rfl rfl (by decide) ?_
        refine Tr.passU rfl rfl rfl rfl (by decide) ?_
        refine Tr.passU rfl rfl rfl rfl (by decide) ?_
        refine Tr.pass rfl rfl rfl rfl rfl (by decide) ?_
        refine Tr.pass rfl rfl rfl rfl rfl (by decide) ?_
        refine Tr.passU rfl rfl rfl rfl (by decide) ?_
        refine Tr.passU rfl rfl rfl rfl (by decide) ?_
        refine Tr.pass rfl rfl rfl rfl rfl (by decide) ?_
        refine Tr.pass rfl rfl rfl rfl rfl (by decide) ?_
        refine Tr.passU rfl rfl rfl rfl (by decide) ?_
        refine Tr.passU rfl rfl rfl rfl (by decide) ?_
        refine Tr.pass rfl rfl rfl rfl rfl (by decide) ?_
        refine Tr.val (wg rfl rfl rfl) rfl (fun _ _ h1 h2 => run_pickT (h1.ev rfl) (h1.ev rfl)) ?_
        exact Tr.nil (Tr.fin0 (.cons rfl (.cons rfl (.cons rfl (.cons rfl (.cons rfl .nil))))) .nil)
      ·show Tr _ _ (LF [(0, (.string p0)), (7, (.int .i64 (p0.size : Int))), (8, (.int .i64 x105)), (30, (.bool true)), (48, (.bool ((x105 == 0) || ((((decide (c106 < 48)) || (decide (57 < c106))) && (c106 != 95)) && (c106 != 45)))))]) (LE []) _
       refine Tr.va rfl (fun _ _ h1 h2 => run_pickT (h1.ev rfl) (h1.ev rfl)) ?_
       exact Tr.nil (Tr.fin0 (.cons rfl (.cons rfl (.cons rfl (.cons rfl .nil)))) .nil)
    ·show Tr _ _ (LF [(0, (.string p0)), (7, (.int .i64 (p0.size : Int))), (8, (.int .i64 x105)), (49, (.bool ((!(((decide (97 ≤ c106)) && (decide (c106 ≤ 122))) || ((decide (65 ≤ c106)) && (decide (c106 ≤ 90))))) && ((x105 == 0) || ((((decide (c106 < 48)) || (decide (57 < c106))) && (c106 != 95)) && (c106 != 45))))))]) (LE []) _
     refine Tr.nil (Tr.normThen ?_)
     refine Tr.cond rfl H (fun H => ?_) (fun H => ?_)
     ·refine Tr.sr ?_
      refine Tr.asg rfl rfl ?_
      refine Tr.nil (Tr.normThen ?_)
      refine Tr.ret (Tr.retBlock (Tr.retThen (Tr.retThen (Tr.retBlock (Tr.retThen ?_)))))
      obtain rfl := Option.some.inj H
      exact Tr.out (m := [(.bool false)]) [] (res_tmp rfl res_nil) (fun W hW => ⟨rfl, hW.low leB⟩)
     ·refine Tr.skip (Tr.normBlock (Tr.normThen ?_))
      refine Tr.region ?_
      refine Tr.va rfl (fun _ _ h1 h2 => run_add (h1.ev rfl) (h1.ev rfl)) ?_
      refine Tr.mv rfl rfl ?_
      refine Tr.nil ?_
      exact Tr.backThen leF_plot_IsName_L1 (w64 (x105 + 1)) H (.cons rfl (.cons rfl (.cons rfl .nil))) .nil
 ·refine Tr.exit (Tr.exitThen (Tr.exitThen (Tr.exitBlock (Tr.normThen ?_))))
  refine Tr.sr ?_
  refine Tr.mv rfl rfl ?_
  refine Tr.va rfl (fun _ _ h1 h2 => run_lenS un_9 (h1.ev rfl)) ?_
  refine Tr.va rfl (fun _ _ h1 h2 => run_geq (h1.ev rfl) (h1.ev rfl)) ?_
  refine Tr.mv rfl rfl ?_
  refine Tr.mid0 4 [(58, (.bool ((decide (1 ≤ (p0.size : Int))) && (decide ((p0.size : Int) ≤ 40)))))] [] ?_ ?_
  ·cases hg106 : (decide (1 ≤ (p0.size : Int)))
   ·refine Tr.pass rfl rfl rfl rfl rfl (by decide) ?_
    refine Tr.pass rfl rfl rfl rfl rfl (by decide) ?_
    refine Tr.pass rfl rfl rfl rfl rfl (by decide) ?_
    refine Tr.va rfl (fun _ _ h1 h2 => run_pickF (h1.ev rfl) (h1.ev rfl)) ?_
    exact Tr.nil (Tr.fin0 (.cons rfl .nil) .nil)
   ·refine Tr.val (wg rfl rfl rfl) rfl (fun _ _ h1 h2 => run_move (h1.ev rfl)) ?_
    refine Tr.val (wg rfl rfl rfl) rfl (fun _ _ h1 h2 => run_lenS un_9 (h1.ev rfl)) ?_
    refine Tr.val (wg rfl rfl rfl) rfl (fun _ _ h1 h2 => run_leq (h1.ev rfl) (h1.ev rfl)) ?_
    refine Tr.va rfl (fun _ _ h1 h2 => run_pickT (h1.ev rfl) (h1.ev rfl)) ?_
    exact Tr.nil (Tr.fin0 (.cons rfl .nil) .nil)
  ·show Tr _ _ (LF [(58, (.bool ((decide (1 ≤ (p0.size : Int))) && (decide ((p0.size : Int) ≤ 40)))))]) (LE []) _
   refine Tr.asg rfl rfl ?_
   refine Tr.nil (Tr.normThen ?_)
   refine Tr.ret ?_
   obtain rfl := Option.some.inj H
   exact Tr.out (m := [(.bool ((decide (1 ≤ (p0.size : Int))) && (decide ((p0.size : Int) ≤ 40))))]) [] (res_tmp rfl res_nil) (fun W hW => ⟨rfl, hW.low leB⟩)

theorem F_plot_isAt_ok {w : Bs} (p0 : Int) (p1 : Int) (r : Bool) (H : F_plot_isAt p0 p1 = some r) (hE : HF w w.W E0) : Calls Tryd.prog 63 [(.int .i64 p0), (.int .i64 p1)].toArray w.W fun e W' => e = .returned (.bool r) ∧ HF w W' E0 := by
 unfold F_plot_isAt at H
 have leB := Bs.Le.refl w
 refine Tr.enter (n := 11) Tryd.func63 rfl rfl rfl hE ?_
 refine Tr.sr ?_
 refine Tr.asg rfl rfl ?_
 refine Tr.nil (Tr.normThen ?_)
 refine Tr.seq ?_
 refine Tr.draw (by kernel_rfl) (by kernel_rfl) ?_
 refine Tq.mv rfl rfl ?_
 refine Tq.mv rfl rfl ?_
 obtain ⟨q100, hq100, H⟩ := bnd H
 refine Tq.va rfl (fun _ _ h1 h2 => run_dv (h1.ev rfl) (h1.ev rfl) hq100) ?_
 refine Tq.mv rfl rfl ?_
 obtain ⟨q101, hq101, H⟩ := bnd H
 refine Tq.va rfl (fun _ _ h1 h2 => run_dv (h1.ev rfl) (h1.ev rfl) hq101) ?_
 obtain ⟨y102, hy102, H⟩ := bnd H
 refine Tq.call0 (r := (.bool y102)) (wn rfl) rfl Tryd.call26 (evl_cons rfl (evl_cons rfl (evl_cons rfl evl_nil))) (fun W hW => F_plot_within_ok p0 q100 q101 y102 hy102 (HF.start _)) ?_
 refine Tq.asg rfl rfl ?_
 refine Tq.nil (Tr.normThen ?_)
 refine Tr.ret ?_
 obtain rfl := Option.some.inj H
 exact Tr.out (m := [(.bool y102)]) [] (res_tmp rfl res_nil) (fun W hW => ⟨rfl, hW.low leB⟩)

theorem F_plot_checkTool_ok (N : Nat) {w : Bs} (p0 : TPlotTool) (Ap0_0 : Option Addr) (cp0_0 : Nat) (hp0_0 : Sl w.R w.W fl_TRect Ap0_0 cp0_0 p0.Rects) (p1 : Int) (r : Int) (H : F_plot_checkTool N p0 p1 = some r) (hE : HF w w.W E0) : Calls Tryd.prog 27 [(.agg #[(.string p0.Name), (.slice Ap0_0 (p0.Rects).length cp0_0)]), (.int .i64 p1)].toArray w.W fun e W' => e = .returned (.int .i64 r) ∧ HF w W' E0 := by
 unfold F_plot_checkTool at H
 have leB := Bs.Le.refl w
 refine Tr.enter (n := 65) Tryd.func27 rfl rfl rfl hE ?_
 refine Tr.sr ?_
 refine Tr.box 1 (cs := [(.string p0.Name), (.slice Ap0_0 (p0.Rects).length cp0_0)]) (wn rfl) rfl rfl rfl fun b100 => ?_
 refine Tr.asg rfl rfl ?_
 refine Tr.nil (Tr.normThen ?_)
 refine Tr.seq ?_
 refine Tr.sr ?_
 refine Tr.va rfl (fun _ _ h1 h2 => run_fieldAddr fo_55_0 (h1.ev rfl)) ?_
 refine Tr.va rfl (fun _ _ h1 h2 => run_load1 ag_9 (h1.ev rfl) (rdb h2 (vs := [(.string p0.Name), (.slice Ap0_0 (p0.Rects).length cp0_0)]) (k := 1) rfl 0) rfl) ?_
 obtain ⟨y101, hy101, H⟩ := bnd H
 refine Tr.call0 (r := (.bool y101)) (wn rfl) rfl Tryd.call62 (evl_cons rfl evl_nil) (fun W hW => F_plot_IsName_ok N p0.Name y101 hy101 (HF.start _)) ?_
 refine Tr.va rfl (fun _ _ h1 h2 => run_not (h1.ev rfl)) ?_
 refine Tr.nil (Tr.normThen ?_)
 refine Tr.cond rfl H (fun H => ?_) (fun H => ?_)
 ·refine Tr.sr ?_
  refine Tr.asg rfl rfl ?_
  refine Tr.nil (Tr.normThen ?_)
  refine Tr.ret (Tr.retThen ?_)
  obtain rfl := Option.some.inj H
  exact Tr.out (m := [(.int .i64 5)]) [] (res_tmp rfl res_nil) (fun W hW => ⟨rfl, hW.low leB⟩)
 ·refine Tr.skip (Tr.normThen ?_)
  refine Tr.seq ?_
  refine Tr.sr ?_
  refine Tr.va rfl (fun _ _ h1 h2 => run_fieldAddr fo_55_1 (h1.ev rfl)) ?_
  refine Tr.va rfl (fun _ _ h1 h2 => run_load1 ag_53 (h1.ev rfl) (rdb h2 (vs := [(.string p0.Name), (.slice Ap0_0 (p0.Rects).length cp0_0)]) (k := 1) rfl 1) rfl) ?_
  refine Tr.va rfl (fun _ _ h1 h2 => run_len un_53 (h1.ev rfl)) ?_
  refine Tr.va rfl (fun _ _ h1 h2 => run_eql (h1.ev rfl) (h1.ev rfl)) ?_
  refine Tr.nil (Tr.normThen ?_)
  refine Tr.cond rfl H (fun H => ?_) (fun H => ?_)
  ·refine Tr.sr ?_
   refine Tr.asg rfl rfl ?_
   refine Tr.nil (Tr.normThen ?_)
   refine Tr.ret (Tr.retThen ?_)
   obtain rfl := Option.some.inj H
   exact Tr.out (m := [(.int .i64 9)]) [] (res_tmp rfl res_nil) (fun W hW => ⟨rfl, hW.low leB⟩)
  ·refine Tr.skip (Tr.normThen ?_)
   refine Tr.seq ?_
   refine Tr.sr ?_
   refine Tr.va rfl (fun _ _ h1 h2 => run_fieldAddr fo_55_1 (h1.ev rfl)) ?_
   refine Tr.va rfl (fun _ _ h1 h2 => run_load1 ag_53 (h1.ev rfl) (rdb h2 (vs := [(.string p0.Name), (.slice Ap0_0 (p0.Rects).length cp0_0)]) (k := 1) rfl 1) rfl) ?_
   refine Tr.va rfl (fun _ _ h1 h2 => run_len un_53 (h1.ev rfl)) ?_
   refine Tr.va rfl (fun _ _ h1 h2 => run_gtr (h1.ev rfl) (h1.ev rfl)) ?_
   refine Tr.nil (Tr.normThen ?_)
   refine Tr.cond rfl H (fun H => ?_) (fun H => ?_)
   ·refine Tr.sr ?_
    refine Tr.asg rfl rfl ?_
    refine Tr.nil (Tr.normThen ?_)
    refine Tr.ret (Tr.retThen ?_)
    obtain rfl := Option.some.inj H
    exact Tr.out (m := [(.int .i64 2)]) [] (res_tmp rfl res_nil) (fun W hW => ⟨rfl, hW.low leB⟩)
   ·refine Tr.skip (Tr.normThen ?_)
    refine Tr.seq ?_
    refine Tr.sr ?_
    refine Tr.va rfl (fun _ _ h1 h2 => run_fieldAddr fo_55_1 (h1.ev rfl)) ?_
    refine Tr.va rfl (fun _ _ h1 h2 => run_load1 ag_53 (h1.ev rfl) (rdb h2 (vs := [(.string p0.Name), (.slice Ap0_0 (p0.Rects).length cp0_0)]) (k := 1) rfl 1) rfl) ?_
    refine Tr.va rfl (fun _ _ h1 h2 => run_len un_53 (h1.ev rfl)) ?_
    refine Tr.mv rfl rfl ?_
    refine Tr.nil (Tr.normThen ?_)
    refine Tr.block ?_
    refine Tr.loop (σ := (List TRect) × Nat) (fun m w s => m = s.1.length + 1 ∧ s.1 = List.drop s.2 p0.Rects ∧ s.2 ≤ p0.Rects.length ∧ F_plot_checkTool_L1 p1 s.1 s.2 = some r) (fun s => [(1, (.int .i64 p1)), (20, (.slice Ap0_0 (p0.Rects).length cp0_0)), (21, (.int .i64 (p0.Rects.length : Int))), (22, (.int .i64 (s.2 : Int)))]) (fun s => []) (p0.Rects.length + 1) (p0.Rects, 0) ⟨rfl, rfl, Nat.zero_le _, H⟩ (.cons rfl (.cons rfl (.cons rfl (.cons rfl .nil)))) .nil (fun _ _ h => absurd h.1 (by simp)) ?_
    intro w leF_plot_checkTool_L1 m s hs
    obtain ⟨restF_plot_checkTool_L1, iF_plot_checkTool_L1⟩ := s
    obtain ⟨hmF_plot_checkTool_L1, hdF_plot_checkTool_L1, hiF_plot_checkTool_L1, H⟩ := hs
    replace hdF_plot_checkTool_L1 : restF_plot_checkTool_L1 = List.drop iF_plot_checkTool_L1 p0.Rects := hdF_plot_checkTool_L1
    replace H : F_plot_checkTool_L1 p1 restF_plot_checkTool_L1 iF_plot_checkTool_L1 = some r := H
    replace hmF_plot_checkTool_L1 : m + 1 = restF_plot_checkTool_L1.length + 1 := hmF_plot_checkTool_L1
    replace hp0_0 := hp0_0.leR leF_plot_checkTool_L1
    replace leB := leB.trans leF_plot_checkTool_L1
    obtain rfl : m = restF_plot_checkTool_L1.length := by omega
    clear hmF_plot_checkTool_L1
    show Tr _ _ (LF [(1, (.int .i64 p1)), (20, (.slice Ap0_0 (p0.Rects).length cp0_0)), (21, (.int .i64 (p0.Rects.length : Int))), (22, (.int .i64 (iF_plot_checkTool_L1 : Int)))]) (LE []) _
    cases restF_plot_checkTool_L1 with
    | nil =>
     rw [F_plot_checkTool_L1.eq_1] at H
     refine Tr.sr ?_
     refine Tr.va rfl (fun _ _ h1 h2 => run_lss (h1.ev rfl) (h1.ev rfl)) ?_
     refine Tr.nil (Tr.normThen ?_)
     refine Tr.seq ?_
     refine Tr.condF rfl (range_nil hdF_plot_checkTool_L1) ?_
     refine Tr.exit (Tr.exitThen (Tr.exitThen (Tr.exitBlock (Tr.normThen ?_))))
     refine Tr.sr ?_
     refine Tr.asg rfl rfl ?_
     refine Tr.nil (Tr.normThen ?_)
     refine Tr.ret ?_
     obtain rfl := Option.some.inj H
     exact Tr.out (m := [(.int .i64 0)]) [] (res_tmp rfl res_nil) (fun W hW => ⟨rfl, hW.low leB⟩)
    | cons xF_plot_checkTool_L1 restF_plot_checkTool_L1 =>
     rw [F_plot_checkTool_L1.eq_2] at H
     refine Tr.sr ?_
     refine Tr.va rfl (fun _ _ h1 h2 => run_lss (h1.ev rfl) (h1.ev rfl)) ?_
     refine Tr.nil (Tr.normThen ?_)
     refine Tr.seq ?_
     refine Tr.condT rfl (range_on hdF_plot_checkTool_L1) ?_
     refine Tr.skip (Tr.normThen ?_)
     refine Tr.seq ?_
     refine Tr.block ?_
     refine Tr.sr ?_
     refine Tr.va rfl (fun _ _ h1 h2 => run_indexAddr el_53 (h1.ev rfl) hp0_0.form (h1.ev rfl) (Int.natCast_nonneg _) (range_lt hdF_plot_checkTool_L1)) ?_
     refine Tr.va rfl (fun _ _ h1 h2 => run_loadN (cs := [(.int .i64 xF_plot_checkTool_L1.X0), (.int .i64 xF_plot_checkTool_L1.Y0), (.int .i64 xF_plot_checkTool_L1.X1), (.int .i64 xF_plot_checkTool_L1.Y1)]) ag_57 sz_57 (h1.ev rfl) (CellsAt.take (rdF ef_TRect hp0_0 (range_at hdF_plot_checkTool_L1) h2) 4) rfl) ?_
     refine Tr.alloc 3 (wn rfl) rfl ze_57 fun b115 => ?_
     refine Tr.store 3 (cs := [(.int .i64 xF_plot_checkTool_L1.X0), (.int .i64 xF_plot_checkTool_L1.Y0), (.int .i64 xF_plot_checkTool_L1.X1), (.int .i64 xF_plot_checkTool_L1.Y1)]) [(.int .i64 xF_plot_checkTool_L1.X0), (.int .i64 xF_plot_checkTool_L1.Y0), (.int .i64 xF_plot_checkTool_L1.X1), (.int .i64 xF_plot_checkTool_L1.Y1)] (wn rfl) rfl rfl rfl rfl sz_57 rfl rfl rfl ?_
     refine Tr.nil (Tr.normThen ?_)
     refine Tr.seq ?_
     refine Tr.sr ?_
     refine Tr.va rfl (fun _ _ h1 h2 => run_fieldAddr fo_57_0 (h1.ev rfl)) ?_
     refine Tr.va rfl (fun _ _ h1 h2 => run_load1 ag_3 (h1.ev rfl) (rdb h2 (vs := [(.int .i64 xF_plot_checkTool_L1.X0), (.int .i64 xF_plot_checkTool_L1.Y0), (.int .i64 xF_plot_checkTool_L1.X1), (.int .i64 xF_plot_checkTool_L1.Y1)]) (k := 3) rfl 0) rfl) ?_
     refine Tr.mv rfl rfl ?_
     obtain ⟨y116, hy116, H⟩ := bnd H
     refine Tr.call0 (r := (.bool y116)) (wn rfl) rfl Tryd.call63 (evl_cons rfl (evl_cons rfl evl_nil)) (fun W hW => F_plot_isAt_ok xF_plot_checkTool_L1.X0 p1 y116 hy116 (HF.start _)) ?_
     refine Tr.va rfl (fun _ _ h1 h2 => run_not (h1.ev rfl)) ?_
     refine Tr.mv rfl rfl ?_
     obtain ⟨g118, hg118, H⟩ := bnd H
     refine Tr.mid0 6 [(1, (.int .i64 p1)), (6, (.pointer (some ⟨b115, 0, none⟩))), (20, (.slice Ap0_0 (p0.Rects).length cp0_0)), (21, (.int .i64 (p0.Rects.length : Int))), (22, (.int .i64 (iF_plot_checkTool_L1 : Int))), (37, (.bool g118))] [(3, bx b115 #[(.int .i64 xF_plot_checkTool_L1.X0), (.int .i64 xF_plot_checkTool_L1.Y0), (.int .i64 xF_plot_checkTool_L1.X1), (.int .i64 xF_plot_checkTool_L1.Y1)] 57)] ?_ ?_
     ·cases hg125 : (!y116)
      ·rw [hg125] at hg118
       rw [if_neg (by decide)] at hg118
       have H := hg118
       refine Tr.val (wg rfl rfl rfl) rfl (fun _ _ h1 h2 => run_fieldAddr fo_57_1 (h1.ev rfl)) ?_
       refine Tr.val (wg rfl rfl rfl) rfl (fun _ _ h1 h2 => run_load1 ag_3 (h1.ev rfl) (rdb h2 (vs := [(.int .i64 xF_plot_checkTool_L1.X0), (.int .i64 xF_plot_checkTool_L1.Y0), (.int .i64 xF_plot_checkTool_L1.X1), (.int .i64 xF_plot_checkTool_L1.Y1)]) (k := 3) rfl 1) rfl) ?_
       refine Tr.val (wg rfl rfl rfl) rfl (fun _ _ h1 h2 => run_move (h1.ev rfl)) ?_
       obtain ⟨y119, hy119, H⟩ := bnd H
       refine Tr.call0 (r := (.bool y119)) (wg rfl rfl rfl) rfl Tryd.call63 (evl_cons rfl (evl_cons rfl evl_nil)) (fun W hW => F_plot_isAt_ok xF_plot_checkTool_L1.Y0 p1 y119 hy119 (HF.start _)) ?_
       refine Tr.val (wg rfl rfl rfl) rfl (fun _ _ h1 h2 => run_not (h1.ev rfl)) ?_
       refine Tr.va rfl (fun _ _ h1 h2 => run_pickF (h1.ev rfl) (h1.ev rfl)) ?_
       obtain rfl := Option.some.inj H
       exact Tr.nil (Tr.fin0 (.cons rfl (.cons rfl (.cons rfl (.cons rfl (.cons rfl (.cons rfl .nil)))))) (.cons rfl .nil))
      ·rw [hg125] at hg118
       rw [if_pos rfl] at hg118
       have H := hg118
       obtain rfl := Option.some.inj H
       refine Tr.pass rfl rfl rfl rfl rfl (by decide) ?_
       refine Tr.pass rfl rfl rfl rfl rfl (by decide) ?_
       refine Tr.pass rfl rfl rfl rfl rfl (by decide) ?_
       refine Tr.pass rfl rfl rfl rfl rfl (by decide) ?_
       refine Tr.pass rfl rfl rfl rfl rfl (by decide) ?_
       refine Tr.va rfl (fun _ _ h1 h2 => run_pickT (h1.ev rfl) (h1.ev rfl)) ?_
       exact Tr.nil (Tr.fin0 (.cons rfl (.cons rfl (.cons rfl (.cons rfl (.cons rfl (.cons rfl .nil)))))) (.cons rfl .nil))
     ·show Tr _ _ (LF [(1, (.int .i64 p1)), (6, (.pointer (some ⟨b115, 0, none⟩))), (20, (.slice Ap0_0 (p0.Rects).length cp0_0)), (21, (.int .i64 (p0.Rects.length : Int))), (22, (.int .i64 (iF_plot_checkTool_L1 : Int))), (37, (.bool g118))]) (LE [(3, bx b115 #[(.int .i64 xF_plot_checkTool_L1.X0), (.int .i64 xF_plot_checkTool_L1.Y0), (.int .i64 xF_plot_checkTool_L1.X1), (.int .i64 xF_plot_checkTool_L1.Y1)] 57)]) _
      refine Tr.mv rfl rfl ?_
      obtain ⟨g121, hg121, H⟩ := bnd H
      refine Tr.mid0 6 [(1, (.int .i64 p1)), (6, (.pointer (some ⟨b115, 0, none⟩))), (20, (.slice Ap0_0 (p0.Rects).length cp0_0)), (21, (.int .i64 (p0.Rects.length : Int))), (22, (.int .i64 (iF_plot_checkTool_L1 : Int))), (44, (.bool g121))] [(3, bx b115 #[(.int .i64 xF_plot_checkTool_L1.X0), (.int .i64 xF_plot_checkTool_L1.Y0), (.int .i64 xF_plot_checkTool_L1.X1), (.int .i64 xF_plot_checkTool_L1.Y1)] 57)] ?_ ?_
      ·cases hg125 : g118
       ·rw [hg125] at hg121
        rw [if_neg (by decide)] at hg121
        have H := hg121
        refine Tr.val (wg rfl rfl rfl) rfl (fun _ _ h1 h2 => run_fieldAddr fo_57_2 (h1.ev rfl)) ?_
        refine Tr.val (wg rfl rfl rfl) rfl (fun _ _ h1 h2 => run_load1 ag_3 (h1.ev rfl) (rdb h2 (vs := [(.int .i64 xF_plot_checkTool_L1.X0), (.int .i64 xF_plot_checkTool_L1.Y0), (.int .i64 xF_plot_checkTool_L1.X1), (.int .i64 xF_plot_checkTool_L1.Y1)]) (k := 3) rfl 2) rfl) ?_
        refine Tr.val (wg rfl rfl rfl) rfl (fun _ _ h1 h2 => run_move (h1.ev rfl)) ?_
        obtain ⟨y122, hy122, H⟩ := bnd H
        refine Tr.call0 (r := (.bool y122)) (wg rfl rfl rfl) rfl Tryd.call63 (evl_cons rfl (evl_cons rfl evl_nil)) (fun W hW => F_plot_isAt_ok xF_plot_checkTool_L1.X1 p1 y122 hy122 (HF.start _)) ?_
        refine Tr.val (wg rfl rfl rfl) rfl (fun _ _ h1 h2 => run_not (h1.ev rfl)) ?_
        refine Tr.va rfl (fun _ _ h1 h2 => run_pickF (h1.ev rfl) (h1.ev rfl)) ?_
        obtain rfl := Option.some.inj H
        exact Tr.nil (Tr.fin0 (.cons rfl (.cons rfl (.cons rfl (.cons rfl (.cons rfl (.cons rfl .nil)))))) (.cons rfl .nil))
       ·rw [hg125] at hg121
        rw [if_pos rfl] at hg121
        have H := hg121
        obtain rfl := Option.some.inj H
        refine Tr.pass rfl rfl rfl rfl rfl (by decide) ?_
        refine Tr.pass rfl rfl rfl rfl rfl (by decide) ?_
        refine Tr.pass rfl rfl rfl rfl rfl (by decide) ?_
        refine Tr.pass rfl rfl rfl rfl rfl (by decide) ?_
        refine Tr.pass rfl rfl rfl rfl rfl (by decide) ?_
        refine Tr.va rfl (fun _ _ h1 h2 => run_pickT (h1.ev rfl) (h1.ev rfl)) ?_
        exact Tr.nil (Tr.fin0 (.cons rfl (.cons rfl (.cons rfl (.cons rfl (.cons rfl (.cons rfl .nil)))))) (.cons rfl .nil))
      ·show Tr _ _ (LF [(1, (.int .i64 p1)), (6, (.pointer (some ⟨b115, 0, none⟩))), (20, (.slice Ap0_0 (p0.Rects).length cp0_0)), (21, (.int .i64 (p0.Rects.length : Int))), (22, (.int .i64 (iF_plot_checkTool_L1 : Int))), (44, (.bool g121))]) (LE [(3, bx b115 #[(.int .i64 xF_plot_checkTool_L1.X0), (.int .i64 xF_plot_checkTool_L1.Y0), (.int .i64 xF_plot_checkTool_L1.X1), (.int .i64 xF_plot_checkTool_L1.Y1)] 57)]) _
       refine Tr.mv rfl rfl ?_
       obtain ⟨g124, hg124, H⟩ := bnd H
       refine Tr.mid0 6 [(1, (.int .i64 p1)), (6, (.pointer (some ⟨b115, 0, none⟩))), (20, (.slice Ap0_0 (p0.Rects).length cp0_0)), (21, (.int .i64 (p0.Rects.length : Int))), (22, (.int .i64 (iF_plot_checkTool_L1 : Int))), (51, (.bool g124))] [(3, bx b115 #[(.int .i64 xF_plot_checkTool_L1.X0), (.int .i64 xF_plot_checkTool_L1.Y0), (.int .i64 xF_plot_checkTool_L1.X1), (.int .i64 xF_plot_checkTool_L1.Y1)] 57)] ?_ ?_
       ·cases hg125 : g121
        ·rw [hg125] at hg124
         rw [if_neg (by decide)] at hg124
         have H := hg124
         refine Tr.val (wg rfl rfl rfl) rfl (fun _ _ h1 h2 => run_fieldAddr fo_57_3 (h1.ev rfl)) ?_
         refine Tr.val (wg rfl rfl rfl) rfl (fun _ _ h1 h2 => run_load1 ag_3 (h1.ev rfl) (rdb h2 (vs := [(.int .i64 xF_plot_checkTool_L1.X0), (.int .i64 xF_plot_checkTool_L1.Y0), (.int .i64 xF_plot_checkTool_L1.X1), (.int .i64 xF_plot_checkTool_L1.Y1)]) (k := 3) rfl 3) rfl) ?_
         refine Tr.val (wg rfl rfl rfl) rfl (fun _ _ h1 h2 => run_move (h1.ev rfl)) ?_
         obtain ⟨y125, hy125, H⟩ := bnd H
         refine Tr.call0 (r := (.bool y125)) (wg rfl rfl rfl) rfl Tryd.call63 (evl_cons rfl (evl_cons rfl evl_nil)) (fun W hW => F_plot_isAt_ok xF_plot_checkTool_L1.Y1 p1 y125 hy125 (HF.start _)) ?_
         refine Tr.val (wg rfl rfl rfl) rfl (fun _ _ h1 h2 => run_not (h1.ev rfl)) ?_
         refine Tr.va rfl (fun _ _ h1 h2 => run_pickF (h1.ev rfl) (h1.ev rfl)) ?_
         obtain rfl := Option.some.inj H
         exact Tr.nil (Tr.fin0 (.cons rfl (.cons rfl (.cons rfl (.cons rfl (.cons rfl (.cons rfl .nil)))))) (.cons rfl .nil))
        ·rw [hg125] at hg124
         rw [if_pos rfl] at hg124
         have H := hg124
         obtain rfl := Option.some.inj H
         refine Tr.pass rfl rfl rfl rfl rfl (by decide) ?_
         refine Tr.pass rfl rfl rfl rfl rfl (by decide) ?_
         refine Tr.pass rfl rfl rfl rfl rfl (by decide) ?_
         refine Tr.pass rfl rfl rfl rfl rfl (by decide) ?_
         refine Tr.pass rfl rfl rfl rfl rfl (by decide) ?_
         refine Tr.va rfl (fun _ _ h1 h2 => run_pickT (h1.ev rfl) (h1.ev rfl)) ?_
         exact Tr.nil (Tr.fin0 (.cons rfl (.cons rfl (.cons rfl (.cons rfl (.cons rfl (.cons rfl .nil)))))) (.cons rfl .nil))
       ·show Tr _ _ (LF [(1, (.int .i64 p1)), (6, (.pointer (some ⟨b115, 0, none⟩))), (20, (.slice Ap0_0 (p0.Rects).length cp0_0)), (21, (.int .i64 (p0.Rects.length : Int))), (22, (.int .i64 (iF_plot_checkTool_L1 : Int))), (51, (.bool g124))]) (LE [(3, bx b115 #[(.int .i64 xF_plot_checkTool_L1.X0), (.int .i64 xF_plot_checkTool_L1.Y0), (.int .i64 xF_plot_checkTool_L1.X1), (.int .i64 xF_plot_checkTool_L1.Y1)] 57)]) _
        refine Tr.nil (Tr.normThen ?_)
        refine Tr.cond rfl H (fun H => ?_) (fun H => ?_)
        ·refine Tr.sr ?_
         refine Tr.asg rfl rfl ?_
         refine Tr.nil (Tr.normThen ?_)
         refine Tr.ret (Tr.retThen (Tr.retBlock (Tr.retThen (Tr.retThen (Tr.retBlock (Tr.retThen ?_))))))
         obtain rfl := Option.some.inj H
         exact Tr.out (m := [(.int .i64 1)]) [] (res_tmp rfl res_nil) (fun W hW => ⟨rfl, hW.low leB⟩)
        ·refine Tr.skip (Tr.normThen ?_)
         refine Tr.sr ?_
         refine Tr.va rfl (fun _ _ h1 h2 => run_fieldAddr fo_57_2 (h1.ev rfl)) ?_
         refine Tr.va rfl (fun _ _ h1 h2 => run_load1 ag_3 (h1.ev rfl) (rdb h2 (vs := [(.int .i64 xF_plot_checkTool_L1.X0), (.int .i64 xF_plot_checkTool_L1.Y0), (.int .i64 xF_plot_checkTool_L1.X1), (.int .i64 xF_plot_checkTool_L1.Y1)]) (k := 3) rfl 2) rfl) ?_
         refine Tr.va rfl (fun _ _ h1 h2 => run_fieldAddr fo_57_0 (h1.ev rfl)) ?_
         refine Tr.va rfl (fun _ _ h1 h2 => run_load1 ag_3 (h1.ev rfl) (rdb h2 (vs := [(.int .i64 xF_plot_checkTool_L1.X0), (.int .i64 xF_plot_checkTool_L1.Y0), (.int .i64 xF_plot_checkTool_L1.X1), (.int .i64 xF_plot_checkTool_L1.Y1)]) (k := 3) rfl 0) rfl) ?_
         refine Tr.va rfl (fun _ _ h1 h2 => run_leq (h1.ev rfl) (h1.ev rfl)) ?_
         refine Tr.mv rfl rfl ?_
         refine Tr.mid0 6 [(1, (.int .i64 p1)), (20, (.slice Ap0_0 (p0.Rects).length cp0_0)), (21, (.int .i64 (p0.Rects.length : Int))), (22, (.int .i64 (iF_plot_checkTool_L1 : Int))), (63, (.bool ((decide (xF_plot_checkTool_L1.X1 ≤ xF_plot_checkTool_L1.X0)) || (decide (xF_plot_checkTool_L1.Y1 ≤ xF_plot_checkTool_L1.Y0)))))] [(3, bx b115 #[(.int .i64 xF_plot_checkTool_L1.X0), (.int .i64 xF_plot_checkTool_L1.Y0), (.int .i64 xF_plot_checkTool_L1.X1), (.int .i64 xF_plot_checkTool_L1.Y1)] 57)] ?_ ?_
         ·cases hg125 : (decide (xF_plot_checkTool_L1.X1 ≤ xF_plot_checkTool_L1.X0))
          ·refine Tr.val (wg rfl rfl rfl) rfl (fun _ _ h1 h2 => run_fieldAddr fo_57_3 (h1.ev rfl)) ?_
           refine Tr.val (wg rfl rfl rfl) rfl (fun _ _ h1 h2 => run_load1 ag_3 (h1.ev rfl) (rdb h2 (vs := [(.int .i64 xF_plot_checkTool_L1.X0), (.int .i64 xF_plot_checkTool_L1.Y0), (.int .i64 xF_plot_checkTool_L1.X1), (.int .i64 xF_plot_checkTool_L1.Y1)]) (k := 3) rfl 3) rfl) ?_
           refine Tr.val (wg rfl rfl rfl) rfl (fun _ _ h1 h2 => run_fieldAddr fo_57_1 (h1.ev rfl)) ?_
           refine Tr.val (wg rfl rfl rfl) rfl (fun _ _ h1 h2 => run_load1 ag_3 (h1.ev rfl) (rdb h2 (vs := [(.int .i64 xF_plot_checkTool_L1.X0), (.int .i64 xF_plot_checkTool_L1.Y0), (.int .i64 xF_plot_checkTool_L1.X1), (.int .i64 xF_plot_checkTool_L1.Y1)]) (k := 3) rfl 1) rfl) ?_
           refine Tr.val (wg rfl rfl rfl) rfl (fun _ _ h1 h2 => run_leq (h1.ev rfl) (h1.ev rfl)) ?_
           refine Tr.va rfl (fun _ _ h1 h2 => run_pickF (h1.ev rfl) (h1.ev rfl)) ?_
           exact Tr.nil (Tr.fin0 (.cons rfl (.cons rfl (.cons rfl (.cons rfl (.cons rfl .nil))))) (.cons rfl .nil))
          ·refine Tr.pass rfl rfl rfl rfl rfl (by decide) ?_
           refine Tr.pass rfl rfl rfl rfl rfl (by decide) ?_
           refine Tr.pass rfl rfl rfl rfl rfl (by decide) ?_
           refine Tr.pass rfl rfl rfl rfl rfl (by decide) ?_
           refine Tr.pass rfl rfl rfl rfl rfl (by decide) ?_
           refine Tr.va rfl (fun _ _ h1 h2 => run_pickT (h1.ev rfl) (h1.ev rfl)) ?_
           exact Tr.nil (Tr.fin0 (.cons rfl (.cons rfl (.cons rfl (.cons rfl (.cons rfl .nil))))) (.cons rfl .nil))
         ·show Tr _ _ (LF [(1, (.int .i64 p1)), (20, (.slice Ap0_0 (p0.Rects).length cp0_0)), (21, (.int .i64 (p0.Rects.length : Int))), (22, (.int .i64 (iF_plot_checkTool_L1 : Int))), (63, (.bool ((decide (xF_plot_checkTool_L1.X1 ≤ xF_plot_checkTool_L1.X0)) || (decide (xF_plot_checkTool_L1.Y1 ≤ xF_plot_checkTool_L1.Y0)))))]) (LE [(3, bx b115 #[(.int .i64 xF_plot_checkTool_L1.X0), (.int .i64 xF_plot_checkTool_L1.Y0), (.int .i64 xF_plot_checkTool_L1.X1), (.int .i64 xF_plot_checkTool_L1.Y1)] 57)]) _
          refine Tr.nil (Tr.normThen ?_)
          refine Tr.cond rfl H (fun H => ?_) (fun H => ?_)
          ·refine Tr.sr ?_
           refine Tr.asg rfl rfl ?_
           refine Tr.nil (Tr.normThen ?_)
           refine Tr.ret (Tr.retBlock (Tr.retThen (Tr.retThen (Tr.retBlock (Tr.retThen ?_)))))
           obtain rfl := Option.some.inj H
           exact Tr.out (m := [(.int .i64 13)]) [] (res_tmp rfl res_nil) (fun W hW => ⟨rfl, hW.low leB⟩)
          ·refine Tr.skip (Tr.normBlock (Tr.normThen ?_))
           refine Tr.region ?_
           refine Tr.va rfl (fun _ _ h1 h2 => run_add (h1.ev rfl) (h1.ev rfl)) ?_
           refine Tr.mv rfl rfl ?_
           refine Tr.nil ?_
           exact Tr.backThen leF_plot_checkTool_L1 (restF_plot_checkTool_L1, (iF_plot_checkTool_L1 + 1)) ⟨rfl, range_tl hdF_plot_checkTool_L1, range_lt hdF_plot_checkTool_L1, H⟩ (.cons rfl (.cons rfl (.cons rfl (.cons (congrArg (fun z => some (Value.int .i64 z)) (range_up hdF_plot_checkTool_L1 hp0_0.form)) .nil)))) .nil

theorem F_plot_times_1_ok {w : Bs} (p0 : Int) (r : Int) (H : F_plot_times_1 p0 = some r) (hE : HF w w.W E0) : Calls Tryd.prog 86 [(.int .i64 p0)].toArray w.W fun e W' => e = .returned (.int .i64 r) ∧ HF w W' E0 := by
 unfold F_plot_times_1 at H
 have leB := Bs.Le.refl w
 refine Tr.enter (n := 6) Tryd.func86 rfl rfl rfl hE ?_
 refine Tr.sr ?_
 refine Tr.asg rfl rfl ?_
 refine Tr.nil (Tr.normThen ?_)
 refine Tr.seq ?_
 refine Tr.sr ?_
 refine Tr.mv rfl rfl ?_
 obtain ⟨y100, hy100, H⟩ := bnd H
 refine Tr.call0 (r := (.bool y100)) (wn rfl) rfl Tryd.call26 (evl_cons rfl (evl_cons rfl (evl_cons rfl evl_nil))) (fun W hW => F_plot_within_ok p0 1 100 y100 hy100 (HF.start _)) ?_
 refine Tr.nil (Tr.normThen ?_)
 refine Tr.cond rfl H (fun H => ?_) (fun H => ?_)
 ·refine Tr.sr ?_
  refine Tr.mv rfl rfl ?_
  refine Tr.asg rfl rfl ?_
  refine Tr.nil (Tr.normThen ?_)
  refine Tr.ret (Tr.retThen ?_)
  obtain rfl := Option.some.inj H
  exact Tr.out (m := [(.int .i64 p0)]) [] (res_tmp rfl res_nil) (fun W hW => ⟨rfl, hW.low leB⟩)
 ·refine Tr.skip (Tr.normThen ?_)
  refine Tr.sr ?_
  refine Tr.asg rfl rfl ?_
  refine Tr.nil (Tr.normThen ?_)
  refine Tr.ret ?_
  obtain rfl := Option.some.inj H
  exact Tr.out (m := [(.int .i64 1)]) [] (res_tmp rfl res_nil) (fun W hW => ⟨rfl, hW.low leB⟩)

theorem F_plot_times_ok {w : Bs} (p0 : TPlotStep) (Ap0_0 : Option Addr) (cp0_0 : Nat) (hp0_0 : Sl w.R w.W fl_TPoint Ap0_0 cp0_0 p0.Points) (Ap0_1 : Option Addr) (cp0_1 : Nat) (hp0_1 : Sl w.R w.W fl_TPlotStep Ap0_1 cp0_1 p0.Steps) (r : Int) (H : F_plot_times p0 = some r) (hE : HF w w.W E0) : Calls Tryd.prog 64 [(.agg #[(.int .i64 p0.Kind), (.string p0.Name), (.int .i64 p0.At.X), (.int .i64 p0.At.Y), (.slice Ap0_0 (p0.Points).length cp0_0), (.int .i64 p0.NX), (.int .i64 p0.NY), (.slice Ap0_1 (p0.Steps).length cp0_1)])].toArray w.W fun e W' => e = .returned (.int .i64 r) ∧ HF w W' E0 := by
 unfold F_plot_times at H
 have leB := Bs.Le.refl w
 refine Tr.enter (n := 13) Tryd.func64 rfl rfl rfl hE ?_
 refine Tr.sr ?_
 refine Tr.box 1 (cs := [(.int .i64 p0.Kind), (.string p0.Name), (.int .i64 p0.At.X), (.int .i64 p0.At.Y), (.slice Ap0_0 (p0.Points).length cp0_0), (.int .i64 p0.NX), (.int .i64 p0.NY), (.slice Ap0_1 (p0.Steps).length cp0_1)]) (wn rfl) rfl rfl rfl fun b100 => ?_
 refine Tr.asg rfl rfl ?_
 refine Tr.nil (Tr.normThen ?_)
 refine Tr.sr ?_
 refine Tr.asg rfl rfl ?_
 refine Tr.nil (Tr.normThen ?_)
 refine Tr.seq ?_
 refine Tr.draw (by kernel_rfl) (by kernel_rfl) ?_
 refine Tq.mv rfl rfl ?_
 refine Tq.va rfl (fun _ _ h1 h2 => run_fieldAddr fo_84_4 (h1.ev rfl)) ?_
 refine Tq.va rfl (fun _ _ h1 h2 => run_load1 ag_3 (h1.ev rfl) (rdb h2 (vs := [(.int .i64 p0.Kind), (.string p0.Name), (.int .i64 p0.At.X), (.int .i64 p0.At.Y), (.slice Ap0_0 (p0.Points).length cp0_0), (.int .i64 p0.NX), (.int .i64 p0.NY), (.slice Ap0_1 (p0.Steps).length cp0_1)]) (k := 1) rfl 5) rfl) ?_
 obtain ⟨y101, hy101, H⟩ := bnd H
 refine Tq.callF (r := (.int .i64 y101)) (wn rfl) rfl rfl Tryd.call86 (evl_cons rfl evl_nil) (fun W hW => F_plot_times_1_ok p0.NX y101 hy101 (HF.start _)) ?_
 refine Tq.mv rfl rfl ?_
 refine Tq.va rfl (fun _ _ h1 h2 => run_fieldAddr fo_84_5 (h1.ev rfl)) ?_
 refine Tq.va rfl (fun _ _ h1 h2 => run_load1 ag_3 (h1.ev rfl) (rdb h2 (vs := [(.int .i64 p0.Kind), (.string p0.Name), (.int .i64 p0.At.X), (.int .i64 p0.At.Y), (.slice Ap0_0 (p0.Points).length cp0_0), (.int .i64 p0.NX), (.int .i64 p0.NY), (.slice Ap0_1 (p0.Steps).length cp0_1)]) (k := 1) rfl 6) rfl) ?_
 obtain ⟨y102, hy102, H⟩ := bnd H
 refine Tq.callF (r := (.int .i64 y102)) (wn rfl) rfl rfl Tryd.call86 (evl_cons rfl evl_nil) (fun W hW => F_plot_times_1_ok p0.NY y102 hy102 (HF.start _)) ?_
 refine Tq.va rfl (fun _ _ h1 h2 => run_mul (h1.ev rfl) (h1.ev rfl)) ?_
 refine Tq.asg rfl rfl ?_
 refine Tq.nil (Tr.normThen ?_)
 refine Tr.ret ?_
 obtain rfl := Option.some.inj H
 exact Tr.out (m := [(.int .i64 (w64 (y101 * y102)))]) [] (res_tmp rfl res_nil) (fun W hW => ⟨rfl, hW.low leB⟩)

theorem F_plot_count_b_ok (N : Nat) (rec : (List TPlotStep) → Option Int) (hrec : ∀ {w : Bs} (p0 : (List TPlotStep)) (Ap0_0 : Option Addr) (cp0_0 : Nat) (hp0_0 : Sl w.R w.W fl_TPlotStep Ap0_0 cp0_0 p0) (r : Int) (H : rec p0 = some r) (hE : HF w w.W E0), Calls Tryd.prog 28 [(.slice Ap0_0 (p0).length cp0_0)].toArray w.W fun e W' => e = .returned (.int .i64 r) ∧ HF w W' E0) {w : Bs} (p0 : (List TPlotStep)) (Ap0_0 : Option Addr) (cp0_0 : Nat) (hp0_0 : Sl w.R w.W fl_TPlotStep Ap0_0 cp0_0 p0) (r : Int) (H : F_plot_count_b N rec p0 = some r) (hE : HF w w.W E0) : Calls Tryd.prog 28 [(.slice Ap0_0 (p0).length cp0_0)].toArray w.W fun e W' => e = .returned (.int .i64 r) ∧ HF w W' E0 := by
 unfold F_plot_count_b at H
 have leB := Bs.Le.refl w
 refine Tr.enter (n := 30) Tryd.func28 rfl rfl rfl hE ?_
 refine Tr.sr ?_
 refine Tr.asg rfl rfl ?_
 refine Tr.nil (Tr.normThen ?_)
 refine Tr.sr ?_
 refine Tr.asg rfl rfl ?_
 refine Tr.nil (Tr.normThen ?_)
 refine Tr.seq ?_
 refine Tr.sr ?_
 refine Tr.mv rfl rfl ?_
 refine Tr.va rfl (fun _ _ h1 h2 => run_len un_23 (h1.ev rfl)) ?_
 refine Tr.mv rfl rfl ?_
 refine Tr.nil (Tr.normThen ?_)
 refine Tr.block ?_
 refine Tr.loop (σ := (List TPlotStep) × Nat × Int) (fun m w s => m = s.1.length + 1 ∧ s.1 = List.drop s.2.1 p0 ∧ s.2.1 ≤ p0.length ∧ F_plot_count_L3 rec s.1 s.2.1 s.2.2 = some r) (fun s => [(3, (.int .i64 s.2.2)), (6, (.slice Ap0_0 (p0).length cp0_0)), (7, (.int .i64 (p0.length : Int))), (8, (.int .i64 (s.2.1 : Int)))]) (fun s => []) (p0.length + 1) (p0, 0, 0) ⟨rfl, rfl, Nat.zero_le _, H⟩ (.cons rfl (.cons rfl (.cons rfl (.cons rfl .nil)))) .nil (fun _ _ h => absurd h.1 (by simp)) ?_
 intro w leF_plot_count_L3 m s hs
 obtain ⟨restF_plot_count_L3, iF_plot_count_L3, x126⟩ := s
 obtain ⟨hmF_plot_count_L3, hdF_plot_count_L3, hiF_plot_count_L3, H⟩ := hs
 replace hdF_plot_count_L3 : restF_plot_count_L3 = List.drop iF_plot_count_L3 p0 := hdF_plot_count_L3
 replace H : F_plot_count_L3 rec restF_plot_count_L3 iF_plot_count_L3 x126 = some r := H
 replace hmF_plot_count_L3 : m + 1 = restF_plot_count_L3.length + 1 := hmF_plot_count_L3
 replace hp0_0 := hp0_0.leR leF_plot_count_L3
 replace leB := leB.trans leF_plot_count_L3
 obtain rfl : m = restF_plot_count_L3.length := by omega
 clear hmF_plot_count_L3
 show Tr _ _ (LF [(3, (.int .i64 x126)), (6, (.slice Ap0_0 (p0).length cp0_0)), (7, (.int .i64 (p0.length : Int))), (8, (.int .i64 (iF_plot_count_L3 : Int)))]) (LE []) _
 cases restF_plot_count_L3 with
 | nil =>
  rw [F_plot_count_L3.eq_1] at H
  refine Tr.sr ?_
  refine Tr.va rfl (fun _ _ h1 h2 => run_lss (h1.ev rfl) (h1.ev rfl)) ?_
  refine Tr.nil (Tr.normThen ?_)
  refine Tr.seq ?_
  refine Tr.condF rfl (range_nil hdF_plot_count_L3) ?_
  refine Tr.exit (Tr.exitThen (Tr.exitThen (Tr.exitBlock (Tr.normThen ?_))))
  refine Tr.sr ?_
  refine Tr.mv rfl rfl ?_
  refine Tr.asg rfl rfl ?_
  refine Tr.nil (Tr.normThen ?_)
  refine Tr.ret ?_
  obtain rfl := Option.some.inj H
  exact Tr.out (m := [(.int .i64 x126)]) [] (res_tmp rfl res_nil) (fun W hW => ⟨rfl, hW.low leB⟩)
 | cons xF_plot_count_L3 restF_plot_count_L3 =>
  rw [F_plot_count_L3.eq_2] at H
  refine Tr.sr ?_
  refine Tr.va rfl (fun _ _ h1 h2 => run_lss (h1.ev rfl) (h1.ev rfl)) ?_
  refine Tr.nil (Tr.normThen ?_)
  refine Tr.seq ?_
  refine Tr.condT rfl (range_on hdF_plot_count_L3) ?_
  refine Tr.skip (Tr.normThen ?_)
  refine Tr.seq ?_
  refine Tr.block ?_
  refine Tr.sr ?_
  obtain ⟨u127, hRu127, hoku127, hcu127⟩ := (hp0_0).el (range_at hdF_plot_count_L3)
  obtain ⟨⟨Au127_0, cu127_0⟩, ⟨Au127_1, cu127_1⟩⟩ := u127
  obtain ⟨hoku127_0, hoku127_1⟩ := TPlotStep_ok.1 hoku127
  replace hoku127_0 : Sl w.R w.W fl_TPoint Au127_0 cu127_0 xF_plot_count_L3.Points := hoku127_0
  replace hoku127_1 : Sl w.R w.W fl_TPlotStep Au127_1 cu127_1 xF_plot_count_L3.Steps := hoku127_1
  refine Tr.va rfl (fun _ _ h1 h2 => run_indexAddr el_23 (h1.ev rfl) hp0_0.form (h1.ev rfl) (Int.natCast_nonneg _) (range_lt hdF_plot_count_L3)) ?_
  refine Tr.va rfl (fun _ _ h1 h2 => run_loadN (cs := [(.int .i64 xF_plot_count_L3.Kind), (.string xF_plot_count_L3.Name), (.int .i64 xF_plot_count_L3.At.X), (.int .i64 xF_plot_count_L3.At.Y), (.slice Au127_0 (xF_plot_count_L3.Points).length cu127_0), (.int .i64 xF_plot_count_L3.NX), (.int .i64 xF_plot_count_L3.NY), (.slice Au127_1 (xF_plot_count_L3.Steps).length cu127_1)]) ag_84 sz_84 (h1.ev rfl) (CellsAt.take (rdR hRu127 hcu127 h2) 8) rfl) ?_
  refine Tr.alloc 3 (wn rfl) rfl ze_84 fun b128 => ?_
  refine Tr.store 3 (cs := [(.int .i64 xF_plot_count_L3.Kind), (.string xF_plot_count_L3.Name), (.int .i64 xF_plot_count_L3.At.X), (.int .i64 xF_plot_count_L3.At.Y), (.slice Au127_0 (xF_plot_count_L3.Points).length cu127_0), (.int .i64 xF_plot_count_L3.NX), (.int .i64 xF_plot_count_L3.NY), (.slice Au127_1 (xF_plot_count_L3.Steps).length cu127_1)]) [(.int .i64 xF_plot_count_L3.Kind), (.string xF_plot_count_L3.Name), (.int .i64 xF_plot_count_L3.At.X), (.int .i64 xF_plot_count_L3.At.Y), (.slice Au127_0 (xF_plot_count_L3.Points).length cu127_0), (.int .i64 xF_plot_count_L3.NX), (.int .i64 xF_plot_count_L3.NY), (.slice Au127_1 (xF_plot_count_L3.Steps).length cu127_1)] (wn rfl) rfl rfl rfl rfl sz_84 rfl rfl rfl ?_
  refine Tr.nil (Tr.normThen ?_)
  refine Tr.sr ?_
  refine Tr.mv rfl rfl ?_
  refine Tr.va rfl (fun _ _ h1 h2 => run_add (h1.ev rfl) (h1.ev rfl)) ?_
  refine Tr.asg rfl rfl ?_
  refine Tr.nil (Tr.normThen ?_)
  have leJ132 := Bs.Le.refl w
  refine Tr.cutJ (σ := Int) (fun w s => F_plot_count_J4 (F_plot_count_L3 rec restF_plot_count_L3 (iF_plot_count_L3 + 1)) s = some r) (fun s => [(3, (.int .i64 s)), (6, (.slice Ap0_0 (p0).length cp0_0)), (7, (.int .i64 (p0.length : Int))), (8, (.int .i64 (iF_plot_count_L3 : Int)))]) (fun s => []) ?_ ?_
  ·refine Tr.sr ?_
   refine Tr.va rfl (fun _ _ h1 h2 => run_fieldAddr fo_84_6 (h1.ev rfl)) ?_
   refine Tr.va rfl (fun _ _ h1 h2 => run_load1 ag_23 (h1.ev rfl) (rdb h2 (vs := [(.int .i64 xF_plot_count_L3.Kind), (.string xF_plot_count_L3.Name), (.int .i64 xF_plot_count_L3.At.X), (.int .i64 xF_plot_count_L3.At.Y), (.slice Au127_0 (xF_plot_count_L3.Points).length cu127_0), (.int .i64 xF_plot_count_L3.NX), (.int .i64 xF_plot_count_L3.NY), (.slice Au127_1 (xF_plot_count_L3.Steps).length cu127_1)]) (k := 3) rfl 7) rfl) ?_
   refine Tr.va rfl (fun _ _ h1 h2 => run_len un_23 (h1.ev rfl)) ?_
   refine Tr.va rfl (fun _ _ h1 h2 => run_gtr (h1.ev rfl) (h1.ev rfl)) ?_
   refine Tr.nil (Tr.normThen ?_)
   refine Tr.cond rfl H (fun H => ?_) (fun H => ?_)
   ·refine Tr.draw (by kernel_rfl) (by kernel_rfl) ?_
    refine Tq.mv rfl rfl ?_
    refine Tq.va rfl (fun _ _ h1 h2 => run_loadN (cs := [(.int .i64 xF_plot_count_L3.Kind), (.string xF_plot_count_L3.Name), (.int .i64 xF_plot_count_L3.At.X), (.int .i64 xF_plot_count_L3.At.Y), (.slice Au127_0 (xF_plot_count_L3.Points).length cu127_0), (.int .i64 xF_plot_count_L3.NX), (.int .i64 xF_plot_count_L3.NY), (.slice Au127_1 (xF_plot_count_L3.Steps).length cu127_1)]) ag_84 sz_84 (h1.ev rfl) (CellsAt.take (rdb h2 (vs := [(.int .i64 xF_plot_count_L3.Kind), (.string xF_plot_count_L3.Name), (.int .i64 xF_plot_count_L3.At.X), (.int .i64 xF_plot_count_L3.At.Y), (.slice Au127_0 (xF_plot_count_L3.Points).length cu127_0), (.int .i64 xF_plot_count_L3.NX), (.int .i64 xF_plot_count_L3.NY), (.slice Au127_1 (xF_plot_count_L3.Steps).length cu127_1)]) (k := 3) rfl 0) 8) rfl) ?_
    obtain ⟨y134, hy134, H⟩ := bnd H
    refine Tq.call0 (r := (.int .i64 y134)) (wn rfl) rfl Tryd.call64 (evl_cons rfl evl_nil) (fun W hW => F_plot_times_ok xF_plot_count_L3 Au127_0 cu127_0 (hoku127_0.ext hW.extAll) Au127_1 cu127_1 (hoku127_1.ext hW.extAll) y134 hy134 (HF.start _)) ?_
    refine Tq.va rfl (fun _ _ h1 h2 => run_fieldAddr fo_84_6 (h1.ev rfl)) ?_
    refine Tq.va rfl (fun _ _ h1 h2 => run_load1 ag_23 (h1.ev rfl) (rdb h2 (vs := [(.int .i64 xF_plot_count_L3.Kind), (.string xF_plot_count_L3.Name), (.int .i64 xF_plot_count_L3.At.X), (.int .i64 xF_plot_count_L3.At.Y), (.slice Au127_0 (xF_plot_count_L3.Points).length cu127_0), (.int .i64 xF_plot_count_L3.NX), (.int .i64 xF_plot_count_L3.NY), (.slice Au127_1 (xF_plot_count_L3.Steps).length cu127_1)]) (k := 3) rfl 7) rfl) ?_
    obtain ⟨y135, hy135, H⟩ := bnd H
    refine Tq.call0 (r := (.int .i64 y135)) (wn rfl) rfl Tryd.call28 (evl_cons rfl evl_nil) (fun W hW => hrec xF_plot_count_L3.Steps Au127_1 cu127_1 (hoku127_1.ext hW.extAll) y135 hy135 (HF.start _)) ?_
    refine Tq.va rfl (fun _ _ h1 h2 => run_mul (h1.ev rfl) (h1.ev rfl)) ?_
    refine Tq.va rfl (fun _ _ h1 h2 => run_add (h1.ev rfl) (h1.ev rfl)) ?_
    refine Tq.asg rfl rfl ?_
    refine Tq.nil ?_
    exact Tr.backThen leJ132 (w64 ((w64 (x126 + 1)) + (w64 (y134 * y135)))) H (.cons rfl (.cons rfl (.cons rfl (.cons rfl .nil)))) .nil
   ·refine Tr.skip ?_
    exact Tr.backThen leJ132 (w64 (x126 + 1)) H (.cons rfl (.cons rfl (.cons rfl (.cons rfl .nil)))) .nil
  ·intro w x131 hlJ133 hs
   have H := hs
   replace H : F_plot_count_J4 (F_plot_count_L3 rec restF_plot_count_L3 (iF_plot_count_L3 + 1)) x131 = some r := H
   replace hp0_0 := hp0_0.leR hlJ133
   replace leB := leB.trans hlJ133
   replace leF_plot_count_L3 := leF_plot_count_L3.trans hlJ133
   unfold F_plot_count_J4 at H
   show Tr _ _ (LF [(3, (.int .i64 x131)), (6, (.slice Ap0_0 (p0).length cp0_0)), (7, (.int .i64 (p0.length : Int))), (8, (.int .i64 (iF_plot_count_L3 : Int)))]) (LE []) _
   refine Tr.sr ?_
   refine Tr.mv rfl rfl ?_
   refine Tr.va rfl (fun _ _ h1 h2 => run_gtr (h1.ev rfl) (h1.ev rfl)) ?_
   refine Tr.nil (Tr.normThen ?_)
   refine Tr.cond rfl H (fun H => ?_) (fun H => ?_)
   ·refine Tr.sr ?_
    refine Tr.asg rfl rfl ?_
    refine Tr.nil (Tr.normThen ?_)
    refine Tr.ret (Tr.retBlock (Tr.retThen (Tr.retThen (Tr.retBlock (Tr.retThen ?_)))))
    obtain rfl := Option.some.inj H
    exact Tr.out (m := [(.int .i64 3001)]) [] (res_tmp rfl res_nil) (fun W hW => ⟨rfl, hW.low leB⟩)
   ·refine Tr.skip (Tr.normBlock (Tr.normThen ?_))
    refine Tr.region ?_
    refine Tr.va rfl (fun _ _ h1 h2 => run_add (h1.ev rfl) (h1.ev rfl)) ?_
    refine Tr.mv rfl rfl ?_
    refine Tr.nil ?_
    exact Tr.backThen leF_plot_count_L3 (restF_plot_count_L3, (iF_plot_count_L3 + 1), x131) ⟨rfl, range_tl hdF_plot_count_L3, range_lt hdF_plot_count_L3, H⟩ (.cons rfl (.cons rfl (.cons rfl (.cons (congrArg (fun z => some (Value.int .i64 z)) (range_up hdF_plot_count_L3 hp0_0.form)) .nil)))) .nil
theorem F_plot_count_ok : ∀ (N : Nat) {w : Bs} (p0 : (List TPlotStep)) (Ap0_0 : Option Addr) (cp0_0 : Nat) (hp0_0 : Sl w.R w.W fl_TPlotStep Ap0_0 cp0_0 p0) (r : Int) (H : F_plot_count N p0 = some r) (hE : HF w w.W E0), Calls Tryd.prog 28 [(.slice Ap0_0 (p0).length cp0_0)].toArray w.W fun e W' => e = .returned (.int .i64 r) ∧ HF w W' E0
 | 0 => by intros; rename_i H _; cases H
 | N + 1 => F_plot_count_b_ok N (F_plot_count N) (F_plot_count_ok N)

theorem F_plot_fieldsOf_ok {w : Bs} (p0 : Int) (r : TFields) (H : F_plot_fieldsOf p0 = some r) (hE : HF w w.W E0) : Calls Tryd.prog 43 [(.int .i64 p0)].toArray w.W fun e W' => e = .returned (.agg #[(.bool r.name), (.bool r.at_), (.bool r.points), (.bool r.repeat_)]) ∧ HF w W' E0 := by
 unfold F_plot_fieldsOf at H
 have leB := Bs.Le.refl w
 refine Tr.enter (n := 19) Tryd.func43 rfl rfl rfl hE ?_
 refine Tr.sr ?_
 refine Tr.alloc 1 (wn rfl) rfl ze_80 fun b100 => ?_
 refine Tr.nil (Tr.normThen ?_)
 refine Tr.seq ?_
 refine Tr.sr ?_
 refine Tr.mv rfl rfl ?_
 refine Tr.nil (Tr.normThen ?_)
 refine Tr.block ?_
 refine Tr.sr ?_
 refine Tr.va rfl (fun _ _ h1 h2 => run_eql (h1.ev rfl) (h1.ev rfl)) ?_
 refine Tr.asg rfl rfl ?_
 refine Tr.nil (Tr.normThen ?_)
 refine Tr.cond rfl H (fun H => ?_) (fun H => ?_)
 ·refine Tr.sr ?_
  refine Tr.build (vs := [(0, (.bool true))]) (cs := [(.bool true), (.bool false), (.bool false), (.bool false)]) (wn rfl) rfl (evs_cons rfl evs_nil) (by kernel_rfl) ?_
  refine Tr.store 1 (cs := [(.bool true), (.bool false), (.bool false), (.bool false)]) [(.bool true), (.bool false), (.bool false), (.bool false)] (wn rfl) rfl rfl rfl rfl sz_80 rfl rfl rfl ?_
  refine Tr.nil (Tr.normThen ?_)
  refine Tr.ret (Tr.retBlock (Tr.retThen ?_))
  obtain rfl := Option.some.inj H
  exact Tr.out (m := [(.agg #[(.bool true), (.bool false), (.bool false), (.bool false)])]) [1] (res_cell rfl rfl ag_80 sz_80 res_nil) (fun W hW => ⟨rfl, hW.low leB⟩)
 ·have leJ102 := Bs.Le.refl w
  refine Tr.cutJ (σ := Bool) (fun w s => F_plot_fieldsOf_J1 p0 s = some r) (fun s => [(2, (.pointer (some ⟨b100, 0, none⟩))), (3, (.int .i64 p0)), (7, (.bool s))]) (fun s => [(1, bx b100 #[(.bool false), (.bool false), (.bool false), (.bool false)] 80)]) ?_ ?_
  ·refine Tr.sr ?_
   refine Tr.va rfl (fun _ _ h1 h2 => run_eql (h1.ev rfl) (h1.ev rfl)) ?_
   refine Tr.asg rfl rfl ?_
   refine Tr.nil (Tr.normThen ?_)
   refine Tr.cond rfl H (fun H => ?_) (fun H => ?_)
   ·refine Tr.skip ?_
    exact Tr.backThen leJ102 (p0 == 4) H (.cons rfl (.cons rfl (.cons rfl .nil))) (.cons rfl .nil)
   ·refine Tr.sr ?_
    refine Tr.va rfl (fun _ _ h1 h2 => run_eql (h1.ev rfl) (h1.ev rfl)) ?_
    refine Tr.asg rfl rfl ?_
    refine Tr.nil (Tr.normThen ?_)
    refine Tr.cond rfl H (fun H => ?_) (fun H => ?_)
    ·refine Tr.skip ?_
     exact Tr.backThen leJ102 (p0 == 5) H (.cons rfl (.cons rfl (.cons rfl .nil))) (.cons rfl .nil)
    ·refine Tr.region ?_
     refine Tr.va rfl (fun _ _ h1 h2 => run_eql (h1.ev rfl) (h1.ev rfl)) ?_
     refine Tr.asg rfl rfl ?_
     refine Tr.nil ?_
     exact Tr.backThen leJ102 (p0 == 6) H (.cons rfl (.cons rfl (.cons rfl .nil))) (.cons rfl .nil)
  ·intro w x101 hlJ103 hs
   have H := hs
   replace H : F_plot_fieldsOf_J1 p0 x101 = some r := H
   replace leB := leB.trans hlJ103
   unfold F_plot_fieldsOf_J1 at H
   show Tr _ _ (LF [(2, (.pointer (some ⟨b100, 0, none⟩))), (3, (.int .i64 p0)), (7, (.bool x101))]) (LE [(1, bx b100 #[(.bool false), (.bool false), (.bool false), (.bool false)] 80)]) _
   refine Tr.cond rfl H (fun H => ?_) (fun H => ?_)
   ·refine Tr.sr ?_
    refine Tr.build (vs := [(1, (.bool true))]) (cs := [(.bool false), (.bool true), (.bool false), (.bool false)]) (wn rfl) rfl (evs_cons rfl evs_nil) (by kernel_rfl) ?_
    refine Tr.store 1 (cs := [(.bool false), (.bool true), (.bool false), (.bool false)]) [(.bool false), (.bool true), (.bool false), (.bool false)] (wn rfl) rfl rfl rfl rfl sz_80 rfl rfl rfl ?_
    refine Tr.nil (Tr.normThen ?_)
    refine Tr.ret (Tr.retBlock (Tr.retThen ?_))
    obtain rfl := Option.some.inj H
    exact Tr.out (m := [(.agg #[(.bool false), (.bool true), (.bool false), (.bool false)])]) [1] (res_cell rfl rfl ag_80 sz_80 res_nil) (fun W hW => ⟨rfl, hW.low leB⟩)
   ·refine Tr.sr ?_
    refine Tr.va rfl (fun _ _ h1 h2 => run_eql (h1.ev rfl) (h1.ev rfl)) ?_
    refine Tr.asg rfl rfl ?_
    refine Tr.nil (Tr.normThen ?_)
    refine Tr.cond rfl H (fun H => ?_) (fun H => ?_)
    ·refine Tr.sr ?_
     refine Tr.build (vs := [(2, (.bool true))]) (cs := [(.bool false), (.bool false), (.bool true), (.bool false)]) (wn rfl) rfl (evs_cons rfl evs_nil) (by kernel_rfl) ?_
     refine Tr.store 1 (cs := [(.bool false), (.bool false), (.bool true), (.bool false)]) [(.bool false), (.bool false), (.bool true), (.bool false)] (wn rfl) rfl rfl rfl rfl sz_80 rfl rfl rfl ?_
     refine Tr.nil (Tr.normThen ?_)
     refine Tr.ret (Tr.retBlock (Tr.retThen ?_))
     obtain rfl := Option.some.inj H
     exact Tr.out (m := [(.agg #[(.bool false), (.bool false), (.bool true), (.bool false)])]) [1] (res_cell rfl rfl ag_80 sz_80 res_nil) (fun W hW => ⟨rfl, hW.low leB⟩)
    ·refine Tr.sr ?_
     refine Tr.va rfl (fun _ _ h1 h2 => run_eql (h1.ev rfl) (h1.ev rfl)) ?_
     refine Tr.asg rfl rfl ?_
     refine Tr.nil (Tr.normThen ?_)
     refine Tr.cond rfl H (fun H => ?_) (fun H => ?_)
     ·refine Tr.sr ?_
      refine Tr.build (vs := [(1, (.bool true)), (3, (.bool true))]) (cs := [(.bool false), (.bool true), (.bool false), (.bool true)]) (wn rfl) rfl (evs_cons rfl (evs_cons rfl evs_nil)) (by kernel_rfl) ?_
      refine Tr.store 1 (cs := [(.bool false), (.bool true), (.bool false), (.bool true)]) [(.bool false), (.bool true), (.bool false), (.bool true)] (wn rfl) rfl rfl rfl rfl sz_80 rfl rfl rfl ?_
      refine Tr.nil (Tr.normThen ?_)
      refine Tr.ret (Tr.retBlock (Tr.retThen ?_))
      obtain rfl := Option.some.inj H
      exact Tr.out (m := [(.agg #[(.bool false), (.bool true), (.bool false), (.bool true)])]) [1] (res_cell rfl rfl ag_80 sz_80 res_nil) (fun W hW => ⟨rfl, hW.low leB⟩)
     ·refine Tr.skip (Tr.normBlock (Tr.normThen ?_))
      refine Tr.sr ?_
      refine Tr.build (vs := []) (cs := [(.bool false), (.bool false), (.bool false), (.bool false)]) (wn rfl) rfl evs_nil (by kernel_rfl) ?_
      refine Tr.store 1 (cs := [(.bool false), (.bool false), (.bool false), (.bool false)]) [(.bool false), (.bool false), (.bool false), (.bool false)] (wn rfl) rfl rfl rfl rfl sz_80 rfl rfl rfl ?_
      refine Tr.nil (Tr.normThen ?_)
      refine Tr.ret ?_
      obtain rfl := Option.some.inj H
      exact Tr.out (m := [(.agg #[(.bool false), (.bool false), (.bool false), (.bool false)])]) [1] (res_cell rfl rfl ag_80 sz_80 res_nil) (fun W hW => ⟨rfl, hW.low leB⟩)

theorem F_plot_toolAt_1_ok {w : Bs} (p0 : TPlotTool) (Ap0_0 : Option Addr) (cp0_0 : Nat) (hp0_0 : Sl w.R w.W fl_TRect Ap0_0 cp0_0 p0.Rects) (q0 : ByteArray) (bq0 : Nat) (hb0 : w.R bq0) (hc0 : CellsAt w.W bq0 0 [(.string q0)]) (r : Bool) (H : F_plot_toolAt_1 p0 q0 = some r) (hE : HF w w.W E0) : Calls Tryd.prog 105 [(.agg #[(.string p0.Name), (.slice Ap0_0 (p0.Rects).length cp0_0)]), (.pointer (some ⟨bq0, 0, none⟩))].toArray w.W fun e W' => e = .returned (.bool r) ∧ HF w W' E0 := by
 unfold F_plot_toolAt_1 at H
 have leB := Bs.Le.refl w
 refine Tr.enter (n := 8) Tryd.func105 rfl rfl rfl hE ?_
 refine Tr.sr ?_
 refine Tr.box 1 (cs := [(.string p0.Name), (.slice Ap0_0 (p0.Rects).length cp0_0)]) (wn rfl) rfl rfl rfl fun b100 => ?_
 refine Tr.asg rfl rfl ?_
 refine Tr.nil (Tr.normThen ?_)
 refine Tr.sr ?_
 refine Tr.va rfl (fun _ _ h1 h2 => run_fieldAddr fo_55_0 (h1.ev rfl)) ?_
 refine Tr.va rfl (fun _ _ h1 h2 => run_load1 ag_9 (h1.ev rfl) (rdb h2 (vs := [(.string p0.Name), (.slice Ap0_0 (p0.Rects).length cp0_0)]) (k := 1) rfl 0) rfl) ?_
 refine Tr.va rfl (fun _ _ h1 h2 => run_load1 ag_9 (h1.ev rfl) (rdR hb0 hc0 h2) rfl) ?_
 refine Tr.va rfl (fun _ _ h1 h2 => run_eqlS (h1.ev rfl) (h1.ev rfl)) ?_
 refine Tr.asg rfl rfl ?_
 refine Tr.nil (Tr.normThen ?_)
 refine Tr.ret ?_
 obtain rfl := Option.some.inj H
 exact Tr.out (m := [(.bool (sEq p0.Name q0))]) [] (res_tmp rfl res_nil) (fun W hW => ⟨rfl, hW.low leB⟩)

theorem F_slices_IndexFunc_PlotTool__toolAt_1_ok {w : Bs} (p0 : (List TPlotTool)) (Ap0_0 : Option Addr) (cp0_0 : Nat) (hp0_0 : Sl w.R w.W fl_TPlotTool Ap0_0 cp0_0 p0) (q0 : ByteArray) (bq0 : Nat) (hb0 : w.R bq0) (hc0 : CellsAt w.W bq0 0 [(.string q0)]) (r : Int) (H : F_slices_IndexFunc_PlotTool__toolAt_1 p0 q0 = some r) (hE : HF w w.W E0) : Calls Tryd.prog 104 [(.slice Ap0_0 (p0).length cp0_0), (.func (.func 105) #[] #[(.pointer (some ⟨bq0, 0, none⟩))])].toArray w.W fun e W' => e = .returned (.int .i64 r) ∧ HF w W' E0 := by
 unfold F_slices_IndexFunc_PlotTool__toolAt_1 at H
 have leB := Bs.Le.refl w
 refine Tr.enter (n := 19) Tryd.func104 rfl rfl rfl hE ?_
 refine Tr.sr ?_
 refine Tr.asg rfl rfl ?_
 refine Tr.nil (Tr.normThen ?_)
 refine Tr.seq ?_
 refine Tr.sr ?_
 refine Tr.mv rfl rfl ?_
 refine Tr.va rfl (fun _ _ h1 h2 => run_len un_22 (h1.ev rfl)) ?_
 refine Tr.mv rfl rfl ?_
 refine Tr.nil (Tr.normThen ?_)
 refine Tr.block ?_
 refine Tr.loop (σ := (List TPlotTool) × Nat) (fun m w s => m = s.1.length + 1 ∧ s.1 = List.drop s.2 p0 ∧ s.2 ≤ p0.length ∧ F_slices_IndexFunc_PlotTool__toolAt_1_L1 q0 s.1 s.2 = some r) (fun s => [(0, (.slice Ap0_0 (p0).length cp0_0)), (1, (.func (.func 105) #[] #[(.pointer (some ⟨bq0, 0, none⟩))])), (7, (.int .i64 (p0.length : Int))), (8, (.int .i64 (s.2 : Int)))]) (fun s => []) (p0.length + 1) (p0, 0) ⟨rfl, rfl, Nat.zero_le _, H⟩ (.cons rfl (.cons rfl (.cons rfl (.cons rfl .nil)))) .nil (fun _ _ h => absurd h.1 (by simp)) ?_
 intro w leF_slices_IndexFunc_PlotTool__toolAt_1_L1 m s hs
 obtain ⟨restF_slices_IndexFunc_PlotTool__toolAt_1_L1, iF_slices_IndexFunc_PlotTool__toolAt_1_L1⟩ := s
 obtain ⟨hmF_slices_IndexFunc_PlotTool__toolAt_1_L1, hdF_slices_IndexFunc_PlotTool__toolAt_1_L1, hiF_slices_IndexFunc_PlotTool__toolAt_1_L1, H⟩ := hs
 replace hdF_slices_IndexFunc_PlotTool__toolAt_1_L1 : restF_slices_IndexFunc_PlotTool__toolAt_1_L1 = List.drop iF_slices_IndexFunc_PlotTool__toolAt_1_L1 p0 := hdF_slices_IndexFunc_PlotTool__toolAt_1_L1
 replace H : F_slices_IndexFunc_PlotTool__toolAt_1_L1 q0 restF_slices_IndexFunc_PlotTool__toolAt_1_L1 iF_slices_IndexFunc_PlotTool__toolAt_1_L1 = some r := H
 replace hmF_slices_IndexFunc_PlotTool__toolAt_1_L1 : m + 1 = restF_slices_IndexFunc_PlotTool__toolAt_1_L1.length + 1 := hmF_slices_IndexFunc_PlotTool__toolAt_1_L1
 replace hp0_0 := hp0_0.leR leF_slices_IndexFunc_PlotTool__toolAt_1_L1
 replace hc0 := leF_slices_IndexFunc_PlotTool__toolAt_1_L1.ext.cells hb0 hc0
 replace hb0 := leF_slices_IndexFunc_PlotTool__toolAt_1_L1.r _ hb0
 replace leB := leB.trans leF_slices_IndexFunc_PlotTool__toolAt_1_L1
 obtain rfl : m = restF_slices_IndexFunc_PlotTool__toolAt_1_L1.length := by omega
 clear hmF_slices_IndexFunc_PlotTool__toolAt_1_L1
 show Tr _ _ (LF [(0, (.slice Ap0_0 (p0).length cp0_0)), (1, (.func (.func 105) #[] #[(.pointer (some ⟨bq0, 0, none⟩))])), (7, (.int .i64 (p0.length : Int))), (8, (.int .i64 (iF_slices_IndexFunc_PlotTool__toolAt_1_L1 : Int)))]) (LE []) _
 cases restF_slices_IndexFunc_PlotTool__toolAt_1_L1 with
 | nil =>
  rw [F_slices_IndexFunc_PlotTool__toolAt_1_L1.eq_1] at H
  refine Tr.sr ?_
  refine Tr.va rfl (fun _ _ h1 h2 => run_lss (h1.ev rfl) (h1.ev rfl)) ?_
  refine Tr.nil (Tr.normThen ?_)
  refine Tr.seq ?_
  refine Tr.condF rfl (range_nil hdF_slices_IndexFunc_PlotTool__toolAt_1_L1) ?_
  refine Tr.exit (Tr.exitThen (Tr.exitThen (Tr.exitBlock (Tr.normThen ?_))))
  refine Tr.sr ?_
  refine Tr.asg rfl rfl ?_
  refine Tr.nil (Tr.normThen ?_)
  refine Tr.ret ?_
  obtain rfl := Option.some.inj H
  exact Tr.out (m := [(.int .i64 (-1))]) [] (res_tmp rfl res_nil) (fun W hW => ⟨rfl, hW.low leB⟩)
 | cons xF_slices_IndexFunc_PlotTool__toolAt_1_L1 restF_slices_IndexFunc_PlotTool__toolAt_1_L1 =>
  rw [F_slices_IndexFunc_PlotTool__toolAt_1_L1.eq_2] at H
  refine Tr.sr ?_
  refine Tr.va rfl (fun _ _ h1 h2 => run_lss (h1.ev rfl) (h1.ev rfl)) ?_
  refine Tr.nil (Tr.normThen ?_)
  refine Tr.seq ?_
  refine Tr.condT rfl (range_on hdF_slices_IndexFunc_PlotTool__toolAt_1_L1) ?_
  refine Tr.skip (Tr.normThen ?_)
  refine Tr.seq ?_
  refine Tr.block ?_
  refine Tr.sr ?_
  refine Tr.mv rfl rfl ?_
  refine Tr.asg rfl rfl ?_
  refine Tr.nil (Tr.normThen ?_)
  refine Tr.sr ?_
  refine Tr.mv rfl rfl ?_
  refine Tr.mv rfl rfl ?_
  refine Tr.mv rfl rfl ?_
  obtain ⟨u104, hRu104, hoku104, hcu104⟩ := (hp0_0).el (range_at hdF_slices_IndexFunc_PlotTool__toolAt_1_L1)
  obtain ⟨Au104_0, cu104_0⟩ := u104
  have hoku104_0 := hoku104
  replace hoku104_0 : Sl w.R w.W fl_TRect Au104_0 cu104_0 xF_slices_IndexFunc_PlotTool__toolAt_1_L1.Rects := hoku104_0
  refine Tr.va rfl (fun _ _ h1 h2 => run_indexAddr el_22 (h1.ev rfl) hp0_0.form (h1.ev rfl) (Int.natCast_nonneg _) (range_lt hdF_slices_IndexFunc_PlotTool__toolAt_1_L1)) ?_
  refine Tr.va rfl (fun _ _ h1 h2 => run_loadN (cs := [(.string xF_slices_IndexFunc_PlotTool__toolAt_1_L1.Name), (.slice Au104_0 (xF_slices_IndexFunc_PlotTool__toolAt_1_L1.Rects).length cu104_0)]) ag_55 sz_55 (h1.ev rfl) (CellsAt.take (rdR hRu104 hcu104 h2) 2) rfl) ?_
  obtain ⟨y105, hy105, H⟩ := bnd H
  refine Tr.callF (r := (.bool y105)) (wn rfl) rfl rfl Tryd.call105 (evl_cons rfl evl_nil) (fun W hW => F_plot_toolAt_1_ok xF_slices_IndexFunc_PlotTool__toolAt_1_L1 Au104_0 cu104_0 (hoku104_0.ext hW.extAll) q0 bq0 (hW.extAll.r _ hb0) (hW.extAll.cells hb0 hc0) y105 hy105 (HF.start _)) ?_
  refine Tr.nil (Tr.normThen ?_)
  refine Tr.cond rfl H (fun H => ?_) (fun H => ?_)
  ·refine Tr.sr ?_
   refine Tr.mv rfl rfl ?_
   refine Tr.asg rfl rfl ?_
   refine Tr.nil (Tr.normThen ?_)
   refine Tr.ret (Tr.retBlock (Tr.retThen (Tr.retThen (Tr.retBlock (Tr.retThen ?_)))))
   obtain rfl := Option.some.inj H
   exact Tr.out (m := [(.int .i64 (iF_slices_IndexFunc_PlotTool__toolAt_1_L1 : Int))]) [] (res_tmp rfl res_nil) (fun W hW => ⟨rfl, hW.low leB⟩)
  ·refine Tr.skip (Tr.normBlock (Tr.normThen ?_))
   refine Tr.region ?_
   refine Tr.va rfl (fun _ _ h1 h2 => run_add (h1.ev rfl) (h1.ev rfl)) ?_
   refine Tr.mv rfl rfl ?_
   refine Tr.nil ?_
   exact Tr.backThen leF_slices_IndexFunc_PlotTool__toolAt_1_L1 (restF_slices_IndexFunc_PlotTool__toolAt_1_L1, (iF_slices_IndexFunc_PlotTool__toolAt_1_L1 + 1)) ⟨rfl, range_tl hdF_slices_IndexFunc_PlotTool__toolAt_1_L1, range_lt hdF_slices_IndexFunc_PlotTool__toolAt_1_L1, H⟩ (.cons rfl (.cons rfl (.cons rfl (.cons (congrArg (fun z => some (Value.int .i64 z)) (range_up hdF_slices_IndexFunc_PlotTool__toolAt_1_L1 hp0_0.form)) .nil)))) .nil

theorem F_plot_toolAt_ok {w : Bs} (p0 : TPlot) (Ap0_0 : Option Addr) (cp0_0 : Nat) (hp0_0 : Sl w.R w.W fl_TPlotTool Ap0_0 cp0_0 p0.Tools) (Ap0_1 : Option Addr) (cp0_1 : Nat) (hp0_1 : Sl w.R w.W fl_TPlotStep Ap0_1 cp0_1 p0.Steps) (p1 : ByteArray) (r : Int) (H : F_plot_toolAt p0 p1 = some r) (hE : HF w w.W E0) : Calls Tryd.prog 87 [(.agg #[(.int .i64 p0.Unit), (.slice Ap0_0 (p0.Tools).length cp0_0), (.slice Ap0_1 (p0.Steps).length cp0_1)]), (.string p1)].toArray w.W fun e W' => e = .returned (.int .i64 r) ∧ HF w W' E0 := by
 unfold F_plot_toolAt at H
 have leB := Bs.Le.refl w
 refine Tr.enter (n := 9) Tryd.func87 rfl rfl rfl hE ?_
 refine Tr.sr ?_
 refine Tr.box 1 (cs := [(.int .i64 p0.Unit), (.slice Ap0_0 (p0.Tools).length cp0_0), (.slice Ap0_1 (p0.Steps).length cp0_1)]) (wn rfl) rfl rfl rfl fun b100 => ?_
 refine Tr.box 2 (cs := [(.string p1)]) (wn rfl) rfl rfl rfl fun b101 => ?_
 refine Tr.asg rfl rfl ?_
 refine Tr.nil (Tr.normThen ?_)
 refine Tr.sr ?_
 refine Tr.va rfl (fun _ _ h1 h2 => run_fieldAddr fo_25_1 (h1.ev rfl)) ?_
 refine Tr.va rfl (fun _ _ h1 h2 => run_load1 ag_22 (h1.ev rfl) (rdb h2 (vs := [(.int .i64 p0.Unit), (.slice Ap0_0 (p0.Tools).length cp0_0), (.slice Ap0_1 (p0.Steps).length cp0_1)]) (k := 1) rfl 1) rfl) ?_
 refine Tr.mkFunc (vs := [(.pointer (some ⟨b101, 0, none⟩))]) (wn rfl) rfl (evl_cons rfl evl_nil) ?_
 obtain ⟨y102, hy102, H⟩ := bnd H
 refine Tr.call0 (r := (.int .i64 y102)) (wn rfl) rfl Tryd.call104 (evl_cons rfl (evl_cons rfl evl_nil)) (fun W hW => F_slices_IndexFunc_PlotTool__toolAt_1_ok p0.Tools Ap0_0 cp0_0 (hp0_0.ext hW.extAll) p1 b101 (hW.capR (k := 2) rfl) (hW.capC (k := 2) rfl) y102 hy102 (HF.start _)) ?_
 refine Tr.asg rfl rfl ?_
 refine Tr.nil (Tr.normThen ?_)
 refine Tr.ret ?_
 obtain rfl := Option.some.inj H
 exact Tr.out (m := [(.int .i64 y102)]) [] (res_tmp rfl res_nil) (fun W hW => ⟨rfl, hW.low leB⟩)

theorem F_plot_isPoint_ok {w : Bs} (p0 : TPoint) (p1 : Int) (r : Bool) (H : F_plot_isPoint p0 p1 = some r) (hE : HF w w.W E0) : Calls Tryd.prog 88 [(.agg #[(.int .i64 p0.X), (.int .i64 p0.Y)]), (.int .i64 p1)].toArray w.W fun e W' => e = .returned (.bool r) ∧ HF w W' E0 := by
 unfold F_plot_isPoint at H
 have leB := Bs.Le.refl w
 refine Tr.enter (n := 15) Tryd.func88 rfl rfl rfl hE ?_
 refine Tr.sr ?_
 refine Tr.box 1 (cs := [(.int .i64 p0.X), (.int .i64 p0.Y)]) (wn rfl) rfl rfl rfl fun b100 => ?_
 refine Tr.asg rfl rfl ?_
 refine Tr.nil (Tr.normThen ?_)
 refine Tr.sr ?_
 refine Tr.va rfl (fun _ _ h1 h2 => run_fieldAddr fo_37_0 (h1.ev rfl)) ?_
 refine Tr.va rfl (fun _ _ h1 h2 => run_load1 ag_3 (h1.ev rfl) (rdb h2 (vs := [(.int .i64 p0.X), (.int .i64 p0.Y)]) (k := 1) rfl 0) rfl) ?_
 refine Tr.mv rfl rfl ?_
 obtain ⟨y101, hy101, H⟩ := bnd H
 refine Tr.call0 (r := (.bool y101)) (wn rfl) rfl Tryd.call63 (evl_cons rfl (evl_cons rfl evl_nil)) (fun W hW => F_plot_isAt_ok p0.X p1 y101 hy101 (HF.start _)) ?_
 refine Tr.mv rfl rfl ?_
 obtain ⟨g103, hg103, H⟩ := bnd H
 refine Tr.mid0 5 [(14, (.bool g103))] [(1, bx b100 #[(.int .i64 p0.X), (.int .i64 p0.Y)] 37)] ?_ ?_
 ·cases hg104 : y101
  ·rw [hg104] at hg103
   rw [if_neg (by decide)] at hg103
   have H := hg103
   obtain rfl := Option.some.inj H
   refine Tr.pass rfl rfl rfl rfl rfl (by decide) ?_
   refine Tr.pass rfl rfl rfl rfl rfl (by decide) ?_
   refine Tr.pass rfl rfl rfl rfl rfl (by decide) ?_
   refine Tr.pass rfl rfl rfl rfl rfl (by decide) ?_
   refine Tr.va rfl (fun _ _ h1 h2 => run_pickF (h1.ev rfl) (h1.ev rfl)) ?_
   exact Tr.nil (Tr.fin0 (.cons rfl .nil) (.cons rfl .nil))
  ·rw [hg104] at hg103
   rw [if_pos rfl] at hg103
   have H := hg103
   refine Tr.val (wg rfl rfl rfl) rfl (fun _ _ h1 h2 => run_fieldAddr fo_37_1 (h1.ev rfl)) ?_
   refine Tr.val (wg rfl rfl rfl) rfl (fun _ _ h1 h2 => run_load1 ag_3 (h1.ev rfl) (rdb h2 (vs := [(.int .i64 p0.X), (.int .i64 p0.Y)]) (k := 1) rfl 1) rfl) ?_
   refine Tr.val (wg rfl rfl rfl) rfl (fun _ _ h1 h2 => run_move (h1.ev rfl)) ?_
   obtain ⟨y104, hy104, H⟩ := bnd H
   refine Tr.call0 (r := (.bool y104)) (wg rfl rfl rfl) rfl Tryd.call63 (evl_cons rfl (evl_cons rfl evl_nil)) (fun W hW => F_plot_isAt_ok p0.Y p1 y104 hy104 (HF.start _)) ?_
   refine Tr.va rfl (fun _ _ h1 h2 => run_pickT (h1.ev rfl) (h1.ev rfl)) ?_
   obtain rfl := Option.some.inj H
   exact Tr.nil (Tr.fin0 (.cons rfl .nil) (.cons rfl .nil))
 ·show Tr _ _ (LF [(14, (.bool g103))]) (LE [(1, bx b100 #[(.int .i64 p0.X), (.int .i64 p0.Y)] 37)]) _
  refine Tr.asg rfl rfl ?_
  refine Tr.nil (Tr.normThen ?_)
  refine Tr.ret ?_
  obtain rfl := Option.some.inj H
  exact Tr.out (m := [(.bool g103)]) [] (res_tmp rfl res_nil) (fun W hW => ⟨rfl, hW.low leB⟩)

theorem F_plot_checkStep_1_ok {w : Bs} (p0 : TPoint) (q0 : TPlot) (Aq0_0 : Option Addr) (cq0_0 : Nat) (hq0_0 : Sl w.R w.W fl_TPlotTool Aq0_0 cq0_0 q0.Tools) (Aq0_1 : Option Addr) (cq0_1 : Nat) (hq0_1 : Sl w.R w.W fl_TPlotStep Aq0_1 cq0_1 q0.Steps) (bq0 : Nat) (hb0 : w.R bq0) (hc0 : CellsAt w.W bq0 0 [(.int .i64 q0.Unit), (.slice Aq0_0 (q0.Tools).length cq0_0), (.slice Aq0_1 (q0.Steps).length cq0_1)]) (r : Bool) (H : F_plot_checkStep_1 p0 q0 = some r) (hE : HF w w.W E0) : Calls Tryd.prog 90 [(.agg #[(.int .i64 p0.X), (.int .i64 p0.Y)]), (.pointer (some ⟨bq0, 0, none⟩))].toArray w.W fun e W' => e = .returned (.bool r) ∧ HF w W' E0 := by
 unfold F_plot_checkStep_1 at H
 have leB := Bs.Le.refl w
 refine Tr.enter (n := 9) Tryd.func90 rfl rfl rfl hE ?_
 refine Tr.sr ?_
 refine Tr.box 1 (cs := [(.int .i64 p0.X), (.int .i64 p0.Y)]) (wn rfl) rfl rfl rfl fun b100 => ?_
 refine Tr.asg rfl rfl ?_
 refine Tr.nil (Tr.normThen ?_)
 refine Tr.sr ?_
 refine Tr.va rfl (fun _ _ h1 h2 => run_loadN (cs := [(.int .i64 p0.X), (.int .i64 p0.Y)]) ag_37 sz_37 (h1.ev rfl) (CellsAt.take (rdb h2 (vs := [(.int .i64 p0.X), (.int .i64 p0.Y)]) (k := 1) rfl 0) 2) rfl) ?_
 refine Tr.va rfl (fun _ _ h1 h2 => run_fieldAddr fo_25_0 (h1.ev rfl)) ?_
 refine Tr.va rfl (fun _ _ h1 h2 => run_load1 ag_3 (h1.ev rfl) (CellsAt.drop (rdR hb0 hc0 h2) 0) rfl) ?_
 obtain ⟨y101, hy101, H⟩ := bnd H
 refine Tr.call0 (r := (.bool y101)) (wn rfl) rfl Tryd.call88 (evl_cons rfl (evl_cons rfl evl_nil)) (fun W hW => F_plot_isPoint_ok p0 q0.Unit y101 hy101 (HF.start _)) ?_
 refine Tr.va rfl (fun _ _ h1 h2 => run_not (h1.ev rfl)) ?_
 refine Tr.asg rfl rfl ?_
 refine Tr.nil (Tr.normThen ?_)
 refine Tr.ret ?_
 obtain rfl := Option.some.inj H
 exact Tr.out (m := [(.bool (!y101))]) [] (res_tmp rfl res_nil) (fun W hW => ⟨rfl, hW.low leB⟩)

theorem F_slices_IndexFunc_Point_ok {w : Bs} (p0 : (List TPoint)) (Ap0_0 : Option Addr) (cp0_0 : Nat) (hp0_0 : Sl w.R w.W fl_TPoint Ap0_0 cp0_0 p0) (p1 : TPoint → Option Bool) (fid1 : Nat) (cap1 : List Value) (hg1 : ∀ args W, (callFunc fid1 args).run Tryd.prog W = .ok (.enter fid1 args) W) (hf1 : ∀ (w' : Bs), w.Ext w' → ∀ (z0 : TPoint), ∀ y, p1 z0 = some y → Calls Tryd.prog fid1 (([(.agg #[(.int .i64 z0.X), (.int .i64 z0.Y)])] : List Value) ++ cap1).toArray w'.W fun e W'' => e = .returned (.bool y) ∧ HF w' W'' E0) (r : Int) (H : F_slices_IndexFunc_Point p0 p1 = some r) (hE : HF w w.W E0) : Calls Tryd.prog 106 [(.slice Ap0_0 (p0).length cp0_0), (.func (.func fid1) #[] cap1.toArray)].toArray w.W fun e W' => e = .returned (.int .i64 r) ∧ HF w W' E0 := by
 unfold F_slices_IndexFunc_Point at H
 have leB := Bs.Le.refl w
 refine Tr.enter (n := 19) Tryd.func106 rfl rfl rfl hE ?_
 refine Tr.sr ?_
 refine Tr.asg rfl rfl ?_
 refine Tr.nil (Tr.normThen ?_)
 refine Tr.seq ?_
 refine Tr.sr ?_
 refine Tr.mv rfl rfl ?_
 refine Tr.va rfl (fun _ _ h1 h2 => run_len un_82 (h1.ev rfl)) ?_
 refine Tr.mv rfl rfl ?_
 refine Tr.nil (Tr.normThen ?_)
 refine Tr.block ?_
 refine Tr.loop (σ := (List TPoint) × Nat) (fun m w s => m = s.1.length + 1 ∧ s.1 = List.drop s.2 p0 ∧ s.2 ≤ p0.length ∧ F_slices_IndexFunc_Point_L1 p1 s.1 s.2 = some r) (fun s => [(0, (.slice Ap0_0 (p0).length cp0_0)), (1, (.func (.func fid1) #[] cap1.toArray)), (7, (.int .i64 (p0.length : Int))), (8, (.int .i64 (s.2 : Int)))]) (fun s => []) (p0.length + 1) (p0, 0) ⟨rfl, rfl, Nat.zero_le _, H⟩ (.cons rfl (.cons rfl (.cons rfl (.cons rfl .nil)))) .nil (fun _ _ h => absurd h.1 (by simp)) ?_
 intro w leF_slices_IndexFunc_Point_L1 m s hs
 obtain ⟨restF_slices_IndexFunc_Point_L1, iF_slices_IndexFunc_Point_L1⟩ := s
 obtain ⟨hmF_slices_IndexFunc_Point_L1, hdF_slices_IndexFunc_Point_L1, hiF_slices_IndexFunc_Point_L1, H⟩ := hs
 replace hdF_slices_IndexFunc_Point_L1 : restF_slices_IndexFunc_Point_L1 = List.drop iF_slices_IndexFunc_Point_L1 p0 := hdF_slices_IndexFunc_Point_L1
 replace H : F_slices_IndexFunc_Point_L1 p1 restF_slices_IndexFunc_Point_L1 iF_slices_IndexFunc_Point_L1 = some r := H
 replace hmF_slices_IndexFunc_Point_L1 : m + 1 = restF_slices_IndexFunc_Point_L1.length + 1 := hmF_slices_IndexFunc_Point_L1
 replace hp0_0 := hp0_0.leR leF_slices_IndexFunc_Point_L1
 replace hf1 := fun w' he => hf1 w' (leF_slices_IndexFunc_Point_L1.ext.trans he)
 replace leB := leB.trans leF_slices_IndexFunc_Point_L1
 obtain rfl : m = restF_slices_IndexFunc_Point_L1.length := by omega
 clear hmF_slices_IndexFunc_Point_L1
 show Tr _ _ (LF [(0, (.slice Ap0_0 (p0).length cp0_0)), (1, (.func (.func fid1) #[] cap1.toArray)), (7, (.int .i64 (p0.length : Int))), (8, (.int .i64 (iF_slices_IndexFunc_Point_L1 : Int)))]) (LE []) _
 cases restF_slices_IndexFunc_Point_L1 with
 | nil =>
  rw [F_slices_IndexFunc_Point_L1.eq_1] at H
  refine Tr.sr ?_
  refine Tr.va rfl (fun _ _ h1 h2 => run_lss (h1.ev rfl) (h1.ev rfl)) ?_
  refine Tr.nil (Tr.normThen ?_)
  refine Tr.seq ?_
  refine Tr.condF rfl (range_nil hdF_slices_IndexFunc_Point_L1) ?_
  refine Tr.exit (Tr.exitThen (Tr.exitThen (Tr.exitBlock (Tr.normThen ?_))))
  refine Tr.sr ?_
  refine Tr.asg rfl rfl ?_
  refine Tr.nil (Tr.normThen ?_)
  refine Tr.ret ?_
  obtain rfl := Option.some.inj H
  exact Tr.out (m := [(.int .i64 (-1))]) [] (res_tmp rfl res_nil) (fun W hW => ⟨rfl, hW.low leB⟩)
 | cons xF_slices_IndexFunc_Point_L1 restF_slices_IndexFunc_Point_L1 =>
  rw [F_slices_IndexFunc_Point_L1.eq_2] at H
  refine Tr.sr ?_
  refine Tr.va rfl (fun _ _ h1 h2 => run_lss (h1.ev rfl) (h1.ev rfl)) ?_
  refine Tr.nil (Tr.normThen ?_)
  refine Tr.seq ?_
  refine Tr.condT rfl (range_on hdF_slices_IndexFunc_Point_L1) ?_
  refine Tr.skip (Tr.normThen ?_)
  refine Tr.seq ?_
  refine Tr.block ?_
  refine Tr.sr ?_
  refine Tr.mv rfl rfl ?_
  refine Tr.asg rfl rfl ?_
  refine Tr.nil (Tr.normThen ?_)
  refine Tr.sr ?_
  refine Tr.mv rfl rfl ?_
  refine Tr.mv rfl rfl ?_
  refine Tr.mv rfl rfl ?_
  refine Tr.va rfl (fun _ _ h1 h2 => run_indexAddr el_82 (h1.ev rfl) hp0_0.form (h1.ev rfl) (Int.natCast_nonneg _) (range_lt hdF_slices_IndexFunc_Point_L1)) ?_
  refine Tr.va rfl (fun _ _ h1 h2 => run_loadN (cs := [(.int .i64 xF_slices_IndexFunc_Point_L1.X), (.int .i64 xF_slices_IndexFunc_Point_L1.Y)]) ag_37 sz_37 (h1.ev rfl) (CellsAt.take (rdF ef_TPoint hp0_0 (range_at hdF_slices_IndexFunc_Point_L1) h2) 2) rfl) ?_
  obtain ⟨y103, hy103, H⟩ := bnd H
  refine Tr.callF (r := (.bool y103)) (wn rfl) rfl rfl hg1 (evl_cons rfl evl_nil) (fun W hW => hf1 hW.all hW.extAll xF_slices_IndexFunc_Point_L1 _ hy103) ?_
  refine Tr.nil (Tr.normThen ?_)
  refine Tr.cond rfl H (fun H => ?_) (fun H => ?_)
  ·refine Tr.sr ?_
   refine Tr.mv rfl rfl ?_
   refine Tr.asg rfl rfl ?_
   refine Tr.nil (Tr.normThen ?_)
   refine Tr.ret (Tr.retBlock (Tr.retThen (Tr.retThen (Tr.retBlock (Tr.retThen ?_)))))
   obtain rfl := Option.some.inj H
   exact Tr.out (m := [(.int .i64 (iF_slices_IndexFunc_Point_L1 : Int))]) [] (res_tmp rfl res_nil) (fun W hW => ⟨rfl, hW.low leB⟩)
  ·refine Tr.skip (Tr.normBlock (Tr.normThen ?_))
   refine Tr.region ?_
   refine Tr.va rfl (fun _ _ h1 h2 => run_add (h1.ev rfl) (h1.ev rfl)) ?_
   refine Tr.mv rfl rfl ?_
   refine Tr.nil ?_
   exact Tr.backThen leF_slices_IndexFunc_Point_L1 (restF_slices_IndexFunc_Point_L1, (iF_slices_IndexFunc_Point_L1 + 1)) ⟨rfl, range_tl hdF_slices_IndexFunc_Point_L1, range_lt hdF_slices_IndexFunc_Point_L1, H⟩ (.cons rfl (.cons rfl (.cons rfl (.cons (congrArg (fun z => some (Value.int .i64 z)) (range_up hdF_slices_IndexFunc_Point_L1 hp0_0.form)) .nil)))) .nil

theorem F_slices_ContainsFunc_Point_ok {w : Bs} (p0 : (List TPoint)) (Ap0_0 : Option Addr) (cp0_0 : Nat) (hp0_0 : Sl w.R w.W fl_TPoint Ap0_0 cp0_0 p0) (p1 : TPoint → Option Bool) (fid1 : Nat) (cap1 : List Value) (hg1 : ∀ args W, (callFunc fid1 args).run Tryd.prog W = .ok (.enter fid1 args) W) (hf1 : ∀ (w' : Bs), w.Ext w' → ∀ (z0 : TPoint), ∀ y, p1 z0 = some y → Calls Tryd.prog fid1 (([(.agg #[(.int .i64 z0.X), (.int .i64 z0.Y)])] : List Value) ++ cap1).toArray w'.W fun e W'' => e = .returned (.bool y) ∧ HF w' W'' E0) (r : Bool) (H : F_slices_ContainsFunc_Point p0 p1 = some r) (hE : HF w w.W E0) : Calls Tryd.prog 89 [(.slice Ap0_0 (p0).length cp0_0), (.func (.func fid1) #[] cap1.toArray)].toArray w.W fun e W' => e = .returned (.bool r) ∧ HF w W' E0 := by
 unfold F_slices_ContainsFunc_Point at H
 have leB := Bs.Le.refl w
 refine Tr.enter (n := 9) Tryd.func89 rfl rfl rfl hE ?_
 refine Tr.sr ?_
 refine Tr.asg rfl rfl ?_
 refine Tr.nil (Tr.normThen ?_)
 refine Tr.sr ?_
 refine Tr.mv rfl rfl ?_
 refine Tr.mv rfl rfl ?_
 obtain ⟨y100, hy100, H⟩ := bnd H
 refine Tr.call0 (r := (.int .i64 y100)) (wn rfl) rfl Tryd.call106 (evl_cons rfl (evl_cons rfl evl_nil)) (fun W hW => F_slices_IndexFunc_Point_ok p0 Ap0_0 cp0_0 (hp0_0.ext hW.extAll) p1 fid1 cap1 hg1 (fun w' he => hf1 w' (hW.extAll.trans he)) y100 hy100 (HF.start _)) ?_
 refine Tr.va rfl (fun _ _ h1 h2 => run_geq (h1.ev rfl) (h1.ev rfl)) ?_
 refine Tr.asg rfl rfl ?_
 refine Tr.nil (Tr.normThen ?_)
 refine Tr.ret ?_
 obtain rfl := Option.some.inj H
 exact Tr.out (m := [(.bool (decide (0 ≤ y100)))]) [] (res_tmp rfl res_nil) (fun W hW => ⟨rfl, hW.low leB⟩)

theorem F_shape_IsRow_ok {w : Bs} (p0 : (List TPoint)) (Ap0_0 : Option Addr) (cp0_0 : Nat) (hp0_0 : Sl w.R w.W fl_TPoint Ap0_0 cp0_0 p0) (r : Bool) (H : F_shape_IsRow p0 = some r) (hE : HF w w.W E0) : Calls Tryd.prog 91 [(.slice Ap0_0 (p0).length cp0_0)].toArray w.W fun e W' => e = .returned (.bool r) ∧ HF w W' E0 := by
 unfold F_shape_IsRow at H
 have leB := Bs.Le.refl w
 refine Tr.enter (n := 36) Tryd.func91 rfl rfl rfl hE ?_
 refine Tr.sr ?_
 refine Tr.asg rfl rfl ?_
 refine Tr.nil (Tr.normThen ?_)
 refine Tr.seq ?_
 refine Tr.sr ?_
 refine Tr.mv rfl rfl ?_
 refine Tr.va rfl (fun _ _ h1 h2 => run_len un_82 (h1.ev rfl)) ?_
 refine Tr.va rfl (fun _ _ h1 h2 => run_lss (h1.ev rfl) (h1.ev rfl)) ?_
 refine Tr.nil (Tr.normThen ?_)
 refine Tr.cond rfl H (fun H => ?_) (fun H => ?_)
 ·refine Tr.sr ?_
  refine Tr.asg rfl rfl ?_
  refine Tr.nil (Tr.normThen ?_)
  refine Tr.ret (Tr.retThen ?_)
  obtain rfl := Option.some.inj H
  exact Tr.out (m := [(.bool false)]) [] (res_tmp rfl res_nil) (fun W hW => ⟨rfl, hW.low leB⟩)
 ·refine Tr.skip (Tr.normThen ?_)
  refine Tr.seq ?_
  refine Tr.sr ?_
  refine Tr.mv rfl rfl ?_
  refine Tr.va rfl (fun _ _ h1 h2 => run_len un_82 (h1.ev rfl)) ?_
  refine Tr.mv rfl rfl ?_
  refine Tr.nil (Tr.normThen ?_)
  refine Tr.block ?_
  refine Tr.loop (σ := (List TPoint) × Nat) (fun m w s => m = s.1.length + 1 ∧ s.1 = List.drop s.2 p0 ∧ s.2 ≤ p0.length ∧ F_shape_IsRow_L1 p0 s.1 s.2 = some r) (fun s => [(0, (.slice Ap0_0 (p0).length cp0_0)), (9, (.slice Ap0_0 (p0).length cp0_0)), (10, (.int .i64 (p0.length : Int))), (11, (.int .i64 (s.2 : Int)))]) (fun s => []) (p0.length + 1) (p0, 0) ⟨rfl, rfl, Nat.zero_le _, H⟩ (.cons rfl (.cons rfl (.cons rfl (.cons rfl .nil)))) .nil (fun _ _ h => absurd h.1 (by simp)) ?_
  intro w leF_shape_IsRow_L1 m s hs
  obtain ⟨restF_shape_IsRow_L1, iF_shape_IsRow_L1⟩ := s
  obtain ⟨hmF_shape_IsRow_L1, hdF_shape_IsRow_L1, hiF_shape_IsRow_L1, H⟩ := hs
  replace hdF_shape_IsRow_L1 : restF_shape_IsRow_L1 = List.drop iF_shape_IsRow_L1 p0 := hdF_shape_IsRow_L1
  replace H : F_shape_IsRow_L1 p0 restF_shape_IsRow_L1 iF_shape_IsRow_L1 = some r := H
  replace hmF_shape_IsRow_L1 : m + 1 = restF_shape_IsRow_L1.length + 1 := hmF_shape_IsRow_L1
  replace hp0_0 := hp0_0.leR leF_shape_IsRow_L1
  replace leB := leB.trans leF_shape_IsRow_L1
  obtain rfl : m = restF_shape_IsRow_L1.length := by omega
  clear hmF_shape_IsRow_L1
  show Tr _ _ (LF [(0, (.slice Ap0_0 (p0).length cp0_0)), (9, (.slice Ap0_0 (p0).length cp0_0)), (10, (.int .i64 (p0.length : Int))), (11, (.int .i64 (iF_shape_IsRow_L1 : Int)))]) (LE []) _
  cases restF_shape_IsRow_L1 with
  | nil =>
   rw [F_shape_IsRow_L1.eq_1] at H
   refine Tr.sr ?_
   refine Tr.va rfl (fun _ _ h1 h2 => run_lss (h1.ev rfl) (h1.ev rfl)) ?_
   refine Tr.nil (Tr.normThen ?_)
   refine Tr.seq ?_
   refine Tr.condF rfl (range_nil hdF_shape_IsRow_L1) ?_
   refine Tr.exit (Tr.exitThen (Tr.exitThen (Tr.exitBlock (Tr.normThen ?_))))
   refine Tr.sr ?_
   refine Tr.asg rfl rfl ?_
   refine Tr.nil (Tr.normThen ?_)
   refine Tr.ret ?_
   obtain rfl := Option.some.inj H
   exact Tr.out (m := [(.bool true)]) [] (res_tmp rfl res_nil) (fun W hW => ⟨rfl, hW.low leB⟩)
  | cons xF_shape_IsRow_L1 restF_shape_IsRow_L1 =>
   rw [F_shape_IsRow_L1.eq_2] at H
   refine Tr.sr ?_
   refine Tr.va rfl (fun _ _ h1 h2 => run_lss (h1.ev rfl) (h1.ev rfl)) ?_
   refine Tr.nil (Tr.normThen ?_)
   refine Tr.seq ?_
   refine Tr.condT rfl (range_on hdF_shape_IsRow_L1) ?_
   refine Tr.skip (Tr.normThen ?_)
   refine Tr.seq ?_
   refine Tr.block ?_
   refine Tr.sr ?_
   refine Tr.mv rfl rfl ?_
   refine Tr.va rfl (fun _ _ h1 h2 => run_indexAddr el_82 (h1.ev rfl) hp0_0.form (h1.ev rfl) (Int.natCast_nonneg _) (range_lt hdF_shape_IsRow_L1)) ?_
   refine Tr.va rfl (fun _ _ h1 h2 => run_loadN (cs := [(.int .i64 xF_shape_IsRow_L1.X), (.int .i64 xF_shape_IsRow_L1.Y)]) ag_37 sz_37 (h1.ev rfl) (CellsAt.take (rdF ef_TPoint hp0_0 (range_at hdF_shape_IsRow_L1) h2) 2) rfl) ?_
   refine Tr.alloc 3 (wn rfl) rfl ze_37 fun b106 => ?_
   refine Tr.asg rfl rfl ?_
   refine Tr.store 3 (cs := [(.int .i64 xF_shape_IsRow_L1.X), (.int .i64 xF_shape_IsRow_L1.Y)]) [(.int .i64 xF_shape_IsRow_L1.X), (.int .i64 xF_shape_IsRow_L1.Y)] (wn rfl) rfl rfl rfl rfl sz_37 rfl rfl rfl ?_
   refine Tr.nil (Tr.normThen ?_)
   refine Tr.sr ?_
   refine Tr.mv rfl rfl ?_
   refine Tr.mv rfl rfl ?_
   refine Tr.va rfl (fun _ _ h1 h2 => run_add (h1.ev rfl) (h1.ev rfl)) ?_
   refine Tr.mv rfl rfl ?_
   refine Tr.va rfl (fun _ _ h1 h2 => run_len un_82 (h1.ev rfl)) ?_
   obtain ⟨q107, hq107, H⟩ := bnd H
   refine Tr.va rfl (fun _ _ h1 h2 => run_md (h1.ev rfl) (h1.ev rfl) hq107) ?_
   obtain ⟨x108, hx108, H⟩ := bnd H
   obtain ⟨hx1080, hx1081, hx1082⟩ := idx_some hx108
   refine Tr.va rfl (fun _ _ h1 h2 => run_indexAddr el_82 (h1.ev rfl) hp0_0.form (h1.ev rfl) hx1080 hx1081) ?_
   refine Tr.va rfl (fun _ _ h1 h2 => run_loadN (cs := [(.int .i64 x108.X), (.int .i64 x108.Y)]) ag_37 sz_37 (h1.ev rfl) (CellsAt.take (rdF ef_TPoint hp0_0 hx1082 h2) 2) rfl) ?_
   refine Tr.alloc 4 (wn rfl) rfl ze_37 fun b109 => ?_
   refine Tr.store 4 (cs := [(.int .i64 x108.X), (.int .i64 x108.Y)]) [(.int .i64 x108.X), (.int .i64 x108.Y)] (wn rfl) rfl rfl rfl rfl sz_37 rfl rfl rfl ?_
   refine Tr.nil (Tr.normThen ?_)
   refine Tr.sr ?_
   refine Tr.va rfl (fun _ _ h1 h2 => run_fieldAddr fo_37_0 (h1.ev rfl)) ?_
   refine Tr.va rfl (fun _ _ h1 h2 => run_load1 ag_3 (h1.ev rfl) (rdb h2 (vs := [(.int .i64 xF_shape_IsRow_L1.X), (.int .i64 xF_shape_IsRow_L1.Y)]) (k := 3) rfl 0) rfl) ?_
   refine Tr.va rfl (fun _ _ h1 h2 => run_fieldAddr fo_37_0 (h1.ev rfl)) ?_
   refine Tr.va rfl (fun _ _ h1 h2 => run_load1 ag_3 (h1.ev rfl) (rdb h2 (vs := [(.int .i64 x108.X), (.int .i64 x108.Y)]) (k := 4) rfl 0) rfl) ?_
   refine Tr.va rfl (fun _ _ h1 h2 => run_eql (h1.ev rfl) (h1.ev rfl)) ?_
   refine Tr.va rfl (fun _ _ h1 h2 => run_fieldAddr fo_37_1 (h1.ev rfl)) ?_
   refine Tr.va rfl (fun _ _ h1 h2 => run_load1 ag_3 (h1.ev rfl) (rdb h2 (vs := [(.int .i64 xF_shape_IsRow_L1.X), (.int .i64 xF_shape_IsRow_L1.Y)]) (k := 3) rfl 1) rfl) ?_
   refine Tr.va rfl (fun _ _ h1 h2 => run_fieldAddr fo_37_1 (h1.ev rfl)) ?_
   refine Tr.va rfl (fun _ _ h1 h2 => run_load1 ag_3 (h1.ev rfl) (rdb h2 (vs := [(.int .i64 x108.X), (.int .i64 x108.Y)]) (k := 4) rfl 1) rfl) ?_
   refine Tr.va rfl (fun _ _ h1 h2 => run_eql (h1.ev rfl) (h1.ev rfl)) ?_
   refine Tr.va rfl (fun _ _ h1 h2 => run_eqlB un_4 (h1.ev rfl) (h1.ev rfl)) ?_
   refine Tr.nil (Tr.normThen ?_)
   refine Tr.cond rfl H (fun H => ?_) (fun H => ?_)
   ·refine Tr.sr ?_
    refine Tr.asg rfl rfl ?_
    refine Tr.nil (Tr.normThen ?_)
    refine Tr.ret (Tr.retBlock (Tr.retThen (Tr.retThen (Tr.retBlock (Tr.retThen ?_)))))
    obtain rfl := Option.some.inj H
    exact Tr.out (m := [(.bool false)]) [] (res_tmp rfl res_nil) (fun W hW => ⟨rfl, hW.low leB⟩)
   ·refine Tr.skip (Tr.normBlock (Tr.normThen ?_))
    refine Tr.region ?_
    refine Tr.va rfl (fun _ _ h1 h2 => run_add (h1.ev rfl) (h1.ev rfl)) ?_
    refine Tr.mv rfl rfl ?_
    refine Tr.nil ?_
    exact Tr.backThen leF_shape_IsRow_L1 (restF_shape_IsRow_L1, (iF_shape_IsRow_L1 + 1)) ⟨rfl, range_tl hdF_shape_IsRow_L1, range_lt hdF_shape_IsRow_L1, H⟩ (.cons rfl (.cons rfl (.cons rfl (.cons (congrArg (fun z => some (Value.int .i64 z)) (range_up hdF_shape_IsRow_L1 hp0_0.form)) .nil)))) .nil

theorem F_plot_checkStep_ok {w : Bs} (p0 : TPlot) (Ap0_0 : Option Addr) (cp0_0 : Nat) (hp0_0 : Sl w.R w.W fl_TPlotTool Ap0_0 cp0_0 p0.Tools) (Ap0_1 : Option Addr) (cp0_1 : Nat) (hp0_1 : Sl w.R w.W fl_TPlotStep Ap0_1 cp0_1 p0.Steps) (p1 : TPlotStep) (Ap1_0 : Option Addr) (cp1_0 : Nat) (hp1_0 : Sl w.R w.W fl_TPoint Ap1_0 cp1_0 p1.Points) (Ap1_1 : Option Addr) (cp1_1 : Nat) (hp1_1 : Sl w.R w.W fl_TPlotStep Ap1_1 cp1_1 p1.Steps) (p2 : Int) (r : Int) (H : F_plot_checkStep p0 p1 p2 = some r) (hE : HF w w.W E0) : Calls Tryd.prog 65 [(.agg #[(.int .i64 p0.Unit), (.slice Ap0_0 (p0.Tools).length cp0_0), (.slice Ap0_1 (p0.Steps).length cp0_1)]), (.agg #[(.int .i64 p1.Kind), (.string p1.Name), (.int .i64 p1.At.X), (.int .i64 p1.At.Y), (.slice Ap1_0 (p1.Points).length cp1_0), (.int .i64 p1.NX), (.int .i64 p1.NY), (.slice Ap1_1 (p1.Steps).length cp1_1)]), (.int .i64 p2)].toArray w.W fun e W' => e = .returned (.int .i64 r) ∧ HF w W' E0 := by
 unfold F_plot_checkStep at H
 have leB := Bs.Le.refl w
 refine Tr.enter (n := 120) Tryd.func65 rfl rfl rfl hE ?_
 refine Tr.sr ?_
 refine Tr.box 1 (cs := [(.int .i64 p0.Unit), (.slice Ap0_0 (p0.Tools).length cp0_0), (.slice Ap0_1 (p0.Steps).length cp0_1)]) (wn rfl) rfl rfl rfl fun b100 => ?_
 refine Tr.box 2 (cs := [(.int .i64 p1.Kind), (.string p1.Name), (.int .i64 p1.At.X), (.int .i64 p1.At.Y), (.slice Ap1_0 (p1.Points).length cp1_0), (.int .i64 p1.NX), (.int .i64 p1.NY), (.slice Ap1_1 (p1.Steps).length cp1_1)]) (wn rfl) rfl rfl rfl fun b101 => ?_
 refine Tr.asg rfl rfl ?_
 refine Tr.nil (Tr.normThen ?_)
 refine Tr.seq ?_
 refine Tr.sr ?_
 refine Tr.va rfl (fun _ _ h1 h2 => run_fieldAddr fo_84_0 (h1.ev rfl)) ?_
 refine Tr.va rfl (fun _ _ h1 h2 => run_load1 ag_3 (h1.ev rfl) (rdb h2 (vs := [(.int .i64 p1.Kind), (.string p1.Name), (.int .i64 p1.At.X), (.int .i64 p1.At.Y), (.slice Ap1_0 (p1.Points).length cp1_0), (.int .i64 p1.NX), (.int .i64 p1.NY), (.slice Ap1_1 (p1.Steps).length cp1_1)]) (k := 2) rfl 0) rfl) ?_
 obtain ⟨y102, hy102, H⟩ := bnd H
 refine Tr.call0 (r := (.bool y102)) (wn rfl) rfl Tryd.call26 (evl_cons rfl (evl_cons rfl (evl_cons rfl evl_nil))) (fun W hW => F_plot_within_ok p1.Kind 1 8 y102 hy102 (HF.start _)) ?_
 refine Tr.va rfl (fun _ _ h1 h2 => run_not (h1.ev rfl)) ?_
 refine Tr.nil (Tr.normThen ?_)
 refine Tr.cond rfl H (fun H => ?_) (fun H => ?_)
 ·refine Tr.sr ?_
  refine Tr.asg rfl rfl ?_
  refine Tr.nil (Tr.normThen ?_)
  refine Tr.ret (Tr.retThen ?_)
  obtain rfl := Option.some.inj H
  exact Tr.out (m := [(.int .i64 4)]) [] (res_tmp rfl res_nil) (fun W hW => ⟨rfl, hW.low leB⟩)
 ·refine Tr.skip (Tr.normThen ?_)
  refine Tr.sr ?_
  refine Tr.va rfl (fun _ _ h1 h2 => run_fieldAddr fo_84_0 (h1.ev rfl)) ?_
  refine Tr.va rfl (fun _ _ h1 h2 => run_load1 ag_3 (h1.ev rfl) (rdb h2 (vs := [(.int .i64 p1.Kind), (.string p1.Name), (.int .i64 p1.At.X), (.int .i64 p1.At.Y), (.slice Ap1_0 (p1.Points).length cp1_0), (.int .i64 p1.NX), (.int .i64 p1.NY), (.slice Ap1_1 (p1.Steps).length cp1_1)]) (k := 2) rfl 0) rfl) ?_
  obtain ⟨y103, hy103, H⟩ := bnd H
  refine Tr.call0 (r := (.agg #[(.bool y103.name), (.bool y103.at_), (.bool y103.points), (.bool y103.repeat_)])) (wn rfl) rfl Tryd.call43 (evl_cons rfl evl_nil) (fun W hW => F_plot_fieldsOf_ok p1.Kind y103 hy103 (HF.start _)) ?_
  refine Tr.alloc 3 (wn rfl) rfl ze_80 fun b104 => ?_
  refine Tr.store 3 (cs := [(.bool y103.name), (.bool y103.at_), (.bool y103.points), (.bool y103.repeat_)]) [(.bool y103.name), (.bool y103.at_), (.bool y103.points), (.bool y103.repeat_)] (wn rfl) rfl rfl rfl rfl sz_80 rfl rfl rfl ?_
  refine Tr.nil (Tr.normThen ?_)
  refine Tr.seq ?_
  refine Tr.block ?_
  have leJ106 := Bs.Le.refl w
  refine Tr.cutJ (σ := Bool) (fun w s => F_plot_checkStep_J1 p0 p1 p2 y103 s = some r) (fun s => [(2, (.int .i64 p2)), (3, (.pointer (some ⟨b100, 0, none⟩))), (4, (.pointer (some ⟨b101, 0, none⟩))), (7, (.pointer (some ⟨b104, 0, none⟩))), (15, (.bool s))]) (fun s => [(1, bx b100 #[(.int .i64 p0.Unit), (.slice Ap0_0 (p0.Tools).length cp0_0), (.slice Ap0_1 (p0.Steps).length cp0_1)] 25), (2, bx b101 #[(.int .i64 p1.Kind), (.string p1.Name), (.int .i64 p1.At.X), (.int .i64 p1.At.Y), (.slice Ap1_0 (p1.Points).length cp1_0), (.int .i64 p1.NX), (.int .i64 p1.NY), (.slice Ap1_1 (p1.Steps).length cp1_1)] 84), (3, bx b104 #[(.bool y103.name), (.bool y103.at_), (.bool y103.points), (.bool y103.repeat_)] 80)]) ?_ ?_
  ·refine Tr.sr ?_
   refine Tr.va rfl (fun _ _ h1 h2 => run_fieldAddr fo_80_0 (h1.ev rfl)) ?_
   refine Tr.va rfl (fun _ _ h1 h2 => run_load1 ag_4 (h1.ev rfl) (rdb h2 (vs := [(.bool y103.name), (.bool y103.at_), (.bool y103.points), (.bool y103.repeat_)]) (k := 3) rfl 0) rfl) ?_
   refine Tr.va rfl (fun _ _ h1 h2 => run_not (h1.ev rfl)) ?_
   refine Tr.mv rfl rfl ?_
   refine Tr.mid0 4 [(2, (.int .i64 p2)), (3, (.pointer (some ⟨b100, 0, none⟩))), (4, (.pointer (some ⟨b101, 0, none⟩))), (7, (.pointer (some ⟨b104, 0, none⟩))), (23, (.bool ((!y103.name) && (!sEq p1.Name ByteArray.empty))))] [(1, bx b100 #[(.int .i64 p0.Unit), (.slice Ap0_0 (p0.Tools).length cp0_0), (.slice Ap0_1 (p0.Steps).length cp0_1)] 25), (2, bx b101 #[(.int .i64 p1.Kind), (.string p1.Name), (.int .i64 p1.At.X), (.int .i64 p1.At.Y), (.slice Ap1_0 (p1.Points).length cp1_0), (.int .i64 p1.NX), (.int .i64 p1.NY), (.slice Ap1_1 (p1.Steps).length cp1_1)] 84), (3, bx b104 #[(.bool y103.name), (.bool y103.at_), (.bool y103.points), (.bool y103.repeat_)] 80)] ?_ ?_
   ·cases hg121 : (!y103.name)
    ·refine Tr.pass rfl rfl rfl rfl rfl (by decide) ?_
     refine Tr.pass rfl rfl rfl rfl rfl (by decide) ?_
     refine Tr.pass rfl rfl rfl rfl rfl (by decide) ?_
     refine Tr.va rfl (fun _ _ h1 h2 => run_pickF (h1.ev rfl) (h1.ev rfl)) ?_
     exact Tr.nil (Tr.fin0 (.cons rfl (.cons rfl (.cons rfl (.cons rfl (.cons rfl .nil))))) (.cons rfl (.cons rfl (.cons rfl .nil))))
    ·refine Tr.val (wg rfl rfl rfl) rfl (fun _ _ h1 h2 => run_fieldAddr fo_84_1 (h1.ev rfl)) ?_
     refine Tr.val (wg rfl rfl rfl) rfl (fun _ _ h1 h2 => run_load1 ag_9 (h1.ev rfl) (rdb h2 (vs := [(.int .i64 p1.Kind), (.string p1.Name), (.int .i64 p1.At.X), (.int .i64 p1.At.Y), (.slice Ap1_0 (p1.Points).length cp1_0), (.int .i64 p1.NX), (.int .i64 p1.NY), (.slice Ap1_1 (p1.Steps).length cp1_1)]) (k := 2) rfl 1) rfl) ?_
     refine Tr.val (wg rfl rfl rfl) rfl (fun _ _ h1 h2 => run_neqS (h1.ev rfl) (h1.ev rfl)) ?_
     refine Tr.va rfl (fun _ _ h1 h2 => run_pickT (h1.ev rfl) (h1.ev rfl)) ?_
     exact Tr.nil (Tr.fin0 (.cons rfl (.cons rfl (.cons rfl (.cons rfl (.cons rfl .nil))))) (.cons rfl (.cons rfl (.cons rfl .nil))))
   ·show Tr _ _ (LF [(2, (.int .i64 p2)), (3, (.pointer (some ⟨b100, 0, none⟩))), (4, (.pointer (some ⟨b101, 0, none⟩))), (7, (.pointer (some ⟨b104, 0, none⟩))), (23, (.bool ((!y103.name) && (!sEq p1.Name ByteArray.empty))))]) (LE [(1, bx b100 #[(.int .i64 p0.Unit), (.slice Ap0_0 (p0.Tools).length cp0_0), (.slice Ap0_1 (p0.Steps).length cp0_1)] 25), (2, bx b101 #[(.int .i64 p1.Kind), (.string p1.Name), (.int .i64 p1.At.X), (.int .i64 p1.At.Y), (.slice Ap1_0 (p1.Points).length cp1_0), (.int .i64 p1.NX), (.int .i64 p1.NY), (.slice Ap1_1 (p1.Steps).length cp1_1)] 84), (3, bx b104 #[(.bool y103.name), (.bool y103.at_), (.bool y103.points), (.bool y103.repeat_)] 80)]) _
    refine Tr.asg rfl rfl ?_
    refine Tr.nil (Tr.normThen ?_)
    refine Tr.cond rfl H (fun H => ?_) (fun H => ?_)
    ·refine Tr.skip ?_
     exact Tr.backThen leJ106 ((!y103.name) && (!sEq p1.Name ByteArray.empty)) H (.cons rfl (.cons rfl (.cons rfl (.cons rfl (.cons rfl .nil))))) (.cons rfl (.cons rfl (.cons rfl .nil)))
    ·refine Tr.sr ?_
     refine Tr.va rfl (fun _ _ h1 h2 => run_fieldAddr fo_80_1 (h1.ev rfl)) ?_
     refine Tr.va rfl (fun _ _ h1 h2 => run_load1 ag_4 (h1.ev rfl) (rdb h2 (vs := [(.bool y103.name), (.bool y103.at_), (.bool y103.points), (.bool y103.repeat_)]) (k := 3) rfl 1) rfl) ?_
     refine Tr.va rfl (fun _ _ h1 h2 => run_not (h1.ev rfl)) ?_
     refine Tr.mv rfl rfl ?_
     refine Tr.mid0 5 [(2, (.int .i64 p2)), (3, (.pointer (some ⟨b100, 0, none⟩))), (4, (.pointer (some ⟨b101, 0, none⟩))), (7, (.pointer (some ⟨b104, 0, none⟩))), (32, (.bool ((!y103.at_) && (!(eqTPoint p1.At (TPoint.mk 0 0))))))] [(1, bx b100 #[(.int .i64 p0.Unit), (.slice Ap0_0 (p0.Tools).length cp0_0), (.slice Ap0_1 (p0.Steps).length cp0_1)] 25), (2, bx b101 #[(.int .i64 p1.Kind), (.string p1.Name), (.int .i64 p1.At.X), (.int .i64 p1.At.Y), (.slice Ap1_0 (p1.Points).length cp1_0), (.int .i64 p1.NX), (.int .i64 p1.NY), (.slice Ap1_1 (p1.Steps).length cp1_1)] 84), (3, bx b104 #[(.bool y103.name), (.bool y103.at_), (.bool y103.points), (.bool y103.repeat_)] 80)] ?_ ?_
     ·cases hg121 : (!y103.at_)
      ·refine Tr.pass rfl rfl rfl rfl rfl (by decide) ?_
       refine Tr.pass rfl rfl rfl rfl rfl (by decide) ?_
       refine Tr.pass rfl rfl rfl rfl rfl (by decide) ?_
       refine Tr.pass rfl rfl rfl rfl rfl (by decide) ?_
       refine Tr.va rfl (fun _ _ h1 h2 => run_pickF (h1.ev rfl) (h1.ev rfl)) ?_
       exact Tr.nil (Tr.fin0 (.cons rfl (.cons rfl (.cons rfl (.cons rfl (.cons rfl .nil))))) (.cons rfl (.cons rfl (.cons rfl .nil))))
      ·refine Tr.val (wg rfl rfl rfl) rfl (fun _ _ h1 h2 => run_fieldAddr fo_84_2 (h1.ev rfl)) ?_
       refine Tr.val (wg rfl rfl rfl) rfl (fun _ _ h1 h2 => run_loadN (cs := [(.int .i64 p1.At.X), (.int .i64 p1.At.Y)]) ag_37 sz_37 (h1.ev rfl) (CellsAt.take (rdb h2 (vs := [(.int .i64 p1.Kind), (.string p1.Name), (.int .i64 p1.At.X), (.int .i64 p1.At.Y), (.slice Ap1_0 (p1.Points).length cp1_0), (.int .i64 p1.NX), (.int .i64 p1.NY), (.slice Ap1_1 (p1.Steps).length cp1_1)]) (k := 2) rfl 2) 2) rfl) ?_
       refine Tr.build (vs := []) (cs := [(.int .i64 0), (.int .i64 0)]) (wg rfl rfl rfl) rfl evs_nil (by kernel_rfl) ?_
       refine Tr.val (wg rfl rfl rfl) rfl (fun _ _ h1 h2 => run_neq_37 p1.At (TPoint.mk 0 0) (h1.ev rfl) (h1.ev rfl)) ?_
       refine Tr.va rfl (fun _ _ h1 h2 => run_pickT (h1.ev rfl) (h1.ev rfl)) ?_
       exact Tr.nil (Tr.fin0 (.cons rfl (.cons rfl (.cons rfl (.cons rfl (.cons rfl .nil))))) (.cons rfl (.cons rfl (.cons rfl .nil))))
     ·show Tr _ _ (LF [(2, (.int .i64 p2)), (3, (.pointer (some ⟨b100, 0, none⟩))), (4, (.pointer (some ⟨b101, 0, none⟩))), (7, (.pointer (some ⟨b104, 0, none⟩))), (32, (.bool ((!y103.at_) && (!(eqTPoint p1.At (TPoint.mk 0 0))))))]) (LE [(1, bx b100 #[(.int .i64 p0.Unit), (.slice Ap0_0 (p0.Tools).length cp0_0), (.slice Ap0_1 (p0.Steps).length cp0_1)] 25), (2, bx b101 #[(.int .i64 p1.Kind), (.string p1.Name), (.int .i64 p1.At.X), (.int .i64 p1.At.Y), (.slice Ap1_0 (p1.Points).length cp1_0), (.int .i64 p1.NX), (.int .i64 p1.NY), (.slice Ap1_1 (p1.Steps).length cp1_1)] 84), (3, bx b104 #[(.bool y103.name), (.bool y103.at_), (.bool y103.points), (.bool y103.repeat_)] 80)]) _
      refine Tr.asg rfl rfl ?_
      refine Tr.nil (Tr.normThen ?_)
      refine Tr.cond rfl H (fun H => ?_) (fun H => ?_)
      ·refine Tr.skip ?_
       exact Tr.backThen leJ106 ((!y103.at_) && (!(eqTPoint p1.At (TPoint.mk 0 0)))) H (.cons rfl (.cons rfl (.cons rfl (.cons rfl (.cons rfl .nil))))) (.cons rfl (.cons rfl (.cons rfl .nil)))
      ·refine Tr.sr ?_
       refine Tr.va rfl (fun _ _ h1 h2 => run_fieldAddr fo_80_2 (h1.ev rfl)) ?_
       refine Tr.va rfl (fun _ _ h1 h2 => run_load1 ag_4 (h1.ev rfl) (rdb h2 (vs := [(.bool y103.name), (.bool y103.at_), (.bool y103.points), (.bool y103.repeat_)]) (k := 3) rfl 2) rfl) ?_
       refine Tr.va rfl (fun _ _ h1 h2 => run_not (h1.ev rfl)) ?_
       refine Tr.mv rfl rfl ?_
       refine Tr.mid0 5 [(2, (.int .i64 p2)), (3, (.pointer (some ⟨b100, 0, none⟩))), (4, (.pointer (some ⟨b101, 0, none⟩))), (7, (.pointer (some ⟨b104, 0, none⟩))), (41, (.bool ((!y103.points) && (decide (0 < (p1.Points.length : Int))))))] [(1, bx b100 #[(.int .i64 p0.Unit), (.slice Ap0_0 (p0.Tools).length cp0_0), (.slice Ap0_1 (p0.Steps).length cp0_1)] 25), (2, bx b101 #[(.int .i64 p1.Kind), (.string p1.Name), (.int .i64 p1.At.X), (.int .i64 p1.At.Y), (.slice Ap1_0 (p1.Points).length cp1_0), (.int .i64 p1.NX), (.int .i64 p1.NY), (.slice Ap1_1 (p1.Steps).length cp1_1)] 84), (3, bx b104 #[(.bool y103.name), (.bool y103.at_), (.bool y103.points), (.bool y103.repeat_)] 80)] ?_ ?_
       ·cases hg121 : (!y103.points)
        ·refine Tr.pass rfl rfl rfl rfl rfl (by decide) ?_
         refine Tr.pass rfl rfl rfl rfl rfl (by decide) ?_
         refine Tr.pass rfl rfl rfl rfl rfl (by decide) ?_
         refine Tr.pass rfl rfl rfl rfl rfl (by decide) ?_
         refine Tr.va rfl (fun _ _ h1 h2 => run_pickF (h1.ev rfl) (h1.ev rfl)) ?_
         exact Tr.nil (Tr.fin0 (.cons rfl (.cons rfl (.cons rfl (.cons rfl (.cons rfl .nil))))) (.cons rfl (.cons rfl (.cons rfl .nil))))
        ·refine Tr.val (wg rfl rfl rfl) rfl (fun _ _ h1 h2 => run_fieldAddr fo_84_3 (h1.ev rfl)) ?_
         refine Tr.val (wg rfl rfl rfl) rfl (fun _ _ h1 h2 => run_load1 ag_82 (h1.ev rfl) (rdb h2 (vs := [(.int .i64 p1.Kind), (.string p1.Name), (.int .i64 p1.At.X), (.int .i64 p1.At.Y), (.slice Ap1_0 (p1.Points).length cp1_0), (.int .i64 p1.NX), (.int .i64 p1.NY), (.slice Ap1_1 (p1.Steps).length cp1_1)]) (k := 2) rfl 4) rfl) ?_
         refine Tr.val (wg rfl rfl rfl) rfl (fun _ _ h1 h2 => run_len un_82 (h1.ev rfl)) ?_
         refine Tr.val (wg rfl rfl rfl) rfl (fun _ _ h1 h2 => run_gtr (h1.ev rfl) (h1.ev rfl)) ?_
         refine Tr.va rfl (fun _ _ h1 h2 => run_pickT (h1.ev rfl) (h1.ev rfl)) ?_
         exact Tr.nil (Tr.fin0 (.cons rfl (.cons rfl (.cons rfl (.cons rfl (.cons rfl .nil))))) (.cons rfl (.cons rfl (.cons rfl .nil))))
       ·show Tr _ _ (LF [(2, (.int .i64 p2)), (3, (.pointer (some ⟨b100, 0, none⟩))), (4, (.pointer (some ⟨b101, 0, none⟩))), (7, (.pointer (some ⟨b104, 0, none⟩))), (41, (.bool ((!y103.points) && (decide (0 < (p1.Points.length : Int))))))]) (LE [(1, bx b100 #[(.int .i64 p0.Unit), (.slice Ap0_0 (p0.Tools).length cp0_0), (.slice Ap0_1 (p0.Steps).length cp0_1)] 25), (2, bx b101 #[(.int .i64 p1.Kind), (.string p1.Name), (.int .i64 p1.At.X), (.int .i64 p1.At.Y), (.slice Ap1_0 (p1.Points).length cp1_0), (.int .i64 p1.NX), (.int .i64 p1.NY), (.slice Ap1_1 (p1.Steps).length cp1_1)] 84), (3, bx b104 #[(.bool y103.name), (.bool y103.at_), (.bool y103.points), (.bool y103.repeat_)] 80)]) _
        refine Tr.asg rfl rfl ?_
        refine Tr.nil (Tr.normThen ?_)
        refine Tr.cond rfl H (fun H => ?_) (fun H => ?_)
        ·refine Tr.skip ?_
         exact Tr.backThen leJ106 ((!y103.points) && (decide (0 < (p1.Points.length : Int)))) H (.cons rfl (.cons rfl (.cons rfl (.cons rfl (.cons rfl .nil))))) (.cons rfl (.cons rfl (.cons rfl .nil)))
        ·refine Tr.region ?_
         refine Tr.va rfl (fun _ _ h1 h2 => run_fieldAddr fo_80_3 (h1.ev rfl)) ?_
         refine Tr.va rfl (fun _ _ h1 h2 => run_load1 ag_4 (h1.ev rfl) (rdb h2 (vs := [(.bool y103.name), (.bool y103.at_), (.bool y103.points), (.bool y103.repeat_)]) (k := 3) rfl 3) rfl) ?_
         refine Tr.va rfl (fun _ _ h1 h2 => run_not (h1.ev rfl)) ?_
         refine Tr.mv rfl rfl ?_
         refine Tr.mid0 15 [(2, (.int .i64 p2)), (3, (.pointer (some ⟨b100, 0, none⟩))), (4, (.pointer (some ⟨b101, 0, none⟩))), (7, (.pointer (some ⟨b104, 0, none⟩))), (60, (.bool ((!y103.repeat_) && (((p1.NX != 0) || (p1.NY != 0)) || (decide (0 < (p1.Steps.length : Int)))))))] [(1, bx b100 #[(.int .i64 p0.Unit), (.slice Ap0_0 (p0.Tools).length cp0_0), (.slice Ap0_1 (p0.Steps).length cp0_1)] 25), (2, bx b101 #[(.int .i64 p1.Kind), (.string p1.Name), (.int .i64 p1.At.X), (.int .i64 p1.At.Y), (.slice Ap1_0 (p1.Points).length cp1_0), (.int .i64 p1.NX), (.int .i64 p1.NY), (.slice Ap1_1 (p1.Steps).length cp1_1)] 84), (3, bx b104 #[(.bool y103.name), (.bool y103.at_), (.bool y103.points), (.bool y103.repeat_)] 80)] ?_ ?_
         ·cases hg121 : (!y103.repeat_)
          ·refine Tr.pass rfl rfl rfl rfl rfl (by decide) ?_
           refine Tr.pass rfl rfl rfl rfl rfl (by decide) ?_
           refine Tr.pass rfl rfl rfl rfl rfl (by decide) ?_
           refine Tr.pass rfl rfl rfl rfl rfl (by decide) ?_
           refine Tr.passU rfl rfl rfl rfl (by decide) ?_
           refine Tr.passU rfl rfl rfl rfl (by decide) ?_
           refine Tr.passU rfl rfl rfl rfl (by decide) ?_
           refine Tr.pass rfl rfl rfl rfl rfl (by decide) ?_
           refine Tr.pass rfl rfl rfl rfl rfl (by decide) ?_
           refine Tr.passU rfl rfl rfl rfl (by decide) ?_
           refine Tr.passU rfl rfl rfl rfl (by decide) ?_
           refine Tr.passU rfl rfl rfl rfl (by decide) ?_
           refine Tr.passU rfl rfl rfl rfl (by decide) ?_
           refine Tr.pass rfl rfl rfl rfl rfl (by decide) ?_
           refine Tr.va rfl (fun _ _ h1 h2 => run_pickF (h1.ev rfl) (h1.ev rfl)) ?_
           exact Tr.nil (Tr.fin0 (.cons rfl (.cons rfl (.cons rfl (.cons rfl (.cons rfl .nil))))) (.cons rfl (.cons rfl (.cons rfl .nil))))
          ·refine Tr.val (wg rfl rfl rfl) rfl (fun _ _ h1 h2 => run_fieldAddr fo_84_4 (h1.ev rfl)) ?_
           refine Tr.val (wg rfl rfl rfl) rfl (fun _ _ h1 h2 => run_load1 ag_3 (h1.ev rfl) (rdb h2 (vs := [(.int .i64 p1.Kind), (.string p1.Name), (.int .i64 p1.At.X), (.int .i64 p1.At.Y), (.slice Ap1_0 (p1.Points).length cp1_0), (.int .i64 p1.NX), (.int .i64 p1.NY), (.slice Ap1_1 (p1.Steps).length cp1_1)]) (k := 2) rfl 5) rfl) ?_
           refine Tr.val (wg rfl rfl rfl) rfl (fun _ _ h1 h2 => run_neq (h1.ev rfl) (h1.ev rfl)) ?_
           refine Tr.val (wg rfl rfl rfl) rfl (fun _ _ h1 h2 => run_move (h1.ev rfl)) ?_
           refine Tr.mid0 4 [(2, (.int .i64 p2)), (3, (.pointer (some ⟨b100, 0, none⟩))), (4, (.pointer (some ⟨b101, 0, none⟩))), (7, (.pointer (some ⟨b104, 0, none⟩))), (45, (.bool true)), (53, (.bool ((p1.NX != 0) || (p1.NY != 0))))] [(1, bx b100 #[(.int .i64 p0.Unit), (.slice Ap0_0 (p0.Tools).length cp0_0), (.slice Ap0_1 (p0.Steps).length cp0_1)] 25), (2, bx b101 #[(.int .i64 p1.Kind), (.string p1.Name), (.int .i64 p1.At.X), (.int .i64 p1.At.Y), (.slice Ap1_0 (p1.Points).length cp1_0), (.int .i64 p1.NX), (.int .i64 p1.NY), (.slice Ap1_1 (p1.Steps).length cp1_1)] 84), (3, bx b104 #[(.bool y103.name), (.bool y103.at_), (.bool y103.points), (.bool y103.repeat_)] 80)] ?_ ?_
           ·cases hg121 : (p1.NX != 0)
            ·refine Tr.val (wg rfl rfl rfl) rfl (fun _ _ h1 h2 => run_fieldAddr fo_84_5 (h1.ev rfl)) ?_
             refine Tr.val (wg rfl rfl rfl) rfl (fun _ _ h1 h2 => run_load1 ag_3 (h1.ev rfl) (rdb h2 (vs := [(.int .i64 p1.Kind), (.string p1.Name), (.int .i64 p1.At.X), (.int .i64 p1.At.Y), (.slice Ap1_0 (p1.Points).length cp1_0), (.int .i64 p1.NX), (.int .i64 p1.NY), (.slice Ap1_1 (p1.Steps).length cp1_1)]) (k := 2) rfl 6) rfl) ?_
             refine Tr.val (wg rfl rfl rfl) rfl (fun _ _ h1 h2 => run_neq (h1.ev rfl) (h1.ev rfl)) ?_
             refine Tr.val (wg rfl rfl rfl) rfl (fun _ _ h1 h2 => run_pickF (h1.ev rfl) (h1.ev rfl)) ?_
             exact Tr.nil (Tr.fin0 (.cons rfl (.cons rfl (.cons rfl (.cons rfl (.cons rfl (.cons rfl .nil)))))) (.cons rfl (.cons rfl (.cons rfl .nil))))
            ·refine Tr.pass rfl rfl rfl rfl rfl (by decide) ?_
             refine Tr.pass rfl rfl rfl rfl rfl (by decide) ?_
             refine Tr.pass rfl rfl rfl rfl rfl (by decide) ?_
             refine Tr.val (wg rfl rfl rfl) rfl (fun _ _ h1 h2 => run_pickT (h1.ev rfl) (h1.ev rfl)) ?_
             exact Tr.nil (Tr.fin0 (.cons rfl (.cons rfl (.cons rfl (.cons rfl (.cons rfl (.cons rfl .nil)))))) (.cons rfl (.cons rfl (.cons rfl .nil))))
           ·show Tr _ _ (LF [(2, (.int .i64 p2)), (3, (.pointer (some ⟨b100, 0, none⟩))), (4, (.pointer (some ⟨b101, 0, none⟩))), (7, (.pointer (some ⟨b104, 0, none⟩))), (45, (.bool true)), (53, (.bool ((p1.NX != 0) || (p1.NY != 0))))]) (LE [(1, bx b100 #[(.int .i64 p0.Unit), (.slice Ap0_0 (p0.Tools).length cp0_0), (.slice Ap0_1 (p0.Steps).length cp0_1)] 25), (2, bx b101 #[(.int .i64 p1.Kind), (.string p1.Name), (.int .i64 p1.At.X), (.int .i64 p1.At.Y), (.slice Ap1_0 (p1.Points).length cp1_0), (.int .i64 p1.NX), (.int .i64 p1.NY), (.slice Ap1_1 (p1.Steps).length cp1_1)] 84), (3, bx b104 #[(.bool y103.name), (.bool y103.at_), (.bool y103.points), (.bool y103.repeat_)] 80)]) _
            refine Tr.val (wg rfl rfl rfl) rfl (fun _ _ h1 h2 => run_move (h1.ev rfl)) ?_
            refine Tr.mid0 5 [(2, (.int .i64 p2)), (3, (.pointer (some ⟨b100, 0, none⟩))), (4, (.pointer (some ⟨b101, 0, none⟩))), (7, (.pointer (some ⟨b104, 0, none⟩))), (45, (.bool true)), (59, (.bool (((p1.NX != 0) || (p1.NY != 0)) || (decide (0 < (p1.Steps.length : Int))))))] [(1, bx b100 #[(.int .i64 p0.Unit), (.slice Ap0_0 (p0.Tools).length cp0_0), (.slice Ap0_1 (p0.Steps).length cp0_1)] 25), (2, bx b101 #[(.int .i64 p1.Kind), (.string p1.Name), (.int .i64 p1.At.X), (.int .i64 p1.At.Y), (.slice Ap1_0 (p1.Points).length cp1_0), (.int .i64 p1.NX), (.int .i64 p1.NY), (.slice Ap1_1 (p1.Steps).length cp1_1)] 84), (3, bx b104 #[(.bool y103.name), (.bool y103.at_), (.bool y103.points), (.bool y103.repeat_)] 80)] ?_ ?_
            ·cases hg121 : ((p1.NX != 0) || (p1.NY != 0))
             ·refine Tr.val (wg rfl rfl rfl) rfl (fun _ _ h1 h2 => run_fieldAddr fo_84_6 (h1.ev rfl)) ?_
              refine Tr.val (wg rfl rfl rfl) rfl (fun _ _ h1 h2 => run_load1 ag_23 (h1.ev rfl) (rdb h2 (vs := [(.int .i64 p1.Kind), (.string p1.Name), (.int .i64 p1.At.X), (.int .i64 p1.At.Y), (.slice Ap1_0 (p1.Points).length cp1_0), (.int .i64 p1.NX), (.int .i64 p1.NY), (.slice Ap1_1 (p1.Steps).length cp1_1)]) (k := 2) rfl 7) rfl) ?_
              refine Tr.val (wg rfl rfl rfl) rfl (fun _ _ h1 h2 => run_len un_23 (h1.ev rfl)) ?_
              refine Tr.val (wg rfl rfl rfl) rfl (fun _ _ h1 h2 => run_gtr (h1.ev rfl) (h1.ev rfl)) ?_
              refine Tr.val (wg rfl rfl rfl) rfl (fun _ _ h1 h2 => run_pickF (h1.ev rfl) (h1.ev rfl)) ?_
              exact Tr.nil (Tr.fin0 (.cons rfl (.cons rfl (.cons rfl (.cons rfl (.cons rfl (.cons rfl .nil)))))) (.cons rfl (.cons rfl (.cons rfl .nil))))
             ·refine Tr.pass rfl rfl rfl rfl rfl (by decide) ?_
              refine Tr.pass rfl rfl rfl rfl rfl (by decide) ?_
              refine Tr.pass rfl rfl rfl rfl rfl (by decide) ?_
              refine Tr.pass rfl rfl rfl rfl rfl (by decide) ?_
              refine Tr.val (wg rfl rfl rfl) rfl (fun _ _ h1 h2 => run_pickT (h1.ev rfl) (h1.ev rfl)) ?_
              exact Tr.nil (Tr.fin0 (.cons rfl (.cons rfl (.cons rfl (.cons rfl (.cons rfl (.cons rfl .nil)))))) (.cons rfl (.cons rfl (.cons rfl .nil))))
            ·show Tr _ _ (LF [(2, (.int .i64 p2)), (3, (.pointer (some ⟨b100, 0, none⟩))), (4, (.pointer (some ⟨b101, 0, none⟩))), (7, (.pointer (some ⟨b104, 0, none⟩))), (45, (.bool true)), (59, (.bool (((p1.NX != 0) || (p1.NY != 0)) || (decide (0 < (p1.Steps.length : Int))))))]) (LE [(1, bx b100 #[(.int .i64 p0.Unit), (.slice Ap0_0 (p0.Tools).length cp0_0), (.slice Ap0_1 (p0.Steps).length cp0_1)] 25), (2, bx b101 #[(.int .i64 p1.Kind), (.string p1.Name), (.int .i64 p1.At.X), (.int .i64 p1.At.Y), (.slice Ap1_0 (p1.Points).length cp1_0), (.int .i64 p1.NX), (.int .i64 p1.NY), (.slice Ap1_1 (p1.Steps).length cp1_1)] 84), (3, bx b104 #[(.bool y103.name), (.bool y103.at_), (.bool y103.points), (.bool y103.repeat_)] 80)]) _
             refine Tr.va rfl (fun _ _ h1 h2 => run_pickT (h1.ev rfl) (h1.ev rfl)) ?_
             exact Tr.nil (Tr.fin0 (.cons rfl (.cons rfl (.cons rfl (.cons rfl (.cons rfl .nil))))) (.cons rfl (.cons rfl (.cons rfl .nil))))
         ·show Tr _ _ (LF [(2, (.int .i64 p2)), (3, (.pointer (some ⟨b100, 0, none⟩))), (4, (.pointer (some ⟨b101, 0, none⟩))), (7, (.pointer (some ⟨b104, 0, none⟩))), (60, (.bool ((!y103.repeat_) && (((p1.NX != 0) || (p1.NY != 0)) || (decide (0 < (p1.Steps.length : Int)))))))]) (LE [(1, bx b100 #[(.int .i64 p0.Unit), (.slice Ap0_0 (p0.Tools).length cp0_0), (.slice Ap0_1 (p0.Steps).length cp0_1)] 25), (2, bx b101 #[(.int .i64 p1.Kind), (.string p1.Name), (.int .i64 p1.At.X), (.int .i64 p1.At.Y), (.slice Ap1_0 (p1.Points).length cp1_0), (.int .i64 p1.NX), (.int .i64 p1.NY), (.slice Ap1_1 (p1.Steps).length cp1_1)] 84), (3, bx b104 #[(.bool y103.name), (.bool y103.at_), (.bool y103.points), (.bool y103.repeat_)] 80)]) _
          refine Tr.asg rfl rfl ?_
          refine Tr.nil ?_
          exact Tr.backThen leJ106 ((!y103.repeat_) && (((p1.NX != 0) || (p1.NY != 0)) || (decide (0 < (p1.Steps.length : Int))))) H (.cons rfl (.cons rfl (.cons rfl (.cons rfl (.cons rfl .nil))))) (.cons rfl (.cons rfl (.cons rfl .nil)))
  ·intro w x105 hlJ107 hs
   have H := hs
   replace H : F_plot_checkStep_J1 p0 p1 p2 y103 x105 = some r := H
   replace hp0_0 := hp0_0.leR hlJ107
   replace hp0_1 := hp0_1.leR hlJ107
   replace hp1_0 := hp1_0.leR hlJ107
   replace hp1_1 := hp1_1.leR hlJ107
   replace leB := leB.trans hlJ107
   unfold F_plot_checkStep_J1 at H
   show Tr _ _ (LF [(2, (.int .i64 p2)), (3, (.pointer (some ⟨b100, 0, none⟩))), (4, (.pointer (some ⟨b101, 0, none⟩))), (7, (.pointer (some ⟨b104, 0, none⟩))), (15, (.bool x105))]) (LE [(1, bx b100 #[(.int .i64 p0.Unit), (.slice Ap0_0 (p0.Tools).length cp0_0), (.slice Ap0_1 (p0.Steps).length cp0_1)] 25), (2, bx b101 #[(.int .i64 p1.Kind), (.string p1.Name), (.int .i64 p1.At.X), (.int .i64 p1.At.Y), (.slice Ap1_0 (p1.Points).length cp1_0), (.int .i64 p1.NX), (.int .i64 p1.NY), (.slice Ap1_1 (p1.Steps).length cp1_1)] 84), (3, bx b104 #[(.bool y103.name), (.bool y103.at_), (.bool y103.points), (.bool y103.repeat_)] 80)]) _
   refine Tr.cond rfl H (fun H => ?_) (fun H => ?_)
   ·refine Tr.sr ?_
    refine Tr.asg rfl rfl ?_
    refine Tr.nil (Tr.normThen ?_)
    refine Tr.ret (Tr.retBlock (Tr.retThen ?_))
    obtain rfl := Option.some.inj H
    exact Tr.out (m := [(.int .i64 3)]) [] (res_tmp rfl res_nil) (fun W hW => ⟨rfl, hW.low leB⟩)
   ·refine Tr.sr ?_
    refine Tr.va rfl (fun _ _ h1 h2 => run_fieldAddr fo_80_0 (h1.ev rfl)) ?_
    refine Tr.va rfl (fun _ _ h1 h2 => run_load1 ag_4 (h1.ev rfl) (rdb h2 (vs := [(.bool y103.name), (.bool y103.at_), (.bool y103.points), (.bool y103.repeat_)]) (k := 3) rfl 0) rfl) ?_
    refine Tr.mv rfl rfl ?_
    obtain ⟨g109, hg109, H⟩ := bnd H
    refine Tr.mid0 6 [(2, (.int .i64 p2)), (3, (.pointer (some ⟨b100, 0, none⟩))), (4, (.pointer (some ⟨b101, 0, none⟩))), (7, (.pointer (some ⟨b104, 0, none⟩))), (70, (.bool g109))] [(1, bx b100 #[(.int .i64 p0.Unit), (.slice Ap0_0 (p0.Tools).length cp0_0), (.slice Ap0_1 (p0.Steps).length cp0_1)] 25), (2, bx b101 #[(.int .i64 p1.Kind), (.string p1.Name), (.int .i64 p1.At.X), (.int .i64 p1.At.Y), (.slice Ap1_0 (p1.Points).length cp1_0), (.int .i64 p1.NX), (.int .i64 p1.NY), (.slice Ap1_1 (p1.Steps).length cp1_1)] 84), (3, bx b104 #[(.bool y103.name), (.bool y103.at_), (.bool y103.points), (.bool y103.repeat_)] 80)] ?_ ?_
    ·cases hg121 : y103.name
     ·rw [hg121] at hg109
      rw [if_neg (by decide)] at hg109
      have H := hg109
      obtain rfl := Option.some.inj H
      refine Tr.pass rfl rfl rfl rfl rfl (by decide) ?_
      refine Tr.pass rfl rfl rfl rfl rfl (by decide) ?_
      refine Tr.pass rfl rfl rfl rfl rfl (by decide) ?_
      refine Tr.pass rfl rfl rfl rfl rfl (by decide) ?_
      refine Tr.pass rfl rfl rfl rfl rfl (by decide) ?_
      refine Tr.va rfl (fun _ _ h1 h2 => run_pickF (h1.ev rfl) (h1.ev rfl)) ?_
      exact Tr.nil (Tr.fin0 (.cons rfl (.cons rfl (.cons rfl (.cons rfl (.cons rfl .nil))))) (.cons rfl (.cons rfl (.cons rfl .nil))))
     ·rw [hg121] at hg109
      rw [if_pos rfl] at hg109
      have H := hg109
      refine Tr.val (wg rfl rfl rfl) rfl (fun _ _ h1 h2 => run_loadN (cs := [(.int .i64 p0.Unit), (.slice Ap0_0 (p0.Tools).length cp0_0), (.slice Ap0_1 (p0.Steps).length cp0_1)]) ag_25 sz_25 (h1.ev rfl) (CellsAt.take (rdb h2 (vs := [(.int .i64 p0.Unit), (.slice Ap0_0 (p0.Tools).length cp0_0), (.slice Ap0_1 (p0.Steps).length cp0_1)]) (k := 1) rfl 0) 3) rfl) ?_
      refine Tr.val (wg rfl rfl rfl) rfl (fun _ _ h1 h2 => run_fieldAddr fo_84_1 (h1.ev rfl)) ?_
      refine Tr.val (wg rfl rfl rfl) rfl (fun _ _ h1 h2 => run_load1 ag_9 (h1.ev rfl) (rdb h2 (vs := [(.int .i64 p1.Kind), (.string p1.Name), (.int .i64 p1.At.X), (.int .i64 p1.At.Y), (.slice Ap1_0 (p1.Points).length cp1_0), (.int .i64 p1.NX), (.int .i64 p1.NY), (.slice Ap1_1 (p1.Steps).length cp1_1)]) (k := 2) rfl 1) rfl) ?_
      obtain ⟨y110, hy110, H⟩ := bnd H
      refine Tr.call0 (r := (.int .i64 y110)) (wg rfl rfl rfl) rfl Tryd.call87 (evl_cons rfl (evl_cons rfl evl_nil)) (fun W hW => F_plot_toolAt_ok p0 Ap0_0 cp0_0 (hp0_0.ext hW.extAll) Ap0_1 cp0_1 (hp0_1.ext hW.extAll) p1.Name y110 hy110 (HF.start _)) ?_
      refine Tr.val (wg rfl rfl rfl) rfl (fun _ _ h1 h2 => run_lss (h1.ev rfl) (h1.ev rfl)) ?_
      refine Tr.va rfl (fun _ _ h1 h2 => run_pickT (h1.ev rfl) (h1.ev rfl)) ?_
      obtain rfl := Option.some.inj H
      exact Tr.nil (Tr.fin0 (.cons rfl (.cons rfl (.cons rfl (.cons rfl (.cons rfl .nil))))) (.cons rfl (.cons rfl (.cons rfl .nil))))
    ·show Tr _ _ (LF [(2, (.int .i64 p2)), (3, (.pointer (some ⟨b100, 0, none⟩))), (4, (.pointer (some ⟨b101, 0, none⟩))), (7, (.pointer (some ⟨b104, 0, none⟩))), (70, (.bool g109))]) (LE [(1, bx b100 #[(.int .i64 p0.Unit), (.slice Ap0_0 (p0.Tools).length cp0_0), (.slice Ap0_1 (p0.Steps).length cp0_1)] 25), (2, bx b101 #[(.int .i64 p1.Kind), (.string p1.Name), (.int .i64 p1.At.X), (.int .i64 p1.At.Y), (.slice Ap1_0 (p1.Points).length cp1_0), (.int .i64 p1.NX), (.int .i64 p1.NY), (.slice Ap1_1 (p1.Steps).length cp1_1)] 84), (3, bx b104 #[(.bool y103.name), (.bool y103.at_), (.bool y103.points), (.bool y103.repeat_)] 80)]) _
     refine Tr.asg rfl rfl ?_
     refine Tr.nil (Tr.normThen ?_)
     refine Tr.cond rfl H (fun H => ?_) (fun H => ?_)
     ·refine Tr.sr ?_
      refine Tr.asg rfl rfl ?_
      refine Tr.nil (Tr.normThen ?_)
      refine Tr.ret (Tr.retBlock (Tr.retThen ?_))
      obtain rfl := Option.some.inj H
      exact Tr.out (m := [(.int .i64 5)]) [] (res_tmp rfl res_nil) (fun W hW => ⟨rfl, hW.low leB⟩)
     ·refine Tr.sr ?_
      refine Tr.va rfl (fun _ _ h1 h2 => run_fieldAddr fo_84_2 (h1.ev rfl)) ?_
      refine Tr.va rfl (fun _ _ h1 h2 => run_loadN (cs := [(.int .i64 p1.At.X), (.int .i64 p1.At.Y)]) ag_37 sz_37 (h1.ev rfl) (CellsAt.take (rdb h2 (vs := [(.int .i64 p1.Kind), (.string p1.Name), (.int .i64 p1.At.X), (.int .i64 p1.At.Y), (.slice Ap1_0 (p1.Points).length cp1_0), (.int .i64 p1.NX), (.int .i64 p1.NY), (.slice Ap1_1 (p1.Steps).length cp1_1)]) (k := 2) rfl 2) 2) rfl) ?_
      refine Tr.va rfl (fun _ _ h1 h2 => run_fieldAddr fo_25_0 (h1.ev rfl)) ?_
      refine Tr.va rfl (fun _ _ h1 h2 => run_load1 ag_3 (h1.ev rfl) (rdb h2 (vs := [(.int .i64 p0.Unit), (.slice Ap0_0 (p0.Tools).length cp0_0), (.slice Ap0_1 (p0.Steps).length cp0_1)]) (k := 1) rfl 0) rfl) ?_
      obtain ⟨y111, hy111, H⟩ := bnd H
      refine Tr.call0 (r := (.bool y111)) (wn rfl) rfl Tryd.call88 (evl_cons rfl (evl_cons rfl evl_nil)) (fun W hW => F_plot_isPoint_ok p1.At p0.Unit y111 hy111 (HF.start _)) ?_
      refine Tr.va rfl (fun _ _ h1 h2 => run_not (h1.ev rfl)) ?_
      refine Tr.mv rfl rfl ?_
      obtain ⟨g113, hg113, H⟩ := bnd H
      refine Tr.mid0 5 [(2, (.int .i64 p2)), (4, (.pointer (some ⟨b101, 0, none⟩))), (7, (.pointer (some ⟨b104, 0, none⟩))), (83, (.bool g113))] [(1, bx b100 #[(.int .i64 p0.Unit), (.slice Ap0_0 (p0.Tools).length cp0_0), (.slice Ap0_1 (p0.Steps).length cp0_1)] 25), (2, bx b101 #[(.int .i64 p1.Kind), (.string p1.Name), (.int .i64 p1.At.X), (.int .i64 p1.At.Y), (.slice Ap1_0 (p1.Points).length cp1_0), (.int .i64 p1.NX), (.int .i64 p1.NY), (.slice Ap1_1 (p1.Steps).length cp1_1)] 84), (3, bx b104 #[(.bool y103.name), (.bool y103.at_), (.bool y103.points), (.bool y103.repeat_)] 80)] ?_ ?_
      ·cases hg121 : (!y111)
       ·rw [hg121] at hg113
        rw [if_neg (by decide)] at hg113
        have H := hg113
        refine Tr.val (wg rfl rfl rfl) rfl (fun _ _ h1 h2 => run_fieldAddr fo_84_3 (h1.ev rfl)) ?_
        refine Tr.val (wg rfl rfl rfl) rfl (fun _ _ h1 h2 => run_load1 ag_82 (h1.ev rfl) (rdb h2 (vs := [(.int .i64 p1.Kind), (.string p1.Name), (.int .i64 p1.At.X), (.int .i64 p1.At.Y), (.slice Ap1_0 (p1.Points).length cp1_0), (.int .i64 p1.NX), (.int .i64 p1.NY), (.slice Ap1_1 (p1.Steps).length cp1_1)]) (k := 2) rfl 4) rfl) ?_
        refine Tr.mkFunc (vs := [(.pointer (some ⟨b100, 0, none⟩))]) (wg rfl rfl rfl) rfl (evl_cons rfl evl_nil) ?_
        obtain ⟨y114, hy114, H⟩ := bnd H
        refine Tr.call0 (r := (.bool y114)) (wg rfl rfl rfl) rfl Tryd.call89 (evl_cons rfl (evl_cons rfl evl_nil)) (fun W hW => F_slices_ContainsFunc_Point_ok p1.Points Ap1_0 cp1_0 (hp1_0.ext hW.extAll) (fun z0 => F_plot_checkStep_1 z0 p0) 90 [(.pointer (some ⟨b100, 0, none⟩))] Tryd.call90 (fun w' he z0 y hy => F_plot_checkStep_1_ok z0 p0 Ap0_0 cp0_0 (hp0_0.ext (hW.extAll.trans he)) Ap0_1 cp0_1 (hp0_1.ext (hW.extAll.trans he)) b100 (he.r _ (hW.capR (k := 1) rfl)) (he.cells (hW.capR (k := 1) rfl) (hW.capC (k := 1) rfl)) y hy (HF.start _)) y114 hy114 (HF.start _)) ?_
        refine Tr.va rfl (fun _ _ h1 h2 => run_pickF (h1.ev rfl) (h1.ev rfl)) ?_
        obtain rfl := Option.some.inj H
        exact Tr.nil (Tr.fin0 (.cons rfl (.cons rfl (.cons rfl (.cons rfl .nil)))) (.cons rfl (.cons rfl (.cons rfl .nil))))
       ·rw [hg121] at hg113
        rw [if_pos rfl] at hg113
        have H := hg113
        obtain rfl := Option.some.inj H
        refine Tr.pass rfl rfl rfl rfl rfl (by decide) ?_
        refine Tr.pass rfl rfl rfl rfl rfl (by decide) ?_
        refine Tr.pass rfl rfl rfl rfl rfl (by decide) ?_
        refine Tr.pass rfl rfl rfl rfl rfl (by decide) ?_
        refine Tr.va rfl (fun _ _ h1 h2 => run_pickT (h1.ev rfl) (h1.ev rfl)) ?_
        exact Tr.nil (Tr.fin0 (.cons rfl (.cons rfl (.cons rfl (.cons rfl .nil)))) (.cons rfl (.cons rfl (.cons rfl .nil))))
      ·show Tr _ _ (LF [(2, (.int .i64 p2)), (4, (.pointer (some ⟨b101, 0, none⟩))), (7, (.pointer (some ⟨b104, 0, none⟩))), (83, (.bool g113))]) (LE [(1, bx b100 #[(.int .i64 p0.Unit), (.slice Ap0_0 (p0.Tools).length cp0_0), (.slice Ap0_1 (p0.Steps).length cp0_1)] 25), (2, bx b101 #[(.int .i64 p1.Kind), (.string p1.Name), (.int .i64 p1.At.X), (.int .i64 p1.At.Y), (.slice Ap1_0 (p1.Points).length cp1_0), (.int .i64 p1.NX), (.int .i64 p1.NY), (.slice Ap1_1 (p1.Steps).length cp1_1)] 84), (3, bx b104 #[(.bool y103.name), (.bool y103.at_), (.bool y103.points), (.bool y103.repeat_)] 80)]) _
       refine Tr.asg rfl rfl ?_
       refine Tr.nil (Tr.normThen ?_)
       refine Tr.cond rfl H (fun H => ?_) (fun H => ?_)
       ·refine Tr.sr ?_
        refine Tr.asg rfl rfl ?_
        refine Tr.nil (Tr.normThen ?_)
        refine Tr.ret (Tr.retBlock (Tr.retThen ?_))
        obtain rfl := Option.some.inj H
        exact Tr.out (m := [(.int .i64 1)]) [] (res_tmp rfl res_nil) (fun W hW => ⟨rfl, hW.low leB⟩)
       ·refine Tr.sr ?_
        refine Tr.va rfl (fun _ _ h1 h2 => run_fieldAddr fo_84_3 (h1.ev rfl)) ?_
        refine Tr.va rfl (fun _ _ h1 h2 => run_load1 ag_82 (h1.ev rfl) (rdb h2 (vs := [(.int .i64 p1.Kind), (.string p1.Name), (.int .i64 p1.At.X), (.int .i64 p1.At.Y), (.slice Ap1_0 (p1.Points).length cp1_0), (.int .i64 p1.NX), (.int .i64 p1.NY), (.slice Ap1_1 (p1.Steps).length cp1_1)]) (k := 2) rfl 4) rfl) ?_
        refine Tr.va rfl (fun _ _ h1 h2 => run_len un_82 (h1.ev rfl)) ?_
        refine Tr.va rfl (fun _ _ h1 h2 => run_gtr (h1.ev rfl) (h1.ev rfl)) ?_
        refine Tr.asg rfl rfl ?_
        refine Tr.nil (Tr.normThen ?_)
        refine Tr.cond rfl H (fun H => ?_) (fun H => ?_)
        ·refine Tr.sr ?_
         refine Tr.asg rfl rfl ?_
         refine Tr.nil (Tr.normThen ?_)
         refine Tr.ret (Tr.retBlock (Tr.retThen ?_))
         obtain rfl := Option.some.inj H
         exact Tr.out (m := [(.int .i64 2)]) [] (res_tmp rfl res_nil) (fun W hW => ⟨rfl, hW.low leB⟩)
        ·refine Tr.sr ?_
         refine Tr.va rfl (fun _ _ h1 h2 => run_fieldAddr fo_80_2 (h1.ev rfl)) ?_
         refine Tr.va rfl (fun _ _ h1 h2 => run_load1 ag_4 (h1.ev rfl) (rdb h2 (vs := [(.bool y103.name), (.bool y103.at_), (.bool y103.points), (.bool y103.repeat_)]) (k := 3) rfl 2) rfl) ?_
         refine Tr.mv rfl rfl ?_
         obtain ⟨g116, hg116, H⟩ := bnd H
         refine Tr.mid0 5 [(2, (.int .i64 p2)), (4, (.pointer (some ⟨b101, 0, none⟩))), (7, (.pointer (some ⟨b104, 0, none⟩))), (97, (.bool g116))] [(1, bx b100 #[(.int .i64 p0.Unit), (.slice Ap0_0 (p0.Tools).length cp0_0), (.slice Ap0_1 (p0.Steps).length cp0_1)] 25), (2, bx b101 #[(.int .i64 p1.Kind), (.string p1.Name), (.int .i64 p1.At.X), (.int .i64 p1.At.Y), (.slice Ap1_0 (p1.Points).length cp1_0), (.int .i64 p1.NX), (.int .i64 p1.NY), (.slice Ap1_1 (p1.Steps).length cp1_1)] 84), (3, bx b104 #[(.bool y103.name), (.bool y103.at_), (.bool y103.points), (.bool y103.repeat_)] 80)] ?_ ?_
         ·cases hg121 : y103.points
          ·rw [hg121] at hg116
           rw [if_neg (by decide)] at hg116
           have H := hg116
           obtain rfl := Option.some.inj H
           refine Tr.pass rfl rfl rfl rfl rfl (by decide) ?_
           refine Tr.pass rfl rfl rfl rfl rfl (by decide) ?_
           refine Tr.pass rfl rfl rfl rfl rfl (by decide) ?_
           refine Tr.pass rfl rfl rfl rfl rfl (by decide) ?_
           refine Tr.va rfl (fun _ _ h1 h2 => run_pickF (h1.ev rfl) (h1.ev rfl)) ?_
           exact Tr.nil (Tr.fin0 (.cons rfl (.cons rfl (.cons rfl (.cons rfl .nil)))) (.cons rfl (.cons rfl (.cons rfl .nil))))
          ·rw [hg121] at hg116
           rw [if_pos rfl] at hg116
           have H := hg116
           refine Tr.val (wg rfl rfl rfl) rfl (fun _ _ h1 h2 => run_fieldAddr fo_84_3 (h1.ev rfl)) ?_
           refine Tr.val (wg rfl rfl rfl) rfl (fun _ _ h1 h2 => run_load1 ag_82 (h1.ev rfl) (rdb h2 (vs := [(.int .i64 p1.Kind), (.string p1.Name), (.int .i64 p1.At.X), (.int .i64 p1.At.Y), (.slice Ap1_0 (p1.Points).length cp1_0), (.int .i64 p1.NX), (.int .i64 p1.NY), (.slice Ap1_1 (p1.Steps).length cp1_1)]) (k := 2) rfl 4) rfl) ?_
           obtain ⟨y117, hy117, H⟩ := bnd H
           refine Tr.call0 (r := (.bool y117)) (wg rfl rfl rfl) rfl Tryd.call91 (evl_cons rfl evl_nil) (fun W hW => F_shape_IsRow_ok p1.Points Ap1_0 cp1_0 (hp1_0.ext hW.extAll) y117 hy117 (HF.start _)) ?_
           refine Tr.val (wg rfl rfl rfl) rfl (fun _ _ h1 h2 => run_not (h1.ev rfl)) ?_
           refine Tr.va rfl (fun _ _ h1 h2 => run_pickT (h1.ev rfl) (h1.ev rfl)) ?_
           obtain rfl := Option.some.inj H
           exact Tr.nil (Tr.fin0 (.cons rfl (.cons rfl (.cons rfl (.cons rfl .nil)))) (.cons rfl (.cons rfl (.cons rfl .nil))))
         ·show Tr _ _ (LF [(2, (.int .i64 p2)), (4, (.pointer (some ⟨b101, 0, none⟩))), (7, (.pointer (some ⟨b104, 0, none⟩))), (97, (.bool g116))]) (LE [(1, bx b100 #[(.int .i64 p0.Unit), (.slice Ap0_0 (p0.Tools).length cp0_0), (.slice Ap0_1 (p0.Steps).length cp0_1)] 25), (2, bx b101 #[(.int .i64 p1.Kind), (.string p1.Name), (.int .i64 p1.At.X), (.int .i64 p1.At.Y), (.slice Ap1_0 (p1.Points).length cp1_0), (.int .i64 p1.NX), (.int .i64 p1.NY), (.slice Ap1_1 (p1.Steps).length cp1_1)] 84), (3, bx b104 #[(.bool y103.name), (.bool y103.at_), (.bool y103.points), (.bool y103.repeat_)] 80)]) _
          refine Tr.asg rfl rfl ?_
          refine Tr.nil (Tr.normThen ?_)
          refine Tr.cond rfl H (fun H => ?_) (fun H => ?_)
          ·refine Tr.sr ?_
           refine Tr.asg rfl rfl ?_
           refine Tr.nil (Tr.normThen ?_)
           refine Tr.ret (Tr.retBlock (Tr.retThen ?_))
           obtain rfl := Option.some.inj H
           exact Tr.out (m := [(.int .i64 3)]) [] (res_tmp rfl res_nil) (fun W hW => ⟨rfl, hW.low leB⟩)
          ·refine Tr.skip (Tr.normBlock (Tr.normThen ?_))
           refine Tr.seq ?_
           refine Tr.sr ?_
           refine Tr.va rfl (fun _ _ h1 h2 => run_fieldAddr fo_80_3 (h1.ev rfl)) ?_
           refine Tr.va rfl (fun _ _ h1 h2 => run_load1 ag_4 (h1.ev rfl) (rdb h2 (vs := [(.bool y103.name), (.bool y103.at_), (.bool y103.points), (.bool y103.repeat_)]) (k := 3) rfl 3) rfl) ?_
           refine Tr.va rfl (fun _ _ h1 h2 => run_not (h1.ev rfl)) ?_
           refine Tr.nil (Tr.normThen ?_)
           refine Tr.cond rfl H (fun H => ?_) (fun H => ?_)
           ·refine Tr.sr ?_
            refine Tr.asg rfl rfl ?_
            refine Tr.nil (Tr.normThen ?_)
            refine Tr.ret (Tr.retThen ?_)
            obtain rfl := Option.some.inj H
            exact Tr.out (m := [(.int .i64 0)]) [] (res_tmp rfl res_nil) (fun W hW => ⟨rfl, hW.low leB⟩)
           ·refine Tr.skip (Tr.normThen ?_)
            refine Tr.seq ?_
            refine Tr.block ?_
            refine Tr.sr ?_
            refine Tr.va rfl (fun _ _ h1 h2 => run_fieldAddr fo_84_4 (h1.ev rfl)) ?_
            refine Tr.va rfl (fun _ _ h1 h2 => run_load1 ag_3 (h1.ev rfl) (rdb h2 (vs := [(.int .i64 p1.Kind), (.string p1.Name), (.int .i64 p1.At.X), (.int .i64 p1.At.Y), (.slice Ap1_0 (p1.Points).length cp1_0), (.int .i64 p1.NX), (.int .i64 p1.NY), (.slice Ap1_1 (p1.Steps).length cp1_1)]) (k := 2) rfl 5) rfl) ?_
            obtain ⟨y118, hy118, H⟩ := bnd H
            refine Tr.call0 (r := (.bool y118)) (wn rfl) rfl Tryd.call26 (evl_cons rfl (evl_cons rfl (evl_cons rfl evl_nil))) (fun W hW => F_plot_within_ok p1.NX 1 100 y118 hy118 (HF.start _)) ?_
            refine Tr.va rfl (fun _ _ h1 h2 => run_not (h1.ev rfl)) ?_
            refine Tr.mv rfl rfl ?_
            obtain ⟨g120, hg120, H⟩ := bnd H
            refine Tr.mid0 5 [(2, (.int .i64 p2)), (4, (.pointer (some ⟨b101, 0, none⟩))), (111, (.bool g120))] [(1, bx b100 #[(.int .i64 p0.Unit), (.slice Ap0_0 (p0.Tools).length cp0_0), (.slice Ap0_1 (p0.Steps).length cp0_1)] 25), (2, bx b101 #[(.int .i64 p1.Kind), (.string p1.Name), (.int .i64 p1.At.X), (.int .i64 p1.At.Y), (.slice Ap1_0 (p1.Points).length cp1_0), (.int .i64 p1.NX), (.int .i64 p1.NY), (.slice Ap1_1 (p1.Steps).length cp1_1)] 84), (3, bx b104 #[(.bool y103.name), (.bool y103.at_), (.bool y103.points), (.bool y103.repeat_)] 80)] ?_ ?_
            ·cases hg121 : (!y118)
             ·rw [hg121] at hg120
              rw [if_neg (by decide)] at hg120
              have H := hg120
              refine Tr.val (wg rfl rfl rfl) rfl (fun _ _ h1 h2 => run_fieldAddr fo_84_5 (h1.ev rfl)) ?_
              refine Tr.val (wg rfl rfl rfl) rfl (fun _ _ h1 h2 => run_load1 ag_3 (h1.ev rfl) (rdb h2 (vs := [(.int .i64 p1.Kind), (.string p1.Name), (.int .i64 p1.At.X), (.int .i64 p1.At.Y), (.slice Ap1_0 (p1.Points).length cp1_0), (.int .i64 p1.NX), (.int .i64 p1.NY), (.slice Ap1_1 (p1.Steps).length cp1_1)]) (k := 2) rfl 6) rfl) ?_
              obtain ⟨y121, hy121, H⟩ := bnd H
              refine Tr.call0 (r := (.bool y121)) (wg rfl rfl rfl) rfl Tryd.call26 (evl_cons rfl (evl_cons rfl (evl_cons rfl evl_nil))) (fun W hW => F_plot_within_ok p1.NY 1 100 y121 hy121 (HF.start _)) ?_
              refine Tr.val (wg rfl rfl rfl) rfl (fun _ _ h1 h2 => run_not (h1.ev rfl)) ?_
              refine Tr.va rfl (fun _ _ h1 h2 => run_pickF (h1.ev rfl) (h1.ev rfl)) ?_
              obtain rfl := Option.some.inj H
              exact Tr.nil (Tr.fin0 (.cons rfl (.cons rfl (.cons rfl .nil))) (.cons rfl (.cons rfl (.cons rfl .nil))))
             ·rw [hg121] at hg120
              rw [if_pos rfl] at hg120
              have H := hg120
              obtain rfl := Option.some.inj H
              refine Tr.pass rfl rfl rfl rfl rfl (by decide) ?_
              refine Tr.pass rfl rfl rfl rfl rfl (by decide) ?_
              refine Tr.pass rfl rfl rfl rfl rfl (by decide) ?_
              refine Tr.pass rfl rfl rfl rfl rfl (by decide) ?_
              refine Tr.va rfl (fun _ _ h1 h2 => run_pickT (h1.ev rfl) (h1.ev rfl)) ?_
              exact Tr.nil (Tr.fin0 (.cons rfl (.cons rfl (.cons rfl .nil))) (.cons rfl (.cons rfl (.cons rfl .nil))))
            ·show Tr _ _ (LF [(2, (.int .i64 p2)), (4, (.pointer (some ⟨b101, 0, none⟩))), (111, (.bool g120))]) (LE [(1, bx b100 #[(.int .i64 p0.Unit), (.slice Ap0_0 (p0.Tools).length cp0_0), (.slice Ap0_1 (p0.Steps).length cp0_1)] 25), (2, bx b101 #[(.int .i64 p1.Kind), (.string p1.Name), (.int .i64 p1.At.X), (.int .i64 p1.At.Y), (.slice Ap1_0 (p1.Points).length cp1_0), (.int .i64 p1.NX), (.int .i64 p1.NY), (.slice Ap1_1 (p1.Steps).length cp1_1)] 84), (3, bx b104 #[(.bool y103.name), (.bool y103.at_), (.bool y103.points), (.bool y103.repeat_)] 80)]) _
             refine Tr.asg rfl rfl ?_
             refine Tr.nil (Tr.normThen ?_)
             refine Tr.cond rfl H (fun H => ?_) (fun H => ?_)
             ·refine Tr.sr ?_
              refine Tr.asg rfl rfl ?_
              refine Tr.nil (Tr.normThen ?_)
              refine Tr.ret (Tr.retBlock (Tr.retThen ?_))
              obtain rfl := Option.some.inj H
              exact Tr.out (m := [(.int .i64 1)]) [] (res_tmp rfl res_nil) (fun W hW => ⟨rfl, hW.low leB⟩)
             ·refine Tr.sr ?_
              refine Tr.va rfl (fun _ _ h1 h2 => run_fieldAddr fo_84_6 (h1.ev rfl)) ?_
              refine Tr.va rfl (fun _ _ h1 h2 => run_load1 ag_23 (h1.ev rfl) (rdb h2 (vs := [(.int .i64 p1.Kind), (.string p1.Name), (.int .i64 p1.At.X), (.int .i64 p1.At.Y), (.slice Ap1_0 (p1.Points).length cp1_0), (.int .i64 p1.NX), (.int .i64 p1.NY), (.slice Ap1_1 (p1.Steps).length cp1_1)]) (k := 2) rfl 7) rfl) ?_
              refine Tr.va rfl (fun _ _ h1 h2 => run_len un_23 (h1.ev rfl)) ?_
              refine Tr.va rfl (fun _ _ h1 h2 => run_eql (h1.ev rfl) (h1.ev rfl)) ?_
              refine Tr.asg rfl rfl ?_
              refine Tr.nil (Tr.normThen ?_)
              refine Tr.cond rfl H (fun H => ?_) (fun H => ?_)
              ·refine Tr.sr ?_
               refine Tr.asg rfl rfl ?_
               refine Tr.nil (Tr.normThen ?_)
               refine Tr.ret (Tr.retBlock (Tr.retThen ?_))
               obtain rfl := Option.some.inj H
               exact Tr.out (m := [(.int .i64 9)]) [] (res_tmp rfl res_nil) (fun W hW => ⟨rfl, hW.low leB⟩)
              ·refine Tr.sr ?_
               refine Tr.mv rfl rfl ?_
               refine Tr.va rfl (fun _ _ h1 h2 => run_geq (h1.ev rfl) (h1.ev rfl)) ?_
               refine Tr.asg rfl rfl ?_
               refine Tr.nil (Tr.normThen ?_)
               refine Tr.cond rfl H (fun H => ?_) (fun H => ?_)
               ·refine Tr.sr ?_
                refine Tr.asg rfl rfl ?_
                refine Tr.nil (Tr.normThen ?_)
                refine Tr.ret (Tr.retBlock (Tr.retThen ?_))
                obtain rfl := Option.some.inj H
                exact Tr.out (m := [(.int .i64 2)]) [] (res_tmp rfl res_nil) (fun W hW => ⟨rfl, hW.low leB⟩)
               ·refine Tr.skip (Tr.normBlock (Tr.normThen ?_))
                refine Tr.sr ?_
                refine Tr.asg rfl rfl ?_
                refine Tr.nil (Tr.normThen ?_)
                refine Tr.ret ?_
                obtain rfl := Option.some.inj H
                exact Tr.out (m := [(.int .i64 0)]) [] (res_tmp rfl res_nil) (fun W hW => ⟨rfl, hW.low leB⟩)

theorem F_plot_checkSteps_b_ok (N : Nat) (rec : TPlot → (List TPlotStep) → Int → Option Int) (hrec : ∀ {w : Bs} (p0 : TPlot) (Ap0_0 : Option Addr) (cp0_0 : Nat) (hp0_0 : Sl w.R w.W fl_TPlotTool Ap0_0 cp0_0 p0.Tools) (Ap0_1 : Option Addr) (cp0_1 : Nat) (hp0_1 : Sl w.R w.W fl_TPlotStep Ap0_1 cp0_1 p0.Steps) (p1 : (List TPlotStep)) (Ap1_0 : Option Addr) (cp1_0 : Nat) (hp1_0 : Sl w.R w.W fl_TPlotStep Ap1_0 cp1_0 p1) (p2 : Int) (r : Int) (H : rec p0 p1 p2 = some r) (hE : HF w w.W E0), Calls Tryd.prog 29 [(.agg #[(.int .i64 p0.Unit), (.slice Ap0_0 (p0.Tools).length cp0_0), (.slice Ap0_1 (p0.Steps).length cp0_1)]), (.slice Ap1_0 (p1).length cp1_0), (.int .i64 p2)].toArray w.W fun e W' => e = .returned (.int .i64 r) ∧ HF w W' E0) {w : Bs} (p0 : TPlot) (Ap0_0 : Option Addr) (cp0_0 : Nat) (hp0_0 : Sl w.R w.W fl_TPlotTool Ap0_0 cp0_0 p0.Tools) (Ap0_1 : Option Addr) (cp0_1 : Nat) (hp0_1 : Sl w.R w.W fl_TPlotStep Ap0_1 cp0_1 p0.Steps) (p1 : (List TPlotStep)) (Ap1_0 : Option Addr) (cp1_0 : Nat) (hp1_0 : Sl w.R w.W fl_TPlotStep Ap1_0 cp1_0 p1) (p2 : Int) (r : Int) (H : F_plot_checkSteps_b N rec p0 p1 p2 = some r) (hE : HF w w.W E0) : Calls Tryd.prog 29 [(.agg #[(.int .i64 p0.Unit), (.slice Ap0_0 (p0.Tools).length cp0_0), (.slice Ap0_1 (p0.Steps).length cp0_1)]), (.slice Ap1_0 (p1).length cp1_0), (.int .i64 p2)].toArray w.W fun e W' => e = .returned (.int .i64 r) ∧ HF w W' E0 := by
 unfold F_plot_checkSteps_b at H
 have leB := Bs.Le.refl w
 refine Tr.enter (n := 34) Tryd.func29 rfl rfl rfl hE ?_
 refine Tr.sr ?_
 refine Tr.box 1 (cs := [(.int .i64 p0.Unit), (.slice Ap0_0 (p0.Tools).length cp0_0), (.slice Ap0_1 (p0.Steps).length cp0_1)]) (wn rfl) rfl rfl rfl fun b100 => ?_
 refine Tr.asg rfl rfl ?_
 refine Tr.nil (Tr.normThen ?_)
 refine Tr.seq ?_
 refine Tr.sr ?_
 refine Tr.mv rfl rfl ?_
 refine Tr.va rfl (fun _ _ h1 h2 => run_len un_23 (h1.ev rfl)) ?_
 refine Tr.mv rfl rfl ?_
 refine Tr.nil (Tr.normThen ?_)
 refine Tr.block ?_
 refine Tr.loop (σ := (List TPlotStep) × Nat) (fun m w s => m = s.1.length + 1 ∧ s.1 = List.drop s.2 p1 ∧ s.2 ≤ p1.length ∧ F_plot_checkSteps_L1 p0 p2 rec s.1 s.2 = some r) (fun s => [(2, (.int .i64 p2)), (3, (.pointer (some ⟨b100, 0, none⟩))), (11, (.slice Ap1_0 (p1).length cp1_0)), (12, (.int .i64 (p1.length : Int))), (13, (.int .i64 (s.2 : Int)))]) (fun s => [(1, bx b100 #[(.int .i64 p0.Unit), (.slice Ap0_0 (p0.Tools).length cp0_0), (.slice Ap0_1 (p0.Steps).length cp0_1)] 25)]) (p1.length + 1) (p1, 0) ⟨rfl, rfl, Nat.zero_le _, H⟩ (.cons rfl (.cons rfl (.cons rfl (.cons rfl (.cons rfl .nil))))) (.cons rfl .nil) (fun _ _ h => absurd h.1 (by simp)) ?_
 intro w leF_plot_checkSteps_L1 m s hs
 obtain ⟨restF_plot_checkSteps_L1, iF_plot_checkSteps_L1⟩ := s
 obtain ⟨hmF_plot_checkSteps_L1, hdF_plot_checkSteps_L1, hiF_plot_checkSteps_L1, H⟩ := hs
 replace hdF_plot_checkSteps_L1 : restF_plot_checkSteps_L1 = List.drop iF_plot_checkSteps_L1 p1 := hdF_plot_checkSteps_L1
 replace H : F_plot_checkSteps_L1 p0 p2 rec restF_plot_checkSteps_L1 iF_plot_checkSteps_L1 = some r := H
 replace hmF_plot_checkSteps_L1 : m + 1 = restF_plot_checkSteps_L1.length + 1 := hmF_plot_checkSteps_L1
 replace hp0_0 := hp0_0.leR leF_plot_checkSteps_L1
 replace hp0_1 := hp0_1.leR leF_plot_checkSteps_L1
 replace hp1_0 := hp1_0.leR leF_plot_checkSteps_L1
 replace leB := leB.trans leF_plot_checkSteps_L1
 obtain rfl : m = restF_plot_checkSteps_L1.length := by omega
 clear hmF_plot_checkSteps_L1
 show Tr _ _ (LF [(2, (.int .i64 p2)), (3, (.pointer (some ⟨b100, 0, none⟩))), (11, (.slice Ap1_0 (p1).length cp1_0)), (12, (.int .i64 (p1.length : Int))), (13, (.int .i64 (iF_plot_checkSteps_L1 : Int)))]) (LE [(1, bx b100 #[(.int .i64 p0.Unit), (.slice Ap0_0 (p0.Tools).length cp0_0), (.slice Ap0_1 (p0.Steps).length cp0_1)] 25)]) _
 cases restF_plot_checkSteps_L1 with
 | nil =>
  rw [F_plot_checkSteps_L1.eq_1] at H
  refine Tr.sr ?_
  refine Tr.va rfl (fun _ _ h1 h2 => run_lss (h1.ev rfl) (h1.ev rfl)) ?_
  refine Tr.nil (Tr.normThen ?_)
  refine Tr.seq ?_
  refine Tr.condF rfl (range_nil hdF_plot_checkSteps_L1) ?_
  refine Tr.exit (Tr.exitThen (Tr.exitThen (Tr.exitBlock (Tr.normThen ?_))))
  refine Tr.sr ?_
  refine Tr.asg rfl rfl ?_
  refine Tr.nil (Tr.normThen ?_)
  refine Tr.ret ?_
  obtain rfl := Option.some.inj H
  exact Tr.out (m := [(.int .i64 0)]) [] (res_tmp rfl res_nil) (fun W hW => ⟨rfl, hW.low leB⟩)
 | cons xF_plot_checkSteps_L1 restF_plot_checkSteps_L1 =>
  rw [F_plot_checkSteps_L1.eq_2] at H
  refine Tr.sr ?_
  refine Tr.va rfl (fun _ _ h1 h2 => run_lss (h1.ev rfl) (h1.ev rfl)) ?_
  refine Tr.nil (Tr.normThen ?_)
  refine Tr.seq ?_
  refine Tr.condT rfl (range_on hdF_plot_checkSteps_L1) ?_
  refine Tr.skip (Tr.normThen ?_)
  refine Tr.seq ?_
  refine Tr.block ?_
  refine Tr.sr ?_
  obtain ⟨u107, hRu107, hoku107, hcu107⟩ := (hp1_0).el (range_at hdF_plot_checkSteps_L1)
  obtain ⟨⟨Au107_0, cu107_0⟩, ⟨Au107_1, cu107_1⟩⟩ := u107
  obtain ⟨hoku107_0, hoku107_1⟩ := TPlotStep_ok.1 hoku107
  replace hoku107_0 : Sl w.R w.W fl_TPoint Au107_0 cu107_0 xF_plot_checkSteps_L1.Points := hoku107_0
  replace hoku107_1 : Sl w.R w.W fl_TPlotStep Au107_1 cu107_1 xF_plot_checkSteps_L1.Steps := hoku107_1
  refine Tr.va rfl (fun _ _ h1 h2 => run_indexAddr el_23 (h1.ev rfl) hp1_0.form (h1.ev rfl) (Int.natCast_nonneg _) (range_lt hdF_plot_checkSteps_L1)) ?_
  refine Tr.va rfl (fun _ _ h1 h2 => run_loadN (cs := [(.int .i64 xF_plot_checkSteps_L1.Kind), (.string xF_plot_checkSteps_L1.Name), (.int .i64 xF_plot_checkSteps_L1.At.X), (.int .i64 xF_plot_checkSteps_L1.At.Y), (.slice Au107_0 (xF_plot_checkSteps_L1.Points).length cu107_0), (.int .i64 xF_plot_checkSteps_L1.NX), (.int .i64 xF_plot_checkSteps_L1.NY), (.slice Au107_1 (xF_plot_checkSteps_L1.Steps).length cu107_1)]) ag_84 sz_84 (h1.ev rfl) (CellsAt.take (rdR hRu107 hcu107 h2) 8) rfl) ?_
  refine Tr.alloc 3 (wn rfl) rfl ze_84 fun b108 => ?_
  refine Tr.store 3 (cs := [(.int .i64 xF_plot_checkSteps_L1.Kind), (.string xF_plot_checkSteps_L1.Name), (.int .i64 xF_plot_checkSteps_L1.At.X), (.int .i64 xF_plot_checkSteps_L1.At.Y), (.slice Au107_0 (xF_plot_checkSteps_L1.Points).length cu107_0), (.int .i64 xF_plot_checkSteps_L1.NX), (.int .i64 xF_plot_checkSteps_L1.NY), (.slice Au107_1 (xF_plot_checkSteps_L1.Steps).length cu107_1)]) [(.int .i64 xF_plot_checkSteps_L1.Kind), (.string xF_plot_checkSteps_L1.Name), (.int .i64 xF_plot_checkSteps_L1.At.X), (.int .i64 xF_plot_checkSteps_L1.At.Y), (.slice Au107_0 (xF_plot_checkSteps_L1.Points).length cu107_0), (.int .i64 xF_plot_checkSteps_L1.NX), (.int .i64 xF_plot_checkSteps_L1.NY), (.slice Au107_1 (xF_plot_checkSteps_L1.Steps).length cu107_1)] (wn rfl) rfl rfl rfl rfl sz_84 rfl rfl rfl ?_
  refine Tr.nil (Tr.normThen ?_)
  refine Tr.seq ?_
  refine Tr.sr ?_
  refine Tr.va rfl (fun _ _ h1 h2 => run_loadN (cs := [(.int .i64 p0.Unit), (.slice Ap0_0 (p0.Tools).length cp0_0), (.slice Ap0_1 (p0.Steps).length cp0_1)]) ag_25 sz_25 (h1.ev rfl) (CellsAt.take (rdb h2 (vs := [(.int .i64 p0.Unit), (.slice Ap0_0 (p0.Tools).length cp0_0), (.slice Ap0_1 (p0.Steps).length cp0_1)]) (k := 1) rfl 0) 3) rfl) ?_
  refine Tr.va rfl (fun _ _ h1 h2 => run_loadN (cs := [(.int .i64 xF_plot_checkSteps_L1.Kind), (.string xF_plot_checkSteps_L1.Name), (.int .i64 xF_plot_checkSteps_L1.At.X), (.int .i64 xF_plot_checkSteps_L1.At.Y), (.slice Au107_0 (xF_plot_checkSteps_L1.Points).length cu107_0), (.int .i64 xF_plot_checkSteps_L1.NX), (.int .i64 xF_plot_checkSteps_L1.NY), (.slice Au107_1 (xF_plot_checkSteps_L1.Steps).length cu107_1)]) ag_84 sz_84 (h1.ev rfl) (CellsAt.take (rdb h2 (vs := [(.int .i64 xF_plot_checkSteps_L1.Kind), (.string xF_plot_checkSteps_L1.Name), (.int .i64 xF_plot_checkSteps_L1.At.X), (.int .i64 xF_plot_checkSteps_L1.At.Y), (.slice Au107_0 (xF_plot_checkSteps_L1.Points).length cu107_0), (.int .i64 xF_plot_checkSteps_L1.NX), (.int .i64 xF_plot_checkSteps_L1.NY), (.slice Au107_1 (xF_plot_checkSteps_L1.Steps).length cu107_1)]) (k := 3) rfl 0) 8) rfl) ?_
  refine Tr.mv rfl rfl ?_
  obtain ⟨y109, hy109, H⟩ := bnd H
  refine Tr.call0 (r := (.int .i64 y109)) (wn rfl) rfl Tryd.call65 (evl_cons rfl (evl_cons rfl (evl_cons rfl evl_nil))) (fun W hW => F_plot_checkStep_ok p0 Ap0_0 cp0_0 (hp0_0.ext hW.extAll) Ap0_1 cp0_1 (hp0_1.ext hW.extAll) xF_plot_checkSteps_L1 Au107_0 cu107_0 (hoku107_0.ext hW.extAll) Au107_1 cu107_1 (hoku107_1.ext hW.extAll) p2 y109 hy109 (HF.start _)) ?_
  refine Tr.asg rfl rfl ?_
  refine Tr.nil (Tr.normThen ?_)
  refine Tr.sr ?_
  refine Tr.mv rfl rfl ?_
  refine Tr.va rfl (fun _ _ h1 h2 => run_neq (h1.ev rfl) (h1.ev rfl)) ?_
  refine Tr.nil (Tr.normThen ?_)
  refine Tr.cond rfl H (fun H => ?_) (fun H => ?_)
  ·refine Tr.sr ?_
   refine Tr.mv rfl rfl ?_
   refine Tr.asg rfl rfl ?_
   refine Tr.nil (Tr.normThen ?_)
   refine Tr.ret (Tr.retThen (Tr.retBlock (Tr.retThen (Tr.retThen (Tr.retBlock (Tr.retThen ?_))))))
   obtain rfl := Option.some.inj H
   exact Tr.out (m := [(.int .i64 y109)]) [] (res_tmp rfl res_nil) (fun W hW => ⟨rfl, hW.low leB⟩)
  ·refine Tr.skip (Tr.normThen ?_)
   refine Tr.sr ?_
   refine Tr.va rfl (fun _ _ h1 h2 => run_loadN (cs := [(.int .i64 p0.Unit), (.slice Ap0_0 (p0.Tools).length cp0_0), (.slice Ap0_1 (p0.Steps).length cp0_1)]) ag_25 sz_25 (h1.ev rfl) (CellsAt.take (rdb h2 (vs := [(.int .i64 p0.Unit), (.slice Ap0_0 (p0.Tools).length cp0_0), (.slice Ap0_1 (p0.Steps).length cp0_1)]) (k := 1) rfl 0) 3) rfl) ?_
   refine Tr.va rfl (fun _ _ h1 h2 => run_fieldAddr fo_84_6 (h1.ev rfl)) ?_
   refine Tr.va rfl (fun _ _ h1 h2 => run_load1 ag_23 (h1.ev rfl) (rdb h2 (vs := [(.int .i64 xF_plot_checkSteps_L1.Kind), (.string xF_plot_checkSteps_L1.Name), (.int .i64 xF_plot_checkSteps_L1.At.X), (.int .i64 xF_plot_checkSteps_L1.At.Y), (.slice Au107_0 (xF_plot_checkSteps_L1.Points).length cu107_0), (.int .i64 xF_plot_checkSteps_L1.NX), (.int .i64 xF_plot_checkSteps_L1.NY), (.slice Au107_1 (xF_plot_checkSteps_L1.Steps).length cu107_1)]) (k := 3) rfl 7) rfl) ?_
   refine Tr.mv rfl rfl ?_
   refine Tr.va rfl (fun _ _ h1 h2 => run_add (h1.ev rfl) (h1.ev rfl)) ?_
   obtain ⟨y110, hy110, H⟩ := bnd H
   refine Tr.call0 (r := (.int .i64 y110)) (wn rfl) rfl Tryd.call29 (evl_cons rfl (evl_cons rfl (evl_cons rfl evl_nil))) (fun W hW => hrec p0 Ap0_0 cp0_0 (hp0_0.ext hW.extAll) Ap0_1 cp0_1 (hp0_1.ext hW.extAll) xF_plot_checkSteps_L1.Steps Au107_1 cu107_1 (hoku107_1.ext hW.extAll) (w64 (p2 + 1)) y110 hy110 (HF.start _)) ?_
   refine Tr.asg rfl rfl ?_
   refine Tr.nil (Tr.normThen ?_)
   refine Tr.sr ?_
   refine Tr.mv rfl rfl ?_
   refine Tr.va rfl (fun _ _ h1 h2 => run_neq (h1.ev rfl) (h1.ev rfl)) ?_
   refine Tr.nil (Tr.normThen ?_)
   refine Tr.cond rfl H (fun H => ?_) (fun H => ?_)
   ·refine Tr.sr ?_
    refine Tr.mv rfl rfl ?_
    refine Tr.asg rfl rfl ?_
    refine Tr.nil (Tr.normThen ?_)
    refine Tr.ret (Tr.retBlock (Tr.retThen (Tr.retThen (Tr.retBlock (Tr.retThen ?_)))))
    obtain rfl := Option.some.inj H
    exact Tr.out (m := [(.int .i64 y110)]) [] (res_tmp rfl res_nil) (fun W hW => ⟨rfl, hW.low leB⟩)
   ·refine Tr.skip (Tr.normBlock (Tr.normThen ?_))
    refine Tr.region ?_
    refine Tr.va rfl (fun _ _ h1 h2 => run_add (h1.ev rfl) (h1.ev rfl)) ?_
    refine Tr.mv rfl rfl ?_
    refine Tr.nil ?_
    exact Tr.backThen leF_plot_checkSteps_L1 (restF_plot_checkSteps_L1, (iF_plot_checkSteps_L1 + 1)) ⟨rfl, range_tl hdF_plot_checkSteps_L1, range_lt hdF_plot_checkSteps_L1, H⟩ (.cons rfl (.cons rfl (.cons rfl (.cons rfl (.cons (congrArg (fun z => some (Value.int .i64 z)) (range_up hdF_plot_checkSteps_L1 hp1_0.form)) .nil))))) (.cons rfl .nil)
theorem F_plot_checkSteps_ok : ∀ (N : Nat) {w : Bs} (p0 : TPlot) (Ap0_0 : Option Addr) (cp0_0 : Nat) (hp0_0 : Sl w.R w.W fl_TPlotTool Ap0_0 cp0_0 p0.Tools) (Ap0_1 : Option Addr) (cp0_1 : Nat) (hp0_1 : Sl w.R w.W fl_TPlotStep Ap0_1 cp0_1 p0.Steps) (p1 : (List TPlotStep)) (Ap1_0 : Option Addr) (cp1_0 : Nat) (hp1_0 : Sl w.R w.W fl_TPlotStep Ap1_0 cp1_0 p1) (p2 : Int) (r : Int) (H : F_plot_checkSteps N p0 p1 p2 = some r) (hE : HF w w.W E0), Calls Tryd.prog 29 [(.agg #[(.int .i64 p0.Unit), (.slice Ap0_0 (p0.Tools).length cp0_0), (.slice Ap0_1 (p0.Steps).length cp0_1)]), (.slice Ap1_0 (p1).length cp1_0), (.int .i64 p2)].toArray w.W fun e W' => e = .returned (.int .i64 r) ∧ HF w W' E0
 | 0 => by intros; rename_i H _; cases H
 | N + 1 => F_plot_checkSteps_b_ok N (F_plot_checkSteps N) (F_plot_checkSteps_ok N)

theorem F_plot_CheckPlot_ok (N : Nat) {w : Bs} (p0 : TPlot) (Ap0_0 : Option Addr) (cp0_0 : Nat) (hp0_0 : Sl w.R w.W fl_TPlotTool Ap0_0 cp0_0 p0.Tools) (Ap0_1 : Option Addr) (cp0_1 : Nat) (hp0_1 : Sl w.R w.W fl_TPlotStep Ap0_1 cp0_1 p0.Steps) (r : Int) (H : F_plot_CheckPlot N p0 = some r) (hE : HF w w.W E0) : Calls Tryd.prog 8 [(.agg #[(.int .i64 p0.Unit), (.slice Ap0_0 (p0.Tools).length cp0_0), (.slice Ap0_1 (p0.Steps).length cp0_1)])].toArray w.W fun e W' => e = .returned (.int .i64 r) ∧ HF w W' E0 := by
 unfold F_plot_CheckPlot at H
 have leB := Bs.Le.refl w
 refine Tr.enter (n := 52) Tryd.func8 rfl rfl rfl hE ?_
 refine Tr.sr ?_
 refine Tr.box 1 (cs := [(.int .i64 p0.Unit), (.slice Ap0_0 (p0.Tools).length cp0_0), (.slice Ap0_1 (p0.Steps).length cp0_1)]) (wn rfl) rfl rfl rfl fun b100 => ?_
 refine Tr.asg rfl rfl ?_
 refine Tr.nil (Tr.normThen ?_)
 refine Tr.seq ?_
 refine Tr.sr ?_
 refine Tr.va rfl (fun _ _ h1 h2 => run_fieldAddr fo_25_0 (h1.ev rfl)) ?_
 refine Tr.va rfl (fun _ _ h1 h2 => run_load1 ag_3 (h1.ev rfl) (rdb h2 (vs := [(.int .i64 p0.Unit), (.slice Ap0_0 (p0.Tools).length cp0_0), (.slice Ap0_1 (p0.Steps).length cp0_1)]) (k := 1) rfl 0) rfl) ?_
 obtain ⟨y101, hy101, H⟩ := bnd H
 refine Tr.call0 (r := (.bool y101)) (wn rfl) rfl Tryd.call26 (evl_cons rfl (evl_cons rfl (evl_cons rfl evl_nil))) (fun W hW => F_plot_within_ok p0.Unit 1 1000 y101 hy101 (HF.start _)) ?_
 refine Tr.va rfl (fun _ _ h1 h2 => run_not (h1.ev rfl)) ?_
 refine Tr.nil (Tr.normThen ?_)
 refine Tr.cond rfl H (fun H => ?_) (fun H => ?_)
 ·refine Tr.sr ?_
  refine Tr.asg rfl rfl ?_
  refine Tr.nil (Tr.normThen ?_)
  refine Tr.ret (Tr.retThen ?_)
  obtain rfl := Option.some.inj H
  exact Tr.out (m := [(.int .i64 1)]) [] (res_tmp rfl res_nil) (fun W hW => ⟨rfl, hW.low leB⟩)
 ·refine Tr.skip (Tr.normThen ?_)
  refine Tr.seq ?_
  refine Tr.sr ?_
  refine Tr.va rfl (fun _ _ h1 h2 => run_fieldAddr fo_25_1 (h1.ev rfl)) ?_
  refine Tr.va rfl (fun _ _ h1 h2 => run_load1 ag_22 (h1.ev rfl) (rdb h2 (vs := [(.int .i64 p0.Unit), (.slice Ap0_0 (p0.Tools).length cp0_0), (.slice Ap0_1 (p0.Steps).length cp0_1)]) (k := 1) rfl 1) rfl) ?_
  refine Tr.va rfl (fun _ _ h1 h2 => run_len un_22 (h1.ev rfl)) ?_
  refine Tr.va rfl (fun _ _ h1 h2 => run_gtr (h1.ev rfl) (h1.ev rfl)) ?_
  refine Tr.nil (Tr.normThen ?_)
  refine Tr.cond rfl H (fun H => ?_) (fun H => ?_)
  ·refine Tr.sr ?_
   refine Tr.asg rfl rfl ?_
   refine Tr.nil (Tr.normThen ?_)
   refine Tr.ret (Tr.retThen ?_)
   obtain rfl := Option.some.inj H
   exact Tr.out (m := [(.int .i64 2)]) [] (res_tmp rfl res_nil) (fun W hW => ⟨rfl, hW.low leB⟩)
  ·refine Tr.skip (Tr.normThen ?_)
   refine Tr.seq ?_
   refine Tr.sr ?_
   refine Tr.va rfl (fun _ _ h1 h2 => run_fieldAddr fo_25_1 (h1.ev rfl)) ?_
   refine Tr.va rfl (fun _ _ h1 h2 => run_load1 ag_22 (h1.ev rfl) (rdb h2 (vs := [(.int .i64 p0.Unit), (.slice Ap0_0 (p0.Tools).length cp0_0), (.slice Ap0_1 (p0.Steps).length cp0_1)]) (k := 1) rfl 1) rfl) ?_
   refine Tr.va rfl (fun _ _ h1 h2 => run_len un_22 (h1.ev rfl)) ?_
   refine Tr.mv rfl rfl ?_
   refine Tr.nil (Tr.normThen ?_)
   refine Tr.block ?_
   refine Tr.loop (σ := (List TPlotTool) × Nat) (fun m w s => m = s.1.length + 1 ∧ s.1 = List.drop s.2 p0.Tools ∧ s.2 ≤ p0.Tools.length ∧ F_plot_CheckPlot_L1 N p0 s.1 s.2 = some r) (fun s => [(1, (.pointer (some ⟨b100, 0, none⟩))), (15, (.slice Ap0_0 (p0.Tools).length cp0_0)), (16, (.int .i64 (p0.Tools.length : Int))), (17, (.int .i64 (s.2 : Int)))]) (fun s => [(1, bx b100 #[(.int .i64 p0.Unit), (.slice Ap0_0 (p0.Tools).length cp0_0), (.slice Ap0_1 (p0.Steps).length cp0_1)] 25)]) (p0.Tools.length + 1) (p0.Tools, 0) ⟨rfl, rfl, Nat.zero_le _, H⟩ (.cons rfl (.cons rfl (.cons rfl (.cons rfl .nil)))) (.cons rfl .nil) (fun _ _ h => absurd h.1 (by simp)) ?_
   intro w leF_plot_CheckPlot_L1 m s hs
   obtain ⟨restF_plot_CheckPlot_L1, iF_plot_CheckPlot_L1⟩ := s
   obtain ⟨hmF_plot_CheckPlot_L1, hdF_plot_CheckPlot_L1, hiF_plot_CheckPlot_L1, H⟩ := hs
   replace hdF_plot_CheckPlot_L1 : restF_plot_CheckPlot_L1 = List.drop iF_plot_CheckPlot_L1 p0.Tools := hdF_plot_CheckPlot_L1
   replace H : F_plot_CheckPlot_L1 N p0 restF_plot_CheckPlot_L1 iF_plot_CheckPlot_L1 = some r := H
   replace hmF_plot_CheckPlot_L1 : m + 1 = restF_plot_CheckPlot_L1.length + 1 := hmF_plot_CheckPlot_L1
   replace hp0_0 := hp0_0.leR leF_plot_CheckPlot_L1
   replace hp0_1 := hp0_1.leR leF_plot_CheckPlot_L1
   replace leB := leB.trans leF_plot_CheckPlot_L1
   obtain rfl : m = restF_plot_CheckPlot_L1.length := by omega
   clear hmF_plot_CheckPlot_L1
   show Tr _ _ (LF [(1, (.pointer (some ⟨b100, 0, none⟩))), (15, (.slice Ap0_0 (p0.Tools).length cp0_0)), (16, (.int .i64 (p0.Tools.length : Int))), (17, (.int .i64 (iF_plot_CheckPlot_L1 : Int)))]) (LE [(1, bx b100 #[(.int .i64 p0.Unit), (.slice Ap0_0 (p0.Tools).length cp0_0), (.slice Ap0_1 (p0.Steps).length cp0_1)] 25)]) _
   cases restF_plot_CheckPlot_L1 with
   | nil =>
    rw [F_plot_CheckPlot_L1.eq_1] at H
    refine Tr.sr ?_
    refine Tr.va rfl (fun _ _ h1 h2 => run_lss (h1.ev rfl) (h1.ev rfl)) ?_
    refine Tr.nil (Tr.normThen ?_)
    refine Tr.seq ?_
    refine Tr.condF rfl (range_nil hdF_plot_CheckPlot_L1) ?_
    refine Tr.exit (Tr.exitThen (Tr.exitThen (Tr.exitBlock (Tr.normThen ?_))))
    refine Tr.seq ?_
    refine Tr.sr ?_
    refine Tr.va rfl (fun _ _ h1 h2 => run_fieldAddr fo_25_2 (h1.ev rfl)) ?_
    refine Tr.va rfl (fun _ _ h1 h2 => run_load1 ag_23 (h1.ev rfl) (rdb h2 (vs := [(.int .i64 p0.Unit), (.slice Ap0_0 (p0.Tools).length cp0_0), (.slice Ap0_1 (p0.Steps).length cp0_1)]) (k := 1) rfl 2) rfl) ?_
    obtain ⟨y112, hy112, H⟩ := bnd H
    refine Tr.call0 (r := (.int .i64 y112)) (wn rfl) rfl Tryd.call28 (evl_cons rfl evl_nil) (fun W hW => F_plot_count_ok N p0.Steps Ap0_1 cp0_1 (hp0_1.ext hW.extAll) y112 hy112 (HF.start _)) ?_
    refine Tr.va rfl (fun _ _ h1 h2 => run_gtr (h1.ev rfl) (h1.ev rfl)) ?_
    refine Tr.nil (Tr.normThen ?_)
    refine Tr.cond rfl H (fun H => ?_) (fun H => ?_)
    ·refine Tr.sr ?_
     refine Tr.asg rfl rfl ?_
     refine Tr.nil (Tr.normThen ?_)
     refine Tr.ret (Tr.retThen ?_)
     obtain rfl := Option.some.inj H
     exact Tr.out (m := [(.int .i64 2)]) [] (res_tmp rfl res_nil) (fun W hW => ⟨rfl, hW.low leB⟩)
    ·refine Tr.skip (Tr.normThen ?_)
     refine Tr.sr ?_
     refine Tr.va rfl (fun _ _ h1 h2 => run_loadN (cs := [(.int .i64 p0.Unit), (.slice Ap0_0 (p0.Tools).length cp0_0), (.slice Ap0_1 (p0.Steps).length cp0_1)]) ag_25 sz_25 (h1.ev rfl) (CellsAt.take (rdb h2 (vs := [(.int .i64 p0.Unit), (.slice Ap0_0 (p0.Tools).length cp0_0), (.slice Ap0_1 (p0.Steps).length cp0_1)]) (k := 1) rfl 0) 3) rfl) ?_
     refine Tr.va rfl (fun _ _ h1 h2 => run_fieldAddr fo_25_2 (h1.ev rfl)) ?_
     refine Tr.va rfl (fun _ _ h1 h2 => run_load1 ag_23 (h1.ev rfl) (rdb h2 (vs := [(.int .i64 p0.Unit), (.slice Ap0_0 (p0.Tools).length cp0_0), (.slice Ap0_1 (p0.Steps).length cp0_1)]) (k := 1) rfl 2) rfl) ?_
     obtain ⟨y113, hy113, H⟩ := bnd H
     refine Tr.call0 (r := (.int .i64 y113)) (wn rfl) rfl Tryd.call29 (evl_cons rfl (evl_cons rfl (evl_cons rfl evl_nil))) (fun W hW => F_plot_checkSteps_ok N p0 Ap0_0 cp0_0 (hp0_0.ext hW.extAll) Ap0_1 cp0_1 (hp0_1.ext hW.extAll) p0.Steps Ap0_1 cp0_1 (hp0_1.ext hW.extAll) 0 y113 hy113 (HF.start _)) ?_
     refine Tr.asg rfl rfl ?_
     refine Tr.nil (Tr.normThen ?_)
     refine Tr.ret ?_
     obtain rfl := Option.some.inj H
     exact Tr.out (m := [(.int .i64 y113)]) [] (res_tmp rfl res_nil) (fun W hW => ⟨rfl, hW.low leB⟩)
   | cons xF_plot_CheckPlot_L1 restF_plot_CheckPlot_L1 =>
    rw [F_plot_CheckPlot_L1.eq_2] at H
    refine Tr.sr ?_
    refine Tr.va rfl (fun _ _ h1 h2 => run_lss (h1.ev rfl) (h1.ev rfl)) ?_
    refine Tr.nil (Tr.normThen ?_)
    refine Tr.seq ?_
    refine Tr.condT rfl (range_on hdF_plot_CheckPlot_L1) ?_
    refine Tr.skip (Tr.normThen ?_)
    refine Tr.seq ?_
    refine Tr.block ?_
    refine Tr.sr ?_
    refine Tr.mv rfl rfl ?_
    obtain ⟨u114, hRu114, hoku114, hcu114⟩ := (hp0_0).el (range_at hdF_plot_CheckPlot_L1)
    obtain ⟨Au114_0, cu114_0⟩ := u114
    have hoku114_0 := hoku114
    replace hoku114_0 : Sl w.R w.W fl_TRect Au114_0 cu114_0 xF_plot_CheckPlot_L1.Rects := hoku114_0
    refine Tr.va rfl (fun _ _ h1 h2 => run_indexAddr el_22 (h1.ev rfl) hp0_0.form (h1.ev rfl) (Int.natCast_nonneg _) (range_lt hdF_plot_CheckPlot_L1)) ?_
    refine Tr.va rfl (fun _ _ h1 h2 => run_loadN (cs := [(.string xF_plot_CheckPlot_L1.Name), (.slice Au114_0 (xF_plot_CheckPlot_L1.Rects).length cu114_0)]) ag_55 sz_55 (h1.ev rfl) (CellsAt.take (rdR hRu114 hcu114 h2) 2) rfl) ?_
    refine Tr.alloc 3 (wn rfl) rfl ze_55 fun b115 => ?_
    refine Tr.asg rfl rfl ?_
    refine Tr.store 3 (cs := [(.string xF_plot_CheckPlot_L1.Name), (.slice Au114_0 (xF_plot_CheckPlot_L1.Rects).length cu114_0)]) [(.string xF_plot_CheckPlot_L1.Name), (.slice Au114_0 (xF_plot_CheckPlot_L1.Rects).length cu114_0)] (wn rfl) rfl rfl rfl rfl sz_55 rfl rfl rfl ?_
    refine Tr.nil (Tr.normThen ?_)
    refine Tr.seq ?_
    refine Tr.sr ?_
    refine Tr.va rfl (fun _ _ h1 h2 => run_loadN (cs := [(.string xF_plot_CheckPlot_L1.Name), (.slice Au114_0 (xF_plot_CheckPlot_L1.Rects).length cu114_0)]) ag_55 sz_55 (h1.ev rfl) (CellsAt.take (rdb h2 (vs := [(.string xF_plot_CheckPlot_L1.Name), (.slice Au114_0 (xF_plot_CheckPlot_L1.Rects).length cu114_0)]) (k := 3) rfl 0) 2) rfl) ?_
    refine Tr.va rfl (fun _ _ h1 h2 => run_fieldAddr fo_25_0 (h1.ev rfl)) ?_
    refine Tr.va rfl (fun _ _ h1 h2 => run_load1 ag_3 (h1.ev rfl) (rdb h2 (vs := [(.int .i64 p0.Unit), (.slice Ap0_0 (p0.Tools).length cp0_0), (.slice Ap0_1 (p0.Steps).length cp0_1)]) (k := 1) rfl 0) rfl) ?_
    obtain ⟨y116, hy116, H⟩ := bnd H
    refine Tr.call0 (r := (.int .i64 y116)) (wn rfl) rfl Tryd.call27 (evl_cons rfl (evl_cons rfl evl_nil)) (fun W hW => F_plot_checkTool_ok N xF_plot_CheckPlot_L1 Au114_0 cu114_0 (hoku114_0.ext hW.extAll) p0.Unit y116 hy116 (HF.start _)) ?_
    refine Tr.asg rfl rfl ?_
    refine Tr.nil (Tr.normThen ?_)
    refine Tr.sr ?_
    refine Tr.mv rfl rfl ?_
    refine Tr.va rfl (fun _ _ h1 h2 => run_neq (h1.ev rfl) (h1.ev rfl)) ?_
    refine Tr.nil (Tr.normThen ?_)
    refine Tr.cond rfl H (fun H => ?_) (fun H => ?_)
    ·refine Tr.sr ?_
     refine Tr.mv rfl rfl ?_
     refine Tr.asg rfl rfl ?_
     refine Tr.nil (Tr.normThen ?_)
     refine Tr.ret (Tr.retThen (Tr.retBlock (Tr.retThen (Tr.retThen (Tr.retBlock (Tr.retThen ?_))))))
     obtain rfl := Option.some.inj H
     exact Tr.out (m := [(.int .i64 y116)]) [] (res_tmp rfl res_nil) (fun W hW => ⟨rfl, hW.low leB⟩)
    ·refine Tr.skip (Tr.normThen ?_)
     refine Tr.seq ?_
     refine Tr.draw (by kernel_rfl) (by kernel_rfl) ?_
     refine Tq.mv rfl rfl ?_
     refine Tq.va rfl (fun _ _ h1 h2 => run_gtr (h1.ev rfl) (h1.ev rfl)) ?_
     refine Tq.mv rfl rfl ?_
     obtain ⟨g119, hg119, H⟩ := bnd H
     refine Tq.mid 11 [(1, (.pointer (some ⟨b100, 0, none⟩))), (15, (.slice Ap0_0 (p0.Tools).length cp0_0)), (16, (.int .i64 (p0.Tools.length : Int))), (17, (.int .i64 (iF_plot_CheckPlot_L1 : Int))), (42, (.bool g119))] ?_ ?_
     ·cases hg121 : (decide (0 < (iF_plot_CheckPlot_L1 : Int)))
      ·rw [hg121] at hg119
       rw [if_neg (by decide)] at hg119
       have H := hg119
       obtain rfl := Option.some.inj H
       refine Tq.pass rfl rfl rfl rfl rfl (by decide) ?_
       refine Tq.pass rfl rfl rfl rfl rfl (by decide) ?_
       refine Tq.pass rfl rfl rfl rfl rfl (by decide) ?_
       refine Tq.pass rfl rfl rfl rfl rfl (by decide) ?_
       refine Tq.pass rfl rfl rfl rfl rfl (by decide) ?_
       refine Tq.pass rfl rfl rfl rfl rfl (by decide) ?_
       refine Tq.pass rfl rfl rfl rfl rfl (by decide) ?_
       refine Tq.pass rfl rfl rfl rfl rfl (by decide) ?_
       refine Tq.pass rfl rfl rfl rfl rfl (by decide) ?_
       refine Tq.pass rfl rfl rfl rfl rfl (by decide) ?_
       refine Tq.va rfl (fun _ _ h1 h2 => run_pickF (h1.ev rfl) (h1.ev rfl)) ?_
       exact Tq.fin (.cons rfl (.cons rfl (.cons rfl (.cons rfl (.cons rfl .nil)))))
      ·rw [hg121] at hg119
       rw [if_pos rfl] at hg119
       have H := hg119
       refine Tq.val (wg rfl rfl rfl) rfl (fun _ _ h1 h2 => run_fieldAddr fo_55_0 (h1.ev rfl)) ?_
       refine Tq.val (wg rfl rfl rfl) rfl (fun _ _ h1 h2 => run_load1 ag_9 (h1.ev rfl) (rdb h2 (vs := [(.string xF_plot_CheckPlot_L1.Name), (.slice Au114_0 (xF_plot_CheckPlot_L1.Rects).length cu114_0)]) (k := 3) rfl 0) rfl) ?_
       refine Tq.val (wg rfl rfl rfl) rfl (fun _ _ h1 h2 => run_fieldAddr fo_25_1 (h1.ev rfl)) ?_
       refine Tq.val (wg rfl rfl rfl) rfl (fun _ _ h1 h2 => run_load1 ag_22 (h1.ev rfl) (rdb h2 (vs := [(.int .i64 p0.Unit), (.slice Ap0_0 (p0.Tools).length cp0_0), (.slice Ap0_1 (p0.Steps).length cp0_1)]) (k := 1) rfl 1) rfl) ?_
       refine Tq.val (wg rfl rfl rfl) rfl (fun _ _ h1 h2 => run_move (h1.ev rfl)) ?_
       refine Tq.val (wg rfl rfl rfl) rfl (fun _ _ h1 h2 => run_sub (h1.ev rfl) (h1.ev rfl)) ?_
       obtain ⟨x120, hx120, H⟩ := bnd H
       obtain ⟨hx1200, hx1201, hx1202⟩ := idx_some hx120
       obtain ⟨u121, hRu121, hoku121, hcu121⟩ := (hp0_0).el hx1202
       obtain ⟨Au121_0, cu121_0⟩ := u121
       have hoku121_0 := hoku121
       replace hoku121_0 : Sl w.R w.W fl_TRect Au121_0 cu121_0 x120.Rects := hoku121_0
       refine Tq.val (wg rfl rfl rfl) rfl (fun _ _ h1 h2 => run_indexAddr el_22 (h1.ev rfl) hp0_0.form (h1.ev rfl) hx1200 hx1201) ?_
       refine Tq.val (wg rfl rfl rfl) rfl (fun _ _ h1 h2 => run_fieldAddr fo_55_0 (h1.ev rfl)) ?_
       refine Tq.val (wg rfl rfl rfl) rfl (fun _ _ h1 h2 => run_load1 ag_9 (h1.ev rfl) (CellsAt.drop (rdR hRu121 hcu121 h2) 0) rfl) ?_
       refine Tq.val (wg rfl rfl rfl) rfl (fun _ _ h1 h2 => run_leqS (h1.ev rfl) (h1.ev rfl)) ?_
       refine Tq.va rfl (fun _ _ h1 h2 => run_pickT (h1.ev rfl) (h1.ev rfl)) ?_
       obtain rfl := Option.some.inj H
       exact Tq.fin (.cons rfl (.cons rfl (.cons rfl (.cons rfl (.cons rfl .nil)))))
     ·refine Tq.nil (Tr.normThen ?_)
      refine Tr.cond rfl H (fun H => ?_) (fun H => ?_)
      ·refine Tr.sr ?_
       refine Tr.asg rfl rfl ?_
       refine Tr.nil (Tr.normThen ?_)
       refine Tr.ret (Tr.retBlock (Tr.retThen (Tr.retThen (Tr.retBlock (Tr.retThen ?_)))))
       obtain rfl := Option.some.inj H
       exact Tr.out (m := [(.int .i64 8)]) [] (res_tmp rfl res_nil) (fun W hW => ⟨rfl, hW.low leB⟩)
      ·refine Tr.skip (Tr.normBlock (Tr.normThen ?_))
       refine Tr.region ?_
       refine Tr.va rfl (fun _ _ h1 h2 => run_add (h1.ev rfl) (h1.ev rfl)) ?_
       refine Tr.mv rfl rfl ?_
       refine Tr.nil ?_
       exact Tr.backThen leF_plot_CheckPlot_L1 (restF_plot_CheckPlot_L1, (iF_plot_CheckPlot_L1 + 1)) ⟨rfl, range_tl hdF_plot_CheckPlot_L1, range_lt hdF_plot_CheckPlot_L1, H⟩ (.cons rfl (.cons rfl (.cons rfl (.cons (congrArg (fun z => some (Value.int .i64 z)) (range_up hdF_plot_CheckPlot_L1 hp0_0.form)) .nil)))) (.cons rfl .nil)

theorem F_plot_scaled_1_ok {w : Bs} (p0 : Int) (q0 : Bool) (bq0 : Nat) (q1 : TPlot) (Aq1_0 : Option Addr) (cq1_0 : Nat) (hq1_0 : Sl w.R w.W fl_TPlotTool Aq1_0 cq1_0 q1.Tools) (Aq1_1 : Option Addr) (cq1_1 : Nat) (hq1_1 : Sl w.R w.W fl_TPlotStep Aq1_1 cq1_1 q1.Steps) (bq1 : Nat) (hb1 : w.R bq1) (hc1 : CellsAt w.W bq1 0 [(.int .i64 q1.Unit), (.slice Aq1_0 (q1.Tools).length cq1_0), (.slice Aq1_1 (q1.Steps).length cq1_1)]) (q2 : Int) (bq2 : Nat) (hb2 : w.R bq2) (hc2 : CellsAt w.W bq2 0 [(.int .i64 q2)]) (r : (Int × Bool)) (H : F_plot_scaled_1 p0 q0 q1 q2 = some r) (hE : HF w w.W (LEn [bx bq0 #[(.bool q0)] 4])) : Calls Tryd.prog 69 [(.int .i64 p0), (.pointer (some ⟨bq0, 0, none⟩)), (.pointer (some ⟨bq1, 0, none⟩)), (.pointer (some ⟨bq2, 0, none⟩))].toArray w.W fun e W' => ∃ u : Unit, e = .returned (.int .i64 r.1) ∧ (True) ∧ HF w W' (LEn [bx bq0 #[(.bool r.2)] 4]) := by
 unfold F_plot_scaled_1 at H
 have leB := Bs.Le.refl w
 refine Tr.enter (n := 22) Tryd.func69 rfl rfl rfl hE ?_
 refine Tr.sr ?_
 refine Tr.asg rfl rfl ?_
 refine Tr.nil (Tr.normThen ?_)
 refine Tr.sr ?_
 refine Tr.va rfl (fun _ _ h1 h2 => run_load1 ag_4 (h1.ev rfl) (rdb h2 (vs := [(.bool q0)]) (k := 0) rfl 0) rfl) ?_
 refine Tr.mv rfl rfl ?_
 obtain ⟨g101, hg101, H⟩ := bnd H
 refine Tr.mid0 8 [(0, (.int .i64 p0)), (1, (.pointer (some ⟨bq0, 0, none⟩))), (2, (.pointer (some ⟨bq1, 0, none⟩))), (3, (.pointer (some ⟨bq2, 0, none⟩))), (15, (.bool g101))] [(0, bx bq0 #[(.bool q0)] 4)] ?_ ?_
 ·cases hg103 : q0
  ·rw [hg103] at hg101
   rw [if_neg (by decide)] at hg101
   have H := hg101
   obtain rfl := Option.some.inj H
   refine Tr.pass rfl rfl rfl rfl rfl (by decide) ?_
   refine Tr.pass rfl rfl rfl rfl rfl (by decide) ?_
   refine Tr.pass rfl rfl rfl rfl rfl (by decide) ?_
   refine Tr.pass rfl rfl rfl rfl rfl (by decide) ?_
   refine Tr.pass rfl rfl rfl rfl rfl (by decide) ?_
   refine Tr.pass rfl rfl rfl rfl rfl (by decide) ?_
   refine Tr.pass rfl rfl rfl rfl rfl (by decide) ?_
   refine Tr.va rfl (fun _ _ h1 h2 => run_pickF (h1.ev rfl) (h1.ev rfl)) ?_
   exact Tr.nil (Tr.fin0 (.cons rfl (.cons rfl (.cons rfl (.cons rfl (.cons rfl .nil))))) (.cons rfl .nil))
  ·rw [hg103] at hg101
   rw [if_pos rfl] at hg101
   have H := hg101
   refine Tr.val (wg rfl rfl rfl) rfl (fun _ _ h1 h2 => run_move (h1.ev rfl)) ?_
   refine Tr.val (wg rfl rfl rfl) rfl (fun _ _ h1 h2 => run_fieldAddr fo_25_0 (h1.ev rfl)) ?_
   refine Tr.val (wg rfl rfl rfl) rfl (fun _ _ h1 h2 => run_load1 ag_3 (h1.ev rfl) (CellsAt.drop (rdR hb1 hc1 h2) 0) rfl) ?_
   refine Tr.val (wg rfl rfl rfl) rfl (fun _ _ h1 h2 => run_mul (h1.ev rfl) (h1.ev rfl)) ?_
   refine Tr.val (wg rfl rfl rfl) rfl (fun _ _ h1 h2 => run_load1 ag_3 (h1.ev rfl) (rdR hb2 hc2 h2) rfl) ?_
   obtain ⟨q102, hq102, H⟩ := bnd H
   refine Tr.val (wg rfl rfl rfl) rfl (fun _ _ h1 h2 => run_md (h1.ev rfl) (h1.ev rfl) hq102) ?_
   refine Tr.val (wg rfl rfl rfl) rfl (fun _ _ h1 h2 => run_eql (h1.ev rfl) (h1.ev rfl)) ?_
   refine Tr.va rfl (fun _ _ h1 h2 => run_pickT (h1.ev rfl) (h1.ev rfl)) ?_
   obtain rfl := Option.some.inj H
   exact Tr.nil (Tr.fin0 (.cons rfl (.cons rfl (.cons rfl (.cons rfl (.cons rfl .nil))))) (.cons rfl .nil))
 ·show Tr _ _ (LF [(0, (.int .i64 p0)), (1, (.pointer (some ⟨bq0, 0, none⟩))), (2, (.pointer (some ⟨bq1, 0, none⟩))), (3, (.pointer (some ⟨bq2, 0, none⟩))), (15, (.bool g101))]) (LE [(0, bx bq0 #[(.bool q0)] 4)]) _
  refine Tr.store 0 (cs := [(.bool g101)]) [(.bool g101)] (wn rfl) rfl rfl rfl rfl sz_4 rfl rfl rfl ?_
  refine Tr.nil (Tr.normThen ?_)
  refine Tr.sr ?_
  refine Tr.mv rfl rfl ?_
  refine Tr.va rfl (fun _ _ h1 h2 => run_fieldAddr fo_25_0 (h1.ev rfl)) ?_
  refine Tr.va rfl (fun _ _ h1 h2 => run_load1 ag_3 (h1.ev rfl) (CellsAt.drop (rdR hb1 hc1 h2) 0) rfl) ?_
  refine Tr.va rfl (fun _ _ h1 h2 => run_mul (h1.ev rfl) (h1.ev rfl)) ?_
  refine Tr.va rfl (fun _ _ h1 h2 => run_load1 ag_3 (h1.ev rfl) (rdR hb2 hc2 h2) rfl) ?_
  obtain ⟨q103, hq103, H⟩ := bnd H
  refine Tr.va rfl (fun _ _ h1 h2 => run_dv (h1.ev rfl) (h1.ev rfl) hq103) ?_
  refine Tr.asg rfl rfl ?_
  refine Tr.nil (Tr.normThen ?_)
  refine Tr.ret ?_
  obtain rfl := Option.some.inj H
  exact Tr.out (m := [(.int .i64 q103)]) [] (res_tmp rfl res_nil) (fun W hW => ⟨(), rfl, trivial, HF.lowE leB (hW.pick (ks := [0]) (by decide) (pk_cons rfl pk_nil)) ⟨bx_any _ _ _, trivial⟩⟩)

theorem F_disp_101_ok (N : Nat) (x : Nat) {w : Bs} (p0 : Int) (r : Int) (H : F_disp_101 N x p0 = some r) (hE : HF w w.W E0) : Calls Tryd.prog x [(.int .i64 p0)].toArray w.W fun e W' => e = .returned (.int .i64 r) ∧ HF w W' E0 := by
 unfold F_disp_101 at H
 by_cases hx : x = 86
 ·rw [if_pos hx] at H; subst hx; exact F_plot_times_1_ok p0 r H hE
 rw [if_neg hx] at H
 cases H
theorem F_disp_101_call (N : Nat) (x : Nat) (p0 : Int) (r : Int) (H : F_disp_101 N x p0 = some r) : ∀ args W, (callFunc x args).run Tryd.prog W = .ok (.enter x args) W := by
 unfold F_disp_101 at H
 by_cases hx : x = 86
 ·subst hx; exact Tryd.call86
 rw [if_neg hx] at H
 cases H

theorem F_plot_changed_1_ok (N : Nat) {w : Bs} (p0 : TPoint) (q0 : Nat) (bq0 : Nat) (hb0 : w.R bq0) (hc0 : CellsAt w.W bq0 0 [(.func (.func q0) #[] #[])]) (r : TPoint) (H : F_plot_changed_1 N p0 q0 = some r) (hE : HF w w.W E0) : Calls Tryd.prog 96 [(.agg #[(.int .i64 p0.X), (.int .i64 p0.Y)]), (.pointer (some ⟨bq0, 0, none⟩))].toArray w.W fun e W' => e = .returned (.agg #[(.int .i64 r.X), (.int .i64 r.Y)]) ∧ HF w W' E0 := by
 unfold F_plot_changed_1 at H
 have leB := Bs.Le.refl w
 refine Tr.enter (n := 13) Tryd.func96 rfl rfl rfl hE ?_
 refine Tr.sr ?_
 refine Tr.box 1 (cs := [(.int .i64 p0.X), (.int .i64 p0.Y)]) (wn rfl) rfl rfl rfl fun b100 => ?_
 refine Tr.alloc 2 (wn rfl) rfl ze_37 fun b101 => ?_
 refine Tr.nil (Tr.normThen ?_)
 refine Tr.seq ?_
 refine Tr.drawTail 7 (by kernel_rfl) (by kernel_rfl) ?_
 refine Tq.va rfl (fun _ _ h1 h2 => run_load1 ag_101 (h1.ev rfl) (rdR hb0 hc0 h2) rfl) ?_
 refine Tq.va rfl (fun _ _ h1 h2 => run_fieldAddr fo_37_0 (h1.ev rfl)) ?_
 refine Tq.va rfl (fun _ _ h1 h2 => run_load1 ag_3 (h1.ev rfl) (rdb h2 (vs := [(.int .i64 p0.X), (.int .i64 p0.Y)]) (k := 1) rfl 0) rfl) ?_
 obtain ⟨y102, hy102, H⟩ := bnd H
 refine Tq.callF (r := (.int .i64 y102)) (wn rfl) rfl rfl (F_disp_101_call N q0 p0.X _ hy102) (evl_cons rfl evl_nil) (fun W hW => F_disp_101_ok N q0 p0.X y102 hy102 (HF.start _)) ?_
 refine Tq.va rfl (fun _ _ h1 h2 => run_load1 ag_101 (h1.ev rfl) (rdR hb0 hc0 h2) rfl) ?_
 refine Tq.va rfl (fun _ _ h1 h2 => run_fieldAddr fo_37_1 (h1.ev rfl)) ?_
 refine Tq.va rfl (fun _ _ h1 h2 => run_load1 ag_3 (h1.ev rfl) (rdb h2 (vs := [(.int .i64 p0.X), (.int .i64 p0.Y)]) (k := 1) rfl 1) rfl) ?_
 refine Tq.nil ?_
 obtain ⟨y103, hy103, H⟩ := bnd H
 refine Tr.callF (r := (.int .i64 y103)) (wn rfl) rfl rfl (F_disp_101_call N q0 p0.Y _ hy103) (evl_cons rfl evl_nil) (fun W hW => F_disp_101_ok N q0 p0.Y y103 hy103 (HF.start _)) ?_
 refine Tr.build (vs := [(0, (.int .i64 y102)), (1, (.int .i64 y103))]) (cs := [(.int .i64 y102), (.int .i64 y103)]) (wn rfl) rfl (evs_cons rfl (evs_cons rfl evs_nil)) (by kernel_rfl) ?_
 refine Tr.store 2 (cs := [(.int .i64 y102), (.int .i64 y103)]) [(.int .i64 y102), (.int .i64 y103)] (wn rfl) rfl rfl rfl rfl sz_37 rfl rfl rfl ?_
 refine Tr.nil (Tr.normThen ?_)
 refine Tr.ret ?_
 obtain rfl := Option.some.inj H
 exact Tr.out (m := [(.agg #[(.int .i64 y102), (.int .i64 y103)])]) [2] (res_cell rfl rfl ag_37 sz_37 res_nil) (fun W hW => ⟨rfl, hW.low leB⟩)

theorem F_plot_changed_2_ok (N : Nat) {w : Bs} (p0 : TRect) (q0 : Nat) (bq0 : Nat) (hb0 : w.R bq0) (hc0 : CellsAt w.W bq0 0 [(.func (.func q0) #[] #[])]) (r : TRect) (H : F_plot_changed_2 N p0 q0 = some r) (hE : HF w w.W E0) : Calls Tryd.prog 97 [(.agg #[(.int .i64 p0.X0), (.int .i64 p0.Y0), (.int .i64 p0.X1), (.int .i64 p0.Y1)]), (.pointer (some ⟨bq0, 0, none⟩))].toArray w.W fun e W' => e = .returned (.agg #[(.int .i64 r.X0), (.int .i64 r.Y0), (.int .i64 r.X1), (.int .i64 r.Y1)]) ∧ HF w W' E0 := by
 unfold F_plot_changed_2 at H
 have leB := Bs.Le.refl w
 refine Tr.enter (n := 21) Tryd.func97 rfl rfl rfl hE ?_
 refine Tr.sr ?_
 refine Tr.box 1 (cs := [(.int .i64 p0.X0), (.int .i64 p0.Y0), (.int .i64 p0.X1), (.int .i64 p0.Y1)]) (wn rfl) rfl rfl rfl fun b100 => ?_
 refine Tr.alloc 2 (wn rfl) rfl ze_57 fun b101 => ?_
 refine Tr.nil (Tr.normThen ?_)
 refine Tr.seq ?_
 refine Tr.drawTail 15 (by kernel_rfl) (by kernel_rfl) ?_
 refine Tq.va rfl (fun _ _ h1 h2 => run_load1 ag_101 (h1.ev rfl) (rdR hb0 hc0 h2) rfl) ?_
 refine Tq.va rfl (fun _ _ h1 h2 => run_fieldAddr fo_57_0 (h1.ev rfl)) ?_
 refine Tq.va rfl (fun _ _ h1 h2 => run_load1 ag_3 (h1.ev rfl) (rdb h2 (vs := [(.int .i64 p0.X0), (.int .i64 p0.Y0), (.int .i64 p0.X1), (.int .i64 p0.Y1)]) (k := 1) rfl 0) rfl) ?_
 obtain ⟨y102, hy102, H⟩ := bnd H
 refine Tq.callF (r := (.int .i64 y102)) (wn rfl) rfl rfl (F_disp_101_call N q0 p0.X0 _ hy102) (evl_cons rfl evl_nil) (fun W hW => F_disp_101_ok N q0 p0.X0 y102 hy102 (HF.start _)) ?_
 refine Tq.va rfl (fun _ _ h1 h2 => run_load1 ag_101 (h1.ev rfl) (rdR hb0 hc0 h2) rfl) ?_
 refine Tq.va rfl (fun _ _ h1 h2 => run_fieldAddr fo_57_1 (h1.ev rfl)) ?_
 refine Tq.va rfl (fun _ _ h1 h2 => run_load1 ag_3 (h1.ev rfl) (rdb h2 (vs := [(.int .i64 p0.X0), (.int .i64 p0.Y0), (.int .i64 p0.X1), (.int .i64 p0.Y1)]) (k := 1) rfl 1) rfl) ?_
 obtain ⟨y103, hy103, H⟩ := bnd H
 refine Tq.callF (r := (.int .i64 y103)) (wn rfl) rfl rfl (F_disp_101_call N q0 p0.Y0 _ hy103) (evl_cons rfl evl_nil) (fun W hW => F_disp_101_ok N q0 p0.Y0 y103 hy103 (HF.start _)) ?_
 refine Tq.va rfl (fun _ _ h1 h2 => run_load1 ag_101 (h1.ev rfl) (rdR hb0 hc0 h2) rfl) ?_
 refine Tq.va rfl (fun _ _ h1 h2 => run_fieldAddr fo_57_2 (h1.ev rfl)) ?_
 refine Tq.va rfl (fun _ _ h1 h2 => run_load1 ag_3 (h1.ev rfl) (rdb h2 (vs := [(.int .i64 p0.X0), (.int .i64 p0.Y0), (.int .i64 p0.X1), (.int .i64 p0.Y1)]) (k := 1) rfl 2) rfl) ?_
 obtain ⟨y104, hy104, H⟩ := bnd H
 refine Tq.callF (r := (.int .i64 y104)) (wn rfl) rfl rfl (F_disp_101_call N q0 p0.X1 _ hy104) (evl_cons rfl evl_nil) (fun W hW => F_disp_101_ok N q0 p0.X1 y104 hy104 (HF.start _)) ?_
 refine Tq.va rfl (fun _ _ h1 h2 => run_load1 ag_101 (h1.ev rfl) (rdR hb0 hc0 h2) rfl) ?_
 refine Tq.va rfl (fun _ _ h1 h2 => run_fieldAddr fo_57_3 (h1.ev rfl)) ?_
 refine Tq.va rfl (fun _ _ h1 h2 => run_load1 ag_3 (h1.ev rfl) (rdb h2 (vs := [(.int .i64 p0.X0), (.int .i64 p0.Y0), (.int .i64 p0.X1), (.int .i64 p0.Y1)]) (k := 1) rfl 3) rfl) ?_
 refine Tq.nil ?_
 obtain ⟨y105, hy105, H⟩ := bnd H
 refine Tr.callF (r := (.int .i64 y105)) (wn rfl) rfl rfl (F_disp_101_call N q0 p0.Y1 _ hy105) (evl_cons rfl evl_nil) (fun W hW => F_disp_101_ok N q0 p0.Y1 y105 hy105 (HF.start _)) ?_
 refine Tr.build (vs := [(0, (.int .i64 y102)), (1, (.int .i64 y103)), (2, (.int .i64 y104)), (3, (.int .i64 y105))]) (cs := [(.int .i64 y102), (.int .i64 y103), (.int .i64 y104), (.int .i64 y105)]) (wn rfl) rfl (evs_cons rfl (evs_cons rfl (evs_cons rfl (evs_cons rfl evs_nil)))) (by kernel_rfl) ?_
 refine Tr.store 2 (cs := [(.int .i64 y102), (.int .i64 y103), (.int .i64 y104), (.int .i64 y105)]) [(.int .i64 y102), (.int .i64 y103), (.int .i64 y104), (.int .i64 y105)] (wn rfl) rfl rfl rfl rfl sz_57 rfl rfl rfl ?_
 refine Tr.nil (Tr.normThen ?_)
 refine Tr.ret ?_
 obtain rfl := Option.some.inj H
 exact Tr.out (m := [(.agg #[(.int .i64 y102), (.int .i64 y103), (.int .i64 y104), (.int .i64 y105)])]) [2] (res_cell rfl rfl ag_57 sz_57 res_nil) (fun W hW => ⟨rfl, hW.low leB⟩)

theorem F_slices_Clone_PlotTool_ok {w : Bs} (p0 : (List TPlotTool)) (Ap0_0 : Option Addr) (cp0_0 : Nat) (hp0_0 : Sl w.O w.W fl_TPlotTool Ap0_0 cp0_0 p0) (r : (List TPlotTool)) (H : F_slices_Clone_PlotTool p0 = some r) (hE : HF w w.W (LEn [emp])) : Calls Tryd.prog 76 [(.slice Ap0_0 (p0).length cp0_0)].toArray w.W fun e W' => ∃ (w' : Bs) (u : (Option Addr × Nat)), w.Le w' ∧ e = .returned (.slice u.1 (r).length u.2) ∧ (SlF u.1 (r).length u.2) ∧ HF w' W' (LEn [ow u.1 u.2 55 fl_TPlotTool r]) := by
 unfold F_slices_Clone_PlotTool at H
 have leB := Bs.Le.refl w
 refine Tr.enter (n := 8) Tryd.func76 rfl rfl rfl hE ?_
 refine Tr.sr ?_
 refine Tr.asg rfl rfl ?_
 refine Tr.nilOwn 1 55 fl_TPlotTool ?_
 show Tr _ _ (uf _ 2 (.slice none (([] : List TPlotTool)).length 0)) _ _
 refine Tr.nil (Tr.normThen ?_)
 refine Tr.seq ?_
 refine Tr.sr ?_
 refine Tr.mv rfl rfl ?_
 refine Tr.va rfl (fun _ _ h1 h2 => run_eqlNil un_22 (h1.ev rfl) (h1.ev rfl)) ?_
 refine Tr.nil (Tr.normThen ?_)
 cases Ap0_0 with
 | none =>
  have hl0 := slf_none hp0_0.form
  replace H : (some ([] : List TPlotTool)) = some r := by simpa [apd, hl0] using H
  refine Tr.condT rfl rfl ?_
  refine Tr.sr ?_
  refine Tr.asg rfl rfl ?_
  refine Tr.nilOwn 2 55 fl_TPlotTool ?_
  show Tr _ _ (uf _ 2 (.slice none (([] : List TPlotTool)).length 0)) _ _
  refine Tr.nil (Tr.normThen ?_)
  refine Tr.ret (Tr.retThen ?_)
  obtain rfl := Option.some.inj H
  exact Tr.out (m := [(.slice none (([] : List TPlotTool)).length 0)]) [] (res_tmp rfl res_nil) (fun W hW => ⟨w, (none, 0), leB, rfl, slf_nil, hW.pick (ks := [2]) (by decide) (pk_cons rfl pk_nil)⟩)
 | some a102 =>
  refine Tr.condF rfl rfl ?_
  refine Tr.skip (Tr.normThen ?_)
  refine Tr.sr ?_
  refine Tr.buildSlice 3 (e := 55) (vs := []) (cs := []) (wn rfl) rfl evs_nil (by kernel_rfl) fun b100 => ?_
  refine Tr.mv rfl rfl ?_
  refine Tr.own 3 fl_TPlotTool ([] : List TPlotTool) (css := []) rfl .nil rfl (by decide) (lit_max rfl) ?_
  obtain ⟨l101, hl101, H⟩ := bnd H
  refine Tr.appendS 3 (t := fl_TPlotTool) (l := ([] : List TPlotTool)) (l2 := p0) (wn rfl) rfl rfl rfl rfl (apO hp0_0) un_22 sz_55 zl_55 (by decide) by_55 rfl hl101 fun Al101 cl101 hAl101 => ?_
  refine Tr.asg rfl rfl ?_
  refine Tr.nil (Tr.normThen ?_)
  refine Tr.ret ?_
  obtain rfl := Option.some.inj H
  exact Tr.out (m := [(.slice Al101 (l101).length cl101)]) [] (res_tmp rfl res_nil) (fun W hW => ⟨w, (Al101, cl101), leB, rfl, hAl101, hW.pick (ks := [3]) (by decide) (pk_cons rfl pk_nil)⟩)

theorem F_slices_Clone_Rect_ok {w : Bs} (p0 : (List TRect)) (Ap0_0 : Option Addr) (cp0_0 : Nat) (hp0_0 : Sl w.R w.W fl_TRect Ap0_0 cp0_0 p0) (r : (List TRect)) (H : F_slices_Clone_Rect p0 = some r) (hE : HF w w.W (LEn [emp])) : Calls Tryd.prog 77 [(.slice Ap0_0 (p0).length cp0_0)].toArray w.W fun e W' => ∃ u : (Option Addr × Nat), e = .returned (.slice u.1 (r).length u.2) ∧ (SlF u.1 (r).length u.2) ∧ HF w W' (LEn [ow u.1 u.2 57 fl_TRect r]) := by
 unfold F_slices_Clone_Rect at H
 have leB := Bs.Le.refl w
 refine Tr.enter (n := 8) Tryd.func77 rfl rfl rfl hE ?_
 refine Tr.sr ?_
 refine Tr.asg rfl rfl ?_
 refine Tr.nilOwn 1 57 fl_TRect ?_
 show Tr _ _ (uf _ 2 (.slice none (([] : List TRect)).length 0)) _ _
 refine Tr.nil (Tr.normThen ?_)
 refine Tr.seq ?_
 refine Tr.sr ?_
 refine Tr.mv rfl rfl ?_
 refine Tr.va rfl (fun _ _ h1 h2 => run_eqlNil un_53 (h1.ev rfl) (h1.ev rfl)) ?_
 refine Tr.nil (Tr.normThen ?_)
 cases Ap0_0 with
 | none =>
  have hl0 := slf_none hp0_0.form
  replace H : (some ([] : List TRect)) = some r := by simpa [apd, hl0] using H
  refine Tr.condT rfl rfl ?_
  refine Tr.sr ?_
  refine Tr.asg rfl rfl ?_
  refine Tr.nilOwn 2 57 fl_TRect ?_
  show Tr _ _ (uf _ 2 (.slice none (([] : List TRect)).length 0)) _ _
  refine Tr.nil (Tr.normThen ?_)
  refine Tr.ret (Tr.retThen ?_)
  obtain rfl := Option.some.inj H
  exact Tr.out (m := [(.slice none (([] : List TRect)).length 0)]) [] (res_tmp rfl res_nil) (fun W hW => ⟨(none, 0), rfl, slf_nil, HF.lowE leB (hW.pick (ks := [2]) (by decide) (pk_cons rfl pk_nil)) ⟨ow_any _ _ _ _ tr_TRect, trivial⟩⟩)
 | some a102 =>
  refine Tr.condF rfl rfl ?_
  refine Tr.skip (Tr.normThen ?_)
  refine Tr.sr ?_
  refine Tr.buildSlice 3 (e := 57) (vs := []) (cs := []) (wn rfl) rfl evs_nil (by kernel_rfl) fun b100 => ?_
  refine Tr.mv rfl rfl ?_
  refine Tr.own 3 fl_TRect ([] : List TRect) (css := []) rfl .nil rfl (by decide) (lit_max rfl) ?_
  obtain ⟨l101, hl101, H⟩ := bnd H
  refine Tr.appendS 3 (t := fl_TRect) (l := ([] : List TRect)) (l2 := p0) (wn rfl) rfl rfl rfl rfl (apT tr_TRect (fun W hW => (Sl.inB hp0_0 hW))) un_53 sz_57 zl_57 (by decide) by_57 rfl hl101 fun Al101 cl101 hAl101 => ?_
  refine Tr.asg rfl rfl ?_
  refine Tr.nil (Tr.normThen ?_)
  refine Tr.ret ?_
  obtain rfl := Option.some.inj H
  exact Tr.out (m := [(.slice Al101 (l101).length cl101)]) [] (res_tmp rfl res_nil) (fun W hW => ⟨(Al101, cl101), rfl, hAl101, HF.lowE leB (hW.pick (ks := [3]) (by decide) (pk_cons rfl pk_nil)) ⟨ow_any _ _ _ _ tr_TRect, trivial⟩⟩)

theorem F_plot_ownTools_ok (N : Nat) {w : Bs} (p0 : (List TPlotTool)) (Ap0_0 : Option Addr) (cp0_0 : Nat) (hp0_0 : Sl w.O w.W fl_TPlotTool Ap0_0 cp0_0 p0) (p1 : TRect → Option TRect) (fid1 : Nat) (cap1 : List Value) (hg1 : ∀ args W, (callFunc fid1 args).run Tryd.prog W = .ok (.enter fid1 args) W) (hf1 : ∀ (w' : Bs), w.Ext w' → ∀ (z0 : TRect), ∀ y, p1 z0 = some y → Calls Tryd.prog fid1 (([(.agg #[(.int .i64 z0.X0), (.int .i64 z0.Y0), (.int .i64 z0.X1), (.int .i64 z0.Y1)])] : List Value) ++ cap1).toArray w'.W fun e W'' => e = .returned (.agg #[(.int .i64 y.X0), (.int .i64 y.Y0), (.int .i64 y.X1), (.int .i64 y.Y1)]) ∧ HF w' W'' E0) (r : (List TPlotTool)) (H : F_plot_ownTools N p0 p1 = some r) (hE : HF w w.W (LEn [emp])) : Calls Tryd.prog 44 [(.slice Ap0_0 (p0).length cp0_0), (.func (.func fid1) #[] cap1.toArray)].toArray w.W fun e W' => ∃ (w' : Bs) (u : (Option Addr × Nat)), w.Le w' ∧ e = .returned (.slice u.1 (r).length u.2) ∧ (SlF u.1 (r).length u.2) ∧ HF w' W' (LEn [ow u.1 u.2 55 fl_TPlotTool r]) := by
 unfold F_plot_ownTools at H
 have leB := Bs.Le.refl w
 refine Tr.enter (n := 50) Tryd.func44 rfl rfl rfl hE ?_
 refine Tr.sr ?_
 refine Tr.asg rfl rfl ?_
 refine Tr.nilOwn 1 55 fl_TPlotTool ?_
 show Tr _ _ (uf _ 4 (.slice none (([] : List TPlotTool)).length 0)) _ _
 refine Tr.nil (Tr.normThen ?_)
 refine Tr.sr ?_
 refine Tr.mv rfl rfl ?_
 obtain ⟨y100, hy100, H⟩ := bnd H
 refine Tr.callG [2] [emp] (U := (Option Addr × Nat)) (fun u => (.slice u.1 (y100).length u.2)) (fun O W u => SlF u.1 (y100).length u.2) (fun u => [ow u.1 u.2 55 fl_TPlotTool y100]) rfl (pk_cons rfl pk_nil) (fun _ => rfl) (wn rfl) rfl Tryd.call76 (evl_cons rfl evl_nil) (fun W hW hp hE => F_slices_Clone_PlotTool_ok p0 Ap0_0 cp0_0 (hp0_0.extO (hW.extS hp)) y100 hy100 hE) ?_
 intro w u le101 hu
 obtain ⟨Ay100_0, cy100_0⟩ := u
 have gy100_0 := hu
 replace hp0_0 := hp0_0.le le101
 replace hf1 := fun w' he => hf1 w' (le101.ext.trans he)
 replace leB := leB.trans le101
 have hgy100_0 : SlF Ay100_0 (y100).length cy100_0 := gy100_0 --@phi
 show Tr _ _ (uf _ 10 (.slice Ay100_0 (y100).length cy100_0)) (up _ 2 (ow Ay100_0 cy100_0 55 fl_TPlotTool y100)) _
 refine Tr.asg rfl rfl ?_
 refine Tr.nil (Tr.normThen ?_)
 refine Tr.seq ?_
 refine Tr.sr ?_
 refine Tr.mv rfl rfl ?_
 refine Tr.va rfl (fun _ _ h1 h2 => run_len un_22 (h1.ev rfl)) ?_
 refine Tr.mv rfl rfl ?_
 refine Tr.nil (Tr.normThen ?_)
 refine Tr.block ?_
 refine Tr.loop (σ := (List TPlotTool) × Int × (Option Addr) × Nat) (fun m w s => F_plot_ownTools_L3 p1 y100 m s.1 s.2.1 = some r ∧ SlF s.2.2.1 (s.1).length s.2.2.2) (fun s => [(1, (.func (.func fid1) #[] cap1.toArray)), (5, (.slice s.2.2.1 (s.1).length s.2.2.2)), (12, (.int .i64 (y100.length : Int))), (13, (.int .i64 s.2.1))]) (fun s => [(2, ow s.2.2.1 s.2.2.2 55 fl_TPlotTool s.1)]) N (y100, 0, Ay100_0, cy100_0) ⟨H, hgy100_0⟩ (.cons rfl (.cons rfl (.cons rfl (.cons rfl .nil)))) (.cons rfl .nil) (fun _ _ h => noSome (h.1)) ?_
 intro w leF_plot_ownTools_L3 mF_plot_ownTools_L3 s hs
 obtain ⟨l184, x185, Al184, cl184⟩ := s
 obtain ⟨H, hl184⟩ := hs
 replace H : F_plot_ownTools_L3 p1 y100 (mF_plot_ownTools_L3 + 1) l184 x185 = some r := H
 replace hf1 := fun w' he => hf1 w' (leF_plot_ownTools_L3.ext.trans he)
 replace leB := leB.trans leF_plot_ownTools_L3
 replace hl184 : SlF Al184 (l184).length cl184 := hl184
 rw [F_plot_ownTools_L3.eq_2] at H
 show Tr _ _ (LF [(1, (.func (.func fid1) #[] cap1.toArray)), (5, (.slice Al184 (l184).length cl184)), (12, (.int .i64 (y100.length : Int))), (13, (.int .i64 x185))]) (LE [(2, ow Al184 cl184 55 fl_TPlotTool l184)]) _
 refine Tr.sr ?_
 refine Tr.va rfl (fun _ _ h1 h2 => run_lss (h1.ev rfl) (h1.ev rfl)) ?_
 refine Tr.nil (Tr.normThen ?_)
 refine Tr.seq ?_
 refine Tr.cond rfl H (fun H => ?_) (fun H => ?_)
 ·refine Tr.skip (Tr.normThen ?_)
  refine Tr.seq ?_
  refine Tr.block ?_
  refine Tr.sr ?_
  refine Tr.mv rfl rfl ?_
  refine Tr.asg rfl rfl ?_
  refine Tr.nil (Tr.normThen ?_)
  refine Tr.sr ?_
  refine Tr.mv rfl rfl ?_
  refine Tr.mv rfl rfl ?_
  refine Tr.mv rfl rfl ?_
  refine Tr.mv rfl rfl ?_
  obtain ⟨x186, hx186, H⟩ := bnd H
  obtain ⟨hx1860, hx1861, hx1862⟩ := idx_some hx186
  refine Tr.va rfl (fun _ _ h1 h2 => run_indexAddr el_22 (h1.ev rfl) hl184 (h1.ev rfl) hx1860 hx1861) ?_
  refine Tr.va rfl (fun _ _ h1 h2 => run_fieldAddr fo_55_1 (h1.ev rfl)) ?_
  refine Tr.valE (U := (fl_TPlotTool).Ad) (fun u => (fl_TPlotTool).ok w.O w.W u x186) (fun u => (.slice u.1 (x186.Rects).length u.2)) (wn rfl) rfl (ldN (κ := 2) (t := fl_TPlotTool) (V := fun u => (.slice u.1 (x186.Rects).length u.2)) rfl hx1862 (fun _ _ u h1 hc => run_load1 ag_53 (h1.ev rfl) (hc.drop 1) rfl)) ?_
  intro u187 hoku187
  obtain ⟨Au187_0, cu187_0⟩ := u187
  have hoku187_0 := hoku187
  replace hoku187_0 : Sl w.O w.W fl_TRect Au187_0 cu187_0 x186.Rects := hoku187_0
  show Tr _ _ (uf _ 22 (.slice Au187_0 (x186.Rects).length cu187_0)) _ _
  obtain ⟨y188, hy188, H⟩ := bnd H
  refine Tr.callM [11] [emp] (U := (Option Addr × Nat)) (fun u => (.slice u.1 (y188).length u.2)) (fun u => SlF u.1 (y188).length u.2) (fun u => [ow u.1 u.2 57 fl_TRect y188]) rfl (pk_cons rfl pk_nil) (fun _ => rfl) (wn rfl) rfl Tryd.call77 (evl_cons rfl evl_nil) (fun W hW hp hE => F_slices_Clone_Rect_ok x186.Rects Au187_0 cu187_0 (hoku187_0.rl.ext (hW.extS hp)) y188 hy188 hE) ?_
  intro u hu
  obtain ⟨Ay188_0, cy188_0⟩ := u
  have gy188_0 := hu
  have hgy188_0 : SlF Ay188_0 (y188).length cy188_0 := gy188_0 --@phi
  show Tr _ _ (uf _ 23 (.slice Ay188_0 (y188).length cy188_0)) (up _ 11 (ow Ay188_0 cy188_0 57 fl_TRect y188)) _
  obtain ⟨x190, hx190, H⟩ := bnd H
  obtain ⟨hx1900, hx1901, hx1902⟩ := idx_some hx190
  refine Tr.va rfl (fun _ _ h1 h2 => run_indexAddr el_22 (h1.ev rfl) hl184 (h1.ev rfl) hx1900 hx1901) ?_
  refine Tr.va rfl (fun _ _ h1 h2 => run_fieldAddr fo_55_1 (h1.ev rfl)) ?_
  refine Tr.mixOpen 2 rfl hx1902 ?_
  intro u191 hoku191
  obtain ⟨Au191_0, cu191_0⟩ := u191
  have hoku191_0 := hoku191
  replace hoku191_0 : Sl w.O w.W fl_TRect Au191_0 cu191_0 x190.Rects := hoku191_0
  show Tr _ _ _ (up _ 2 (ow Al184 cl184 55 (mix fl_TPlotTool) (mixL l184 (x185).toNat (raw fl_TPlotTool [(.string x190.Name), (.slice Au191_0 (x190.Rects).length cu191_0)] rfl rfl)))) _
  refine Tr.storeMix 2 (raw fl_TPlotTool [(.string x190.Name), (.slice Ay188_0 (y188).length cy188_0)] rfl rfl) (cs := [(.slice Ay188_0 (y188).length cy188_0)]) (fo := 1) (wn rfl) rfl rfl rfl rfl rfl (List.getElem?_eq_some_iff.1 hx1902).1 sz_53 rfl rfl rfl ?_
  refine Tr.nil (Tr.normThen ?_)
  refine Tr.sr ?_
  refine Tr.mv rfl rfl ?_
  refine Tr.mv rfl rfl ?_
  obtain ⟨x192, hx192, H⟩ := bnd H
  obtain ⟨hx1920, hx1921, hx1922⟩ := idx_some hx192
  refine Tr.va rfl (fun _ _ h1 h2 => run_indexAddr el_22 (h1.ev rfl) hl184 (h1.ev rfl) hx1920 hx1921) ?_
  refine Tr.va rfl (fun _ _ h1 h2 => run_fieldAddr fo_55_1 (h1.ev rfl)) ?_
  refine Tr.va rfl (fun _ _ h1 h2 => run_load1 ag_53 (h1.ev rfl) (CellsAt.drop (rdm (cs := raw fl_TPlotTool [(.string x190.Name), (.slice Ay188_0 (y188).length cy188_0)] rfl rfl) h2 (κ := 2) rfl (List.getElem?_eq_some_iff.1 hx1922).1) 1) rfl) ?_
  refine Tr.va rfl (fun _ _ h1 h2 => run_len un_53 (h1.ev rfl)) ?_
  refine Tr.mv rfl rfl ?_
  refine Tr.nil (Tr.normThen ?_)
  refine Tr.block ?_
  refine Tr.loop (σ := (List TRect) × Nat × (List TRect) × (Option Addr) × Nat) (fun m w s => m = s.1.length + 1 ∧ s.1 = List.drop s.2.1 y188 ∧ s.2.1 ≤ y188.length ∧ F_plot_ownTools_L4 p1 l184 x185 (F_plot_ownTools_L3 p1 y100 mF_plot_ownTools_L3) x190 s.1 s.2.1 s.2.2.1 = some r ∧ SlF s.2.2.2.1 (s.2.2.1).length s.2.2.2.2) (fun s => [(1, (.func (.func fid1) #[] cap1.toArray)), (5, (.slice Al184 (l184).length cl184)), (6, (.int .i64 x185)), (12, (.int .i64 (y100.length : Int))), (13, (.int .i64 x185)), (30, (.slice s.2.2.2.1 (s.2.2.1).length s.2.2.2.2)), (31, (.int .i64 (y188.length : Int))), (32, (.int .i64 (s.2.1 : Int)))]) (fun s => [(2, ow Al184 cl184 55 (mix fl_TPlotTool) (mixL l184 (x185).toNat (raw fl_TPlotTool [(.string x190.Name), (.slice s.2.2.2.1 (s.2.2.1).length s.2.2.2.2)] rfl rfl))), (11, ow s.2.2.2.1 s.2.2.2.2 57 fl_TRect s.2.2.1)]) (y188.length + 1) (y188, 0, y188, Ay188_0, cy188_0) ⟨rfl, rfl, Nat.zero_le _, H, hgy188_0⟩ (.cons rfl (.cons rfl (.cons rfl (.cons rfl (.cons rfl (.cons rfl (.cons rfl (.cons rfl .nil)))))))) (.cons rfl (.cons rfl .nil)) (fun _ _ h => absurd h.1 (by simp)) ?_
  intro w leF_plot_ownTools_L4 m s hs
  obtain ⟨restF_plot_ownTools_L4, iF_plot_ownTools_L4, l211, Al211, cl211⟩ := s
  obtain ⟨hmF_plot_ownTools_L4, hdF_plot_ownTools_L4, hiF_plot_ownTools_L4, H, hl211⟩ := hs
  replace hdF_plot_ownTools_L4 : restF_plot_ownTools_L4 = List.drop iF_plot_ownTools_L4 y188 := hdF_plot_ownTools_L4
  replace H : F_plot_ownTools_L4 p1 l184 x185 (F_plot_ownTools_L3 p1 y100 mF_plot_ownTools_L3) x190 restF_plot_ownTools_L4 iF_plot_ownTools_L4 l211 = some r := H
  replace hmF_plot_ownTools_L4 : m + 1 = restF_plot_ownTools_L4.length + 1 := hmF_plot_ownTools_L4
  replace hf1 := fun w' he => hf1 w' (leF_plot_ownTools_L4.ext.trans he)
  replace leB := leB.trans leF_plot_ownTools_L4
  replace leF_plot_ownTools_L3 := leF_plot_ownTools_L3.trans leF_plot_ownTools_L4
  replace hl211 : SlF Al211 (l211).length cl211 := hl211
  obtain rfl : m = restF_plot_ownTools_L4.length := by omega
  clear hmF_plot_ownTools_L4
  show Tr _ _ (LF [(1, (.func (.func fid1) #[] cap1.toArray)), (5, (.slice Al184 (l184).length cl184)), (6, (.int .i64 x185)), (12, (.int .i64 (y100.length : Int))), (13, (.int .i64 x185)), (30, (.slice Al211 (l211).length cl211)), (31, (.int .i64 (y188.length : Int))), (32, (.int .i64 (iF_plot_ownTools_L4 : Int)))]) (LE [(2, ow Al184 cl184 55 (mix fl_TPlotTool) (mixL l184 (x185).toNat (raw fl_TPlotTool [(.string x190.Name), (.slice Al211 (l211).length cl211)] rfl rfl))), (11, ow Al211 cl211 57 fl_TRect l211)]) _
  cases restF_plot_ownTools_L4 with
  | nil =>
   rw [F_plot_ownTools_L4.eq_1] at H
   refine Tr.sr ?_
   refine Tr.va rfl (fun _ _ h1 h2 => run_lss (h1.ev rfl) (h1.ev rfl)) ?_
   refine Tr.nil (Tr.normThen ?_)
   refine Tr.seq ?_
   refine Tr.condF rfl (range_nil hdF_plot_ownTools_L4) ?_
   refine Tr.exit (Tr.exitThen (Tr.exitThen (Tr.exitBlock (Tr.normBlock (Tr.normThen ?_)))))
   refine Tr.region ?_
   refine Tr.va rfl (fun _ _ h1 h2 => run_add (h1.ev rfl) (h1.ev rfl)) ?_
   refine Tr.mv rfl rfl ?_
   refine Tr.nil ?_
   refine Tr.freeze 11 rfl fun w le213 hz212 => ?_
   replace hf1 := fun w' he => hf1 w' (le213.ext.trans he)
   replace leB := leB.trans le213
   replace leF_plot_ownTools_L3 := leF_plot_ownTools_L3.trans le213
   replace leF_plot_ownTools_L4 := leF_plot_ownTools_L4.trans le213
   refine Tr.mixClose 2 rfl ((Al211, cl211)) (TPlotTool.mk x190.Name l211) hz212 rfl ?_
   have hs214 : ((l184).set (x185).toNat (TPlotTool.mk x190.Name l211)).length = (l184).length := List.length_set
   have hfhs214 : SlF Al184 ((l184).set (x185).toNat (TPlotTool.mk x190.Name l211)).length cl184 := by rw [hs214]; exact hl184
   refine Tr.sel (lf := [(1, (.func (.func fid1) #[] cap1.toArray)), (5, (.slice Al184 (((l184).set (x185).toNat (TPlotTool.mk x190.Name l211))).length cl184)), (6, (.int .i64 x185)), (12, (.int .i64 (y100.length : Int))), (13, (.int .i64 (w64 (x185 + 1)))), (30, (.slice Al211 (l211).length cl211)), (31, (.int .i64 (y188.length : Int))), (32, (.int .i64 (iF_plot_ownTools_L4 : Int))), (33, (.bool (decide ((iF_plot_ownTools_L4 : Int) < (y188.length : Int))))), (48, (.int .i64 (w64 (x185 + 1))))]) (le := [(2, ow Al184 cl184 55 fl_TPlotTool ((l184).set (x185).toNat (TPlotTool.mk x190.Name l211)))]) (.cons rfl (.cons (slenV rfl (by rw [hs214])) (.cons rfl (.cons rfl (.cons rfl (.cons rfl (.cons rfl (.cons rfl (.cons rfl (.cons rfl .nil)))))))))) (.cons rfl .nil) ?_
   exact Tr.backThen leF_plot_ownTools_L3 (((l184).set (x185).toNat (TPlotTool.mk x190.Name l211)), (w64 (x185 + 1)), Al184, cl184) ⟨H, hfhs214⟩ (.cons rfl (.cons rfl (.cons rfl (.cons rfl .nil)))) (.cons rfl .nil)
  | cons xF_plot_ownTools_L4 restF_plot_ownTools_L4 =>
   rw [F_plot_ownTools_L4.eq_2] at H
   refine Tr.sr ?_
   refine Tr.va rfl (fun _ _ h1 h2 => run_lss (h1.ev rfl) (h1.ev rfl)) ?_
   refine Tr.nil (Tr.normThen ?_)
   refine Tr.seq ?_
   refine Tr.condT rfl (range_on hdF_plot_ownTools_L4) ?_
   refine Tr.skip (Tr.normThen ?_)
   refine Tr.seq ?_
   refine Tr.block ?_
   refine Tr.sr ?_
   refine Tr.mv rfl rfl ?_
   obtain ⟨x215, hx215, H⟩ := bnd H
   obtain ⟨hx2150, hx2151, hx2152⟩ := idx_some hx215
   refine Tr.va rfl (fun _ _ h1 h2 => run_indexAddr el_53 (h1.ev rfl) hl211 (h1.ev rfl) hx2150 hx2151) ?_
   refine Tr.va rfl (fun _ _ h1 h2 => run_loadN (cs := [(.int .i64 x215.X0), (.int .i64 x215.Y0), (.int .i64 x215.X1), (.int .i64 x215.Y1)]) ag_57 sz_57 (h1.ev rfl) (CellsAt.take (rdo ef_TRect (k := 11) h2 rfl hx2152) 4) rfl) ?_
   refine Tr.alloc 14 (wn rfl) rfl ze_57 fun b216 => ?_
   refine Tr.asg rfl rfl ?_
   refine Tr.store 14 (cs := [(.int .i64 x215.X0), (.int .i64 x215.Y0), (.int .i64 x215.X1), (.int .i64 x215.Y1)]) [(.int .i64 x215.X0), (.int .i64 x215.Y0), (.int .i64 x215.X1), (.int .i64 x215.Y1)] (wn rfl) rfl rfl rfl rfl sz_57 rfl rfl rfl ?_
   refine Tr.nil (Tr.normThen ?_)
   refine Tr.drawTail 9 (by kernel_rfl) (by kernel_rfl) ?_
   refine Tq.mv rfl rfl ?_
   refine Tq.mv rfl rfl ?_
   obtain ⟨x217, hx217, H⟩ := bnd H
   obtain ⟨hx2170, hx2171, hx2172⟩ := idx_some hx217
   refine Tq.va rfl (fun _ _ h1 h2 => run_indexAddr el_22 (h1.ev rfl) hl184 (h1.ev rfl) hx2170 hx2171) ?_
   refine Tq.va rfl (fun _ _ h1 h2 => run_fieldAddr fo_55_1 (h1.ev rfl)) ?_
   refine Tq.va rfl (fun _ _ h1 h2 => run_load1 ag_53 (h1.ev rfl) (CellsAt.drop (rdm (cs := raw fl_TPlotTool [(.string x190.Name), (.slice Al211 (l211).length cl211)] rfl rfl) h2 (κ := 2) rfl (List.getElem?_eq_some_iff.1 hx2172).1) 1) rfl) ?_
   refine Tq.mv rfl rfl ?_
   refine Tq.mv rfl rfl ?_
   refine Tq.va rfl (fun _ _ h1 h2 => run_loadN (cs := [(.int .i64 x215.X0), (.int .i64 x215.Y0), (.int .i64 x215.X1), (.int .i64 x215.Y1)]) ag_57 sz_57 (h1.ev rfl) (CellsAt.take (rdb h2 (vs := [(.int .i64 x215.X0), (.int .i64 x215.Y0), (.int .i64 x215.X1), (.int .i64 x215.Y1)]) (k := 14) rfl 0) 4) rfl) ?_
   obtain ⟨y218, hy218, H⟩ := bnd H
   refine Tq.callF (r := (.agg #[(.int .i64 y218.X0), (.int .i64 y218.Y0), (.int .i64 y218.X1), (.int .i64 y218.Y1)])) (wn rfl) rfl rfl hg1 (evl_cons rfl evl_nil) (fun W hW => hf1 hW.all hW.extAll x215 _ hy218) ?_
   refine Tq.nil ?_
   obtain ⟨x219, hx219, H⟩ := bnd H
   obtain ⟨hx2190, hx2191, hx2192⟩ := idx_some hx219
   refine Tr.va rfl (fun _ _ h1 h2 => run_indexAddr el_53 (h1.ev rfl) hl211 (h1.ev rfl) hx2190 hx2191) ?_
   obtain ⟨l220, hl220, H⟩ := bnd H
   have hnl220 := sets_len hl220
   refine Tr.storeEl 11 (t := fl_TRect) (l := l211) (i := (iF_plot_ownTools_L4 : Int)) (fo := 0) (cs := [(.int .i64 y218.X0), (.int .i64 y218.Y0), (.int .i64 y218.X1), (.int .i64 y218.Y1)]) y218 (wn rfl) rfl rfl rfl rfl rfl hx2192 sz_57 rfl (fun u _ => ⟨u, trivial, rfl⟩) rfl hl220 ?_
   have hfl220 : SlF Al211 (l220).length cl211 := by rw [hnl220]; exact hl211
   refine Tr.sel (lf := [(1, (.func (.func fid1) #[] cap1.toArray)), (5, (.slice Al184 (l184).length cl184)), (6, (.int .i64 x185)), (7, (.int .i64 (iF_plot_ownTools_L4 : Int))), (8, (.pointer (some ⟨b216, 0, none⟩))), (12, (.int .i64 (y100.length : Int))), (13, (.int .i64 x185)), (30, (.slice Al211 (l220).length cl211)), (31, (.int .i64 (y188.length : Int))), (32, (.int .i64 (iF_plot_ownTools_L4 : Int))), (33, (.bool (decide ((iF_plot_ownTools_L4 : Int) < (y188.length : Int))))), (34, (.int .i64 (iF_plot_ownTools_L4 : Int))), (36, (.agg #[(.int .i64 x215.X0), (.int .i64 x215.Y0), (.int .i64 x215.X1), (.int .i64 x215.Y1)])), (37, (.slice Al184 (l184).length cl184)), (38, (.int .i64 x185)), (39, (.pointer (some ⟨adB Al184, adO Al184 + (x185).toNat * 2, none⟩))), (40, (.pointer (some ⟨adB Al184, adO Al184 + (x185).toNat * 2 + 1, none⟩))), (41, (.slice Al211 (l220).length cl211)), (42, (.int .i64 (iF_plot_ownTools_L4 : Int))), (43, (.func (.func fid1) #[] cap1.toArray)), (44, (.agg #[(.int .i64 x215.X0), (.int .i64 x215.Y0), (.int .i64 x215.X1), (.int .i64 x215.Y1)])), (45, (.agg #[(.int .i64 y218.X0), (.int .i64 y218.Y0), (.int .i64 y218.X1), (.int .i64 y218.Y1)]))]) (le := [(2, ow Al184 cl184 55 (mix fl_TPlotTool) (mixL l184 (x185).toNat (raw fl_TPlotTool [(.string x190.Name), (.slice Al211 (l220).length cl211)] rfl rfl))), (11, ow Al211 cl211 57 fl_TRect l220), (14, bx b216 #[(.int .i64 x215.X0), (.int .i64 x215.Y0), (.int .i64 x215.X1), (.int .i64 x215.Y1)] 57)]) (.cons rfl (.cons rfl (.cons rfl (.cons rfl (.cons rfl (.cons rfl (.cons rfl (.cons (slenV rfl (by rw [hnl220])) (.cons rfl (.cons rfl (.cons rfl (.cons rfl (.cons rfl (.cons rfl (.cons rfl (.cons rfl (.cons rfl (.cons (slenV rfl (by rw [hnl220])) (.cons rfl (.cons rfl (.cons rfl (.cons rfl .nil)))))))))))))))))))))) (.cons (emix rfl (by rw [hnl220])) (.cons rfl (.cons rfl .nil))) ?_
   refine Tr.nil (Tr.normBlock (Tr.normThen ?_))
   refine Tr.region ?_
   refine Tr.va rfl (fun _ _ h1 h2 => run_add (h1.ev rfl) (h1.ev rfl)) ?_
   refine Tr.mv rfl rfl ?_
   refine Tr.nil ?_
   exact Tr.backThen leF_plot_ownTools_L4 (restF_plot_ownTools_L4, (iF_plot_ownTools_L4 + 1), l220, Al211, cl211) ⟨rfl, range_tl hdF_plot_ownTools_L4, range_lt hdF_plot_ownTools_L4, H, hfl220⟩ (.cons rfl (.cons rfl (.cons rfl (.cons rfl (.cons rfl (.cons rfl (.cons rfl (.cons (congrArg (fun z => some (Value.int .i64 z)) (range_up hdF_plot_ownTools_L4 hgy188_0)) .nil)))))))) (.cons rfl (.cons rfl .nil))
 ·refine Tr.exit (Tr.exitThen (Tr.exitThen (Tr.exitBlock (Tr.normThen ?_))))
  refine Tr.sr ?_
  refine Tr.mv rfl rfl ?_
  refine Tr.asg rfl rfl ?_
  refine Tr.nil (Tr.normThen ?_)
  refine Tr.ret ?_
  obtain rfl := Option.some.inj H
  exact Tr.out (m := [(.slice Al184 (l184).length cl184)]) [] (res_tmp rfl res_nil) (fun W hW => ⟨w, (Al184, cl184), leB, rfl, hl184, hW.pick (ks := [2]) (by decide) (pk_cons rfl pk_nil)⟩)

theorem F_slices_Clone_PlotStep_ok {w : Bs} (p0 : (List TPlotStep)) (Ap0_0 : Option Addr) (cp0_0 : Nat) (hp0_0 : Sl w.O w.W fl_TPlotStep Ap0_0 cp0_0 p0) (r : (List TPlotStep)) (H : F_slices_Clone_PlotStep p0 = some r) (hE : HF w w.W (LEn [emp])) : Calls Tryd.prog 74 [(.slice Ap0_0 (p0).length cp0_0)].toArray w.W fun e W' => ∃ (w' : Bs) (u : (Option Addr × Nat)), w.Le w' ∧ e = .returned (.slice u.1 (r).length u.2) ∧ (SlF u.1 (r).length u.2) ∧ HF w' W' (LEn [ow u.1 u.2 84 fl_TPlotStep r]) := by
 unfold F_slices_Clone_PlotStep at H
 have leB := Bs.Le.refl w
 refine Tr.enter (n := 8) Tryd.func74 rfl rfl rfl hE ?_
 refine Tr.sr ?_
 refine Tr.asg rfl rfl ?_
 refine Tr.nilOwn 1 84 fl_TPlotStep ?_
 show Tr _ _ (uf _ 2 (.slice none (([] : List TPlotStep)).length 0)) _ _
 refine Tr.nil (Tr.normThen ?_)
 refine Tr.seq ?_
 refine Tr.sr ?_
 refine Tr.mv rfl rfl ?_
 refine Tr.va rfl (fun _ _ h1 h2 => run_eqlNil un_23 (h1.ev rfl) (h1.ev rfl)) ?_
 refine Tr.nil (Tr.normThen ?_)
 cases Ap0_0 with
 | none =>
  have hl0 := slf_none hp0_0.form
  replace H : (some ([] : List TPlotStep)) = some r := by simpa [apd, hl0] using H
  refine Tr.condT rfl rfl ?_
  refine Tr.sr ?_
  refine Tr.asg rfl rfl ?_
  refine Tr.nilOwn 2 84 fl_TPlotStep ?_
  show Tr _ _ (uf _ 2 (.slice none (([] : List TPlotStep)).length 0)) _ _
  refine Tr.nil (Tr.normThen ?_)
  refine Tr.ret (Tr.retThen ?_)
  obtain rfl := Option.some.inj H
  exact Tr.out (m := [(.slice none (([] : List TPlotStep)).length 0)]) [] (res_tmp rfl res_nil) (fun W hW => ⟨w, (none, 0), leB, rfl, slf_nil, hW.pick (ks := [2]) (by decide) (pk_cons rfl pk_nil)⟩)
 | some a102 =>
  refine Tr.condF rfl rfl ?_
  refine Tr.skip (Tr.normThen ?_)
  refine Tr.sr ?_
  refine Tr.buildSlice 3 (e := 84) (vs := []) (cs := []) (wn rfl) rfl evs_nil (by kernel_rfl) fun b100 => ?_
  refine Tr.mv rfl rfl ?_
  refine Tr.own 3 fl_TPlotStep ([] : List TPlotStep) (css := []) rfl .nil rfl (by decide) (lit_max rfl) ?_
  obtain ⟨l101, hl101, H⟩ := bnd H
  refine Tr.appendS 3 (t := fl_TPlotStep) (l := ([] : List TPlotStep)) (l2 := p0) (wn rfl) rfl rfl rfl rfl (apO hp0_0) un_23 sz_84 zl_84 (by decide) by_84 rfl hl101 fun Al101 cl101 hAl101 => ?_
  refine Tr.asg rfl rfl ?_
  refine Tr.nil (Tr.normThen ?_)
  refine Tr.ret ?_
  obtain rfl := Option.some.inj H
  exact Tr.out (m := [(.slice Al101 (l101).length cl101)]) [] (res_tmp rfl res_nil) (fun W hW => ⟨w, (Al101, cl101), leB, rfl, hAl101, hW.pick (ks := [3]) (by decide) (pk_cons rfl pk_nil)⟩)

theorem F_slices_Clone_Point_ok {w : Bs} (p0 : (List TPoint)) (Ap0_0 : Option Addr) (cp0_0 : Nat) (hp0_0 : Sl w.R w.W fl_TPoint Ap0_0 cp0_0 p0) (r : (List TPoint)) (H : F_slices_Clone_Point p0 = some r) (hE : HF w w.W (LEn [emp])) : Calls Tryd.prog 75 [(.slice Ap0_0 (p0).length cp0_0)].toArray w.W fun e W' => ∃ u : (Option Addr × Nat), e = .returned (.slice u.1 (r).length u.2) ∧ (SlF u.1 (r).length u.2) ∧ HF w W' (LEn [ow u.1 u.2 37 fl_TPoint r]) := by
 unfold F_slices_Clone_Point at H
 have leB := Bs.Le.refl w
 refine Tr.enter (n := 8) Tryd.func75 rfl rfl rfl hE ?_
 refine Tr.sr ?_
 refine Tr.asg rfl rfl ?_
 refine Tr.nilOwn 1 37 fl_TPoint ?_
 show Tr _ _ (uf _ 2 (.slice none (([] : List TPoint)).length 0)) _ _
 refine Tr.nil (Tr.normThen ?_)
 refine Tr.seq ?_
 refine Tr.sr ?_
 refine Tr.mv rfl rfl ?_
 refine Tr.va rfl (fun _ _ h1 h2 => run_eqlNil un_82 (h1.ev rfl) (h1.ev rfl)) ?_
 refine Tr.nil (Tr.normThen ?_)
 cases Ap0_0 with
 | none =>
  have hl0 := slf_none hp0_0.form
  replace H : (some ([] : List TPoint)) = some r := by simpa [apd, hl0] using H
  refine Tr.condT rfl rfl ?_
  refine Tr.sr ?_
  refine Tr.asg rfl rfl ?_
  refine Tr.nilOwn 2 37 fl_TPoint ?_
  show Tr _ _ (uf _ 2 (.slice none (([] : List TPoint)).length 0)) _ _
  refine Tr.nil (Tr.normThen ?_)
  refine Tr.ret (Tr.retThen ?_)
  obtain rfl := Option.some.inj H
  exact Tr.out (m := [(.slice none (([] : List TPoint)).length 0)]) [] (res_tmp rfl res_nil) (fun W hW => ⟨(none, 0), rfl, slf_nil, HF.lowE leB (hW.pick (ks := [2]) (by decide) (pk_cons rfl pk_nil)) ⟨ow_any _ _ _ _ tr_TPoint, trivial⟩⟩)
 | some a102 =>
  refine Tr.condF rfl rfl ?_
  refine Tr.skip (Tr.normThen ?_)
  refine Tr.sr ?_
  refine Tr.buildSlice 3 (e := 37) (vs := []) (cs := []) (wn rfl) rfl evs_nil (by kernel_rfl) fun b100 => ?_
  refine Tr.mv rfl rfl ?_
  refine Tr.own 3 fl_TPoint ([] : List TPoint) (css := []) rfl .nil rfl (by decide) (lit_max rfl) ?_
  obtain ⟨l101, hl101, H⟩ := bnd H
  refine Tr.appendS 3 (t := fl_TPoint) (l := ([] : List TPoint)) (l2 := p0) (wn rfl) rfl rfl rfl rfl (apT tr_TPoint (fun W hW => (Sl.inB hp0_0 hW))) un_82 sz_37 zl_37 (by decide) by_37 rfl hl101 fun Al101 cl101 hAl101 => ?_
  refine Tr.asg rfl rfl ?_
  refine Tr.nil (Tr.normThen ?_)
  refine Tr.ret ?_
  obtain rfl := Option.some.inj H
  exact Tr.out (m := [(.slice Al101 (l101).length cl101)]) [] (res_tmp rfl res_nil) (fun W hW => ⟨(Al101, cl101), rfl, hAl101, HF.lowE leB (hW.pick (ks := [3]) (by decide) (pk_cons rfl pk_nil)) ⟨ow_any _ _ _ _ tr_TPoint, trivial⟩⟩)

theorem F_plot_changed_2__scaled_1_ok {w : Bs} (p0 : TRect) (bq0 : Nat) (q1 : Bool) (bq1 : Nat) (q2 : TPlot) (Aq2_0 : Option Addr) (cq2_0 : Nat) (hq2_0 : Sl w.R w.W fl_TPlotTool Aq2_0 cq2_0 q2.Tools) (Aq2_1 : Option Addr) (cq2_1 : Nat) (hq2_1 : Sl w.R w.W fl_TPlotStep Aq2_1 cq2_1 q2.Steps) (bq2 : Nat) (hb2 : w.R bq2) (hc2 : CellsAt w.W bq2 0 [(.int .i64 q2.Unit), (.slice Aq2_0 (q2.Tools).length cq2_0), (.slice Aq2_1 (q2.Steps).length cq2_1)]) (q3 : Int) (bq3 : Nat) (hb3 : w.R bq3) (hc3 : CellsAt w.W bq3 0 [(.int .i64 q3)]) (hb0 : w.R bq0) (hc0 : CellsAt w.W bq0 0 [(.func (.func 69) #[] #[(.pointer (some ⟨bq1, 0, none⟩)), (.pointer (some ⟨bq2, 0, none⟩)), (.pointer (some ⟨bq3, 0, none⟩))])]) (r : (TRect × Bool)) (H : F_plot_changed_2__scaled_1 p0 q1 q2 q3 = some r) (hE : HF w w.W (LEn [bx bq1 #[(.bool q1)] 4])) : Calls Tryd.prog 97 [(.agg #[(.int .i64 p0.X0), (.int .i64 p0.Y0), (.int .i64 p0.X1), (.int .i64 p0.Y1)]), (.pointer (some ⟨bq0, 0, none⟩))].toArray w.W fun e W' => ∃ u : Unit, e = .returned (.agg #[(.int .i64 r.1.X0), (.int .i64 r.1.Y0), (.int .i64 r.1.X1), (.int .i64 r.1.Y1)]) ∧ (True) ∧ HF w W' (LEn [bx bq1 #[(.bool r.2)] 4]) := by
 unfold F_plot_changed_2__scaled_1 at H
 have leB := Bs.Le.refl w
 refine Tr.enter (n := 21) Tryd.func97 rfl rfl rfl hE ?_
 refine Tr.sr ?_
 refine Tr.box 1 (cs := [(.int .i64 p0.X0), (.int .i64 p0.Y0), (.int .i64 p0.X1), (.int .i64 p0.Y1)]) (wn rfl) rfl rfl rfl fun b100 => ?_
 refine Tr.alloc 2 (wn rfl) rfl ze_57 fun b101 => ?_
 refine Tr.nil (Tr.normThen ?_)
 refine Tr.seq ?_
 refine Tr.drawC 15 [(3, fun x => x = bq1), (7, fun x => x = bq1), (11, fun x => x = bq1)] [] (by kernel_rfl) (by kernel_rfl) fun sz102 hlosz102 hEsz102 => ?_
 refine Dr.quietZ 0 [(4, (.func (.func 69) #[] #[(.pointer (some ⟨bq1, 0, none⟩)), (.pointer (some ⟨bq2, 0, none⟩)), (.pointer (some ⟨bq3, 0, none⟩))]))] [7, 11] false (by kernel_rfl) rfl rfl (by kernel_rfl) (fun W W' h2 hsW hk => HF.keepZ (le := []) (ks := [(0, fun x => x = bq1), (0, fun x => x = bq1)]) (s0 := sz102) false h2 hk (fun h => absurd h (by decide)) .nil (fun b hb => hb.elim (fun ⟨p, hp, hf, hb⟩ => by simp only [List.mem_cons, List.not_mem_nil, or_false] at hp; rcases hp with rfl | rfl | rfl; exact absurd hf (by simp); exact .inl ⟨_, List.mem_cons_self, hb⟩; exact .inl ⟨_, (List.mem_cons_of_mem _ List.mem_cons_self), hb⟩) (fun hb => absurd hb.1 (by decide))) (List.forall_mem_cons.2 ⟨fun b hb => hb, (List.forall_mem_cons.2 ⟨fun b hb => hb, (fun _ h => nomatch h)⟩)⟩) rfl) ?_ rfl rfl ?_
 ·refine Tq.va rfl (fun _ _ h1 h2 => run_load1 ag_101 (h1.ev rfl) (rdR hb0 hc0 h2) rfl) ?_
  exact Tq.fin (.cons rfl .nil)
 refine Dr.quietP 1 (by kernel_rfl) rfl (wn rfl) rfl (by kernel_rfl) (fun _ _ h1 => run_fieldAddr fo_57_0 (h1.ev rfl)) rfl ?_
 refine Dr.quietZ 2 [(6, (.int .i64 p0.X0))] [7, 11] false (by kernel_rfl) rfl rfl (by kernel_rfl) (fun W W' h2 hsW hk => HF.keepZ (le := [(1, bx b100 #[(.int .i64 p0.X0), (.int .i64 p0.Y0), (.int .i64 p0.X1), (.int .i64 p0.Y1)] 57)]) (ks := [(0, fun x => x = bq1), (0, fun x => x = bq1)]) (s0 := sz102) false h2 hk (fun h => absurd h (by decide)) (.cons rfl .nil) (fun b hb => hb.elim (fun ⟨p, hp, hf, hb⟩ => by simp only [List.mem_cons, List.not_mem_nil, or_false] at hp; rcases hp with rfl | rfl | rfl; exact absurd hf (by simp); exact .inl ⟨_, List.mem_cons_self, hb⟩; exact .inl ⟨_, (List.mem_cons_of_mem _ List.mem_cons_self), hb⟩) (fun hb => absurd hb.1 (by decide))) (List.forall_mem_cons.2 ⟨fun b hb => hb, (List.forall_mem_cons.2 ⟨fun b hb => hb, (fun _ h => nomatch h)⟩)⟩) rfl) ?_ rfl rfl ?_
 ·refine Tq.va rfl (fun _ _ h1 h2 => run_load1 ag_3 (h1.ev rfl) (rdb h2 (vs := [(.int .i64 p0.X0), (.int .i64 p0.Y0), (.int .i64 p0.X1), (.int .i64 p0.Y1)]) (k := 1) rfl 0) rfl) ?_
  exact Tq.fin (.cons rfl .nil)
 refine Dr.quietZ 4 [(8, (.func (.func 69) #[] #[(.pointer (some ⟨bq1, 0, none⟩)), (.pointer (some ⟨bq2, 0, none⟩)), (.pointer (some ⟨bq3, 0, none⟩))]))] [3, 11] false (by kernel_rfl) rfl rfl (by kernel_rfl) (fun W W' h2 hsW hk => HF.keepZ (le := []) (ks := [(0, fun x => x = bq1), (0, fun x => x = bq1)]) (s0 := sz102) false h2 hk (fun h => absurd h (by decide)) .nil (fun b hb => hb.elim (fun ⟨p, hp, hf, hb⟩ => by simp only [List.mem_cons, List.not_mem_nil, or_false] at hp; rcases hp with rfl | rfl | rfl; exact .inl ⟨_, List.mem_cons_self, hb⟩; exact absurd hf (by simp); exact .inl ⟨_, (List.mem_cons_of_mem _ List.mem_cons_self), hb⟩) (fun hb => absurd hb.1 (by decide))) (List.forall_mem_cons.2 ⟨fun b hb => hb, (List.forall_mem_cons.2 ⟨fun b hb => hb, (fun _ h => nomatch h)⟩)⟩) rfl) ?_ rfl rfl ?_
 ·refine Tq.va rfl (fun _ _ h1 h2 => run_load1 ag_101 (h1.ev rfl) (rdR hb0 hc0 h2) rfl) ?_
  exact Tq.fin (.cons rfl .nil)
 refine Dr.quietP 5 (by kernel_rfl) rfl (wn rfl) rfl (by kernel_rfl) (fun _ _ h1 => run_fieldAddr fo_57_1 (h1.ev rfl)) rfl ?_
 refine Dr.quietZ 6 [(10, (.int .i64 p0.Y0))] [3, 11] false (by kernel_rfl) rfl rfl (by kernel_rfl) (fun W W' h2 hsW hk => HF.keepZ (le := [(1, bx b100 #[(.int .i64 p0.X0), (.int .i64 p0.Y0), (.int .i64 p0.X1), (.int .i64 p0.Y1)] 57)]) (ks := [(0, fun x => x = bq1), (0, fun x => x = bq1)]) (s0 := sz102) false h2 hk (fun h => absurd h (by decide)) (.cons rfl .nil) (fun b hb => hb.elim (fun ⟨p, hp, hf, hb⟩ => by simp only [List.mem_cons, List.not_mem_nil, or_false] at hp; rcases hp with rfl | rfl | rfl; exact .inl ⟨_, List.mem_cons_self, hb⟩; exact absurd hf (by simp); exact .inl ⟨_, (List.mem_cons_of_mem _ List.mem_cons_self), hb⟩) (fun hb => absurd hb.1 (by decide))) (List.forall_mem_cons.2 ⟨fun b hb => hb, (List.forall_mem_cons.2 ⟨fun b hb => hb, (fun _ h => nomatch h)⟩)⟩) rfl) ?_ rfl rfl ?_
 ·refine Tq.va rfl (fun _ _ h1 h2 => run_load1 ag_3 (h1.ev rfl) (rdb h2 (vs := [(.int .i64 p0.X0), (.int .i64 p0.Y0), (.int .i64 p0.X1), (.int .i64 p0.Y1)]) (k := 1) rfl 1) rfl) ?_
  exact Tq.fin (.cons rfl .nil)
 refine Dr.quietZ 8 [(12, (.func (.func 69) #[] #[(.pointer (some ⟨bq1, 0, none⟩)), (.pointer (some ⟨bq2, 0, none⟩)), (.pointer (some ⟨bq3, 0, none⟩))]))] [3, 7] false (by kernel_rfl) rfl rfl (by kernel_rfl) (fun W W' h2 hsW hk => HF.keepZ (le := []) (ks := [(0, fun x => x = bq1), (0, fun x => x = bq1)]) (s0 := sz102) false h2 hk (fun h => absurd h (by decide)) .nil (fun b hb => hb.elim (fun ⟨p, hp, hf, hb⟩ => by simp only [List.mem_cons, List.not_mem_nil, or_false] at hp; rcases hp with rfl | rfl | rfl; exact .inl ⟨_, List.mem_cons_self, hb⟩; exact .inl ⟨_, (List.mem_cons_of_mem _ List.mem_cons_self), hb⟩; exact absurd hf (by simp)) (fun hb => absurd hb.1 (by decide))) (List.forall_mem_cons.2 ⟨fun b hb => hb, (List.forall_mem_cons.2 ⟨fun b hb => hb, (fun _ h => nomatch h)⟩)⟩) rfl) ?_ rfl rfl ?_
 ·refine Tq.va rfl (fun _ _ h1 h2 => run_load1 ag_101 (h1.ev rfl) (rdR hb0 hc0 h2) rfl) ?_
  exact Tq.fin (.cons rfl .nil)
 refine Dr.quietP 9 (by kernel_rfl) rfl (wn rfl) rfl (by kernel_rfl) (fun _ _ h1 => run_fieldAddr fo_57_2 (h1.ev rfl)) rfl ?_
 refine Dr.quietZ 10 [(14, (.int .i64 p0.X1))] [3, 7] false (by kernel_rfl) rfl rfl (by kernel_rfl) (fun W W' h2 hsW hk => HF.keepZ (le := [(1, bx b100 #[(.int .i64 p0.X0), (.int .i64 p0.Y0), (.int .i64 p0.X1), (.int .i64 p0.Y1)] 57)]) (ks := [(0, fun x => x = bq1), (0, fun x => x = bq1)]) (s0 := sz102) false h2 hk (fun h => absurd h (by decide)) (.cons rfl .nil) (fun b hb => hb.elim (fun ⟨p, hp, hf, hb⟩ => by simp only [List.mem_cons, List.not_mem_nil, or_false] at hp; rcases hp with rfl | rfl | rfl; exact .inl ⟨_, List.mem_cons_self, hb⟩; exact .inl ⟨_, (List.mem_cons_of_mem _ List.mem_cons_self), hb⟩; exact absurd hf (by simp)) (fun hb => absurd hb.1 (by decide))) (List.forall_mem_cons.2 ⟨fun b hb => hb, (List.forall_mem_cons.2 ⟨fun b hb => hb, (fun _ h => nomatch h)⟩)⟩) rfl) ?_ rfl rfl ?_
 ·refine Tq.va rfl (fun _ _ h1 h2 => run_load1 ag_3 (h1.ev rfl) (rdb h2 (vs := [(.int .i64 p0.X0), (.int .i64 p0.Y0), (.int .i64 p0.X1), (.int .i64 p0.Y1)]) (k := 1) rfl 2) rfl) ?_
  exact Tq.fin (.cons rfl .nil)
 refine Dr.quietZ 12 [(16, (.func (.func 69) #[] #[(.pointer (some ⟨bq1, 0, none⟩)), (.pointer (some ⟨bq2, 0, none⟩)), (.pointer (some ⟨bq3, 0, none⟩))]))] [3, 7, 11] false (by kernel_rfl) rfl rfl (by kernel_rfl) (fun W W' h2 hsW hk => HF.keepZ (le := []) (ks := [(0, fun x => x = bq1), (0, fun x => x = bq1), (0, fun x => x = bq1)]) (s0 := sz102) false h2 hk (fun h => absurd h (by decide)) .nil (fun b hb => hb.elim (fun ⟨p, hp, hf, hb⟩ => by simp only [List.mem_cons, List.not_mem_nil, or_false] at hp; rcases hp with rfl | rfl | rfl; exact .inl ⟨_, List.mem_cons_self, hb⟩; exact .inl ⟨_, (List.mem_cons_of_mem _ List.mem_cons_self), hb⟩; exact .inl ⟨_, (List.mem_cons_of_mem _ (List.mem_cons_of_mem _ List.mem_cons_self)), hb⟩) (fun hb => absurd hb.1 (by decide))) (List.forall_mem_cons.2 ⟨fun b hb => hb, (List.forall_mem_cons.2 ⟨fun b hb => hb, (List.forall_mem_cons.2 ⟨fun b hb => hb, (fun _ h => nomatch h)⟩)⟩)⟩) rfl) ?_ rfl rfl ?_
 ·refine Tq.va rfl (fun _ _ h1 h2 => run_load1 ag_101 (h1.ev rfl) (rdR hb0 hc0 h2) rfl) ?_
  exact Tq.fin (.cons rfl .nil)
 refine Dr.quietP 13 (by kernel_rfl) rfl (wn rfl) rfl (by kernel_rfl) (fun _ _ h1 => run_fieldAddr fo_57_3 (h1.ev rfl)) rfl ?_
 refine Dr.quietZ 14 [(18, (.int .i64 p0.Y1))] [3, 7, 11] false (by kernel_rfl) rfl rfl (by kernel_rfl) (fun W W' h2 hsW hk => HF.keepZ (le := [(1, bx b100 #[(.int .i64 p0.X0), (.int .i64 p0.Y0), (.int .i64 p0.X1), (.int .i64 p0.Y1)] 57)]) (ks := [(0, fun x => x = bq1), (0, fun x => x = bq1), (0, fun x => x = bq1)]) (s0 := sz102) false h2 hk (fun h => absurd h (by decide)) (.cons rfl .nil) (fun b hb => hb.elim (fun ⟨p, hp, hf, hb⟩ => by simp only [List.mem_cons, List.not_mem_nil, or_false] at hp; rcases hp with rfl | rfl | rfl; exact .inl ⟨_, List.mem_cons_self, hb⟩; exact .inl ⟨_, (List.mem_cons_of_mem _ List.mem_cons_self), hb⟩; exact .inl ⟨_, (List.mem_cons_of_mem _ (List.mem_cons_of_mem _ List.mem_cons_self)), hb⟩) (fun hb => absurd hb.1 (by decide))) (List.forall_mem_cons.2 ⟨fun b hb => hb, (List.forall_mem_cons.2 ⟨fun b hb => hb, (List.forall_mem_cons.2 ⟨fun b hb => hb, (fun _ h => nomatch h)⟩)⟩)⟩) rfl) ?_ rfl rfl ?_
 ·refine Tq.va rfl (fun _ _ h1 h2 => run_load1 ag_3 (h1.ev rfl) (rdb h2 (vs := [(.int .i64 p0.X0), (.int .i64 p0.Y0), (.int .i64 p0.X1), (.int .i64 p0.Y1)]) (k := 1) rfl 3) rfl) ?_
  exact Tq.fin (.cons rfl .nil)
 obtain ⟨y103, hy103, H⟩ := bnd H
 refine Dr.one 3 (by kernel_rfl) ?_
 refine St.callMC 3 [0] [bx bq1 #[(.bool q1)] 4] (U := Unit) (fun u => (.int .i64 y103.1)) (fun u => True) (fun u => [bx bq1 #[(.bool y103.2)] 4]) rfl (pk_cons rfl pk_nil) (fun _ => rfl) (fun b ⟨e, he, hS⟩ => by simp only [List.mem_cons, List.not_mem_nil, or_false] at he; rcases he with rfl; exact .inl ⟨_, List.mem_cons_self, rfl, hS⟩) rfl (wn rfl) rfl rfl Tryd.call69 (evl_cons rfl evl_nil) (fun W hW hp hE => F_plot_scaled_1_ok p0.X0 q1 bq1 q2 Aq2_0 cq2_0 (hq2_0.ext (hW.extS hp)) Aq2_1 cq2_1 (hq2_1.ext (hW.extS hp)) bq2 ((hW.extS hp).r _ hb2) ((hW.extS hp).cells hb2 hc2) q3 bq3 ((hW.extS hp).r _ hb3) ((hW.extS hp).cells hb3 hc3) y103 hy103 hE) ?_
 intro u hu hsy103
 show Dr _ _ _ _ _ _ _ _ _ (uf _ 7 (.int .i64 y103.1)) (up _ 0 (bx bq1 #[(.bool y103.2)] 4))
 obtain ⟨y105, hy105, H⟩ := bnd H
 refine Dr.one 7 (by kernel_rfl) ?_
 refine St.callMC 7 [0] [bx bq1 #[(.bool y103.2)] 4] (U := Unit) (fun u => (.int .i64 y105.1)) (fun u => True) (fun u => [bx bq1 #[(.bool y105.2)] 4]) rfl (pk_cons rfl pk_nil) (fun _ => rfl) (fun b ⟨e, he, hS⟩ => by simp only [List.mem_cons, List.not_mem_nil, or_false] at he; rcases he with rfl; exact .inl ⟨_, (List.mem_cons_of_mem _ List.mem_cons_self), rfl, hS⟩) rfl (wn rfl) rfl rfl Tryd.call69 (evl_cons rfl evl_nil) (fun W hW hp hE => F_plot_scaled_1_ok p0.Y0 y103.2 bq1 q2 Aq2_0 cq2_0 (hq2_0.ext (hW.extS hp)) Aq2_1 cq2_1 (hq2_1.ext (hW.extS hp)) bq2 ((hW.extS hp).r _ hb2) ((hW.extS hp).cells hb2 hc2) q3 bq3 ((hW.extS hp).r _ hb3) ((hW.extS hp).cells hb3 hc3) y105 hy105 hE) ?_
 intro u hu hsy105
 show Dr _ _ _ _ _ _ _ _ _ (uf _ 11 (.int .i64 y105.1)) (up _ 0 (bx bq1 #[(.bool y105.2)] 4))
 obtain ⟨y107, hy107, H⟩ := bnd H
 refine Dr.one 11 (by kernel_rfl) ?_
 refine St.callMC 11 [0] [bx bq1 #[(.bool y105.2)] 4] (U := Unit) (fun u => (.int .i64 y107.1)) (fun u => True) (fun u => [bx bq1 #[(.bool y107.2)] 4]) rfl (pk_cons rfl pk_nil) (fun _ => rfl) (fun b ⟨e, he, hS⟩ => by simp only [List.mem_cons, List.not_mem_nil, or_false] at he; rcases he with rfl; exact .inl ⟨_, (List.mem_cons_of_mem _ (List.mem_cons_of_mem _ List.mem_cons_self)), rfl, hS⟩) rfl (wn rfl) rfl rfl Tryd.call69 (evl_cons rfl evl_nil) (fun W hW hp hE => F_plot_scaled_1_ok p0.X1 y105.2 bq1 q2 Aq2_0 cq2_0 (hq2_0.ext (hW.extS hp)) Aq2_1 cq2_1 (hq2_1.ext (hW.extS hp)) bq2 ((hW.extS hp).r _ hb2) ((hW.extS hp).cells hb2 hc2) q3 bq3 ((hW.extS hp).r _ hb3) ((hW.extS hp).cells hb3 hc3) y107 hy107 hE) ?_
 intro u hu hsy107
 show Dr _ _ _ _ _ _ _ _ _ (uf _ 15 (.int .i64 y107.1)) (up _ 0 (bx bq1 #[(.bool y107.2)] 4))
 refine Dr.tail (by kernel_rfl) ?_
 obtain ⟨y109, hy109, H⟩ := bnd H
 refine Tr.callMC [0] [bx bq1 #[(.bool y107.2)] 4] (U := Unit) (fun u => (.int .i64 y109.1)) (fun u => True) (fun u => [bx bq1 #[(.bool y109.2)] 4]) rfl (pk_cons rfl pk_nil) (fun _ => rfl) (wn rfl) rfl rfl Tryd.call69 (evl_cons rfl evl_nil) (fun W hW hp hE => F_plot_scaled_1_ok p0.Y1 y107.2 bq1 q2 Aq2_0 cq2_0 (hq2_0.ext (hW.extS hp)) Aq2_1 cq2_1 (hq2_1.ext (hW.extS hp)) bq2 ((hW.extS hp).r _ hb2) ((hW.extS hp).cells hb2 hc2) q3 bq3 ((hW.extS hp).r _ hb3) ((hW.extS hp).cells hb3 hc3) y109 hy109 hE) ?_
 intro u hu
 show Tr _ _ (uf _ 19 (.int .i64 y109.1)) (up _ 0 (bx bq1 #[(.bool y109.2)] 4)) _
 refine Tr.build (vs := [(0, (.int .i64 y103.1)), (1, (.int .i64 y105.1)), (2, (.int .i64 y107.1)), (3, (.int .i64 y109.1))]) (cs := [(.int .i64 y103.1), (.int .i64 y105.1), (.int .i64 y107.1), (.int .i64 y109.1)]) (wn rfl) rfl (evs_cons rfl (evs_cons rfl (evs_cons rfl (evs_cons rfl evs_nil)))) (by kernel_rfl) ?_
 refine Tr.store 2 (cs := [(.int .i64 y103.1), (.int .i64 y105.1), (.int .i64 y107.1), (.int .i64 y109.1)]) [(.int .i64 y103.1), (.int .i64 y105.1), (.int .i64 y107.1), (.int .i64 y109.1)] (wn rfl) rfl rfl rfl rfl sz_57 rfl rfl rfl ?_
 refine Tr.nil (Tr.normThen ?_)
 refine Tr.ret ?_
 obtain rfl := Option.some.inj H
 exact Tr.out (m := [(.agg #[(.int .i64 y103.1), (.int .i64 y105.1), (.int .i64 y107.1), (.int .i64 y109.1)])]) [2] (res_cell rfl rfl ag_57 sz_57 res_nil) (fun W hW => ⟨(), rfl, trivial, HF.lowE leB (hW.pick (ks := [0]) (by decide) (pk_cons rfl pk_nil)) ⟨bx_any _ _ _, trivial⟩⟩)

end Go.Proofs.YtocjndhpgjccoaaDoor
