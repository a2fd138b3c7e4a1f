/- The walks: each function computes its plain function. -/
import Derived.Test.YtneghcpnehiffaaDoorXF
namespace Go.Proofs.YtneghcpnehiffaaDoor
open Go.RowKit
set_option maxRecDepth 100000
set_option maxHeartbeats 1000000
theorem F_plot_within_ok {w : Bs} (p0 : Int) (p1 : Int) (p2 : Int) (r : Bool) (H : F_plot_within p0 p1 p2 = some r) (hE : HF w w.W E0) : Calls Tryd.prog 36 [(iv p0), (iv p1), (iv p2)].toArray w.W fun e W' => e = .returned (.bool r) ∧ HF w W' E0 := by
 unfold F_plot_within at H
 have leB := Bs.Le.refl w
 refine Tr.enter (n := 15) Tryd.func36 rfl rfl rfl hE ?_
 refine Tr.sr ?_
 refine Tr.asg rfl rfl ?_
 refine Tr.nil (Tr.normThen ?_)
 refine Tr.sr ?_
 refine Tr.mv rfl rfl ?_
 refine Tr.mv rfl rfl ?_
 refine Tr.va rfl (fun _ _ h1 h2 => run_geq (h1.ev rfl) (h1.ev rfl)) ?_
 refine Tr.mv rfl rfl ?_
 refine Tr.mid0 4 [(14, (.bool ((decide (p1 ≤ p0)) && (decide (p0 ≤ p2)))))] [] ?_ ?_
 ·cases hg99 : (decide (p1 ≤ p0))
  ·refine Tr.pass rfl rfl rfl rfl rfl (by decide) ?_
   refine Tr.pass rfl rfl rfl rfl rfl (by decide) ?_
   refine Tr.pass rfl rfl rfl rfl rfl (by decide) ?_
   refine Tr.va rfl (fun _ _ h1 h2 => run_pickF (h1.ev rfl) (h1.ev rfl)) ?_
   exact Tr.nil (Tr.fin0 (.cons rfl .nil) .nil)
  ·refine Tr.val (wg rfl rfl rfl) rfl (fun _ _ h1 h2 => run_move (h1.ev rfl)) ?_
   refine Tr.val (wg rfl rfl rfl) rfl (fun _ _ h1 h2 => run_move (h1.ev rfl)) ?_
   refine Tr.val (wg rfl rfl rfl) rfl (fun _ _ h1 h2 => run_leq (h1.ev rfl) (h1.ev rfl)) ?_
   refine Tr.va rfl (fun _ _ h1 h2 => run_pickT (h1.ev rfl) (h1.ev rfl)) ?_
   exact Tr.nil (Tr.fin0 (.cons rfl .nil) .nil)
 ·show Tr _ _ (LF [(14, (.bool ((decide (p1 ≤ p0)) && (decide (p0 ≤ p2)))))]) (LE []) _
  refine Tr.asg rfl rfl ?_
  refine Tr.nil (Tr.normThen ?_)
  refine Tr.ret ?_
  obtain rfl := Option.some.inj H
  exact Tr.out (m := [(.bool ((decide (p1 ≤ p0)) && (decide (p0 ≤ p2))))]) [] (res_tmp rfl res_nil) (fun W hW => ⟨rfl, hW.low leB⟩)

theorem F_plot_IsName_ok (N : Nat) {w : Bs} (p0 : ByteArray) (r : Bool) (H : F_plot_IsName N p0 = some r) (hE : HF w w.W E0) : Calls Tryd.prog 64 [(sv p0)].toArray w.W fun e W' => e = .returned (.bool r) ∧ HF w W' E0 := by
 unfold F_plot_IsName at H
 have leB := Bs.Le.refl w
 refine Tr.enter (n := 59) Tryd.func64 rfl rfl rfl hE ?_
 refine Tr.sr ?_
 refine Tr.asg rfl rfl ?_
 refine Tr.nil (Tr.normThen ?_)
 refine Tr.seq ?_
 refine Tr.sr ?_
 refine Tr.mv rfl rfl ?_
 refine Tr.va rfl (fun _ _ h1 h2 => run_lenS un_9 (h1.ev rfl)) ?_
 refine Tr.mv rfl rfl ?_
 refine Tr.nil (Tr.normThen ?_)
 refine Tr.block ?_
 refine Tr.loop (σ := Int) (fun m w s => F_plot_IsName_L1 p0 m s = some r) (fun s => [(0, (sv p0)), (7, (iv (p0.size : Int))), (8, (iv s))]) (fun s => []) N 0 H (.cons rfl (.cons rfl (.cons rfl .nil))) .nil (fun _ _ h => noSome (h)) ?_
 intro w leL1 mL1 x105 hs
 have H := hs
 replace H : F_plot_IsName_L1 p0 (mL1 + 1) x105 = some r := H
 replace leB := leB.trans leL1
 rw [F_plot_IsName_L1.eq_2] at H
 show Tr _ _ (LF [(0, (sv p0)), (7, (iv (p0.size : Int))), (8, (iv x105))]) (LE []) _
 refine Tr.sr ?_
 refine Tr.va rfl (fun _ _ h1 h2 => run_lss (h1.ev rfl) (h1.ev rfl)) ?_
 refine Tr.nil (Tr.normThen ?_)
 refine Tr.seq ?_
 refine Tr.cond rfl H (fun H => ?_) (fun H => ?_)
 ·refine Tr.skip (Tr.normThen ?_)
  refine Tr.seq ?_
  refine Tr.block ?_
  refine Tr.sr ?_
  refine Tr.mv rfl rfl ?_
  refine Tr.asg rfl rfl ?_
  refine Tr.nil (Tr.normThen ?_)
  refine Tr.sr ?_
  refine Tr.mv rfl rfl ?_
  refine Tr.mv rfl rfl ?_
  obtain ⟨c106, hc106, H⟩ := bnd H
  refine Tr.va rfl (fun _ _ h1 h2 => run_indexS un_9 (h1.ev rfl) (h1.ev rfl) hc106) ?_
  refine Tr.asg rfl rfl ?_
  refine Tr.nil (Tr.normThen ?_)
  refine Tr.sr ?_
  refine Tr.mv rfl rfl ?_
  refine Tr.va rfl (fun _ _ h1 h2 => run_geq (h1.ev rfl) (h1.ev rfl)) ?_
  refine Tr.mv rfl rfl ?_
  refine Tr.mid0 3 [(0, (sv p0)), (3, (iv x105)), (4, (.int .u8 c106)), (7, (iv (p0.size : Int))), (8, (iv x105)), (19, (.bool ((decide (97 ≤ c106)) && (decide (c106 ≤ 122)))))] [] ?_ ?_
  ·cases hg106 : (decide (97 ≤ c106))
   ·refine Tr.pass rfl rfl rfl rfl rfl (by decide) ?_
    refine Tr.pass rfl rfl rfl rfl rfl (by decide) ?_
    refine Tr.va rfl (fun _ _ h1 h2 => run_pickF (h1.ev rfl) (h1.ev rfl)) ?_
    exact Tr.nil (Tr.fin0 (.cons rfl (.cons rfl (.cons rfl (.cons rfl (.cons rfl (.cons rfl .nil)))))) .nil)
   ·refine Tr.val (wg rfl rfl rfl) rfl (fun _ _ h1 h2 => run_move (h1.ev rfl)) ?_
    refine Tr.val (wg rfl rfl rfl) rfl (fun _ _ h1 h2 => run_leq (h1.ev rfl) (h1.ev rfl)) ?_
    refine Tr.va rfl (fun _ _ h1 h2 => run_pickT (h1.ev rfl) (h1.ev rfl)) ?_
    exact Tr.nil (Tr.fin0 (.cons rfl (.cons rfl (.cons rfl (.cons rfl (.cons rfl (.cons rfl .nil)))))) .nil)
  ·show Tr _ _ (LF [(0, (sv p0)), (3, (iv x105)), (4, (.int .u8 c106)), (7, (iv (p0.size : Int))), (8, (iv x105)), (19, (.bool ((decide (97 ≤ c106)) && (decide (c106 ≤ 122)))))]) (LE []) _
   refine Tr.mv rfl rfl ?_
   refine Tr.mid0 7 [(0, (sv p0)), (3, (iv x105)), (4, (.int .u8 c106)), (7, (iv (p0.size : Int))), (8, (iv x105)), (27, (.bool (((decide (97 ≤ c106)) && (decide (c106 ≤ 122))) || ((decide (65 ≤ c106)) && (decide (c106 ≤ 90))))))] [] ?_ ?_
   ·cases hg106 : ((decide (97 ≤ c106)) && (decide (c106 ≤ 122)))
    ·refine Tr.val (wg rfl rfl rfl) rfl (fun _ _ h1 h2 => run_move (h1.ev rfl)) ?_
     refine Tr.val (wg rfl rfl rfl) rfl (fun _ _ h1 h2 => run_geq (h1.ev rfl) (h1.ev rfl)) ?_
     refine Tr.val (wg rfl rfl rfl) rfl (fun _ _ h1 h2 => run_move (h1.ev rfl)) ?_
     refine Tr.mid0 3 [(0, (sv p0)), (3, (iv x105)), (4, (.int .u8 c106)), (7, (iv (p0.size : Int))), (8, (iv x105)), (20, (.bool false)), (26, (.bool ((decide (65 ≤ c106)) && (decide (c106 ≤ 90)))))] [] ?_ ?_
     ·cases hg106 : (decide (65 ≤ c106))
      ·refine Tr.pass rfl rfl rfl rfl rfl (by decide) ?_
       refine Tr.pass rfl rfl rfl rfl rfl (by decide) ?_
       refine Tr.val (wg rfl rfl rfl) rfl (fun _ _ h1 h2 => run_pickF (h1.ev rfl) (h1.ev rfl)) ?_
       exact Tr.nil (Tr.fin0 (.cons rfl (.cons rfl (.cons rfl (.cons rfl (.cons rfl (.cons rfl (.cons rfl .nil))))))) .nil)
      ·refine Tr.val (wg rfl rfl rfl) rfl (fun _ _ h1 h2 => run_move (h1.ev rfl)) ?_
       refine Tr.val (wg rfl rfl rfl) rfl (fun _ _ h1 h2 => run_leq (h1.ev rfl) (h1.ev rfl)) ?_
       refine Tr.val (wg rfl rfl rfl) rfl (fun _ _ h1 h2 => run_pickT (h1.ev rfl) (h1.ev rfl)) ?_
       exact Tr.nil (Tr.fin0 (.cons rfl (.cons rfl (.cons rfl (.cons rfl (.cons rfl (.cons rfl (.cons rfl .nil))))))) .nil)
     ·show Tr _ _ (LF [(0, (sv p0)), (3, (iv x105)), (4, (.int .u8 c106)), (7, (iv (p0.size : Int))), (8, (iv x105)), (20, (.bool false)), (26, (.bool ((decide (65 ≤ c106)) && (decide (c106 ≤ 90)))))]) (LE []) _
      refine Tr.va rfl (fun _ _ h1 h2 => run_pickF (h1.ev rfl) (h1.ev rfl)) ?_
      exact Tr.nil (Tr.fin0 (.cons rfl (.cons rfl (.cons rfl (.cons rfl (.cons rfl (.cons rfl .nil)))))) .nil)
    ·refine Tr.pass rfl rfl rfl rfl rfl (by decide) ?_
     refine Tr.pass rfl rfl rfl rfl rfl (by decide) ?_
     refine Tr.pass rfl rfl rfl rfl rfl (by decide) ?_
     refine Tr.passU rfl rfl rfl rfl (by decide) ?_
     refine Tr.passU rfl rfl rfl rfl (by decide) ?_
     refine Tr.pass rfl rfl rfl rfl rfl (by decide) ?_
     refine Tr.va rfl (fun _ _ h1 h2 => run_pickT (h1.ev rfl) (h1.ev rfl)) ?_
     exact Tr.nil (Tr.fin0 (.cons rfl (.cons rfl (.cons rfl (.cons rfl (.cons rfl (.cons rfl .nil)))))) .nil)
   ·show Tr _ _ (LF [(0, (sv p0)), (3, (iv x105)), (4, (.int .u8 c106)), (7, (iv (p0.size : Int))), (8, (iv x105)), (27, (.bool (((decide (97 ≤ c106)) && (decide (c106 ≤ 122))) || ((decide (65 ≤ c106)) && (decide (c106 ≤ 90))))))]) (LE []) _
    refine Tr.asg rfl rfl ?_
    refine Tr.nil (Tr.normThen ?_)
    refine Tr.sr ?_
    refine Tr.mv rfl rfl ?_
    refine Tr.va rfl (fun _ _ h1 h2 => run_not (h1.ev rfl)) ?_
    refine Tr.mv rfl rfl ?_
    refine Tr.mid0 19 [(0, (sv p0)), (7, (iv (p0.size : Int))), (8, (iv x105)), (49, (.bool ((!(((decide (97 ≤ c106)) && (decide (c106 ≤ 122))) || ((decide (65 ≤ c106)) && (decide (c106 ≤ 90))))) && ((x105 == 0) || ((((decide (c106 < 48)) || (decide (57 < c106))) && (c106 != 95)) && (c106 != 45))))))] [] ?_ ?_
    ·cases hg106 : (!(((decide (97 ≤ c106)) && (decide (c106 ≤ 122))) || ((decide (65 ≤ c106)) && (decide (c106 ≤ 90)))))
     ·refine Tr.pass rfl rfl rfl rfl rfl (by decide) ?_
      refine Tr.pass rfl rfl rfl rfl rfl (by decide) ?_
      refine Tr.pass rfl rfl rfl rfl rfl (by decide) ?_
      refine Tr.passU rfl rfl rfl rfl (by decide) ?_
      refine Tr.passU rfl rfl rfl rfl (by decide) ?_
      refine Tr.passU rfl rfl rfl rfl (by decide) ?_
      refine Tr.passU rfl rfl rfl rfl (by decide) ?_
      refine Tr.passU rfl rfl rfl rfl (by decide) ?_
      refine Tr.passU rfl rfl rfl rfl (by decide) ?_
      refine Tr.passU rfl rfl rfl rfl (by decide) ?_
      refine Tr.passU rfl rfl rfl rfl (by decide) ?_
      refine Tr.passU rfl rfl rfl rfl (by decide) ?_
      refine Tr.passU rfl rfl rfl rfl (by decide) ?_
      refine Tr.passU rfl rfl rfl rfl (by decide) ?_
      refine Tr.passU rfl rfl rfl rfl (by decide) ?_
      refine Tr.passU rfl rfl rfl rfl (by decide) ?_
      refine Tr.passU rfl rfl rfl rfl (by decide) ?_
      refine Tr.pass rfl rfl rfl rfl rfl (by decide) ?_
      refine Tr.va rfl (fun _ _ h1 h2 => run_pickF (h1.ev rfl) (h1.ev rfl)) ?_
      exact Tr.nil (Tr.fin0 (.cons rfl (.cons rfl (.cons rfl (.cons rfl .nil)))) .nil)
     ·refine Tr.val (wg rfl rfl rfl) rfl (fun _ _ h1 h2 => run_move (h1.ev rfl)) ?_
      refine Tr.val (wg rfl rfl rfl) rfl (fun _ _ h1 h2 => run_eql (h1.ev rfl) (h1.ev rfl)) ?_
      refine Tr.val (wg rfl rfl rfl) rfl (fun _ _ h1 h2 => run_move (h1.ev rfl)) ?_
      refine Tr.mid0 15 [(0, (sv p0)), (7, (iv (p0.size : Int))), (8, (iv x105)), (30, (.bool true)), (48, (.bool ((x105 == 0) || ((((decide (c106 < 48)) || (decide (57 < c106))) && (c106 != 95)) && (c106 != 45)))))] [] ?_ ?_
      ·cases hg106 : (x105 == 0)
       ·refine Tr.val (wg rfl rfl rfl) rfl (fun _ _ h1 h2 => run_move (h1.ev rfl)) ?_
        refine Tr.val (wg rfl rfl rfl) rfl (fun _ _ h1 h2 => run_lss (h1.ev rfl) (h1.ev rfl)) ?_
        refine Tr.val (wg rfl rfl rfl) rfl (fun _ _ h1 h2 => run_move (h1.ev rfl)) ?_
        refine Tr.mid0 3 [(0, (sv p0)), (4, (.int .u8 c106)), (7, (iv (p0.size : Int))), (8, (iv x105)), (30, (.bool true)), (33, (.bool false)), (39, (.bool ((decide (c106 < 48)) || (decide (57 < c106)))))] [] ?_ ?_
        ·cases hg106 : (decide (c106 < 48))
         ·refine Tr.val (wg rfl rfl rfl) rfl (fun _ _ h1 h2 => run_move (h1.ev rfl)) ?_
          refine Tr.val (wg rfl rfl rfl) rfl (fun _ _ h1 h2 => run_gtr (h1.ev rfl) (h1.ev rfl)) ?_
          refine Tr.val (wg rfl rfl rfl) rfl (fun _ _ h1 h2 => run_pickF (h1.ev rfl) (h1.ev rfl)) ?_
          exact Tr.nil (Tr.fin0 (.cons rfl (.cons rfl (.cons rfl (.cons rfl (.cons rfl (.cons rfl (.cons rfl .nil))))))) .nil)
         ·refine Tr.pass rfl rfl rfl rfl rfl (by decide) ?_
          refine Tr.pass rfl rfl rfl rfl rfl (by decide) ?_
          refine Tr.val (wg rfl rfl rfl) rfl (fun _ _ h1 h2 => run_pickT (h1.ev rfl) (h1.ev rfl)) ?_
          exact Tr.nil (Tr.fin0 (.cons rfl (.cons rfl (.cons rfl (.cons rfl (.cons rfl (.cons rfl (.cons rfl .nil))))))) .nil)
        ·show Tr _ _ (LF [(0, (sv p0)), (4, (.int .u8 c106)), (7, (iv (p0.size : Int))), (8, (iv x105)), (30, (.bool true)), (33, (.bool false)), (39, (.bool ((decide (c106 < 48)) || (decide (57 < c106)))))]) (LE []) _
         refine Tr.val (wg rfl rfl rfl) rfl (fun _ _ h1 h2 => run_move (h1.ev rfl)) ?_
         refine Tr.mid0 3 [(0, (sv p0)), (4, (.int .u8 c106)), (7, (iv (p0.size : Int))), (8, (iv x105)), (30, (.bool true)), (33, (.bool false)), (43, (.bool (((decide (c106 < 48)) || (decide (57 < c106))) && (c106 != 95))))] [] ?_ ?_
         ·cases hg106 : ((decide (c106 < 48)) || (decide (57 < c106)))
          ·refine Tr.pass rfl rfl rfl rfl rfl (by decide) ?_
           refine Tr.pass rfl rfl rfl rfl rfl (by decide) ?_
           refine Tr.val (wg rfl rfl rfl) rfl (fun _ _ h1 h2 => run_pickF (h1.ev rfl) (h1.ev rfl)) ?_
           exact Tr.nil (Tr.fin0 (.cons rfl (.cons rfl (.cons rfl (.cons rfl (.cons rfl (.cons rfl (.cons rfl .nil))))))) .nil)
          ·refine Tr.val (wg rfl rfl rfl) rfl (fun _ _ h1 h2 => run_move (h1.ev rfl)) ?_
           refine Tr.val (wg rfl rfl rfl) rfl (fun _ _ h1 h2 => run_neq (h1.ev rfl) (h1.ev rfl)) ?_
           refine Tr.val (wg rfl rfl rfl) rfl (fun _ _ h1 h2 => run_pickT (h1.ev rfl) (h1.ev rfl)) ?_
           exact Tr.nil (Tr.fin0 (.cons rfl (.cons rfl (.cons rfl (.cons rfl (.cons rfl (.cons rfl (.cons rfl .nil))))))) .nil)
         ·show Tr _ _ (LF [(0, (sv p0)), (4, (.int .u8 c106)), (7, (iv (p0.size : Int))), (8, (iv x105)), (30, (.bool true)), (33, (.bool false)), (43, (.bool (((decide (c106 < 48)) || (decide (57 < c106))) && (c106 != 95))))]) (LE []) _
          refine Tr.val (wg rfl rfl rfl) rfl (fun _ _ h1 h2 => run_move (h1.ev rfl)) ?_
          refine Tr.mid0 3 [(0, (sv p0)), (7, (iv (p0.size : Int))), (8, (iv x105)), (30, (.bool true)), (33, (.bool false)), (47, (.bool ((((decide (c106 < 48)) || (decide (57 < c106))) && (c106 != 95)) && (c106 != 45))))] [] ?_ ?_
          ·cases hg106 : (((decide (c106 < 48)) || (decide (57 < c106))) && (c106 != 95))
           ·refine Tr.pass rfl rfl rfl rfl rfl (by decide) ?_
            refine Tr.pass rfl rfl rfl rfl rfl (by decide) ?_
            refine Tr.val (wg rfl rfl rfl) rfl (fun _ _ h1 h2 => run_pickF (h1.ev rfl) (h1.ev rfl)) ?_
            exact Tr.nil (Tr.fin0 (.cons rfl (.cons rfl (.cons rfl (.cons rfl (.cons rfl (.cons rfl .nil)))))) .nil)
           ·refine Tr.val (wg rfl rfl rfl) rfl (fun _ _ h1 h2 => run_move (h1.ev rfl)) ?_
            refine Tr.val (wg rfl rfl rfl) rfl (fun _ _ h1 h2 => run_neq (h1.ev rfl) (h1.ev rfl)) ?_
            refine Tr.val (wg rfl rfl rfl) rfl (fun _ _ h1 h2 => run_pickT (h1.ev rfl) (h1.ev rfl)) ?_
            exact Tr.nil (Tr.fin0 (.cons rfl (.cons rfl (.cons rfl (.cons rfl (.cons rfl (.cons rfl .nil)))))) .nil)
          ·show Tr _ _ (LF [(0, (sv p0)), (7, (iv (p0.size : Int))), (8, (iv x105)), (30, (.bool true)), (33, (.bool false)), (47, (.bool ((((decide (c106 < 48)) || (decide (57 < c106))) && (c106 != 95)) && (c106 != 45))))]) (LE []) _
           refine Tr.val (wg rfl rfl rfl) rfl (fun _ _ h1 h2 => run_pickF (h1.ev rfl) (h1.ev rfl)) ?_
           exact Tr.nil (Tr.fin0 (.cons rfl (.cons rfl (.cons rfl (.cons rfl (.cons rfl .nil))))) .nil)
       ·refine Tr.pass rfl rfl rfl rfl rfl (by decide) ?_
        refine Tr.pass rfl rfl rfl rfl rfl (by decide) ?_
        refine Tr.pass rfl rfl rfl rfl rfl (by decide) ?_
        refine Tr.passU rfl rfl rfl rfl (by decide) ?_
        refine Tr.passU rfl rfl rfl rfl (by decide) ?_
        refine Tr.pass rfl rfl rfl rfl rfl (by decide) ?_
        refine Tr.pass rfl rfl rfl rfl rfl (by decide) ?_
        refine Tr.passU rfl rfl rfl rfl (by decide) ?_
        refine Tr.passU rfl rfl rfl rfl (by decide) ?_
        refine Tr.pass rfl rfl rfl rfl rfl (by decide) ?_
        refine Tr.pass rfl rfl rfl rfl rfl (by decide) ?_
        refine Tr.passU rfl rfl rfl rfl (by decide) ?_
        refine Tr.passU rfl rfl rfl rfl (by decide) ?_
        refine Tr.pass rfl rfl rfl rfl rfl (by decide) ?_
        refine Tr.val (wg rfl rfl rfl) rfl (fun _ _ h1 h2 => run_pickT (h1.ev rfl) (h1.ev rfl)) ?_
        exact Tr.nil (Tr.fin0 (.cons rfl (.cons rfl (.cons rfl (.cons rfl (.cons rfl .nil))))) .nil)
      ·show Tr _ _ (LF [(0, (sv p0)), (7, (iv (p0.size : Int))), (8, (iv x105)), (30, (.bool true)), (48, (.bool ((x105 == 0) || ((((decide (c106 < 48)) || (decide (57 < c106))) && (c106 != 95)) && (c106 != 45)))))]) (LE []) _
       refine Tr.va rfl (fun _ _ h1 h2 => run_pickT (h1.ev rfl) (h1.ev rfl)) ?_
       exact Tr.nil (Tr.fin0 (.cons rfl (.cons rfl (.cons rfl (.cons rfl .nil)))) .nil)
    ·show Tr _ _ (LF [(0, (sv p0)), (7, (iv (p0.size : Int))), (8, (iv x105)), (49, (.bool ((!(((decide (97 ≤ c106)) && (decide (c106 ≤ 122))) || ((decide (65 ≤ c106)) && (decide (c106 ≤ 90))))) && ((x105 == 0) || ((((decide (c106 < 48)) || (decide (57 < c106))) && (c106 != 95)) && (c106 != 45))))))]) (LE []) _
     refine Tr.nil (Tr.normThen ?_)
     refine Tr.cond rfl H (fun H => ?_) (fun H => ?_)
     ·refine Tr.sr ?_
      refine Tr.asg rfl rfl ?_
      refine Tr.nil (Tr.normThen ?_)
      refine Tr.ret (Tr.retBlock (Tr.retThen (Tr.retThen (Tr.retBlock (Tr.retThen ?_)))))
      obtain rfl := Option.some.inj H
      exact Tr.out (m := [(.bool false)]) [] (res_tmp rfl res_nil) (fun W hW => ⟨rfl, hW.low leB⟩)
     ·refine Tr.skip (Tr.normBlock (Tr.normThen ?_))
      refine Tr.region ?_
      refine Tr.va rfl (fun _ _ h1 h2 => run_add (h1.ev rfl) (h1.ev rfl)) ?_
      refine Tr.mv rfl rfl ?_
      refine Tr.nil ?_
      exact Tr.backThen leL1 (w64 (x105 + 1)) H (.cons rfl (.cons rfl (.cons rfl .nil))) .nil
 ·refine Tr.exit (Tr.exitThen (Tr.exitThen (Tr.exitBlock (Tr.normThen ?_))))
  refine Tr.sr ?_
  refine Tr.mv rfl rfl ?_
  refine Tr.va rfl (fun _ _ h1 h2 => run_lenS un_9 (h1.ev rfl)) ?_
  refine Tr.va rfl (fun _ _ h1 h2 => run_geq (h1.ev rfl) (h1.ev rfl)) ?_
  refine Tr.mv rfl rfl ?_
  refine Tr.mid0 4 [(58, (.bool ((decide (1 ≤ (p0.size : Int))) && (decide ((p0.size : Int) ≤ 40)))))] [] ?_ ?_
  ·cases hg106 : (decide (1 ≤ (p0.size : Int)))
   ·refine Tr.pass rfl rfl rfl rfl rfl (by decide) ?_
    refine Tr.pass rfl rfl rfl rfl rfl (by decide) ?_
    refine Tr.pass rfl rfl rfl rfl rfl (by decide) ?_
    refine Tr.va rfl (fun _ _ h1 h2 => run_pickF (h1.ev rfl) (h1.ev rfl)) ?_
    exact Tr.nil (Tr.fin0 (.cons rfl .nil) .nil)
   ·refine Tr.val (wg rfl rfl rfl) rfl (fun _ _ h1 h2 => run_move (h1.ev rfl)) ?_
    refine Tr.val (wg rfl rfl rfl) rfl (fun _ _ h1 h2 => run_lenS un_9 (h1.ev rfl)) ?_
    refine Tr.val (wg rfl rfl rfl) rfl (fun _ _ h1 h2 => run_leq (h1.ev rfl) (h1.ev rfl)) ?_
    refine Tr.va rfl (fun _ _ h1 h2 => run_pickT (h1.ev rfl) (h1.ev rfl)) ?_
    exact Tr.nil (Tr.fin0 (.cons rfl .nil) .nil)
  ·show Tr _ _ (LF [(58, (.bool ((decide (1 ≤ (p0.size : Int))) && (decide ((p0.size : Int) ≤ 40)))))]) (LE []) _
   refine Tr.asg rfl rfl ?_
   refine Tr.nil (Tr.normThen ?_)
   refine Tr.ret ?_
   obtain rfl := Option.some.inj H
   exact Tr.out (m := [(.bool ((decide (1 ≤ (p0.size : Int))) && (decide ((p0.size : Int) ≤ 40))))]) [] (res_tmp rfl res_nil) (fun W hW => ⟨rfl, hW.low leB⟩)

theorem F_plot_isAt_ok {w : Bs} (p0 : Int) (p1 : Int) (r : Bool) (H : F_plot_isAt p0 p1 = some r) (hE : HF w w.W E0) : Calls Tryd.prog 65 [(iv p0), (iv p1)].toArray w.W fun e W' => e = .returned (.bool r) ∧ HF w W' E0 := by
 unfold F_plot_isAt at H
 have leB := Bs.Le.refl w
 refine Tr.enter (n := 11) Tryd.func65 rfl rfl rfl hE ?_
 refine Tr.sr ?_
 refine Tr.asg rfl rfl ?_
 refine Tr.nil (Tr.normThen ?_)
 refine Tr.seq ?_
 refine Tr.draw (by kernel_rfl) (by kernel_rfl) ?_
 refine Tq.mv rfl rfl ?_
 refine Tq.mv rfl rfl ?_
 obtain ⟨q100, hq100, H⟩ := bnd H
 refine Tq.va rfl (fun _ _ h1 h2 => run_dv (h1.ev rfl) (h1.ev rfl) hq100) ?_
 refine Tq.mv rfl rfl ?_
 obtain ⟨q101, hq101, H⟩ := bnd H
 refine Tq.va rfl (fun _ _ h1 h2 => run_dv (h1.ev rfl) (h1.ev rfl) hq101) ?_
 obtain ⟨y102, hy102, H⟩ := bnd H
 refine Tq.call0 (r := (.bool y102)) (wn rfl) rfl Tryd.call36 (evl_cons rfl (evl_cons rfl (evl_cons rfl evl_nil))) (fun W hW => F_plot_within_ok p0 q100 q101 y102 hy102 (HF.start _)) ?_
 refine Tq.asg rfl rfl ?_
 refine Tq.nil (Tr.normThen ?_)
 refine Tr.ret ?_
 obtain rfl := Option.some.inj H
 exact Tr.out (m := [(.bool y102)]) [] (res_tmp rfl res_nil) (fun W hW => ⟨rfl, hW.low leB⟩)

theorem F_plot_checkTool_ok (N : Nat) {w : Bs} (p0 : TPlotTool) (Ap0_0 : Option Addr) (cp0_0 : Nat) (hp0_0 : Sl w.R w.W fl_TRect Ap0_0 cp0_0 p0.Rects) (p1 : Int) (r : Int) (H : F_plot_checkTool N p0 p1 = some r) (hE : HF w w.W E0) : Calls Tryd.prog 37 [(.agg #[(sv p0.Name), (.slice Ap0_0 (p0.Rects).length cp0_0)]), (iv p1)].toArray w.W fun e W' => e = .returned (iv r) ∧ HF w W' E0 := by
 unfold F_plot_checkTool at H
 have leB := Bs.Le.refl w
 refine Tr.enter (n := 65) Tryd.func37 rfl rfl rfl hE ?_
 refine Tr.sr ?_
 refine Tr.box 1 (cs := [(sv p0.Name), (.slice Ap0_0 (p0.Rects).length cp0_0)]) (wn rfl) rfl rfl rfl fun b100 => ?_
 refine Tr.asg rfl rfl ?_
 refine Tr.nil (Tr.normThen ?_)
 refine Tr.seq ?_
 refine Tr.sr ?_
 refine Tr.va rfl (fun _ _ h1 h2 => run_fieldAddr fo_62_0 (h1.ev rfl)) ?_
 refine Tr.va rfl (fun _ _ h1 h2 => run_load1 ag_9 (h1.ev rfl) (rdb h2 (vs := [(sv p0.Name), (.slice Ap0_0 (p0.Rects).length cp0_0)]) (k := 1) rfl 0) rfl) ?_
 obtain ⟨y101, hy101, H⟩ := bnd H
 refine Tr.call0 (r := (.bool y101)) (wn rfl) rfl Tryd.call64 (evl_cons rfl evl_nil) (fun W hW => F_plot_IsName_ok N p0.Name y101 hy101 (HF.start _)) ?_
 refine Tr.va rfl (fun _ _ h1 h2 => run_not (h1.ev rfl)) ?_
 refine Tr.nil (Tr.normThen ?_)
 refine Tr.cond rfl H (fun H => ?_) (fun H => ?_)
 ·refine Tr.sr ?_
  refine Tr.asg rfl rfl ?_
  refine Tr.nil (Tr.normThen ?_)
  refine Tr.ret (Tr.retThen ?_)
  obtain rfl := Option.some.inj H
  exact Tr.out (m := [(iv 5)]) [] (res_tmp rfl res_nil) (fun W hW => ⟨rfl, hW.low leB⟩)
 ·refine Tr.skip (Tr.normThen ?_)
  refine Tr.seq ?_
  refine Tr.sr ?_
  refine Tr.va rfl (fun _ _ h1 h2 => run_fieldAddr fo_62_1 (h1.ev rfl)) ?_
  refine Tr.va rfl (fun _ _ h1 h2 => run_load1 ag_60 (h1.ev rfl) (rdb h2 (vs := [(sv p0.Name), (.slice Ap0_0 (p0.Rects).length cp0_0)]) (k := 1) rfl 1) rfl) ?_
  refine Tr.va rfl (fun _ _ h1 h2 => run_len un_60 (h1.ev rfl)) ?_
  refine Tr.va rfl (fun _ _ h1 h2 => run_eql (h1.ev rfl) (h1.ev rfl)) ?_
  refine Tr.nil (Tr.normThen ?_)
  refine Tr.cond rfl H (fun H => ?_) (fun H => ?_)
  ·refine Tr.sr ?_
   refine Tr.asg rfl rfl ?_
   refine Tr.nil (Tr.normThen ?_)
   refine Tr.ret (Tr.retThen ?_)
   obtain rfl := Option.some.inj H
   exact Tr.out (m := [(iv 9)]) [] (res_tmp rfl res_nil) (fun W hW => ⟨rfl, hW.low leB⟩)
  ·refine Tr.skip (Tr.normThen ?_)
   refine Tr.seq ?_
   refine Tr.sr ?_
   refine Tr.va rfl (fun _ _ h1 h2 => run_fieldAddr fo_62_1 (h1.ev rfl)) ?_
   refine Tr.va rfl (fun _ _ h1 h2 => run_load1 ag_60 (h1.ev rfl) (rdb h2 (vs := [(sv p0.Name), (.slice Ap0_0 (p0.Rects).length cp0_0)]) (k := 1) rfl 1) rfl) ?_
   refine Tr.va rfl (fun _ _ h1 h2 => run_len un_60 (h1.ev rfl)) ?_
   refine Tr.va rfl (fun _ _ h1 h2 => run_gtr (h1.ev rfl) (h1.ev rfl)) ?_
   refine Tr.nil (Tr.normThen ?_)
   refine Tr.cond rfl H (fun H => ?_) (fun H => ?_)
   ·refine Tr.sr ?_
    refine Tr.asg rfl rfl ?_
    refine Tr.nil (Tr.normThen ?_)
    refine Tr.ret (Tr.retThen ?_)
    obtain rfl := Option.some.inj H
    exact Tr.out (m := [(iv 2)]) [] (res_tmp rfl res_nil) (fun W hW => ⟨rfl, hW.low leB⟩)
   ·refine Tr.skip (Tr.normThen ?_)
    refine Tr.seq ?_
    refine Tr.sr ?_
    refine Tr.va rfl (fun _ _ h1 h2 => run_fieldAddr fo_62_1 (h1.ev rfl)) ?_
    refine Tr.va rfl (fun _ _ h1 h2 => run_load1 ag_60 (h1.ev rfl) (rdb h2 (vs := [(sv p0.Name), (.slice Ap0_0 (p0.Rects).length cp0_0)]) (k := 1) rfl 1) rfl) ?_
    refine Tr.va rfl (fun _ _ h1 h2 => run_len un_60 (h1.ev rfl)) ?_
    refine Tr.mv rfl rfl ?_
    refine Tr.nil (Tr.normThen ?_)
    refine Tr.block ?_
    refine Tr.loop (σ := (List TRect) × Nat) (fun m w s => m = s.1.length + 1 ∧ s.1 = List.drop s.2 p0.Rects ∧ s.2 ≤ p0.Rects.length ∧ F_plot_checkTool_L1 p1 s.1 s.2 = some r) (fun s => [(1, (iv p1)), (20, (.slice Ap0_0 (p0.Rects).length cp0_0)), (21, (iv (p0.Rects.length : Int))), (22, (iv (s.2 : Int)))]) (fun s => []) (p0.Rects.length + 1) (p0.Rects, 0) ⟨rfl, rfl, Nat.zero_le _, H⟩ (.cons rfl (.cons rfl (.cons rfl (.cons rfl .nil)))) .nil (fun _ _ h => absurd h.1 (by simp)) ?_
    intro w leL1 m s hs
    obtain ⟨restL1, iL1⟩ := s
    obtain ⟨hmL1, hdL1, hiL1, H⟩ := hs
    replace hdL1 : restL1 = List.drop iL1 p0.Rects := hdL1
    replace H : F_plot_checkTool_L1 p1 restL1 iL1 = some r := H
    replace hmL1 : m + 1 = restL1.length + 1 := hmL1
    replace hp0_0 := hp0_0.leR leL1
    replace leB := leB.trans leL1
    obtain rfl : m = restL1.length := by omega
    clear hmL1
    show Tr _ _ (LF [(1, (iv p1)), (20, (.slice Ap0_0 (p0.Rects).length cp0_0)), (21, (iv (p0.Rects.length : Int))), (22, (iv (iL1 : Int)))]) (LE []) _
    cases restL1 with
    | nil =>
     rw [F_plot_checkTool_L1.eq_1] at H
     refine Tr.sr ?_
     refine Tr.va rfl (fun _ _ h1 h2 => run_lss (h1.ev rfl) (h1.ev rfl)) ?_
     refine Tr.nil (Tr.normThen ?_)
     refine Tr.seq ?_
     refine Tr.condF rfl (range_nil hdL1) ?_
     refine Tr.exit (Tr.exitThen (Tr.exitThen (Tr.exitBlock (Tr.normThen ?_))))
     refine Tr.sr ?_
     refine Tr.asg rfl rfl ?_
     refine Tr.nil (Tr.normThen ?_)
     refine Tr.ret ?_
     obtain rfl := Option.some.inj H
     exact Tr.out (m := [(iv 0)]) [] (res_tmp rfl res_nil) (fun W hW => ⟨rfl, hW.low leB⟩)
    | cons xL1 restL1 =>
     rw [F_plot_checkTool_L1.eq_2] at H
     refine Tr.sr ?_
     refine Tr.va rfl (fun _ _ h1 h2 => run_lss (h1.ev rfl) (h1.ev rfl)) ?_
     refine Tr.nil (Tr.normThen ?_)
     refine Tr.seq ?_
     refine Tr.condT rfl (range_on hdL1) ?_
     refine Tr.skip (Tr.normThen ?_)
     refine Tr.seq ?_
     refine Tr.block ?_
     refine Tr.sr ?_
     refine Tr.va rfl (fun _ _ h1 h2 => run_indexAddr el_60 (h1.ev rfl) hp0_0.form (h1.ev rfl) (Int.natCast_nonneg _) (range_lt hdL1)) ?_
     refine Tr.va rfl (fun _ _ h1 h2 => run_loadN (cs := [(iv xL1.X0), (iv xL1.Y0), (iv xL1.X1), (iv xL1.Y1)]) ag_57 sz_57 (h1.ev rfl) (CellsAt.take (rdF ef_TRect hp0_0 (range_at hdL1) h2) 4) rfl) ?_
     refine Tr.alloc 3 (wn rfl) rfl ze_57 fun b115 => ?_
     refine Tr.store 3 (cs := [(iv xL1.X0), (iv xL1.Y0), (iv xL1.X1), (iv xL1.Y1)]) [(iv xL1.X0), (iv xL1.Y0), (iv xL1.X1), (iv xL1.Y1)] (wn rfl) rfl rfl rfl rfl sz_57 rfl rfl rfl ?_
     refine Tr.nil (Tr.normThen ?_)
     refine Tr.seq ?_
     refine Tr.sr ?_
     refine Tr.va rfl (fun _ _ h1 h2 => run_fieldAddr fo_57_0 (h1.ev rfl)) ?_
     refine Tr.va rfl (fun _ _ h1 h2 => run_load1 ag_3 (h1.ev rfl) (rdb h2 (vs := [(iv xL1.X0), (iv xL1.Y0), (iv xL1.X1), (iv xL1.Y1)]) (k := 3) rfl 0) rfl) ?_
     refine Tr.mv rfl rfl ?_
     obtain ⟨y116, hy116, H⟩ := bnd H
     refine Tr.call0 (r := (.bool y116)) (wn rfl) rfl Tryd.call65 (evl_cons rfl (evl_cons rfl evl_nil)) (fun W hW => F_plot_isAt_ok xL1.X0 p1 y116 hy116 (HF.start _)) ?_
     refine Tr.va rfl (fun _ _ h1 h2 => run_not (h1.ev rfl)) ?_
     refine Tr.mv rfl rfl ?_
     obtain ⟨g118, hg118, H⟩ := bnd H
     refine Tr.mid0 6 [(1, (iv p1)), (6, (.pointer (some ⟨b115, 0, none⟩))), (20, (.slice Ap0_0 (p0.Rects).length cp0_0)), (21, (iv (p0.Rects.length : Int))), (22, (iv (iL1 : Int))), (37, (.bool g118))] [(3, bx b115 #[(iv xL1.X0), (iv xL1.Y0), (iv xL1.X1), (iv xL1.Y1)] 57)] ?_ ?_
     ·cases hg125 : (!y116)
      ·rw [hg125] at hg118
       rw [if_neg (by decide)] at hg118
       have H := hg118
       refine Tr.val (wg rfl rfl rfl) rfl (fun _ _ h1 h2 => run_fieldAddr fo_57_1 (h1.ev rfl)) ?_
       refine Tr.val (wg rfl rfl rfl) rfl (fun _ _ h1 h2 => run_load1 ag_3 (h1.ev rfl) (rdb h2 (vs := [(iv xL1.X0), (iv xL1.Y0), (iv xL1.X1), (iv xL1.Y1)]) (k := 3) rfl 1) rfl) ?_
       refine Tr.val (wg rfl rfl rfl) rfl (fun _ _ h1 h2 => run_move (h1.ev rfl)) ?_
       obtain ⟨y119, hy119, H⟩ := bnd H
       refine Tr.call0 (r := (.bool y119)) (wg rfl rfl rfl) rfl Tryd.call65 (evl_cons rfl (evl_cons rfl evl_nil)) (fun W hW => F_plot_isAt_ok xL1.Y0 p1 y119 hy119 (HF.start _)) ?_
       refine Tr.val (wg rfl rfl rfl) rfl (fun _ _ h1 h2 => run_not (h1.ev rfl)) ?_
       refine Tr.va rfl (fun _ _ h1 h2 => run_pickF (h1.ev rfl) (h1.ev rfl)) ?_
       obtain rfl := Option.some.inj H
       exact Tr.nil (Tr.fin0 (.cons rfl (.cons rfl (.cons rfl (.cons rfl (.cons rfl (.cons rfl .nil)))))) (.cons rfl .nil))
      ·rw [hg125] at hg118
       rw [if_pos rfl] at hg118
       have H := hg118
       obtain rfl := Option.some.inj H
       refine Tr.pass rfl rfl rfl rfl rfl (by decide) ?_
       refine Tr.pass rfl rfl rfl rfl rfl (by decide) ?_
       refine Tr.pass rfl rfl rfl rfl rfl (by decide) ?_
       refine Tr.pass rfl rfl rfl rfl rfl (by decide) ?_
       refine Tr.pass rfl rfl rfl rfl rfl (by decide) ?_
       refine Tr.va rfl (fun _ _ h1 h2 => run_pickT (h1.ev rfl) (h1.ev rfl)) ?_
       exact Tr.nil (Tr.fin0 (.cons rfl (.cons rfl (.cons rfl (.cons rfl (.cons rfl (.cons rfl .nil)))))) (.cons rfl .nil))
     ·show Tr _ _ (LF [(1, (iv p1)), (6, (.pointer (some ⟨b115, 0, none⟩))), (20, (.slice Ap0_0 (p0.Rects).length cp0_0)), (21, (iv (p0.Rects.length : Int))), (22, (iv (iL1 : Int))), (37, (.bool g118))]) (LE [(3, bx b115 #[(iv xL1.X0), (iv xL1.Y0), (iv xL1.X1), (iv xL1.Y1)] 57)]) _
      refine Tr.mv rfl rfl ?_
      obtain ⟨g121, hg121, H⟩ := bnd H
      refine Tr.mid0 6 [(1, (iv p1)), (6, (.pointer (some ⟨b115, 0, none⟩))), (20, (.slice Ap0_0 (p0.Rects).length cp0_0)), (21, (iv (p0.Rects.length : Int))), (22, (iv (iL1 : Int))), (44, (.bool g121))] [(3, bx b115 #[(iv xL1.X0), (iv xL1.Y0), (iv xL1.X1), (iv xL1.Y1)] 57)] ?_ ?_
      ·cases hg125 : g118
       ·rw [hg125] at hg121
        rw [if_neg (by decide)] at hg121
        have H := hg121
        refine Tr.val (wg rfl rfl rfl) rfl (fun _ _ h1 h2 => run_fieldAddr fo_57_2 (h1.ev rfl)) ?_
        refine Tr.val (wg rfl rfl rfl) rfl (fun _ _ h1 h2 => run_load1 ag_3 (h1.ev rfl) (rdb h2 (vs := [(iv xL1.X0), (iv xL1.Y0), (iv xL1.X1), (iv xL1.Y1)]) (k := 3) rfl 2) rfl) ?_
        refine Tr.val (wg rfl rfl rfl) rfl (fun _ _ h1 h2 => run_move (h1.ev rfl)) ?_
        obtain ⟨y122, hy122, H⟩ := bnd H
        refine Tr.call0 (r := (.bool y122)) (wg rfl rfl rfl) rfl Tryd.call65 (evl_cons rfl (evl_cons rfl evl_nil)) (fun W hW => F_plot_isAt_ok xL1.X1 p1 y122 hy122 (HF.start _)) ?_
        refine Tr.val (wg rfl rfl rfl) rfl (fun _ _ h1 h2 => run_not (h1.ev rfl)) ?_
        refine Tr.va rfl (fun _ _ h1 h2 => run_pickF (h1.ev rfl) (h1.ev rfl)) ?_
        obtain rfl := Option.some.inj H
        exact Tr.nil (Tr.fin0 (.cons rfl (.cons rfl (.cons rfl (.cons rfl (.cons rfl (.cons rfl .nil)))))) (.cons rfl .nil))
       ·rw [hg125] at hg121
        rw [if_pos rfl] at hg121
        have H := hg121
        obtain rfl := Option.some.inj H
        refine Tr.pass rfl rfl rfl rfl rfl (by decide) ?_
        refine Tr.pass rfl rfl rfl rfl rfl (by decide) ?_
        refine Tr.pass rfl rfl rfl rfl rfl (by decide) ?_
        refine Tr.pass rfl rfl rfl rfl rfl (by decide) ?_
        refine Tr.pass rfl rfl rfl rfl rfl (by decide) ?_
        refine Tr.va rfl (fun _ _ h1 h2 => run_pickT (h1.ev rfl) (h1.ev rfl)) ?_
        exact Tr.nil (Tr.fin0 (.cons rfl (.cons rfl (.cons rfl (.cons rfl (.cons rfl (.cons rfl .nil)))))) (.cons rfl .nil))
      ·show Tr _ _ (LF [(1, (iv p1)), (6, (.pointer (some ⟨b115, 0, none⟩))), (20, (.slice Ap0_0 (p0.Rects).length cp0_0)), (21, (iv (p0.Rects.length : Int))), (22, (iv (iL1 : Int))), (44, (.bool g121))]) (LE [(3, bx b115 #[(iv xL1.X0), (iv xL1.Y0), (iv xL1.X1), (iv xL1.Y1)] 57)]) _
       refine Tr.mv rfl rfl ?_
       obtain ⟨g124, hg124, H⟩ := bnd H
       refine Tr.mid0 6 [(1, (iv p1)), (6, (.pointer (some ⟨b115, 0, none⟩))), (20, (.slice Ap0_0 (p0.Rects).length cp0_0)), (21, (iv (p0.Rects.length : Int))), (22, (iv (iL1 : Int))), (51, (.bool g124))] [(3, bx b115 #[(iv xL1.X0), (iv xL1.Y0), (iv xL1.X1), (iv xL1.Y1)] 57)] ?_ ?_
       ·cases hg125 : g121
        ·rw [hg125] at hg124
         rw [if_neg (by decide)] at hg124
         have H := hg124
         refine Tr.val (wg rfl rfl rfl) rfl (fun _ _ h1 h2 => run_fieldAddr fo_57_3 (h1.ev rfl)) ?_
         refine Tr.val (wg rfl rfl rfl) rfl (fun _ _ h1 h2 => run_load1 ag_3 (h1.ev rfl) (rdb h2 (vs := [(iv xL1.X0), (iv xL1.Y0), (iv xL1.X1), (iv xL1.Y1)]) (k := 3) rfl 3) rfl) ?_
         refine Tr.val (wg rfl rfl rfl) rfl (fun _ _ h1 h2 => run_move (h1.ev rfl)) ?_
         obtain ⟨y125, hy125, H⟩ := bnd H
         refine Tr.call0 (r := (.bool y125)) (wg rfl rfl rfl) rfl Tryd.call65 (evl_cons rfl (evl_cons rfl evl_nil)) (fun W hW => F_plot_isAt_ok xL1.Y1 p1 y125 hy125 (HF.start _)) ?_
         refine Tr.val (wg rfl rfl rfl) rfl (fun _ _ h1 h2 => run_not (h1.ev rfl)) ?_
         refine Tr.va rfl (fun _ _ h1 h2 => run_pickF (h1.ev rfl) (h1.ev rfl)) ?_
         obtain rfl := Option.some.inj H
         exact Tr.nil (Tr.fin0 (.cons rfl (.cons rfl (.cons rfl (.cons rfl (.cons rfl (.cons rfl .nil)))))) (.cons rfl .nil))
        ·rw [hg125] at hg124
         rw [if_pos rfl] at hg124
         have H := hg124
         obtain rfl := Option.some.inj H
         refine Tr.pass rfl rfl rfl rfl rfl (by decide) ?_
         refine Tr.pass rfl rfl rfl rfl rfl (by decide) ?_
         refine Tr.pass rfl rfl rfl rfl rfl (by decide) ?_
         refine Tr.pass rfl rfl rfl rfl rfl (by decide) ?_
         refine Tr.pass rfl rfl rfl rfl rfl (by decide) ?_
         refine Tr.va rfl (fun _ _ h1 h2 => run_pickT (h1.ev rfl) (h1.ev rfl)) ?_
         exact Tr.nil (Tr.fin0 (.cons rfl (.cons rfl (.cons rfl (.cons rfl (.cons rfl (.cons rfl .nil)))))) (.cons rfl .nil))
       ·show Tr _ _ (LF [(1, (iv p1)), (6, (.pointer (some ⟨b115, 0, none⟩))), (20, (.slice Ap0_0 (p0.Rects).length cp0_0)), (21, (iv (p0.Rects.length : Int))), (22, (iv (iL1 : Int))), (51, (.bool g124))]) (LE [(3, bx b115 #[(iv xL1.X0), (iv xL1.Y0), (iv xL1.X1), (iv xL1.Y1)] 57)]) _
        refine Tr.nil (Tr.normThen ?_)
        refine Tr.cond rfl H (fun H => ?_) (fun H => ?_)
        ·refine Tr.sr ?_
         refine Tr.asg rfl rfl ?_
         refine Tr.nil (Tr.normThen ?_)
         refine Tr.ret (Tr.retThen (Tr.retBlock (Tr.retThen (Tr.retThen (Tr.retBlock (Tr.retThen ?_))))))
         obtain rfl := Option.some.inj H
         exact Tr.out (m := [(iv 1)]) [] (res_tmp rfl res_nil) (fun W hW => ⟨rfl, hW.low leB⟩)
        ·refine Tr.skip (Tr.normThen ?_)
         refine Tr.sr ?_
         refine Tr.va rfl (fun _ _ h1 h2 => run_fieldAddr fo_57_2 (h1.ev rfl)) ?_
         refine Tr.va rfl (fun _ _ h1 h2 => run_load1 ag_3 (h1.ev rfl) (rdb h2 (vs := [(iv xL1.X0), (iv xL1.Y0), (iv xL1.X1), (iv xL1.Y1)]) (k := 3) rfl 2) rfl) ?_
         refine Tr.va rfl (fun _ _ h1 h2 => run_fieldAddr fo_57_0 (h1.ev rfl)) ?_
         refine Tr.va rfl (fun _ _ h1 h2 => run_load1 ag_3 (h1.ev rfl) (rdb h2 (vs := [(iv xL1.X0), (iv xL1.Y0), (iv xL1.X1), (iv xL1.Y1)]) (k := 3) rfl 0) rfl) ?_
         refine Tr.va rfl (fun _ _ h1 h2 => run_leq (h1.ev rfl) (h1.ev rfl)) ?_
         refine Tr.mv rfl rfl ?_
         refine Tr.mid0 6 [(1, (iv p1)), (20, (.slice Ap0_0 (p0.Rects).length cp0_0)), (21, (iv (p0.Rects.length : Int))), (22, (iv (iL1 : Int))), (63, (.bool ((decide (xL1.X1 ≤ xL1.X0)) || (decide (xL1.Y1 ≤ xL1.Y0)))))] [(3, bx b115 #[(iv xL1.X0), (iv xL1.Y0), (iv xL1.X1), (iv xL1.Y1)] 57)] ?_ ?_
         ·cases hg125 : (decide (xL1.X1 ≤ xL1.X0))
          ·refine Tr.val (wg rfl rfl rfl) rfl (fun _ _ h1 h2 => run_fieldAddr fo_57_3 (h1.ev rfl)) ?_
           refine Tr.val (wg rfl rfl rfl) rfl (fun _ _ h1 h2 => run_load1 ag_3 (h1.ev rfl) (rdb h2 (vs := [(iv xL1.X0), (iv xL1.Y0), (iv xL1.X1), (iv xL1.Y1)]) (k := 3) rfl 3) rfl) ?_
           refine Tr.val (wg rfl rfl rfl) rfl (fun _ _ h1 h2 => run_fieldAddr fo_57_1 (h1.ev rfl)) ?_
           refine Tr.val (wg rfl rfl rfl) rfl (fun _ _ h1 h2 => run_load1 ag_3 (h1.ev rfl) (rdb h2 (vs := [(iv xL1.X0), (iv xL1.Y0), (iv xL1.X1), (iv xL1.Y1)]) (k := 3) rfl 1) rfl) ?_
           refine Tr.val (wg rfl rfl rfl) rfl (fun _ _ h1 h2 => run_leq (h1.ev rfl) (h1.ev rfl)) ?_
           refine Tr.va rfl (fun _ _ h1 h2 => run_pickF (h1.ev rfl) (h1.ev rfl)) ?_
           exact Tr.nil (Tr.fin0 (.cons rfl (.cons rfl (.cons rfl (.cons rfl (.cons rfl .nil))))) (.cons rfl .nil))
          ·refine Tr.pass rfl rfl rfl rfl rfl (by decide) ?_
           refine Tr.pass rfl rfl rfl rfl rfl (by decide) ?_
           refine Tr.pass rfl rfl rfl rfl rfl (by decide) ?_
           refine Tr.pass rfl rfl rfl rfl rfl (by decide) ?_
           refine Tr.pass rfl rfl rfl rfl rfl (by decide) ?_
           refine Tr.va rfl (fun _ _ h1 h2 => run_pickT (h1.ev rfl) (h1.ev rfl)) ?_
           exact Tr.nil (Tr.fin0 (.cons rfl (.cons rfl (.cons rfl (.cons rfl (.cons rfl .nil))))) (.cons rfl .nil))
         ·show Tr _ _ (LF [(1, (iv p1)), (20, (.slice Ap0_0 (p0.Rects).length cp0_0)), (21, (iv (p0.Rects.length : Int))), (22, (iv (iL1 : Int))), (63, (.bool ((decide (xL1.X1 ≤ xL1.X0)) || (decide (xL1.Y1 ≤ xL1.Y0)))))]) (LE [(3, bx b115 #[(iv xL1.X0), (iv xL1.Y0), (iv xL1.X1), (iv xL1.Y1)] 57)]) _
          refine Tr.nil (Tr.normThen ?_)
          refine Tr.cond rfl H (fun H => ?_) (fun H => ?_)
          ·refine Tr.sr ?_
           refine Tr.asg rfl rfl ?_
           refine Tr.nil (Tr.normThen ?_)
           refine Tr.ret (Tr.retBlock (Tr.retThen (Tr.retThen (Tr.retBlock (Tr.retThen ?_)))))
           obtain rfl := Option.some.inj H
           exact Tr.out (m := [(iv 13)]) [] (res_tmp rfl res_nil) (fun W hW => ⟨rfl, hW.low leB⟩)
          ·refine Tr.skip (Tr.normBlock (Tr.normThen ?_))
           refine Tr.region ?_
           refine Tr.va rfl (fun _ _ h1 h2 => run_add (h1.ev rfl) (h1.ev rfl)) ?_
           refine Tr.mv rfl rfl ?_
           refine Tr.nil ?_
           exact Tr.backThen leL1 (restL1, (iL1 + 1)) ⟨rfl, range_tl hdL1, range_lt hdL1, H⟩ (.cons rfl (.cons rfl (.cons rfl (.cons (congrArg (fun z => some (Value.int .i64 z)) (range_up hdL1 hp0_0.form)) .nil)))) .nil

theorem F_plot_times_1_ok {w : Bs} (p0 : Int) (r : Int) (H : F_plot_times_1 p0 = some r) (hE : HF w w.W E0) : Calls Tryd.prog 73 [(iv p0)].toArray w.W fun e W' => e = .returned (iv r) ∧ HF w W' E0 := by
 unfold F_plot_times_1 at H
 have leB := Bs.Le.refl w
 refine Tr.enter (n := 6) Tryd.func73 rfl rfl rfl hE ?_
 refine Tr.sr ?_
 refine Tr.asg rfl rfl ?_
 refine Tr.nil (Tr.normThen ?_)
 refine Tr.seq ?_
 refine Tr.sr ?_
 refine Tr.mv rfl rfl ?_
 obtain ⟨y100, hy100, H⟩ := bnd H
 refine Tr.call0 (r := (.bool y100)) (wn rfl) rfl Tryd.call36 (evl_cons rfl (evl_cons rfl (evl_cons rfl evl_nil))) (fun W hW => F_plot_within_ok p0 1 100 y100 hy100 (HF.start _)) ?_
 refine Tr.nil (Tr.normThen ?_)
 refine Tr.cond rfl H (fun H => ?_) (fun H => ?_)
 ·refine Tr.sr ?_
  refine Tr.mv rfl rfl ?_
  refine Tr.asg rfl rfl ?_
  refine Tr.nil (Tr.normThen ?_)
  refine Tr.ret (Tr.retThen ?_)
  obtain rfl := Option.some.inj H
  exact Tr.out (m := [(iv p0)]) [] (res_tmp rfl res_nil) (fun W hW => ⟨rfl, hW.low leB⟩)
 ·refine Tr.skip (Tr.normThen ?_)
  refine Tr.sr ?_
  refine Tr.asg rfl rfl ?_
  refine Tr.nil (Tr.normThen ?_)
  refine Tr.ret ?_
  obtain rfl := Option.some.inj H
  exact Tr.out (m := [(iv 1)]) [] (res_tmp rfl res_nil) (fun W hW => ⟨rfl, hW.low leB⟩)

theorem F_plot_times_ok {w : Bs} (p0 : TPlotStep) (Ap0_0 : Option Addr) (cp0_0 : Nat) (hp0_0 : Sl w.R w.W fl_TPoint Ap0_0 cp0_0 p0.Points) (Ap0_1 : Option Addr) (cp0_1 : Nat) (hp0_1 : Sl w.R w.W fl_TPlotStep Ap0_1 cp0_1 p0.Steps) (r : Int) (H : F_plot_times p0 = some r) (hE : HF w w.W E0) : Calls Tryd.prog 66 [(.agg #[(iv p0.Kind), (sv p0.Name), (iv p0.At.X), (iv p0.At.Y), (.slice Ap0_0 (p0.Points).length cp0_0), (iv p0.NX), (iv p0.NY), (.slice Ap0_1 (p0.Steps).length cp0_1)])].toArray w.W fun e W' => e = .returned (iv r) ∧ HF w W' E0 := by
 unfold F_plot_times at H
 have leB := Bs.Le.refl w
 refine Tr.enter (n := 13) Tryd.func66 rfl rfl rfl hE ?_
 refine Tr.sr ?_
 refine Tr.box 1 (cs := [(iv p0.Kind), (sv p0.Name), (iv p0.At.X), (iv p0.At.Y), (.slice Ap0_0 (p0.Points).length cp0_0), (iv p0.NX), (iv p0.NY), (.slice Ap0_1 (p0.Steps).length cp0_1)]) (wn rfl) rfl rfl rfl fun b100 => ?_
 refine Tr.asg rfl rfl ?_
 refine Tr.nil (Tr.normThen ?_)
 refine Tr.sr ?_
 refine Tr.asg rfl rfl ?_
 refine Tr.nil (Tr.normThen ?_)
 refine Tr.seq ?_
 refine Tr.draw (by kernel_rfl) (by kernel_rfl) ?_
 refine Tq.mv rfl rfl ?_
 refine Tq.va rfl (fun _ _ h1 h2 => run_fieldAddr fo_46_4 (h1.ev rfl)) ?_
 refine Tq.va rfl (fun _ _ h1 h2 => run_load1 ag_3 (h1.ev rfl) (rdb h2 (vs := [(iv p0.Kind), (sv p0.Name), (iv p0.At.X), (iv p0.At.Y), (.slice Ap0_0 (p0.Points).length cp0_0), (iv p0.NX), (iv p0.NY), (.slice Ap0_1 (p0.Steps).length cp0_1)]) (k := 1) rfl 5) rfl) ?_
 obtain ⟨y101, hy101, H⟩ := bnd H
 refine Tq.callF (r := (iv y101)) (wn rfl) rfl rfl Tryd.call73 (evl_cons rfl evl_nil) (fun W hW => F_plot_times_1_ok p0.NX y101 hy101 (HF.start _)) ?_
 refine Tq.mv rfl rfl ?_
 refine Tq.va rfl (fun _ _ h1 h2 => run_fieldAddr fo_46_5 (h1.ev rfl)) ?_
 refine Tq.va rfl (fun _ _ h1 h2 => run_load1 ag_3 (h1.ev rfl) (rdb h2 (vs := [(iv p0.Kind), (sv p0.Name), (iv p0.At.X), (iv p0.At.Y), (.slice Ap0_0 (p0.Points).length cp0_0), (iv p0.NX), (iv p0.NY), (.slice Ap0_1 (p0.Steps).length cp0_1)]) (k := 1) rfl 6) rfl) ?_
 obtain ⟨y102, hy102, H⟩ := bnd H
 refine Tq.callF (r := (iv y102)) (wn rfl) rfl rfl Tryd.call73 (evl_cons rfl evl_nil) (fun W hW => F_plot_times_1_ok p0.NY y102 hy102 (HF.start _)) ?_
 refine Tq.va rfl (fun _ _ h1 h2 => run_mul (h1.ev rfl) (h1.ev rfl)) ?_
 refine Tq.asg rfl rfl ?_
 refine Tq.nil (Tr.normThen ?_)
 refine Tr.ret ?_
 obtain rfl := Option.some.inj H
 exact Tr.out (m := [(iv (w64 (y101 * y102)))]) [] (res_tmp rfl res_nil) (fun W hW => ⟨rfl, hW.low leB⟩)

theorem F_plot_count_b_ok (N : Nat) (rec : (List TPlotStep) → Option Int) (hrec : ∀ {w : Bs} (p0 : (List TPlotStep)) (Ap0_0 : Option Addr) (cp0_0 : Nat) (hp0_0 : Sl w.R w.W fl_TPlotStep Ap0_0 cp0_0 p0) (r : Int) (H : rec p0 = some r) (hE : HF w w.W E0), Calls Tryd.prog 38 [(.slice Ap0_0 (p0).length cp0_0)].toArray w.W fun e W' => e = .returned (iv r) ∧ HF w W' E0) {w : Bs} (p0 : (List TPlotStep)) (Ap0_0 : Option Addr) (cp0_0 : Nat) (hp0_0 : Sl w.R w.W fl_TPlotStep Ap0_0 cp0_0 p0) (r : Int) (H : F_plot_count_b N rec p0 = some r) (hE : HF w w.W E0) : Calls Tryd.prog 38 [(.slice Ap0_0 (p0).length cp0_0)].toArray w.W fun e W' => e = .returned (iv r) ∧ HF w W' E0 := by
 unfold F_plot_count_b at H
 have leB := Bs.Le.refl w
 refine Tr.enter (n := 30) Tryd.func38 rfl rfl rfl hE ?_
 refine Tr.sr ?_
 refine Tr.asg rfl rfl ?_
 refine Tr.nil (Tr.normThen ?_)
 refine Tr.sr ?_
 refine Tr.asg rfl rfl ?_
 refine Tr.nil (Tr.normThen ?_)
 refine Tr.seq ?_
 refine Tr.sr ?_
 refine Tr.mv rfl rfl ?_
 refine Tr.va rfl (fun _ _ h1 h2 => run_len un_23 (h1.ev rfl)) ?_
 refine Tr.mv rfl rfl ?_
 refine Tr.nil (Tr.normThen ?_)
 refine Tr.block ?_
 refine Tr.loop (σ := (List TPlotStep) × Nat × Int) (fun m w s => m = s.1.length + 1 ∧ s.1 = List.drop s.2.1 p0 ∧ s.2.1 ≤ p0.length ∧ F_plot_count_L3 rec s.1 s.2.1 s.2.2 = some r) (fun s => [(3, (iv s.2.2)), (6, (.slice Ap0_0 (p0).length cp0_0)), (7, (iv (p0.length : Int))), (8, (iv (s.2.1 : Int)))]) (fun s => []) (p0.length + 1) (p0, 0, 0) ⟨rfl, rfl, Nat.zero_le _, H⟩ (.cons rfl (.cons rfl (.cons rfl (.cons rfl .nil)))) .nil (fun _ _ h => absurd h.1 (by simp)) ?_
 intro w leL3 m s hs
 obtain ⟨restL3, iL3, x126⟩ := s
 obtain ⟨hmL3, hdL3, hiL3, H⟩ := hs
 replace hdL3 : restL3 = List.drop iL3 p0 := hdL3
 replace H : F_plot_count_L3 rec restL3 iL3 x126 = some r := H
 replace hmL3 : m + 1 = restL3.length + 1 := hmL3
 replace hp0_0 := hp0_0.leR leL3
 replace leB := leB.trans leL3
 obtain rfl : m = restL3.length := by omega
 clear hmL3
 show Tr _ _ (LF [(3, (iv x126)), (6, (.slice Ap0_0 (p0).length cp0_0)), (7, (iv (p0.length : Int))), (8, (iv (iL3 : Int)))]) (LE []) _
 cases restL3 with
 | nil =>
  rw [F_plot_count_L3.eq_1] at H
  refine Tr.sr ?_
  refine Tr.va rfl (fun _ _ h1 h2 => run_lss (h1.ev rfl) (h1.ev rfl)) ?_
  refine Tr.nil (Tr.normThen ?_)
  refine Tr.seq ?_
  refine Tr.condF rfl (range_nil hdL3) ?_
  refine Tr.exit (Tr.exitThen (Tr.exitThen (Tr.exitBlock (Tr.normThen ?_))))
  refine Tr.sr ?_
  refine Tr.mv rfl rfl ?_
  refine Tr.asg rfl rfl ?_
  refine Tr.nil (Tr.normThen ?_)
  refine Tr.ret ?_
  obtain rfl := Option.some.inj H
  exact Tr.out (m := [(iv x126)]) [] (res_tmp rfl res_nil) (fun W hW => ⟨rfl, hW.low leB⟩)
 | cons xL3 restL3 =>
  rw [F_plot_count_L3.eq_2] at H
  refine Tr.sr ?_
  refine Tr.va rfl (fun _ _ h1 h2 => run_lss (h1.ev rfl) (h1.ev rfl)) ?_
  refine Tr.nil (Tr.normThen ?_)
  refine Tr.seq ?_
  refine Tr.condT rfl (range_on hdL3) ?_
  refine Tr.skip (Tr.normThen ?_)
  refine Tr.seq ?_
  refine Tr.block ?_
  refine Tr.sr ?_
  obtain ⟨u127, hRu127, hoku127, hcu127⟩ := (hp0_0).el (range_at hdL3)
  obtain ⟨⟨Au127_0, cu127_0⟩, ⟨Au127_1, cu127_1⟩⟩ := u127
  obtain ⟨hoku127_0, hoku127_1⟩ := TPlotStep_ok.1 hoku127
  replace hoku127_0 : Sl w.R w.W fl_TPoint Au127_0 cu127_0 xL3.Points := hoku127_0
  replace hoku127_1 : Sl w.R w.W fl_TPlotStep Au127_1 cu127_1 xL3.Steps := hoku127_1
  refine Tr.va rfl (fun _ _ h1 h2 => run_indexAddr el_23 (h1.ev rfl) hp0_0.form (h1.ev rfl) (Int.natCast_nonneg _) (range_lt hdL3)) ?_
  refine Tr.va rfl (fun _ _ h1 h2 => run_loadN (cs := [(iv xL3.Kind), (sv xL3.Name), (iv xL3.At.X), (iv xL3.At.Y), (.slice Au127_0 (xL3.Points).length cu127_0), (iv xL3.NX), (iv xL3.NY), (.slice Au127_1 (xL3.Steps).length cu127_1)]) ag_46 sz_46 (h1.ev rfl) (CellsAt.take (rdR hRu127 hcu127 h2) 8) rfl) ?_
  refine Tr.alloc 3 (wn rfl) rfl ze_46 fun b128 => ?_
  refine Tr.store 3 (cs := [(iv xL3.Kind), (sv xL3.Name), (iv xL3.At.X), (iv xL3.At.Y), (.slice Au127_0 (xL3.Points).length cu127_0), (iv xL3.NX), (iv xL3.NY), (.slice Au127_1 (xL3.Steps).length cu127_1)]) [(iv xL3.Kind), (sv xL3.Name), (iv xL3.At.X), (iv xL3.At.Y), (.slice Au127_0 (xL3.Points).length cu127_0), (iv xL3.NX), (iv xL3.NY), (.slice Au127_1 (xL3.Steps).length cu127_1)] (wn rfl) rfl rfl rfl rfl sz_46 rfl rfl rfl ?_
  refine Tr.nil (Tr.normThen ?_)
  refine Tr.sr ?_
  refine Tr.mv rfl rfl ?_
  refine Tr.va rfl (fun _ _ h1 h2 => run_add (h1.ev rfl) (h1.ev rfl)) ?_
  refine Tr.asg rfl rfl ?_
  refine Tr.nil (Tr.normThen ?_)
  have leJ132 := Bs.Le.refl w
  refine Tr.cutJ (σ := Int) (fun w s => F_plot_count_J4 (F_plot_count_L3 rec restL3 (iL3 + 1)) s = some r) (fun s => [(3, (iv s)), (6, (.slice Ap0_0 (p0).length cp0_0)), (7, (iv (p0.length : Int))), (8, (iv (iL3 : Int)))]) (fun s => []) ?_ ?_
  ·refine Tr.sr ?_
   refine Tr.va rfl (fun _ _ h1 h2 => run_fieldAddr fo_46_6 (h1.ev rfl)) ?_
   refine Tr.va rfl (fun _ _ h1 h2 => run_load1 ag_23 (h1.ev rfl) (rdb h2 (vs := [(iv xL3.Kind), (sv xL3.Name), (iv xL3.At.X), (iv xL3.At.Y), (.slice Au127_0 (xL3.Points).length cu127_0), (iv xL3.NX), (iv xL3.NY), (.slice Au127_1 (xL3.Steps).length cu127_1)]) (k := 3) rfl 7) rfl) ?_
   refine Tr.va rfl (fun _ _ h1 h2 => run_len un_23 (h1.ev rfl)) ?_
   refine Tr.va rfl (fun _ _ h1 h2 => run_gtr (h1.ev rfl) (h1.ev rfl)) ?_
   refine Tr.nil (Tr.normThen ?_)
   refine Tr.cond rfl H (fun H => ?_) (fun H => ?_)
   ·refine Tr.draw (by kernel_rfl) (by kernel_rfl) ?_
    refine Tq.mv rfl rfl ?_
    refine Tq.va rfl (fun _ _ h1 h2 => run_loadN (cs := [(iv xL3.Kind), (sv xL3.Name), (iv xL3.At.X), (iv xL3.At.Y), (.slice Au127_0 (xL3.Points).length cu127_0), (iv xL3.NX), (iv xL3.NY), (.slice Au127_1 (xL3.Steps).length cu127_1)]) ag_46 sz_46 (h1.ev rfl) (CellsAt.take (rdb h2 (vs := [(iv xL3.Kind), (sv xL3.Name), (iv xL3.At.X), (iv xL3.At.Y), (.slice Au127_0 (xL3.Points).length cu127_0), (iv xL3.NX), (iv xL3.NY), (.slice Au127_1 (xL3.Steps).length cu127_1)]) (k := 3) rfl 0) 8) rfl) ?_
    obtain ⟨y134, hy134, H⟩ := bnd H
    refine Tq.call0 (r := (iv y134)) (wn rfl) rfl Tryd.call66 (evl_cons rfl evl_nil) (fun W hW => F_plot_times_ok xL3 Au127_0 cu127_0 (hoku127_0.ext hW.extAll) Au127_1 cu127_1 (hoku127_1.ext hW.extAll) y134 hy134 (HF.start _)) ?_
    refine Tq.va rfl (fun _ _ h1 h2 => run_fieldAddr fo_46_6 (h1.ev rfl)) ?_
    refine Tq.va rfl (fun _ _ h1 h2 => run_load1 ag_23 (h1.ev rfl) (rdb h2 (vs := [(iv xL3.Kind), (sv xL3.Name), (iv xL3.At.X), (iv xL3.At.Y), (.slice Au127_0 (xL3.Points).length cu127_0), (iv xL3.NX), (iv xL3.NY), (.slice Au127_1 (xL3.Steps).length cu127_1)]) (k := 3) rfl 7) rfl) ?_
    obtain ⟨y135, hy135, H⟩ := bnd H
    refine Tq.call0 (r := (iv y135)) (wn rfl) rfl Tryd.call38 (evl_cons rfl evl_nil) (fun W hW => hrec xL3.Steps Au127_1 cu127_1 (hoku127_1.ext hW.extAll) y135 hy135 (HF.start _)) ?_
    refine Tq.va rfl (fun _ _ h1 h2 => run_mul (h1.ev rfl) (h1.ev rfl)) ?_
    refine Tq.va rfl (fun _ _ h1 h2 => run_add (h1.ev rfl) (h1.ev rfl)) ?_
    refine Tq.asg rfl rfl ?_
    refine Tq.nil ?_
    exact Tr.backThen leJ132 (w64 ((w64 (x126 + 1)) + (w64 (y134 * y135)))) H (.cons rfl (.cons rfl (.cons rfl (.cons rfl .nil)))) .nil
   ·refine Tr.skip ?_
    exact Tr.backThen leJ132 (w64 (x126 + 1)) H (.cons rfl (.cons rfl (.cons rfl (.cons rfl .nil)))) .nil
  ·intro w x131 hlJ133 hs
   have H := hs
   replace H : F_plot_count_J4 (F_plot_count_L3 rec restL3 (iL3 + 1)) x131 = some r := H
   replace hp0_0 := hp0_0.leR hlJ133
   replace leB := leB.trans hlJ133
   replace leL3 := leL3.trans hlJ133
   unfold F_plot_count_J4 at H
   show Tr _ _ (LF [(3, (iv x131)), (6, (.slice Ap0_0 (p0).length cp0_0)), (7, (iv (p0.length : Int))), (8, (iv (iL3 : Int)))]) (LE []) _
   refine Tr.sr ?_
   refine Tr.mv rfl rfl ?_
   refine Tr.va rfl (fun _ _ h1 h2 => run_gtr (h1.ev rfl) (h1.ev rfl)) ?_
   refine Tr.nil (Tr.normThen ?_)
   refine Tr.cond rfl H (fun H => ?_) (fun H => ?_)
   ·refine Tr.sr ?_
    refine Tr.asg rfl rfl ?_
    refine Tr.nil (Tr.normThen ?_)
    refine Tr.ret (Tr.retBlock (Tr.retThen (Tr.retThen (Tr.retBlock (Tr.retThen ?_)))))
    obtain rfl := Option.some.inj H
    exact Tr.out (m := [(iv 3001)]) [] (res_tmp rfl res_nil) (fun W hW => ⟨rfl, hW.low leB⟩)
   ·refine Tr.skip (Tr.normBlock (Tr.normThen ?_))
    refine Tr.region ?_
    refine Tr.va rfl (fun _ _ h1 h2 => run_add (h1.ev rfl) (h1.ev rfl)) ?_
    refine Tr.mv rfl rfl ?_
    refine Tr.nil ?_
    exact Tr.backThen leL3 (restL3, (iL3 + 1), x131) ⟨rfl, range_tl hdL3, range_lt hdL3, H⟩ (.cons rfl (.cons rfl (.cons rfl (.cons (congrArg (fun z => some (Value.int .i64 z)) (range_up hdL3 hp0_0.form)) .nil)))) .nil
theorem F_plot_count_ok : ∀ (N : Nat) {w : Bs} (p0 : (List TPlotStep)) (Ap0_0 : Option Addr) (cp0_0 : Nat) (hp0_0 : Sl w.R w.W fl_TPlotStep Ap0_0 cp0_0 p0) (r : Int) (H : F_plot_count N p0 = some r) (hE : HF w w.W E0), Calls Tryd.prog 38 [(.slice Ap0_0 (p0).length cp0_0)].toArray w.W fun e W' => e = .returned (iv r) ∧ HF w W' E0
 | 0 => by intros; rename_i H _; cases H
 | N + 1 => F_plot_count_b_ok N (F_plot_count N) (F_plot_count_ok N)

theorem F_plot_fieldsOf_ok {w : Bs} (p0 : Int) (r : TFields) (H : F_plot_fieldsOf p0 = some r) (hE : HF w w.W E0) : Calls Tryd.prog 14 [(iv p0)].toArray w.W fun e W' => e = .returned (.agg #[(.bool r.name), (.bool r.at_), (.bool r.points), (.bool r.repeat_)]) ∧ HF w W' E0 := by
 unfold F_plot_fieldsOf at H
 have leB := Bs.Le.refl w
 refine Tr.enter (n := 19) Tryd.func14 rfl rfl rfl hE ?_
 refine Tr.sr ?_
 refine Tr.alloc 1 (wn rfl) rfl ze_42 fun b100 => ?_
 refine Tr.nil (Tr.normThen ?_)
 refine Tr.seq ?_
 refine Tr.sr ?_
 refine Tr.mv rfl rfl ?_
 refine Tr.nil (Tr.normThen ?_)
 refine Tr.block ?_
 refine Tr.sr ?_
 refine Tr.va rfl (fun _ _ h1 h2 => run_eql (h1.ev rfl) (h1.ev rfl)) ?_
 refine Tr.asg rfl rfl ?_
 refine Tr.nil (Tr.normThen ?_)
 refine Tr.cond rfl H (fun H => ?_) (fun H => ?_)
 ·refine Tr.sr ?_
  refine Tr.build (vs := [(0, (.bool true))]) (cs := [(.bool true), (.bool false), (.bool false), (.bool false)]) (wn rfl) rfl (evs_cons rfl evs_nil) (by kernel_rfl) ?_
  refine Tr.store 1 (cs := [(.bool true), (.bool false), (.bool false), (.bool false)]) [(.bool true), (.bool false), (.bool false), (.bool false)] (wn rfl) rfl rfl rfl rfl sz_42 rfl rfl rfl ?_
  refine Tr.nil (Tr.normThen ?_)
  refine Tr.ret (Tr.retBlock (Tr.retThen ?_))
  obtain rfl := Option.some.inj H
  exact Tr.out (m := [(.agg #[(.bool true), (.bool false), (.bool false), (.bool false)])]) [1] (res_cell rfl rfl ag_42 sz_42 res_nil) (fun W hW => ⟨rfl, hW.low leB⟩)
 ·have leJ102 := Bs.Le.refl w
  refine Tr.cutJ (σ := Bool) (fun w s => F_plot_fieldsOf_J1 p0 s = some r) (fun s => [(2, (.pointer (some ⟨b100, 0, none⟩))), (3, (iv p0)), (7, (.bool s))]) (fun s => [(1, bx b100 #[(.bool false), (.bool false), (.bool false), (.bool false)] 42)]) ?_ ?_
  ·refine Tr.sr ?_
   refine Tr.va rfl (fun _ _ h1 h2 => run_eql (h1.ev rfl) (h1.ev rfl)) ?_
   refine Tr.asg rfl rfl ?_
   refine Tr.nil (Tr.normThen ?_)
   refine Tr.cond rfl H (fun H => ?_) (fun H => ?_)
   ·refine Tr.skip ?_
    exact Tr.backThen leJ102 (p0 == 4) H (.cons rfl (.cons rfl (.cons rfl .nil))) (.cons rfl .nil)
   ·refine Tr.sr ?_
    refine Tr.va rfl (fun _ _ h1 h2 => run_eql (h1.ev rfl) (h1.ev rfl)) ?_
    refine Tr.asg rfl rfl ?_
    refine Tr.nil (Tr.normThen ?_)
    refine Tr.cond rfl H (fun H => ?_) (fun H => ?_)
    ·refine Tr.skip ?_
     exact Tr.backThen leJ102 (p0 == 5) H (.cons rfl (.cons rfl (.cons rfl .nil))) (.cons rfl .nil)
    ·refine Tr.region ?_
     refine Tr.va rfl (fun _ _ h1 h2 => run_eql (h1.ev rfl) (h1.ev rfl)) ?_
     refine Tr.asg rfl rfl ?_
     refine Tr.nil ?_
     exact Tr.backThen leJ102 (p0 == 6) H (.cons rfl (.cons rfl (.cons rfl .nil))) (.cons rfl .nil)
  ·intro w x101 hlJ103 hs
   have H := hs
   replace H : F_plot_fieldsOf_J1 p0 x101 = some r := H
   replace leB := leB.trans hlJ103
   unfold F_plot_fieldsOf_J1 at H
   show Tr _ _ (LF [(2, (.pointer (some ⟨b100, 0, none⟩))), (3, (iv p0)), (7, (.bool x101))]) (LE [(1, bx b100 #[(.bool false), (.bool false), (.bool false), (.bool false)] 42)]) _
   refine Tr.cond rfl H (fun H => ?_) (fun H => ?_)
   ·refine Tr.sr ?_
    refine Tr.build (vs := [(1, (.bool true))]) (cs := [(.bool false), (.bool true), (.bool false), (.bool false)]) (wn rfl) rfl (evs_cons rfl evs_nil) (by kernel_rfl) ?_
    refine Tr.store 1 (cs := [(.bool false), (.bool true), (.bool false), (.bool false)]) [(.bool false), (.bool true), (.bool false), (.bool false)] (wn rfl) rfl rfl rfl rfl sz_42 rfl rfl rfl ?_
    refine Tr.nil (Tr.normThen ?_)
    refine Tr.ret (Tr.retBlock (Tr.retThen ?_))
    obtain rfl := Option.some.inj H
    exact Tr.out (m := [(.agg #[(.bool false), (.bool true), (.bool false), (.bool false)])]) [1] (res_cell rfl rfl ag_42 sz_42 res_nil) (fun W hW => ⟨rfl, hW.low leB⟩)
   ·refine Tr.sr ?_
    refine Tr.va rfl (fun _ _ h1 h2 => run_eql (h1.ev rfl) (h1.ev rfl)) ?_
    refine Tr.asg rfl rfl ?_
    refine Tr.nil (Tr.normThen ?_)
    refine Tr.cond rfl H (fun H => ?_) (fun H => ?_)
    ·refine Tr.sr ?_
     refine Tr.build (vs := [(2, (.bool true))]) (cs := [(.bool false), (.bool false), (.bool true), (.bool false)]) (wn rfl) rfl (evs_cons rfl evs_nil) (by kernel_rfl) ?_
     refine Tr.store 1 (cs := [(.bool false), (.bool false), (.bool true), (.bool false)]) [(.bool false), (.bool false), (.bool true), (.bool false)] (wn rfl) rfl rfl rfl rfl sz_42 rfl rfl rfl ?_
     refine Tr.nil (Tr.normThen ?_)
     refine Tr.ret (Tr.retBlock (Tr.retThen ?_))
     obtain rfl := Option.some.inj H
     exact Tr.out (m := [(.agg #[(.bool false), (.bool false), (.bool true), (.bool false)])]) [1] (res_cell rfl rfl ag_42 sz_42 res_nil) (fun W hW => ⟨rfl, hW.low leB⟩)
    ·refine Tr.sr ?_
     refine Tr.va rfl (fun _ _ h1 h2 => run_eql (h1.ev rfl) (h1.ev rfl)) ?_
     refine Tr.asg rfl rfl ?_
     refine Tr.nil (Tr.normThen ?_)
     refine Tr.cond rfl H (fun H => ?_) (fun H => ?_)
     ·refine Tr.sr ?_
      refine Tr.build (vs := [(1, (.bool true)), (3, (.bool true))]) (cs := [(.bool false), (.bool true), (.bool false), (.bool true)]) (wn rfl) rfl (evs_cons rfl (evs_cons rfl evs_nil)) (by kernel_rfl) ?_
      refine Tr.store 1 (cs := [(.bool false), (.bool true), (.bool false), (.bool true)]) [(.bool false), (.bool true), (.bool false), (.bool true)] (wn rfl) rfl rfl rfl rfl sz_42 rfl rfl rfl ?_
      refine Tr.nil (Tr.normThen ?_)
      refine Tr.ret (Tr.retBlock (Tr.retThen ?_))
      obtain rfl := Option.some.inj H
      exact Tr.out (m := [(.agg #[(.bool false), (.bool true), (.bool false), (.bool true)])]) [1] (res_cell rfl rfl ag_42 sz_42 res_nil) (fun W hW => ⟨rfl, hW.low leB⟩)
     ·refine Tr.skip (Tr.normBlock (Tr.normThen ?_))
      refine Tr.sr ?_
      refine Tr.build (vs := []) (cs := [(.bool false), (.bool false), (.bool false), (.bool false)]) (wn rfl) rfl evs_nil (by kernel_rfl) ?_
      refine Tr.store 1 (cs := [(.bool false), (.bool false), (.bool false), (.bool false)]) [(.bool false), (.bool false), (.bool false), (.bool false)] (wn rfl) rfl rfl rfl rfl sz_42 rfl rfl rfl ?_
      refine Tr.nil (Tr.normThen ?_)
      refine Tr.ret ?_
      obtain rfl := Option.some.inj H
      exact Tr.out (m := [(.agg #[(.bool false), (.bool false), (.bool false), (.bool false)])]) [1] (res_cell rfl rfl ag_42 sz_42 res_nil) (fun W hW => ⟨rfl, hW.low leB⟩)

theorem F_plot_toolAt_1_ok {w : Bs} (p0 : TPlotTool) (Ap0_0 : Option Addr) (cp0_0 : Nat) (hp0_0 : Sl w.R w.W fl_TRect Ap0_0 cp0_0 p0.Rects) (q0 : ByteArray) (bq0 : Nat) (hb0 : w.R bq0) (hc0 : CellsAt w.W bq0 0 [(sv q0)]) (r : Bool) (H : F_plot_toolAt_1 p0 q0 = some r) (hE : HF w w.W E0) : Calls Tryd.prog 86 [(.agg #[(sv p0.Name), (.slice Ap0_0 (p0.Rects).length cp0_0)]), (.pointer (some ⟨bq0, 0, none⟩))].toArray w.W fun e W' => e = .returned (.bool r) ∧ HF w W' E0 := by
 unfold F_plot_toolAt_1 at H
 have leB := Bs.Le.refl w
 refine Tr.enter (n := 8) Tryd.func86 rfl rfl rfl hE ?_
 refine Tr.sr ?_
 refine Tr.box 1 (cs := [(sv p0.Name), (.slice Ap0_0 (p0.Rects).length cp0_0)]) (wn rfl) rfl rfl rfl fun b100 => ?_
 refine Tr.asg rfl rfl ?_
 refine Tr.nil (Tr.normThen ?_)
 refine Tr.sr ?_
 refine Tr.va rfl (fun _ _ h1 h2 => run_fieldAddr fo_62_0 (h1.ev rfl)) ?_
 refine Tr.va rfl (fun _ _ h1 h2 => run_load1 ag_9 (h1.ev rfl) (rdb h2 (vs := [(sv p0.Name), (.slice Ap0_0 (p0.Rects).length cp0_0)]) (k := 1) rfl 0) rfl) ?_
 refine Tr.va rfl (fun _ _ h1 h2 => run_load1 ag_9 (h1.ev rfl) (rdR hb0 hc0 h2) rfl) ?_
 refine Tr.va rfl (fun _ _ h1 h2 => run_eqlS (h1.ev rfl) (h1.ev rfl)) ?_
 refine Tr.asg rfl rfl ?_
 refine Tr.nil (Tr.normThen ?_)
 refine Tr.ret ?_
 obtain rfl := Option.some.inj H
 exact Tr.out (m := [(.bool (sEq p0.Name q0))]) [] (res_tmp rfl res_nil) (fun W hW => ⟨rfl, hW.low leB⟩)

theorem F_slices_IndexFunc_PlotTool__toolAt_1_ok {w : Bs} (p0 : (List TPlotTool)) (Ap0_0 : Option Addr) (cp0_0 : Nat) (hp0_0 : Sl w.R w.W fl_TPlotTool Ap0_0 cp0_0 p0) (q0 : ByteArray) (bq0 : Nat) (hb0 : w.R bq0) (hc0 : CellsAt w.W bq0 0 [(sv q0)]) (r : Int) (H : F_slices_IndexFunc_PlotTool__toolAt_1 p0 q0 = some r) (hE : HF w w.W E0) : Calls Tryd.prog 85 [(.slice Ap0_0 (p0).length cp0_0), (.func (.func 86) #[] #[(.pointer (some ⟨bq0, 0, none⟩))])].toArray w.W fun e W' => e = .returned (iv r) ∧ HF w W' E0 := by
 unfold F_slices_IndexFunc_PlotTool__toolAt_1 at H
 have leB := Bs.Le.refl w
 refine Tr.enter (n := 19) Tryd.func85 rfl rfl rfl hE ?_
 refine Tr.sr ?_
 refine Tr.asg rfl rfl ?_
 refine Tr.nil (Tr.normThen ?_)
 refine Tr.seq ?_
 refine Tr.sr ?_
 refine Tr.mv rfl rfl ?_
 refine Tr.va rfl (fun _ _ h1 h2 => run_len un_22 (h1.ev rfl)) ?_
 refine Tr.mv rfl rfl ?_
 refine Tr.nil (Tr.normThen ?_)
 refine Tr.block ?_
 refine Tr.loop (σ := (List TPlotTool) × Nat) (fun m w s => m = s.1.length + 1 ∧ s.1 = List.drop s.2 p0 ∧ s.2 ≤ p0.length ∧ F_slices_IndexFunc_PlotTool__toolAt_1_L1 q0 s.1 s.2 = some r) (fun s => [(0, (.slice Ap0_0 (p0).length cp0_0)), (1, (.func (.func 86) #[] #[(.pointer (some ⟨bq0, 0, none⟩))])), (7, (iv (p0.length : Int))), (8, (iv (s.2 : Int)))]) (fun s => []) (p0.length + 1) (p0, 0) ⟨rfl, rfl, Nat.zero_le _, H⟩ (.cons rfl (.cons rfl (.cons rfl (.cons rfl .nil)))) .nil (fun _ _ h => absurd h.1 (by simp)) ?_
 intro w leL1 m s hs
 obtain ⟨restL1, iL1⟩ := s
 obtain ⟨hmL1, hdL1, hiL1, H⟩ := hs
 replace hdL1 : restL1 = List.drop iL1 p0 := hdL1
 replace H : F_slices_IndexFunc_PlotTool__toolAt_1_L1 q0 restL1 iL1 = some r := H
 replace hmL1 : m + 1 = restL1.length + 1 := hmL1
 replace hp0_0 := hp0_0.leR leL1
 replace hc0 := leL1.ext.cells hb0 hc0
 replace hb0 := leL1.r _ hb0
 replace leB := leB.trans leL1
 obtain rfl : m = restL1.length := by omega
 clear hmL1
 show Tr _ _ (LF [(0, (.slice Ap0_0 (p0).length cp0_0)), (1, (.func (.func 86) #[] #[(.pointer (some ⟨bq0, 0, none⟩))])), (7, (iv (p0.length : Int))), (8, (iv (iL1 : Int)))]) (LE []) _
 cases restL1 with
 | nil =>
  rw [F_slices_IndexFunc_PlotTool__toolAt_1_L1.eq_1] at H
  refine Tr.sr ?_
  refine Tr.va rfl (fun _ _ h1 h2 => run_lss (h1.ev rfl) (h1.ev rfl)) ?_
  refine Tr.nil (Tr.normThen ?_)
  refine Tr.seq ?_
  refine Tr.condF rfl (range_nil hdL1) ?_
  refine Tr.exit (Tr.exitThen (Tr.exitThen (Tr.exitBlock (Tr.normThen ?_))))
  refine Tr.sr ?_
  refine Tr.asg rfl rfl ?_
  refine Tr.nil (Tr.normThen ?_)
  refine Tr.ret ?_
  obtain rfl := Option.some.inj H
  exact Tr.out (m := [(iv (-1))]) [] (res_tmp rfl res_nil) (fun W hW => ⟨rfl, hW.low leB⟩)
 | cons xL1 restL1 =>
  rw [F_slices_IndexFunc_PlotTool__toolAt_1_L1.eq_2] at H
  refine Tr.sr ?_
  refine Tr.va rfl (fun _ _ h1 h2 => run_lss (h1.ev rfl) (h1.ev rfl)) ?_
  refine Tr.nil (Tr.normThen ?_)
  refine Tr.seq ?_
  refine Tr.condT rfl (range_on hdL1) ?_
  refine Tr.skip (Tr.normThen ?_)
  refine Tr.seq ?_
  refine Tr.block ?_
  refine Tr.sr ?_
  refine Tr.mv rfl rfl ?_
  refine Tr.asg rfl rfl ?_
  refine Tr.nil (Tr.normThen ?_)
  refine Tr.sr ?_
  refine Tr.mv rfl rfl ?_
  refine Tr.mv rfl rfl ?_
  refine Tr.mv rfl rfl ?_
  obtain ⟨u104, hRu104, hoku104, hcu104⟩ := (hp0_0).el (range_at hdL1)
  obtain ⟨Au104_0, cu104_0⟩ := u104
  have hoku104_0 := hoku104
  replace hoku104_0 : Sl w.R w.W fl_TRect Au104_0 cu104_0 xL1.Rects := hoku104_0
  refine Tr.va rfl (fun _ _ h1 h2 => run_indexAddr el_22 (h1.ev rfl) hp0_0.form (h1.ev rfl) (Int.natCast_nonneg _) (range_lt hdL1)) ?_
  refine Tr.va rfl (fun _ _ h1 h2 => run_loadN (cs := [(sv xL1.Name), (.slice Au104_0 (xL1.Rects).length cu104_0)]) ag_62 sz_62 (h1.ev rfl) (CellsAt.take (rdR hRu104 hcu104 h2) 2) rfl) ?_
  obtain ⟨y105, hy105, H⟩ := bnd H
  refine Tr.callF (r := (.bool y105)) (wn rfl) rfl rfl Tryd.call86 (evl_cons rfl evl_nil) (fun W hW => F_plot_toolAt_1_ok xL1 Au104_0 cu104_0 (hoku104_0.ext hW.extAll) q0 bq0 (hW.extAll.r _ hb0) (hW.extAll.cells hb0 hc0) y105 hy105 (HF.start _)) ?_
  refine Tr.nil (Tr.normThen ?_)
  refine Tr.cond rfl H (fun H => ?_) (fun H => ?_)
  ·refine Tr.sr ?_
   refine Tr.mv rfl rfl ?_
   refine Tr.asg rfl rfl ?_
   refine Tr.nil (Tr.normThen ?_)
   refine Tr.ret (Tr.retBlock (Tr.retThen (Tr.retThen (Tr.retBlock (Tr.retThen ?_)))))
   obtain rfl := Option.some.inj H
   exact Tr.out (m := [(iv (iL1 : Int))]) [] (res_tmp rfl res_nil) (fun W hW => ⟨rfl, hW.low leB⟩)
  ·refine Tr.skip (Tr.normBlock (Tr.normThen ?_))
   refine Tr.region ?_
   refine Tr.va rfl (fun _ _ h1 h2 => run_add (h1.ev rfl) (h1.ev rfl)) ?_
   refine Tr.mv rfl rfl ?_
   refine Tr.nil ?_
   exact Tr.backThen leL1 (restL1, (iL1 + 1)) ⟨rfl, range_tl hdL1, range_lt hdL1, H⟩ (.cons rfl (.cons rfl (.cons rfl (.cons (congrArg (fun z => some (Value.int .i64 z)) (range_up hdL1 hp0_0.form)) .nil)))) .nil

theorem F_plot_toolAt_ok {w : Bs} (p0 : TPlot) (Ap0_0 : Option Addr) (cp0_0 : Nat) (hp0_0 : Sl w.R w.W fl_TPlotTool Ap0_0 cp0_0 p0.Tools) (Ap0_1 : Option Addr) (cp0_1 : Nat) (hp0_1 : Sl w.R w.W fl_TPlotStep Ap0_1 cp0_1 p0.Steps) (p1 : ByteArray) (r : Int) (H : F_plot_toolAt p0 p1 = some r) (hE : HF w w.W E0) : Calls Tryd.prog 74 [(.agg #[(iv p0.Unit), (.slice Ap0_0 (p0.Tools).length cp0_0), (.slice Ap0_1 (p0.Steps).length cp0_1)]), (sv p1)].toArray w.W fun e W' => e = .returned (iv r) ∧ HF w W' E0 := by
 unfold F_plot_toolAt at H
 have leB := Bs.Le.refl w
 refine Tr.enter (n := 9) Tryd.func74 rfl rfl rfl hE ?_
 refine Tr.sr ?_
 refine Tr.box 1 (cs := [(iv p0.Unit), (.slice Ap0_0 (p0.Tools).length cp0_0), (.slice Ap0_1 (p0.Steps).length cp0_1)]) (wn rfl) rfl rfl rfl fun b100 => ?_
 refine Tr.box 2 (cs := [(sv p1)]) (wn rfl) rfl rfl rfl fun b101 => ?_
 refine Tr.asg rfl rfl ?_
 refine Tr.nil (Tr.normThen ?_)
 refine Tr.sr ?_
 refine Tr.va rfl (fun _ _ h1 h2 => run_fieldAddr fo_25_1 (h1.ev rfl)) ?_
 refine Tr.va rfl (fun _ _ h1 h2 => run_load1 ag_22 (h1.ev rfl) (rdb h2 (vs := [(iv p0.Unit), (.slice Ap0_0 (p0.Tools).length cp0_0), (.slice Ap0_1 (p0.Steps).length cp0_1)]) (k := 1) rfl 1) rfl) ?_
 refine Tr.mkFunc (vs := [(.pointer (some ⟨b101, 0, none⟩))]) (wn rfl) rfl (evl_cons rfl evl_nil) ?_
 obtain ⟨y102, hy102, H⟩ := bnd H
 refine Tr.call0 (r := (iv y102)) (wn rfl) rfl Tryd.call85 (evl_cons rfl (evl_cons rfl evl_nil)) (fun W hW => F_slices_IndexFunc_PlotTool__toolAt_1_ok p0.Tools Ap0_0 cp0_0 (hp0_0.ext hW.extAll) p1 b101 (hW.capR (k := 2) rfl) (hW.capC (k := 2) rfl) y102 hy102 (HF.start _)) ?_
 refine Tr.asg rfl rfl ?_
 refine Tr.nil (Tr.normThen ?_)
 refine Tr.ret ?_
 obtain rfl := Option.some.inj H
 exact Tr.out (m := [(iv y102)]) [] (res_tmp rfl res_nil) (fun W hW => ⟨rfl, hW.low leB⟩)

theorem F_plot_isPoint_ok {w : Bs} (p0 : TPoint) (p1 : Int) (r : Bool) (H : F_plot_isPoint p0 p1 = some r) (hE : HF w w.W E0) : Calls Tryd.prog 75 [(.agg #[(iv p0.X), (iv p0.Y)]), (iv p1)].toArray w.W fun e W' => e = .returned (.bool r) ∧ HF w W' E0 := by
 unfold F_plot_isPoint at H
 have leB := Bs.Le.refl w
 refine Tr.enter (n := 15) Tryd.func75 rfl rfl rfl hE ?_
 refine Tr.sr ?_
 refine Tr.box 1 (cs := [(iv p0.X), (iv p0.Y)]) (wn rfl) rfl rfl rfl fun b100 => ?_
 refine Tr.asg rfl rfl ?_
 refine Tr.nil (Tr.normThen ?_)
 refine Tr.sr ?_
 refine Tr.va rfl (fun _ _ h1 h2 => run_fieldAddr fo_27_0 (h1.ev rfl)) ?_
 refine Tr.va rfl (fun _ _ h1 h2 => run_load1 ag_3 (h1.ev rfl) (rdb h2 (vs := [(iv p0.X), (iv p0.Y)]) (k := 1) rfl 0) rfl) ?_
 refine Tr.mv rfl rfl ?_
 obtain ⟨y101, hy101, H⟩ := bnd H
 refine Tr.call0 (r := (.bool y101)) (wn rfl) rfl Tryd.call65 (evl_cons rfl (evl_cons rfl evl_nil)) (fun W hW => F_plot_isAt_ok p0.X p1 y101 hy101 (HF.start _)) ?_
 refine Tr.mv rfl rfl ?_
 obtain ⟨g103, hg103, H⟩ := bnd H
 refine Tr.mid0 5 [(14, (.bool g103))] [(1, bx b100 #[(iv p0.X), (iv p0.Y)] 27)] ?_ ?_
 ·cases hg104 : y101
  ·rw [hg104] at hg103
   rw [if_neg (by decide)] at hg103
   have H := hg103
   obtain rfl := Option.some.inj H
   refine Tr.pass rfl rfl rfl rfl rfl (by decide) ?_
   refine Tr.pass rfl rfl rfl rfl rfl (by decide) ?_
   refine Tr.pass rfl rfl rfl rfl rfl (by decide) ?_
   refine Tr.pass rfl rfl rfl rfl rfl (by decide) ?_
   refine Tr.va rfl (fun _ _ h1 h2 => run_pickF (h1.ev rfl) (h1.ev rfl)) ?_
   exact Tr.nil (Tr.fin0 (.cons rfl .nil) (.cons rfl .nil))
  ·rw [hg104] at hg103
   rw [if_pos rfl] at hg103
   have H := hg103
   refine Tr.val (wg rfl rfl rfl) rfl (fun _ _ h1 h2 => run_fieldAddr fo_27_1 (h1.ev rfl)) ?_
   refine Tr.val (wg rfl rfl rfl) rfl (fun _ _ h1 h2 => run_load1 ag_3 (h1.ev rfl) (rdb h2 (vs := [(iv p0.X), (iv p0.Y)]) (k := 1) rfl 1) rfl) ?_
   refine Tr.val (wg rfl rfl rfl) rfl (fun _ _ h1 h2 => run_move (h1.ev rfl)) ?_
   obtain ⟨y104, hy104, H⟩ := bnd H
   refine Tr.call0 (r := (.bool y104)) (wg rfl rfl rfl) rfl Tryd.call65 (evl_cons rfl (evl_cons rfl evl_nil)) (fun W hW => F_plot_isAt_ok p0.Y p1 y104 hy104 (HF.start _)) ?_
   refine Tr.va rfl (fun _ _ h1 h2 => run_pickT (h1.ev rfl) (h1.ev rfl)) ?_
   obtain rfl := Option.some.inj H
   exact Tr.nil (Tr.fin0 (.cons rfl .nil) (.cons rfl .nil))
 ·show Tr _ _ (LF [(14, (.bool g103))]) (LE [(1, bx b100 #[(iv p0.X), (iv p0.Y)] 27)]) _
  refine Tr.asg rfl rfl ?_
  refine Tr.nil (Tr.normThen ?_)
  refine Tr.ret ?_
  obtain rfl := Option.some.inj H
  exact Tr.out (m := [(.bool g103)]) [] (res_tmp rfl res_nil) (fun W hW => ⟨rfl, hW.low leB⟩)

theorem F_plot_checkStep_1_ok {w : Bs} (p0 : TPoint) (q0 : TPlot) (Aq0_0 : Option Addr) (cq0_0 : Nat) (hq0_0 : Sl w.R w.W fl_TPlotTool Aq0_0 cq0_0 q0.Tools) (Aq0_1 : Option Addr) (cq0_1 : Nat) (hq0_1 : Sl w.R w.W fl_TPlotStep Aq0_1 cq0_1 q0.Steps) (bq0 : Nat) (hb0 : w.R bq0) (hc0 : CellsAt w.W bq0 0 [(iv q0.Unit), (.slice Aq0_0 (q0.Tools).length cq0_0), (.slice Aq0_1 (q0.Steps).length cq0_1)]) (r : Bool) (H : F_plot_checkStep_1 p0 q0 = some r) (hE : HF w w.W E0) : Calls Tryd.prog 77 [(.agg #[(iv p0.X), (iv p0.Y)]), (.pointer (some ⟨bq0, 0, none⟩))].toArray w.W fun e W' => e = .returned (.bool r) ∧ HF w W' E0 := by
 unfold F_plot_checkStep_1 at H
 have leB := Bs.Le.refl w
 refine Tr.enter (n := 9) Tryd.func77 rfl rfl rfl hE ?_
 refine Tr.sr ?_
 refine Tr.box 1 (cs := [(iv p0.X), (iv p0.Y)]) (wn rfl) rfl rfl rfl fun b100 => ?_
 refine Tr.asg rfl rfl ?_
 refine Tr.nil (Tr.normThen ?_)
 refine Tr.sr ?_
 refine Tr.va rfl (fun _ _ h1 h2 => run_loadN (cs := [(iv p0.X), (iv p0.Y)]) ag_27 sz_27 (h1.ev rfl) (CellsAt.take (rdb h2 (vs := [(iv p0.X), (iv p0.Y)]) (k := 1) rfl 0) 2) rfl) ?_
 refine Tr.va rfl (fun _ _ h1 h2 => run_fieldAddr fo_25_0 (h1.ev rfl)) ?_
 refine Tr.va rfl (fun _ _ h1 h2 => run_load1 ag_3 (h1.ev rfl) (CellsAt.drop (rdR hb0 hc0 h2) 0) rfl) ?_
 obtain ⟨y101, hy101, H⟩ := bnd H
 refine Tr.call0 (r := (.bool y101)) (wn rfl) rfl Tryd.call75 (evl_cons rfl (evl_cons rfl evl_nil)) (fun W hW => F_plot_isPoint_ok p0 q0.Unit y101 hy101 (HF.start _)) ?_
 refine Tr.va rfl (fun _ _ h1 h2 => run_not (h1.ev rfl)) ?_
 refine Tr.asg rfl rfl ?_
 refine Tr.nil (Tr.normThen ?_)
 refine Tr.ret ?_
 obtain rfl := Option.some.inj H
 exact Tr.out (m := [(.bool (!y101))]) [] (res_tmp rfl res_nil) (fun W hW => ⟨rfl, hW.low leB⟩)

theorem F_slices_IndexFunc_Point_ok {w : Bs} (p0 : (List TPoint)) (Ap0_0 : Option Addr) (cp0_0 : Nat) (hp0_0 : Sl w.R w.W fl_TPoint Ap0_0 cp0_0 p0) (p1 : TPoint → Option Bool) (fid1 : Nat) (cap1 : List Value) (hg1 : ∀ args W, (callFunc fid1 args).run Tryd.prog W = .ok (.enter fid1 args) W) (hf1 : ∀ (w' : Bs), w.Ext w' → ∀ (z0 : TPoint), ∀ y, p1 z0 = some y → Calls Tryd.prog fid1 (([(.agg #[(iv z0.X), (iv z0.Y)])] : List Value) ++ cap1).toArray w'.W fun e W'' => e = .returned (.bool y) ∧ HF w' W'' E0) (r : Int) (H : F_slices_IndexFunc_Point p0 p1 = some r) (hE : HF w w.W E0) : Calls Tryd.prog 87 [(.slice Ap0_0 (p0).length cp0_0), (.func (.func fid1) #[] cap1.toArray)].toArray w.W fun e W' => e = .returned (iv r) ∧ HF w W' E0 := by
 unfold F_slices_IndexFunc_Point at H
 have leB := Bs.Le.refl w
 refine Tr.enter (n := 19) Tryd.func87 rfl rfl rfl hE ?_
 refine Tr.sr ?_
 refine Tr.asg rfl rfl ?_
 refine Tr.nil (Tr.normThen ?_)
 refine Tr.seq ?_
 refine Tr.sr ?_
 refine Tr.mv rfl rfl ?_
 refine Tr.va rfl (fun _ _ h1 h2 => run_len un_44 (h1.ev rfl)) ?_
 refine Tr.mv rfl rfl ?_
 refine Tr.nil (Tr.normThen ?_)
 refine Tr.block ?_
 refine Tr.loop (σ := (List TPoint) × Nat) (fun m w s => m = s.1.length + 1 ∧ s.1 = List.drop s.2 p0 ∧ s.2 ≤ p0.length ∧ F_slices_IndexFunc_Point_L1 p1 s.1 s.2 = some r) (fun s => [(0, (.slice Ap0_0 (p0).length cp0_0)), (1, (.func (.func fid1) #[] cap1.toArray)), (7, (iv (p0.length : Int))), (8, (iv (s.2 : Int)))]) (fun s => []) (p0.length + 1) (p0, 0) ⟨rfl, rfl, Nat.zero_le _, H⟩ (.cons rfl (.cons rfl (.cons rfl (.cons rfl .nil)))) .nil (fun _ _ h => absurd h.1 (by simp)) ?_
 intro w leL1 m s hs
 obtain ⟨restL1, iL1⟩ := s
 obtain ⟨hmL1, hdL1, hiL1, H⟩ := hs
 replace hdL1 : restL1 = List.drop iL1 p0 := hdL1
 replace H : F_slices_IndexFunc_Point_L1 p1 restL1 iL1 = some r := H
 replace hmL1 : m + 1 = restL1.length + 1 := hmL1
 replace hp0_0 := hp0_0.leR leL1
 replace hf1 := fun w' he => hf1 w' (leL1.ext.trans he)
 replace leB := leB.trans leL1
 obtain rfl : m = restL1.length := by omega
 clear hmL1
 show Tr _ _ (LF [(0, (.slice Ap0_0 (p0).length cp0_0)), (1, (.func (.func fid1) #[] cap1.toArray)), (7, (iv (p0.length : Int))), (8, (iv (iL1 : Int)))]) (LE []) _
 cases restL1 with
 | nil =>
  rw [F_slices_IndexFunc_Point_L1.eq_1] at H
  refine Tr.sr ?_
  refine Tr.va rfl (fun _ _ h1 h2 => run_lss (h1.ev rfl) (h1.ev rfl)) ?_
  refine Tr.nil (Tr.normThen ?_)
  refine Tr.seq ?_
  refine Tr.condF rfl (range_nil hdL1) ?_
  refine Tr.exit (Tr.exitThen (Tr.exitThen (Tr.exitBlock (Tr.normThen ?_))))
  refine Tr.sr ?_
  refine Tr.asg rfl rfl ?_
  refine Tr.nil (Tr.normThen ?_)
  refine Tr.ret ?_
  obtain rfl := Option.some.inj H
  exact Tr.out (m := [(iv (-1))]) [] (res_tmp rfl res_nil) (fun W hW => ⟨rfl, hW.low leB⟩)
 | cons xL1 restL1 =>
  rw [F_slices_IndexFunc_Point_L1.eq_2] at H
  refine Tr.sr ?_
  refine Tr.va rfl (fun _ _ h1 h2 => run_lss (h1.ev rfl) (h1.ev rfl)) ?_
  refine Tr.nil (Tr.normThen ?_)
  refine Tr.seq ?_
  refine Tr.condT rfl (range_on hdL1) ?_
  refine Tr.skip (Tr.normThen ?_)
  refine Tr.seq ?_
  refine Tr.block ?_
  refine Tr.sr ?_
  refine Tr.mv rfl rfl ?_
  refine Tr.asg rfl rfl ?_
  refine Tr.nil (Tr.normThen ?_)
  refine Tr.sr ?_
  refine Tr.mv rfl rfl ?_
  refine Tr.mv rfl rfl ?_
  refine Tr.mv rfl rfl ?_
  refine Tr.va rfl (fun _ _ h1 h2 => run_indexAddr el_44 (h1.ev rfl) hp0_0.form (h1.ev rfl) (Int.natCast_nonneg _) (range_lt hdL1)) ?_
  refine Tr.va rfl (fun _ _ h1 h2 => run_loadN (cs := [(iv xL1.X), (iv xL1.Y)]) ag_27 sz_27 (h1.ev rfl) (CellsAt.take (rdF ef_TPoint hp0_0 (range_at hdL1) h2) 2) rfl) ?_
  obtain ⟨y103, hy103, H⟩ := bnd H
  refine Tr.callF (r := (.bool y103)) (wn rfl) rfl rfl hg1 (evl_cons rfl evl_nil) (fun W hW => hf1 hW.all hW.extAll xL1 _ hy103) ?_
  refine Tr.nil (Tr.normThen ?_)
  refine Tr.cond rfl H (fun H => ?_) (fun H => ?_)
  ·refine Tr.sr ?_
   refine Tr.mv rfl rfl ?_
   refine Tr.asg rfl rfl ?_
   refine Tr.nil (Tr.normThen ?_)
   refine Tr.ret (Tr.retBlock (Tr.retThen (Tr.retThen (Tr.retBlock (Tr.retThen ?_)))))
   obtain rfl := Option.some.inj H
   exact Tr.out (m := [(iv (iL1 : Int))]) [] (res_tmp rfl res_nil) (fun W hW => ⟨rfl, hW.low leB⟩)
  ·refine Tr.skip (Tr.normBlock (Tr.normThen ?_))
   refine Tr.region ?_
   refine Tr.va rfl (fun _ _ h1 h2 => run_add (h1.ev rfl) (h1.ev rfl)) ?_
   refine Tr.mv rfl rfl ?_
   refine Tr.nil ?_
   exact Tr.backThen leL1 (restL1, (iL1 + 1)) ⟨rfl, range_tl hdL1, range_lt hdL1, H⟩ (.cons rfl (.cons rfl (.cons rfl (.cons (congrArg (fun z => some (Value.int .i64 z)) (range_up hdL1 hp0_0.form)) .nil)))) .nil

theorem F_slices_ContainsFunc_Point_ok {w : Bs} (p0 : (List TPoint)) (Ap0_0 : Option Addr) (cp0_0 : Nat) (hp0_0 : Sl w.R w.W fl_TPoint Ap0_0 cp0_0 p0) (p1 : TPoint → Option Bool) (fid1 : Nat) (cap1 : List Value) (hg1 : ∀ args W, (callFunc fid1 args).run Tryd.prog W = .ok (.enter fid1 args) W) (hf1 : ∀ (w' : Bs), w.Ext w' → ∀ (z0 : TPoint), ∀ y, p1 z0 = some y → Calls Tryd.prog fid1 (([(.agg #[(iv z0.X), (iv z0.Y)])] : List Value) ++ cap1).toArray w'.W fun e W'' => e = .returned (.bool y) ∧ HF w' W'' E0) (r : Bool) (H : F_slices_ContainsFunc_Point p0 p1 = some r) (hE : HF w w.W E0) : Calls Tryd.prog 76 [(.slice Ap0_0 (p0).length cp0_0), (.func (.func fid1) #[] cap1.toArray)].toArray w.W fun e W' => e = .returned (.bool r) ∧ HF w W' E0 := by
 unfold F_slices_ContainsFunc_Point at H
 have leB := Bs.Le.refl w
 refine Tr.enter (n := 9) Tryd.func76 rfl rfl rfl hE ?_
 refine Tr.sr ?_
 refine Tr.asg rfl rfl ?_
 refine Tr.nil (Tr.normThen ?_)
 refine Tr.sr ?_
 refine Tr.mv rfl rfl ?_
 refine Tr.mv rfl rfl ?_
 obtain ⟨y100, hy100, H⟩ := bnd H
 refine Tr.call0 (r := (iv y100)) (wn rfl) rfl Tryd.call87 (evl_cons rfl (evl_cons rfl evl_nil)) (fun W hW => F_slices_IndexFunc_Point_ok p0 Ap0_0 cp0_0 (hp0_0.ext hW.extAll) p1 fid1 cap1 hg1 (fun w' he => hf1 w' (hW.extAll.trans he)) y100 hy100 (HF.start _)) ?_
 refine Tr.va rfl (fun _ _ h1 h2 => run_geq (h1.ev rfl) (h1.ev rfl)) ?_
 refine Tr.asg rfl rfl ?_
 refine Tr.nil (Tr.normThen ?_)
 refine Tr.ret ?_
 obtain rfl := Option.some.inj H
 exact Tr.out (m := [(.bool (decide (0 ≤ y100)))]) [] (res_tmp rfl res_nil) (fun W hW => ⟨rfl, hW.low leB⟩)

theorem F_shape_IsRow_ok {w : Bs} (p0 : (List TPoint)) (Ap0_0 : Option Addr) (cp0_0 : Nat) (hp0_0 : Sl w.R w.W fl_TPoint Ap0_0 cp0_0 p0) (r : Bool) (H : F_shape_IsRow p0 = some r) (hE : HF w w.W E0) : Calls Tryd.prog 78 [(.slice Ap0_0 (p0).length cp0_0)].toArray w.W fun e W' => e = .returned (.bool r) ∧ HF w W' E0 := by
 unfold F_shape_IsRow at H
 have leB := Bs.Le.refl w
 refine Tr.enter (n := 36) Tryd.func78 rfl rfl rfl hE ?_
 refine Tr.sr ?_
 refine Tr.asg rfl rfl ?_
 refine Tr.nil (Tr.normThen ?_)
 refine Tr.seq ?_
 refine Tr.sr ?_
 refine Tr.mv rfl rfl ?_
 refine Tr.va rfl (fun _ _ h1 h2 => run_len un_44 (h1.ev rfl)) ?_
 refine Tr.va rfl (fun _ _ h1 h2 => run_lss (h1.ev rfl) (h1.ev rfl)) ?_
 refine Tr.nil (Tr.normThen ?_)
 refine Tr.cond rfl H (fun H => ?_) (fun H => ?_)
 ·refine Tr.sr ?_
  refine Tr.asg rfl rfl ?_
  refine Tr.nil (Tr.normThen ?_)
  refine Tr.ret (Tr.retThen ?_)
  obtain rfl := Option.some.inj H
  exact Tr.out (m := [(.bool false)]) [] (res_tmp rfl res_nil) (fun W hW => ⟨rfl, hW.low leB⟩)
 ·refine Tr.skip (Tr.normThen ?_)
  refine Tr.seq ?_
  refine Tr.sr ?_
  refine Tr.mv rfl rfl ?_
  refine Tr.va rfl (fun _ _ h1 h2 => run_len un_44 (h1.ev rfl)) ?_
  refine Tr.mv rfl rfl ?_
  refine Tr.nil (Tr.normThen ?_)
  refine Tr.block ?_
  refine Tr.loop (σ := (List TPoint) × Nat) (fun m w s => m = s.1.length + 1 ∧ s.1 = List.drop s.2 p0 ∧ s.2 ≤ p0.length ∧ F_shape_IsRow_L1 p0 s.1 s.2 = some r) (fun s => [(0, (.slice Ap0_0 (p0).length cp0_0)), (9, (.slice Ap0_0 (p0).length cp0_0)), (10, (iv (p0.length : Int))), (11, (iv (s.2 : Int)))]) (fun s => []) (p0.length + 1) (p0, 0) ⟨rfl, rfl, Nat.zero_le _, H⟩ (.cons rfl (.cons rfl (.cons rfl (.cons rfl .nil)))) .nil (fun _ _ h => absurd h.1 (by simp)) ?_
  intro w leL1 m s hs
  obtain ⟨restL1, iL1⟩ := s
  obtain ⟨hmL1, hdL1, hiL1, H⟩ := hs
  replace hdL1 : restL1 = List.drop iL1 p0 := hdL1
  replace H : F_shape_IsRow_L1 p0 restL1 iL1 = some r := H
  replace hmL1 : m + 1 = restL1.length + 1 := hmL1
  replace hp0_0 := hp0_0.leR leL1
  replace leB := leB.trans leL1
  obtain rfl : m = restL1.length := by omega
  clear hmL1
  show Tr _ _ (LF [(0, (.slice Ap0_0 (p0).length cp0_0)), (9, (.slice Ap0_0 (p0).length cp0_0)), (10, (iv (p0.length : Int))), (11, (iv (iL1 : Int)))]) (LE []) _
  cases restL1 with
  | nil =>
   rw [F_shape_IsRow_L1.eq_1] at H
   refine Tr.sr ?_
   refine Tr.va rfl (fun _ _ h1 h2 => run_lss (h1.ev rfl) (h1.ev rfl)) ?_
   refine Tr.nil (Tr.normThen ?_)
   refine Tr.seq ?_
   refine Tr.condF rfl (range_nil hdL1) ?_
   refine Tr.exit (Tr.exitThen (Tr.exitThen (Tr.exitBlock (Tr.normThen ?_))))
   refine Tr.sr ?_
   refine Tr.asg rfl rfl ?_
   refine Tr.nil (Tr.normThen ?_)
   refine Tr.ret ?_
   obtain rfl := Option.some.inj H
   exact Tr.out (m := [(.bool true)]) [] (res_tmp rfl res_nil) (fun W hW => ⟨rfl, hW.low leB⟩)
  | cons xL1 restL1 =>
   rw [F_shape_IsRow_L1.eq_2] at H
   refine Tr.sr ?_
   refine Tr.va rfl (fun _ _ h1 h2 => run_lss (h1.ev rfl) (h1.ev rfl)) ?_
   refine Tr.nil (Tr.normThen ?_)
   refine Tr.seq ?_
   refine Tr.condT rfl (range_on hdL1) ?_
   refine Tr.skip (Tr.normThen ?_)
   refine Tr.seq ?_
   refine Tr.block ?_
   refine Tr.sr ?_
   refine Tr.mv rfl rfl ?_
   refine Tr.va rfl (fun _ _ h1 h2 => run_indexAddr el_44 (h1.ev rfl) hp0_0.form (h1.ev rfl) (Int.natCast_nonneg _) (range_lt hdL1)) ?_
   refine Tr.va rfl (fun _ _ h1 h2 => run_loadN (cs := [(iv xL1.X), (iv xL1.Y)]) ag_27 sz_27 (h1.ev rfl) (CellsAt.take (rdF ef_TPoint hp0_0 (range_at hdL1) h2) 2) rfl) ?_
   refine Tr.alloc 3 (wn rfl) rfl ze_27 fun b106 => ?_
   refine Tr.asg rfl rfl ?_
   refine Tr.store 3 (cs := [(iv xL1.X), (iv xL1.Y)]) [(iv xL1.X), (iv xL1.Y)] (wn rfl) rfl rfl rfl rfl sz_27 rfl rfl rfl ?_
   refine Tr.nil (Tr.normThen ?_)
   refine Tr.sr ?_
   refine Tr.mv rfl rfl ?_
   refine Tr.mv rfl rfl ?_
   refine Tr.va rfl (fun _ _ h1 h2 => run_add (h1.ev rfl) (h1.ev rfl)) ?_
   refine Tr.mv rfl rfl ?_
   refine Tr.va rfl (fun _ _ h1 h2 => run_len un_44 (h1.ev rfl)) ?_
   obtain ⟨q107, hq107, H⟩ := bnd H
   refine Tr.va rfl (fun _ _ h1 h2 => run_md (h1.ev rfl) (h1.ev rfl) hq107) ?_
   obtain ⟨x108, hx108, H⟩ := bnd H
   obtain ⟨hx1080, hx1081, hx1082⟩ := idx_some hx108
   refine Tr.va rfl (fun _ _ h1 h2 => run_indexAddr el_44 (h1.ev rfl) hp0_0.form (h1.ev rfl) hx1080 hx1081) ?_
   refine Tr.va rfl (fun _ _ h1 h2 => run_loadN (cs := [(iv x108.X), (iv x108.Y)]) ag_27 sz_27 (h1.ev rfl) (CellsAt.take (rdF ef_TPoint hp0_0 hx1082 h2) 2) rfl) ?_
   refine Tr.alloc 4 (wn rfl) rfl ze_27 fun b109 => ?_
   refine Tr.store 4 (cs := [(iv x108.X), (iv x108.Y)]) [(iv x108.X), (iv x108.Y)] (wn rfl) rfl rfl rfl rfl sz_27 rfl rfl rfl ?_
   refine Tr.nil (Tr.normThen ?_)
   refine Tr.sr ?_
   refine Tr.va rfl (fun _ _ h1 h2 => run_fieldAddr fo_27_0 (h1.ev rfl)) ?_
   refine Tr.va rfl (fun _ _ h1 h2 => run_load1 ag_3 (h1.ev rfl) (rdb h2 (vs := [(iv xL1.X), (iv xL1.Y)]) (k := 3) rfl 0) rfl) ?_
   refine Tr.va rfl (fun _ _ h1 h2 => run_fieldAddr fo_27_0 (h1.ev rfl)) ?_
   refine Tr.va rfl (fun _ _ h1 h2 => run_load1 ag_3 (h1.ev rfl) (rdb h2 (vs := [(iv x108.X), (iv x108.Y)]) (k := 4) rfl 0) rfl) ?_
   refine Tr.va rfl (fun _ _ h1 h2 => run_eql (h1.ev rfl) (h1.ev rfl)) ?_
   refine Tr.va rfl (fun _ _ h1 h2 => run_fieldAddr fo_27_1 (h1.ev rfl)) ?_
   refine Tr.va rfl (fun _ _ h1 h2 => run_load1 ag_3 (h1.ev rfl) (rdb h2 (vs := [(iv xL1.X), (iv xL1.Y)]) (k := 3) rfl 1) rfl) ?_
   refine Tr.va rfl (fun _ _ h1 h2 => run_fieldAddr fo_27_1 (h1.ev rfl)) ?_
   refine Tr.va rfl (fun _ _ h1 h2 => run_load1 ag_3 (h1.ev rfl) (rdb h2 (vs := [(iv x108.X), (iv x108.Y)]) (k := 4) rfl 1) rfl) ?_
   refine Tr.va rfl (fun _ _ h1 h2 => run_eql (h1.ev rfl) (h1.ev rfl)) ?_
   refine Tr.va rfl (fun _ _ h1 h2 => run_eqlB un_4 (h1.ev rfl) (h1.ev rfl)) ?_
   refine Tr.nil (Tr.normThen ?_)
   refine Tr.cond rfl H (fun H => ?_) (fun H => ?_)
   ·refine Tr.sr ?_
    refine Tr.asg rfl rfl ?_
    refine Tr.nil (Tr.normThen ?_)
    refine Tr.ret (Tr.retBlock (Tr.retThen (Tr.retThen (Tr.retBlock (Tr.retThen ?_)))))
    obtain rfl := Option.some.inj H
    exact Tr.out (m := [(.bool false)]) [] (res_tmp rfl res_nil) (fun W hW => ⟨rfl, hW.low leB⟩)
   ·refine Tr.skip (Tr.normBlock (Tr.normThen ?_))
    refine Tr.region ?_
    refine Tr.va rfl (fun _ _ h1 h2 => run_add (h1.ev rfl) (h1.ev rfl)) ?_
    refine Tr.mv rfl rfl ?_
    refine Tr.nil ?_
    exact Tr.backThen leL1 (restL1, (iL1 + 1)) ⟨rfl, range_tl hdL1, range_lt hdL1, H⟩ (.cons rfl (.cons rfl (.cons rfl (.cons (congrArg (fun z => some (Value.int .i64 z)) (range_up hdL1 hp0_0.form)) .nil)))) .nil

theorem F_plot_checkStep_ok {w : Bs} (p0 : TPlot) (Ap0_0 : Option Addr) (cp0_0 : Nat) (hp0_0 : Sl w.R w.W fl_TPlotTool Ap0_0 cp0_0 p0.Tools) (Ap0_1 : Option Addr) (cp0_1 : Nat) (hp0_1 : Sl w.R w.W fl_TPlotStep Ap0_1 cp0_1 p0.Steps) (p1 : TPlotStep) (Ap1_0 : Option Addr) (cp1_0 : Nat) (hp1_0 : Sl w.R w.W fl_TPoint Ap1_0 cp1_0 p1.Points) (Ap1_1 : Option Addr) (cp1_1 : Nat) (hp1_1 : Sl w.R w.W fl_TPlotStep Ap1_1 cp1_1 p1.Steps) (p2 : Int) (r : Int) (H : F_plot_checkStep p0 p1 p2 = some r) (hE : HF w w.W E0) : Calls Tryd.prog 67 [(.agg #[(iv p0.Unit), (.slice Ap0_0 (p0.Tools).length cp0_0), (.slice Ap0_1 (p0.Steps).length cp0_1)]), (.agg #[(iv p1.Kind), (sv p1.Name), (iv p1.At.X), (iv p1.At.Y), (.slice Ap1_0 (p1.Points).length cp1_0), (iv p1.NX), (iv p1.NY), (.slice Ap1_1 (p1.Steps).length cp1_1)]), (iv p2)].toArray w.W fun e W' => e = .returned (iv r) ∧ HF w W' E0 := by
 unfold F_plot_checkStep at H
 have leB := Bs.Le.refl w
 refine Tr.enter (n := 120) Tryd.func67 rfl rfl rfl hE ?_
 refine Tr.sr ?_
 refine Tr.box 1 (cs := [(iv p0.Unit), (.slice Ap0_0 (p0.Tools).length cp0_0), (.slice Ap0_1 (p0.Steps).length cp0_1)]) (wn rfl) rfl rfl rfl fun b100 => ?_
 refine Tr.box 2 (cs := [(iv p1.Kind), (sv p1.Name), (iv p1.At.X), (iv p1.At.Y), (.slice Ap1_0 (p1.Points).length cp1_0), (iv p1.NX), (iv p1.NY), (.slice Ap1_1 (p1.Steps).length cp1_1)]) (wn rfl) rfl rfl rfl fun b101 => ?_
 refine Tr.asg rfl rfl ?_
 refine Tr.nil (Tr.normThen ?_)
 refine Tr.seq ?_
 refine Tr.sr ?_
 refine Tr.va rfl (fun _ _ h1 h2 => run_fieldAddr fo_46_0 (h1.ev rfl)) ?_
 refine Tr.va rfl (fun _ _ h1 h2 => run_load1 ag_3 (h1.ev rfl) (rdb h2 (vs := [(iv p1.Kind), (sv p1.Name), (iv p1.At.X), (iv p1.At.Y), (.slice Ap1_0 (p1.Points).length cp1_0), (iv p1.NX), (iv p1.NY), (.slice Ap1_1 (p1.Steps).length cp1_1)]) (k := 2) rfl 0) rfl) ?_
 obtain ⟨y102, hy102, H⟩ := bnd H
 refine Tr.call0 (r := (.bool y102)) (wn rfl) rfl Tryd.call36 (evl_cons rfl (evl_cons rfl (evl_cons rfl evl_nil))) (fun W hW => F_plot_within_ok p1.Kind 1 8 y102 hy102 (HF.start _)) ?_
 refine Tr.va rfl (fun _ _ h1 h2 => run_not (h1.ev rfl)) ?_
 refine Tr.nil (Tr.normThen ?_)
 refine Tr.cond rfl H (fun H => ?_) (fun H => ?_)
 ·refine Tr.sr ?_
  refine Tr.asg rfl rfl ?_
  refine Tr.nil (Tr.normThen ?_)
  refine Tr.ret (Tr.retThen ?_)
  obtain rfl := Option.some.inj H
  exact Tr.out (m := [(iv 4)]) [] (res_tmp rfl res_nil) (fun W hW => ⟨rfl, hW.low leB⟩)
 ·refine Tr.skip (Tr.normThen ?_)
  refine Tr.sr ?_
  refine Tr.va rfl (fun _ _ h1 h2 => run_fieldAddr fo_46_0 (h1.ev rfl)) ?_
  refine Tr.va rfl (fun _ _ h1 h2 => run_load1 ag_3 (h1.ev rfl) (rdb h2 (vs := [(iv p1.Kind), (sv p1.Name), (iv p1.At.X), (iv p1.At.Y), (.slice Ap1_0 (p1.Points).length cp1_0), (iv p1.NX), (iv p1.NY), (.slice Ap1_1 (p1.Steps).length cp1_1)]) (k := 2) rfl 0) rfl) ?_
  obtain ⟨y103, hy103, H⟩ := bnd H
  refine Tr.call0 (r := (.agg #[(.bool y103.name), (.bool y103.at_), (.bool y103.points), (.bool y103.repeat_)])) (wn rfl) rfl Tryd.call14 (evl_cons rfl evl_nil) (fun W hW => F_plot_fieldsOf_ok p1.Kind y103 hy103 (HF.start _)) ?_
  refine Tr.alloc 3 (wn rfl) rfl ze_42 fun b104 => ?_
  refine Tr.store 3 (cs := [(.bool y103.name), (.bool y103.at_), (.bool y103.points), (.bool y103.repeat_)]) [(.bool y103.name), (.bool y103.at_), (.bool y103.points), (.bool y103.repeat_)] (wn rfl) rfl rfl rfl rfl sz_42 rfl rfl rfl ?_
  refine Tr.nil (Tr.normThen ?_)
  refine Tr.seq ?_
  refine Tr.block ?_
  have leJ106 := Bs.Le.refl w
  refine Tr.cutJ (σ := Bool) (fun w s => F_plot_checkStep_J1 p0 p1 p2 y103 s = some r) (fun s => [(2, (iv p2)), (3, (.pointer (some ⟨b100, 0, none⟩))), (4, (.pointer (some ⟨b101, 0, none⟩))), (7, (.pointer (some ⟨b104, 0, none⟩))), (15, (.bool s))]) (fun s => [(1, bx b100 #[(iv p0.Unit), (.slice Ap0_0 (p0.Tools).length cp0_0), (.slice Ap0_1 (p0.Steps).length cp0_1)] 25), (2, bx b101 #[(iv p1.Kind), (sv p1.Name), (iv p1.At.X), (iv p1.At.Y), (.slice Ap1_0 (p1.Points).length cp1_0), (iv p1.NX), (iv p1.NY), (.slice Ap1_1 (p1.Steps).length cp1_1)] 46), (3, bx b104 #[(.bool y103.name), (.bool y103.at_), (.bool y103.points), (.bool y103.repeat_)] 42)]) ?_ ?_
  ·refine Tr.sr ?_
   refine Tr.va rfl (fun _ _ h1 h2 => run_fieldAddr fo_42_0 (h1.ev rfl)) ?_
   refine Tr.va rfl (fun _ _ h1 h2 => run_load1 ag_4 (h1.ev rfl) (rdb h2 (vs := [(.bool y103.name), (.bool y103.at_), (.bool y103.points), (.bool y103.repeat_)]) (k := 3) rfl 0) rfl) ?_
   refine Tr.va rfl (fun _ _ h1 h2 => run_not (h1.ev rfl)) ?_
   refine Tr.mv rfl rfl ?_
   refine Tr.mid0 4 [(2, (iv p2)), (3, (.pointer (some ⟨b100, 0, none⟩))), (4, (.pointer (some ⟨b101, 0, none⟩))), (7, (.pointer (some ⟨b104, 0, none⟩))), (23, (.bool ((!y103.name) && (!sEq p1.Name ByteArray.empty))))] [(1, bx b100 #[(iv p0.Unit), (.slice Ap0_0 (p0.Tools).length cp0_0), (.slice Ap0_1 (p0.Steps).length cp0_1)] 25), (2, bx b101 #[(iv p1.Kind), (sv p1.Name), (iv p1.At.X), (iv p1.At.Y), (.slice Ap1_0 (p1.Points).length cp1_0), (iv p1.NX), (iv p1.NY), (.slice Ap1_1 (p1.Steps).length cp1_1)] 46), (3, bx b104 #[(.bool y103.name), (.bool y103.at_), (.bool y103.points), (.bool y103.repeat_)] 42)] ?_ ?_
   ·cases hg121 : (!y103.name)
    ·refine Tr.pass rfl rfl rfl rfl rfl (by decide) ?_
     refine Tr.pass rfl rfl rfl rfl rfl (by decide) ?_
     refine Tr.pass rfl rfl rfl rfl rfl (by decide) ?_
     refine Tr.va rfl (fun _ _ h1 h2 => run_pickF (h1.ev rfl) (h1.ev rfl)) ?_
     exact Tr.nil (Tr.fin0 (.cons rfl (.cons rfl (.cons rfl (.cons rfl (.cons rfl .nil))))) (.cons rfl (.cons rfl (.cons rfl .nil))))
    ·refine Tr.val (wg rfl rfl rfl) rfl (fun _ _ h1 h2 => run_fieldAddr fo_46_1 (h1.ev rfl)) ?_
     refine Tr.val (wg rfl rfl rfl) rfl (fun _ _ h1 h2 => run_load1 ag_9 (h1.ev rfl) (rdb h2 (vs := [(iv p1.Kind), (sv p1.Name), (iv p1.At.X), (iv p1.At.Y), (.slice Ap1_0 (p1.Points).length cp1_0), (iv p1.NX), (iv p1.NY), (.slice Ap1_1 (p1.Steps).length cp1_1)]) (k := 2) rfl 1) rfl) ?_
     refine Tr.val (wg rfl rfl rfl) rfl (fun _ _ h1 h2 => run_neqS (h1.ev rfl) (h1.ev rfl)) ?_
     refine Tr.va rfl (fun _ _ h1 h2 => run_pickT (h1.ev rfl) (h1.ev rfl)) ?_
     exact Tr.nil (Tr.fin0 (.cons rfl (.cons rfl (.cons rfl (.cons rfl (.cons rfl .nil))))) (.cons rfl (.cons rfl (.cons rfl .nil))))
   ·show Tr _ _ (LF [(2, (iv p2)), (3, (.pointer (some ⟨b100, 0, none⟩))), (4, (.pointer (some ⟨b101, 0, none⟩))), (7, (.pointer (some ⟨b104, 0, none⟩))), (23, (.bool ((!y103.name) && (!sEq p1.Name ByteArray.empty))))]) (LE [(1, bx b100 #[(iv p0.Unit), (.slice Ap0_0 (p0.Tools).length cp0_0), (.slice Ap0_1 (p0.Steps).length cp0_1)] 25), (2, bx b101 #[(iv p1.Kind), (sv p1.Name), (iv p1.At.X), (iv p1.At.Y), (.slice Ap1_0 (p1.Points).length cp1_0), (iv p1.NX), (iv p1.NY), (.slice Ap1_1 (p1.Steps).length cp1_1)] 46), (3, bx b104 #[(.bool y103.name), (.bool y103.at_), (.bool y103.points), (.bool y103.repeat_)] 42)]) _
    refine Tr.asg rfl rfl ?_
    refine Tr.nil (Tr.normThen ?_)
    refine Tr.cond rfl H (fun H => ?_) (fun H => ?_)
    ·refine Tr.skip ?_
     exact Tr.backThen leJ106 ((!y103.name) && (!sEq p1.Name ByteArray.empty)) H (.cons rfl (.cons rfl (.cons rfl (.cons rfl (.cons rfl .nil))))) (.cons rfl (.cons rfl (.cons rfl .nil)))
    ·refine Tr.sr ?_
     refine Tr.va rfl (fun _ _ h1 h2 => run_fieldAddr fo_42_1 (h1.ev rfl)) ?_
     refine Tr.va rfl (fun _ _ h1 h2 => run_load1 ag_4 (h1.ev rfl) (rdb h2 (vs := [(.bool y103.name), (.bool y103.at_), (.bool y103.points), (.bool y103.repeat_)]) (k := 3) rfl 1) rfl) ?_
     refine Tr.va rfl (fun _ _ h1 h2 => run_not (h1.ev rfl)) ?_
     refine Tr.mv rfl rfl ?_
     refine Tr.mid0 5 [(2, (iv p2)), (3, (.pointer (some ⟨b100, 0, none⟩))), (4, (.pointer (some ⟨b101, 0, none⟩))), (7, (.pointer (some ⟨b104, 0, none⟩))), (32, (.bool ((!y103.at_) && (!(eqTPoint p1.At (TPoint.mk 0 0))))))] [(1, bx b100 #[(iv p0.Unit), (.slice Ap0_0 (p0.Tools).length cp0_0), (.slice Ap0_1 (p0.Steps).length cp0_1)] 25), (2, bx b101 #[(iv p1.Kind), (sv p1.Name), (iv p1.At.X), (iv p1.At.Y), (.slice Ap1_0 (p1.Points).length cp1_0), (iv p1.NX), (iv p1.NY), (.slice Ap1_1 (p1.Steps).length cp1_1)] 46), (3, bx b104 #[(.bool y103.name), (.bool y103.at_), (.bool y103.points), (.bool y103.repeat_)] 42)] ?_ ?_
     ·cases hg121 : (!y103.at_)
      ·refine Tr.pass rfl rfl rfl rfl rfl (by decide) ?_
       refine Tr.pass rfl rfl rfl rfl rfl (by decide) ?_
       refine Tr.pass rfl rfl rfl rfl rfl (by decide) ?_
       refine Tr.pass rfl rfl rfl rfl rfl (by decide) ?_
       refine Tr.va rfl (fun _ _ h1 h2 => run_pickF (h1.ev rfl) (h1.ev rfl)) ?_
       exact Tr.nil (Tr.fin0 (.cons rfl (.cons rfl (.cons rfl (.cons rfl (.cons rfl .nil))))) (.cons rfl (.cons rfl (.cons rfl .nil))))
      ·refine Tr.val (wg rfl rfl rfl) rfl (fun _ _ h1 h2 => run_fieldAddr fo_46_2 (h1.ev rfl)) ?_
       refine Tr.val (wg rfl rfl rfl) rfl (fun _ _ h1 h2 => run_loadN (cs := [(iv p1.At.X), (iv p1.At.Y)]) ag_27 sz_27 (h1.ev rfl) (CellsAt.take (rdb h2 (vs := [(iv p1.Kind), (sv p1.Name), (iv p1.At.X), (iv p1.At.Y), (.slice Ap1_0 (p1.Points).length cp1_0), (iv p1.NX), (iv p1.NY), (.slice Ap1_1 (p1.Steps).length cp1_1)]) (k := 2) rfl 2) 2) rfl) ?_
       refine Tr.build (vs := []) (cs := [(iv 0), (iv 0)]) (wg rfl rfl rfl) rfl evs_nil (by kernel_rfl) ?_
       refine Tr.val (wg rfl rfl rfl) rfl (fun _ _ h1 h2 => run_neq_27 p1.At (TPoint.mk 0 0) (h1.ev rfl) (h1.ev rfl)) ?_
       refine Tr.va rfl (fun _ _ h1 h2 => run_pickT (h1.ev rfl) (h1.ev rfl)) ?_
       exact Tr.nil (Tr.fin0 (.cons rfl (.cons rfl (.cons rfl (.cons rfl (.cons rfl .nil))))) (.cons rfl (.cons rfl (.cons rfl .nil))))
     ·show Tr _ _ (LF [(2, (iv p2)), (3, (.pointer (some ⟨b100, 0, none⟩))), (4, (.pointer (some ⟨b101, 0, none⟩))), (7, (.pointer (some ⟨b104, 0, none⟩))), (32, (.bool ((!y103.at_) && (!(eqTPoint p1.At (TPoint.mk 0 0))))))]) (LE [(1, bx b100 #[(iv p0.Unit), (.slice Ap0_0 (p0.Tools).length cp0_0), (.slice Ap0_1 (p0.Steps).length cp0_1)] 25), (2, bx b101 #[(iv p1.Kind), (sv p1.Name), (iv p1.At.X), (iv p1.At.Y), (.slice Ap1_0 (p1.Points).length cp1_0), (iv p1.NX), (iv p1.NY), (.slice Ap1_1 (p1.Steps).length cp1_1)] 46), (3, bx b104 #[(.bool y103.name), (.bool y103.at_), (.bool y103.points), (.bool y103.repeat_)] 42)]) _
      refine Tr.asg rfl rfl ?_
      refine Tr.nil (Tr.normThen ?_)
      refine Tr.cond rfl H (fun H => ?_) (fun H => ?_)
      ·refine Tr.skip ?_
       exact Tr.backThen leJ106 ((!y103.at_) && (!(eqTPoint p1.At (TPoint.mk 0 0)))) H (.cons rfl (.cons rfl (.cons rfl (.cons rfl (.cons rfl .nil))))) (.cons rfl (.cons rfl (.cons rfl .nil)))
      ·refine Tr.sr ?_
       refine Tr.va rfl (fun _ _ h1 h2 => run_fieldAddr fo_42_2 (h1.ev rfl)) ?_
       refine Tr.va rfl (fun _ _ h1 h2 => run_load1 ag_4 (h1.ev rfl) (rdb h2 (vs := [(.bool y103.name), (.bool y103.at_), (.bool y103.points), (.bool y103.repeat_)]) (k := 3) rfl 2) rfl) ?_
       refine Tr.va rfl (fun _ _ h1 h2 => run_not (h1.ev rfl)) ?_
       refine Tr.mv rfl rfl ?_
       refine Tr.mid0 5 [(2, (iv p2)), (3, (.pointer (some ⟨b100, 0, none⟩))), (4, (.pointer (some ⟨b101, 0, none⟩))), (7, (.pointer (some ⟨b104, 0, none⟩))), (41, (.bool ((!y103.points) && (decide (0 < (p1.Points.length : Int))))))] [(1, bx b100 #[(iv p0.Unit), (.slice Ap0_0 (p0.Tools).length cp0_0), (.slice Ap0_1 (p0.Steps).length cp0_1)] 25), (2, bx b101 #[(iv p1.Kind), (sv p1.Name), (iv p1.At.X), (iv p1.At.Y), (.slice Ap1_0 (p1.Points).length cp1_0), (iv p1.NX), (iv p1.NY), (.slice Ap1_1 (p1.Steps).length cp1_1)] 46), (3, bx b104 #[(.bool y103.name), (.bool y103.at_), (.bool y103.points), (.bool y103.repeat_)] 42)] ?_ ?_
       ·cases hg121 : (!y103.points)
        ·refine Tr.pass rfl rfl rfl rfl rfl (by decide) ?_
         refine Tr.pass rfl rfl rfl rfl rfl (by decide) ?_
         refine Tr.pass rfl rfl rfl rfl rfl (by decide) ?_
         refine Tr.pass rfl rfl rfl rfl rfl (by decide) ?_
         refine Tr.va rfl (fun _ _ h1 h2 => run_pickF (h1.ev rfl) (h1.ev rfl)) ?_
         exact Tr.nil (Tr.fin0 (.cons rfl (.cons rfl (.cons rfl (.cons rfl (.cons rfl .nil))))) (.cons rfl (.cons rfl (.cons rfl .nil))))
        ·refine Tr.val (wg rfl rfl rfl) rfl (fun _ _ h1 h2 => run_fieldAddr fo_46_3 (h1.ev rfl)) ?_
         refine Tr.val (wg rfl rfl rfl) rfl (fun _ _ h1 h2 => run_load1 ag_44 (h1.ev rfl) (rdb h2 (vs := [(iv p1.Kind), (sv p1.Name), (iv p1.At.X), (iv p1.At.Y), (.slice Ap1_0 (p1.Points).length cp1_0), (iv p1.NX), (iv p1.NY), (.slice Ap1_1 (p1.Steps).length cp1_1)]) (k := 2) rfl 4) rfl) ?_
         refine Tr.val (wg rfl rfl rfl) rfl (fun _ _ h1 h2 => run_len un_44 (h1.ev rfl)) ?_
         refine Tr.val (wg rfl rfl rfl) rfl (fun _ _ h1 h2 => run_gtr (h1.ev rfl) (h1.ev rfl)) ?_
         refine Tr.va rfl (fun _ _ h1 h2 => run_pickT (h1.ev rfl) (h1.ev rfl)) ?_
         exact Tr.nil (Tr.fin0 (.cons rfl (.cons rfl (.cons rfl (.cons rfl (.cons rfl .nil))))) (.cons rfl (.cons rfl (.cons rfl .nil))))
       ·show Tr _ _ (LF [(2, (iv p2)), (3, (.pointer (some ⟨b100, 0, none⟩))), (4, (.pointer (some ⟨b101, 0, none⟩))), (7, (.pointer (some ⟨b104, 0, none⟩))), (41, (.bool ((!y103.points) && (decide (0 < (p1.Points.length : Int))))))]) (LE [(1, bx b100 #[(iv p0.Unit), (.slice Ap0_0 (p0.Tools).length cp0_0), (.slice Ap0_1 (p0.Steps).length cp0_1)] 25), (2, bx b101 #[(iv p1.Kind), (sv p1.Name), (iv p1.At.X), (iv p1.At.Y), (.slice Ap1_0 (p1.Points).length cp1_0), (iv p1.NX), (iv p1.NY), (.slice Ap1_1 (p1.Steps).length cp1_1)] 46), (3, bx b104 #[(.bool y103.name), (.bool y103.at_), (.bool y103.points), (.bool y103.repeat_)] 42)]) _
        refine Tr.asg rfl rfl ?_
        refine Tr.nil (Tr.normThen ?_)
        refine Tr.cond rfl H (fun H => ?_) (fun H => ?_)
        ·refine Tr.skip ?_
         exact Tr.backThen leJ106 ((!y103.points) && (decide (0 < (p1.Points.length : Int)))) H (.cons rfl (.cons rfl (.cons rfl (.cons rfl (.cons rfl .nil))))) (.cons rfl (.cons rfl (.cons rfl .nil)))
        ·refine Tr.region ?_
         refine Tr.va rfl (fun _ _ h1 h2 => run_fieldAddr fo_42_3 (h1.ev rfl)) ?_
         refine Tr.va rfl (fun _ _ h1 h2 => run_load1 ag_4 (h1.ev rfl) (rdb h2 (vs := [(.bool y103.name), (.bool y103.at_), (.bool y103.points), (.bool y103.repeat_)]) (k := 3) rfl 3) rfl) ?_
         refine Tr.va rfl (fun _ _ h1 h2 => run_not (h1.ev rfl)) ?_
         refine Tr.mv rfl rfl ?_
         refine Tr.mid0 15 [(2, (iv p2)), (3, (.pointer (some ⟨b100, 0, none⟩))), (4, (.pointer (some ⟨b101, 0, none⟩))), (7, (.pointer (some ⟨b104, 0, none⟩))), (60, (.bool ((!y103.repeat_) && (((p1.NX != 0) || (p1.NY != 0)) || (decide (0 < (p1.Steps.length : Int)))))))] [(1, bx b100 #[(iv p0.Unit), (.slice Ap0_0 (p0.Tools).length cp0_0), (.slice Ap0_1 (p0.Steps).length cp0_1)] 25), (2, bx b101 #[(iv p1.Kind), (sv p1.Name), (iv p1.At.X), (iv p1.At.Y), (.slice Ap1_0 (p1.Points).length cp1_0), (iv p1.NX), (iv p1.NY), (.slice Ap1_1 (p1.Steps).length cp1_1)] 46), (3, bx b104 #[(.bool y103.name), (.bool y103.at_), (.bool y103.points), (.bool y103.repeat_)] 42)] ?_ ?_
         ·cases hg121 : (!y103.repeat_)
          ·refine Tr.pass rfl rfl rfl rfl rfl (by decide) ?_
           refine Tr.pass rfl rfl rfl rfl rfl (by decide) ?_
           refine Tr.pass rfl rfl rfl rfl rfl (by decide) ?_
           refine Tr.pass rfl rfl rfl rfl rfl (by decide) ?_
           refine Tr.passU rfl rfl rfl rfl (by decide) ?_
           refine Tr.passU rfl rfl rfl rfl (by decide) ?_
           refine Tr.passU rfl rfl rfl rfl (by decide) ?_
           refine Tr.pass rfl rfl rfl rfl rfl (by decide) ?_
           refine Tr.pass rfl rfl rfl rfl rfl (by decide) ?_
           refine Tr.passU rfl rfl rfl rfl (by decide) ?_
           refine Tr.passU rfl rfl rfl rfl (by decide) ?_
           refine Tr.passU rfl rfl rfl rfl (by decide) ?_
           refine Tr.passU rfl rfl rfl rfl (by decide) ?_
           refine Tr.pass rfl rfl rfl rfl rfl (by decide) ?_
           refine Tr.va rfl (fun _ _ h1 h2 => run_pickF (h1.ev rfl) (h1.ev rfl)) ?_
           exact Tr.nil (Tr.fin0 (.cons rfl (.cons rfl (.cons rfl (.cons rfl (.cons rfl .nil))))) (.cons rfl (.cons rfl (.cons rfl .nil))))
          ·refine Tr.val (wg rfl rfl rfl) rfl (fun _ _ h1 h2 => run_fieldAddr fo_46_4 (h1.ev rfl)) ?_
           refine Tr.val (wg rfl rfl rfl) rfl (fun _ _ h1 h2 => run_load1 ag_3 (h1.ev rfl) (rdb h2 (vs := [(iv p1.Kind), (sv p1.Name), (iv p1.At.X), (iv p1.At.Y), (.slice Ap1_0 (p1.Points).length cp1_0), (iv p1.NX), (iv p1.NY), (.slice Ap1_1 (p1.Steps).length cp1_1)]) (k := 2) rfl 5) rfl) ?_
           refine Tr.val (wg rfl rfl rfl) rfl (fun _ _ h1 h2 => run_neq (h1.ev rfl) (h1.ev rfl)) ?_
           refine Tr.val (wg rfl rfl rfl) rfl (fun _ _ h1 h2 => run_move (h1.ev rfl)) ?_
           refine Tr.mid0 4 [(2, (iv p2)), (3, (.pointer (some ⟨b100, 0, none⟩))), (4, (.pointer (some ⟨b101, 0, none⟩))), (7, (.pointer (some ⟨b104, 0, none⟩))), (45, (.bool true)), (53, (.bool ((p1.NX != 0) || (p1.NY != 0))))] [(1, bx b100 #[(iv p0.Unit), (.slice Ap0_0 (p0.Tools).length cp0_0), (.slice Ap0_1 (p0.Steps).length cp0_1)] 25), (2, bx b101 #[(iv p1.Kind), (sv p1.Name), (iv p1.At.X), (iv p1.At.Y), (.slice Ap1_0 (p1.Points).length cp1_0), (iv p1.NX), (iv p1.NY), (.slice Ap1_1 (p1.Steps).length cp1_1)] 46), (3, bx b104 #[(.bool y103.name), (.bool y103.at_), (.bool y103.points), (.bool y103.repeat_)] 42)] ?_ ?_
           ·cases hg121 : (p1.NX != 0)
            ·refine Tr.val (wg rfl rfl rfl) rfl (fun _ _ h1 h2 => run_fieldAddr fo_46_5 (h1.ev rfl)) ?_
             refine Tr.val (wg rfl rfl rfl) rfl (fun _ _ h1 h2 => run_load1 ag_3 (h1.ev rfl) (rdb h2 (vs := [(iv p1.Kind), (sv p1.Name), (iv p1.At.X), (iv p1.At.Y), (.slice Ap1_0 (p1.Points).length cp1_0), (iv p1.NX), (iv p1.NY), (.slice Ap1_1 (p1.Steps).length cp1_1)]) (k := 2) rfl 6) rfl) ?_
             refine Tr.val (wg rfl rfl rfl) rfl (fun _ _ h1 h2 => run_neq (h1.ev rfl) (h1.ev rfl)) ?_
             refine Tr.val (wg rfl rfl rfl) rfl (fun _ _ h1 h2 => run_pickF (h1.ev rfl) (h1.ev rfl)) ?_
             exact Tr.nil (Tr.fin0 (.cons rfl (.cons rfl (.cons rfl (.cons rfl (.cons rfl (.cons rfl .nil)))))) (.cons rfl (.cons rfl (.cons rfl .nil))))
            ·refine Tr.pass rfl rfl rfl rfl rfl (by decide) ?_
             refine Tr.pass rfl rfl rfl rfl rfl (by decide) ?_
             refine Tr.pass rfl rfl rfl rfl rfl (by decide) ?_
             refine Tr.val (wg rfl rfl rfl) rfl (fun _ _ h1 h2 => run_pickT (h1.ev rfl) (h1.ev rfl)) ?_
             exact Tr.nil (Tr.fin0 (.cons rfl (.cons rfl (.cons rfl (.cons rfl (.cons rfl (.cons rfl .nil)))))) (.cons rfl (.cons rfl (.cons rfl .nil))))
           ·show Tr _ _ (LF [(2, (iv p2)), (3, (.pointer (some ⟨b100, 0, none⟩))), (4, (.pointer (some ⟨b101, 0, none⟩))), (7, (.pointer (some ⟨b104, 0, none⟩))), (45, (.bool true)), (53, (.bool ((p1.NX != 0) || (p1.NY != 0))))]) (LE [(1, bx b100 #[(iv p0.Unit), (.slice Ap0_0 (p0.Tools).length cp0_0), (.slice Ap0_1 (p0.Steps).length cp0_1)] 25), (2, bx b101 #[(iv p1.Kind), (sv p1.Name), (iv p1.At.X), (iv p1.At.Y), (.slice Ap1_0 (p1.Points).length cp1_0), (iv p1.NX), (iv p1.NY), (.slice Ap1_1 (p1.Steps).length cp1_1)] 46), (3, bx b104 #[(.bool y103.name), (.bool y103.at_), (.bool y103.points), (.bool y103.repeat_)] 42)]) _
            refine Tr.val (wg rfl rfl rfl) rfl (fun _ _ h1 h2 => run_move (h1.ev rfl)) ?_
            refine Tr.mid0 5 [(2, (iv p2)), (3, (.pointer (some ⟨b100, 0, none⟩))), (4, (.pointer (some ⟨b101, 0, none⟩))), (7, (.pointer (some ⟨b104, 0, none⟩))), (45, (.bool true)), (59, (.bool (((p1.NX != 0) || (p1.NY != 0)) || (decide (0 < (p1.Steps.length : Int))))))] [(1, bx b100 #[(iv p0.Unit), (.slice Ap0_0 (p0.Tools).length cp0_0), (.slice Ap0_1 (p0.Steps).length cp0_1)] 25), (2, bx b101 #[(iv p1.Kind), (sv p1.Name), (iv p1.At.X), (iv p1.At.Y), (.slice Ap1_0 (p1.Points).length cp1_0), (iv p1.NX), (iv p1.NY), (.slice Ap1_1 (p1.Steps).length cp1_1)] 46), (3, bx b104 #[(.bool y103.name), (.bool y103.at_), (.bool y103.points), (.bool y103.repeat_)] 42)] ?_ ?_
            ·cases hg121 : ((p1.NX != 0) || (p1.NY != 0))
             ·refine Tr.val (wg rfl rfl rfl) rfl (fun _ _ h1 h2 => run_fieldAddr fo_46_6 (h1.ev rfl)) ?_
              refine Tr.val (wg rfl rfl rfl) rfl (fun _ _ h1 h2 => run_load1 ag_23 (h1.ev rfl) (rdb h2 (vs := [(iv p1.Kind), (sv p1.Name), (iv p1.At.X), (iv p1.At.Y), (.slice Ap1_0 (p1.Points).length cp1_0), (iv p1.NX), (iv p1.NY), (.slice Ap1_1 (p1.Steps).length cp1_1)]) (k := 2) rfl 7) rfl) ?_
              refine Tr.val (wg rfl rfl rfl) rfl (fun _ _ h1 h2 => run_len un_23 (h1.ev rfl)) ?_
              refine Tr.val (wg rfl rfl rfl) rfl (fun _ _ h1 h2 => run_gtr (h1.ev rfl) (h1.ev rfl)) ?_
              refine Tr.val (wg rfl rfl rfl) rfl (fun _ _ h1 h2 => run_pickF (h1.ev rfl) (h1.ev rfl)) ?_
              exact Tr.nil (Tr.fin0 (.cons rfl (.cons rfl (.cons rfl (.cons rfl (.cons rfl (.cons rfl .nil)))))) (.cons rfl (.cons rfl (.cons rfl .nil))))
             ·refine Tr.pass rfl rfl rfl rfl rfl (by decide) ?_
              refine Tr.pass rfl rfl rfl rfl rfl (by decide) ?_
              refine Tr.pass rfl rfl rfl rfl rfl (by decide) ?_
              refine Tr.pass rfl rfl rfl rfl rfl (by decide) ?_
              refine Tr.val (wg rfl rfl rfl) rfl (fun _ _ h1 h2 => run_pickT (h1.ev rfl) (h1.ev rfl)) ?_
              exact Tr.nil (Tr.fin0 (.cons rfl (.cons rfl (.cons rfl (.cons rfl (.cons rfl (.cons rfl .nil)))))) (.cons rfl (.cons rfl (.cons rfl .nil))))
            ·show Tr _ _ (LF [(2, (iv p2)), (3, (.pointer (some ⟨b100, 0, none⟩))), (4, (.pointer (some ⟨b101, 0, none⟩))), (7, (.pointer (some ⟨b104, 0, none⟩))), (45, (.bool true)), (59, (.bool (((p1.NX != 0) || (p1.NY != 0)) || (decide (0 < (p1.Steps.length : Int))))))]) (LE [(1, bx b100 #[(iv p0.Unit), (.slice Ap0_0 (p0.Tools).length cp0_0), (.slice Ap0_1 (p0.Steps).length cp0_1)] 25), (2, bx b101 #[(iv p1.Kind), (sv p1.Name), (iv p1.At.X), (iv p1.At.Y), (.slice Ap1_0 (p1.Points).length cp1_0), (iv p1.NX), (iv p1.NY), (.slice Ap1_1 (p1.Steps).length cp1_1)] 46), (3, bx b104 #[(.bool y103.name), (.bool y103.at_), (.bool y103.points), (.bool y103.repeat_)] 42)]) _
             refine Tr.va rfl (fun _ _ h1 h2 => run_pickT (h1.ev rfl) (h1.ev rfl)) ?_
             exact Tr.nil (Tr.fin0 (.cons rfl (.cons rfl (.cons rfl (.cons rfl (.cons rfl .nil))))) (.cons rfl (.cons rfl (.cons rfl .nil))))
         ·show Tr _ _ (LF [(2, (iv p2)), (3, (.pointer (some ⟨b100, 0, none⟩))), (4, (.pointer (some ⟨b101, 0, none⟩))), (7, (.pointer (some ⟨b104, 0, none⟩))), (60, (.bool ((!y103.repeat_) && (((p1.NX != 0) || (p1.NY != 0)) || (decide (0 < (p1.Steps.length : Int)))))))]) (LE [(1, bx b100 #[(iv p0.Unit), (.slice Ap0_0 (p0.Tools).length cp0_0), (.slice Ap0_1 (p0.Steps).length cp0_1)] 25), (2, bx b101 #[(iv p1.Kind), (sv p1.Name), (iv p1.At.X), (iv p1.At.Y), (.slice Ap1_0 (p1.Points).length cp1_0), (iv p1.NX), (iv p1.NY), (.slice Ap1_1 (p1.Steps).length cp1_1)] 46), (3, bx b104 #[(.bool y103.name), (.bool y103.at_), (.bool y103.points), (.bool y103.repeat_)] 42)]) _
          refine Tr.asg rfl rfl ?_
          refine Tr.nil ?_
          exact Tr.backThen leJ106 ((!y103.repeat_) && (((p1.NX != 0) || (p1.NY != 0)) || (decide (0 < (p1.Steps.length : Int))))) H (.cons rfl (.cons rfl (.cons rfl (.cons rfl (.cons rfl .nil))))) (.cons rfl (.cons rfl (.cons rfl .nil)))
  ·intro w x105 hlJ107 hs
   have H := hs
   replace H : F_plot_checkStep_J1 p0 p1 p2 y103 x105 = some r := H
   replace hp0_0 := hp0_0.leR hlJ107
   replace hp0_1 := hp0_1.leR hlJ107
   replace hp1_0 := hp1_0.leR hlJ107
   replace hp1_1 := hp1_1.leR hlJ107
   replace leB := leB.trans hlJ107
   unfold F_plot_checkStep_J1 at H
   show Tr _ _ (LF [(2, (iv p2)), (3, (.pointer (some ⟨b100, 0, none⟩))), (4, (.pointer (some ⟨b101, 0, none⟩))), (7, (.pointer (some ⟨b104, 0, none⟩))), (15, (.bool x105))]) (LE [(1, bx b100 #[(iv p0.Unit), (.slice Ap0_0 (p0.Tools).length cp0_0), (.slice Ap0_1 (p0.Steps).length cp0_1)] 25), (2, bx b101 #[(iv p1.Kind), (sv p1.Name), (iv p1.At.X), (iv p1.At.Y), (.slice Ap1_0 (p1.Points).length cp1_0), (iv p1.NX), (iv p1.NY), (.slice Ap1_1 (p1.Steps).length cp1_1)] 46), (3, bx b104 #[(.bool y103.name), (.bool y103.at_), (.bool y103.points), (.bool y103.repeat_)] 42)]) _
   refine Tr.cond rfl H (fun H => ?_) (fun H => ?_)
   ·refine Tr.sr ?_
    refine Tr.asg rfl rfl ?_
    refine Tr.nil (Tr.normThen ?_)
    refine Tr.ret (Tr.retBlock (Tr.retThen ?_))
    obtain rfl := Option.some.inj H
    exact Tr.out (m := [(iv 3)]) [] (res_tmp rfl res_nil) (fun W hW => ⟨rfl, hW.low leB⟩)
   ·refine Tr.sr ?_
    refine Tr.va rfl (fun _ _ h1 h2 => run_fieldAddr fo_42_0 (h1.ev rfl)) ?_
    refine Tr.va rfl (fun _ _ h1 h2 => run_load1 ag_4 (h1.ev rfl) (rdb h2 (vs := [(.bool y103.name), (.bool y103.at_), (.bool y103.points), (.bool y103.repeat_)]) (k := 3) rfl 0) rfl) ?_
    refine Tr.mv rfl rfl ?_
    obtain ⟨g109, hg109, H⟩ := bnd H
    refine Tr.mid0 6 [(2, (iv p2)), (3, (.pointer (some ⟨b100, 0, none⟩))), (4, (.pointer (some ⟨b101, 0, none⟩))), (7, (.pointer (some ⟨b104, 0, none⟩))), (70, (.bool g109))] [(1, bx b100 #[(iv p0.Unit), (.slice Ap0_0 (p0.Tools).length cp0_0), (.slice Ap0_1 (p0.Steps).length cp0_1)] 25), (2, bx b101 #[(iv p1.Kind), (sv p1.Name), (iv p1.At.X), (iv p1.At.Y), (.slice Ap1_0 (p1.Points).length cp1_0), (iv p1.NX), (iv p1.NY), (.slice Ap1_1 (p1.Steps).length cp1_1)] 46), (3, bx b104 #[(.bool y103.name), (.bool y103.at_), (.bool y103.points), (.bool y103.repeat_)] 42)] ?_ ?_
    ·cases hg121 : y103.name
     ·rw [hg121] at hg109
      rw [if_neg (by decide)] at hg109
      have H := hg109
      obtain rfl := Option.some.inj H
      refine Tr.pass rfl rfl rfl rfl rfl (by decide) ?_
      refine Tr.pass rfl rfl rfl rfl rfl (by decide) ?_
      refine Tr.pass rfl rfl rfl rfl rfl (by decide) ?_
      refine Tr.pass rfl rfl rfl rfl rfl (by decide) ?_
      refine Tr.pass rfl rfl rfl rfl rfl (by decide) ?_
      refine Tr.va rfl (fun _ _ h1 h2 => run_pickF (h1.ev rfl) (h1.ev rfl)) ?_
      exact Tr.nil (Tr.fin0 (.cons rfl (.cons rfl (.cons rfl (.cons rfl (.cons rfl .nil))))) (.cons rfl (.cons rfl (.cons rfl .nil))))
     ·rw [hg121] at hg109
      rw [if_pos rfl] at hg109
      have H := hg109
      refine Tr.val (wg rfl rfl rfl) rfl (fun _ _ h1 h2 => run_loadN (cs := [(iv p0.Unit), (.slice Ap0_0 (p0.Tools).length cp0_0), (.slice Ap0_1 (p0.Steps).length cp0_1)]) ag_25 sz_25 (h1.ev rfl) (CellsAt.take (rdb h2 (vs := [(iv p0.Unit), (.slice Ap0_0 (p0.Tools).length cp0_0), (.slice Ap0_1 (p0.Steps).length cp0_1)]) (k := 1) rfl 0) 3) rfl) ?_
      refine Tr.val (wg rfl rfl rfl) rfl (fun _ _ h1 h2 => run_fieldAddr fo_46_1 (h1.ev rfl)) ?_
      refine Tr.val (wg rfl rfl rfl) rfl (fun _ _ h1 h2 => run_load1 ag_9 (h1.ev rfl) (rdb h2 (vs := [(iv p1.Kind), (sv p1.Name), (iv p1.At.X), (iv p1.At.Y), (.slice Ap1_0 (p1.Points).length cp1_0), (iv p1.NX), (iv p1.NY), (.slice Ap1_1 (p1.Steps).length cp1_1)]) (k := 2) rfl 1) rfl) ?_
      obtain ⟨y110, hy110, H⟩ := bnd H
      refine Tr.call0 (r := (iv y110)) (wg rfl rfl rfl) rfl Tryd.call74 (evl_cons rfl (evl_cons rfl evl_nil)) (fun W hW => F_plot_toolAt_ok p0 Ap0_0 cp0_0 (hp0_0.ext hW.extAll) Ap0_1 cp0_1 (hp0_1.ext hW.extAll) p1.Name y110 hy110 (HF.start _)) ?_
      refine Tr.val (wg rfl rfl rfl) rfl (fun _ _ h1 h2 => run_lss (h1.ev rfl) (h1.ev rfl)) ?_
      refine Tr.va rfl (fun _ _ h1 h2 => run_pickT (h1.ev rfl) (h1.ev rfl)) ?_
      obtain rfl := Option.some.inj H
      exact Tr.nil (Tr.fin0 (.cons rfl (.cons rfl (.cons rfl (.cons rfl (.cons rfl .nil))))) (.cons rfl (.cons rfl (.cons rfl .nil))))
    ·show Tr _ _ (LF [(2, (iv p2)), (3, (.pointer (some ⟨b100, 0, none⟩))), (4, (.pointer (some ⟨b101, 0, none⟩))), (7, (.pointer (some ⟨b104, 0, none⟩))), (70, (.bool g109))]) (LE [(1, bx b100 #[(iv p0.Unit), (.slice Ap0_0 (p0.Tools).length cp0_0), (.slice Ap0_1 (p0.Steps).length cp0_1)] 25), (2, bx b101 #[(iv p1.Kind), (sv p1.Name), (iv p1.At.X), (iv p1.At.Y), (.slice Ap1_0 (p1.Points).length cp1_0), (iv p1.NX), (iv p1.NY), (.slice Ap1_1 (p1.Steps).length cp1_1)] 46), (3, bx b104 #[(.bool y103.name), (.bool y103.at_), (.bool y103.points), (.bool y103.repeat_)] 42)]) _
     refine Tr.asg rfl rfl ?_
     refine Tr.nil (Tr.normThen ?_)
     refine Tr.cond rfl H (fun H => ?_) (fun H => ?_)
     ·refine Tr.sr ?_
      refine Tr.asg rfl rfl ?_
      refine Tr.nil (Tr.normThen ?_)
      refine Tr.ret (Tr.retBlock (Tr.retThen ?_))
      obtain rfl := Option.some.inj H
      exact Tr.out (m := [(iv 5)]) [] (res_tmp rfl res_nil) (fun W hW => ⟨rfl, hW.low leB⟩)
     ·refine Tr.sr ?_
      refine Tr.va rfl (fun _ _ h1 h2 => run_fieldAddr fo_46_2 (h1.ev rfl)) ?_
      refine Tr.va rfl (fun _ _ h1 h2 => run_loadN (cs := [(iv p1.At.X), (iv p1.At.Y)]) ag_27 sz_27 (h1.ev rfl) (CellsAt.take (rdb h2 (vs := [(iv p1.Kind), (sv p1.Name), (iv p1.At.X), (iv p1.At.Y), (.slice Ap1_0 (p1.Points).length cp1_0), (iv p1.NX), (iv p1.NY), (.slice Ap1_1 (p1.Steps).length cp1_1)]) (k := 2) rfl 2) 2) rfl) ?_
      refine Tr.va rfl (fun _ _ h1 h2 => run_fieldAddr fo_25_0 (h1.ev rfl)) ?_
      refine Tr.va rfl (fun _ _ h1 h2 => run_load1 ag_3 (h1.ev rfl) (rdb h2 (vs := [(iv p0.Unit), (.slice Ap0_0 (p0.Tools).length cp0_0), (.slice Ap0_1 (p0.Steps).length cp0_1)]) (k := 1) rfl 0) rfl) ?_
      obtain ⟨y111, hy111, H⟩ := bnd H
      refine Tr.call0 (r := (.bool y111)) (wn rfl) rfl Tryd.call75 (evl_cons rfl (evl_cons rfl evl_nil)) (fun W hW => F_plot_isPoint_ok p1.At p0.Unit y111 hy111 (HF.start _)) ?_
      refine Tr.va rfl (fun _ _ h1 h2 => run_not (h1.ev rfl)) ?_
      refine Tr.mv rfl rfl ?_
      obtain ⟨g113, hg113, H⟩ := bnd H
      refine Tr.mid0 5 [(2, (iv p2)), (4, (.pointer (some ⟨b101, 0, none⟩))), (7, (.pointer (some ⟨b104, 0, none⟩))), (83, (.bool g113))] [(1, bx b100 #[(iv p0.Unit), (.slice Ap0_0 (p0.Tools).length cp0_0), (.slice Ap0_1 (p0.Steps).length cp0_1)] 25), (2, bx b101 #[(iv p1.Kind), (sv p1.Name), (iv p1.At.X), (iv p1.At.Y), (.slice Ap1_0 (p1.Points).length cp1_0), (iv p1.NX), (iv p1.NY), (.slice Ap1_1 (p1.Steps).length cp1_1)] 46), (3, bx b104 #[(.bool y103.name), (.bool y103.at_), (.bool y103.points), (.bool y103.repeat_)] 42)] ?_ ?_
      ·cases hg121 : (!y111)
       ·rw [hg121] at hg113
        rw [if_neg (by decide)] at hg113
        have H := hg113
        refine Tr.val (wg rfl rfl rfl) rfl (fun _ _ h1 h2 => run_fieldAddr fo_46_3 (h1.ev rfl)) ?_
        refine Tr.val (wg rfl rfl rfl) rfl (fun _ _ h1 h2 => run_load1 ag_44 (h1.ev rfl) (rdb h2 (vs := [(iv p1.Kind), (sv p1.Name), (iv p1.At.X), (iv p1.At.Y), (.slice Ap1_0 (p1.Points).length cp1_0), (iv p1.NX), (iv p1.NY), (.slice Ap1_1 (p1.Steps).length cp1_1)]) (k := 2) rfl 4) rfl) ?_
        refine Tr.mkFunc (vs := [(.pointer (some ⟨b100, 0, none⟩))]) (wg rfl rfl rfl) rfl (evl_cons rfl evl_nil) ?_
        obtain ⟨y114, hy114, H⟩ := bnd H
        refine Tr.call0 (r := (.bool y114)) (wg rfl rfl rfl) rfl Tryd.call76 (evl_cons rfl (evl_cons rfl evl_nil)) (fun W hW => F_slices_ContainsFunc_Point_ok p1.Points Ap1_0 cp1_0 (hp1_0.ext hW.extAll) (fun z0 => F_plot_checkStep_1 z0 p0) 77 [(.pointer (some ⟨b100, 0, none⟩))] Tryd.call77 (fun w' he z0 y hy => F_plot_checkStep_1_ok z0 p0 Ap0_0 cp0_0 (hp0_0.ext (hW.extAll.trans he)) Ap0_1 cp0_1 (hp0_1.ext (hW.extAll.trans he)) b100 (he.r _ (hW.capR (k := 1) rfl)) (he.cells (hW.capR (k := 1) rfl) (hW.capC (k := 1) rfl)) y hy (HF.start _)) y114 hy114 (HF.start _)) ?_
        refine Tr.va rfl (fun _ _ h1 h2 => run_pickF (h1.ev rfl) (h1.ev rfl)) ?_
        obtain rfl := Option.some.inj H
        exact Tr.nil (Tr.fin0 (.cons rfl (.cons rfl (.cons rfl (.cons rfl .nil)))) (.cons rfl (.cons rfl (.cons rfl .nil))))
       ·rw [hg121] at hg113
        rw [if_pos rfl] at hg113
        have H := hg113
        obtain rfl := Option.some.inj H
        refine Tr.pass rfl rfl rfl rfl rfl (by decide) ?_
        refine Tr.pass rfl rfl rfl rfl rfl (by decide) ?_
        refine Tr.pass rfl rfl rfl rfl rfl (by decide) ?_
        refine Tr.pass rfl rfl rfl rfl rfl (by decide) ?_
        refine Tr.va rfl (fun _ _ h1 h2 => run_pickT (h1.ev rfl) (h1.ev rfl)) ?_
        exact Tr.nil (Tr.fin0 (.cons rfl (.cons rfl (.cons rfl (.cons rfl .nil)))) (.cons rfl (.cons rfl (.cons rfl .nil))))
      ·show Tr _ _ (LF [(2, (iv p2)), (4, (.pointer (some ⟨b101, 0, none⟩))), (7, (.pointer (some ⟨b104, 0, none⟩))), (83, (.bool g113))]) (LE [(1, bx b100 #[(iv p0.Unit), (.slice Ap0_0 (p0.Tools).length cp0_0), (.slice Ap0_1 (p0.Steps).length cp0_1)] 25), (2, bx b101 #[(iv p1.Kind), (sv p1.Name), (iv p1.At.X), (iv p1.At.Y), (.slice Ap1_0 (p1.Points).length cp1_0), (iv p1.NX), (iv p1.NY), (.slice Ap1_1 (p1.Steps).length cp1_1)] 46), (3, bx b104 #[(.bool y103.name), (.bool y103.at_), (.bool y103.points), (.bool y103.repeat_)] 42)]) _
       refine Tr.asg rfl rfl ?_
       refine Tr.nil (Tr.normThen ?_)
       refine Tr.cond rfl H (fun H => ?_) (fun H => ?_)
       ·refine Tr.sr ?_
        refine Tr.asg rfl rfl ?_
        refine Tr.nil (Tr.normThen ?_)
        refine Tr.ret (Tr.retBlock (Tr.retThen ?_))
        obtain rfl := Option.some.inj H
        exact Tr.out (m := [(iv 1)]) [] (res_tmp rfl res_nil) (fun W hW => ⟨rfl, hW.low leB⟩)
       ·refine Tr.sr ?_
        refine Tr.va rfl (fun _ _ h1 h2 => run_fieldAddr fo_46_3 (h1.ev rfl)) ?_
        refine Tr.va rfl (fun _ _ h1 h2 => run_load1 ag_44 (h1.ev rfl) (rdb h2 (vs := [(iv p1.Kind), (sv p1.Name), (iv p1.At.X), (iv p1.At.Y), (.slice Ap1_0 (p1.Points).length cp1_0), (iv p1.NX), (iv p1.NY), (.slice Ap1_1 (p1.Steps).length cp1_1)]) (k := 2) rfl 4) rfl) ?_
        refine Tr.va rfl (fun _ _ h1 h2 => run_len un_44 (h1.ev rfl)) ?_
        refine Tr.va rfl (fun _ _ h1 h2 => run_gtr (h1.ev rfl) (h1.ev rfl)) ?_
        refine Tr.asg rfl rfl ?_
        refine Tr.nil (Tr.normThen ?_)
        refine Tr.cond rfl H (fun H => ?_) (fun H => ?_)
        ·refine Tr.sr ?_
         refine Tr.asg rfl rfl ?_
         refine Tr.nil (Tr.normThen ?_)
         refine Tr.ret (Tr.retBlock (Tr.retThen ?_))
         obtain rfl := Option.some.inj H
         exact Tr.out (m := [(iv 2)]) [] (res_tmp rfl res_nil) (fun W hW => ⟨rfl, hW.low leB⟩)
        ·refine Tr.sr ?_
         refine Tr.va rfl (fun _ _ h1 h2 => run_fieldAddr fo_42_2 (h1.ev rfl)) ?_
         refine Tr.va rfl (fun _ _ h1 h2 => run_load1 ag_4 (h1.ev rfl) (rdb h2 (vs := [(.bool y103.name), (.bool y103.at_), (.bool y103.points), (.bool y103.repeat_)]) (k := 3) rfl 2) rfl) ?_
         refine Tr.mv rfl rfl ?_
         obtain ⟨g116, hg116, H⟩ := bnd H
         refine Tr.mid0 5 [(2, (iv p2)), (4, (.pointer (some ⟨b101, 0, none⟩))), (7, (.pointer (some ⟨b104, 0, none⟩))), (97, (.bool g116))] [(1, bx b100 #[(iv p0.Unit), (.slice Ap0_0 (p0.Tools).length cp0_0), (.slice Ap0_1 (p0.Steps).length cp0_1)] 25), (2, bx b101 #[(iv p1.Kind), (sv p1.Name), (iv p1.At.X), (iv p1.At.Y), (.slice Ap1_0 (p1.Points).length cp1_0), (iv p1.NX), (iv p1.NY), (.slice Ap1_1 (p1.Steps).length cp1_1)] 46), (3, bx b104 #[(.bool y103.name), (.bool y103.at_), (.bool y103.points), (.bool y103.repeat_)] 42)] ?_ ?_
         ·cases hg121 : y103.points
          ·rw [hg121] at hg116
           rw [if_neg (by decide)] at hg116
           have H := hg116
           obtain rfl := Option.some.inj H
           refine Tr.pass rfl rfl rfl rfl rfl (by decide) ?_
           refine Tr.pass rfl rfl rfl rfl rfl (by decide) ?_
           refine Tr.pass rfl rfl rfl rfl rfl (by decide) ?_
           refine Tr.pass rfl rfl rfl rfl rfl (by decide) ?_
           refine Tr.va rfl (fun _ _ h1 h2 => run_pickF (h1.ev rfl) (h1.ev rfl)) ?_
           exact Tr.nil (Tr.fin0 (.cons rfl (.cons rfl (.cons rfl (.cons rfl .nil)))) (.cons rfl (.cons rfl (.cons rfl .nil))))
          ·rw [hg121] at hg116
           rw [if_pos rfl] at hg116
           have H := hg116
           refine Tr.val (wg rfl rfl rfl) rfl (fun _ _ h1 h2 => run_fieldAddr fo_46_3 (h1.ev rfl)) ?_
           refine Tr.val (wg rfl rfl rfl) rfl (fun _ _ h1 h2 => run_load1 ag_44 (h1.ev rfl) (rdb h2 (vs := [(iv p1.Kind), (sv p1.Name), (iv p1.At.X), (iv p1.At.Y), (.slice Ap1_0 (p1.Points).length cp1_0), (iv p1.NX), (iv p1.NY), (.slice Ap1_1 (p1.Steps).length cp1_1)]) (k := 2) rfl 4) rfl) ?_
           obtain ⟨y117, hy117, H⟩ := bnd H
           refine Tr.call0 (r := (.bool y117)) (wg rfl rfl rfl) rfl Tryd.call78 (evl_cons rfl evl_nil) (fun W hW => F_shape_IsRow_ok p1.Points Ap1_0 cp1_0 (hp1_0.ext hW.extAll) y117 hy117 (HF.start _)) ?_
           refine Tr.val (wg rfl rfl rfl) rfl (fun _ _ h1 h2 => run_not (h1.ev rfl)) ?_
           refine Tr.va rfl (fun _ _ h1 h2 => run_pickT (h1.ev rfl) (h1.ev rfl)) ?_
           obtain rfl := Option.some.inj H
           exact Tr.nil (Tr.fin0 (.cons rfl (.cons rfl (.cons rfl (.cons rfl .nil)))) (.cons rfl (.cons rfl (.cons rfl .nil))))
         ·show Tr _ _ (LF [(2, (iv p2)), (4, (.pointer (some ⟨b101, 0, none⟩))), (7, (.pointer (some ⟨b104, 0, none⟩))), (97, (.bool g116))]) (LE [(1, bx b100 #[(iv p0.Unit), (.slice Ap0_0 (p0.Tools).length cp0_0), (.slice Ap0_1 (p0.Steps).length cp0_1)] 25), (2, bx b101 #[(iv p1.Kind), (sv p1.Name), (iv p1.At.X), (iv p1.At.Y), (.slice Ap1_0 (p1.Points).length cp1_0), (iv p1.NX), (iv p1.NY), (.slice Ap1_1 (p1.Steps).length cp1_1)] 46), (3, bx b104 #[(.bool y103.name), (.bool y103.at_), (.bool y103.points), (.bool y103.repeat_)] 42)]) _
          refine Tr.asg rfl rfl ?_
          refine Tr.nil (Tr.normThen ?_)
          refine Tr.cond rfl H (fun H => ?_) (fun H => ?_)
          ·refine Tr.sr ?_
           refine Tr.asg rfl rfl ?_
           refine Tr.nil (Tr.normThen ?_)
           refine Tr.ret (Tr.retBlock (Tr.retThen ?_))
           obtain rfl := Option.some.inj H
           exact Tr.out (m := [(iv 3)]) [] (res_tmp rfl res_nil) (fun W hW => ⟨rfl, hW.low leB⟩)
          ·refine Tr.skip (Tr.normBlock (Tr.normThen ?_))
           refine Tr.seq ?_
           refine Tr.sr ?_
           refine Tr.va rfl (fun _ _ h1 h2 => run_fieldAddr fo_42_3 (h1.ev rfl)) ?_
           refine Tr.va rfl (fun _ _ h1 h2 => run_load1 ag_4 (h1.ev rfl) (rdb h2 (vs := [(.bool y103.name), (.bool y103.at_), (.bool y103.points), (.bool y103.repeat_)]) (k := 3) rfl 3) rfl) ?_
           refine Tr.va rfl (fun _ _ h1 h2 => run_not (h1.ev rfl)) ?_
           refine Tr.nil (Tr.normThen ?_)
           refine Tr.cond rfl H (fun H => ?_) (fun H => ?_)
           ·refine Tr.sr ?_
            refine Tr.asg rfl rfl ?_
            refine Tr.nil (Tr.normThen ?_)
            refine Tr.ret (Tr.retThen ?_)
            obtain rfl := Option.some.inj H
            exact Tr.out (m := [(iv 0)]) [] (res_tmp rfl res_nil) (fun W hW => ⟨rfl, hW.low leB⟩)
           ·refine Tr.skip (Tr.normThen ?_)
            refine Tr.seq ?_
            refine Tr.block ?_
            refine Tr.sr ?_
            refine Tr.va rfl (fun _ _ h1 h2 => run_fieldAddr fo_46_4 (h1.ev rfl)) ?_
            refine Tr.va rfl (fun _ _ h1 h2 => run_load1 ag_3 (h1.ev rfl) (rdb h2 (vs := [(iv p1.Kind), (sv p1.Name), (iv p1.At.X), (iv p1.At.Y), (.slice Ap1_0 (p1.Points).length cp1_0), (iv p1.NX), (iv p1.NY), (.slice Ap1_1 (p1.Steps).length cp1_1)]) (k := 2) rfl 5) rfl) ?_
            obtain ⟨y118, hy118, H⟩ := bnd H
            refine Tr.call0 (r := (.bool y118)) (wn rfl) rfl Tryd.call36 (evl_cons rfl (evl_cons rfl (evl_cons rfl evl_nil))) (fun W hW => F_plot_within_ok p1.NX 1 100 y118 hy118 (HF.start _)) ?_
            refine Tr.va rfl (fun _ _ h1 h2 => run_not (h1.ev rfl)) ?_
            refine Tr.mv rfl rfl ?_
            obtain ⟨g120, hg120, H⟩ := bnd H
            refine Tr.mid0 5 [(2, (iv p2)), (4, (.pointer (some ⟨b101, 0, none⟩))), (111, (.bool g120))] [(1, bx b100 #[(iv p0.Unit), (.slice Ap0_0 (p0.Tools).length cp0_0), (.slice Ap0_1 (p0.Steps).length cp0_1)] 25), (2, bx b101 #[(iv p1.Kind), (sv p1.Name), (iv p1.At.X), (iv p1.At.Y), (.slice Ap1_0 (p1.Points).length cp1_0), (iv p1.NX), (iv p1.NY), (.slice Ap1_1 (p1.Steps).length cp1_1)] 46), (3, bx b104 #[(.bool y103.name), (.bool y103.at_), (.bool y103.points), (.bool y103.repeat_)] 42)] ?_ ?_
            ·cases hg121 : (!y118)
             ·rw [hg121] at hg120
              rw [if_neg (by decide)] at hg120
              have H := hg120
              refine Tr.val (wg rfl rfl rfl) rfl (fun _ _ h1 h2 => run_fieldAddr fo_46_5 (h1.ev rfl)) ?_
              refine Tr.val (wg rfl rfl rfl) rfl (fun _ _ h1 h2 => run_load1 ag_3 (h1.ev rfl) (rdb h2 (vs := [(iv p1.Kind), (sv p1.Name), (iv p1.At.X), (iv p1.At.Y), (.slice Ap1_0 (p1.Points).length cp1_0), (iv p1.NX), (iv p1.NY), (.slice Ap1_1 (p1.Steps).length cp1_1)]) (k := 2) rfl 6) rfl) ?_
              obtain ⟨y121, hy121, H⟩ := bnd H
              refine Tr.call0 (r := (.bool y121)) (wg rfl rfl rfl) rfl Tryd.call36 (evl_cons rfl (evl_cons rfl (evl_cons rfl evl_nil))) (fun W hW => F_plot_within_ok p1.NY 1 100 y121 hy121 (HF.start _)) ?_
              refine Tr.val (wg rfl rfl rfl) rfl (fun _ _ h1 h2 => run_not (h1.ev rfl)) ?_
              refine Tr.va rfl (fun _ _ h1 h2 => run_pickF (h1.ev rfl) (h1.ev rfl)) ?_
              obtain rfl := Option.some.inj H
              exact Tr.nil (Tr.fin0 (.cons rfl (.cons rfl (.cons rfl .nil))) (.cons rfl (.cons rfl (.cons rfl .nil))))
             ·rw [hg121] at hg120
              rw [if_pos rfl] at hg120
              have H := hg120
              obtain rfl := Option.some.inj H
              refine Tr.pass rfl rfl rfl rfl rfl (by decide) ?_
              refine Tr.pass rfl rfl rfl rfl rfl (by decide) ?_
              refine Tr.pass rfl rfl rfl rfl rfl (by decide) ?_
              refine Tr.pass rfl rfl rfl rfl rfl (by decide) ?_
              refine Tr.va rfl (fun _ _ h1 h2 => run_pickT (h1.ev rfl) (h1.ev rfl)) ?_
              exact Tr.nil (Tr.fin0 (.cons rfl (.cons rfl (.cons rfl .nil))) (.cons rfl (.cons rfl (.cons rfl .nil))))
            ·show Tr _ _ (LF [(2, (iv p2)), (4, (.pointer (some ⟨b101, 0, none⟩))), (111, (.bool g120))]) (LE [(1, bx b100 #[(iv p0.Unit), (.slice Ap0_0 (p0.Tools).length cp0_0), (.slice Ap0_1 (p0.Steps).length cp0_1)] 25), (2, bx b101 #[(iv p1.Kind), (sv p1.Name), (iv p1.At.X), (iv p1.At.Y), (.slice Ap1_0 (p1.Points).length cp1_0), (iv p1.NX), (iv p1.NY), (.slice Ap1_1 (p1.Steps).length cp1_1)] 46), (3, bx b104 #[(.bool y103.name), (.bool y103.at_), (.bool y103.points), (.bool y103.repeat_)] 42)]) _
             refine Tr.asg rfl rfl ?_
             refine Tr.nil (Tr.normThen ?_)
             refine Tr.cond rfl H (fun H => ?_) (fun H => ?_)
             ·refine Tr.sr ?_
              refine Tr.asg rfl rfl ?_
              refine Tr.nil (Tr.normThen ?_)
              refine Tr.ret (Tr.retBlock (Tr.retThen ?_))
              obtain rfl := Option.some.inj H
              exact Tr.out (m := [(iv 1)]) [] (res_tmp rfl res_nil) (fun W hW => ⟨rfl, hW.low leB⟩)
             ·refine Tr.sr ?_
              refine Tr.va rfl (fun _ _ h1 h2 => run_fieldAddr fo_46_6 (h1.ev rfl)) ?_
              refine Tr.va rfl (fun _ _ h1 h2 => run_load1 ag_23 (h1.ev rfl) (rdb h2 (vs := [(iv p1.Kind), (sv p1.Name), (iv p1.At.X), (iv p1.At.Y), (.slice Ap1_0 (p1.Points).length cp1_0), (iv p1.NX), (iv p1.NY), (.slice Ap1_1 (p1.Steps).length cp1_1)]) (k := 2) rfl 7) rfl) ?_
              refine Tr.va rfl (fun _ _ h1 h2 => run_len un_23 (h1.ev rfl)) ?_
              refine Tr.va rfl (fun _ _ h1 h2 => run_eql (h1.ev rfl) (h1.ev rfl)) ?_
              refine Tr.asg rfl rfl ?_
              refine Tr.nil (Tr.normThen ?_)
              refine Tr.cond rfl H (fun H => ?_) (fun H => ?_)
              ·refine Tr.sr ?_
               refine Tr.asg rfl rfl ?_
               refine Tr.nil (Tr.normThen ?_)
               refine Tr.ret (Tr.retBlock (Tr.retThen ?_))
               obtain rfl := Option.some.inj H
               exact Tr.out (m := [(iv 9)]) [] (res_tmp rfl res_nil) (fun W hW => ⟨rfl, hW.low leB⟩)
              ·refine Tr.sr ?_
               refine Tr.mv rfl rfl ?_
               refine Tr.va rfl (fun _ _ h1 h2 => run_geq (h1.ev rfl) (h1.ev rfl)) ?_
               refine Tr.asg rfl rfl ?_
               refine Tr.nil (Tr.normThen ?_)
               refine Tr.cond rfl H (fun H => ?_) (fun H => ?_)
               ·refine Tr.sr ?_
                refine Tr.asg rfl rfl ?_
                refine Tr.nil (Tr.normThen ?_)
                refine Tr.ret (Tr.retBlock (Tr.retThen ?_))
                obtain rfl := Option.some.inj H
                exact Tr.out (m := [(iv 2)]) [] (res_tmp rfl res_nil) (fun W hW => ⟨rfl, hW.low leB⟩)
               ·refine Tr.skip (Tr.normBlock (Tr.normThen ?_))
                refine Tr.sr ?_
                refine Tr.asg rfl rfl ?_
                refine Tr.nil (Tr.normThen ?_)
                refine Tr.ret ?_
                obtain rfl := Option.some.inj H
                exact Tr.out (m := [(iv 0)]) [] (res_tmp rfl res_nil) (fun W hW => ⟨rfl, hW.low leB⟩)

theorem F_plot_checkSteps_b_ok (N : Nat) (rec : TPlot → (List TPlotStep) → Int → Option Int) (hrec : ∀ {w : Bs} (p0 : TPlot) (Ap0_0 : Option Addr) (cp0_0 : Nat) (hp0_0 : Sl w.R w.W fl_TPlotTool Ap0_0 cp0_0 p0.Tools) (Ap0_1 : Option Addr) (cp0_1 : Nat) (hp0_1 : Sl w.R w.W fl_TPlotStep Ap0_1 cp0_1 p0.Steps) (p1 : (List TPlotStep)) (Ap1_0 : Option Addr) (cp1_0 : Nat) (hp1_0 : Sl w.R w.W fl_TPlotStep Ap1_0 cp1_0 p1) (p2 : Int) (r : Int) (H : rec p0 p1 p2 = some r) (hE : HF w w.W E0), Calls Tryd.prog 39 [(.agg #[(iv p0.Unit), (.slice Ap0_0 (p0.Tools).length cp0_0), (.slice Ap0_1 (p0.Steps).length cp0_1)]), (.slice Ap1_0 (p1).length cp1_0), (iv p2)].toArray w.W fun e W' => e = .returned (iv r) ∧ HF w W' E0) {w : Bs} (p0 : TPlot) (Ap0_0 : Option Addr) (cp0_0 : Nat) (hp0_0 : Sl w.R w.W fl_TPlotTool Ap0_0 cp0_0 p0.Tools) (Ap0_1 : Option Addr) (cp0_1 : Nat) (hp0_1 : Sl w.R w.W fl_TPlotStep Ap0_1 cp0_1 p0.Steps) (p1 : (List TPlotStep)) (Ap1_0 : Option Addr) (cp1_0 : Nat) (hp1_0 : Sl w.R w.W fl_TPlotStep Ap1_0 cp1_0 p1) (p2 : Int) (r : Int) (H : F_plot_checkSteps_b N rec p0 p1 p2 = some r) (hE : HF w w.W E0) : Calls Tryd.prog 39 [(.agg #[(iv p0.Unit), (.slice Ap0_0 (p0.Tools).length cp0_0), (.slice Ap0_1 (p0.Steps).length cp0_1)]), (.slice Ap1_0 (p1).length cp1_0), (iv p2)].toArray w.W fun e W' => e = .returned (iv r) ∧ HF w W' E0 := by
 unfold F_plot_checkSteps_b at H
 have leB := Bs.Le.refl w
 refine Tr.enter (n := 34) Tryd.func39 rfl rfl rfl hE ?_
 refine Tr.sr ?_
 refine Tr.box 1 (cs := [(iv p0.Unit), (.slice Ap0_0 (p0.Tools).length cp0_0), (.slice Ap0_1 (p0.Steps).length cp0_1)]) (wn rfl) rfl rfl rfl fun b100 => ?_
 refine Tr.asg rfl rfl ?_
 refine Tr.nil (Tr.normThen ?_)
 refine Tr.seq ?_
 refine Tr.sr ?_
 refine Tr.mv rfl rfl ?_
 refine Tr.va rfl (fun _ _ h1 h2 => run_len un_23 (h1.ev rfl)) ?_
 refine Tr.mv rfl rfl ?_
 refine Tr.nil (Tr.normThen ?_)
 refine Tr.block ?_
 refine Tr.loop (σ := (List TPlotStep) × Nat) (fun m w s => m = s.1.length + 1 ∧ s.1 = List.drop s.2 p1 ∧ s.2 ≤ p1.length ∧ F_plot_checkSteps_L1 p0 p2 rec s.1 s.2 = some r) (fun s => [(2, (iv p2)), (3, (.pointer (some ⟨b100, 0, none⟩))), (11, (.slice Ap1_0 (p1).length cp1_0)), (12, (iv (p1.length : Int))), (13, (iv (s.2 : Int)))]) (fun s => [(1, bx b100 #[(iv p0.Unit), (.slice Ap0_0 (p0.Tools).length cp0_0), (.slice Ap0_1 (p0.Steps).length cp0_1)] 25)]) (p1.length + 1) (p1, 0) ⟨rfl, rfl, Nat.zero_le _, H⟩ (.cons rfl (.cons rfl (.cons rfl (.cons rfl (.cons rfl .nil))))) (.cons rfl .nil) (fun _ _ h => absurd h.1 (by simp)) ?_
 intro w leL1 m s hs
 obtain ⟨restL1, iL1⟩ := s
 obtain ⟨hmL1, hdL1, hiL1, H⟩ := hs
 replace hdL1 : restL1 = List.drop iL1 p1 := hdL1
 replace H : F_plot_checkSteps_L1 p0 p2 rec restL1 iL1 = some r := H
 replace hmL1 : m + 1 = restL1.length + 1 := hmL1
 replace hp0_0 := hp0_0.leR leL1
 replace hp0_1 := hp0_1.leR leL1
 replace hp1_0 := hp1_0.leR leL1
 replace leB := leB.trans leL1
 obtain rfl : m = restL1.length := by omega
 clear hmL1
 show Tr _ _ (LF [(2, (iv p2)), (3, (.pointer (some ⟨b100, 0, none⟩))), (11, (.slice Ap1_0 (p1).length cp1_0)), (12, (iv (p1.length : Int))), (13, (iv (iL1 : Int)))]) (LE [(1, bx b100 #[(iv p0.Unit), (.slice Ap0_0 (p0.Tools).length cp0_0), (.slice Ap0_1 (p0.Steps).length cp0_1)] 25)]) _
 cases restL1 with
 | nil =>
  rw [F_plot_checkSteps_L1.eq_1] at H
  refine Tr.sr ?_
  refine Tr.va rfl (fun _ _ h1 h2 => run_lss (h1.ev rfl) (h1.ev rfl)) ?_
  refine Tr.nil (Tr.normThen ?_)
  refine Tr.seq ?_
  refine Tr.condF rfl (range_nil hdL1) ?_
  refine Tr.exit (Tr.exitThen (Tr.exitThen (Tr.exitBlock (Tr.normThen ?_))))
  refine Tr.sr ?_
  refine Tr.asg rfl rfl ?_
  refine Tr.nil (Tr.normThen ?_)
  refine Tr.ret ?_
  obtain rfl := Option.some.inj H
  exact Tr.out (m := [(iv 0)]) [] (res_tmp rfl res_nil) (fun W hW => ⟨rfl, hW.low leB⟩)
 | cons xL1 restL1 =>
  rw [F_plot_checkSteps_L1.eq_2] at H
  refine Tr.sr ?_
  refine Tr.va rfl (fun _ _ h1 h2 => run_lss (h1.ev rfl) (h1.ev rfl)) ?_
  refine Tr.nil (Tr.normThen ?_)
  refine Tr.seq ?_
  refine Tr.condT rfl (range_on hdL1) ?_
  refine Tr.skip (Tr.normThen ?_)
  refine Tr.seq ?_
  refine Tr.block ?_
  refine Tr.sr ?_
  obtain ⟨u107, hRu107, hoku107, hcu107⟩ := (hp1_0).el (range_at hdL1)
  obtain ⟨⟨Au107_0, cu107_0⟩, ⟨Au107_1, cu107_1⟩⟩ := u107
  obtain ⟨hoku107_0, hoku107_1⟩ := TPlotStep_ok.1 hoku107
  replace hoku107_0 : Sl w.R w.W fl_TPoint Au107_0 cu107_0 xL1.Points := hoku107_0
  replace hoku107_1 : Sl w.R w.W fl_TPlotStep Au107_1 cu107_1 xL1.Steps := hoku107_1
  refine Tr.va rfl (fun _ _ h1 h2 => run_indexAddr el_23 (h1.ev rfl) hp1_0.form (h1.ev rfl) (Int.natCast_nonneg _) (range_lt hdL1)) ?_
  refine Tr.va rfl (fun _ _ h1 h2 => run_loadN (cs := [(iv xL1.Kind), (sv xL1.Name), (iv xL1.At.X), (iv xL1.At.Y), (.slice Au107_0 (xL1.Points).length cu107_0), (iv xL1.NX), (iv xL1.NY), (.slice Au107_1 (xL1.Steps).length cu107_1)]) ag_46 sz_46 (h1.ev rfl) (CellsAt.take (rdR hRu107 hcu107 h2) 8) rfl) ?_
  refine Tr.alloc 3 (wn rfl) rfl ze_46 fun b108 => ?_
  refine Tr.store 3 (cs := [(iv xL1.Kind), (sv xL1.Name), (iv xL1.At.X), (iv xL1.At.Y), (.slice Au107_0 (xL1.Points).length cu107_0), (iv xL1.NX), (iv xL1.NY), (.slice Au107_1 (xL1.Steps).length cu107_1)]) [(iv xL1.Kind), (sv xL1.Name), (iv xL1.At.X), (iv xL1.At.Y), (.slice Au107_0 (xL1.Points).length cu107_0), (iv xL1.NX), (iv xL1.NY), (.slice Au107_1 (xL1.Steps).length cu107_1)] (wn rfl) rfl rfl rfl rfl sz_46 rfl rfl rfl ?_
  refine Tr.nil (Tr.normThen ?_)
  refine Tr.seq ?_
  refine Tr.sr ?_
  refine Tr.va rfl (fun _ _ h1 h2 => run_loadN (cs := [(iv p0.Unit), (.slice Ap0_0 (p0.Tools).length cp0_0), (.slice Ap0_1 (p0.Steps).length cp0_1)]) ag_25 sz_25 (h1.ev rfl) (CellsAt.take (rdb h2 (vs := [(iv p0.Unit), (.slice Ap0_0 (p0.Tools).length cp0_0), (.slice Ap0_1 (p0.Steps).length cp0_1)]) (k := 1) rfl 0) 3) rfl) ?_
  refine Tr.va rfl (fun _ _ h1 h2 => run_loadN (cs := [(iv xL1.Kind), (sv xL1.Name), (iv xL1.At.X), (iv xL1.At.Y), (.slice Au107_0 (xL1.Points).length cu107_0), (iv xL1.NX), (iv xL1.NY), (.slice Au107_1 (xL1.Steps).length cu107_1)]) ag_46 sz_46 (h1.ev rfl) (CellsAt.take (rdb h2 (vs := [(iv xL1.Kind), (sv xL1.Name), (iv xL1.At.X), (iv xL1.At.Y), (.slice Au107_0 (xL1.Points).length cu107_0), (iv xL1.NX), (iv xL1.NY), (.slice Au107_1 (xL1.Steps).length cu107_1)]) (k := 3) rfl 0) 8) rfl) ?_
  refine Tr.mv rfl rfl ?_
  obtain ⟨y109, hy109, H⟩ := bnd H
  refine Tr.call0 (r := (iv y109)) (wn rfl) rfl Tryd.call67 (evl_cons rfl (evl_cons rfl (evl_cons rfl evl_nil))) (fun W hW => F_plot_checkStep_ok p0 Ap0_0 cp0_0 (hp0_0.ext hW.extAll) Ap0_1 cp0_1 (hp0_1.ext hW.extAll) xL1 Au107_0 cu107_0 (hoku107_0.ext hW.extAll) Au107_1 cu107_1 (hoku107_1.ext hW.extAll) p2 y109 hy109 (HF.start _)) ?_
  refine Tr.asg rfl rfl ?_
  refine Tr.nil (Tr.normThen ?_)
  refine Tr.sr ?_
  refine Tr.mv rfl rfl ?_
  refine Tr.va rfl (fun _ _ h1 h2 => run_neq (h1.ev rfl) (h1.ev rfl)) ?_
  refine Tr.nil (Tr.normThen ?_)
  refine Tr.cond rfl H (fun H => ?_) (fun H => ?_)
  ·refine Tr.sr ?_
   refine Tr.mv rfl rfl ?_
   refine Tr.asg rfl rfl ?_
   refine Tr.nil (Tr.normThen ?_)
   refine Tr.ret (Tr.retThen (Tr.retBlock (Tr.retThen (Tr.retThen (Tr.retBlock (Tr.retThen ?_))))))
   obtain rfl := Option.some.inj H
   exact Tr.out (m := [(iv y109)]) [] (res_tmp rfl res_nil) (fun W hW => ⟨rfl, hW.low leB⟩)
  ·refine Tr.skip (Tr.normThen ?_)
   refine Tr.sr ?_
   refine Tr.va rfl (fun _ _ h1 h2 => run_loadN (cs := [(iv p0.Unit), (.slice Ap0_0 (p0.Tools).length cp0_0), (.slice Ap0_1 (p0.Steps).length cp0_1)]) ag_25 sz_25 (h1.ev rfl) (CellsAt.take (rdb h2 (vs := [(iv p0.Unit), (.slice Ap0_0 (p0.Tools).length cp0_0), (.slice Ap0_1 (p0.Steps).length cp0_1)]) (k := 1) rfl 0) 3) rfl) ?_
   refine Tr.va rfl (fun _ _ h1 h2 => run_fieldAddr fo_46_6 (h1.ev rfl)) ?_
   refine Tr.va rfl (fun _ _ h1 h2 => run_load1 ag_23 (h1.ev rfl) (rdb h2 (vs := [(iv xL1.Kind), (sv xL1.Name), (iv xL1.At.X), (iv xL1.At.Y), (.slice Au107_0 (xL1.Points).length cu107_0), (iv xL1.NX), (iv xL1.NY), (.slice Au107_1 (xL1.Steps).length cu107_1)]) (k := 3) rfl 7) rfl) ?_
   refine Tr.mv rfl rfl ?_
   refine Tr.va rfl (fun _ _ h1 h2 => run_add (h1.ev rfl) (h1.ev rfl)) ?_
   obtain ⟨y110, hy110, H⟩ := bnd H
   refine Tr.call0 (r := (iv y110)) (wn rfl) rfl Tryd.call39 (evl_cons rfl (evl_cons rfl (evl_cons rfl evl_nil))) (fun W hW => hrec p0 Ap0_0 cp0_0 (hp0_0.ext hW.extAll) Ap0_1 cp0_1 (hp0_1.ext hW.extAll) xL1.Steps Au107_1 cu107_1 (hoku107_1.ext hW.extAll) (w64 (p2 + 1)) y110 hy110 (HF.start _)) ?_
   refine Tr.asg rfl rfl ?_
   refine Tr.nil (Tr.normThen ?_)
   refine Tr.sr ?_
   refine Tr.mv rfl rfl ?_
   refine Tr.va rfl (fun _ _ h1 h2 => run_neq (h1.ev rfl) (h1.ev rfl)) ?_
   refine Tr.nil (Tr.normThen ?_)
   refine Tr.cond rfl H (fun H => ?_) (fun H => ?_)
   ·refine Tr.sr ?_
    refine Tr.mv rfl rfl ?_
    refine Tr.asg rfl rfl ?_
    refine Tr.nil (Tr.normThen ?_)
    refine Tr.ret (Tr.retBlock (Tr.retThen (Tr.retThen (Tr.retBlock (Tr.retThen ?_)))))
    obtain rfl := Option.some.inj H
    exact Tr.out (m := [(iv y110)]) [] (res_tmp rfl res_nil) (fun W hW => ⟨rfl, hW.low leB⟩)
   ·refine Tr.skip (Tr.normBlock (Tr.normThen ?_))
    refine Tr.region ?_
    refine Tr.va rfl (fun _ _ h1 h2 => run_add (h1.ev rfl) (h1.ev rfl)) ?_
    refine Tr.mv rfl rfl ?_
    refine Tr.nil ?_
    exact Tr.backThen leL1 (restL1, (iL1 + 1)) ⟨rfl, range_tl hdL1, range_lt hdL1, H⟩ (.cons rfl (.cons rfl (.cons rfl (.cons rfl (.cons (congrArg (fun z => some (Value.int .i64 z)) (range_up hdL1 hp1_0.form)) .nil))))) (.cons rfl .nil)
theorem F_plot_checkSteps_ok : ∀ (N : Nat) {w : Bs} (p0 : TPlot) (Ap0_0 : Option Addr) (cp0_0 : Nat) (hp0_0 : Sl w.R w.W fl_TPlotTool Ap0_0 cp0_0 p0.Tools) (Ap0_1 : Option Addr) (cp0_1 : Nat) (hp0_1 : Sl w.R w.W fl_TPlotStep Ap0_1 cp0_1 p0.Steps) (p1 : (List TPlotStep)) (Ap1_0 : Option Addr) (cp1_0 : Nat) (hp1_0 : Sl w.R w.W fl_TPlotStep Ap1_0 cp1_0 p1) (p2 : Int) (r : Int) (H : F_plot_checkSteps N p0 p1 p2 = some r) (hE : HF w w.W E0), Calls Tryd.prog 39 [(.agg #[(iv p0.Unit), (.slice Ap0_0 (p0.Tools).length cp0_0), (.slice Ap0_1 (p0.Steps).length cp0_1)]), (.slice Ap1_0 (p1).length cp1_0), (iv p2)].toArray w.W fun e W' => e = .returned (iv r) ∧ HF w W' E0
 | 0 => by intros; rename_i H _; cases H
 | N + 1 => F_plot_checkSteps_b_ok N (F_plot_checkSteps N) (F_plot_checkSteps_ok N)

theorem F_plot_CheckPlot_ok (N : Nat) {w : Bs} (p0 : TPlot) (Ap0_0 : Option Addr) (cp0_0 : Nat) (hp0_0 : Sl w.R w.W fl_TPlotTool Ap0_0 cp0_0 p0.Tools) (Ap0_1 : Option Addr) (cp0_1 : Nat) (hp0_1 : Sl w.R w.W fl_TPlotStep Ap0_1 cp0_1 p0.Steps) (r : Int) (H : F_plot_CheckPlot N p0 = some r) (hE : HF w w.W E0) : Calls Tryd.prog 10 [(.agg #[(iv p0.Unit), (.slice Ap0_0 (p0.Tools).length cp0_0), (.slice Ap0_1 (p0.Steps).length cp0_1)])].toArray w.W fun e W' => e = .returned (iv r) ∧ HF w W' E0 := by
 unfold F_plot_CheckPlot at H
 have leB := Bs.Le.refl w
 refine Tr.enter (n := 52) Tryd.func10 rfl rfl rfl hE ?_
 refine Tr.sr ?_
 refine Tr.box 1 (cs := [(iv p0.Unit), (.slice Ap0_0 (p0.Tools).length cp0_0), (.slice Ap0_1 (p0.Steps).length cp0_1)]) (wn rfl) rfl rfl rfl fun b100 => ?_
 refine Tr.asg rfl rfl ?_
 refine Tr.nil (Tr.normThen ?_)
 refine Tr.seq ?_
 refine Tr.sr ?_
 refine Tr.va rfl (fun _ _ h1 h2 => run_fieldAddr fo_25_0 (h1.ev rfl)) ?_
 refine Tr.va rfl (fun _ _ h1 h2 => run_load1 ag_3 (h1.ev rfl) (rdb h2 (vs := [(iv p0.Unit), (.slice Ap0_0 (p0.Tools).length cp0_0), (.slice Ap0_1 (p0.Steps).length cp0_1)]) (k := 1) rfl 0) rfl) ?_
 obtain ⟨y101, hy101, H⟩ := bnd H
 refine Tr.call0 (r := (.bool y101)) (wn rfl) rfl Tryd.call36 (evl_cons rfl (evl_cons rfl (evl_cons rfl evl_nil))) (fun W hW => F_plot_within_ok p0.Unit 1 1000 y101 hy101 (HF.start _)) ?_
 refine Tr.va rfl (fun _ _ h1 h2 => run_not (h1.ev rfl)) ?_
 refine Tr.nil (Tr.normThen ?_)
 refine Tr.cond rfl H (fun H => ?_) (fun H => ?_)
 ·refine Tr.sr ?_
  refine Tr.asg rfl rfl ?_
  refine Tr.nil (Tr.normThen ?_)
  refine Tr.ret (Tr.retThen ?_)
  obtain rfl := Option.some.inj H
  exact Tr.out (m := [(iv 1)]) [] (res_tmp rfl res_nil) (fun W hW => ⟨rfl, hW.low leB⟩)
 ·refine Tr.skip (Tr.normThen ?_)
  refine Tr.seq ?_
  refine Tr.sr ?_
  refine Tr.va rfl (fun _ _ h1 h2 => run_fieldAddr fo_25_1 (h1.ev rfl)) ?_
  refine Tr.va rfl (fun _ _ h1 h2 => run_load1 ag_22 (h1.ev rfl) (rdb h2 (vs := [(iv p0.Unit), (.slice Ap0_0 (p0.Tools).length cp0_0), (.slice Ap0_1 (p0.Steps).length cp0_1)]) (k := 1) rfl 1) rfl) ?_
  refine Tr.va rfl (fun _ _ h1 h2 => run_len un_22 (h1.ev rfl)) ?_
  refine Tr.va rfl (fun _ _ h1 h2 => run_gtr (h1.ev rfl) (h1.ev rfl)) ?_
  refine Tr.nil (Tr.normThen ?_)
  refine Tr.cond rfl H (fun H => ?_) (fun H => ?_)
  ·refine Tr.sr ?_
   refine Tr.asg rfl rfl ?_
   refine Tr.nil (Tr.normThen ?_)
   refine Tr.ret (Tr.retThen ?_)
   obtain rfl := Option.some.inj H
   exact Tr.out (m := [(iv 2)]) [] (res_tmp rfl res_nil) (fun W hW => ⟨rfl, hW.low leB⟩)
  ·refine Tr.skip (Tr.normThen ?_)
   refine Tr.seq ?_
   refine Tr.sr ?_
   refine Tr.va rfl (fun _ _ h1 h2 => run_fieldAddr fo_25_1 (h1.ev rfl)) ?_
   refine Tr.va rfl (fun _ _ h1 h2 => run_load1 ag_22 (h1.ev rfl) (rdb h2 (vs := [(iv p0.Unit), (.slice Ap0_0 (p0.Tools).length cp0_0), (.slice Ap0_1 (p0.Steps).length cp0_1)]) (k := 1) rfl 1) rfl) ?_
   refine Tr.va rfl (fun _ _ h1 h2 => run_len un_22 (h1.ev rfl)) ?_
   refine Tr.mv rfl rfl ?_
   refine Tr.nil (Tr.normThen ?_)
   refine Tr.block ?_
   refine Tr.loop (σ := (List TPlotTool) × Nat) (fun m w s => m = s.1.length + 1 ∧ s.1 = List.drop s.2 p0.Tools ∧ s.2 ≤ p0.Tools.length ∧ F_plot_CheckPlot_L1 N p0 s.1 s.2 = some r) (fun s => [(1, (.pointer (some ⟨b100, 0, none⟩))), (15, (.slice Ap0_0 (p0.Tools).length cp0_0)), (16, (iv (p0.Tools.length : Int))), (17, (iv (s.2 : Int)))]) (fun s => [(1, bx b100 #[(iv p0.Unit), (.slice Ap0_0 (p0.Tools).length cp0_0), (.slice Ap0_1 (p0.Steps).length cp0_1)] 25)]) (p0.Tools.length + 1) (p0.Tools, 0) ⟨rfl, rfl, Nat.zero_le _, H⟩ (.cons rfl (.cons rfl (.cons rfl (.cons rfl .nil)))) (.cons rfl .nil) (fun _ _ h => absurd h.1 (by simp)) ?_
   intro w leL1 m s hs
   obtain ⟨restL1, iL1⟩ := s
   obtain ⟨hmL1, hdL1, hiL1, H⟩ := hs
   replace hdL1 : restL1 = List.drop iL1 p0.Tools := hdL1
   replace H : F_plot_CheckPlot_L1 N p0 restL1 iL1 = some r := H
   replace hmL1 : m + 1 = restL1.length + 1 := hmL1
   replace hp0_0 := hp0_0.leR leL1
   replace hp0_1 := hp0_1.leR leL1
   replace leB := leB.trans leL1
   obtain rfl : m = restL1.length := by omega
   clear hmL1
   show Tr _ _ (LF [(1, (.pointer (some ⟨b100, 0, none⟩))), (15, (.slice Ap0_0 (p0.Tools).length cp0_0)), (16, (iv (p0.Tools.length : Int))), (17, (iv (iL1 : Int)))]) (LE [(1, bx b100 #[(iv p0.Unit), (.slice Ap0_0 (p0.Tools).length cp0_0), (.slice Ap0_1 (p0.Steps).length cp0_1)] 25)]) _
   cases restL1 with
   | nil =>
    rw [F_plot_CheckPlot_L1.eq_1] at H
    refine Tr.sr ?_
    refine Tr.va rfl (fun _ _ h1 h2 => run_lss (h1.ev rfl) (h1.ev rfl)) ?_
    refine Tr.nil (Tr.normThen ?_)
    refine Tr.seq ?_
    refine Tr.condF rfl (range_nil hdL1) ?_
    refine Tr.exit (Tr.exitThen (Tr.exitThen (Tr.exitBlock (Tr.normThen ?_))))
    refine Tr.seq ?_
    refine Tr.sr ?_
    refine Tr.va rfl (fun _ _ h1 h2 => run_fieldAddr fo_25_2 (h1.ev rfl)) ?_
    refine Tr.va rfl (fun _ _ h1 h2 => run_load1 ag_23 (h1.ev rfl) (rdb h2 (vs := [(iv p0.Unit), (.slice Ap0_0 (p0.Tools).length cp0_0), (.slice Ap0_1 (p0.Steps).length cp0_1)]) (k := 1) rfl 2) rfl) ?_
    obtain ⟨y112, hy112, H⟩ := bnd H
    refine Tr.call0 (r := (iv y112)) (wn rfl) rfl Tryd.call38 (evl_cons rfl evl_nil) (fun W hW => F_plot_count_ok N p0.Steps Ap0_1 cp0_1 (hp0_1.ext hW.extAll) y112 hy112 (HF.start _)) ?_
    refine Tr.va rfl (fun _ _ h1 h2 => run_gtr (h1.ev rfl) (h1.ev rfl)) ?_
    refine Tr.nil (Tr.normThen ?_)
    refine Tr.cond rfl H (fun H => ?_) (fun H => ?_)
    ·refine Tr.sr ?_
     refine Tr.asg rfl rfl ?_
     refine Tr.nil (Tr.normThen ?_)
     refine Tr.ret (Tr.retThen ?_)
     obtain rfl := Option.some.inj H
     exact Tr.out (m := [(iv 2)]) [] (res_tmp rfl res_nil) (fun W hW => ⟨rfl, hW.low leB⟩)
    ·refine Tr.skip (Tr.normThen ?_)
     refine Tr.sr ?_
     refine Tr.va rfl (fun _ _ h1 h2 => run_loadN (cs := [(iv p0.Unit), (.slice Ap0_0 (p0.Tools).length cp0_0), (.slice Ap0_1 (p0.Steps).length cp0_1)]) ag_25 sz_25 (h1.ev rfl) (CellsAt.take (rdb h2 (vs := [(iv p0.Unit), (.slice Ap0_0 (p0.Tools).length cp0_0), (.slice Ap0_1 (p0.Steps).length cp0_1)]) (k := 1) rfl 0) 3) rfl) ?_
     refine Tr.va rfl (fun _ _ h1 h2 => run_fieldAddr fo_25_2 (h1.ev rfl)) ?_
     refine Tr.va rfl (fun _ _ h1 h2 => run_load1 ag_23 (h1.ev rfl) (rdb h2 (vs := [(iv p0.Unit), (.slice Ap0_0 (p0.Tools).length cp0_0), (.slice Ap0_1 (p0.Steps).length cp0_1)]) (k := 1) rfl 2) rfl) ?_
     obtain ⟨y113, hy113, H⟩ := bnd H
     refine Tr.call0 (r := (iv y113)) (wn rfl) rfl Tryd.call39 (evl_cons rfl (evl_cons rfl (evl_cons rfl evl_nil))) (fun W hW => F_plot_checkSteps_ok N p0 Ap0_0 cp0_0 (hp0_0.ext hW.extAll) Ap0_1 cp0_1 (hp0_1.ext hW.extAll) p0.Steps Ap0_1 cp0_1 (hp0_1.ext hW.extAll) 0 y113 hy113 (HF.start _)) ?_
     refine Tr.asg rfl rfl ?_
     refine Tr.nil (Tr.normThen ?_)
     refine Tr.ret ?_
     obtain rfl := Option.some.inj H
     exact Tr.out (m := [(iv y113)]) [] (res_tmp rfl res_nil) (fun W hW => ⟨rfl, hW.low leB⟩)
   | cons xL1 restL1 =>
    rw [F_plot_CheckPlot_L1.eq_2] at H
    refine Tr.sr ?_
    refine Tr.va rfl (fun _ _ h1 h2 => run_lss (h1.ev rfl) (h1.ev rfl)) ?_
    refine Tr.nil (Tr.normThen ?_)
    refine Tr.seq ?_
    refine Tr.condT rfl (range_on hdL1) ?_
    refine Tr.skip (Tr.normThen ?_)
    refine Tr.seq ?_
    refine Tr.block ?_
    refine Tr.sr ?_
    refine Tr.mv rfl rfl ?_
    obtain ⟨u114, hRu114, hoku114, hcu114⟩ := (hp0_0).el (range_at hdL1)
    obtain ⟨Au114_0, cu114_0⟩ := u114
    have hoku114_0 := hoku114
    replace hoku114_0 : Sl w.R w.W fl_TRect Au114_0 cu114_0 xL1.Rects := hoku114_0
    refine Tr.va rfl (fun _ _ h1 h2 => run_indexAddr el_22 (h1.ev rfl) hp0_0.form (h1.ev rfl) (Int.natCast_nonneg _) (range_lt hdL1)) ?_
    refine Tr.va rfl (fun _ _ h1 h2 => run_loadN (cs := [(sv xL1.Name), (.slice Au114_0 (xL1.Rects).length cu114_0)]) ag_62 sz_62 (h1.ev rfl) (CellsAt.take (rdR hRu114 hcu114 h2) 2) rfl) ?_
    refine Tr.alloc 3 (wn rfl) rfl ze_62 fun b115 => ?_
    refine Tr.asg rfl rfl ?_
    refine Tr.store 3 (cs := [(sv xL1.Name), (.slice Au114_0 (xL1.Rects).length cu114_0)]) [(sv xL1.Name), (.slice Au114_0 (xL1.Rects).length cu114_0)] (wn rfl) rfl rfl rfl rfl sz_62 rfl rfl rfl ?_
    refine Tr.nil (Tr.normThen ?_)
    refine Tr.seq ?_
    refine Tr.sr ?_
    refine Tr.va rfl (fun _ _ h1 h2 => run_loadN (cs := [(sv xL1.Name), (.slice Au114_0 (xL1.Rects).length cu114_0)]) ag_62 sz_62 (h1.ev rfl) (CellsAt.take (rdb h2 (vs := [(sv xL1.Name), (.slice Au114_0 (xL1.Rects).length cu114_0)]) (k := 3) rfl 0) 2) rfl) ?_
    refine Tr.va rfl (fun _ _ h1 h2 => run_fieldAddr fo_25_0 (h1.ev rfl)) ?_
    refine Tr.va rfl (fun _ _ h1 h2 => run_load1 ag_3 (h1.ev rfl) (rdb h2 (vs := [(iv p0.Unit), (.slice Ap0_0 (p0.Tools).length cp0_0), (.slice Ap0_1 (p0.Steps).length cp0_1)]) (k := 1) rfl 0) rfl) ?_
    obtain ⟨y116, hy116, H⟩ := bnd H
    refine Tr.call0 (r := (iv y116)) (wn rfl) rfl Tryd.call37 (evl_cons rfl (evl_cons rfl evl_nil)) (fun W hW => F_plot_checkTool_ok N xL1 Au114_0 cu114_0 (hoku114_0.ext hW.extAll) p0.Unit y116 hy116 (HF.start _)) ?_
    refine Tr.asg rfl rfl ?_
    refine Tr.nil (Tr.normThen ?_)
    refine Tr.sr ?_
    refine Tr.mv rfl rfl ?_
    refine Tr.va rfl (fun _ _ h1 h2 => run_neq (h1.ev rfl) (h1.ev rfl)) ?_
    refine Tr.nil (Tr.normThen ?_)
    refine Tr.cond rfl H (fun H => ?_) (fun H => ?_)
    ·refine Tr.sr ?_
     refine Tr.mv rfl rfl ?_
     refine Tr.asg rfl rfl ?_
     refine Tr.nil (Tr.normThen ?_)
     refine Tr.ret (Tr.retThen (Tr.retBlock (Tr.retThen (Tr.retThen (Tr.retBlock (Tr.retThen ?_))))))
     obtain rfl := Option.some.inj H
     exact Tr.out (m := [(iv y116)]) [] (res_tmp rfl res_nil) (fun W hW => ⟨rfl, hW.low leB⟩)
    ·refine Tr.skip (Tr.normThen ?_)
     refine Tr.seq ?_
     refine Tr.draw (by kernel_rfl) (by kernel_rfl) ?_
     refine Tq.mv rfl rfl ?_
     refine Tq.va rfl (fun _ _ h1 h2 => run_gtr (h1.ev rfl) (h1.ev rfl)) ?_
     refine Tq.mv rfl rfl ?_
     obtain ⟨g119, hg119, H⟩ := bnd H
     refine Tq.mid 11 [(1, (.pointer (some ⟨b100, 0, none⟩))), (15, (.slice Ap0_0 (p0.Tools).length cp0_0)), (16, (iv (p0.Tools.length : Int))), (17, (iv (iL1 : Int))), (42, (.bool g119))] ?_ ?_
     ·cases hg121 : (decide (0 < (iL1 : Int)))
      ·rw [hg121] at hg119
       rw [if_neg (by decide)] at hg119
       have H := hg119
       obtain rfl := Option.some.inj H
       refine Tq.pass rfl rfl rfl rfl rfl (by decide) ?_
       refine Tq.pass rfl rfl rfl rfl rfl (by decide) ?_
       refine Tq.pass rfl rfl rfl rfl rfl (by decide) ?_
       refine Tq.pass rfl rfl rfl rfl rfl (by decide) ?_
       refine Tq.pass rfl rfl rfl rfl rfl (by decide) ?_
       refine Tq.pass rfl rfl rfl rfl rfl (by decide) ?_
       refine Tq.pass rfl rfl rfl rfl rfl (by decide) ?_
       refine Tq.pass rfl rfl rfl rfl rfl (by decide) ?_
       refine Tq.pass rfl rfl rfl rfl rfl (by decide) ?_
       refine Tq.pass rfl rfl rfl rfl rfl (by decide) ?_
       refine Tq.va rfl (fun _ _ h1 h2 => run_pickF (h1.ev rfl) (h1.ev rfl)) ?_
       exact Tq.fin (.cons rfl (.cons rfl (.cons rfl (.cons rfl (.cons rfl .nil)))))
      ·rw [hg121] at hg119
       rw [if_pos rfl] at hg119
       have H := hg119
       refine Tq.val (wg rfl rfl rfl) rfl (fun _ _ h1 h2 => run_fieldAddr fo_62_0 (h1.ev rfl)) ?_
       refine Tq.val (wg rfl rfl rfl) rfl (fun _ _ h1 h2 => run_load1 ag_9 (h1.ev rfl) (rdb h2 (vs := [(sv xL1.Name), (.slice Au114_0 (xL1.Rects).length cu114_0)]) (k := 3) rfl 0) rfl) ?_
       refine Tq.val (wg rfl rfl rfl) rfl (fun _ _ h1 h2 => run_fieldAddr fo_25_1 (h1.ev rfl)) ?_
       refine Tq.val (wg rfl rfl rfl) rfl (fun _ _ h1 h2 => run_load1 ag_22 (h1.ev rfl) (rdb h2 (vs := [(iv p0.Unit), (.slice Ap0_0 (p0.Tools).length cp0_0), (.slice Ap0_1 (p0.Steps).length cp0_1)]) (k := 1) rfl 1) rfl) ?_
       refine Tq.val (wg rfl rfl rfl) rfl (fun _ _ h1 h2 => run_move (h1.ev rfl)) ?_
       refine Tq.val (wg rfl rfl rfl) rfl (fun _ _ h1 h2 => run_sub (h1.ev rfl) (h1.ev rfl)) ?_
       obtain ⟨x120, hx120, H⟩ := bnd H
       obtain ⟨hx1200, hx1201, hx1202⟩ := idx_some hx120
       obtain ⟨u121, hRu121, hoku121, hcu121⟩ := (hp0_0).el hx1202
       obtain ⟨Au121_0, cu121_0⟩ := u121
       have hoku121_0 := hoku121
       replace hoku121_0 : Sl w.R w.W fl_TRect Au121_0 cu121_0 x120.Rects := hoku121_0
       refine Tq.val (wg rfl rfl rfl) rfl (fun _ _ h1 h2 => run_indexAddr el_22 (h1.ev rfl) hp0_0.form (h1.ev rfl) hx1200 hx1201) ?_
       refine Tq.val (wg rfl rfl rfl) rfl (fun _ _ h1 h2 => run_fieldAddr fo_62_0 (h1.ev rfl)) ?_
       refine Tq.val (wg rfl rfl rfl) rfl (fun _ _ h1 h2 => run_load1 ag_9 (h1.ev rfl) (CellsAt.drop (rdR hRu121 hcu121 h2) 0) rfl) ?_
       refine Tq.val (wg rfl rfl rfl) rfl (fun _ _ h1 h2 => run_leqS (h1.ev rfl) (h1.ev rfl)) ?_
       refine Tq.va rfl (fun _ _ h1 h2 => run_pickT (h1.ev rfl) (h1.ev rfl)) ?_
       obtain rfl := Option.some.inj H
       exact Tq.fin (.cons rfl (.cons rfl (.cons rfl (.cons rfl (.cons rfl .nil)))))
     ·refine Tq.nil (Tr.normThen ?_)
      refine Tr.cond rfl H (fun H => ?_) (fun H => ?_)
      ·refine Tr.sr ?_
       refine Tr.asg rfl rfl ?_
       refine Tr.nil (Tr.normThen ?_)
       refine Tr.ret (Tr.retBlock (Tr.retThen (Tr.retThen (Tr.retBlock (Tr.retThen ?_)))))
       obtain rfl := Option.some.inj H
       exact Tr.out (m := [(iv 8)]) [] (res_tmp rfl res_nil) (fun W hW => ⟨rfl, hW.low leB⟩)
      ·refine Tr.skip (Tr.normBlock (Tr.normThen ?_))
       refine Tr.region ?_
       refine Tr.va rfl (fun _ _ h1 h2 => run_add (h1.ev rfl) (h1.ev rfl)) ?_
       refine Tr.mv rfl rfl ?_
       refine Tr.nil ?_
       exact Tr.backThen leL1 (restL1, (iL1 + 1)) ⟨rfl, range_tl hdL1, range_lt hdL1, H⟩ (.cons rfl (.cons rfl (.cons rfl (.cons (congrArg (fun z => some (Value.int .i64 z)) (range_up hdL1 hp0_0.form)) .nil)))) (.cons rfl .nil)

theorem F_shape_within_ok {w : Bs} (p0 : Int) (p1 : Int) (p2 : Int) (r : Bool) (H : F_shape_within p0 p1 p2 = some r) (hE : HF w w.W E0) : Calls Tryd.prog 53 [(iv p0), (iv p1), (iv p2)].toArray w.W fun e W' => e = .returned (.bool r) ∧ HF w W' E0 := by
 unfold F_shape_within at H
 have leB := Bs.Le.refl w
 refine Tr.enter (n := 15) Tryd.func53 rfl rfl rfl hE ?_
 refine Tr.sr ?_
 refine Tr.asg rfl rfl ?_
 refine Tr.nil (Tr.normThen ?_)
 refine Tr.sr ?_
 refine Tr.mv rfl rfl ?_
 refine Tr.mv rfl rfl ?_
 refine Tr.va rfl (fun _ _ h1 h2 => run_geq (h1.ev rfl) (h1.ev rfl)) ?_
 refine Tr.mv rfl rfl ?_
 refine Tr.mid0 4 [(14, (.bool ((decide (p1 ≤ p0)) && (decide (p0 ≤ p2)))))] [] ?_ ?_
 ·cases hg99 : (decide (p1 ≤ p0))
  ·refine Tr.pass rfl rfl rfl rfl rfl (by decide) ?_
   refine Tr.pass rfl rfl rfl rfl rfl (by decide) ?_
   refine Tr.pass rfl rfl rfl rfl rfl (by decide) ?_
   refine Tr.va rfl (fun _ _ h1 h2 => run_pickF (h1.ev rfl) (h1.ev rfl)) ?_
   exact Tr.nil (Tr.fin0 (.cons rfl .nil) .nil)
  ·refine Tr.val (wg rfl rfl rfl) rfl (fun _ _ h1 h2 => run_move (h1.ev rfl)) ?_
   refine Tr.val (wg rfl rfl rfl) rfl (fun _ _ h1 h2 => run_move (h1.ev rfl)) ?_
   refine Tr.val (wg rfl rfl rfl) rfl (fun _ _ h1 h2 => run_leq (h1.ev rfl) (h1.ev rfl)) ?_
   refine Tr.va rfl (fun _ _ h1 h2 => run_pickT (h1.ev rfl) (h1.ev rfl)) ?_
   exact Tr.nil (Tr.fin0 (.cons rfl .nil) .nil)
 ·show Tr _ _ (LF [(14, (.bool ((decide (p1 ≤ p0)) && (decide (p0 ≤ p2)))))]) (LE []) _
  refine Tr.asg rfl rfl ?_
  refine Tr.nil (Tr.normThen ?_)
  refine Tr.ret ?_
  obtain rfl := Option.some.inj H
  exact Tr.out (m := [(.bool ((decide (p1 ≤ p0)) && (decide (p0 ≤ p2))))]) [] (res_tmp rfl res_nil) (fun W hW => ⟨rfl, hW.low leB⟩)

theorem F_shape_IsAt_ok {w : Bs} (p0 : Int) (r : Bool) (H : F_shape_IsAt p0 = some r) (hE : HF w w.W E0) : Calls Tryd.prog 40 [(iv p0)].toArray w.W fun e W' => e = .returned (.bool r) ∧ HF w W' E0 := by
 unfold F_shape_IsAt at H
 have leB := Bs.Le.refl w
 refine Tr.enter (n := 5) Tryd.func40 rfl rfl rfl hE ?_
 refine Tr.sr ?_
 refine Tr.asg rfl rfl ?_
 refine Tr.nil (Tr.normThen ?_)
 refine Tr.sr ?_
 refine Tr.mv rfl rfl ?_
 obtain ⟨y100, hy100, H⟩ := bnd H
 refine Tr.call0 (r := (.bool y100)) (wn rfl) rfl Tryd.call53 (evl_cons rfl (evl_cons rfl (evl_cons rfl evl_nil))) (fun W hW => F_shape_within_ok p0 (-1000000) 1000000 y100 hy100 (HF.start _)) ?_
 refine Tr.asg rfl rfl ?_
 refine Tr.nil (Tr.normThen ?_)
 refine Tr.ret ?_
 obtain rfl := Option.some.inj H
 exact Tr.out (m := [(.bool y100)]) [] (res_tmp rfl res_nil) (fun W hW => ⟨rfl, hW.low leB⟩)

theorem F_shape_IsPoint_ok {w : Bs} (p0 : TPoint) (r : Bool) (H : F_shape_IsPoint p0 = some r) (hE : HF w w.W E0) : Calls Tryd.prog 11 [(.agg #[(iv p0.X), (iv p0.Y)])].toArray w.W fun e W' => e = .returned (.bool r) ∧ HF w W' E0 := by
 unfold F_shape_IsPoint at H
 have leB := Bs.Le.refl w
 refine Tr.enter (n := 11) Tryd.func11 rfl rfl rfl hE ?_
 refine Tr.sr ?_
 refine Tr.box 1 (cs := [(iv p0.X), (iv p0.Y)]) (wn rfl) rfl rfl rfl fun b100 => ?_
 refine Tr.asg rfl rfl ?_
 refine Tr.nil (Tr.normThen ?_)
 refine Tr.sr ?_
 refine Tr.va rfl (fun _ _ h1 h2 => run_fieldAddr fo_27_0 (h1.ev rfl)) ?_
 refine Tr.va rfl (fun _ _ h1 h2 => run_load1 ag_3 (h1.ev rfl) (rdb h2 (vs := [(iv p0.X), (iv p0.Y)]) (k := 1) rfl 0) rfl) ?_
 obtain ⟨y101, hy101, H⟩ := bnd H
 refine Tr.call0 (r := (.bool y101)) (wn rfl) rfl Tryd.call40 (evl_cons rfl evl_nil) (fun W hW => F_shape_IsAt_ok p0.X y101 hy101 (HF.start _)) ?_
 refine Tr.mv rfl rfl ?_
 obtain ⟨g103, hg103, H⟩ := bnd H
 refine Tr.mid0 4 [(10, (.bool g103))] [(1, bx b100 #[(iv p0.X), (iv p0.Y)] 27)] ?_ ?_
 ·cases hg104 : y101
  ·rw [hg104] at hg103
   rw [if_neg (by decide)] at hg103
   have H := hg103
   obtain rfl := Option.some.inj H
   refine Tr.pass rfl rfl rfl rfl rfl (by decide) ?_
   refine Tr.pass rfl rfl rfl rfl rfl (by decide) ?_
   refine Tr.pass rfl rfl rfl rfl rfl (by decide) ?_
   refine Tr.va rfl (fun _ _ h1 h2 => run_pickF (h1.ev rfl) (h1.ev rfl)) ?_
   exact Tr.nil (Tr.fin0 (.cons rfl .nil) (.cons rfl .nil))
  ·rw [hg104] at hg103
   rw [if_pos rfl] at hg103
   have H := hg103
   refine Tr.val (wg rfl rfl rfl) rfl (fun _ _ h1 h2 => run_fieldAddr fo_27_1 (h1.ev rfl)) ?_
   refine Tr.val (wg rfl rfl rfl) rfl (fun _ _ h1 h2 => run_load1 ag_3 (h1.ev rfl) (rdb h2 (vs := [(iv p0.X), (iv p0.Y)]) (k := 1) rfl 1) rfl) ?_
   obtain ⟨y104, hy104, H⟩ := bnd H
   refine Tr.call0 (r := (.bool y104)) (wg rfl rfl rfl) rfl Tryd.call40 (evl_cons rfl evl_nil) (fun W hW => F_shape_IsAt_ok p0.Y y104 hy104 (HF.start _)) ?_
   refine Tr.va rfl (fun _ _ h1 h2 => run_pickT (h1.ev rfl) (h1.ev rfl)) ?_
   obtain rfl := Option.some.inj H
   exact Tr.nil (Tr.fin0 (.cons rfl .nil) (.cons rfl .nil))
 ·show Tr _ _ (LF [(10, (.bool g103))]) (LE [(1, bx b100 #[(iv p0.X), (iv p0.Y)] 27)]) _
  refine Tr.asg rfl rfl ?_
  refine Tr.nil (Tr.normThen ?_)
  refine Tr.ret ?_
  obtain rfl := Option.some.inj H
  exact Tr.out (m := [(.bool g103)]) [] (res_tmp rfl res_nil) (fun W hW => ⟨rfl, hW.low leB⟩)

theorem F_plot_Moved_1_ok {w : Bs} (p0 : TPlotStep) (Ap0_0 : Option Addr) (cp0_0 : Nat) (Ap0_1 : Option Addr) (cp0_1 : Nat) (hp0_1 : Sl w.R w.W fl_TPlotStep Ap0_1 cp0_1 p0.Steps) (Ae0 : Option Addr) (ce0 : Nat) (le0 : List TPlotStep) (ie0 : Nat) (hi0 : ie0 < le0.length) (q0 : Int) (bq0 : Nat) (hb0 : w.R bq0) (hc0 : CellsAt w.W bq0 0 [(iv q0)]) (q1 : Int) (bq1 : Nat) (hb1 : w.R bq1) (hc1 : CellsAt w.W bq1 0 [(iv q1)]) (r : (Int × Int × (List TPoint))) (H : F_plot_Moved_1 p0 q0 q1 = some r) (hE : HF w w.W (LEn [ow Ae0 ce0 46 (mix fl_TPlotStep) (mixL le0 ie0 (raw fl_TPlotStep [(iv p0.Kind), (sv p0.Name), (iv p0.At.X), (iv p0.At.Y), (.slice Ap0_0 (p0.Points).length cp0_0), (iv p0.NX), (iv p0.NY), (.slice Ap0_1 (p0.Steps).length cp0_1)] rfl rfl)), ow Ap0_0 cp0_0 27 fl_TPoint p0.Points])) : Calls Tryd.prog 13 [(.pointer (some ⟨adB Ae0, adO Ae0 + ie0 * 8, none⟩)), (.pointer (some ⟨bq0, 0, none⟩)), (.pointer (some ⟨bq1, 0, none⟩))].toArray w.W fun e W' => ∃ (w' : Bs) (u : Unit), w.Le w' ∧ e = .returned (.tuple #[]) ∧ ((r.2.2).length = (p0.Points).length) ∧ HF w' W' (LEn [ow Ae0 ce0 46 (mix fl_TPlotStep) (mixL le0 ie0 (raw fl_TPlotStep [(iv p0.Kind), (sv p0.Name), (iv r.1), (iv r.2.1), (.slice Ap0_0 (r.2.2).length cp0_0), (iv p0.NX), (iv p0.NY), (.slice Ap0_1 (p0.Steps).length cp0_1)] rfl rfl)), ow Ap0_0 cp0_0 27 fl_TPoint r.2.2]) := by
 unfold F_plot_Moved_1 at H
 have hfhp0_0 := (hE.sl (k := 1) rfl).form
 have leB := Bs.Le.refl w
 refine Tr.enter (n := 69) Tryd.func13 rfl rfl rfl hE ?_
 have leJ103 := Bs.Le.refl w
 refine Tr.cutJ (σ := Int × Int) (fun w s => F_plot_Moved_1_J2 p0 q0 q1 s.1 s.2 = some r) (fun s => [(0, (.pointer (some ⟨adB Ae0, adO Ae0 + ie0 * 8, none⟩))), (1, (.pointer (some ⟨bq0, 0, none⟩))), (2, (.pointer (some ⟨bq1, 0, none⟩)))]) (fun s => [(0, ow Ae0 ce0 46 (mix fl_TPlotStep) (mixL le0 ie0 (raw fl_TPlotStep [(iv p0.Kind), (sv p0.Name), (iv s.1), (iv s.2), (.slice Ap0_0 (p0.Points).length cp0_0), (iv p0.NX), (iv p0.NY), (.slice Ap0_1 (p0.Steps).length cp0_1)] rfl rfl))), (1, ow Ap0_0 cp0_0 27 fl_TPoint p0.Points)]) ?_ ?_
 ·refine Tr.sr ?_
  refine Tr.mv rfl rfl ?_
  refine Tr.va rfl (fun _ _ h1 h2 => run_nilCheck (h1.ev rfl)) ?_
  refine Tr.va rfl (fun _ _ h1 h2 => run_fieldAddr fo_46_0 (h1.ev rfl)) ?_
  refine Tr.va rfl (fun _ _ h1 h2 => run_load1 ag_3 (h1.ev rfl) (rdm (cs := raw fl_TPlotStep [(iv p0.Kind), (sv p0.Name), (iv p0.At.X), (iv p0.At.Y), (.slice Ap0_0 (p0.Points).length cp0_0), (iv p0.NX), (iv p0.NY), (.slice Ap0_1 (p0.Steps).length cp0_1)] rfl rfl) h2 (κ := 0) rfl hi0) rfl) ?_
  obtain ⟨y130, hy130, H⟩ := bnd H
  refine Tr.call0 (r := (.agg #[(.bool y130.name), (.bool y130.at_), (.bool y130.points), (.bool y130.repeat_)])) (wn rfl) rfl Tryd.call14 (evl_cons rfl evl_nil) (fun W hW => F_plot_fieldsOf_ok p0.Kind y130 hy130 (HF.start _)) ?_
  refine Tr.va rfl (fun _ _ h1 h2 => run_field1 fa_42_1 ag_4 (h1.ev rfl) rfl) ?_
  refine Tr.mv rfl rfl ?_
  refine Tr.mid0 6 [(0, (.pointer (some ⟨adB Ae0, adO Ae0 + ie0 * 8, none⟩))), (1, (.pointer (some ⟨bq0, 0, none⟩))), (2, (.pointer (some ⟨bq1, 0, none⟩))), (17, (.bool (y130.at_ && (p0.Kind != 8))))] [(0, ow Ae0 ce0 46 (mix fl_TPlotStep) (mixL le0 ie0 (raw fl_TPlotStep [(iv p0.Kind), (sv p0.Name), (iv p0.At.X), (iv p0.At.Y), (.slice Ap0_0 (p0.Points).length cp0_0), (iv p0.NX), (iv p0.NY), (.slice Ap0_1 (p0.Steps).length cp0_1)] rfl rfl))), (1, ow Ap0_0 cp0_0 27 fl_TPoint p0.Points)] ?_ ?_
  ·cases hg130 : y130.at_
   ·refine Tr.pass rfl rfl rfl rfl rfl (by decide) ?_
    refine Tr.pass rfl rfl rfl rfl rfl (by decide) ?_
    refine Tr.pass rfl rfl rfl rfl rfl (by decide) ?_
    refine Tr.pass rfl rfl rfl rfl rfl (by decide) ?_
    refine Tr.pass rfl rfl rfl rfl rfl (by decide) ?_
    refine Tr.va rfl (fun _ _ h1 h2 => run_pickF (h1.ev rfl) (h1.ev rfl)) ?_
    exact Tr.nil (Tr.fin0 (.cons rfl (.cons rfl (.cons rfl (.cons rfl .nil)))) (.cons rfl (.cons rfl .nil)))
   ·refine Tr.val (wg rfl rfl rfl) rfl (fun _ _ h1 h2 => run_move (h1.ev rfl)) ?_
    refine Tr.val (wg rfl rfl rfl) rfl (fun _ _ h1 h2 => run_nilCheck (h1.ev rfl)) ?_
    refine Tr.val (wg rfl rfl rfl) rfl (fun _ _ h1 h2 => run_fieldAddr fo_46_0 (h1.ev rfl)) ?_
    refine Tr.val (wg rfl rfl rfl) rfl (fun _ _ h1 h2 => run_load1 ag_3 (h1.ev rfl) (rdm (cs := raw fl_TPlotStep [(iv p0.Kind), (sv p0.Name), (iv p0.At.X), (iv p0.At.Y), (.slice Ap0_0 (p0.Points).length cp0_0), (iv p0.NX), (iv p0.NY), (.slice Ap0_1 (p0.Steps).length cp0_1)] rfl rfl) h2 (κ := 0) rfl hi0) rfl) ?_
    refine Tr.val (wg rfl rfl rfl) rfl (fun _ _ h1 h2 => run_neq (h1.ev rfl) (h1.ev rfl)) ?_
    refine Tr.va rfl (fun _ _ h1 h2 => run_pickT (h1.ev rfl) (h1.ev rfl)) ?_
    exact Tr.nil (Tr.fin0 (.cons rfl (.cons rfl (.cons rfl (.cons rfl .nil)))) (.cons rfl (.cons rfl .nil)))
  ·show Tr _ _ (LF [(0, (.pointer (some ⟨adB Ae0, adO Ae0 + ie0 * 8, none⟩))), (1, (.pointer (some ⟨bq0, 0, none⟩))), (2, (.pointer (some ⟨bq1, 0, none⟩))), (17, (.bool (y130.at_ && (p0.Kind != 8))))]) (LE [(0, ow Ae0 ce0 46 (mix fl_TPlotStep) (mixL le0 ie0 (raw fl_TPlotStep [(iv p0.Kind), (sv p0.Name), (iv p0.At.X), (iv p0.At.Y), (.slice Ap0_0 (p0.Points).length cp0_0), (iv p0.NX), (iv p0.NY), (.slice Ap0_1 (p0.Steps).length cp0_1)] rfl rfl))), (1, ow Ap0_0 cp0_0 27 fl_TPoint p0.Points)]) _
   refine Tr.nil (Tr.normThen ?_)
   refine Tr.cond rfl H (fun H => ?_) (fun H => ?_)
   ·refine Tr.drawTail 16 (by kernel_rfl) (by kernel_rfl) ?_
    refine Tq.mv rfl rfl ?_
    refine Tq.mv rfl rfl ?_
    refine Tq.va rfl (fun _ _ h1 h2 => run_nilCheck (h1.ev rfl)) ?_
    refine Tq.va rfl (fun _ _ h1 h2 => run_fieldAddr fo_46_2 (h1.ev rfl)) ?_
    refine Tq.va rfl (fun _ _ h1 h2 => run_fieldAddr fo_27_0 (h1.ev rfl)) ?_
    refine Tq.va rfl (fun _ _ h1 h2 => run_load1 ag_3 (h1.ev rfl) (CellsAt.drop (rdm (cs := raw fl_TPlotStep [(iv p0.Kind), (sv p0.Name), (iv p0.At.X), (iv p0.At.Y), (.slice Ap0_0 (p0.Points).length cp0_0), (iv p0.NX), (iv p0.NY), (.slice Ap0_1 (p0.Steps).length cp0_1)] rfl rfl) h2 (κ := 0) rfl hi0) 2) rfl) ?_
    refine Tq.va rfl (fun _ _ h1 h2 => run_load1 ag_3 (h1.ev rfl) (rdR hb0 hc0 h2) rfl) ?_
    refine Tq.va rfl (fun _ _ h1 h2 => run_add (h1.ev rfl) (h1.ev rfl)) ?_
    refine Tq.mv rfl rfl ?_
    refine Tq.va rfl (fun _ _ h1 h2 => run_nilCheck (h1.ev rfl)) ?_
    refine Tq.va rfl (fun _ _ h1 h2 => run_fieldAddr fo_46_2 (h1.ev rfl)) ?_
    refine Tq.va rfl (fun _ _ h1 h2 => run_fieldAddr fo_27_1 (h1.ev rfl)) ?_
    refine Tq.va rfl (fun _ _ h1 h2 => run_load1 ag_3 (h1.ev rfl) (CellsAt.drop (rdm (cs := raw fl_TPlotStep [(iv p0.Kind), (sv p0.Name), (iv p0.At.X), (iv p0.At.Y), (.slice Ap0_0 (p0.Points).length cp0_0), (iv p0.NX), (iv p0.NY), (.slice Ap0_1 (p0.Steps).length cp0_1)] rfl rfl) h2 (κ := 0) rfl hi0) 3) rfl) ?_
    refine Tq.va rfl (fun _ _ h1 h2 => run_load1 ag_3 (h1.ev rfl) (rdR hb1 hc1 h2) rfl) ?_
    refine Tq.va rfl (fun _ _ h1 h2 => run_add (h1.ev rfl) (h1.ev rfl)) ?_
    refine Tq.build (vs := [(0, (iv (w64 (p0.At.X + q0)))), (1, (iv (w64 (p0.At.Y + q1))))]) (cs := [(iv (w64 (p0.At.X + q0))), (iv (w64 (p0.At.Y + q1)))]) (wn rfl) rfl (evs_cons rfl (evs_cons rfl evs_nil)) (by kernel_rfl) ?_
    refine Tq.nil ?_
    refine Tr.va rfl (fun _ _ h1 h2 => run_nilCheck (h1.ev rfl)) ?_
    refine Tr.va rfl (fun _ _ h1 h2 => run_fieldAddr fo_46_2 (h1.ev rfl)) ?_
    refine Tr.storeMix 0 (raw fl_TPlotStep [(iv p0.Kind), (sv p0.Name), (iv (w64 (p0.At.X + q0))), (iv (w64 (p0.At.Y + q1))), (.slice Ap0_0 (p0.Points).length cp0_0), (iv p0.NX), (iv p0.NY), (.slice Ap0_1 (p0.Steps).length cp0_1)] rfl rfl) (cs := [(iv (w64 (p0.At.X + q0))), (iv (w64 (p0.At.Y + q1)))]) (fo := 2) (wn rfl) rfl rfl rfl rfl rfl hi0 sz_27 rfl rfl rfl ?_
    refine Tr.nil ?_
    exact Tr.backThen leJ103 ((w64 (p0.At.X + q0)), (w64 (p0.At.Y + q1))) H (.cons rfl (.cons rfl (.cons rfl .nil))) (.cons rfl (.cons rfl .nil))
   ·refine Tr.skip ?_
    exact Tr.backThen leJ103 (p0.At.X, p0.At.Y) H (.cons rfl (.cons rfl (.cons rfl .nil))) (.cons rfl (.cons rfl .nil))
 ·intro w s hlJ104 hs
  obtain ⟨x101, x102⟩ := s
  have H := hs
  replace H : F_plot_Moved_1_J2 p0 q0 q1 x101 x102 = some r := H
  replace hc0 := hlJ104.ext.cells hb0 hc0
  replace hb0 := hlJ104.r _ hb0
  replace hc1 := hlJ104.ext.cells hb1 hc1
  replace hb1 := hlJ104.r _ hb1
  replace hp0_1 := hp0_1.leR hlJ104
  replace leB := leB.trans hlJ104
  unfold F_plot_Moved_1_J2 at H
  show Tr _ _ (LF [(0, (.pointer (some ⟨adB Ae0, adO Ae0 + ie0 * 8, none⟩))), (1, (.pointer (some ⟨bq0, 0, none⟩))), (2, (.pointer (some ⟨bq1, 0, none⟩)))]) (LE [(0, ow Ae0 ce0 46 (mix fl_TPlotStep) (mixL le0 ie0 (raw fl_TPlotStep [(iv p0.Kind), (sv p0.Name), (iv x101), (iv x102), (.slice Ap0_0 (p0.Points).length cp0_0), (iv p0.NX), (iv p0.NY), (.slice Ap0_1 (p0.Steps).length cp0_1)] rfl rfl))), (1, ow Ap0_0 cp0_0 27 fl_TPoint p0.Points)]) _
  refine Tr.sr ?_
  refine Tr.mv rfl rfl ?_
  refine Tr.va rfl (fun _ _ h1 h2 => run_nilCheck (h1.ev rfl)) ?_
  refine Tr.va rfl (fun _ _ h1 h2 => run_fieldAddr fo_46_3 (h1.ev rfl)) ?_
  refine Tr.va rfl (fun _ _ h1 h2 => run_load1 ag_44 (h1.ev rfl) (CellsAt.drop (rdm (cs := raw fl_TPlotStep [(iv p0.Kind), (sv p0.Name), (iv x101), (iv x102), (.slice Ap0_0 (p0.Points).length cp0_0), (iv p0.NX), (iv p0.NY), (.slice Ap0_1 (p0.Steps).length cp0_1)] rfl rfl) h2 (κ := 0) rfl hi0) 4) rfl) ?_
  refine Tr.va rfl (fun _ _ h1 h2 => run_len un_44 (h1.ev rfl)) ?_
  refine Tr.mv rfl rfl ?_
  refine Tr.nil (Tr.normThen ?_)
  refine Tr.block ?_
  refine Tr.loop (σ := (List TPoint) × Nat × (List TPoint)) (fun m w s => m = s.1.length + 1 ∧ s.1 = List.drop s.2.1 p0.Points ∧ s.2.1 ≤ p0.Points.length ∧ F_plot_Moved_1_L1 q0 q1 x101 x102 s.1 s.2.1 s.2.2 = some r ∧ (s.2.2).length = (p0.Points).length) (fun s => [(0, (.pointer (some ⟨adB Ae0, adO Ae0 + ie0 * 8, none⟩))), (1, (.pointer (some ⟨bq0, 0, none⟩))), (2, (.pointer (some ⟨bq1, 0, none⟩))), (40, (iv (p0.Points.length : Int))), (41, (iv (s.2.1 : Int)))]) (fun s => [(0, ow Ae0 ce0 46 (mix fl_TPlotStep) (mixL le0 ie0 (raw fl_TPlotStep [(iv p0.Kind), (sv p0.Name), (iv x101), (iv x102), (.slice Ap0_0 (s.2.2).length cp0_0), (iv p0.NX), (iv p0.NY), (.slice Ap0_1 (p0.Steps).length cp0_1)] rfl rfl))), (1, ow Ap0_0 cp0_0 27 fl_TPoint s.2.2)]) (p0.Points.length + 1) (p0.Points, 0, p0.Points) ⟨rfl, rfl, Nat.zero_le _, H, rfl⟩ (.cons rfl (.cons rfl (.cons rfl (.cons rfl (.cons rfl .nil))))) (.cons rfl (.cons rfl .nil)) (fun _ _ h => absurd h.1 (by simp)) ?_
  intro w leL1 m s hs
  obtain ⟨restL1, iL1, l123⟩ := s
  obtain ⟨hmL1, hdL1, hiL1, H, hl123⟩ := hs
  replace hdL1 : restL1 = List.drop iL1 p0.Points := hdL1
  replace H : F_plot_Moved_1_L1 q0 q1 x101 x102 restL1 iL1 l123 = some r := H
  replace hmL1 : m + 1 = restL1.length + 1 := hmL1
  replace hc0 := leL1.ext.cells hb0 hc0
  replace hb0 := leL1.r _ hb0
  replace hc1 := leL1.ext.cells hb1 hc1
  replace hb1 := leL1.r _ hb1
  replace hp0_1 := hp0_1.leR leL1
  replace leB := leB.trans leL1
  replace hl123 : (l123).length = (p0.Points).length := hl123
  have hfl123 : SlF Ap0_0 (l123).length cp0_0 := (by rw [hl123]; exact hfhp0_0)
  obtain rfl : m = restL1.length := by omega
  clear hmL1
  show Tr _ _ (LF [(0, (.pointer (some ⟨adB Ae0, adO Ae0 + ie0 * 8, none⟩))), (1, (.pointer (some ⟨bq0, 0, none⟩))), (2, (.pointer (some ⟨bq1, 0, none⟩))), (40, (iv (p0.Points.length : Int))), (41, (iv (iL1 : Int)))]) (LE [(0, ow Ae0 ce0 46 (mix fl_TPlotStep) (mixL le0 ie0 (raw fl_TPlotStep [(iv p0.Kind), (sv p0.Name), (iv x101), (iv x102), (.slice Ap0_0 (l123).length cp0_0), (iv p0.NX), (iv p0.NY), (.slice Ap0_1 (p0.Steps).length cp0_1)] rfl rfl))), (1, ow Ap0_0 cp0_0 27 fl_TPoint l123)]) _
  cases restL1 with
  | nil =>
   rw [F_plot_Moved_1_L1.eq_1] at H
   refine Tr.sr ?_
   refine Tr.va rfl (fun _ _ h1 h2 => run_lss (h1.ev rfl) (h1.ev rfl)) ?_
   refine Tr.nil (Tr.normThen ?_)
   refine Tr.seq ?_
   refine Tr.condF rfl (range_nil hdL1) ?_
   refine Tr.exit (Tr.exitThen (Tr.exitThen (Tr.exitBlock (Tr.offEnd ?_))))
   obtain rfl := Option.some.inj H
   exact Tr.out (m := []) [] res_nil (fun W hW => ⟨w, (), leB, rfl, hl123, hW.pick (ks := [0, 1]) (by decide) (pk_cons rfl (pk_cons rfl pk_nil))⟩)
  | cons xL1 restL1 =>
   rw [F_plot_Moved_1_L1.eq_2] at H
   refine Tr.sr ?_
   refine Tr.va rfl (fun _ _ h1 h2 => run_lss (h1.ev rfl) (h1.ev rfl)) ?_
   refine Tr.nil (Tr.normThen ?_)
   refine Tr.seq ?_
   refine Tr.condT rfl (range_on hdL1) ?_
   refine Tr.skip (Tr.normThen ?_)
   refine Tr.seq ?_
   refine Tr.block ?_
   refine Tr.sr ?_
   refine Tr.mv rfl rfl ?_
   refine Tr.asg rfl rfl ?_
   refine Tr.nil (Tr.normThen ?_)
   refine Tr.seq ?_
   refine Tr.drawTail 9 (by kernel_rfl) (by kernel_rfl) ?_
   refine Tq.mv rfl rfl ?_
   refine Tq.va rfl (fun _ _ h1 h2 => run_nilCheck (h1.ev rfl)) ?_
   refine Tq.va rfl (fun _ _ h1 h2 => run_fieldAddr fo_46_3 (h1.ev rfl)) ?_
   refine Tq.va rfl (fun _ _ h1 h2 => run_load1 ag_44 (h1.ev rfl) (CellsAt.drop (rdm (cs := raw fl_TPlotStep [(iv p0.Kind), (sv p0.Name), (iv x101), (iv x102), (.slice Ap0_0 (l123).length cp0_0), (iv p0.NX), (iv p0.NY), (.slice Ap0_1 (p0.Steps).length cp0_1)] rfl rfl) h2 (κ := 0) rfl hi0) 4) rfl) ?_
   refine Tq.mv rfl rfl ?_
   obtain ⟨x124, hx124, H⟩ := bnd H
   obtain ⟨hx1240, hx1241, hx1242⟩ := idx_some hx124
   refine Tq.va rfl (fun _ _ h1 h2 => run_indexAddr el_44 (h1.ev rfl) hfl123 (h1.ev rfl) hx1240 hx1241) ?_
   refine Tq.va rfl (fun _ _ h1 h2 => run_fieldAddr fo_27_0 (h1.ev rfl)) ?_
   refine Tq.va rfl (fun _ _ h1 h2 => run_load1 ag_3 (h1.ev rfl) (CellsAt.drop (rdo ef_TPoint (k := 1) h2 rfl hx1242) 0) rfl) ?_
   refine Tq.va rfl (fun _ _ h1 h2 => run_load1 ag_3 (h1.ev rfl) (rdR hb0 hc0 h2) rfl) ?_
   refine Tq.nil ?_
   refine Tr.va rfl (fun _ _ h1 h2 => run_add (h1.ev rfl) (h1.ev rfl)) ?_
   obtain ⟨x125, hx125, H⟩ := bnd H
   obtain ⟨hx1250, hx1251, hx1252⟩ := idx_some hx125
   refine Tr.va rfl (fun _ _ h1 h2 => run_indexAddr el_44 (h1.ev rfl) hfl123 (h1.ev rfl) hx1250 hx1251) ?_
   refine Tr.va rfl (fun _ _ h1 h2 => run_fieldAddr fo_27_0 (h1.ev rfl)) ?_
   obtain ⟨l126, hl126, H⟩ := bnd H
   have hnl126 := sets_len hl126
   refine Tr.storeEl 1 (t := fl_TPoint) (l := l123) (i := (iL1 : Int)) (fo := 0) (cs := [(iv (w64 (x124.X + q0)))]) (TPoint.mk (w64 (x124.X + q0)) x125.Y) (wn rfl) rfl rfl rfl rfl rfl hx1252 sz_3 rfl (fun u _ => ⟨u, trivial, rfl⟩) rfl hl126 ?_
   have hfl126 : SlF Ap0_0 (l126).length cp0_0 := by rw [hnl126]; exact hfl123
   have hsl126 := hnl126.trans hl123
   refine Tr.sel (lf := [(0, (.pointer (some ⟨adB Ae0, adO Ae0 + ie0 * 8, none⟩))), (1, (.pointer (some ⟨bq0, 0, none⟩))), (2, (.pointer (some ⟨bq1, 0, none⟩))), (4, (iv (iL1 : Int))), (40, (iv (p0.Points.length : Int))), (41, (iv (iL1 : Int))), (42, (.bool (decide ((iL1 : Int) < (p0.Points.length : Int))))), (43, (iv (iL1 : Int))), (44, (.pointer (some ⟨adB Ae0, adO Ae0 + ie0 * 8, none⟩))), (45, (.pointer (some ⟨adB Ae0, adO Ae0 + ie0 * 8, none⟩))), (46, (.pointer (some ⟨adB Ae0, adO Ae0 + ie0 * 8 + 4, none⟩))), (47, (.slice Ap0_0 (l126).length cp0_0)), (48, (iv (iL1 : Int))), (51, (iv x124.X)), (52, (iv q0)), (53, (iv (w64 (x124.X + q0))))]) (le := [(0, ow Ae0 ce0 46 (mix fl_TPlotStep) (mixL le0 ie0 (raw fl_TPlotStep [(iv p0.Kind), (sv p0.Name), (iv x101), (iv x102), (.slice Ap0_0 (l126).length cp0_0), (iv p0.NX), (iv p0.NY), (.slice Ap0_1 (p0.Steps).length cp0_1)] rfl rfl))), (1, ow Ap0_0 cp0_0 27 fl_TPoint l126)]) (.cons rfl (.cons rfl (.cons rfl (.cons rfl (.cons rfl (.cons rfl (.cons rfl (.cons rfl (.cons rfl (.cons rfl (.cons rfl (.cons (slenV rfl (by rw [hnl126])) (.cons rfl (.cons rfl (.cons rfl (.cons rfl .nil)))))))))))))))) (.cons (emix rfl (by rw [hnl126])) (.cons rfl .nil)) ?_
   refine Tr.nil (Tr.normThen ?_)
   refine Tr.drawTail 9 (by kernel_rfl) (by kernel_rfl) ?_
   refine Tq.mv rfl rfl ?_
   refine Tq.va rfl (fun _ _ h1 h2 => run_nilCheck (h1.ev rfl)) ?_
   refine Tq.va rfl (fun _ _ h1 h2 => run_fieldAddr fo_46_3 (h1.ev rfl)) ?_
   refine Tq.va rfl (fun _ _ h1 h2 => run_load1 ag_44 (h1.ev rfl) (CellsAt.drop (rdm (cs := raw fl_TPlotStep [(iv p0.Kind), (sv p0.Name), (iv x101), (iv x102), (.slice Ap0_0 (l126).length cp0_0), (iv p0.NX), (iv p0.NY), (.slice Ap0_1 (p0.Steps).length cp0_1)] rfl rfl) h2 (κ := 0) rfl hi0) 4) rfl) ?_
   refine Tq.mv rfl rfl ?_
   obtain ⟨x127, hx127, H⟩ := bnd H
   obtain ⟨hx1270, hx1271, hx1272⟩ := idx_some hx127
   refine Tq.va rfl (fun _ _ h1 h2 => run_indexAddr el_44 (h1.ev rfl) hfl126 (h1.ev rfl) hx1270 hx1271) ?_
   refine Tq.va rfl (fun _ _ h1 h2 => run_fieldAddr fo_27_1 (h1.ev rfl)) ?_
   refine Tq.va rfl (fun _ _ h1 h2 => run_load1 ag_3 (h1.ev rfl) (CellsAt.drop (rdo ef_TPoint (k := 1) h2 rfl hx1272) 1) rfl) ?_
   refine Tq.va rfl (fun _ _ h1 h2 => run_load1 ag_3 (h1.ev rfl) (rdR hb1 hc1 h2) rfl) ?_
   refine Tq.nil ?_
   refine Tr.va rfl (fun _ _ h1 h2 => run_add (h1.ev rfl) (h1.ev rfl)) ?_
   obtain ⟨x128, hx128, H⟩ := bnd H
   obtain ⟨hx1280, hx1281, hx1282⟩ := idx_some hx128
   refine Tr.va rfl (fun _ _ h1 h2 => run_indexAddr el_44 (h1.ev rfl) hfl126 (h1.ev rfl) hx1280 hx1281) ?_
   refine Tr.va rfl (fun _ _ h1 h2 => run_fieldAddr fo_27_1 (h1.ev rfl)) ?_
   obtain ⟨l129, hl129, H⟩ := bnd H
   have hnl129 := sets_len hl129
   refine Tr.storeEl 1 (t := fl_TPoint) (l := l126) (i := (iL1 : Int)) (fo := 1) (cs := [(iv (w64 (x127.Y + q1)))]) (TPoint.mk x128.X (w64 (x127.Y + q1))) (wn rfl) rfl rfl rfl rfl rfl hx1282 sz_3 rfl (fun u _ => ⟨u, trivial, rfl⟩) rfl hl129 ?_
   have hfl129 : SlF Ap0_0 (l129).length cp0_0 := by rw [hnl129]; exact hfl126
   have hsl129 := hnl129.trans hsl126
   refine Tr.sel (lf := [(0, (.pointer (some ⟨adB Ae0, adO Ae0 + ie0 * 8, none⟩))), (1, (.pointer (some ⟨bq0, 0, none⟩))), (2, (.pointer (some ⟨bq1, 0, none⟩))), (4, (iv (iL1 : Int))), (40, (iv (p0.Points.length : Int))), (41, (iv (iL1 : Int))), (42, (.bool (decide ((iL1 : Int) < (p0.Points.length : Int))))), (43, (iv (iL1 : Int))), (44, (.pointer (some ⟨adB Ae0, adO Ae0 + ie0 * 8, none⟩))), (45, (.pointer (some ⟨adB Ae0, adO Ae0 + ie0 * 8, none⟩))), (46, (.pointer (some ⟨adB Ae0, adO Ae0 + ie0 * 8 + 4, none⟩))), (47, (.slice Ap0_0 (l129).length cp0_0)), (48, (iv (iL1 : Int))), (51, (iv x124.X)), (52, (iv q0)), (53, (iv (w64 (x124.X + q0)))), (56, (.pointer (some ⟨adB Ae0, adO Ae0 + ie0 * 8, none⟩))), (57, (.pointer (some ⟨adB Ae0, adO Ae0 + ie0 * 8, none⟩))), (58, (.pointer (some ⟨adB Ae0, adO Ae0 + ie0 * 8 + 4, none⟩))), (59, (.slice Ap0_0 (l129).length cp0_0)), (60, (iv (iL1 : Int))), (63, (iv x127.Y)), (64, (iv q1)), (65, (iv (w64 (x127.Y + q1))))]) (le := [(0, ow Ae0 ce0 46 (mix fl_TPlotStep) (mixL le0 ie0 (raw fl_TPlotStep [(iv p0.Kind), (sv p0.Name), (iv x101), (iv x102), (.slice Ap0_0 (l129).length cp0_0), (iv p0.NX), (iv p0.NY), (.slice Ap0_1 (p0.Steps).length cp0_1)] rfl rfl))), (1, ow Ap0_0 cp0_0 27 fl_TPoint l129)]) (.cons rfl (.cons rfl (.cons rfl (.cons rfl (.cons rfl (.cons rfl (.cons rfl (.cons rfl (.cons rfl (.cons rfl (.cons rfl (.cons (slenV rfl (by rw [hnl129])) (.cons rfl (.cons rfl (.cons rfl (.cons rfl (.cons rfl (.cons rfl (.cons rfl (.cons (slenV rfl (by rw [hnl129])) (.cons rfl (.cons rfl (.cons rfl (.cons rfl .nil)))))))))))))))))))))))) (.cons (emix rfl (by rw [hnl129])) (.cons rfl .nil)) ?_
   refine Tr.nil (Tr.normBlock (Tr.normThen ?_))
   refine Tr.region ?_
   refine Tr.va rfl (fun _ _ h1 h2 => run_add (h1.ev rfl) (h1.ev rfl)) ?_
   refine Tr.mv rfl rfl ?_
   refine Tr.nil ?_
   exact Tr.backThen leL1 (restL1, (iL1 + 1), l129) ⟨rfl, range_tl hdL1, range_lt hdL1, H, hsl129⟩ (.cons rfl (.cons rfl (.cons rfl (.cons rfl (.cons (congrArg (fun z => some (Value.int .i64 z)) (range_up hdL1 hfhp0_0)) .nil))))) (.cons rfl (.cons rfl .nil))

theorem F_slices_Clone_PlotStep_ok {w : Bs} (p0 : (List TPlotStep)) (Ap0_0 : Option Addr) (cp0_0 : Nat) (hp0_0 : Sl w.O w.W fl_TPlotStep Ap0_0 cp0_0 p0) (r : (List TPlotStep)) (H : F_slices_Clone_PlotStep p0 = some r) (hE : HF w w.W (LEn [emp])) : Calls Tryd.prog 41 [(.slice Ap0_0 (p0).length cp0_0)].toArray w.W fun e W' => ∃ (w' : Bs) (u : (Option Addr × Nat)), w.Le w' ∧ e = .returned (.slice u.1 (r).length u.2) ∧ (SlF u.1 (r).length u.2) ∧ HF w' W' (LEn [ow u.1 u.2 46 fl_TPlotStep r]) := by
 unfold F_slices_Clone_PlotStep at H
 have leB := Bs.Le.refl w
 refine Tr.enter (n := 8) Tryd.func41 rfl rfl rfl hE ?_
 refine Tr.sr ?_
 refine Tr.asg rfl rfl ?_
 refine Tr.nilOwn 1 46 fl_TPlotStep ?_
 show Tr _ _ (uf _ 2 (.slice none (([] : List TPlotStep)).length 0)) _ _
 refine Tr.nil (Tr.normThen ?_)
 refine Tr.seq ?_
 refine Tr.sr ?_
 refine Tr.mv rfl rfl ?_
 refine Tr.va rfl (fun _ _ h1 h2 => run_eqlNil un_23 (h1.ev rfl) (h1.ev rfl)) ?_
 refine Tr.nil (Tr.normThen ?_)
 cases Ap0_0 with
 | none =>
  have hl0 := slf_none hp0_0.form
  replace H : (some ([] : List TPlotStep)) = some r := by simpa [apd, hl0] using H
  refine Tr.condT rfl rfl ?_
  refine Tr.sr ?_
  refine Tr.asg rfl rfl ?_
  refine Tr.nilOwn 2 46 fl_TPlotStep ?_
  show Tr _ _ (uf _ 2 (.slice none (([] : List TPlotStep)).length 0)) _ _
  refine Tr.nil (Tr.normThen ?_)
  refine Tr.ret (Tr.retThen ?_)
  obtain rfl := Option.some.inj H
  exact Tr.out (m := [(.slice none (([] : List TPlotStep)).length 0)]) [] (res_tmp rfl res_nil) (fun W hW => ⟨w, (none, 0), leB, rfl, slf_nil, hW.pick (ks := [2]) (by decide) (pk_cons rfl pk_nil)⟩)
 | some a102 =>
  refine Tr.condF rfl rfl ?_
  refine Tr.skip (Tr.normThen ?_)
  refine Tr.sr ?_
  refine Tr.buildSlice 3 (e := 46) (vs := []) (cs := []) (wn rfl) rfl evs_nil (by kernel_rfl) fun b100 => ?_
  refine Tr.mv rfl rfl ?_
  refine Tr.own 3 fl_TPlotStep ([] : List TPlotStep) (css := []) rfl .nil rfl (by decide) (lit_max rfl) ?_
  obtain ⟨l101, hl101, H⟩ := bnd H
  refine Tr.appendS 3 (t := fl_TPlotStep) (l := ([] : List TPlotStep)) (l2 := p0) (wn rfl) rfl rfl rfl rfl (apO hp0_0) un_23 sz_46 zl_46 (by decide) by_46 rfl hl101 fun Al101 cl101 hAl101 => ?_
  refine Tr.asg rfl rfl ?_
  refine Tr.nil (Tr.normThen ?_)
  refine Tr.ret ?_
  obtain rfl := Option.some.inj H
  exact Tr.out (m := [(.slice Al101 (l101).length cl101)]) [] (res_tmp rfl res_nil) (fun W hW => ⟨w, (Al101, cl101), leB, rfl, hAl101, hW.pick (ks := [3]) (by decide) (pk_cons rfl pk_nil)⟩)

theorem F_slices_Clone_Point_ok {w : Bs} (p0 : (List TPoint)) (Ap0_0 : Option Addr) (cp0_0 : Nat) (hp0_0 : Sl w.R w.W fl_TPoint Ap0_0 cp0_0 p0) (r : (List TPoint)) (H : F_slices_Clone_Point p0 = some r) (hE : HF w w.W (LEn [emp])) : Calls Tryd.prog 42 [(.slice Ap0_0 (p0).length cp0_0)].toArray w.W fun e W' => ∃ u : (Option Addr × Nat), e = .returned (.slice u.1 (r).length u.2) ∧ (SlF u.1 (r).length u.2) ∧ HF w W' (LEn [ow u.1 u.2 27 fl_TPoint r]) := by
 unfold F_slices_Clone_Point at H
 have leB := Bs.Le.refl w
 refine Tr.enter (n := 8) Tryd.func42 rfl rfl rfl hE ?_
 refine Tr.sr ?_
 refine Tr.asg rfl rfl ?_
 refine Tr.nilOwn 1 27 fl_TPoint ?_
 show Tr _ _ (uf _ 2 (.slice none (([] : List TPoint)).length 0)) _ _
 refine Tr.nil (Tr.normThen ?_)
 refine Tr.seq ?_
 refine Tr.sr ?_
 refine Tr.mv rfl rfl ?_
 refine Tr.va rfl (fun _ _ h1 h2 => run_eqlNil un_44 (h1.ev rfl) (h1.ev rfl)) ?_
 refine Tr.nil (Tr.normThen ?_)
 cases Ap0_0 with
 | none =>
  have hl0 := slf_none hp0_0.form
  replace H : (some ([] : List TPoint)) = some r := by simpa [apd, hl0] using H
  refine Tr.condT rfl rfl ?_
  refine Tr.sr ?_
  refine Tr.asg rfl rfl ?_
  refine Tr.nilOwn 2 27 fl_TPoint ?_
  show Tr _ _ (uf _ 2 (.slice none (([] : List TPoint)).length 0)) _ _
  refine Tr.nil (Tr.normThen ?_)
  refine Tr.ret (Tr.retThen ?_)
  obtain rfl := Option.some.inj H
  exact Tr.out (m := [(.slice none (([] : List TPoint)).length 0)]) [] (res_tmp rfl res_nil) (fun W hW => ⟨(none, 0), rfl, slf_nil, HF.lowE leB (hW.pick (ks := [2]) (by decide) (pk_cons rfl pk_nil)) ⟨ow_any _ _ _ _ tr_TPoint, trivial⟩⟩)
 | some a102 =>
  refine Tr.condF rfl rfl ?_
  refine Tr.skip (Tr.normThen ?_)
  refine Tr.sr ?_
  refine Tr.buildSlice 3 (e := 27) (vs := []) (cs := []) (wn rfl) rfl evs_nil (by kernel_rfl) fun b100 => ?_
  refine Tr.mv rfl rfl ?_
  refine Tr.own 3 fl_TPoint ([] : List TPoint) (css := []) rfl .nil rfl (by decide) (lit_max rfl) ?_
  obtain ⟨l101, hl101, H⟩ := bnd H
  refine Tr.appendS 3 (t := fl_TPoint) (l := ([] : List TPoint)) (l2 := p0) (wn rfl) rfl rfl rfl rfl (apT tr_TPoint (fun W hW => (Sl.inB hp0_0 hW))) un_44 sz_27 zl_27 (by decide) by_27 rfl hl101 fun Al101 cl101 hAl101 => ?_
  refine Tr.asg rfl rfl ?_
  refine Tr.nil (Tr.normThen ?_)
  refine Tr.ret ?_
  obtain rfl := Option.some.inj H
  exact Tr.out (m := [(.slice Al101 (l101).length cl101)]) [] (res_tmp rfl res_nil) (fun W hW => ⟨(Al101, cl101), rfl, hAl101, HF.lowE leB (hW.pick (ks := [3]) (by decide) (pk_cons rfl pk_nil)) ⟨ow_any _ _ _ _ tr_TPoint, trivial⟩⟩)

theorem F_slices_Clone_PlotTool_ok {w : Bs} (p0 : (List TPlotTool)) (Ap0_0 : Option Addr) (cp0_0 : Nat) (hp0_0 : Sl w.O w.W fl_TPlotTool Ap0_0 cp0_0 p0) (r : (List TPlotTool)) (H : F_slices_Clone_PlotTool p0 = some r) (hE : HF w w.W (LEn [emp])) : Calls Tryd.prog 43 [(.slice Ap0_0 (p0).length cp0_0)].toArray w.W fun e W' => ∃ (w' : Bs) (u : (Option Addr × Nat)), w.Le w' ∧ e = .returned (.slice u.1 (r).length u.2) ∧ (SlF u.1 (r).length u.2) ∧ HF w' W' (LEn [ow u.1 u.2 62 fl_TPlotTool r]) := by
 unfold F_slices_Clone_PlotTool at H
 have leB := Bs.Le.refl w
 refine Tr.enter (n := 8) Tryd.func43 rfl rfl rfl hE ?_
 refine Tr.sr ?_
 refine Tr.asg rfl rfl ?_
 refine Tr.nilOwn 1 62 fl_TPlotTool ?_
 show Tr _ _ (uf _ 2 (.slice none (([] : List TPlotTool)).length 0)) _ _
 refine Tr.nil (Tr.normThen ?_)
 refine Tr.seq ?_
 refine Tr.sr ?_
 refine Tr.mv rfl rfl ?_
 refine Tr.va rfl (fun _ _ h1 h2 => run_eqlNil un_22 (h1.ev rfl) (h1.ev rfl)) ?_
 refine Tr.nil (Tr.normThen ?_)
 cases Ap0_0 with
 | none =>
  have hl0 := slf_none hp0_0.form
  replace H : (some ([] : List TPlotTool)) = some r := by simpa [apd, hl0] using H
  refine Tr.condT rfl rfl ?_
  refine Tr.sr ?_
  refine Tr.asg rfl rfl ?_
  refine Tr.nilOwn 2 62 fl_TPlotTool ?_
  show Tr _ _ (uf _ 2 (.slice none (([] : List TPlotTool)).length 0)) _ _
  refine Tr.nil (Tr.normThen ?_)
  refine Tr.ret (Tr.retThen ?_)
  obtain rfl := Option.some.inj H
  exact Tr.out (m := [(.slice none (([] : List TPlotTool)).length 0)]) [] (res_tmp rfl res_nil) (fun W hW => ⟨w, (none, 0), leB, rfl, slf_nil, hW.pick (ks := [2]) (by decide) (pk_cons rfl pk_nil)⟩)
 | some a102 =>
  refine Tr.condF rfl rfl ?_
  refine Tr.skip (Tr.normThen ?_)
  refine Tr.sr ?_
  refine Tr.buildSlice 3 (e := 62) (vs := []) (cs := []) (wn rfl) rfl evs_nil (by kernel_rfl) fun b100 => ?_
  refine Tr.mv rfl rfl ?_
  refine Tr.own 3 fl_TPlotTool ([] : List TPlotTool) (css := []) rfl .nil rfl (by decide) (lit_max rfl) ?_
  obtain ⟨l101, hl101, H⟩ := bnd H
  refine Tr.appendS 3 (t := fl_TPlotTool) (l := ([] : List TPlotTool)) (l2 := p0) (wn rfl) rfl rfl rfl rfl (apO hp0_0) un_22 sz_62 zl_62 (by decide) by_62 rfl hl101 fun Al101 cl101 hAl101 => ?_
  refine Tr.asg rfl rfl ?_
  refine Tr.nil (Tr.normThen ?_)
  refine Tr.ret ?_
  obtain rfl := Option.some.inj H
  exact Tr.out (m := [(.slice Al101 (l101).length cl101)]) [] (res_tmp rfl res_nil) (fun W hW => ⟨w, (Al101, cl101), leB, rfl, hAl101, hW.pick (ks := [3]) (by decide) (pk_cons rfl pk_nil)⟩)

theorem F_slices_Clone_Rect_ok {w : Bs} (p0 : (List TRect)) (Ap0_0 : Option Addr) (cp0_0 : Nat) (hp0_0 : Sl w.R w.W fl_TRect Ap0_0 cp0_0 p0) (r : (List TRect)) (H : F_slices_Clone_Rect p0 = some r) (hE : HF w w.W (LEn [emp])) : Calls Tryd.prog 44 [(.slice Ap0_0 (p0).length cp0_0)].toArray w.W fun e W' => ∃ u : (Option Addr × Nat), e = .returned (.slice u.1 (r).length u.2) ∧ (SlF u.1 (r).length u.2) ∧ HF w W' (LEn [ow u.1 u.2 57 fl_TRect r]) := by
 unfold F_slices_Clone_Rect at H
 have leB := Bs.Le.refl w
 refine Tr.enter (n := 8) Tryd.func44 rfl rfl rfl hE ?_
 refine Tr.sr ?_
 refine Tr.asg rfl rfl ?_
 refine Tr.nilOwn 1 57 fl_TRect ?_
 show Tr _ _ (uf _ 2 (.slice none (([] : List TRect)).length 0)) _ _
 refine Tr.nil (Tr.normThen ?_)
 refine Tr.seq ?_
 refine Tr.sr ?_
 refine Tr.mv rfl rfl ?_
 refine Tr.va rfl (fun _ _ h1 h2 => run_eqlNil un_60 (h1.ev rfl) (h1.ev rfl)) ?_
 refine Tr.nil (Tr.normThen ?_)
 cases Ap0_0 with
 | none =>
  have hl0 := slf_none hp0_0.form
  replace H : (some ([] : List TRect)) = some r := by simpa [apd, hl0] using H
  refine Tr.condT rfl rfl ?_
  refine Tr.sr ?_
  refine Tr.asg rfl rfl ?_
  refine Tr.nilOwn 2 57 fl_TRect ?_
  show Tr _ _ (uf _ 2 (.slice none (([] : List TRect)).length 0)) _ _
  refine Tr.nil (Tr.normThen ?_)
  refine Tr.ret (Tr.retThen ?_)
  obtain rfl := Option.some.inj H
  exact Tr.out (m := [(.slice none (([] : List TRect)).length 0)]) [] (res_tmp rfl res_nil) (fun W hW => ⟨(none, 0), rfl, slf_nil, HF.lowE leB (hW.pick (ks := [2]) (by decide) (pk_cons rfl pk_nil)) ⟨ow_any _ _ _ _ tr_TRect, trivial⟩⟩)
 | some a102 =>
  refine Tr.condF rfl rfl ?_
  refine Tr.skip (Tr.normThen ?_)
  refine Tr.sr ?_
  refine Tr.buildSlice 3 (e := 57) (vs := []) (cs := []) (wn rfl) rfl evs_nil (by kernel_rfl) fun b100 => ?_
  refine Tr.mv rfl rfl ?_
  refine Tr.own 3 fl_TRect ([] : List TRect) (css := []) rfl .nil rfl (by decide) (lit_max rfl) ?_
  obtain ⟨l101, hl101, H⟩ := bnd H
  refine Tr.appendS 3 (t := fl_TRect) (l := ([] : List TRect)) (l2 := p0) (wn rfl) rfl rfl rfl rfl (apT tr_TRect (fun W hW => (Sl.inB hp0_0 hW))) un_60 sz_57 zl_57 (by decide) by_57 rfl hl101 fun Al101 cl101 hAl101 => ?_
  refine Tr.asg rfl rfl ?_
  refine Tr.nil (Tr.normThen ?_)
  refine Tr.ret ?_
  obtain rfl := Option.some.inj H
  exact Tr.out (m := [(.slice Al101 (l101).length cl101)]) [] (res_tmp rfl res_nil) (fun W hW => ⟨(Al101, cl101), rfl, hAl101, HF.lowE leB (hW.pick (ks := [3]) (by decide) (pk_cons rfl pk_nil)) ⟨ow_any _ _ _ _ tr_TRect, trivial⟩⟩)

theorem F_plot_ownTools_ok (N : Nat) {w : Bs} (p0 : (List TPlotTool)) (Ap0_0 : Option Addr) (cp0_0 : Nat) (hp0_0 : Sl w.O w.W fl_TPlotTool Ap0_0 cp0_0 p0) (p1 : TRect → Option TRect) (fid1 : Nat) (cap1 : List Value) (hg1 : ∀ args W, (callFunc fid1 args).run Tryd.prog W = .ok (.enter fid1 args) W) (hf1 : ∀ (w' : Bs), w.Ext w' → ∀ (z0 : TRect), ∀ y, p1 z0 = some y → Calls Tryd.prog fid1 (([(.agg #[(iv z0.X0), (iv z0.Y0), (iv z0.X1), (iv z0.Y1)])] : List Value) ++ cap1).toArray w'.W fun e W'' => e = .returned (.agg #[(iv y.X0), (iv y.Y0), (iv y.X1), (iv y.Y1)]) ∧ HF w' W'' E0) (r : (List TPlotTool)) (H : F_plot_ownTools N p0 p1 = some r) (hE : HF w w.W (LEn [emp])) : Calls Tryd.prog 16 [(.slice Ap0_0 (p0).length cp0_0), (.func (.func fid1) #[] cap1.toArray)].toArray w.W fun e W' => ∃ (w' : Bs) (u : (Option Addr × Nat)), w.Le w' ∧ e = .returned (.slice u.1 (r).length u.2) ∧ (SlF u.1 (r).length u.2) ∧ HF w' W' (LEn [ow u.1 u.2 62 fl_TPlotTool r]) := by
 unfold F_plot_ownTools at H
 have leB := Bs.Le.refl w
 refine Tr.enter (n := 50) Tryd.func16 rfl rfl rfl hE ?_
 refine Tr.sr ?_
 refine Tr.asg rfl rfl ?_
 refine Tr.nilOwn 1 62 fl_TPlotTool ?_
 show Tr _ _ (uf _ 4 (.slice none (([] : List TPlotTool)).length 0)) _ _
 refine Tr.nil (Tr.normThen ?_)
 refine Tr.sr ?_
 refine Tr.mv rfl rfl ?_
 obtain ⟨y100, hy100, H⟩ := bnd H
 refine Tr.callG [2] [emp] (U := (Option Addr × Nat)) (fun u => (.slice u.1 (y100).length u.2)) (fun O W u => SlF u.1 (y100).length u.2) (fun u => [ow u.1 u.2 62 fl_TPlotTool y100]) rfl (pk_cons rfl pk_nil) (fun _ => rfl) (wn rfl) rfl Tryd.call43 (evl_cons rfl evl_nil) (fun W hW hp hE => F_slices_Clone_PlotTool_ok p0 Ap0_0 cp0_0 (hp0_0.extO (hW.extS hp)) y100 hy100 hE) ?_
 intro w u le101 hu
 obtain ⟨Ay100_0, cy100_0⟩ := u
 have gy100_0 := hu
 replace hp0_0 := hp0_0.le le101
 replace hf1 := fun w' he => hf1 w' (le101.ext.trans he)
 replace leB := leB.trans le101
 have hgy100_0 : SlF Ay100_0 (y100).length cy100_0 := gy100_0 --@phi
 show Tr _ _ (uf _ 10 (.slice Ay100_0 (y100).length cy100_0)) (up _ 2 (ow Ay100_0 cy100_0 62 fl_TPlotTool y100)) _
 refine Tr.asg rfl rfl ?_
 refine Tr.nil (Tr.normThen ?_)
 refine Tr.seq ?_
 refine Tr.sr ?_
 refine Tr.mv rfl rfl ?_
 refine Tr.va rfl (fun _ _ h1 h2 => run_len un_22 (h1.ev rfl)) ?_
 refine Tr.mv rfl rfl ?_
 refine Tr.nil (Tr.normThen ?_)
 refine Tr.block ?_
 refine Tr.loop (σ := (List TPlotTool) × Int × (Option Addr) × Nat) (fun m w s => F_plot_ownTools_L3 p1 y100 m s.1 s.2.1 = some r ∧ SlF s.2.2.1 (s.1).length s.2.2.2) (fun s => [(1, (.func (.func fid1) #[] cap1.toArray)), (5, (.slice s.2.2.1 (s.1).length s.2.2.2)), (12, (iv (y100.length : Int))), (13, (iv s.2.1))]) (fun s => [(2, ow s.2.2.1 s.2.2.2 62 fl_TPlotTool s.1)]) N (y100, 0, Ay100_0, cy100_0) ⟨H, hgy100_0⟩ (.cons rfl (.cons rfl (.cons rfl (.cons rfl .nil)))) (.cons rfl .nil) (fun _ _ h => noSome (h.1)) ?_
 intro w leL3 mL3 s hs
 obtain ⟨l184, x185, Al184, cl184⟩ := s
 obtain ⟨H, hl184⟩ := hs
 replace H : F_plot_ownTools_L3 p1 y100 (mL3 + 1) l184 x185 = some r := H
 replace hf1 := fun w' he => hf1 w' (leL3.ext.trans he)
 replace leB := leB.trans leL3
 replace hl184 : SlF Al184 (l184).length cl184 := hl184
 rw [F_plot_ownTools_L3.eq_2] at H
 show Tr _ _ (LF [(1, (.func (.func fid1) #[] cap1.toArray)), (5, (.slice Al184 (l184).length cl184)), (12, (iv (y100.length : Int))), (13, (iv x185))]) (LE [(2, ow Al184 cl184 62 fl_TPlotTool l184)]) _
 refine Tr.sr ?_
 refine Tr.va rfl (fun _ _ h1 h2 => run_lss (h1.ev rfl) (h1.ev rfl)) ?_
 refine Tr.nil (Tr.normThen ?_)
 refine Tr.seq ?_
 refine Tr.cond rfl H (fun H => ?_) (fun H => ?_)
 ·refine Tr.skip (Tr.normThen ?_)
  refine Tr.seq ?_
  refine Tr.block ?_
  refine Tr.sr ?_
  refine Tr.mv rfl rfl ?_
  refine Tr.asg rfl rfl ?_
  refine Tr.nil (Tr.normThen ?_)
  refine Tr.sr ?_
  refine Tr.mv rfl rfl ?_
  refine Tr.mv rfl rfl ?_
  refine Tr.mv rfl rfl ?_
  refine Tr.mv rfl rfl ?_
  obtain ⟨x186, hx186, H⟩ := bnd H
  obtain ⟨hx1860, hx1861, hx1862⟩ := idx_some hx186
  refine Tr.va rfl (fun _ _ h1 h2 => run_indexAddr el_22 (h1.ev rfl) hl184 (h1.ev rfl) hx1860 hx1861) ?_
  refine Tr.va rfl (fun _ _ h1 h2 => run_fieldAddr fo_62_1 (h1.ev rfl)) ?_
  refine Tr.valE (U := (fl_TPlotTool).Ad) (fun u => (fl_TPlotTool).ok w.O w.W u x186) (fun u => (.slice u.1 (x186.Rects).length u.2)) (wn rfl) rfl (ldN (κ := 2) (t := fl_TPlotTool) (V := fun u => (.slice u.1 (x186.Rects).length u.2)) rfl hx1862 (fun _ _ u h1 hc => run_load1 ag_60 (h1.ev rfl) (hc.drop 1) rfl)) ?_
  intro u187 hoku187
  obtain ⟨Au187_0, cu187_0⟩ := u187
  have hoku187_0 := hoku187
  replace hoku187_0 : Sl w.O w.W fl_TRect Au187_0 cu187_0 x186.Rects := hoku187_0
  show Tr _ _ (uf _ 22 (.slice Au187_0 (x186.Rects).length cu187_0)) _ _
  obtain ⟨y188, hy188, H⟩ := bnd H
  refine Tr.callM [11] [emp] (U := (Option Addr × Nat)) (fun u => (.slice u.1 (y188).length u.2)) (fun u => SlF u.1 (y188).length u.2) (fun u => [ow u.1 u.2 57 fl_TRect y188]) rfl (pk_cons rfl pk_nil) (fun _ => rfl) (wn rfl) rfl Tryd.call44 (evl_cons rfl evl_nil) (fun W hW hp hE => F_slices_Clone_Rect_ok x186.Rects Au187_0 cu187_0 (hoku187_0.rl.ext (hW.extS hp)) y188 hy188 hE) ?_
  intro u hu
  obtain ⟨Ay188_0, cy188_0⟩ := u
  have gy188_0 := hu
  have hgy188_0 : SlF Ay188_0 (y188).length cy188_0 := gy188_0 --@phi
  show Tr _ _ (uf _ 23 (.slice Ay188_0 (y188).length cy188_0)) (up _ 11 (ow Ay188_0 cy188_0 57 fl_TRect y188)) _
  obtain ⟨x190, hx190, H⟩ := bnd H
  obtain ⟨hx1900, hx1901, hx1902⟩ := idx_some hx190
  refine Tr.va rfl (fun _ _ h1 h2 => run_indexAddr el_22 (h1.ev rfl) hl184 (h1.ev rfl) hx1900 hx1901) ?_
  refine Tr.va rfl (fun _ _ h1 h2 => run_fieldAddr fo_62_1 (h1.ev rfl)) ?_
  refine Tr.mixOpen 2 rfl hx1902 ?_
  intro u191 hoku191
  obtain ⟨Au191_0, cu191_0⟩ := u191
  have hoku191_0 := hoku191
  replace hoku191_0 : Sl w.O w.W fl_TRect Au191_0 cu191_0 x190.Rects := hoku191_0
  show Tr _ _ _ (up _ 2 (ow Al184 cl184 62 (mix fl_TPlotTool) (mixL l184 (x185).toNat (raw fl_TPlotTool [(sv x190.Name), (.slice Au191_0 (x190.Rects).length cu191_0)] rfl rfl)))) _
  refine Tr.storeMix 2 (raw fl_TPlotTool [(sv x190.Name), (.slice Ay188_0 (y188).length cy188_0)] rfl rfl) (cs := [(.slice Ay188_0 (y188).length cy188_0)]) (fo := 1) (wn rfl) rfl rfl rfl rfl rfl (List.getElem?_eq_some_iff.1 hx1902).1 sz_60 rfl rfl rfl ?_
  refine Tr.nil (Tr.normThen ?_)
  refine Tr.sr ?_
  refine Tr.mv rfl rfl ?_
  refine Tr.mv rfl rfl ?_
  obtain ⟨x192, hx192, H⟩ := bnd H
  obtain ⟨hx1920, hx1921, hx1922⟩ := idx_some hx192
  refine Tr.va rfl (fun _ _ h1 h2 => run_indexAddr el_22 (h1.ev rfl) hl184 (h1.ev rfl) hx1920 hx1921) ?_
  refine Tr.va rfl (fun _ _ h1 h2 => run_fieldAddr fo_62_1 (h1.ev rfl)) ?_
  refine Tr.va rfl (fun _ _ h1 h2 => run_load1 ag_60 (h1.ev rfl) (CellsAt.drop (rdm (cs := raw fl_TPlotTool [(sv x190.Name), (.slice Ay188_0 (y188).length cy188_0)] rfl rfl) h2 (κ := 2) rfl (List.getElem?_eq_some_iff.1 hx1922).1) 1) rfl) ?_
  refine Tr.va rfl (fun _ _ h1 h2 => run_len un_60 (h1.ev rfl)) ?_
  refine Tr.mv rfl rfl ?_
  refine Tr.nil (Tr.normThen ?_)
  refine Tr.block ?_
  refine Tr.loop (σ := (List TRect) × Nat × (List TRect) × (Option Addr) × Nat) (fun m w s => m = s.1.length + 1 ∧ s.1 = List.drop s.2.1 y188 ∧ s.2.1 ≤ y188.length ∧ F_plot_ownTools_L4 p1 l184 x185 (F_plot_ownTools_L3 p1 y100 mL3) x190 s.1 s.2.1 s.2.2.1 = some r ∧ SlF s.2.2.2.1 (s.2.2.1).length s.2.2.2.2) (fun s => [(1, (.func (.func fid1) #[] cap1.toArray)), (5, (.slice Al184 (l184).length cl184)), (6, (iv x185)), (12, (iv (y100.length : Int))), (13, (iv x185)), (30, (.slice s.2.2.2.1 (s.2.2.1).length s.2.2.2.2)), (31, (iv (y188.length : Int))), (32, (iv (s.2.1 : Int)))]) (fun s => [(2, ow Al184 cl184 62 (mix fl_TPlotTool) (mixL l184 (x185).toNat (raw fl_TPlotTool [(sv x190.Name), (.slice s.2.2.2.1 (s.2.2.1).length s.2.2.2.2)] rfl rfl))), (11, ow s.2.2.2.1 s.2.2.2.2 57 fl_TRect s.2.2.1)]) (y188.length + 1) (y188, 0, y188, Ay188_0, cy188_0) ⟨rfl, rfl, Nat.zero_le _, H, hgy188_0⟩ (.cons rfl (.cons rfl (.cons rfl (.cons rfl (.cons rfl (.cons rfl (.cons rfl (.cons rfl .nil)))))))) (.cons rfl (.cons rfl .nil)) (fun _ _ h => absurd h.1 (by simp)) ?_
  intro w leL4 m s hs
  obtain ⟨restL4, iL4, l211, Al211, cl211⟩ := s
  obtain ⟨hmL4, hdL4, hiL4, H, hl211⟩ := hs
  replace hdL4 : restL4 = List.drop iL4 y188 := hdL4
  replace H : F_plot_ownTools_L4 p1 l184 x185 (F_plot_ownTools_L3 p1 y100 mL3) x190 restL4 iL4 l211 = some r := H
  replace hmL4 : m + 1 = restL4.length + 1 := hmL4
  replace hf1 := fun w' he => hf1 w' (leL4.ext.trans he)
  replace leB := leB.trans leL4
  replace leL3 := leL3.trans leL4
  replace hl211 : SlF Al211 (l211).length cl211 := hl211
  obtain rfl : m = restL4.length := by omega
  clear hmL4
  show Tr _ _ (LF [(1, (.func (.func fid1) #[] cap1.toArray)), (5, (.slice Al184 (l184).length cl184)), (6, (iv x185)), (12, (iv (y100.length : Int))), (13, (iv x185)), (30, (.slice Al211 (l211).length cl211)), (31, (iv (y188.length : Int))), (32, (iv (iL4 : Int)))]) (LE [(2, ow Al184 cl184 62 (mix fl_TPlotTool) (mixL l184 (x185).toNat (raw fl_TPlotTool [(sv x190.Name), (.slice Al211 (l211).length cl211)] rfl rfl))), (11, ow Al211 cl211 57 fl_TRect l211)]) _
  cases restL4 with
  | nil =>
   rw [F_plot_ownTools_L4.eq_1] at H
   refine Tr.sr ?_
   refine Tr.va rfl (fun _ _ h1 h2 => run_lss (h1.ev rfl) (h1.ev rfl)) ?_
   refine Tr.nil (Tr.normThen ?_)
   refine Tr.seq ?_
   refine Tr.condF rfl (range_nil hdL4) ?_
   refine Tr.exit (Tr.exitThen (Tr.exitThen (Tr.exitBlock (Tr.normBlock (Tr.normThen ?_)))))
   refine Tr.region ?_
   refine Tr.va rfl (fun _ _ h1 h2 => run_add (h1.ev rfl) (h1.ev rfl)) ?_
   refine Tr.mv rfl rfl ?_
   refine Tr.nil ?_
   refine Tr.freeze 11 rfl fun w le213 hz212 => ?_
   replace hf1 := fun w' he => hf1 w' (le213.ext.trans he)
   replace leB := leB.trans le213
   replace leL3 := leL3.trans le213
   replace leL4 := leL4.trans le213
   refine Tr.mixClose 2 rfl ((Al211, cl211)) (TPlotTool.mk x190.Name l211) hz212 rfl ?_
   have hs214 : ((l184).set (x185).toNat (TPlotTool.mk x190.Name l211)).length = (l184).length := List.length_set
   have hfhs214 : SlF Al184 ((l184).set (x185).toNat (TPlotTool.mk x190.Name l211)).length cl184 := by rw [hs214]; exact hl184
   refine Tr.sel (lf := [(1, (.func (.func fid1) #[] cap1.toArray)), (5, (.slice Al184 (((l184).set (x185).toNat (TPlotTool.mk x190.Name l211))).length cl184)), (6, (iv x185)), (12, (iv (y100.length : Int))), (13, (iv (w64 (x185 + 1)))), (30, (.slice Al211 (l211).length cl211)), (31, (iv (y188.length : Int))), (32, (iv (iL4 : Int))), (33, (.bool (decide ((iL4 : Int) < (y188.length : Int))))), (48, (iv (w64 (x185 + 1))))]) (le := [(2, ow Al184 cl184 62 fl_TPlotTool ((l184).set (x185).toNat (TPlotTool.mk x190.Name l211)))]) (.cons rfl (.cons (slenV rfl (by rw [hs214])) (.cons rfl (.cons rfl (.cons rfl (.cons rfl (.cons rfl (.cons rfl (.cons rfl (.cons rfl .nil)))))))))) (.cons rfl .nil) ?_
   exact Tr.backThen leL3 (((l184).set (x185).toNat (TPlotTool.mk x190.Name l211)), (w64 (x185 + 1)), Al184, cl184) ⟨H, hfhs214⟩ (.cons rfl (.cons rfl (.cons rfl (.cons rfl .nil)))) (.cons rfl .nil)
  | cons xL4 restL4 =>
   rw [F_plot_ownTools_L4.eq_2] at H
   refine Tr.sr ?_
   refine Tr.va rfl (fun _ _ h1 h2 => run_lss (h1.ev rfl) (h1.ev rfl)) ?_
   refine Tr.nil (Tr.normThen ?_)
   refine Tr.seq ?_
   refine Tr.condT rfl (range_on hdL4) ?_
   refine Tr.skip (Tr.normThen ?_)
   refine Tr.seq ?_
   refine Tr.block ?_
   refine Tr.sr ?_
   refine Tr.mv rfl rfl ?_
   obtain ⟨x215, hx215, H⟩ := bnd H
   obtain ⟨hx2150, hx2151, hx2152⟩ := idx_some hx215
   refine Tr.va rfl (fun _ _ h1 h2 => run_indexAddr el_60 (h1.ev rfl) hl211 (h1.ev rfl) hx2150 hx2151) ?_
   refine Tr.va rfl (fun _ _ h1 h2 => run_loadN (cs := [(iv x215.X0), (iv x215.Y0), (iv x215.X1), (iv x215.Y1)]) ag_57 sz_57 (h1.ev rfl) (CellsAt.take (rdo ef_TRect (k := 11) h2 rfl hx2152) 4) rfl) ?_
   refine Tr.alloc 14 (wn rfl) rfl ze_57 fun b216 => ?_
   refine Tr.asg rfl rfl ?_
   refine Tr.store 14 (cs := [(iv x215.X0), (iv x215.Y0), (iv x215.X1), (iv x215.Y1)]) [(iv x215.X0), (iv x215.Y0), (iv x215.X1), (iv x215.Y1)] (wn rfl) rfl rfl rfl rfl sz_57 rfl rfl rfl ?_
   refine Tr.nil (Tr.normThen ?_)
   refine Tr.drawTail 9 (by kernel_rfl) (by kernel_rfl) ?_
   refine Tq.mv rfl rfl ?_
   refine Tq.mv rfl rfl ?_
   obtain ⟨x217, hx217, H⟩ := bnd H
   obtain ⟨hx2170, hx2171, hx2172⟩ := idx_some hx217
   refine Tq.va rfl (fun _ _ h1 h2 => run_indexAddr el_22 (h1.ev rfl) hl184 (h1.ev rfl) hx2170 hx2171) ?_
   refine Tq.va rfl (fun _ _ h1 h2 => run_fieldAddr fo_62_1 (h1.ev rfl)) ?_
   refine Tq.va rfl (fun _ _ h1 h2 => run_load1 ag_60 (h1.ev rfl) (CellsAt.drop (rdm (cs := raw fl_TPlotTool [(sv x190.Name), (.slice Al211 (l211).length cl211)] rfl rfl) h2 (κ := 2) rfl (List.getElem?_eq_some_iff.1 hx2172).1) 1) rfl) ?_
   refine Tq.mv rfl rfl ?_
   refine Tq.mv rfl rfl ?_
   refine Tq.va rfl (fun _ _ h1 h2 => run_loadN (cs := [(iv x215.X0), (iv x215.Y0), (iv x215.X1), (iv x215.Y1)]) ag_57 sz_57 (h1.ev rfl) (CellsAt.take (rdb h2 (vs := [(iv x215.X0), (iv x215.Y0), (iv x215.X1), (iv x215.Y1)]) (k := 14) rfl 0) 4) rfl) ?_
   obtain ⟨y218, hy218, H⟩ := bnd H
   refine Tq.callF (r := (.agg #[(iv y218.X0), (iv y218.Y0), (iv y218.X1), (iv y218.Y1)])) (wn rfl) rfl rfl hg1 (evl_cons rfl evl_nil) (fun W hW => hf1 hW.all hW.extAll x215 _ hy218) ?_
   refine Tq.nil ?_
   obtain ⟨x219, hx219, H⟩ := bnd H
   obtain ⟨hx2190, hx2191, hx2192⟩ := idx_some hx219
   refine Tr.va rfl (fun _ _ h1 h2 => run_indexAddr el_60 (h1.ev rfl) hl211 (h1.ev rfl) hx2190 hx2191) ?_
   obtain ⟨l220, hl220, H⟩ := bnd H
   have hnl220 := sets_len hl220
   refine Tr.storeEl 11 (t := fl_TRect) (l := l211) (i := (iL4 : Int)) (fo := 0) (cs := [(iv y218.X0), (iv y218.Y0), (iv y218.X1), (iv y218.Y1)]) y218 (wn rfl) rfl rfl rfl rfl rfl hx2192 sz_57 rfl (fun u _ => ⟨u, trivial, rfl⟩) rfl hl220 ?_
   have hfl220 : SlF Al211 (l220).length cl211 := by rw [hnl220]; exact hl211
   refine Tr.sel (lf := [(1, (.func (.func fid1) #[] cap1.toArray)), (5, (.slice Al184 (l184).length cl184)), (6, (iv x185)), (7, (iv (iL4 : Int))), (8, (.pointer (some ⟨b216, 0, none⟩))), (12, (iv (y100.length : Int))), (13, (iv x185)), (30, (.slice Al211 (l220).length cl211)), (31, (iv (y188.length : Int))), (32, (iv (iL4 : Int))), (33, (.bool (decide ((iL4 : Int) < (y188.length : Int))))), (34, (iv (iL4 : Int))), (36, (.agg #[(iv x215.X0), (iv x215.Y0), (iv x215.X1), (iv x215.Y1)])), (37, (.slice Al184 (l184).length cl184)), (38, (iv x185)), (39, (.pointer (some ⟨adB Al184, adO Al184 + (x185).toNat * 2, none⟩))), (40, (.pointer (some ⟨adB Al184, adO Al184 + (x185).toNat * 2 + 1, none⟩))), (41, (.slice Al211 (l220).length cl211)), (42, (iv (iL4 : Int))), (43, (.func (.func fid1) #[] cap1.toArray)), (44, (.agg #[(iv x215.X0), (iv x215.Y0), (iv x215.X1), (iv x215.Y1)])), (45, (.agg #[(iv y218.X0), (iv y218.Y0), (iv y218.X1), (iv y218.Y1)]))]) (le := [(2, ow Al184 cl184 62 (mix fl_TPlotTool) (mixL l184 (x185).toNat (raw fl_TPlotTool [(sv x190.Name), (.slice Al211 (l220).length cl211)] rfl rfl))), (11, ow Al211 cl211 57 fl_TRect l220), (14, bx b216 #[(iv x215.X0), (iv x215.Y0), (iv x215.X1), (iv x215.Y1)] 57)]) (.cons rfl (.cons rfl (.cons rfl (.cons rfl (.cons rfl (.cons rfl (.cons rfl (.cons (slenV rfl (by rw [hnl220])) (.cons rfl (.cons rfl (.cons rfl (.cons rfl (.cons rfl (.cons rfl (.cons rfl (.cons rfl (.cons rfl (.cons (slenV rfl (by rw [hnl220])) (.cons rfl (.cons rfl (.cons rfl (.cons rfl .nil)))))))))))))))))))))) (.cons (emix rfl (by rw [hnl220])) (.cons rfl (.cons rfl .nil))) ?_
   refine Tr.nil (Tr.normBlock (Tr.normThen ?_))
   refine Tr.region ?_
   refine Tr.va rfl (fun _ _ h1 h2 => run_add (h1.ev rfl) (h1.ev rfl)) ?_
   refine Tr.mv rfl rfl ?_
   refine Tr.nil ?_
   exact Tr.backThen leL4 (restL4, (iL4 + 1), l220, Al211, cl211) ⟨rfl, range_tl hdL4, range_lt hdL4, H, hfl220⟩ (.cons rfl (.cons rfl (.cons rfl (.cons rfl (.cons rfl (.cons rfl (.cons rfl (.cons (congrArg (fun z => some (Value.int .i64 z)) (range_up hdL4 hgy188_0)) .nil)))))))) (.cons rfl (.cons rfl .nil))
 ·refine Tr.exit (Tr.exitThen (Tr.exitThen (Tr.exitBlock (Tr.normThen ?_))))
  refine Tr.sr ?_
  refine Tr.mv rfl rfl ?_
  refine Tr.asg rfl rfl ?_
  refine Tr.nil (Tr.normThen ?_)
  refine Tr.ret ?_
  obtain rfl := Option.some.inj H
  exact Tr.out (m := [(.slice Al184 (l184).length cl184)]) [] (res_tmp rfl res_nil) (fun W hW => ⟨w, (Al184, cl184), leB, rfl, hl184, hW.pick (ks := [2]) (by decide) (pk_cons rfl pk_nil)⟩)

theorem F_plot_asItIs_ok {w : Bs} (p0 : TRect) (r : TRect) (H : F_plot_asItIs p0 = some r) (hE : HF w w.W E0) : Calls Tryd.prog 17 [(.agg #[(iv p0.X0), (iv p0.Y0), (iv p0.X1), (iv p0.Y1)])].toArray w.W fun e W' => e = .returned (.agg #[(iv r.X0), (iv r.Y0), (iv r.X1), (iv r.Y1)]) ∧ HF w W' E0 := by
 unfold F_plot_asItIs at H
 have leB := Bs.Le.refl w
 refine Tr.enter (n := 4) Tryd.func17 rfl rfl rfl hE ?_
 refine Tr.sr ?_
 refine Tr.box 1 (cs := [(iv p0.X0), (iv p0.Y0), (iv p0.X1), (iv p0.Y1)]) (wn rfl) rfl rfl rfl fun b100 => ?_
 refine Tr.alloc 2 (wn rfl) rfl ze_57 fun b101 => ?_
 refine Tr.nil (Tr.normThen ?_)
 refine Tr.sr ?_
 refine Tr.va rfl (fun _ _ h1 h2 => run_loadN (cs := [(iv p0.X0), (iv p0.Y0), (iv p0.X1), (iv p0.Y1)]) ag_57 sz_57 (h1.ev rfl) (CellsAt.take (rdb h2 (vs := [(iv p0.X0), (iv p0.Y0), (iv p0.X1), (iv p0.Y1)]) (k := 1) rfl 0) 4) rfl) ?_
 refine Tr.store 2 (cs := [(iv p0.X0), (iv p0.Y0), (iv p0.X1), (iv p0.Y1)]) [(iv p0.X0), (iv p0.Y0), (iv p0.X1), (iv p0.Y1)] (wn rfl) rfl rfl rfl rfl sz_57 rfl rfl rfl ?_
 refine Tr.nil (Tr.normThen ?_)
 refine Tr.ret ?_
 obtain rfl := Option.some.inj H
 exact Tr.out (m := [(.agg #[(iv p0.X0), (iv p0.Y0), (iv p0.X1), (iv p0.Y1)])]) [2] (res_cell rfl rfl ag_57 sz_57 res_nil) (fun W hW => ⟨rfl, hW.low leB⟩)

theorem F_plot_told_ok (N : Nat) {w : Bs} (p0 : TPlot) (Ap0_0 : Option Addr) (cp0_0 : Nat) (hp0_0 : Sl w.O w.W fl_TPlotTool Ap0_0 cp0_0 p0.Tools) (Ap0_1 : Option Addr) (cp0_1 : Nat) (hp0_1 : Sl w.O w.W fl_TPlotStep Ap0_1 cp0_1 p0.Steps) (r : (TPlot × Int)) (H : F_plot_told N p0 = some r) (hE : HF w w.W (LEn [])) : Calls Tryd.prog 15 [(.agg #[(iv p0.Unit), (.slice Ap0_0 (p0.Tools).length cp0_0), (.slice Ap0_1 (p0.Steps).length cp0_1)])].toArray w.W fun e W' => ∃ (w' : Bs) (u : (Option Addr × Nat) × (Option Addr × Nat)), w.Le w' ∧ e = .returned (.tuple #[(.agg #[(iv r.1.Unit), (.slice u.1.1 (r.1.Tools).length u.1.2), (.slice u.2.1 (r.1.Steps).length u.2.2)]), (iv r.2)]) ∧ (Sl w'.O w'.W fl_TPlotTool u.1.1 u.1.2 r.1.Tools ∧ Sl w'.O w'.W fl_TPlotStep u.2.1 u.2.2 r.1.Steps) ∧ HF w' W' (LEn []) := by
 unfold F_plot_told at H
 have leB := Bs.Le.refl w
 refine Tr.enter (n := 12) Tryd.func15 rfl rfl rfl hE ?_
 refine Tr.sr ?_
 refine Tr.box 1 (cs := [(iv p0.Unit), (.slice Ap0_0 (p0.Tools).length cp0_0), (.slice Ap0_1 (p0.Steps).length cp0_1)]) (wn rfl) rfl rfl rfl fun b100 => ?_
 refine Tr.alloc 2 (wn rfl) rfl ze_25 fun b101 => ?_
 refine Tr.asg rfl rfl ?_
 refine Tr.nil (Tr.normThen ?_)
 refine Tr.seq ?_
 refine Tr.sr ?_
 refine Tr.va rfl (fun _ _ h1 h2 => run_loadN (cs := [(iv p0.Unit), (.slice Ap0_0 (p0.Tools).length cp0_0), (.slice Ap0_1 (p0.Steps).length cp0_1)]) ag_25 sz_25 (h1.ev rfl) (CellsAt.take (rdb h2 (vs := [(iv p0.Unit), (.slice Ap0_0 (p0.Tools).length cp0_0), (.slice Ap0_1 (p0.Steps).length cp0_1)]) (k := 1) rfl 0) 3) rfl) ?_
 obtain ⟨y102, hy102, H⟩ := bnd H
 refine Tr.call0 (r := (iv y102)) (wn rfl) rfl Tryd.call10 (evl_cons rfl evl_nil) (fun W hW => F_plot_CheckPlot_ok N p0 Ap0_0 cp0_0 (hp0_0.rl.ext hW.extAll) Ap0_1 cp0_1 (hp0_1.rl.ext hW.extAll) y102 hy102 (HF.start _)) ?_
 refine Tr.asg rfl rfl ?_
 refine Tr.nil (Tr.normThen ?_)
 refine Tr.sr ?_
 refine Tr.mv rfl rfl ?_
 refine Tr.va rfl (fun _ _ h1 h2 => run_neq (h1.ev rfl) (h1.ev rfl)) ?_
 refine Tr.nil (Tr.normThen ?_)
 refine Tr.cond rfl H (fun H => ?_) (fun H => ?_)
 ·refine Tr.sr ?_
  refine Tr.build (vs := []) (cs := [(iv 0), (.slice none 0 0), (.slice none 0 0)]) (wn rfl) rfl evs_nil (by kernel_rfl) ?_
  refine Tr.mv rfl rfl ?_
  refine Tr.store 2 (cs := [(iv 0), (.slice none 0 0), (.slice none 0 0)]) [(iv 0), (.slice none 0 0), (.slice none 0 0)] (wn rfl) rfl rfl rfl rfl sz_25 rfl rfl rfl ?_
  refine Tr.asg rfl rfl ?_
  refine Tr.nil (Tr.normThen ?_)
  refine Tr.ret (Tr.retThen ?_)
  obtain rfl := Option.some.inj H
  exact Tr.out (m := [(.agg #[(iv 0), (.slice none 0 0), (.slice none 0 0)]), (iv y102)]) [2] (res_cell rfl rfl ag_25 sz_25 (res_tmp rfl res_nil)) (fun W hW => ⟨w, ((none, 0), (none, 0)), leB, rfl, ⟨(Sl.nil _ _ _), (Sl.nil _ _ _)⟩, hW.pick (ks := []) (by decide) pk_nil⟩)
 ·refine Tr.skip (Tr.normThen ?_)
  refine Tr.sr ?_
  refine Tr.va rfl (fun _ _ h1 h2 => run_loadN (cs := [(iv p0.Unit), (.slice Ap0_0 (p0.Tools).length cp0_0), (.slice Ap0_1 (p0.Steps).length cp0_1)]) ag_25 sz_25 (h1.ev rfl) (CellsAt.take (rdb h2 (vs := [(iv p0.Unit), (.slice Ap0_0 (p0.Tools).length cp0_0), (.slice Ap0_1 (p0.Steps).length cp0_1)]) (k := 1) rfl 0) 3) rfl) ?_
  refine Tr.store 2 (cs := [(iv p0.Unit), (.slice Ap0_0 (p0.Tools).length cp0_0), (.slice Ap0_1 (p0.Steps).length cp0_1)]) [(iv p0.Unit), (.slice Ap0_0 (p0.Tools).length cp0_0), (.slice Ap0_1 (p0.Steps).length cp0_1)] (wn rfl) rfl rfl rfl rfl sz_25 rfl rfl rfl ?_
  refine Tr.asg rfl rfl ?_
  refine Tr.nil (Tr.normThen ?_)
  refine Tr.ret ?_
  obtain rfl := Option.some.inj H
  exact Tr.out (m := [(.agg #[(iv p0.Unit), (.slice Ap0_0 (p0.Tools).length cp0_0), (.slice Ap0_1 (p0.Steps).length cp0_1)]), (iv 0)]) [2] (res_cell rfl rfl ag_25 sz_25 (res_tmp rfl res_nil)) (fun W hW => ⟨w, ((Ap0_0, cp0_0), (Ap0_1, cp0_1)), leB, rfl, ⟨hp0_0, hp0_1⟩, hW.pick (ks := []) (by decide) pk_nil⟩)

end Go.Proofs.YtneghcpnehiffaaDoor
