/- The walks: each function computes its plain function. -/
import Derived.Test.YtmbjoffligicnaaGreatDoorXWa
namespace Go.Proofs.YtmbjoffligicnaaGreatDoor
open Go.RowKit
set_option maxRecDepth 100000
set_option maxHeartbeats 1000000
theorem F_etchhouseref3_IsName_ok (N : Nat) {w : Bs} (p0 : ByteArray) (r : Bool) (H : F_etchhouseref3_IsName N p0 = some r) (hE : HF w w.W E0) : Calls Tryz.prog 36 [(sv p0)].toArray w.W fun e W' => e = .returned (.bool r) ∧ HF w W' E0 := by
 unfold F_etchhouseref3_IsName at H
 have leB := Bs.Le.refl w
 refine Tr.enter (n := 55) Tryz.func36 rfl rfl rfl hE ?_
 refine Tr.sr ?_
 refine Tr.asg rfl rfl ?_
 refine Tr.nil (Tr.normThen ?_)
 refine Tr.seq ?_
 refine Tr.sr ?_
 refine Tr.asg rfl rfl ?_
 refine Tr.nil (Tr.normThen ?_)
 refine Tr.block ?_
 refine Tr.loop (σ := Int) (fun m w s => F_etchhouseref3_IsName_L1 p0 m s = some r) (fun s => [(0, (sv p0)), (3, (iv s))]) (fun s => []) N 0 H (.cons rfl (.cons rfl .nil)) .nil (fun _ _ h => noSome (h)) ?_
 intro w leL1 mL1 x105 hs
 have H := hs
 replace H : F_etchhouseref3_IsName_L1 p0 (mL1 + 1) x105 = some r := H
 replace leB := leB.trans leL1
 rw [F_etchhouseref3_IsName_L1.eq_2] at H
 show Tr _ _ (LF [(0, (sv p0)), (3, (iv x105))]) (LE []) _
 refine Tr.seq ?_
 refine Tr.sr ?_
 refine Tr.mv rfl rfl ?_
 refine Tr.mv rfl rfl ?_
 refine Tr.va rfl (fun _ _ h1 h2 => run_lenS un_9 (h1.ev rfl)) ?_
 refine Tr.va rfl (fun _ _ h1 h2 => run_lss (h1.ev rfl) (h1.ev rfl)) ?_
 refine Tr.nil (Tr.normThen ?_)
 refine Tr.cond rfl H (fun H => ?_) (fun H => ?_)
 ·refine Tr.skip (Tr.normThen ?_)
  refine Tr.seq ?_
  refine Tr.block ?_
  refine Tr.sr ?_
  refine Tr.mv rfl rfl ?_
  refine Tr.mv rfl rfl ?_
  obtain ⟨c106, hc106, H⟩ := bnd H
  refine Tr.va rfl (fun _ _ h1 h2 => run_indexS un_9 (h1.ev rfl) (h1.ev rfl) hc106) ?_
  refine Tr.asg rfl rfl ?_
  refine Tr.nil (Tr.normThen ?_)
  refine Tr.sr ?_
  refine Tr.mv rfl rfl ?_
  refine Tr.va rfl (fun _ _ h1 h2 => run_geq (h1.ev rfl) (h1.ev rfl)) ?_
  refine Tr.mv rfl rfl ?_
  refine Tr.mid0 3 [(0, (sv p0)), (3, (iv x105)), (4, (.int .u8 c106)), (20, (.bool ((decide (97 ≤ c106)) && (decide (c106 ≤ 122)))))] [] ?_ ?_
  ·cases hg106 : (decide (97 ≤ c106))
   ·refine Tr.pass rfl rfl rfl rfl rfl (by decide) ?_
    refine Tr.pass rfl rfl rfl rfl rfl (by decide) ?_
    refine Tr.va rfl (fun _ _ h1 h2 => run_pickF (h1.ev rfl) (h1.ev rfl)) ?_
    exact Tr.nil (Tr.fin0 (.cons rfl (.cons rfl (.cons rfl (.cons rfl .nil)))) .nil)
   ·refine Tr.val (wg rfl rfl rfl) rfl (fun _ _ h1 h2 => run_move (h1.ev rfl)) ?_
    refine Tr.val (wg rfl rfl rfl) rfl (fun _ _ h1 h2 => run_leq (h1.ev rfl) (h1.ev rfl)) ?_
    refine Tr.va rfl (fun _ _ h1 h2 => run_pickT (h1.ev rfl) (h1.ev rfl)) ?_
    exact Tr.nil (Tr.fin0 (.cons rfl (.cons rfl (.cons rfl (.cons rfl .nil)))) .nil)
  ·show Tr _ _ (LF [(0, (sv p0)), (3, (iv x105)), (4, (.int .u8 c106)), (20, (.bool ((decide (97 ≤ c106)) && (decide (c106 ≤ 122)))))]) (LE []) _
   refine Tr.mv rfl rfl ?_
   refine Tr.mid0 7 [(0, (sv p0)), (3, (iv x105)), (4, (.int .u8 c106)), (28, (.bool (((decide (97 ≤ c106)) && (decide (c106 ≤ 122))) || ((decide (65 ≤ c106)) && (decide (c106 ≤ 90))))))] [] ?_ ?_
   ·cases hg106 : ((decide (97 ≤ c106)) && (decide (c106 ≤ 122)))
    ·refine Tr.val (wg rfl rfl rfl) rfl (fun _ _ h1 h2 => run_move (h1.ev rfl)) ?_
     refine Tr.val (wg rfl rfl rfl) rfl (fun _ _ h1 h2 => run_geq (h1.ev rfl) (h1.ev rfl)) ?_
     refine Tr.val (wg rfl rfl rfl) rfl (fun _ _ h1 h2 => run_move (h1.ev rfl)) ?_
     refine Tr.mid0 3 [(0, (sv p0)), (3, (iv x105)), (4, (.int .u8 c106)), (21, (.bool false)), (27, (.bool ((decide (65 ≤ c106)) && (decide (c106 ≤ 90)))))] [] ?_ ?_
     ·cases hg106 : (decide (65 ≤ c106))
      ·refine Tr.pass rfl rfl rfl rfl rfl (by decide) ?_
       refine Tr.pass rfl rfl rfl rfl rfl (by decide) ?_
       refine Tr.val (wg rfl rfl rfl) rfl (fun _ _ h1 h2 => run_pickF (h1.ev rfl) (h1.ev rfl)) ?_
       exact Tr.nil (Tr.fin0 (.cons rfl (.cons rfl (.cons rfl (.cons rfl (.cons rfl .nil))))) .nil)
      ·refine Tr.val (wg rfl rfl rfl) rfl (fun _ _ h1 h2 => run_move (h1.ev rfl)) ?_
       refine Tr.val (wg rfl rfl rfl) rfl (fun _ _ h1 h2 => run_leq (h1.ev rfl) (h1.ev rfl)) ?_
       refine Tr.val (wg rfl rfl rfl) rfl (fun _ _ h1 h2 => run_pickT (h1.ev rfl) (h1.ev rfl)) ?_
       exact Tr.nil (Tr.fin0 (.cons rfl (.cons rfl (.cons rfl (.cons rfl (.cons rfl .nil))))) .nil)
     ·show Tr _ _ (LF [(0, (sv p0)), (3, (iv x105)), (4, (.int .u8 c106)), (21, (.bool false)), (27, (.bool ((decide (65 ≤ c106)) && (decide (c106 ≤ 90)))))]) (LE []) _
      refine Tr.va rfl (fun _ _ h1 h2 => run_pickF (h1.ev rfl) (h1.ev rfl)) ?_
      exact Tr.nil (Tr.fin0 (.cons rfl (.cons rfl (.cons rfl (.cons rfl .nil)))) .nil)
    ·refine Tr.pass rfl rfl rfl rfl rfl (by decide) ?_
     refine Tr.pass rfl rfl rfl rfl rfl (by decide) ?_
     refine Tr.pass rfl rfl rfl rfl rfl (by decide) ?_
     refine Tr.passU rfl rfl rfl rfl (by decide) ?_
     refine Tr.passU rfl rfl rfl rfl (by decide) ?_
     refine Tr.pass rfl rfl rfl rfl rfl (by decide) ?_
     refine Tr.va rfl (fun _ _ h1 h2 => run_pickT (h1.ev rfl) (h1.ev rfl)) ?_
     exact Tr.nil (Tr.fin0 (.cons rfl (.cons rfl (.cons rfl (.cons rfl .nil)))) .nil)
   ·show Tr _ _ (LF [(0, (sv p0)), (3, (iv x105)), (4, (.int .u8 c106)), (28, (.bool (((decide (97 ≤ c106)) && (decide (c106 ≤ 122))) || ((decide (65 ≤ c106)) && (decide (c106 ≤ 90))))))]) (LE []) _
    refine Tr.asg rfl rfl ?_
    refine Tr.nil (Tr.normThen ?_)
    refine Tr.sr ?_
    refine Tr.mv rfl rfl ?_
    refine Tr.va rfl (fun _ _ h1 h2 => run_not (h1.ev rfl)) ?_
    refine Tr.mv rfl rfl ?_
    refine Tr.mid0 20 [(0, (sv p0)), (3, (iv x105)), (51, (.bool ((!(((decide (97 ≤ c106)) && (decide (c106 ≤ 122))) || ((decide (65 ≤ c106)) && (decide (c106 ≤ 90))))) && ((x105 == 0) || (((c106 != 95) && (c106 != 45)) && (!((decide (48 ≤ c106)) && (decide (c106 ≤ 57)))))))))] [] ?_ ?_
    ·cases hg106 : (!(((decide (97 ≤ c106)) && (decide (c106 ≤ 122))) || ((decide (65 ≤ c106)) && (decide (c106 ≤ 90)))))
     ·refine Tr.pass rfl rfl rfl rfl rfl (by decide) ?_
      refine Tr.pass rfl rfl rfl rfl rfl (by decide) ?_
      refine Tr.pass rfl rfl rfl rfl rfl (by decide) ?_
      refine Tr.passU rfl rfl rfl rfl (by decide) ?_
      refine Tr.passU rfl rfl rfl rfl (by decide) ?_
      refine Tr.passU rfl rfl rfl rfl (by decide) ?_
      refine Tr.passU rfl rfl rfl rfl (by decide) ?_
      refine Tr.passU rfl rfl rfl rfl (by decide) ?_
      refine Tr.passU rfl rfl rfl rfl (by decide) ?_
      refine Tr.passU rfl rfl rfl rfl (by decide) ?_
      refine Tr.passU rfl rfl rfl rfl (by decide) ?_
      refine Tr.passU rfl rfl rfl rfl (by decide) ?_
      refine Tr.passU rfl rfl rfl rfl (by decide) ?_
      refine Tr.passU rfl rfl rfl rfl (by decide) ?_
      refine Tr.passU rfl rfl rfl rfl (by decide) ?_
      refine Tr.passU rfl rfl rfl rfl (by decide) ?_
      refine Tr.passU rfl rfl rfl rfl (by decide) ?_
      refine Tr.passU rfl rfl rfl rfl (by decide) ?_
      refine Tr.pass rfl rfl rfl rfl rfl (by decide) ?_
      refine Tr.va rfl (fun _ _ h1 h2 => run_pickF (h1.ev rfl) (h1.ev rfl)) ?_
      exact Tr.nil (Tr.fin0 (.cons rfl (.cons rfl (.cons rfl .nil))) .nil)
     ·refine Tr.val (wg rfl rfl rfl) rfl (fun _ _ h1 h2 => run_move (h1.ev rfl)) ?_
      refine Tr.val (wg rfl rfl rfl) rfl (fun _ _ h1 h2 => run_eql (h1.ev rfl) (h1.ev rfl)) ?_
      refine Tr.val (wg rfl rfl rfl) rfl (fun _ _ h1 h2 => run_move (h1.ev rfl)) ?_
      refine Tr.mid0 16 [(0, (sv p0)), (3, (iv x105)), (31, (.bool true)), (50, (.bool ((x105 == 0) || (((c106 != 95) && (c106 != 45)) && (!((decide (48 ≤ c106)) && (decide (c106 ≤ 57))))))))] [] ?_ ?_
      ·cases hg106 : (x105 == 0)
       ·refine Tr.val (wg rfl rfl rfl) rfl (fun _ _ h1 h2 => run_move (h1.ev rfl)) ?_
        refine Tr.val (wg rfl rfl rfl) rfl (fun _ _ h1 h2 => run_neq (h1.ev rfl) (h1.ev rfl)) ?_
        refine Tr.val (wg rfl rfl rfl) rfl (fun _ _ h1 h2 => run_move (h1.ev rfl)) ?_
        refine Tr.mid0 3 [(0, (sv p0)), (3, (iv x105)), (4, (.int .u8 c106)), (31, (.bool true)), (34, (.bool false)), (40, (.bool ((c106 != 95) && (c106 != 45))))] [] ?_ ?_
        ·cases hg106 : (c106 != 95)
         ·refine Tr.pass rfl rfl rfl rfl rfl (by decide) ?_
          refine Tr.pass rfl rfl rfl rfl rfl (by decide) ?_
          refine Tr.val (wg rfl rfl rfl) rfl (fun _ _ h1 h2 => run_pickF (h1.ev rfl) (h1.ev rfl)) ?_
          exact Tr.nil (Tr.fin0 (.cons rfl (.cons rfl (.cons rfl (.cons rfl (.cons rfl (.cons rfl .nil)))))) .nil)
         ·refine Tr.val (wg rfl rfl rfl) rfl (fun _ _ h1 h2 => run_move (h1.ev rfl)) ?_
          refine Tr.val (wg rfl rfl rfl) rfl (fun _ _ h1 h2 => run_neq (h1.ev rfl) (h1.ev rfl)) ?_
          refine Tr.val (wg rfl rfl rfl) rfl (fun _ _ h1 h2 => run_pickT (h1.ev rfl) (h1.ev rfl)) ?_
          exact Tr.nil (Tr.fin0 (.cons rfl (.cons rfl (.cons rfl (.cons rfl (.cons rfl (.cons rfl .nil)))))) .nil)
        ·show Tr _ _ (LF [(0, (sv p0)), (3, (iv x105)), (4, (.int .u8 c106)), (31, (.bool true)), (34, (.bool false)), (40, (.bool ((c106 != 95) && (c106 != 45))))]) (LE []) _
         refine Tr.val (wg rfl rfl rfl) rfl (fun _ _ h1 h2 => run_move (h1.ev rfl)) ?_
         refine Tr.mid0 8 [(0, (sv p0)), (3, (iv x105)), (31, (.bool true)), (34, (.bool false)), (49, (.bool (((c106 != 95) && (c106 != 45)) && (!((decide (48 ≤ c106)) && (decide (c106 ≤ 57)))))))] [] ?_ ?_
         ·cases hg106 : ((c106 != 95) && (c106 != 45))
          ·refine Tr.pass rfl rfl rfl rfl rfl (by decide) ?_
           refine Tr.pass rfl rfl rfl rfl rfl (by decide) ?_
           refine Tr.pass rfl rfl rfl rfl rfl (by decide) ?_
           refine Tr.passU rfl rfl rfl rfl (by decide) ?_
           refine Tr.passU rfl rfl rfl rfl (by decide) ?_
           refine Tr.pass rfl rfl rfl rfl rfl (by decide) ?_
           refine Tr.pass rfl rfl rfl rfl rfl (by decide) ?_
           refine Tr.val (wg rfl rfl rfl) rfl (fun _ _ h1 h2 => run_pickF (h1.ev rfl) (h1.ev rfl)) ?_
           exact Tr.nil (Tr.fin0 (.cons rfl (.cons rfl (.cons rfl (.cons rfl (.cons rfl .nil))))) .nil)
          ·refine Tr.val (wg rfl rfl rfl) rfl (fun _ _ h1 h2 => run_move (h1.ev rfl)) ?_
           refine Tr.val (wg rfl rfl rfl) rfl (fun _ _ h1 h2 => run_geq (h1.ev rfl) (h1.ev rfl)) ?_
           refine Tr.val (wg rfl rfl rfl) rfl (fun _ _ h1 h2 => run_move (h1.ev rfl)) ?_
           refine Tr.mid0 3 [(0, (sv p0)), (3, (iv x105)), (31, (.bool true)), (34, (.bool false)), (41, (.bool true)), (47, (.bool ((decide (48 ≤ c106)) && (decide (c106 ≤ 57)))))] [] ?_ ?_
           ·cases hg106 : (decide (48 ≤ c106))
            ·refine Tr.pass rfl rfl rfl rfl rfl (by decide) ?_
             refine Tr.pass rfl rfl rfl rfl rfl (by decide) ?_
             refine Tr.val (wg rfl rfl rfl) rfl (fun _ _ h1 h2 => run_pickF (h1.ev rfl) (h1.ev rfl)) ?_
             exact Tr.nil (Tr.fin0 (.cons rfl (.cons rfl (.cons rfl (.cons rfl (.cons rfl (.cons rfl .nil)))))) .nil)
            ·refine Tr.val (wg rfl rfl rfl) rfl (fun _ _ h1 h2 => run_move (h1.ev rfl)) ?_
             refine Tr.val (wg rfl rfl rfl) rfl (fun _ _ h1 h2 => run_leq (h1.ev rfl) (h1.ev rfl)) ?_
             refine Tr.val (wg rfl rfl rfl) rfl (fun _ _ h1 h2 => run_pickT (h1.ev rfl) (h1.ev rfl)) ?_
             exact Tr.nil (Tr.fin0 (.cons rfl (.cons rfl (.cons rfl (.cons rfl (.cons rfl (.cons rfl .nil)))))) .nil)
           ·show Tr _ _ (LF [(0, (sv p0)), (3, (iv x105)), (31, (.bool true)), (34, (.bool false)), (41, (.bool true)), (47, (.bool ((decide (48 ≤ c106)) && (decide (c106 ≤ 57)))))]) (LE []) _
            refine Tr.val (wg rfl rfl rfl) rfl (fun _ _ h1 h2 => run_not (h1.ev rfl)) ?_
            refine Tr.val (wg rfl rfl rfl) rfl (fun _ _ h1 h2 => run_pickT (h1.ev rfl) (h1.ev rfl)) ?_
            exact Tr.nil (Tr.fin0 (.cons rfl (.cons rfl (.cons rfl (.cons rfl (.cons rfl .nil))))) .nil)
         ·show Tr _ _ (LF [(0, (sv p0)), (3, (iv x105)), (31, (.bool true)), (34, (.bool false)), (49, (.bool (((c106 != 95) && (c106 != 45)) && (!((decide (48 ≤ c106)) && (decide (c106 ≤ 57)))))))]) (LE []) _
          refine Tr.val (wg rfl rfl rfl) rfl (fun _ _ h1 h2 => run_pickF (h1.ev rfl) (h1.ev rfl)) ?_
          exact Tr.nil (Tr.fin0 (.cons rfl (.cons rfl (.cons rfl (.cons rfl .nil)))) .nil)
       ·refine Tr.pass rfl rfl rfl rfl rfl (by decide) ?_
        refine Tr.pass rfl rfl rfl rfl rfl (by decide) ?_
        refine Tr.pass rfl rfl rfl rfl rfl (by decide) ?_
        refine Tr.passU rfl rfl rfl rfl (by decide) ?_
        refine Tr.passU rfl rfl rfl rfl (by decide) ?_
        refine Tr.pass rfl rfl rfl rfl rfl (by decide) ?_
        refine Tr.pass rfl rfl rfl rfl rfl (by decide) ?_
        refine Tr.passU rfl rfl rfl rfl (by decide) ?_
        refine Tr.passU rfl rfl rfl rfl (by decide) ?_
        refine Tr.passU rfl rfl rfl rfl (by decide) ?_
        refine Tr.passU rfl rfl rfl rfl (by decide) ?_
        refine Tr.passU rfl rfl rfl rfl (by decide) ?_
        refine Tr.passU rfl rfl rfl rfl (by decide) ?_
        refine Tr.passU rfl rfl rfl rfl (by decide) ?_
        refine Tr.pass rfl rfl rfl rfl rfl (by decide) ?_
        refine Tr.val (wg rfl rfl rfl) rfl (fun _ _ h1 h2 => run_pickT (h1.ev rfl) (h1.ev rfl)) ?_
        exact Tr.nil (Tr.fin0 (.cons rfl (.cons rfl (.cons rfl (.cons rfl .nil)))) .nil)
      ·show Tr _ _ (LF [(0, (sv p0)), (3, (iv x105)), (31, (.bool true)), (50, (.bool ((x105 == 0) || (((c106 != 95) && (c106 != 45)) && (!((decide (48 ≤ c106)) && (decide (c106 ≤ 57))))))))]) (LE []) _
       refine Tr.va rfl (fun _ _ h1 h2 => run_pickT (h1.ev rfl) (h1.ev rfl)) ?_
       exact Tr.nil (Tr.fin0 (.cons rfl (.cons rfl (.cons rfl .nil))) .nil)
    ·show Tr _ _ (LF [(0, (sv p0)), (3, (iv x105)), (51, (.bool ((!(((decide (97 ≤ c106)) && (decide (c106 ≤ 122))) || ((decide (65 ≤ c106)) && (decide (c106 ≤ 90))))) && ((x105 == 0) || (((c106 != 95) && (c106 != 45)) && (!((decide (48 ≤ c106)) && (decide (c106 ≤ 57)))))))))]) (LE []) _
     refine Tr.nil (Tr.normThen ?_)
     refine Tr.cond rfl H (fun H => ?_) (fun H => ?_)
     ·refine Tr.sr ?_
      refine Tr.asg rfl rfl ?_
      refine Tr.nil (Tr.normThen ?_)
      refine Tr.ret (Tr.retBlock (Tr.retThen (Tr.retThen (Tr.retBlock (Tr.retThen ?_)))))
      obtain rfl := Option.some.inj H
      exact Tr.out (m := [(.bool false)]) [] (res_tmp rfl res_nil) (fun W hW => ⟨rfl, hW.low leB⟩)
     ·refine Tr.skip (Tr.normBlock (Tr.normThen ?_))
      refine Tr.region ?_
      refine Tr.mv rfl rfl ?_
      refine Tr.va rfl (fun _ _ h1 h2 => run_add (h1.ev rfl) (h1.ev rfl)) ?_
      refine Tr.asg rfl rfl ?_
      refine Tr.nil ?_
      exact Tr.backThen leL1 (w64 (x105 + 1)) H (.cons rfl (.cons rfl .nil)) .nil
 ·refine Tr.exit (Tr.exitThen (Tr.exitThen (Tr.exitBlock (Tr.normThen ?_))))
  refine Tr.sr ?_
  refine Tr.mv rfl rfl ?_
  refine Tr.va rfl (fun _ _ h1 h2 => run_lenS un_9 (h1.ev rfl)) ?_
  obtain ⟨y107, hy107, H⟩ := bnd H
  refine Tr.call0 (r := (.bool y107)) (wn rfl) rfl Tryz.call58 (evl_cons rfl (evl_cons rfl (evl_cons rfl evl_nil))) (fun W hW => F_etchhouseref3_within_ok (p0.size : Int) 1 40 y107 hy107 (HF.start _)) ?_
  refine Tr.asg rfl rfl ?_
  refine Tr.nil (Tr.normThen ?_)
  refine Tr.ret ?_
  obtain rfl := Option.some.inj H
  exact Tr.out (m := [(.bool y107)]) [] (res_tmp rfl res_nil) (fun W hW => ⟨rfl, hW.low leB⟩)

theorem F_etchhouseref9_kind_ok (N : Nat) {w : Bs} (p0 : TPanel) (Ap0_0 : Option Addr) (cp0_0 : Nat) (hp0_0 : Sl w.R w.W fl_TBoardKind Ap0_0 cp0_0 p0.Kinds) (Ap0_1 : Option Addr) (cp0_1 : Nat) (hp0_1 : Sl w.R w.W fl_TSlot Ap0_1 cp0_1 p0.Slots) (Ap0_2 : Option Addr) (cp0_2 : Nat) (hp0_2 : Sl w.R w.W fl_TPoint Ap0_2 cp0_2 p0.Marks) (p1 : ByteArray) (r : Int) (H : F_etchhouseref9_kind N p0 p1 = some r) (hE : HF w w.W E0) : Calls Tryz.prog 59 [(.agg #[(iv p0.W), (iv p0.H), (iv p0.Rail), (iv p0.Gap), (.slice Ap0_0 (p0.Kinds).length cp0_0), (.slice Ap0_1 (p0.Slots).length cp0_1), (.slice Ap0_2 (p0.Marks).length cp0_2)]), (sv p1)].toArray w.W fun e W' => e = .returned (iv r) ∧ HF w W' E0 := by
 unfold F_etchhouseref9_kind at H
 have leB := Bs.Le.refl w
 refine Tr.enter (n := 22) Tryz.func59 rfl rfl rfl hE ?_
 refine Tr.sr ?_
 refine Tr.box 1 (cs := [(iv p0.W), (iv p0.H), (iv p0.Rail), (iv p0.Gap), (.slice Ap0_0 (p0.Kinds).length cp0_0), (.slice Ap0_1 (p0.Slots).length cp0_1), (.slice Ap0_2 (p0.Marks).length cp0_2)]) (wn rfl) rfl rfl rfl fun b100 => ?_
 refine Tr.asg rfl rfl ?_
 refine Tr.nil (Tr.normThen ?_)
 refine Tr.seq ?_
 refine Tr.sr ?_
 refine Tr.asg rfl rfl ?_
 refine Tr.nil (Tr.normThen ?_)
 refine Tr.block ?_
 refine Tr.loop (σ := Int) (fun m w s => F_etchhouseref9_kind_L1 p0 p1 m s = some r) (fun s => [(1, (sv p1)), (2, (.pointer (some ⟨b100, 0, none⟩))), (5, (iv s))]) (fun s => [(1, bx b100 #[(iv p0.W), (iv p0.H), (iv p0.Rail), (iv p0.Gap), (.slice Ap0_0 (p0.Kinds).length cp0_0), (.slice Ap0_1 (p0.Slots).length cp0_1), (.slice Ap0_2 (p0.Marks).length cp0_2)] 26)]) N 0 H (.cons rfl (.cons rfl (.cons rfl .nil))) (.cons rfl .nil) (fun _ _ h => noSome (h)) ?_
 intro w leL1 mL1 x106 hs
 have H := hs
 replace H : F_etchhouseref9_kind_L1 p0 p1 (mL1 + 1) x106 = some r := H
 replace hp0_0 := hp0_0.leR leL1
 replace hp0_1 := hp0_1.leR leL1
 replace hp0_2 := hp0_2.leR leL1
 replace leB := leB.trans leL1
 rw [F_etchhouseref9_kind_L1.eq_2] at H
 show Tr _ _ (LF [(1, (sv p1)), (2, (.pointer (some ⟨b100, 0, none⟩))), (5, (iv x106))]) (LE [(1, bx b100 #[(iv p0.W), (iv p0.H), (iv p0.Rail), (iv p0.Gap), (.slice Ap0_0 (p0.Kinds).length cp0_0), (.slice Ap0_1 (p0.Slots).length cp0_1), (.slice Ap0_2 (p0.Marks).length cp0_2)] 26)]) _
 refine Tr.seq ?_
 refine Tr.sr ?_
 refine Tr.mv rfl rfl ?_
 refine Tr.va rfl (fun _ _ h1 h2 => run_fieldAddr fo_26_4 (h1.ev rfl)) ?_
 refine Tr.va rfl (fun _ _ h1 h2 => run_load1 ag_22 (h1.ev rfl) (rdb h2 (vs := [(iv p0.W), (iv p0.H), (iv p0.Rail), (iv p0.Gap), (.slice Ap0_0 (p0.Kinds).length cp0_0), (.slice Ap0_1 (p0.Slots).length cp0_1), (.slice Ap0_2 (p0.Marks).length cp0_2)]) (k := 1) rfl 4) rfl) ?_
 refine Tr.va rfl (fun _ _ h1 h2 => run_len un_22 (h1.ev rfl)) ?_
 refine Tr.va rfl (fun _ _ h1 h2 => run_lss (h1.ev rfl) (h1.ev rfl)) ?_
 refine Tr.nil (Tr.normThen ?_)
 refine Tr.cond rfl H (fun H => ?_) (fun H => ?_)
 ·refine Tr.skip (Tr.normThen ?_)
  refine Tr.seq ?_
  refine Tr.block ?_
  refine Tr.sr ?_
  refine Tr.va rfl (fun _ _ h1 h2 => run_fieldAddr fo_26_4 (h1.ev rfl)) ?_
  refine Tr.va rfl (fun _ _ h1 h2 => run_load1 ag_22 (h1.ev rfl) (rdb h2 (vs := [(iv p0.W), (iv p0.H), (iv p0.Rail), (iv p0.Gap), (.slice Ap0_0 (p0.Kinds).length cp0_0), (.slice Ap0_1 (p0.Slots).length cp0_1), (.slice Ap0_2 (p0.Marks).length cp0_2)]) (k := 1) rfl 4) rfl) ?_
  refine Tr.mv rfl rfl ?_
  obtain ⟨x107, hx107, H⟩ := bnd H
  obtain ⟨hx1070, hx1071, hx1072⟩ := idx_some hx107
  refine Tr.va rfl (fun _ _ h1 h2 => run_indexAddr el_22 (h1.ev rfl) hp0_0.form (h1.ev rfl) hx1070 hx1071) ?_
  refine Tr.va rfl (fun _ _ h1 h2 => run_fieldAddr fo_49_0 (h1.ev rfl)) ?_
  refine Tr.va rfl (fun _ _ h1 h2 => run_load1 ag_9 (h1.ev rfl) (CellsAt.drop (rdF ef_TBoardKind hp0_0 hx1072 h2) 0) rfl) ?_
  refine Tr.mv rfl rfl ?_
  refine Tr.va rfl (fun _ _ h1 h2 => run_eqlS (h1.ev rfl) (h1.ev rfl)) ?_
  refine Tr.nil (Tr.normThen ?_)
  refine Tr.cond rfl H (fun H => ?_) (fun H => ?_)
  ·refine Tr.sr ?_
   refine Tr.mv rfl rfl ?_
   refine Tr.asg rfl rfl ?_
   refine Tr.nil (Tr.normThen ?_)
   refine Tr.ret (Tr.retBlock (Tr.retThen (Tr.retThen (Tr.retBlock (Tr.retThen ?_)))))
   obtain rfl := Option.some.inj H
   exact Tr.out (m := [(iv x106)]) [] (res_tmp rfl res_nil) (fun W hW => ⟨rfl, hW.low leB⟩)
  ·refine Tr.skip (Tr.normBlock (Tr.normThen ?_))
   refine Tr.region ?_
   refine Tr.mv rfl rfl ?_
   refine Tr.va rfl (fun _ _ h1 h2 => run_add (h1.ev rfl) (h1.ev rfl)) ?_
   refine Tr.asg rfl rfl ?_
   refine Tr.nil ?_
   exact Tr.backThen leL1 (w64 (x106 + 1)) H (.cons rfl (.cons rfl (.cons rfl .nil))) (.cons rfl .nil)
 ·refine Tr.exit (Tr.exitThen (Tr.exitThen (Tr.exitBlock (Tr.normThen ?_))))
  refine Tr.sr ?_
  refine Tr.asg rfl rfl ?_
  refine Tr.nil (Tr.normThen ?_)
  refine Tr.ret ?_
  obtain rfl := Option.some.inj H
  exact Tr.out (m := [(iv (-1))]) [] (res_tmp rfl res_nil) (fun W hW => ⟨rfl, hW.low leB⟩)

theorem F_etchhouseref9_sizeOf_ok {w : Bs} (p0 : TBoardKind) (p1 : Int) (r : (Int × Int)) (H : F_etchhouseref9_sizeOf p0 p1 = some r) (hE : HF w w.W E0) : Calls Tryz.prog 60 [(.agg #[(sv p0.Name), (iv p0.W), (iv p0.H)]), (iv p1)].toArray w.W fun e W' => e = .returned (.tuple #[(iv r.1), (iv r.2)]) ∧ HF w W' E0 := by
 unfold F_etchhouseref9_sizeOf at H
 have leB := Bs.Le.refl w
 refine Tr.enter (n := 17) Tryz.func60 rfl rfl rfl hE ?_
 refine Tr.sr ?_
 refine Tr.box 1 (cs := [(sv p0.Name), (iv p0.W), (iv p0.H)]) (wn rfl) rfl rfl rfl fun b100 => ?_
 refine Tr.asg rfl rfl ?_
 refine Tr.asg rfl rfl ?_
 refine Tr.nil (Tr.normThen ?_)
 refine Tr.seq ?_
 refine Tr.sr ?_
 refine Tr.mv rfl rfl ?_
 refine Tr.va rfl (fun _ _ h1 h2 => run_rem (h1.ev rfl) (h1.ev rfl) (by decide)) ?_
 refine Tr.va rfl (fun _ _ h1 h2 => run_eql (h1.ev rfl) (h1.ev rfl)) ?_
 refine Tr.nil (Tr.normThen ?_)
 refine Tr.cond rfl H (fun H => ?_) (fun H => ?_)
 ·refine Tr.seq ?_
  refine Tr.draw (by kernel_rfl) (by kernel_rfl) ?_
  refine Tq.va rfl (fun _ _ h1 h2 => run_fieldAddr fo_49_2 (h1.ev rfl)) ?_
  refine Tq.va rfl (fun _ _ h1 h2 => run_load1 ag_3 (h1.ev rfl) (rdb h2 (vs := [(sv p0.Name), (iv p0.W), (iv p0.H)]) (k := 1) rfl 2) rfl) ?_
  refine Tq.va rfl (fun _ _ h1 h2 => run_fieldAddr fo_49_1 (h1.ev rfl)) ?_
  refine Tq.va rfl (fun _ _ h1 h2 => run_load1 ag_3 (h1.ev rfl) (rdb h2 (vs := [(sv p0.Name), (iv p0.W), (iv p0.H)]) (k := 1) rfl 1) rfl) ?_
  refine Tq.asg rfl rfl ?_
  refine Tq.asg rfl rfl ?_
  refine Tq.nil (Tr.normThen ?_)
  refine Tr.ret (Tr.retThen ?_)
  obtain rfl := Option.some.inj H
  exact Tr.out (m := [(iv p0.H), (iv p0.W)]) [] (res_tmp rfl (res_tmp rfl res_nil)) (fun W hW => ⟨rfl, hW.low leB⟩)
 ·refine Tr.skip (Tr.normThen ?_)
  refine Tr.seq ?_
  refine Tr.draw (by kernel_rfl) (by kernel_rfl) ?_
  refine Tq.va rfl (fun _ _ h1 h2 => run_fieldAddr fo_49_1 (h1.ev rfl)) ?_
  refine Tq.va rfl (fun _ _ h1 h2 => run_load1 ag_3 (h1.ev rfl) (rdb h2 (vs := [(sv p0.Name), (iv p0.W), (iv p0.H)]) (k := 1) rfl 1) rfl) ?_
  refine Tq.va rfl (fun _ _ h1 h2 => run_fieldAddr fo_49_2 (h1.ev rfl)) ?_
  refine Tq.va rfl (fun _ _ h1 h2 => run_load1 ag_3 (h1.ev rfl) (rdb h2 (vs := [(sv p0.Name), (iv p0.W), (iv p0.H)]) (k := 1) rfl 2) rfl) ?_
  refine Tq.asg rfl rfl ?_
  refine Tq.asg rfl rfl ?_
  refine Tq.nil (Tr.normThen ?_)
  refine Tr.ret ?_
  obtain rfl := Option.some.inj H
  exact Tr.out (m := [(iv p0.W), (iv p0.H)]) [] (res_tmp rfl (res_tmp rfl res_nil)) (fun W hW => ⟨rfl, hW.low leB⟩)

theorem F_etchhouseref9_lies_ok {w : Bs} (p0 : TPanel) (Ap0_0 : Option Addr) (cp0_0 : Nat) (hp0_0 : Sl w.R w.W fl_TBoardKind Ap0_0 cp0_0 p0.Kinds) (Ap0_1 : Option Addr) (cp0_1 : Nat) (hp0_1 : Sl w.R w.W fl_TSlot Ap0_1 cp0_1 p0.Slots) (Ap0_2 : Option Addr) (cp0_2 : Nat) (hp0_2 : Sl w.R w.W fl_TPoint Ap0_2 cp0_2 p0.Marks) (p1 : TPoint) (p2 : Int) (p3 : Int) (r : Bool) (H : F_etchhouseref9_lies p0 p1 p2 p3 = some r) (hE : HF w w.W E0) : Calls Tryz.prog 61 [(.agg #[(iv p0.W), (iv p0.H), (iv p0.Rail), (iv p0.Gap), (.slice Ap0_0 (p0.Kinds).length cp0_0), (.slice Ap0_1 (p0.Slots).length cp0_1), (.slice Ap0_2 (p0.Marks).length cp0_2)]), (.agg #[(iv p1.X), (iv p1.Y)]), (iv p2), (iv p3)].toArray w.W fun e W' => e = .returned (.bool r) ∧ HF w W' E0 := by
 unfold F_etchhouseref9_lies at H
 have leB := Bs.Le.refl w
 refine Tr.enter (n := 35) Tryz.func61 rfl rfl rfl hE ?_
 refine Tr.sr ?_
 refine Tr.box 1 (cs := [(iv p0.W), (iv p0.H), (iv p0.Rail), (iv p0.Gap), (.slice Ap0_0 (p0.Kinds).length cp0_0), (.slice Ap0_1 (p0.Slots).length cp0_1), (.slice Ap0_2 (p0.Marks).length cp0_2)]) (wn rfl) rfl rfl rfl fun b100 => ?_
 refine Tr.box 2 (cs := [(iv p1.X), (iv p1.Y)]) (wn rfl) rfl rfl rfl fun b101 => ?_
 refine Tr.asg rfl rfl ?_
 refine Tr.nil (Tr.normThen ?_)
 refine Tr.sr ?_
 refine Tr.va rfl (fun _ _ h1 h2 => run_fieldAddr fo_51_0 (h1.ev rfl)) ?_
 refine Tr.va rfl (fun _ _ h1 h2 => run_load1 ag_3 (h1.ev rfl) (rdb h2 (vs := [(iv p1.X), (iv p1.Y)]) (k := 2) rfl 0) rfl) ?_
 refine Tr.va rfl (fun _ _ h1 h2 => run_fieldAddr fo_26_2 (h1.ev rfl)) ?_
 refine Tr.va rfl (fun _ _ h1 h2 => run_load1 ag_3 (h1.ev rfl) (rdb h2 (vs := [(iv p0.W), (iv p0.H), (iv p0.Rail), (iv p0.Gap), (.slice Ap0_0 (p0.Kinds).length cp0_0), (.slice Ap0_1 (p0.Slots).length cp0_1), (.slice Ap0_2 (p0.Marks).length cp0_2)]) (k := 1) rfl 2) rfl) ?_
 refine Tr.va rfl (fun _ _ h1 h2 => run_fieldAddr fo_26_0 (h1.ev rfl)) ?_
 refine Tr.va rfl (fun _ _ h1 h2 => run_load1 ag_3 (h1.ev rfl) (rdb h2 (vs := [(iv p0.W), (iv p0.H), (iv p0.Rail), (iv p0.Gap), (.slice Ap0_0 (p0.Kinds).length cp0_0), (.slice Ap0_1 (p0.Slots).length cp0_1), (.slice Ap0_2 (p0.Marks).length cp0_2)]) (k := 1) rfl 0) rfl) ?_
 refine Tr.va rfl (fun _ _ h1 h2 => run_fieldAddr fo_26_2 (h1.ev rfl)) ?_
 refine Tr.va rfl (fun _ _ h1 h2 => run_load1 ag_3 (h1.ev rfl) (rdb h2 (vs := [(iv p0.W), (iv p0.H), (iv p0.Rail), (iv p0.Gap), (.slice Ap0_0 (p0.Kinds).length cp0_0), (.slice Ap0_1 (p0.Slots).length cp0_1), (.slice Ap0_2 (p0.Marks).length cp0_2)]) (k := 1) rfl 2) rfl) ?_
 refine Tr.va rfl (fun _ _ h1 h2 => run_sub (h1.ev rfl) (h1.ev rfl)) ?_
 refine Tr.mv rfl rfl ?_
 refine Tr.va rfl (fun _ _ h1 h2 => run_sub (h1.ev rfl) (h1.ev rfl)) ?_
 obtain ⟨y102, hy102, H⟩ := bnd H
 refine Tr.call0 (r := (.bool y102)) (wn rfl) rfl Tryz.call35 (evl_cons rfl (evl_cons rfl (evl_cons rfl evl_nil))) (fun W hW => F_etchhouseref9_within_ok p1.X p0.Rail (w64 ((w64 (p0.W - p0.Rail)) - p2)) y102 hy102 (HF.start _)) ?_
 refine Tr.mv rfl rfl ?_
 obtain ⟨g104, hg104, H⟩ := bnd H
 refine Tr.mid0 13 [(34, (.bool g104))] [(1, bx b100 #[(iv p0.W), (iv p0.H), (iv p0.Rail), (iv p0.Gap), (.slice Ap0_0 (p0.Kinds).length cp0_0), (.slice Ap0_1 (p0.Slots).length cp0_1), (.slice Ap0_2 (p0.Marks).length cp0_2)] 26), (2, bx b101 #[(iv p1.X), (iv p1.Y)] 51)] ?_ ?_
 ·cases hg105 : y102
  ·rw [hg105] at hg104
   rw [if_neg (by decide)] at hg104
   have H := hg104
   obtain rfl := Option.some.inj H
   refine Tr.pass rfl rfl rfl rfl rfl (by decide) ?_
   refine Tr.pass rfl rfl rfl rfl rfl (by decide) ?_
   refine Tr.pass rfl rfl rfl rfl rfl (by decide) ?_
   refine Tr.pass rfl rfl rfl rfl rfl (by decide) ?_
   refine Tr.pass rfl rfl rfl rfl rfl (by decide) ?_
   refine Tr.pass rfl rfl rfl rfl rfl (by decide) ?_
   refine Tr.pass rfl rfl rfl rfl rfl (by decide) ?_
   refine Tr.pass rfl rfl rfl rfl rfl (by decide) ?_
   refine Tr.pass rfl rfl rfl rfl rfl (by decide) ?_
   refine Tr.pass rfl rfl rfl rfl rfl (by decide) ?_
   refine Tr.pass rfl rfl rfl rfl rfl (by decide) ?_
   refine Tr.pass rfl rfl rfl rfl rfl (by decide) ?_
   refine Tr.va rfl (fun _ _ h1 h2 => run_pickF (h1.ev rfl) (h1.ev rfl)) ?_
   exact Tr.nil (Tr.fin0 (.cons rfl .nil) (.cons rfl (.cons rfl .nil)))
  ·rw [hg105] at hg104
   rw [if_pos rfl] at hg104
   have H := hg104
   refine Tr.val (wg rfl rfl rfl) rfl (fun _ _ h1 h2 => run_fieldAddr fo_51_1 (h1.ev rfl)) ?_
   refine Tr.val (wg rfl rfl rfl) rfl (fun _ _ h1 h2 => run_load1 ag_3 (h1.ev rfl) (rdb h2 (vs := [(iv p1.X), (iv p1.Y)]) (k := 2) rfl 1) rfl) ?_
   refine Tr.val (wg rfl rfl rfl) rfl (fun _ _ h1 h2 => run_fieldAddr fo_26_2 (h1.ev rfl)) ?_
   refine Tr.val (wg rfl rfl rfl) rfl (fun _ _ h1 h2 => run_load1 ag_3 (h1.ev rfl) (rdb h2 (vs := [(iv p0.W), (iv p0.H), (iv p0.Rail), (iv p0.Gap), (.slice Ap0_0 (p0.Kinds).length cp0_0), (.slice Ap0_1 (p0.Slots).length cp0_1), (.slice Ap0_2 (p0.Marks).length cp0_2)]) (k := 1) rfl 2) rfl) ?_
   refine Tr.val (wg rfl rfl rfl) rfl (fun _ _ h1 h2 => run_fieldAddr fo_26_1 (h1.ev rfl)) ?_
   refine Tr.val (wg rfl rfl rfl) rfl (fun _ _ h1 h2 => run_load1 ag_3 (h1.ev rfl) (rdb h2 (vs := [(iv p0.W), (iv p0.H), (iv p0.Rail), (iv p0.Gap), (.slice Ap0_0 (p0.Kinds).length cp0_0), (.slice Ap0_1 (p0.Slots).length cp0_1), (.slice Ap0_2 (p0.Marks).length cp0_2)]) (k := 1) rfl 1) rfl) ?_
   refine Tr.val (wg rfl rfl rfl) rfl (fun _ _ h1 h2 => run_fieldAddr fo_26_2 (h1.ev rfl)) ?_
   refine Tr.val (wg rfl rfl rfl) rfl (fun _ _ h1 h2 => run_load1 ag_3 (h1.ev rfl) (rdb h2 (vs := [(iv p0.W), (iv p0.H), (iv p0.Rail), (iv p0.Gap), (.slice Ap0_0 (p0.Kinds).length cp0_0), (.slice Ap0_1 (p0.Slots).length cp0_1), (.slice Ap0_2 (p0.Marks).length cp0_2)]) (k := 1) rfl 2) rfl) ?_
   refine Tr.val (wg rfl rfl rfl) rfl (fun _ _ h1 h2 => run_sub (h1.ev rfl) (h1.ev rfl)) ?_
   refine Tr.val (wg rfl rfl rfl) rfl (fun _ _ h1 h2 => run_move (h1.ev rfl)) ?_
   refine Tr.val (wg rfl rfl rfl) rfl (fun _ _ h1 h2 => run_sub (h1.ev rfl) (h1.ev rfl)) ?_
   obtain ⟨y105, hy105, H⟩ := bnd H
   refine Tr.call0 (r := (.bool y105)) (wg rfl rfl rfl) rfl Tryz.call35 (evl_cons rfl (evl_cons rfl (evl_cons rfl evl_nil))) (fun W hW => F_etchhouseref9_within_ok p1.Y p0.Rail (w64 ((w64 (p0.H - p0.Rail)) - p3)) y105 hy105 (HF.start _)) ?_
   refine Tr.va rfl (fun _ _ h1 h2 => run_pickT (h1.ev rfl) (h1.ev rfl)) ?_
   obtain rfl := Option.some.inj H
   exact Tr.nil (Tr.fin0 (.cons rfl .nil) (.cons rfl (.cons rfl .nil)))
 ·show Tr _ _ (LF [(34, (.bool g104))]) (LE [(1, bx b100 #[(iv p0.W), (iv p0.H), (iv p0.Rail), (iv p0.Gap), (.slice Ap0_0 (p0.Kinds).length cp0_0), (.slice Ap0_1 (p0.Slots).length cp0_1), (.slice Ap0_2 (p0.Marks).length cp0_2)] 26), (2, bx b101 #[(iv p1.X), (iv p1.Y)] 51)]) _
  refine Tr.asg rfl rfl ?_
  refine Tr.nil (Tr.normThen ?_)
  refine Tr.ret ?_
  obtain rfl := Option.some.inj H
  exact Tr.out (m := [(.bool g104)]) [] (res_tmp rfl res_nil) (fun W hW => ⟨rfl, hW.low leB⟩)

theorem F_etchhouseref9_cellOf_ok (N : Nat) {w : Bs} (p0 : TPanel) (Ap0_0 : Option Addr) (cp0_0 : Nat) (hp0_0 : Sl w.R w.W fl_TBoardKind Ap0_0 cp0_0 p0.Kinds) (Ap0_1 : Option Addr) (cp0_1 : Nat) (hp0_1 : Sl w.R w.W fl_TSlot Ap0_1 cp0_1 p0.Slots) (Ap0_2 : Option Addr) (cp0_2 : Nat) (hp0_2 : Sl w.R w.W fl_TPoint Ap0_2 cp0_2 p0.Marks) (p1 : TSlot) (r : TRect) (H : F_etchhouseref9_cellOf N p0 p1 = some r) (hE : HF w w.W E0) : Calls Tryz.prog 63 [(.agg #[(iv p0.W), (iv p0.H), (iv p0.Rail), (iv p0.Gap), (.slice Ap0_0 (p0.Kinds).length cp0_0), (.slice Ap0_1 (p0.Slots).length cp0_1), (.slice Ap0_2 (p0.Marks).length cp0_2)]), (.agg #[(sv p1.Board), (iv p1.Quarters), (iv p1.At.X), (iv p1.At.Y)])].toArray w.W fun e W' => e = .returned (.agg #[(iv r.X0), (iv r.Y0), (iv r.X1), (iv r.Y1)]) ∧ HF w W' E0 := by
 unfold F_etchhouseref9_cellOf at H
 have leB := Bs.Le.refl w
 refine Tr.enter (n := 38) Tryz.func63 rfl rfl rfl hE ?_
 refine Tr.sr ?_
 refine Tr.box 1 (cs := [(iv p0.W), (iv p0.H), (iv p0.Rail), (iv p0.Gap), (.slice Ap0_0 (p0.Kinds).length cp0_0), (.slice Ap0_1 (p0.Slots).length cp0_1), (.slice Ap0_2 (p0.Marks).length cp0_2)]) (wn rfl) rfl rfl rfl fun b100 => ?_
 refine Tr.box 2 (cs := [(sv p1.Board), (iv p1.Quarters), (iv p1.At.X), (iv p1.At.Y)]) (wn rfl) rfl rfl rfl fun b101 => ?_
 refine Tr.alloc 3 (wn rfl) rfl ze_86 fun b102 => ?_
 refine Tr.nil (Tr.normThen ?_)
 refine Tr.seq ?_
 refine Tr.draw (by kernel_rfl) (by kernel_rfl) ?_
 refine Tq.va rfl (fun _ _ h1 h2 => run_fieldAddr fo_26_4 (h1.ev rfl)) ?_
 refine Tq.va rfl (fun _ _ h1 h2 => run_load1 ag_22 (h1.ev rfl) (rdb h2 (vs := [(iv p0.W), (iv p0.H), (iv p0.Rail), (iv p0.Gap), (.slice Ap0_0 (p0.Kinds).length cp0_0), (.slice Ap0_1 (p0.Slots).length cp0_1), (.slice Ap0_2 (p0.Marks).length cp0_2)]) (k := 1) rfl 4) rfl) ?_
 refine Tq.va rfl (fun _ _ h1 h2 => run_loadN (cs := [(iv p0.W), (iv p0.H), (iv p0.Rail), (iv p0.Gap), (.slice Ap0_0 (p0.Kinds).length cp0_0), (.slice Ap0_1 (p0.Slots).length cp0_1), (.slice Ap0_2 (p0.Marks).length cp0_2)]) ag_26 sz_26 (h1.ev rfl) (CellsAt.take (rdb h2 (vs := [(iv p0.W), (iv p0.H), (iv p0.Rail), (iv p0.Gap), (.slice Ap0_0 (p0.Kinds).length cp0_0), (.slice Ap0_1 (p0.Slots).length cp0_1), (.slice Ap0_2 (p0.Marks).length cp0_2)]) (k := 1) rfl 0) 7) rfl) ?_
 refine Tq.va rfl (fun _ _ h1 h2 => run_fieldAddr fo_53_0 (h1.ev rfl)) ?_
 refine Tq.va rfl (fun _ _ h1 h2 => run_load1 ag_9 (h1.ev rfl) (rdb h2 (vs := [(sv p1.Board), (iv p1.Quarters), (iv p1.At.X), (iv p1.At.Y)]) (k := 2) rfl 0) rfl) ?_
 obtain ⟨y103, hy103, H⟩ := bnd H
 refine Tq.call0 (r := (iv y103)) (wn rfl) rfl Tryz.call59 (evl_cons rfl (evl_cons rfl evl_nil)) (fun W hW => F_etchhouseref9_kind_ok N p0 Ap0_0 cp0_0 (hp0_0.ext hW.extAll) Ap0_1 cp0_1 (hp0_1.ext hW.extAll) Ap0_2 cp0_2 (hp0_2.ext hW.extAll) p1.Board y103 hy103 (HF.start _)) ?_
 obtain ⟨x104, hx104, H⟩ := bnd H
 obtain ⟨hx1040, hx1041, hx1042⟩ := idx_some hx104
 refine Tq.va rfl (fun _ _ h1 h2 => run_indexAddr el_22 (h1.ev rfl) hp0_0.form (h1.ev rfl) hx1040 hx1041) ?_
 refine Tq.va rfl (fun _ _ h1 h2 => run_loadN (cs := [(sv x104.Name), (iv x104.W), (iv x104.H)]) ag_49 sz_49 (h1.ev rfl) (CellsAt.take (rdF ef_TBoardKind hp0_0 hx1042 h2) 3) rfl) ?_
 refine Tq.va rfl (fun _ _ h1 h2 => run_fieldAddr fo_53_1 (h1.ev rfl)) ?_
 refine Tq.va rfl (fun _ _ h1 h2 => run_load1 ag_3 (h1.ev rfl) (rdb h2 (vs := [(sv p1.Board), (iv p1.Quarters), (iv p1.At.X), (iv p1.At.Y)]) (k := 2) rfl 1) rfl) ?_
 obtain ⟨y105, hy105, H⟩ := bnd H
 refine Tq.call0 (r := (.tuple #[(iv y105.1), (iv y105.2)])) (wn rfl) rfl Tryz.call60 (evl_cons rfl (evl_cons rfl evl_nil)) (fun W hW => F_etchhouseref9_sizeOf_ok x104 p1.Quarters y105 hy105 (HF.start _)) ?_
 refine Tq.mv rfl rfl ?_
 refine Tq.va rfl (fun _ _ h1 h2 => run_extract (h1.ev rfl) rfl) ?_
 refine Tq.va rfl (fun _ _ h1 h2 => run_extract (h1.ev rfl) rfl) ?_
 refine Tq.asg rfl rfl ?_
 refine Tq.asg rfl rfl ?_
 refine Tq.nil (Tr.normThen ?_)
 refine Tr.sr ?_
 refine Tr.va rfl (fun _ _ h1 h2 => run_fieldAddr fo_53_2 (h1.ev rfl)) ?_
 refine Tr.va rfl (fun _ _ h1 h2 => run_fieldAddr fo_51_0 (h1.ev rfl)) ?_
 refine Tr.va rfl (fun _ _ h1 h2 => run_load1 ag_3 (h1.ev rfl) (rdb h2 (vs := [(sv p1.Board), (iv p1.Quarters), (iv p1.At.X), (iv p1.At.Y)]) (k := 2) rfl 2) rfl) ?_
 refine Tr.va rfl (fun _ _ h1 h2 => run_fieldAddr fo_53_2 (h1.ev rfl)) ?_
 refine Tr.va rfl (fun _ _ h1 h2 => run_fieldAddr fo_51_1 (h1.ev rfl)) ?_
 refine Tr.va rfl (fun _ _ h1 h2 => run_load1 ag_3 (h1.ev rfl) (rdb h2 (vs := [(sv p1.Board), (iv p1.Quarters), (iv p1.At.X), (iv p1.At.Y)]) (k := 2) rfl 3) rfl) ?_
 refine Tr.va rfl (fun _ _ h1 h2 => run_fieldAddr fo_53_2 (h1.ev rfl)) ?_
 refine Tr.va rfl (fun _ _ h1 h2 => run_fieldAddr fo_51_0 (h1.ev rfl)) ?_
 refine Tr.va rfl (fun _ _ h1 h2 => run_load1 ag_3 (h1.ev rfl) (rdb h2 (vs := [(sv p1.Board), (iv p1.Quarters), (iv p1.At.X), (iv p1.At.Y)]) (k := 2) rfl 2) rfl) ?_
 refine Tr.mv rfl rfl ?_
 refine Tr.va rfl (fun _ _ h1 h2 => run_add (h1.ev rfl) (h1.ev rfl)) ?_
 refine Tr.va rfl (fun _ _ h1 h2 => run_fieldAddr fo_53_2 (h1.ev rfl)) ?_
 refine Tr.va rfl (fun _ _ h1 h2 => run_fieldAddr fo_51_1 (h1.ev rfl)) ?_
 refine Tr.va rfl (fun _ _ h1 h2 => run_load1 ag_3 (h1.ev rfl) (rdb h2 (vs := [(sv p1.Board), (iv p1.Quarters), (iv p1.At.X), (iv p1.At.Y)]) (k := 2) rfl 3) rfl) ?_
 refine Tr.mv rfl rfl ?_
 refine Tr.va rfl (fun _ _ h1 h2 => run_add (h1.ev rfl) (h1.ev rfl)) ?_
 refine Tr.build (vs := [(0, (iv p1.At.X)), (1, (iv p1.At.Y)), (2, (iv (w64 (p1.At.X + y105.1)))), (3, (iv (w64 (p1.At.Y + y105.2))))]) (cs := [(iv p1.At.X), (iv p1.At.Y), (iv (w64 (p1.At.X + y105.1))), (iv (w64 (p1.At.Y + y105.2)))]) (wn rfl) rfl (evs_cons rfl (evs_cons rfl (evs_cons rfl (evs_cons rfl evs_nil)))) (by kernel_rfl) ?_
 refine Tr.store 3 (cs := [(iv p1.At.X), (iv p1.At.Y), (iv (w64 (p1.At.X + y105.1))), (iv (w64 (p1.At.Y + y105.2)))]) [(iv p1.At.X), (iv p1.At.Y), (iv (w64 (p1.At.X + y105.1))), (iv (w64 (p1.At.Y + y105.2)))] (wn rfl) rfl rfl rfl rfl sz_86 rfl rfl rfl ?_
 refine Tr.nil (Tr.normThen ?_)
 refine Tr.ret ?_
 obtain rfl := Option.some.inj H
 exact Tr.out (m := [(.agg #[(iv p1.At.X), (iv p1.At.Y), (iv (w64 (p1.At.X + y105.1))), (iv (w64 (p1.At.Y + y105.2)))])]) [3] (res_cell rfl rfl ag_86 sz_86 res_nil) (fun W hW => ⟨rfl, hW.low leB⟩)

theorem F_etchhouseref9_apart_ok {w : Bs} (p0 : TRect) (p1 : TRect) (p2 : Int) (r : Bool) (H : F_etchhouseref9_apart p0 p1 p2 = some r) (hE : HF w w.W E0) : Calls Tryz.prog 62 [(.agg #[(iv p0.X0), (iv p0.Y0), (iv p0.X1), (iv p0.Y1)]), (.agg #[(iv p1.X0), (iv p1.Y0), (iv p1.X1), (iv p1.Y1)]), (iv p2)].toArray w.W fun e W' => e = .returned (.bool r) ∧ HF w W' E0 := by
 unfold F_etchhouseref9_apart at H
 have leB := Bs.Le.refl w
 refine Tr.enter (n := 41) Tryz.func62 rfl rfl rfl hE ?_
 refine Tr.sr ?_
 refine Tr.box 1 (cs := [(iv p0.X0), (iv p0.Y0), (iv p0.X1), (iv p0.Y1)]) (wn rfl) rfl rfl rfl fun b100 => ?_
 refine Tr.box 2 (cs := [(iv p1.X0), (iv p1.Y0), (iv p1.X1), (iv p1.Y1)]) (wn rfl) rfl rfl rfl fun b101 => ?_
 refine Tr.asg rfl rfl ?_
 refine Tr.nil (Tr.normThen ?_)
 refine Tr.sr ?_
 refine Tr.va rfl (fun _ _ h1 h2 => run_fieldAddr fo_86_2 (h1.ev rfl)) ?_
 refine Tr.va rfl (fun _ _ h1 h2 => run_load1 ag_3 (h1.ev rfl) (rdb h2 (vs := [(iv p0.X0), (iv p0.Y0), (iv p0.X1), (iv p0.Y1)]) (k := 1) rfl 2) rfl) ?_
 refine Tr.mv rfl rfl ?_
 refine Tr.va rfl (fun _ _ h1 h2 => run_add (h1.ev rfl) (h1.ev rfl)) ?_
 refine Tr.va rfl (fun _ _ h1 h2 => run_fieldAddr fo_86_0 (h1.ev rfl)) ?_
 refine Tr.va rfl (fun _ _ h1 h2 => run_load1 ag_3 (h1.ev rfl) (rdb h2 (vs := [(iv p1.X0), (iv p1.Y0), (iv p1.X1), (iv p1.Y1)]) (k := 2) rfl 0) rfl) ?_
 refine Tr.va rfl (fun _ _ h1 h2 => run_leq (h1.ev rfl) (h1.ev rfl)) ?_
 refine Tr.mv rfl rfl ?_
 refine Tr.mid0 8 [(2, (iv p2)), (3, (.pointer (some ⟨b100, 0, none⟩))), (4, (.pointer (some ⟨b101, 0, none⟩))), (22, (.bool ((decide ((w64 (p0.X1 + p2)) ≤ p1.X0)) || (decide ((w64 (p1.X1 + p2)) ≤ p0.X0)))))] [(1, bx b100 #[(iv p0.X0), (iv p0.Y0), (iv p0.X1), (iv p0.Y1)] 86), (2, bx b101 #[(iv p1.X0), (iv p1.Y0), (iv p1.X1), (iv p1.Y1)] 86)] ?_ ?_
 ·cases hg101 : (decide ((w64 (p0.X1 + p2)) ≤ p1.X0))
  ·refine Tr.val (wg rfl rfl rfl) rfl (fun _ _ h1 h2 => run_fieldAddr fo_86_2 (h1.ev rfl)) ?_
   refine Tr.val (wg rfl rfl rfl) rfl (fun _ _ h1 h2 => run_load1 ag_3 (h1.ev rfl) (rdb h2 (vs := [(iv p1.X0), (iv p1.Y0), (iv p1.X1), (iv p1.Y1)]) (k := 2) rfl 2) rfl) ?_
   refine Tr.val (wg rfl rfl rfl) rfl (fun _ _ h1 h2 => run_move (h1.ev rfl)) ?_
   refine Tr.val (wg rfl rfl rfl) rfl (fun _ _ h1 h2 => run_add (h1.ev rfl) (h1.ev rfl)) ?_
   refine Tr.val (wg rfl rfl rfl) rfl (fun _ _ h1 h2 => run_fieldAddr fo_86_0 (h1.ev rfl)) ?_
   refine Tr.val (wg rfl rfl rfl) rfl (fun _ _ h1 h2 => run_load1 ag_3 (h1.ev rfl) (rdb h2 (vs := [(iv p0.X0), (iv p0.Y0), (iv p0.X1), (iv p0.Y1)]) (k := 1) rfl 0) rfl) ?_
   refine Tr.val (wg rfl rfl rfl) rfl (fun _ _ h1 h2 => run_leq (h1.ev rfl) (h1.ev rfl)) ?_
   refine Tr.va rfl (fun _ _ h1 h2 => run_pickF (h1.ev rfl) (h1.ev rfl)) ?_
   exact Tr.nil (Tr.fin0 (.cons rfl (.cons rfl (.cons rfl (.cons rfl .nil)))) (.cons rfl (.cons rfl .nil)))
  ·refine Tr.pass rfl rfl rfl rfl rfl (by decide) ?_
   refine Tr.pass rfl rfl rfl rfl rfl (by decide) ?_
   refine Tr.pass rfl rfl rfl rfl rfl (by decide) ?_
   refine Tr.pass rfl rfl rfl rfl rfl (by decide) ?_
   refine Tr.pass rfl rfl rfl rfl rfl (by decide) ?_
   refine Tr.pass rfl rfl rfl rfl rfl (by decide) ?_
   refine Tr.pass rfl rfl rfl rfl rfl (by decide) ?_
   refine Tr.va rfl (fun _ _ h1 h2 => run_pickT (h1.ev rfl) (h1.ev rfl)) ?_
   exact Tr.nil (Tr.fin0 (.cons rfl (.cons rfl (.cons rfl (.cons rfl .nil)))) (.cons rfl (.cons rfl .nil)))
 ·show Tr _ _ (LF [(2, (iv p2)), (3, (.pointer (some ⟨b100, 0, none⟩))), (4, (.pointer (some ⟨b101, 0, none⟩))), (22, (.bool ((decide ((w64 (p0.X1 + p2)) ≤ p1.X0)) || (decide ((w64 (p1.X1 + p2)) ≤ p0.X0)))))]) (LE [(1, bx b100 #[(iv p0.X0), (iv p0.Y0), (iv p0.X1), (iv p0.Y1)] 86), (2, bx b101 #[(iv p1.X0), (iv p1.Y0), (iv p1.X1), (iv p1.Y1)] 86)]) _
  refine Tr.mv rfl rfl ?_
  refine Tr.mid0 8 [(2, (iv p2)), (3, (.pointer (some ⟨b100, 0, none⟩))), (4, (.pointer (some ⟨b101, 0, none⟩))), (31, (.bool (((decide ((w64 (p0.X1 + p2)) ≤ p1.X0)) || (decide ((w64 (p1.X1 + p2)) ≤ p0.X0))) || (decide ((w64 (p0.Y1 + p2)) ≤ p1.Y0)))))] [(1, bx b100 #[(iv p0.X0), (iv p0.Y0), (iv p0.X1), (iv p0.Y1)] 86), (2, bx b101 #[(iv p1.X0), (iv p1.Y0), (iv p1.X1), (iv p1.Y1)] 86)] ?_ ?_
  ·cases hg101 : ((decide ((w64 (p0.X1 + p2)) ≤ p1.X0)) || (decide ((w64 (p1.X1 + p2)) ≤ p0.X0)))
   ·refine Tr.val (wg rfl rfl rfl) rfl (fun _ _ h1 h2 => run_fieldAddr fo_86_3 (h1.ev rfl)) ?_
    refine Tr.val (wg rfl rfl rfl) rfl (fun _ _ h1 h2 => run_load1 ag_3 (h1.ev rfl) (rdb h2 (vs := [(iv p0.X0), (iv p0.Y0), (iv p0.X1), (iv p0.Y1)]) (k := 1) rfl 3) rfl) ?_
    refine Tr.val (wg rfl rfl rfl) rfl (fun _ _ h1 h2 => run_move (h1.ev rfl)) ?_
    refine Tr.val (wg rfl rfl rfl) rfl (fun _ _ h1 h2 => run_add (h1.ev rfl) (h1.ev rfl)) ?_
    refine Tr.val (wg rfl rfl rfl) rfl (fun _ _ h1 h2 => run_fieldAddr fo_86_1 (h1.ev rfl)) ?_
    refine Tr.val (wg rfl rfl rfl) rfl (fun _ _ h1 h2 => run_load1 ag_3 (h1.ev rfl) (rdb h2 (vs := [(iv p1.X0), (iv p1.Y0), (iv p1.X1), (iv p1.Y1)]) (k := 2) rfl 1) rfl) ?_
    refine Tr.val (wg rfl rfl rfl) rfl (fun _ _ h1 h2 => run_leq (h1.ev rfl) (h1.ev rfl)) ?_
    refine Tr.va rfl (fun _ _ h1 h2 => run_pickF (h1.ev rfl) (h1.ev rfl)) ?_
    exact Tr.nil (Tr.fin0 (.cons rfl (.cons rfl (.cons rfl (.cons rfl .nil)))) (.cons rfl (.cons rfl .nil)))
   ·refine Tr.pass rfl rfl rfl rfl rfl (by decide) ?_
    refine Tr.pass rfl rfl rfl rfl rfl (by decide) ?_
    refine Tr.pass rfl rfl rfl rfl rfl (by decide) ?_
    refine Tr.pass rfl rfl rfl rfl rfl (by decide) ?_
    refine Tr.pass rfl rfl rfl rfl rfl (by decide) ?_
    refine Tr.pass rfl rfl rfl rfl rfl (by decide) ?_
    refine Tr.pass rfl rfl rfl rfl rfl (by decide) ?_
    refine Tr.va rfl (fun _ _ h1 h2 => run_pickT (h1.ev rfl) (h1.ev rfl)) ?_
    exact Tr.nil (Tr.fin0 (.cons rfl (.cons rfl (.cons rfl (.cons rfl .nil)))) (.cons rfl (.cons rfl .nil)))
  ·show Tr _ _ (LF [(2, (iv p2)), (3, (.pointer (some ⟨b100, 0, none⟩))), (4, (.pointer (some ⟨b101, 0, none⟩))), (31, (.bool (((decide ((w64 (p0.X1 + p2)) ≤ p1.X0)) || (decide ((w64 (p1.X1 + p2)) ≤ p0.X0))) || (decide ((w64 (p0.Y1 + p2)) ≤ p1.Y0)))))]) (LE [(1, bx b100 #[(iv p0.X0), (iv p0.Y0), (iv p0.X1), (iv p0.Y1)] 86), (2, bx b101 #[(iv p1.X0), (iv p1.Y0), (iv p1.X1), (iv p1.Y1)] 86)]) _
   refine Tr.mv rfl rfl ?_
   refine Tr.mid0 8 [(40, (.bool ((((decide ((w64 (p0.X1 + p2)) ≤ p1.X0)) || (decide ((w64 (p1.X1 + p2)) ≤ p0.X0))) || (decide ((w64 (p0.Y1 + p2)) ≤ p1.Y0))) || (decide ((w64 (p1.Y1 + p2)) ≤ p0.Y0)))))] [(1, bx b100 #[(iv p0.X0), (iv p0.Y0), (iv p0.X1), (iv p0.Y1)] 86), (2, bx b101 #[(iv p1.X0), (iv p1.Y0), (iv p1.X1), (iv p1.Y1)] 86)] ?_ ?_
   ·cases hg101 : (((decide ((w64 (p0.X1 + p2)) ≤ p1.X0)) || (decide ((w64 (p1.X1 + p2)) ≤ p0.X0))) || (decide ((w64 (p0.Y1 + p2)) ≤ p1.Y0)))
    ·refine Tr.val (wg rfl rfl rfl) rfl (fun _ _ h1 h2 => run_fieldAddr fo_86_3 (h1.ev rfl)) ?_
     refine Tr.val (wg rfl rfl rfl) rfl (fun _ _ h1 h2 => run_load1 ag_3 (h1.ev rfl) (rdb h2 (vs := [(iv p1.X0), (iv p1.Y0), (iv p1.X1), (iv p1.Y1)]) (k := 2) rfl 3) rfl) ?_
     refine Tr.val (wg rfl rfl rfl) rfl (fun _ _ h1 h2 => run_move (h1.ev rfl)) ?_
     refine Tr.val (wg rfl rfl rfl) rfl (fun _ _ h1 h2 => run_add (h1.ev rfl) (h1.ev rfl)) ?_
     refine Tr.val (wg rfl rfl rfl) rfl (fun _ _ h1 h2 => run_fieldAddr fo_86_1 (h1.ev rfl)) ?_
     refine Tr.val (wg rfl rfl rfl) rfl (fun _ _ h1 h2 => run_load1 ag_3 (h1.ev rfl) (rdb h2 (vs := [(iv p0.X0), (iv p0.Y0), (iv p0.X1), (iv p0.Y1)]) (k := 1) rfl 1) rfl) ?_
     refine Tr.val (wg rfl rfl rfl) rfl (fun _ _ h1 h2 => run_leq (h1.ev rfl) (h1.ev rfl)) ?_
     refine Tr.va rfl (fun _ _ h1 h2 => run_pickF (h1.ev rfl) (h1.ev rfl)) ?_
     exact Tr.nil (Tr.fin0 (.cons rfl .nil) (.cons rfl (.cons rfl .nil)))
    ·refine Tr.pass rfl rfl rfl rfl rfl (by decide) ?_
     refine Tr.pass rfl rfl rfl rfl rfl (by decide) ?_
     refine Tr.pass rfl rfl rfl rfl rfl (by decide) ?_
     refine Tr.pass rfl rfl rfl rfl rfl (by decide) ?_
     refine Tr.pass rfl rfl rfl rfl rfl (by decide) ?_
     refine Tr.pass rfl rfl rfl rfl rfl (by decide) ?_
     refine Tr.pass rfl rfl rfl rfl rfl (by decide) ?_
     refine Tr.va rfl (fun _ _ h1 h2 => run_pickT (h1.ev rfl) (h1.ev rfl)) ?_
     exact Tr.nil (Tr.fin0 (.cons rfl .nil) (.cons rfl (.cons rfl .nil)))
   ·show Tr _ _ (LF [(40, (.bool ((((decide ((w64 (p0.X1 + p2)) ≤ p1.X0)) || (decide ((w64 (p1.X1 + p2)) ≤ p0.X0))) || (decide ((w64 (p0.Y1 + p2)) ≤ p1.Y0))) || (decide ((w64 (p1.Y1 + p2)) ≤ p0.Y0)))))]) (LE [(1, bx b100 #[(iv p0.X0), (iv p0.Y0), (iv p0.X1), (iv p0.Y1)] 86), (2, bx b101 #[(iv p1.X0), (iv p1.Y0), (iv p1.X1), (iv p1.Y1)] 86)]) _
    refine Tr.asg rfl rfl ?_
    refine Tr.nil (Tr.normThen ?_)
    refine Tr.ret ?_
    obtain rfl := Option.some.inj H
    exact Tr.out (m := [(.bool ((((decide ((w64 (p0.X1 + p2)) ≤ p1.X0)) || (decide ((w64 (p1.X1 + p2)) ≤ p0.X0))) || (decide ((w64 (p0.Y1 + p2)) ≤ p1.Y0))) || (decide ((w64 (p1.Y1 + p2)) ≤ p0.Y0))))]) [] (res_tmp rfl res_nil) (fun W hW => ⟨rfl, hW.low leB⟩)

theorem F_etchhouseref9_checkSlot_ok (N : Nat) {w : Bs} (p0 : TPanel) (Ap0_0 : Option Addr) (cp0_0 : Nat) (hp0_0 : Sl w.R w.W fl_TBoardKind Ap0_0 cp0_0 p0.Kinds) (Ap0_1 : Option Addr) (cp0_1 : Nat) (hp0_1 : Sl w.R w.W fl_TSlot Ap0_1 cp0_1 p0.Slots) (Ap0_2 : Option Addr) (cp0_2 : Nat) (hp0_2 : Sl w.R w.W fl_TPoint Ap0_2 cp0_2 p0.Marks) (p1 : Int) (r : Int) (H : F_etchhouseref9_checkSlot N p0 p1 = some r) (hE : HF w w.W E0) : Calls Tryz.prog 37 [(.agg #[(iv p0.W), (iv p0.H), (iv p0.Rail), (iv p0.Gap), (.slice Ap0_0 (p0.Kinds).length cp0_0), (.slice Ap0_1 (p0.Slots).length cp0_1), (.slice Ap0_2 (p0.Marks).length cp0_2)]), (iv p1)].toArray w.W fun e W' => e = .returned (iv r) ∧ HF w W' E0 := by
 unfold F_etchhouseref9_checkSlot at H
 have leB := Bs.Le.refl w
 refine Tr.enter (n := 62) Tryz.func37 rfl rfl rfl hE ?_
 refine Tr.sr ?_
 refine Tr.box 1 (cs := [(iv p0.W), (iv p0.H), (iv p0.Rail), (iv p0.Gap), (.slice Ap0_0 (p0.Kinds).length cp0_0), (.slice Ap0_1 (p0.Slots).length cp0_1), (.slice Ap0_2 (p0.Marks).length cp0_2)]) (wn rfl) rfl rfl rfl fun b100 => ?_
 refine Tr.asg rfl rfl ?_
 refine Tr.nil (Tr.normThen ?_)
 refine Tr.sr ?_
 refine Tr.va rfl (fun _ _ h1 h2 => run_fieldAddr fo_26_5 (h1.ev rfl)) ?_
 refine Tr.va rfl (fun _ _ h1 h2 => run_load1 ag_23 (h1.ev rfl) (rdb h2 (vs := [(iv p0.W), (iv p0.H), (iv p0.Rail), (iv p0.Gap), (.slice Ap0_0 (p0.Kinds).length cp0_0), (.slice Ap0_1 (p0.Slots).length cp0_1), (.slice Ap0_2 (p0.Marks).length cp0_2)]) (k := 1) rfl 5) rfl) ?_
 refine Tr.mv rfl rfl ?_
 obtain ⟨x101, hx101, H⟩ := bnd H
 obtain ⟨hx1010, hx1011, hx1012⟩ := idx_some hx101
 refine Tr.va rfl (fun _ _ h1 h2 => run_indexAddr el_23 (h1.ev rfl) hp0_1.form (h1.ev rfl) hx1010 hx1011) ?_
 refine Tr.va rfl (fun _ _ h1 h2 => run_loadN (cs := [(sv x101.Board), (iv x101.Quarters), (iv x101.At.X), (iv x101.At.Y)]) ag_53 sz_53 (h1.ev rfl) (CellsAt.take (rdF ef_TSlot hp0_1 hx1012 h2) 4) rfl) ?_
 refine Tr.alloc 2 (wn rfl) rfl ze_53 fun b102 => ?_
 refine Tr.store 2 (cs := [(sv x101.Board), (iv x101.Quarters), (iv x101.At.X), (iv x101.At.Y)]) [(sv x101.Board), (iv x101.Quarters), (iv x101.At.X), (iv x101.At.Y)] (wn rfl) rfl rfl rfl rfl sz_53 rfl rfl rfl ?_
 refine Tr.nil (Tr.normThen ?_)
 refine Tr.sr ?_
 refine Tr.va rfl (fun _ _ h1 h2 => run_loadN (cs := [(iv p0.W), (iv p0.H), (iv p0.Rail), (iv p0.Gap), (.slice Ap0_0 (p0.Kinds).length cp0_0), (.slice Ap0_1 (p0.Slots).length cp0_1), (.slice Ap0_2 (p0.Marks).length cp0_2)]) ag_26 sz_26 (h1.ev rfl) (CellsAt.take (rdb h2 (vs := [(iv p0.W), (iv p0.H), (iv p0.Rail), (iv p0.Gap), (.slice Ap0_0 (p0.Kinds).length cp0_0), (.slice Ap0_1 (p0.Slots).length cp0_1), (.slice Ap0_2 (p0.Marks).length cp0_2)]) (k := 1) rfl 0) 7) rfl) ?_
 refine Tr.va rfl (fun _ _ h1 h2 => run_fieldAddr fo_53_0 (h1.ev rfl)) ?_
 refine Tr.va rfl (fun _ _ h1 h2 => run_load1 ag_9 (h1.ev rfl) (rdb h2 (vs := [(sv x101.Board), (iv x101.Quarters), (iv x101.At.X), (iv x101.At.Y)]) (k := 2) rfl 0) rfl) ?_
 obtain ⟨y103, hy103, H⟩ := bnd H
 refine Tr.call0 (r := (iv y103)) (wn rfl) rfl Tryz.call59 (evl_cons rfl (evl_cons rfl evl_nil)) (fun W hW => F_etchhouseref9_kind_ok N p0 Ap0_0 cp0_0 (hp0_0.ext hW.extAll) Ap0_1 cp0_1 (hp0_1.ext hW.extAll) Ap0_2 cp0_2 (hp0_2.ext hW.extAll) x101.Board y103 hy103 (HF.start _)) ?_
 refine Tr.asg rfl rfl ?_
 refine Tr.nil (Tr.normThen ?_)
 refine Tr.seq ?_
 refine Tr.sr ?_
 refine Tr.mv rfl rfl ?_
 refine Tr.va rfl (fun _ _ h1 h2 => run_lss (h1.ev rfl) (h1.ev rfl)) ?_
 refine Tr.nil (Tr.normThen ?_)
 refine Tr.cond rfl H (fun H => ?_) (fun H => ?_)
 ·refine Tr.sr ?_
  refine Tr.asg rfl rfl ?_
  refine Tr.nil (Tr.normThen ?_)
  refine Tr.ret (Tr.retThen ?_)
  obtain rfl := Option.some.inj H
  exact Tr.out (m := [(iv 5)]) [] (res_tmp rfl res_nil) (fun W hW => ⟨rfl, hW.low leB⟩)
 ·refine Tr.skip (Tr.normThen ?_)
  refine Tr.seq ?_
  refine Tr.sr ?_
  refine Tr.va rfl (fun _ _ h1 h2 => run_fieldAddr fo_53_1 (h1.ev rfl)) ?_
  refine Tr.va rfl (fun _ _ h1 h2 => run_load1 ag_3 (h1.ev rfl) (rdb h2 (vs := [(sv x101.Board), (iv x101.Quarters), (iv x101.At.X), (iv x101.At.Y)]) (k := 2) rfl 1) rfl) ?_
  obtain ⟨y104, hy104, H⟩ := bnd H
  refine Tr.call0 (r := (.bool y104)) (wn rfl) rfl Tryz.call35 (evl_cons rfl (evl_cons rfl (evl_cons rfl evl_nil))) (fun W hW => F_etchhouseref9_within_ok x101.Quarters 0 3 y104 hy104 (HF.start _)) ?_
  refine Tr.va rfl (fun _ _ h1 h2 => run_not (h1.ev rfl)) ?_
  refine Tr.nil (Tr.normThen ?_)
  refine Tr.cond rfl H (fun H => ?_) (fun H => ?_)
  ·refine Tr.sr ?_
   refine Tr.asg rfl rfl ?_
   refine Tr.nil (Tr.normThen ?_)
   refine Tr.ret (Tr.retThen ?_)
   obtain rfl := Option.some.inj H
   exact Tr.out (m := [(iv 1)]) [] (res_tmp rfl res_nil) (fun W hW => ⟨rfl, hW.low leB⟩)
  ·refine Tr.skip (Tr.normThen ?_)
   refine Tr.seq ?_
   refine Tr.seq ?_
   refine Tr.draw (by kernel_rfl) (by kernel_rfl) ?_
   refine Tq.va rfl (fun _ _ h1 h2 => run_fieldAddr fo_26_4 (h1.ev rfl)) ?_
   refine Tq.va rfl (fun _ _ h1 h2 => run_load1 ag_22 (h1.ev rfl) (rdb h2 (vs := [(iv p0.W), (iv p0.H), (iv p0.Rail), (iv p0.Gap), (.slice Ap0_0 (p0.Kinds).length cp0_0), (.slice Ap0_1 (p0.Slots).length cp0_1), (.slice Ap0_2 (p0.Marks).length cp0_2)]) (k := 1) rfl 4) rfl) ?_
   refine Tq.mv rfl rfl ?_
   obtain ⟨x105, hx105, H⟩ := bnd H
   obtain ⟨hx1050, hx1051, hx1052⟩ := idx_some hx105
   refine Tq.va rfl (fun _ _ h1 h2 => run_indexAddr el_22 (h1.ev rfl) hp0_0.form (h1.ev rfl) hx1050 hx1051) ?_
   refine Tq.va rfl (fun _ _ h1 h2 => run_loadN (cs := [(sv x105.Name), (iv x105.W), (iv x105.H)]) ag_49 sz_49 (h1.ev rfl) (CellsAt.take (rdF ef_TBoardKind hp0_0 hx1052 h2) 3) rfl) ?_
   refine Tq.va rfl (fun _ _ h1 h2 => run_fieldAddr fo_53_1 (h1.ev rfl)) ?_
   refine Tq.va rfl (fun _ _ h1 h2 => run_load1 ag_3 (h1.ev rfl) (rdb h2 (vs := [(sv x101.Board), (iv x101.Quarters), (iv x101.At.X), (iv x101.At.Y)]) (k := 2) rfl 1) rfl) ?_
   obtain ⟨y106, hy106, H⟩ := bnd H
   refine Tq.call0 (r := (.tuple #[(iv y106.1), (iv y106.2)])) (wn rfl) rfl Tryz.call60 (evl_cons rfl (evl_cons rfl evl_nil)) (fun W hW => F_etchhouseref9_sizeOf_ok x105 x101.Quarters y106 hy106 (HF.start _)) ?_
   refine Tq.mv rfl rfl ?_
   refine Tq.va rfl (fun _ _ h1 h2 => run_extract (h1.ev rfl) rfl) ?_
   refine Tq.va rfl (fun _ _ h1 h2 => run_extract (h1.ev rfl) rfl) ?_
   refine Tq.asg rfl rfl ?_
   refine Tq.asg rfl rfl ?_
   refine Tq.nil (Tr.normThen ?_)
   refine Tr.sr ?_
   refine Tr.va rfl (fun _ _ h1 h2 => run_loadN (cs := [(iv p0.W), (iv p0.H), (iv p0.Rail), (iv p0.Gap), (.slice Ap0_0 (p0.Kinds).length cp0_0), (.slice Ap0_1 (p0.Slots).length cp0_1), (.slice Ap0_2 (p0.Marks).length cp0_2)]) ag_26 sz_26 (h1.ev rfl) (CellsAt.take (rdb h2 (vs := [(iv p0.W), (iv p0.H), (iv p0.Rail), (iv p0.Gap), (.slice Ap0_0 (p0.Kinds).length cp0_0), (.slice Ap0_1 (p0.Slots).length cp0_1), (.slice Ap0_2 (p0.Marks).length cp0_2)]) (k := 1) rfl 0) 7) rfl) ?_
   refine Tr.va rfl (fun _ _ h1 h2 => run_fieldAddr fo_53_2 (h1.ev rfl)) ?_
   refine Tr.va rfl (fun _ _ h1 h2 => run_loadN (cs := [(iv x101.At.X), (iv x101.At.Y)]) ag_51 sz_51 (h1.ev rfl) (CellsAt.take (rdb h2 (vs := [(sv x101.Board), (iv x101.Quarters), (iv x101.At.X), (iv x101.At.Y)]) (k := 2) rfl 2) 2) rfl) ?_
   refine Tr.mv rfl rfl ?_
   refine Tr.mv rfl rfl ?_
   obtain ⟨y107, hy107, H⟩ := bnd H
   refine Tr.call0 (r := (.bool y107)) (wn rfl) rfl Tryz.call61 (evl_cons rfl (evl_cons rfl (evl_cons rfl (evl_cons rfl evl_nil)))) (fun W hW => F_etchhouseref9_lies_ok p0 Ap0_0 cp0_0 (hp0_0.ext hW.extAll) Ap0_1 cp0_1 (hp0_1.ext hW.extAll) Ap0_2 cp0_2 (hp0_2.ext hW.extAll) x101.At y106.1 y106.2 y107 hy107 (HF.start _)) ?_
   refine Tr.va rfl (fun _ _ h1 h2 => run_not (h1.ev rfl)) ?_
   refine Tr.nil (Tr.normThen ?_)
   refine Tr.cond rfl H (fun H => ?_) (fun H => ?_)
   ·refine Tr.sr ?_
    refine Tr.asg rfl rfl ?_
    refine Tr.nil (Tr.normThen ?_)
    refine Tr.ret (Tr.retThen ?_)
    obtain rfl := Option.some.inj H
    exact Tr.out (m := [(iv 1)]) [] (res_tmp rfl res_nil) (fun W hW => ⟨rfl, hW.low leB⟩)
   ·refine Tr.skip (Tr.normThen ?_)
    refine Tr.seq ?_
    refine Tr.sr ?_
    refine Tr.asg rfl rfl ?_
    refine Tr.nil (Tr.normThen ?_)
    refine Tr.block ?_
    refine Tr.loop (σ := Int) (fun m w s => F_etchhouseref9_checkSlot_L1 N p0 p1 x101 m s = some r) (fun s => [(1, (iv p1)), (2, (.pointer (some ⟨b100, 0, none⟩))), (5, (.pointer (some ⟨b102, 0, none⟩))), (9, (iv s))]) (fun s => [(1, bx b100 #[(iv p0.W), (iv p0.H), (iv p0.Rail), (iv p0.Gap), (.slice Ap0_0 (p0.Kinds).length cp0_0), (.slice Ap0_1 (p0.Slots).length cp0_1), (.slice Ap0_2 (p0.Marks).length cp0_2)] 26), (2, bx b102 #[(sv x101.Board), (iv x101.Quarters), (iv x101.At.X), (iv x101.At.Y)] 53)]) N 0 H (.cons rfl (.cons rfl (.cons rfl (.cons rfl .nil)))) (.cons rfl (.cons rfl .nil)) (fun _ _ h => noSome (h)) ?_
    intro w leL1 mL1 x119 hs
    have H := hs
    replace H : F_etchhouseref9_checkSlot_L1 N p0 p1 x101 (mL1 + 1) x119 = some r := H
    replace hp0_0 := hp0_0.leR leL1
    replace hp0_1 := hp0_1.leR leL1
    replace hp0_2 := hp0_2.leR leL1
    replace leB := leB.trans leL1
    rw [F_etchhouseref9_checkSlot_L1.eq_2] at H
    show Tr _ _ (LF [(1, (iv p1)), (2, (.pointer (some ⟨b100, 0, none⟩))), (5, (.pointer (some ⟨b102, 0, none⟩))), (9, (iv x119))]) (LE [(1, bx b100 #[(iv p0.W), (iv p0.H), (iv p0.Rail), (iv p0.Gap), (.slice Ap0_0 (p0.Kinds).length cp0_0), (.slice Ap0_1 (p0.Slots).length cp0_1), (.slice Ap0_2 (p0.Marks).length cp0_2)] 26), (2, bx b102 #[(sv x101.Board), (iv x101.Quarters), (iv x101.At.X), (iv x101.At.Y)] 53)]) _
    refine Tr.seq ?_
    refine Tr.sr ?_
    refine Tr.mv rfl rfl ?_
    refine Tr.mv rfl rfl ?_
    refine Tr.va rfl (fun _ _ h1 h2 => run_lss (h1.ev rfl) (h1.ev rfl)) ?_
    refine Tr.nil (Tr.normThen ?_)
    refine Tr.cond rfl H (fun H => ?_) (fun H => ?_)
    ·refine Tr.skip (Tr.normThen ?_)
     refine Tr.seq ?_
     refine Tr.block ?_
     refine Tr.seq ?_
     refine Tr.draw (by kernel_rfl) (by kernel_rfl) ?_
     refine Tq.va rfl (fun _ _ h1 h2 => run_loadN (cs := [(iv p0.W), (iv p0.H), (iv p0.Rail), (iv p0.Gap), (.slice Ap0_0 (p0.Kinds).length cp0_0), (.slice Ap0_1 (p0.Slots).length cp0_1), (.slice Ap0_2 (p0.Marks).length cp0_2)]) ag_26 sz_26 (h1.ev rfl) (CellsAt.take (rdb h2 (vs := [(iv p0.W), (iv p0.H), (iv p0.Rail), (iv p0.Gap), (.slice Ap0_0 (p0.Kinds).length cp0_0), (.slice Ap0_1 (p0.Slots).length cp0_1), (.slice Ap0_2 (p0.Marks).length cp0_2)]) (k := 1) rfl 0) 7) rfl) ?_
     refine Tq.va rfl (fun _ _ h1 h2 => run_loadN (cs := [(sv x101.Board), (iv x101.Quarters), (iv x101.At.X), (iv x101.At.Y)]) ag_53 sz_53 (h1.ev rfl) (CellsAt.take (rdb h2 (vs := [(sv x101.Board), (iv x101.Quarters), (iv x101.At.X), (iv x101.At.Y)]) (k := 2) rfl 0) 4) rfl) ?_
     obtain ⟨y120, hy120, H⟩ := bnd H
     refine Tq.call0 (r := (.agg #[(iv y120.X0), (iv y120.Y0), (iv y120.X1), (iv y120.Y1)])) (wn rfl) rfl Tryz.call63 (evl_cons rfl (evl_cons rfl evl_nil)) (fun W hW => F_etchhouseref9_cellOf_ok N p0 Ap0_0 cp0_0 (hp0_0.ext hW.extAll) Ap0_1 cp0_1 (hp0_1.ext hW.extAll) Ap0_2 cp0_2 (hp0_2.ext hW.extAll) x101 y120 hy120 (HF.start _)) ?_
     refine Tq.va rfl (fun _ _ h1 h2 => run_loadN (cs := [(iv p0.W), (iv p0.H), (iv p0.Rail), (iv p0.Gap), (.slice Ap0_0 (p0.Kinds).length cp0_0), (.slice Ap0_1 (p0.Slots).length cp0_1), (.slice Ap0_2 (p0.Marks).length cp0_2)]) ag_26 sz_26 (h1.ev rfl) (CellsAt.take (rdb h2 (vs := [(iv p0.W), (iv p0.H), (iv p0.Rail), (iv p0.Gap), (.slice Ap0_0 (p0.Kinds).length cp0_0), (.slice Ap0_1 (p0.Slots).length cp0_1), (.slice Ap0_2 (p0.Marks).length cp0_2)]) (k := 1) rfl 0) 7) rfl) ?_
     refine Tq.va rfl (fun _ _ h1 h2 => run_fieldAddr fo_26_5 (h1.ev rfl)) ?_
     refine Tq.va rfl (fun _ _ h1 h2 => run_load1 ag_23 (h1.ev rfl) (rdb h2 (vs := [(iv p0.W), (iv p0.H), (iv p0.Rail), (iv p0.Gap), (.slice Ap0_0 (p0.Kinds).length cp0_0), (.slice Ap0_1 (p0.Slots).length cp0_1), (.slice Ap0_2 (p0.Marks).length cp0_2)]) (k := 1) rfl 5) rfl) ?_
     refine Tq.mv rfl rfl ?_
     obtain ⟨x121, hx121, H⟩ := bnd H
     obtain ⟨hx1210, hx1211, hx1212⟩ := idx_some hx121
     refine Tq.va rfl (fun _ _ h1 h2 => run_indexAddr el_23 (h1.ev rfl) hp0_1.form (h1.ev rfl) hx1210 hx1211) ?_
     refine Tq.va rfl (fun _ _ h1 h2 => run_loadN (cs := [(sv x121.Board), (iv x121.Quarters), (iv x121.At.X), (iv x121.At.Y)]) ag_53 sz_53 (h1.ev rfl) (CellsAt.take (rdF ef_TSlot hp0_1 hx1212 h2) 4) rfl) ?_
     obtain ⟨y122, hy122, H⟩ := bnd H
     refine Tq.call0 (r := (.agg #[(iv y122.X0), (iv y122.Y0), (iv y122.X1), (iv y122.Y1)])) (wn rfl) rfl Tryz.call63 (evl_cons rfl (evl_cons rfl evl_nil)) (fun W hW => F_etchhouseref9_cellOf_ok N p0 Ap0_0 cp0_0 (hp0_0.ext hW.extAll) Ap0_1 cp0_1 (hp0_1.ext hW.extAll) Ap0_2 cp0_2 (hp0_2.ext hW.extAll) x121 y122 hy122 (HF.start _)) ?_
     refine Tq.va rfl (fun _ _ h1 h2 => run_fieldAddr fo_26_3 (h1.ev rfl)) ?_
     refine Tq.va rfl (fun _ _ h1 h2 => run_load1 ag_3 (h1.ev rfl) (rdb h2 (vs := [(iv p0.W), (iv p0.H), (iv p0.Rail), (iv p0.Gap), (.slice Ap0_0 (p0.Kinds).length cp0_0), (.slice Ap0_1 (p0.Slots).length cp0_1), (.slice Ap0_2 (p0.Marks).length cp0_2)]) (k := 1) rfl 3) rfl) ?_
     obtain ⟨y123, hy123, H⟩ := bnd H
     refine Tq.call0 (r := (.bool y123)) (wn rfl) rfl Tryz.call62 (evl_cons rfl (evl_cons rfl (evl_cons rfl evl_nil))) (fun W hW => F_etchhouseref9_apart_ok y120 y122 p0.Gap y123 hy123 (HF.start _)) ?_
     refine Tq.va rfl (fun _ _ h1 h2 => run_not (h1.ev rfl)) ?_
     refine Tq.nil (Tr.normThen ?_)
     refine Tr.cond rfl H (fun H => ?_) (fun H => ?_)
     ·refine Tr.sr ?_
      refine Tr.asg rfl rfl ?_
      refine Tr.nil (Tr.normThen ?_)
      refine Tr.ret (Tr.retBlock (Tr.retThen (Tr.retThen (Tr.retBlock (Tr.retThen ?_)))))
      obtain rfl := Option.some.inj H
      exact Tr.out (m := [(iv 12)]) [] (res_tmp rfl res_nil) (fun W hW => ⟨rfl, hW.low leB⟩)
     ·refine Tr.skip (Tr.normBlock (Tr.normThen ?_))
      refine Tr.region ?_
      refine Tr.mv rfl rfl ?_
      refine Tr.va rfl (fun _ _ h1 h2 => run_add (h1.ev rfl) (h1.ev rfl)) ?_
      refine Tr.asg rfl rfl ?_
      refine Tr.nil ?_
      exact Tr.backThen leL1 (w64 (x119 + 1)) H (.cons rfl (.cons rfl (.cons rfl (.cons rfl .nil)))) (.cons rfl (.cons rfl .nil))
    ·refine Tr.exit (Tr.exitThen (Tr.exitThen (Tr.exitBlock (Tr.normThen ?_))))
     refine Tr.sr ?_
     refine Tr.asg rfl rfl ?_
     refine Tr.nil (Tr.normThen ?_)
     refine Tr.ret ?_
     obtain rfl := Option.some.inj H
     exact Tr.out (m := [(iv 0)]) [] (res_tmp rfl res_nil) (fun W hW => ⟨rfl, hW.low leB⟩)

theorem F_etchhouseref9_checkMark_ok (N : Nat) {w : Bs} (p0 : TPanel) (Ap0_0 : Option Addr) (cp0_0 : Nat) (hp0_0 : Sl w.R w.W fl_TBoardKind Ap0_0 cp0_0 p0.Kinds) (Ap0_1 : Option Addr) (cp0_1 : Nat) (hp0_1 : Sl w.R w.W fl_TSlot Ap0_1 cp0_1 p0.Slots) (Ap0_2 : Option Addr) (cp0_2 : Nat) (hp0_2 : Sl w.R w.W fl_TPoint Ap0_2 cp0_2 p0.Marks) (p1 : Int) (r : Int) (H : F_etchhouseref9_checkMark N p0 p1 = some r) (hE : HF w w.W E0) : Calls Tryz.prog 38 [(.agg #[(iv p0.W), (iv p0.H), (iv p0.Rail), (iv p0.Gap), (.slice Ap0_0 (p0.Kinds).length cp0_0), (.slice Ap0_1 (p0.Slots).length cp0_1), (.slice Ap0_2 (p0.Marks).length cp0_2)]), (iv p1)].toArray w.W fun e W' => e = .returned (iv r) ∧ HF w W' E0 := by
 unfold F_etchhouseref9_checkMark at H
 have leB := Bs.Le.refl w
 refine Tr.enter (n := 80) Tryz.func38 rfl rfl rfl hE ?_
 refine Tr.sr ?_
 refine Tr.box 1 (cs := [(iv p0.W), (iv p0.H), (iv p0.Rail), (iv p0.Gap), (.slice Ap0_0 (p0.Kinds).length cp0_0), (.slice Ap0_1 (p0.Slots).length cp0_1), (.slice Ap0_2 (p0.Marks).length cp0_2)]) (wn rfl) rfl rfl rfl fun b100 => ?_
 refine Tr.asg rfl rfl ?_
 refine Tr.nil (Tr.normThen ?_)
 refine Tr.sr ?_
 refine Tr.va rfl (fun _ _ h1 h2 => run_fieldAddr fo_26_6 (h1.ev rfl)) ?_
 refine Tr.va rfl (fun _ _ h1 h2 => run_load1 ag_24 (h1.ev rfl) (rdb h2 (vs := [(iv p0.W), (iv p0.H), (iv p0.Rail), (iv p0.Gap), (.slice Ap0_0 (p0.Kinds).length cp0_0), (.slice Ap0_1 (p0.Slots).length cp0_1), (.slice Ap0_2 (p0.Marks).length cp0_2)]) (k := 1) rfl 6) rfl) ?_
 refine Tr.mv rfl rfl ?_
 obtain ⟨x101, hx101, H⟩ := bnd H
 obtain ⟨hx1010, hx1011, hx1012⟩ := idx_some hx101
 refine Tr.va rfl (fun _ _ h1 h2 => run_indexAddr el_24 (h1.ev rfl) hp0_2.form (h1.ev rfl) hx1010 hx1011) ?_
 refine Tr.va rfl (fun _ _ h1 h2 => run_loadN (cs := [(iv x101.X), (iv x101.Y)]) ag_51 sz_51 (h1.ev rfl) (CellsAt.take (rdF ef_TPoint hp0_2 hx1012 h2) 2) rfl) ?_
 refine Tr.alloc 2 (wn rfl) rfl ze_51 fun b102 => ?_
 refine Tr.store 2 (cs := [(iv x101.X), (iv x101.Y)]) [(iv x101.X), (iv x101.Y)] (wn rfl) rfl rfl rfl rfl sz_51 rfl rfl rfl ?_
 refine Tr.nil (Tr.normThen ?_)
 refine Tr.seq ?_
 refine Tr.sr ?_
 refine Tr.va rfl (fun _ _ h1 h2 => run_fieldAddr fo_51_0 (h1.ev rfl)) ?_
 refine Tr.va rfl (fun _ _ h1 h2 => run_load1 ag_3 (h1.ev rfl) (rdb h2 (vs := [(iv x101.X), (iv x101.Y)]) (k := 2) rfl 0) rfl) ?_
 refine Tr.va rfl (fun _ _ h1 h2 => run_fieldAddr fo_26_0 (h1.ev rfl)) ?_
 refine Tr.va rfl (fun _ _ h1 h2 => run_load1 ag_3 (h1.ev rfl) (rdb h2 (vs := [(iv p0.W), (iv p0.H), (iv p0.Rail), (iv p0.Gap), (.slice Ap0_0 (p0.Kinds).length cp0_0), (.slice Ap0_1 (p0.Slots).length cp0_1), (.slice Ap0_2 (p0.Marks).length cp0_2)]) (k := 1) rfl 0) rfl) ?_
 obtain ⟨y103, hy103, H⟩ := bnd H
 refine Tr.call0 (r := (.bool y103)) (wn rfl) rfl Tryz.call35 (evl_cons rfl (evl_cons rfl (evl_cons rfl evl_nil))) (fun W hW => F_etchhouseref9_within_ok x101.X 0 p0.W y103 hy103 (HF.start _)) ?_
 refine Tr.va rfl (fun _ _ h1 h2 => run_not (h1.ev rfl)) ?_
 refine Tr.mv rfl rfl ?_
 obtain ⟨g105, hg105, H⟩ := bnd H
 refine Tr.mid0 7 [(1, (iv p1)), (2, (.pointer (some ⟨b100, 0, none⟩))), (5, (.pointer (some ⟨b102, 0, none⟩))), (27, (.bool g105))] [(1, bx b100 #[(iv p0.W), (iv p0.H), (iv p0.Rail), (iv p0.Gap), (.slice Ap0_0 (p0.Kinds).length cp0_0), (.slice Ap0_1 (p0.Slots).length cp0_1), (.slice Ap0_2 (p0.Marks).length cp0_2)] 26), (2, bx b102 #[(iv x101.X), (iv x101.Y)] 51)] ?_ ?_
 ·cases hg126 : (!y103)
  ·rw [hg126] at hg105
   rw [if_neg (by decide)] at hg105
   have H := hg105
   refine Tr.val (wg rfl rfl rfl) rfl (fun _ _ h1 h2 => run_fieldAddr fo_51_1 (h1.ev rfl)) ?_
   refine Tr.val (wg rfl rfl rfl) rfl (fun _ _ h1 h2 => run_load1 ag_3 (h1.ev rfl) (rdb h2 (vs := [(iv x101.X), (iv x101.Y)]) (k := 2) rfl 1) rfl) ?_
   refine Tr.val (wg rfl rfl rfl) rfl (fun _ _ h1 h2 => run_fieldAddr fo_26_1 (h1.ev rfl)) ?_
   refine Tr.val (wg rfl rfl rfl) rfl (fun _ _ h1 h2 => run_load1 ag_3 (h1.ev rfl) (rdb h2 (vs := [(iv p0.W), (iv p0.H), (iv p0.Rail), (iv p0.Gap), (.slice Ap0_0 (p0.Kinds).length cp0_0), (.slice Ap0_1 (p0.Slots).length cp0_1), (.slice Ap0_2 (p0.Marks).length cp0_2)]) (k := 1) rfl 1) rfl) ?_
   obtain ⟨y106, hy106, H⟩ := bnd H
   refine Tr.call0 (r := (.bool y106)) (wg rfl rfl rfl) rfl Tryz.call35 (evl_cons rfl (evl_cons rfl (evl_cons rfl evl_nil))) (fun W hW => F_etchhouseref9_within_ok x101.Y 0 p0.H y106 hy106 (HF.start _)) ?_
   refine Tr.val (wg rfl rfl rfl) rfl (fun _ _ h1 h2 => run_not (h1.ev rfl)) ?_
   refine Tr.va rfl (fun _ _ h1 h2 => run_pickF (h1.ev rfl) (h1.ev rfl)) ?_
   obtain rfl := Option.some.inj H
   exact Tr.nil (Tr.fin0 (.cons rfl (.cons rfl (.cons rfl (.cons rfl .nil)))) (.cons rfl (.cons rfl .nil)))
  ·rw [hg126] at hg105
   rw [if_pos rfl] at hg105
   have H := hg105
   obtain rfl := Option.some.inj H
   refine Tr.pass rfl rfl rfl rfl rfl (by decide) ?_
   refine Tr.pass rfl rfl rfl rfl rfl (by decide) ?_
   refine Tr.pass rfl rfl rfl rfl rfl (by decide) ?_
   refine Tr.pass rfl rfl rfl rfl rfl (by decide) ?_
   refine Tr.pass rfl rfl rfl rfl rfl (by decide) ?_
   refine Tr.pass rfl rfl rfl rfl rfl (by decide) ?_
   refine Tr.va rfl (fun _ _ h1 h2 => run_pickT (h1.ev rfl) (h1.ev rfl)) ?_
   exact Tr.nil (Tr.fin0 (.cons rfl (.cons rfl (.cons rfl (.cons rfl .nil)))) (.cons rfl (.cons rfl .nil)))
 ·show Tr _ _ (LF [(1, (iv p1)), (2, (.pointer (some ⟨b100, 0, none⟩))), (5, (.pointer (some ⟨b102, 0, none⟩))), (27, (.bool g105))]) (LE [(1, bx b100 #[(iv p0.W), (iv p0.H), (iv p0.Rail), (iv p0.Gap), (.slice Ap0_0 (p0.Kinds).length cp0_0), (.slice Ap0_1 (p0.Slots).length cp0_1), (.slice Ap0_2 (p0.Marks).length cp0_2)] 26), (2, bx b102 #[(iv x101.X), (iv x101.Y)] 51)]) _
  refine Tr.nil (Tr.normThen ?_)
  refine Tr.cond rfl H (fun H => ?_) (fun H => ?_)
  ·refine Tr.sr ?_
   refine Tr.asg rfl rfl ?_
   refine Tr.nil (Tr.normThen ?_)
   refine Tr.ret (Tr.retThen ?_)
   obtain rfl := Option.some.inj H
   exact Tr.out (m := [(iv 1)]) [] (res_tmp rfl res_nil) (fun W hW => ⟨rfl, hW.low leB⟩)
  ·refine Tr.skip (Tr.normThen ?_)
   refine Tr.seq ?_
   refine Tr.sr ?_
   refine Tr.asg rfl rfl ?_
   refine Tr.nil (Tr.normThen ?_)
   refine Tr.block ?_
   refine Tr.loop (σ := Int) (fun m w s => F_etchhouseref9_checkMark_L1 N p0 p1 x101 m s = some r) (fun s => [(1, (iv p1)), (2, (.pointer (some ⟨b100, 0, none⟩))), (5, (.pointer (some ⟨b102, 0, none⟩))), (6, (iv s))]) (fun s => [(1, bx b100 #[(iv p0.W), (iv p0.H), (iv p0.Rail), (iv p0.Gap), (.slice Ap0_0 (p0.Kinds).length cp0_0), (.slice Ap0_1 (p0.Slots).length cp0_1), (.slice Ap0_2 (p0.Marks).length cp0_2)] 26), (2, bx b102 #[(iv x101.X), (iv x101.Y)] 51)]) N 0 H (.cons rfl (.cons rfl (.cons rfl (.cons rfl .nil)))) (.cons rfl (.cons rfl .nil)) (fun _ _ h => noSome (h)) ?_
   intro w leL1 mL1 x116 hs
   have H := hs
   replace H : F_etchhouseref9_checkMark_L1 N p0 p1 x101 (mL1 + 1) x116 = some r := H
   replace hp0_0 := hp0_0.leR leL1
   replace hp0_1 := hp0_1.leR leL1
   replace hp0_2 := hp0_2.leR leL1
   replace leB := leB.trans leL1
   rw [F_etchhouseref9_checkMark_L1.eq_2] at H
   show Tr _ _ (LF [(1, (iv p1)), (2, (.pointer (some ⟨b100, 0, none⟩))), (5, (.pointer (some ⟨b102, 0, none⟩))), (6, (iv x116))]) (LE [(1, bx b100 #[(iv p0.W), (iv p0.H), (iv p0.Rail), (iv p0.Gap), (.slice Ap0_0 (p0.Kinds).length cp0_0), (.slice Ap0_1 (p0.Slots).length cp0_1), (.slice Ap0_2 (p0.Marks).length cp0_2)] 26), (2, bx b102 #[(iv x101.X), (iv x101.Y)] 51)]) _
   refine Tr.seq ?_
   refine Tr.sr ?_
   refine Tr.mv rfl rfl ?_
   refine Tr.va rfl (fun _ _ h1 h2 => run_fieldAddr fo_26_5 (h1.ev rfl)) ?_
   refine Tr.va rfl (fun _ _ h1 h2 => run_load1 ag_23 (h1.ev rfl) (rdb h2 (vs := [(iv p0.W), (iv p0.H), (iv p0.Rail), (iv p0.Gap), (.slice Ap0_0 (p0.Kinds).length cp0_0), (.slice Ap0_1 (p0.Slots).length cp0_1), (.slice Ap0_2 (p0.Marks).length cp0_2)]) (k := 1) rfl 5) rfl) ?_
   refine Tr.va rfl (fun _ _ h1 h2 => run_len un_23 (h1.ev rfl)) ?_
   refine Tr.va rfl (fun _ _ h1 h2 => run_lss (h1.ev rfl) (h1.ev rfl)) ?_
   refine Tr.nil (Tr.normThen ?_)
   refine Tr.cond rfl H (fun H => ?_) (fun H => ?_)
   ·refine Tr.skip (Tr.normThen ?_)
    refine Tr.seq ?_
    refine Tr.block ?_
    refine Tr.seq ?_
    obtain ⟨x118, hx118, H⟩ := bnd H
    obtain ⟨hx1180, hx1181, hx1182⟩ := idx_some hx118
    obtain ⟨y119, hy119, H⟩ := bnd H
    refine Tr.drawF 8 [(7, .makeFunc (.func 0) #[] #[])] [(7, ⟨7, 5, (.func (.func 0) #[] #[]), fun b => .pointer (some ⟨b, 0, none⟩), fun b => bx b #[(iv 0), (iv 0), (iv 0), (iv 0)] 86⟩)] [(1, (iv p1)), (2, (.pointer (some ⟨b100, 0, none⟩))), (5, (.pointer (some ⟨b102, 0, none⟩))), (6, (iv x116)), (7, (.func (.func 0) #[] #[])), (28, (iv x116)), (29, (.pointer (some ⟨b100, 5, none⟩))), (30, (.slice Ap0_1 (p0.Slots).length cp0_1)), (31, (iv (p0.Slots.length : Int))), (32, (.bool (decide (x116 < (p0.Slots.length : Int))))), (35, (.agg #[(iv p0.W), (iv p0.H), (iv p0.Rail), (iv p0.Gap), (.slice Ap0_0 (p0.Kinds).length cp0_0), (.slice Ap0_1 (p0.Slots).length cp0_1), (.slice Ap0_2 (p0.Marks).length cp0_2)])), (36, (.pointer (some ⟨b100, 5, none⟩))), (37, (.slice Ap0_1 (p0.Slots).length cp0_1)), (38, (iv x116)), (39, (.pointer (some ⟨adB Ap0_1, adO Ap0_1 + (x116).toNat * 4, none⟩))), (40, (.agg #[(sv x118.Board), (iv x118.Quarters), (iv x118.At.X), (iv x118.At.Y)])), (41, (.agg #[(iv y119.X0), (iv y119.Y0), (iv y119.X1), (iv y119.Y1)]))] (by kernel_rfl) (by kernel_rfl) (by kernel_rfl) (by kernel_rfl) (by kernel_rfl) (by kernel_rfl) (by kernel_rfl) (fall_cons (fr_alloc rfl rfl ze_86) fall_nil) (fall_cons rfl fall_nil) (fall_cons rfl fall_nil) ?_ ?_
    ·refine Tq.va rfl (fun _ _ h1 h2 => run_loadN (cs := [(iv p0.W), (iv p0.H), (iv p0.Rail), (iv p0.Gap), (.slice Ap0_0 (p0.Kinds).length cp0_0), (.slice Ap0_1 (p0.Slots).length cp0_1), (.slice Ap0_2 (p0.Marks).length cp0_2)]) ag_26 sz_26 (h1.ev rfl) (CellsAt.take (rdb h2 (vs := [(iv p0.W), (iv p0.H), (iv p0.Rail), (iv p0.Gap), (.slice Ap0_0 (p0.Kinds).length cp0_0), (.slice Ap0_1 (p0.Slots).length cp0_1), (.slice Ap0_2 (p0.Marks).length cp0_2)]) (k := 1) rfl 0) 7) rfl) ?_
     refine Tq.va rfl (fun _ _ h1 h2 => run_fieldAddr fo_26_5 (h1.ev rfl)) ?_
     refine Tq.va rfl (fun _ _ h1 h2 => run_load1 ag_23 (h1.ev rfl) (rdb h2 (vs := [(iv p0.W), (iv p0.H), (iv p0.Rail), (iv p0.Gap), (.slice Ap0_0 (p0.Kinds).length cp0_0), (.slice Ap0_1 (p0.Slots).length cp0_1), (.slice Ap0_2 (p0.Marks).length cp0_2)]) (k := 1) rfl 5) rfl) ?_
     refine Tq.mv rfl rfl ?_
     refine Tq.va rfl (fun _ _ h1 h2 => run_indexAddr el_23 (h1.ev rfl) hp0_1.form (h1.ev rfl) hx1180 hx1181) ?_
     refine Tq.va rfl (fun _ _ h1 h2 => run_loadN (cs := [(sv x118.Board), (iv x118.Quarters), (iv x118.At.X), (iv x118.At.Y)]) ag_53 sz_53 (h1.ev rfl) (CellsAt.take (rdF ef_TSlot hp0_1 hx1182 h2) 4) rfl) ?_
     refine Tq.call0 (r := (.agg #[(iv y119.X0), (iv y119.Y0), (iv y119.X1), (iv y119.Y1)])) (wn rfl) rfl Tryz.call63 (evl_cons rfl (evl_cons rfl evl_nil)) (fun W hW => F_etchhouseref9_cellOf_ok N p0 Ap0_0 cp0_0 (hp0_0.ext hW.extAll) Ap0_1 cp0_1 (hp0_1.ext hW.extAll) Ap0_2 cp0_2 (hp0_2.ext hW.extAll) x118 y119 hy119 (HF.start _)) ?_
     refine Tq.mkFunc (vs := []) (wn rfl) rfl evl_nil ?_
     exact Tq.fin (.cons rfl (.cons rfl (.cons rfl (.cons rfl (.cons rfl (.cons rfl (.cons rfl (.cons rfl (.cons rfl (.cons rfl (.cons rfl (.cons rfl (.cons rfl (.cons rfl (.cons rfl (.cons rfl (.cons rfl .nil)))))))))))))))))
    ·intro bs117
     refine Tr.sel (lf := [(1, (iv p1)), (2, (.pointer (some ⟨b100, 0, none⟩))), (5, (.pointer (some ⟨b102, 0, none⟩))), (6, (iv x116)), (7, (.pointer (some ⟨(bs117 7), 0, none⟩))), (41, (.agg #[(iv y119.X0), (iv y119.Y0), (iv y119.X1), (iv y119.Y1)]))]) (le := [(1, bx b100 #[(iv p0.W), (iv p0.H), (iv p0.Rail), (iv p0.Gap), (.slice Ap0_0 (p0.Kinds).length cp0_0), (.slice Ap0_1 (p0.Slots).length cp0_1), (.slice Ap0_2 (p0.Marks).length cp0_2)] 26), (2, bx b102 #[(iv x101.X), (iv x101.Y)] 51), (5, bx (bs117 7) #[(iv 0), (iv 0), (iv 0), (iv 0)] 86)]) (.cons rfl (.cons rfl (.cons rfl (.cons rfl (.cons rfl (.cons rfl .nil)))))) (.cons rfl (.cons rfl (.cons rfl .nil))) ?_
     refine Tr.store 5 (cs := [(iv y119.X0), (iv y119.Y0), (iv y119.X1), (iv y119.Y1)]) [(iv y119.X0), (iv y119.Y0), (iv y119.X1), (iv y119.Y1)] (wn rfl) rfl rfl rfl rfl sz_86 rfl rfl rfl ?_
     refine Tr.nil (Tr.normThen ?_)
     refine Tr.sr ?_
     refine Tr.va rfl (fun _ _ h1 h2 => run_fieldAddr fo_86_0 (h1.ev rfl)) ?_
     refine Tr.va rfl (fun _ _ h1 h2 => run_load1 ag_3 (h1.ev rfl) (rdb h2 (vs := [(iv y119.X0), (iv y119.Y0), (iv y119.X1), (iv y119.Y1)]) (k := 5) rfl 0) rfl) ?_
     refine Tr.va rfl (fun _ _ h1 h2 => run_fieldAddr fo_51_0 (h1.ev rfl)) ?_
     refine Tr.va rfl (fun _ _ h1 h2 => run_load1 ag_3 (h1.ev rfl) (rdb h2 (vs := [(iv x101.X), (iv x101.Y)]) (k := 2) rfl 0) rfl) ?_
     refine Tr.va rfl (fun _ _ h1 h2 => run_lss (h1.ev rfl) (h1.ev rfl)) ?_
     refine Tr.mv rfl rfl ?_
     refine Tr.mid0 6 [(1, (iv p1)), (2, (.pointer (some ⟨b100, 0, none⟩))), (5, (.pointer (some ⟨b102, 0, none⟩))), (6, (iv x116)), (7, (.pointer (some ⟨(bs117 7), 0, none⟩))), (53, (.bool ((decide (y119.X0 < x101.X)) && (decide (x101.X < y119.X1)))))] [(1, bx b100 #[(iv p0.W), (iv p0.H), (iv p0.Rail), (iv p0.Gap), (.slice Ap0_0 (p0.Kinds).length cp0_0), (.slice Ap0_1 (p0.Slots).length cp0_1), (.slice Ap0_2 (p0.Marks).length cp0_2)] 26), (2, bx b102 #[(iv x101.X), (iv x101.Y)] 51), (5, bx (bs117 7) #[(iv y119.X0), (iv y119.Y0), (iv y119.X1), (iv y119.Y1)] 86)] ?_ ?_
     ·cases hg119 : (decide (y119.X0 < x101.X))
      ·refine Tr.pass rfl rfl rfl rfl rfl (by decide) ?_
       refine Tr.pass rfl rfl rfl rfl rfl (by decide) ?_
       refine Tr.pass rfl rfl rfl rfl rfl (by decide) ?_
       refine Tr.pass rfl rfl rfl rfl rfl (by decide) ?_
       refine Tr.pass rfl rfl rfl rfl rfl (by decide) ?_
       refine Tr.va rfl (fun _ _ h1 h2 => run_pickF (h1.ev rfl) (h1.ev rfl)) ?_
       exact Tr.nil (Tr.fin0 (.cons rfl (.cons rfl (.cons rfl (.cons rfl (.cons rfl (.cons rfl .nil)))))) (.cons rfl (.cons rfl (.cons rfl .nil))))
      ·refine Tr.val (wg rfl rfl rfl) rfl (fun _ _ h1 h2 => run_fieldAddr fo_51_0 (h1.ev rfl)) ?_
       refine Tr.val (wg rfl rfl rfl) rfl (fun _ _ h1 h2 => run_load1 ag_3 (h1.ev rfl) (rdb h2 (vs := [(iv x101.X), (iv x101.Y)]) (k := 2) rfl 0) rfl) ?_
       refine Tr.val (wg rfl rfl rfl) rfl (fun _ _ h1 h2 => run_fieldAddr fo_86_2 (h1.ev rfl)) ?_
       refine Tr.val (wg rfl rfl rfl) rfl (fun _ _ h1 h2 => run_load1 ag_3 (h1.ev rfl) (rdb h2 (vs := [(iv y119.X0), (iv y119.Y0), (iv y119.X1), (iv y119.Y1)]) (k := 5) rfl 2) rfl) ?_
       refine Tr.val (wg rfl rfl rfl) rfl (fun _ _ h1 h2 => run_lss (h1.ev rfl) (h1.ev rfl)) ?_
       refine Tr.va rfl (fun _ _ h1 h2 => run_pickT (h1.ev rfl) (h1.ev rfl)) ?_
       exact Tr.nil (Tr.fin0 (.cons rfl (.cons rfl (.cons rfl (.cons rfl (.cons rfl (.cons rfl .nil)))))) (.cons rfl (.cons rfl (.cons rfl .nil))))
     ·show Tr _ _ (LF [(1, (iv p1)), (2, (.pointer (some ⟨b100, 0, none⟩))), (5, (.pointer (some ⟨b102, 0, none⟩))), (6, (iv x116)), (7, (.pointer (some ⟨(bs117 7), 0, none⟩))), (53, (.bool ((decide (y119.X0 < x101.X)) && (decide (x101.X < y119.X1)))))]) (LE [(1, bx b100 #[(iv p0.W), (iv p0.H), (iv p0.Rail), (iv p0.Gap), (.slice Ap0_0 (p0.Kinds).length cp0_0), (.slice Ap0_1 (p0.Slots).length cp0_1), (.slice Ap0_2 (p0.Marks).length cp0_2)] 26), (2, bx b102 #[(iv x101.X), (iv x101.Y)] 51), (5, bx (bs117 7) #[(iv y119.X0), (iv y119.Y0), (iv y119.X1), (iv y119.Y1)] 86)]) _
      refine Tr.mv rfl rfl ?_
      refine Tr.mid0 6 [(1, (iv p1)), (2, (.pointer (some ⟨b100, 0, none⟩))), (5, (.pointer (some ⟨b102, 0, none⟩))), (6, (iv x116)), (7, (.pointer (some ⟨(bs117 7), 0, none⟩))), (60, (.bool (((decide (y119.X0 < x101.X)) && (decide (x101.X < y119.X1))) && (decide (y119.Y0 < x101.Y)))))] [(1, bx b100 #[(iv p0.W), (iv p0.H), (iv p0.Rail), (iv p0.Gap), (.slice Ap0_0 (p0.Kinds).length cp0_0), (.slice Ap0_1 (p0.Slots).length cp0_1), (.slice Ap0_2 (p0.Marks).length cp0_2)] 26), (2, bx b102 #[(iv x101.X), (iv x101.Y)] 51), (5, bx (bs117 7) #[(iv y119.X0), (iv y119.Y0), (iv y119.X1), (iv y119.Y1)] 86)] ?_ ?_
      ·cases hg119 : ((decide (y119.X0 < x101.X)) && (decide (x101.X < y119.X1)))
       ·refine Tr.pass rfl rfl rfl rfl rfl (by decide) ?_
        refine Tr.pass rfl rfl rfl rfl rfl (by decide) ?_
        refine Tr.pass rfl rfl rfl rfl rfl (by decide) ?_
        refine Tr.pass rfl rfl rfl rfl rfl (by decide) ?_
        refine Tr.pass rfl rfl rfl rfl rfl (by decide) ?_
        refine Tr.va rfl (fun _ _ h1 h2 => run_pickF (h1.ev rfl) (h1.ev rfl)) ?_
        exact Tr.nil (Tr.fin0 (.cons rfl (.cons rfl (.cons rfl (.cons rfl (.cons rfl (.cons rfl .nil)))))) (.cons rfl (.cons rfl (.cons rfl .nil))))
       ·refine Tr.val (wg rfl rfl rfl) rfl (fun _ _ h1 h2 => run_fieldAddr fo_86_1 (h1.ev rfl)) ?_
        refine Tr.val (wg rfl rfl rfl) rfl (fun _ _ h1 h2 => run_load1 ag_3 (h1.ev rfl) (rdb h2 (vs := [(iv y119.X0), (iv y119.Y0), (iv y119.X1), (iv y119.Y1)]) (k := 5) rfl 1) rfl) ?_
        refine Tr.val (wg rfl rfl rfl) rfl (fun _ _ h1 h2 => run_fieldAddr fo_51_1 (h1.ev rfl)) ?_
        refine Tr.val (wg rfl rfl rfl) rfl (fun _ _ h1 h2 => run_load1 ag_3 (h1.ev rfl) (rdb h2 (vs := [(iv x101.X), (iv x101.Y)]) (k := 2) rfl 1) rfl) ?_
        refine Tr.val (wg rfl rfl rfl) rfl (fun _ _ h1 h2 => run_lss (h1.ev rfl) (h1.ev rfl)) ?_
        refine Tr.va rfl (fun _ _ h1 h2 => run_pickT (h1.ev rfl) (h1.ev rfl)) ?_
        exact Tr.nil (Tr.fin0 (.cons rfl (.cons rfl (.cons rfl (.cons rfl (.cons rfl (.cons rfl .nil)))))) (.cons rfl (.cons rfl (.cons rfl .nil))))
      ·show Tr _ _ (LF [(1, (iv p1)), (2, (.pointer (some ⟨b100, 0, none⟩))), (5, (.pointer (some ⟨b102, 0, none⟩))), (6, (iv x116)), (7, (.pointer (some ⟨(bs117 7), 0, none⟩))), (60, (.bool (((decide (y119.X0 < x101.X)) && (decide (x101.X < y119.X1))) && (decide (y119.Y0 < x101.Y)))))]) (LE [(1, bx b100 #[(iv p0.W), (iv p0.H), (iv p0.Rail), (iv p0.Gap), (.slice Ap0_0 (p0.Kinds).length cp0_0), (.slice Ap0_1 (p0.Slots).length cp0_1), (.slice Ap0_2 (p0.Marks).length cp0_2)] 26), (2, bx b102 #[(iv x101.X), (iv x101.Y)] 51), (5, bx (bs117 7) #[(iv y119.X0), (iv y119.Y0), (iv y119.X1), (iv y119.Y1)] 86)]) _
       refine Tr.mv rfl rfl ?_
       refine Tr.mid0 6 [(1, (iv p1)), (2, (.pointer (some ⟨b100, 0, none⟩))), (5, (.pointer (some ⟨b102, 0, none⟩))), (6, (iv x116)), (67, (.bool ((((decide (y119.X0 < x101.X)) && (decide (x101.X < y119.X1))) && (decide (y119.Y0 < x101.Y))) && (decide (x101.Y < y119.Y1)))))] [(1, bx b100 #[(iv p0.W), (iv p0.H), (iv p0.Rail), (iv p0.Gap), (.slice Ap0_0 (p0.Kinds).length cp0_0), (.slice Ap0_1 (p0.Slots).length cp0_1), (.slice Ap0_2 (p0.Marks).length cp0_2)] 26), (2, bx b102 #[(iv x101.X), (iv x101.Y)] 51), (5, bx (bs117 7) #[(iv y119.X0), (iv y119.Y0), (iv y119.X1), (iv y119.Y1)] 86)] ?_ ?_
       ·cases hg119 : (((decide (y119.X0 < x101.X)) && (decide (x101.X < y119.X1))) && (decide (y119.Y0 < x101.Y)))
        ·refine Tr.pass rfl rfl rfl rfl rfl (by decide) ?_
         refine Tr.pass rfl rfl rfl rfl rfl (by decide) ?_
         refine Tr.pass rfl rfl rfl rfl rfl (by decide) ?_
         refine Tr.pass rfl rfl rfl rfl rfl (by decide) ?_
         refine Tr.pass rfl rfl rfl rfl rfl (by decide) ?_
         refine Tr.va rfl (fun _ _ h1 h2 => run_pickF (h1.ev rfl) (h1.ev rfl)) ?_
         exact Tr.nil (Tr.fin0 (.cons rfl (.cons rfl (.cons rfl (.cons rfl (.cons rfl .nil))))) (.cons rfl (.cons rfl (.cons rfl .nil))))
        ·refine Tr.val (wg rfl rfl rfl) rfl (fun _ _ h1 h2 => run_fieldAddr fo_51_1 (h1.ev rfl)) ?_
         refine Tr.val (wg rfl rfl rfl) rfl (fun _ _ h1 h2 => run_load1 ag_3 (h1.ev rfl) (rdb h2 (vs := [(iv x101.X), (iv x101.Y)]) (k := 2) rfl 1) rfl) ?_
         refine Tr.val (wg rfl rfl rfl) rfl (fun _ _ h1 h2 => run_fieldAddr fo_86_3 (h1.ev rfl)) ?_
         refine Tr.val (wg rfl rfl rfl) rfl (fun _ _ h1 h2 => run_load1 ag_3 (h1.ev rfl) (rdb h2 (vs := [(iv y119.X0), (iv y119.Y0), (iv y119.X1), (iv y119.Y1)]) (k := 5) rfl 3) rfl) ?_
         refine Tr.val (wg rfl rfl rfl) rfl (fun _ _ h1 h2 => run_lss (h1.ev rfl) (h1.ev rfl)) ?_
         refine Tr.va rfl (fun _ _ h1 h2 => run_pickT (h1.ev rfl) (h1.ev rfl)) ?_
         exact Tr.nil (Tr.fin0 (.cons rfl (.cons rfl (.cons rfl (.cons rfl (.cons rfl .nil))))) (.cons rfl (.cons rfl (.cons rfl .nil))))
       ·show Tr _ _ (LF [(1, (iv p1)), (2, (.pointer (some ⟨b100, 0, none⟩))), (5, (.pointer (some ⟨b102, 0, none⟩))), (6, (iv x116)), (67, (.bool ((((decide (y119.X0 < x101.X)) && (decide (x101.X < y119.X1))) && (decide (y119.Y0 < x101.Y))) && (decide (x101.Y < y119.Y1)))))]) (LE [(1, bx b100 #[(iv p0.W), (iv p0.H), (iv p0.Rail), (iv p0.Gap), (.slice Ap0_0 (p0.Kinds).length cp0_0), (.slice Ap0_1 (p0.Slots).length cp0_1), (.slice Ap0_2 (p0.Marks).length cp0_2)] 26), (2, bx b102 #[(iv x101.X), (iv x101.Y)] 51), (5, bx (bs117 7) #[(iv y119.X0), (iv y119.Y0), (iv y119.X1), (iv y119.Y1)] 86)]) _
        refine Tr.nil (Tr.normThen ?_)
        refine Tr.cond rfl H (fun H => ?_) (fun H => ?_)
        ·refine Tr.sr ?_
         refine Tr.asg rfl rfl ?_
         refine Tr.nil (Tr.normThen ?_)
         refine Tr.ret (Tr.retBlock (Tr.retThen (Tr.retThen (Tr.retBlock (Tr.retThen ?_)))))
         obtain rfl := Option.some.inj H
         exact Tr.out (m := [(iv 12)]) [] (res_tmp rfl res_nil) (fun W hW => ⟨rfl, hW.low leB⟩)
        ·refine Tr.skip (Tr.normBlock (Tr.normThen ?_))
         refine Tr.region ?_
         refine Tr.mv rfl rfl ?_
         refine Tr.va rfl (fun _ _ h1 h2 => run_add (h1.ev rfl) (h1.ev rfl)) ?_
         refine Tr.asg rfl rfl ?_
         refine Tr.nil ?_
         exact Tr.backThen leL1 (w64 (x116 + 1)) H (.cons rfl (.cons rfl (.cons rfl (.cons rfl .nil)))) (.cons rfl (.cons rfl .nil))
   ·refine Tr.exit (Tr.exitThen (Tr.exitThen (Tr.exitBlock (Tr.normThen ?_))))
    refine Tr.seq ?_
    refine Tr.sr ?_
    refine Tr.asg rfl rfl ?_
    refine Tr.nil (Tr.normThen ?_)
    refine Tr.block ?_
    refine Tr.loop (σ := Int) (fun m w s => F_etchhouseref9_checkMark_L2 p0 p1 x101 m s = some r) (fun s => [(1, (iv p1)), (2, (.pointer (some ⟨b100, 0, none⟩))), (5, (.pointer (some ⟨b102, 0, none⟩))), (8, (iv s))]) (fun s => [(1, bx b100 #[(iv p0.W), (iv p0.H), (iv p0.Rail), (iv p0.Gap), (.slice Ap0_0 (p0.Kinds).length cp0_0), (.slice Ap0_1 (p0.Slots).length cp0_1), (.slice Ap0_2 (p0.Marks).length cp0_2)] 26), (2, bx b102 #[(iv x101.X), (iv x101.Y)] 51)]) N 0 H (.cons rfl (.cons rfl (.cons rfl (.cons rfl .nil)))) (.cons rfl (.cons rfl .nil)) (fun _ _ h => noSome (h)) ?_
    intro w leL2 mL2 x125 hs
    have H := hs
    replace H : F_etchhouseref9_checkMark_L2 p0 p1 x101 (mL2 + 1) x125 = some r := H
    replace hp0_0 := hp0_0.leR leL2
    replace hp0_1 := hp0_1.leR leL2
    replace hp0_2 := hp0_2.leR leL2
    replace leB := leB.trans leL2
    replace leL1 := leL1.trans leL2
    rw [F_etchhouseref9_checkMark_L2.eq_2] at H
    show Tr _ _ (LF [(1, (iv p1)), (2, (.pointer (some ⟨b100, 0, none⟩))), (5, (.pointer (some ⟨b102, 0, none⟩))), (8, (iv x125))]) (LE [(1, bx b100 #[(iv p0.W), (iv p0.H), (iv p0.Rail), (iv p0.Gap), (.slice Ap0_0 (p0.Kinds).length cp0_0), (.slice Ap0_1 (p0.Slots).length cp0_1), (.slice Ap0_2 (p0.Marks).length cp0_2)] 26), (2, bx b102 #[(iv x101.X), (iv x101.Y)] 51)]) _
    refine Tr.seq ?_
    refine Tr.sr ?_
    refine Tr.mv rfl rfl ?_
    refine Tr.mv rfl rfl ?_
    refine Tr.va rfl (fun _ _ h1 h2 => run_lss (h1.ev rfl) (h1.ev rfl)) ?_
    refine Tr.nil (Tr.normThen ?_)
    refine Tr.cond rfl H (fun H => ?_) (fun H => ?_)
    ·refine Tr.skip (Tr.normThen ?_)
     refine Tr.seq ?_
     refine Tr.block ?_
     refine Tr.seq ?_
     refine Tr.draw (by kernel_rfl) (by kernel_rfl) ?_
     refine Tq.va rfl (fun _ _ h1 h2 => run_fieldAddr fo_26_6 (h1.ev rfl)) ?_
     refine Tq.va rfl (fun _ _ h1 h2 => run_load1 ag_24 (h1.ev rfl) (rdb h2 (vs := [(iv p0.W), (iv p0.H), (iv p0.Rail), (iv p0.Gap), (.slice Ap0_0 (p0.Kinds).length cp0_0), (.slice Ap0_1 (p0.Slots).length cp0_1), (.slice Ap0_2 (p0.Marks).length cp0_2)]) (k := 1) rfl 6) rfl) ?_
     refine Tq.mv rfl rfl ?_
     obtain ⟨x126, hx126, H⟩ := bnd H
     obtain ⟨hx1260, hx1261, hx1262⟩ := idx_some hx126
     refine Tq.va rfl (fun _ _ h1 h2 => run_indexAddr el_24 (h1.ev rfl) hp0_2.form (h1.ev rfl) hx1260 hx1261) ?_
     refine Tq.va rfl (fun _ _ h1 h2 => run_loadN (cs := [(iv x126.X), (iv x126.Y)]) ag_51 sz_51 (h1.ev rfl) (CellsAt.take (rdF ef_TPoint hp0_2 hx1262 h2) 2) rfl) ?_
     refine Tq.va rfl (fun _ _ h1 h2 => run_loadN (cs := [(iv x101.X), (iv x101.Y)]) ag_51 sz_51 (h1.ev rfl) (CellsAt.take (rdb h2 (vs := [(iv x101.X), (iv x101.Y)]) (k := 2) rfl 0) 2) rfl) ?_
     refine Tq.va rfl (fun _ _ h1 h2 => run_eql_51 x126 x101 (h1.ev rfl) (h1.ev rfl)) ?_
     refine Tq.nil (Tr.normThen ?_)
     refine Tr.cond rfl H (fun H => ?_) (fun H => ?_)
     ·refine Tr.sr ?_
      refine Tr.asg rfl rfl ?_
      refine Tr.nil (Tr.normThen ?_)
      refine Tr.ret (Tr.retBlock (Tr.retThen (Tr.retThen (Tr.retBlock (Tr.retThen ?_)))))
      obtain rfl := Option.some.inj H
      exact Tr.out (m := [(iv 7)]) [] (res_tmp rfl res_nil) (fun W hW => ⟨rfl, hW.low leB⟩)
     ·refine Tr.skip (Tr.normBlock (Tr.normThen ?_))
      refine Tr.region ?_
      refine Tr.mv rfl rfl ?_
      refine Tr.va rfl (fun _ _ h1 h2 => run_add (h1.ev rfl) (h1.ev rfl)) ?_
      refine Tr.asg rfl rfl ?_
      refine Tr.nil ?_
      exact Tr.backThen leL2 (w64 (x125 + 1)) H (.cons rfl (.cons rfl (.cons rfl (.cons rfl .nil)))) (.cons rfl (.cons rfl .nil))
    ·refine Tr.exit (Tr.exitThen (Tr.exitThen (Tr.exitBlock (Tr.normThen ?_))))
     refine Tr.sr ?_
     refine Tr.asg rfl rfl ?_
     refine Tr.nil (Tr.normThen ?_)
     refine Tr.ret ?_
     obtain rfl := Option.some.inj H
     exact Tr.out (m := [(iv 0)]) [] (res_tmp rfl res_nil) (fun W hW => ⟨rfl, hW.low leB⟩)

theorem F_etchhouseref9_CheckPanel_ok (N : Nat) {w : Bs} (p0 : TPanel) (Ap0_0 : Option Addr) (cp0_0 : Nat) (hp0_0 : Sl w.R w.W fl_TBoardKind Ap0_0 cp0_0 p0.Kinds) (Ap0_1 : Option Addr) (cp0_1 : Nat) (hp0_1 : Sl w.R w.W fl_TSlot Ap0_1 cp0_1 p0.Slots) (Ap0_2 : Option Addr) (cp0_2 : Nat) (hp0_2 : Sl w.R w.W fl_TPoint Ap0_2 cp0_2 p0.Marks) (r : Int) (H : F_etchhouseref9_CheckPanel N p0 = some r) (hE : HF w w.W E0) : Calls Tryz.prog 20 [(.agg #[(iv p0.W), (iv p0.H), (iv p0.Rail), (iv p0.Gap), (.slice Ap0_0 (p0.Kinds).length cp0_0), (.slice Ap0_1 (p0.Slots).length cp0_1), (.slice Ap0_2 (p0.Marks).length cp0_2)])].toArray w.W fun e W' => e = .returned (iv r) ∧ HF w W' E0 := by
 unfold F_etchhouseref9_CheckPanel at H
 have leB := Bs.Le.refl w
 refine Tr.enter (n := 109) Tryz.func20 rfl rfl rfl hE ?_
 refine Tr.sr ?_
 refine Tr.box 1 (cs := [(iv p0.W), (iv p0.H), (iv p0.Rail), (iv p0.Gap), (.slice Ap0_0 (p0.Kinds).length cp0_0), (.slice Ap0_1 (p0.Slots).length cp0_1), (.slice Ap0_2 (p0.Marks).length cp0_2)]) (wn rfl) rfl rfl rfl fun b100 => ?_
 refine Tr.asg rfl rfl ?_
 refine Tr.nil (Tr.normThen ?_)
 refine Tr.seq ?_
 refine Tr.sr ?_
 refine Tr.va rfl (fun _ _ h1 h2 => run_fieldAddr fo_26_0 (h1.ev rfl)) ?_
 refine Tr.va rfl (fun _ _ h1 h2 => run_load1 ag_3 (h1.ev rfl) (rdb h2 (vs := [(iv p0.W), (iv p0.H), (iv p0.Rail), (iv p0.Gap), (.slice Ap0_0 (p0.Kinds).length cp0_0), (.slice Ap0_1 (p0.Slots).length cp0_1), (.slice Ap0_2 (p0.Marks).length cp0_2)]) (k := 1) rfl 0) rfl) ?_
 obtain ⟨y101, hy101, H⟩ := bnd H
 refine Tr.call0 (r := (.bool y101)) (wn rfl) rfl Tryz.call35 (evl_cons rfl (evl_cons rfl (evl_cons rfl evl_nil))) (fun W hW => F_etchhouseref9_within_ok p0.W 1 1000000 y101 hy101 (HF.start _)) ?_
 refine Tr.va rfl (fun _ _ h1 h2 => run_not (h1.ev rfl)) ?_
 refine Tr.mv rfl rfl ?_
 obtain ⟨g103, hg103, H⟩ := bnd H
 refine Tr.mid0 5 [(1, (.pointer (some ⟨b100, 0, none⟩))), (18, (.bool g103))] [(1, bx b100 #[(iv p0.W), (iv p0.H), (iv p0.Rail), (iv p0.Gap), (.slice Ap0_0 (p0.Kinds).length cp0_0), (.slice Ap0_1 (p0.Slots).length cp0_1), (.slice Ap0_2 (p0.Marks).length cp0_2)] 26)] ?_ ?_
 ·cases hg158 : (!y101)
  ·rw [hg158] at hg103
   rw [if_neg (by decide)] at hg103
   have H := hg103
   refine Tr.val (wg rfl rfl rfl) rfl (fun _ _ h1 h2 => run_fieldAddr fo_26_1 (h1.ev rfl)) ?_
   refine Tr.val (wg rfl rfl rfl) rfl (fun _ _ h1 h2 => run_load1 ag_3 (h1.ev rfl) (rdb h2 (vs := [(iv p0.W), (iv p0.H), (iv p0.Rail), (iv p0.Gap), (.slice Ap0_0 (p0.Kinds).length cp0_0), (.slice Ap0_1 (p0.Slots).length cp0_1), (.slice Ap0_2 (p0.Marks).length cp0_2)]) (k := 1) rfl 1) rfl) ?_
   obtain ⟨y104, hy104, H⟩ := bnd H
   refine Tr.call0 (r := (.bool y104)) (wg rfl rfl rfl) rfl Tryz.call35 (evl_cons rfl (evl_cons rfl (evl_cons rfl evl_nil))) (fun W hW => F_etchhouseref9_within_ok p0.H 1 1000000 y104 hy104 (HF.start _)) ?_
   refine Tr.val (wg rfl rfl rfl) rfl (fun _ _ h1 h2 => run_not (h1.ev rfl)) ?_
   refine Tr.va rfl (fun _ _ h1 h2 => run_pickF (h1.ev rfl) (h1.ev rfl)) ?_
   obtain rfl := Option.some.inj H
   exact Tr.nil (Tr.fin0 (.cons rfl (.cons rfl .nil)) (.cons rfl .nil))
  ·rw [hg158] at hg103
   rw [if_pos rfl] at hg103
   have H := hg103
   obtain rfl := Option.some.inj H
   refine Tr.pass rfl rfl rfl rfl rfl (by decide) ?_
   refine Tr.pass rfl rfl rfl rfl rfl (by decide) ?_
   refine Tr.pass rfl rfl rfl rfl rfl (by decide) ?_
   refine Tr.pass rfl rfl rfl rfl rfl (by decide) ?_
   refine Tr.va rfl (fun _ _ h1 h2 => run_pickT (h1.ev rfl) (h1.ev rfl)) ?_
   exact Tr.nil (Tr.fin0 (.cons rfl (.cons rfl .nil)) (.cons rfl .nil))
 ·show Tr _ _ (LF [(1, (.pointer (some ⟨b100, 0, none⟩))), (18, (.bool g103))]) (LE [(1, bx b100 #[(iv p0.W), (iv p0.H), (iv p0.Rail), (iv p0.Gap), (.slice Ap0_0 (p0.Kinds).length cp0_0), (.slice Ap0_1 (p0.Slots).length cp0_1), (.slice Ap0_2 (p0.Marks).length cp0_2)] 26)]) _
  refine Tr.mv rfl rfl ?_
  obtain ⟨g106, hg106, H⟩ := bnd H
  refine Tr.mid0 5 [(1, (.pointer (some ⟨b100, 0, none⟩))), (24, (.bool g106))] [(1, bx b100 #[(iv p0.W), (iv p0.H), (iv p0.Rail), (iv p0.Gap), (.slice Ap0_0 (p0.Kinds).length cp0_0), (.slice Ap0_1 (p0.Slots).length cp0_1), (.slice Ap0_2 (p0.Marks).length cp0_2)] 26)] ?_ ?_
  ·cases hg158 : g103
   ·rw [hg158] at hg106
    rw [if_neg (by decide)] at hg106
    have H := hg106
    refine Tr.val (wg rfl rfl rfl) rfl (fun _ _ h1 h2 => run_fieldAddr fo_26_2 (h1.ev rfl)) ?_
    refine Tr.val (wg rfl rfl rfl) rfl (fun _ _ h1 h2 => run_load1 ag_3 (h1.ev rfl) (rdb h2 (vs := [(iv p0.W), (iv p0.H), (iv p0.Rail), (iv p0.Gap), (.slice Ap0_0 (p0.Kinds).length cp0_0), (.slice Ap0_1 (p0.Slots).length cp0_1), (.slice Ap0_2 (p0.Marks).length cp0_2)]) (k := 1) rfl 2) rfl) ?_
    obtain ⟨y107, hy107, H⟩ := bnd H
    refine Tr.call0 (r := (.bool y107)) (wg rfl rfl rfl) rfl Tryz.call35 (evl_cons rfl (evl_cons rfl (evl_cons rfl evl_nil))) (fun W hW => F_etchhouseref9_within_ok p0.Rail 0 1000000 y107 hy107 (HF.start _)) ?_
    refine Tr.val (wg rfl rfl rfl) rfl (fun _ _ h1 h2 => run_not (h1.ev rfl)) ?_
    refine Tr.va rfl (fun _ _ h1 h2 => run_pickF (h1.ev rfl) (h1.ev rfl)) ?_
    obtain rfl := Option.some.inj H
    exact Tr.nil (Tr.fin0 (.cons rfl (.cons rfl .nil)) (.cons rfl .nil))
   ·rw [hg158] at hg106
    rw [if_pos rfl] at hg106
    have H := hg106
    obtain rfl := Option.some.inj H
    refine Tr.pass rfl rfl rfl rfl rfl (by decide) ?_
    refine Tr.pass rfl rfl rfl rfl rfl (by decide) ?_
    refine Tr.pass rfl rfl rfl rfl rfl (by decide) ?_
    refine Tr.pass rfl rfl rfl rfl rfl (by decide) ?_
    refine Tr.va rfl (fun _ _ h1 h2 => run_pickT (h1.ev rfl) (h1.ev rfl)) ?_
    exact Tr.nil (Tr.fin0 (.cons rfl (.cons rfl .nil)) (.cons rfl .nil))
  ·show Tr _ _ (LF [(1, (.pointer (some ⟨b100, 0, none⟩))), (24, (.bool g106))]) (LE [(1, bx b100 #[(iv p0.W), (iv p0.H), (iv p0.Rail), (iv p0.Gap), (.slice Ap0_0 (p0.Kinds).length cp0_0), (.slice Ap0_1 (p0.Slots).length cp0_1), (.slice Ap0_2 (p0.Marks).length cp0_2)] 26)]) _
   refine Tr.mv rfl rfl ?_
   obtain ⟨g109, hg109, H⟩ := bnd H
   refine Tr.mid0 5 [(1, (.pointer (some ⟨b100, 0, none⟩))), (30, (.bool g109))] [(1, bx b100 #[(iv p0.W), (iv p0.H), (iv p0.Rail), (iv p0.Gap), (.slice Ap0_0 (p0.Kinds).length cp0_0), (.slice Ap0_1 (p0.Slots).length cp0_1), (.slice Ap0_2 (p0.Marks).length cp0_2)] 26)] ?_ ?_
   ·cases hg158 : g106
    ·rw [hg158] at hg109
     rw [if_neg (by decide)] at hg109
     have H := hg109
     refine Tr.val (wg rfl rfl rfl) rfl (fun _ _ h1 h2 => run_fieldAddr fo_26_3 (h1.ev rfl)) ?_
     refine Tr.val (wg rfl rfl rfl) rfl (fun _ _ h1 h2 => run_load1 ag_3 (h1.ev rfl) (rdb h2 (vs := [(iv p0.W), (iv p0.H), (iv p0.Rail), (iv p0.Gap), (.slice Ap0_0 (p0.Kinds).length cp0_0), (.slice Ap0_1 (p0.Slots).length cp0_1), (.slice Ap0_2 (p0.Marks).length cp0_2)]) (k := 1) rfl 3) rfl) ?_
     obtain ⟨y110, hy110, H⟩ := bnd H
     refine Tr.call0 (r := (.bool y110)) (wg rfl rfl rfl) rfl Tryz.call35 (evl_cons rfl (evl_cons rfl (evl_cons rfl evl_nil))) (fun W hW => F_etchhouseref9_within_ok p0.Gap 0 1000000 y110 hy110 (HF.start _)) ?_
     refine Tr.val (wg rfl rfl rfl) rfl (fun _ _ h1 h2 => run_not (h1.ev rfl)) ?_
     refine Tr.va rfl (fun _ _ h1 h2 => run_pickF (h1.ev rfl) (h1.ev rfl)) ?_
     obtain rfl := Option.some.inj H
     exact Tr.nil (Tr.fin0 (.cons rfl (.cons rfl .nil)) (.cons rfl .nil))
    ·rw [hg158] at hg109
     rw [if_pos rfl] at hg109
     have H := hg109
     obtain rfl := Option.some.inj H
     refine Tr.pass rfl rfl rfl rfl rfl (by decide) ?_
     refine Tr.pass rfl rfl rfl rfl rfl (by decide) ?_
     refine Tr.pass rfl rfl rfl rfl rfl (by decide) ?_
     refine Tr.pass rfl rfl rfl rfl rfl (by decide) ?_
     refine Tr.va rfl (fun _ _ h1 h2 => run_pickT (h1.ev rfl) (h1.ev rfl)) ?_
     exact Tr.nil (Tr.fin0 (.cons rfl (.cons rfl .nil)) (.cons rfl .nil))
   ·show Tr _ _ (LF [(1, (.pointer (some ⟨b100, 0, none⟩))), (30, (.bool g109))]) (LE [(1, bx b100 #[(iv p0.W), (iv p0.H), (iv p0.Rail), (iv p0.Gap), (.slice Ap0_0 (p0.Kinds).length cp0_0), (.slice Ap0_1 (p0.Slots).length cp0_1), (.slice Ap0_2 (p0.Marks).length cp0_2)] 26)]) _
    refine Tr.nil (Tr.normThen ?_)
    refine Tr.cond rfl H (fun H => ?_) (fun H => ?_)
    ·refine Tr.sr ?_
     refine Tr.asg rfl rfl ?_
     refine Tr.nil (Tr.normThen ?_)
     refine Tr.ret (Tr.retThen ?_)
     obtain rfl := Option.some.inj H
     exact Tr.out (m := [(iv 1)]) [] (res_tmp rfl res_nil) (fun W hW => ⟨rfl, hW.low leB⟩)
    ·refine Tr.skip (Tr.normThen ?_)
     refine Tr.seq ?_
     refine Tr.sr ?_
     refine Tr.va rfl (fun _ _ h1 h2 => run_fieldAddr fo_26_4 (h1.ev rfl)) ?_
     refine Tr.va rfl (fun _ _ h1 h2 => run_load1 ag_22 (h1.ev rfl) (rdb h2 (vs := [(iv p0.W), (iv p0.H), (iv p0.Rail), (iv p0.Gap), (.slice Ap0_0 (p0.Kinds).length cp0_0), (.slice Ap0_1 (p0.Slots).length cp0_1), (.slice Ap0_2 (p0.Marks).length cp0_2)]) (k := 1) rfl 4) rfl) ?_
     refine Tr.va rfl (fun _ _ h1 h2 => run_len un_22 (h1.ev rfl)) ?_
     refine Tr.va rfl (fun _ _ h1 h2 => run_gtr (h1.ev rfl) (h1.ev rfl)) ?_
     refine Tr.nil (Tr.normThen ?_)
     refine Tr.cond rfl H (fun H => ?_) (fun H => ?_)
     ·refine Tr.sr ?_
      refine Tr.asg rfl rfl ?_
      refine Tr.nil (Tr.normThen ?_)
      refine Tr.ret (Tr.retThen ?_)
      obtain rfl := Option.some.inj H
      exact Tr.out (m := [(iv 2)]) [] (res_tmp rfl res_nil) (fun W hW => ⟨rfl, hW.low leB⟩)
     ·refine Tr.skip (Tr.normThen ?_)
      refine Tr.seq ?_
      refine Tr.sr ?_
      refine Tr.asg rfl rfl ?_
      refine Tr.nil (Tr.normThen ?_)
      refine Tr.block ?_
      refine Tr.loop (σ := Int) (fun m w s => F_etchhouseref9_CheckPanel_L1 N p0 m s = some r) (fun s => [(1, (.pointer (some ⟨b100, 0, none⟩))), (3, (iv s))]) (fun s => [(1, bx b100 #[(iv p0.W), (iv p0.H), (iv p0.Rail), (iv p0.Gap), (.slice Ap0_0 (p0.Kinds).length cp0_0), (.slice Ap0_1 (p0.Slots).length cp0_1), (.slice Ap0_2 (p0.Marks).length cp0_2)] 26)]) N 0 H (.cons rfl (.cons rfl .nil)) (.cons rfl .nil) (fun _ _ h => noSome (h)) ?_
      intro w leL1 mL1 x134 hs
      have H := hs
      replace H : F_etchhouseref9_CheckPanel_L1 N p0 (mL1 + 1) x134 = some r := H
      replace hp0_0 := hp0_0.leR leL1
      replace hp0_1 := hp0_1.leR leL1
      replace hp0_2 := hp0_2.leR leL1
      replace leB := leB.trans leL1
      rw [F_etchhouseref9_CheckPanel_L1.eq_2] at H
      show Tr _ _ (LF [(1, (.pointer (some ⟨b100, 0, none⟩))), (3, (iv x134))]) (LE [(1, bx b100 #[(iv p0.W), (iv p0.H), (iv p0.Rail), (iv p0.Gap), (.slice Ap0_0 (p0.Kinds).length cp0_0), (.slice Ap0_1 (p0.Slots).length cp0_1), (.slice Ap0_2 (p0.Marks).length cp0_2)] 26)]) _
      refine Tr.seq ?_
      refine Tr.sr ?_
      refine Tr.mv rfl rfl ?_
      refine Tr.va rfl (fun _ _ h1 h2 => run_fieldAddr fo_26_4 (h1.ev rfl)) ?_
      refine Tr.va rfl (fun _ _ h1 h2 => run_load1 ag_22 (h1.ev rfl) (rdb h2 (vs := [(iv p0.W), (iv p0.H), (iv p0.Rail), (iv p0.Gap), (.slice Ap0_0 (p0.Kinds).length cp0_0), (.slice Ap0_1 (p0.Slots).length cp0_1), (.slice Ap0_2 (p0.Marks).length cp0_2)]) (k := 1) rfl 4) rfl) ?_
      refine Tr.va rfl (fun _ _ h1 h2 => run_len un_22 (h1.ev rfl)) ?_
      refine Tr.va rfl (fun _ _ h1 h2 => run_lss (h1.ev rfl) (h1.ev rfl)) ?_
      refine Tr.nil (Tr.normThen ?_)
      refine Tr.cond rfl H (fun H => ?_) (fun H => ?_)
      ·refine Tr.skip (Tr.normThen ?_)
       refine Tr.seq ?_
       refine Tr.block ?_
       refine Tr.sr ?_
       refine Tr.va rfl (fun _ _ h1 h2 => run_fieldAddr fo_26_4 (h1.ev rfl)) ?_
       refine Tr.va rfl (fun _ _ h1 h2 => run_load1 ag_22 (h1.ev rfl) (rdb h2 (vs := [(iv p0.W), (iv p0.H), (iv p0.Rail), (iv p0.Gap), (.slice Ap0_0 (p0.Kinds).length cp0_0), (.slice Ap0_1 (p0.Slots).length cp0_1), (.slice Ap0_2 (p0.Marks).length cp0_2)]) (k := 1) rfl 4) rfl) ?_
       refine Tr.mv rfl rfl ?_
       obtain ⟨x135, hx135, H⟩ := bnd H
       obtain ⟨hx1350, hx1351, hx1352⟩ := idx_some hx135
       refine Tr.va rfl (fun _ _ h1 h2 => run_indexAddr el_22 (h1.ev rfl) hp0_0.form (h1.ev rfl) hx1350 hx1351) ?_
       refine Tr.va rfl (fun _ _ h1 h2 => run_loadN (cs := [(sv x135.Name), (iv x135.W), (iv x135.H)]) ag_49 sz_49 (h1.ev rfl) (CellsAt.take (rdF ef_TBoardKind hp0_0 hx1352 h2) 3) rfl) ?_
       refine Tr.alloc 4 (wn rfl) rfl ze_49 fun b136 => ?_
       refine Tr.store 4 (cs := [(sv x135.Name), (iv x135.W), (iv x135.H)]) [(sv x135.Name), (iv x135.W), (iv x135.H)] (wn rfl) rfl rfl rfl rfl sz_49 rfl rfl rfl ?_
       refine Tr.nil (Tr.normThen ?_)
       refine Tr.seq ?_
       refine Tr.sr ?_
       refine Tr.va rfl (fun _ _ h1 h2 => run_fieldAddr fo_49_0 (h1.ev rfl)) ?_
       refine Tr.va rfl (fun _ _ h1 h2 => run_load1 ag_9 (h1.ev rfl) (rdb h2 (vs := [(sv x135.Name), (iv x135.W), (iv x135.H)]) (k := 4) rfl 0) rfl) ?_
       obtain ⟨y137, hy137, H⟩ := bnd H
       refine Tr.call0 (r := (.bool y137)) (wn rfl) rfl Tryz.call36 (evl_cons rfl evl_nil) (fun W hW => F_etchhouseref3_IsName_ok N x135.Name y137 hy137 (HF.start _)) ?_
       refine Tr.va rfl (fun _ _ h1 h2 => run_not (h1.ev rfl)) ?_
       refine Tr.nil (Tr.normThen ?_)
       refine Tr.cond rfl H (fun H => ?_) (fun H => ?_)
       ·refine Tr.sr ?_
        refine Tr.asg rfl rfl ?_
        refine Tr.nil (Tr.normThen ?_)
        refine Tr.ret (Tr.retThen (Tr.retBlock (Tr.retThen (Tr.retThen (Tr.retBlock (Tr.retThen ?_))))))
        obtain rfl := Option.some.inj H
        exact Tr.out (m := [(iv 5)]) [] (res_tmp rfl res_nil) (fun W hW => ⟨rfl, hW.low leB⟩)
       ·refine Tr.skip (Tr.normThen ?_)
        refine Tr.seq ?_
        refine Tr.sr ?_
        refine Tr.va rfl (fun _ _ h1 h2 => run_fieldAddr fo_49_1 (h1.ev rfl)) ?_
        refine Tr.va rfl (fun _ _ h1 h2 => run_load1 ag_3 (h1.ev rfl) (rdb h2 (vs := [(sv x135.Name), (iv x135.W), (iv x135.H)]) (k := 4) rfl 1) rfl) ?_
        obtain ⟨y138, hy138, H⟩ := bnd H
        refine Tr.call0 (r := (.bool y138)) (wn rfl) rfl Tryz.call35 (evl_cons rfl (evl_cons rfl (evl_cons rfl evl_nil))) (fun W hW => F_etchhouseref9_within_ok x135.W 1 1000000 y138 hy138 (HF.start _)) ?_
        refine Tr.va rfl (fun _ _ h1 h2 => run_not (h1.ev rfl)) ?_
        refine Tr.mv rfl rfl ?_
        obtain ⟨g140, hg140, H⟩ := bnd H
        refine Tr.mid0 5 [(1, (.pointer (some ⟨b100, 0, none⟩))), (3, (iv x134)), (4, (.pointer (some ⟨b136, 0, none⟩))), (60, (.bool g140))] [(1, bx b100 #[(iv p0.W), (iv p0.H), (iv p0.Rail), (iv p0.Gap), (.slice Ap0_0 (p0.Kinds).length cp0_0), (.slice Ap0_1 (p0.Slots).length cp0_1), (.slice Ap0_2 (p0.Marks).length cp0_2)] 26), (4, bx b136 #[(sv x135.Name), (iv x135.W), (iv x135.H)] 49)] ?_ ?_
        ·cases hg144 : (!y138)
         ·rw [hg144] at hg140
          rw [if_neg (by decide)] at hg140
          have H := hg140
          refine Tr.val (wg rfl rfl rfl) rfl (fun _ _ h1 h2 => run_fieldAddr fo_49_2 (h1.ev rfl)) ?_
          refine Tr.val (wg rfl rfl rfl) rfl (fun _ _ h1 h2 => run_load1 ag_3 (h1.ev rfl) (rdb h2 (vs := [(sv x135.Name), (iv x135.W), (iv x135.H)]) (k := 4) rfl 2) rfl) ?_
          obtain ⟨y141, hy141, H⟩ := bnd H
          refine Tr.call0 (r := (.bool y141)) (wg rfl rfl rfl) rfl Tryz.call35 (evl_cons rfl (evl_cons rfl (evl_cons rfl evl_nil))) (fun W hW => F_etchhouseref9_within_ok x135.H 1 1000000 y141 hy141 (HF.start _)) ?_
          refine Tr.val (wg rfl rfl rfl) rfl (fun _ _ h1 h2 => run_not (h1.ev rfl)) ?_
          refine Tr.va rfl (fun _ _ h1 h2 => run_pickF (h1.ev rfl) (h1.ev rfl)) ?_
          obtain rfl := Option.some.inj H
          exact Tr.nil (Tr.fin0 (.cons rfl (.cons rfl (.cons rfl (.cons rfl .nil)))) (.cons rfl (.cons rfl .nil)))
         ·rw [hg144] at hg140
          rw [if_pos rfl] at hg140
          have H := hg140
          obtain rfl := Option.some.inj H
          refine Tr.pass rfl rfl rfl rfl rfl (by decide) ?_
          refine Tr.pass rfl rfl rfl rfl rfl (by decide) ?_
          refine Tr.pass rfl rfl rfl rfl rfl (by decide) ?_
          refine Tr.pass rfl rfl rfl rfl rfl (by decide) ?_
          refine Tr.va rfl (fun _ _ h1 h2 => run_pickT (h1.ev rfl) (h1.ev rfl)) ?_
          exact Tr.nil (Tr.fin0 (.cons rfl (.cons rfl (.cons rfl (.cons rfl .nil)))) (.cons rfl (.cons rfl .nil)))
        ·show Tr _ _ (LF [(1, (.pointer (some ⟨b100, 0, none⟩))), (3, (iv x134)), (4, (.pointer (some ⟨b136, 0, none⟩))), (60, (.bool g140))]) (LE [(1, bx b100 #[(iv p0.W), (iv p0.H), (iv p0.Rail), (iv p0.Gap), (.slice Ap0_0 (p0.Kinds).length cp0_0), (.slice Ap0_1 (p0.Slots).length cp0_1), (.slice Ap0_2 (p0.Marks).length cp0_2)] 26), (4, bx b136 #[(sv x135.Name), (iv x135.W), (iv x135.H)] 49)]) _
         refine Tr.nil (Tr.normThen ?_)
         refine Tr.cond rfl H (fun H => ?_) (fun H => ?_)
         ·refine Tr.sr ?_
          refine Tr.asg rfl rfl ?_
          refine Tr.nil (Tr.normThen ?_)
          refine Tr.ret (Tr.retThen (Tr.retBlock (Tr.retThen (Tr.retThen (Tr.retBlock (Tr.retThen ?_))))))
          obtain rfl := Option.some.inj H
          exact Tr.out (m := [(iv 1)]) [] (res_tmp rfl res_nil) (fun W hW => ⟨rfl, hW.low leB⟩)
         ·refine Tr.skip (Tr.normThen ?_)
          refine Tr.seq ?_
          refine Tr.draw (by kernel_rfl) (by kernel_rfl) ?_
          refine Tq.mv rfl rfl ?_
          refine Tq.va rfl (fun _ _ h1 h2 => run_gtr (h1.ev rfl) (h1.ev rfl)) ?_
          refine Tq.mv rfl rfl ?_
          obtain ⟨g143, hg143, H⟩ := bnd H
          refine Tq.mid 11 [(1, (.pointer (some ⟨b100, 0, none⟩))), (3, (iv x134)), (74, (.bool g143))] ?_ ?_
          ·cases hg144 : (decide (0 < x134))
           ·rw [hg144] at hg143
            rw [if_neg (by decide)] at hg143
            have H := hg143
            obtain rfl := Option.some.inj H
            refine Tq.pass rfl rfl rfl rfl rfl (by decide) ?_
            refine Tq.pass rfl rfl rfl rfl rfl (by decide) ?_
            refine Tq.pass rfl rfl rfl rfl rfl (by decide) ?_
            refine Tq.pass rfl rfl rfl rfl rfl (by decide) ?_
            refine Tq.pass rfl rfl rfl rfl rfl (by decide) ?_
            refine Tq.pass rfl rfl rfl rfl rfl (by decide) ?_
            refine Tq.pass rfl rfl rfl rfl rfl (by decide) ?_
            refine Tq.pass rfl rfl rfl rfl rfl (by decide) ?_
            refine Tq.pass rfl rfl rfl rfl rfl (by decide) ?_
            refine Tq.pass rfl rfl rfl rfl rfl (by decide) ?_
            refine Tq.va rfl (fun _ _ h1 h2 => run_pickF (h1.ev rfl) (h1.ev rfl)) ?_
            exact Tq.fin (.cons rfl (.cons rfl (.cons rfl .nil)))
           ·rw [hg144] at hg143
            rw [if_pos rfl] at hg143
            have H := hg143
            refine Tq.val (wg rfl rfl rfl) rfl (fun _ _ h1 h2 => run_fieldAddr fo_49_0 (h1.ev rfl)) ?_
            refine Tq.val (wg rfl rfl rfl) rfl (fun _ _ h1 h2 => run_load1 ag_9 (h1.ev rfl) (rdb h2 (vs := [(sv x135.Name), (iv x135.W), (iv x135.H)]) (k := 4) rfl 0) rfl) ?_
            refine Tq.val (wg rfl rfl rfl) rfl (fun _ _ h1 h2 => run_fieldAddr fo_26_4 (h1.ev rfl)) ?_
            refine Tq.val (wg rfl rfl rfl) rfl (fun _ _ h1 h2 => run_load1 ag_22 (h1.ev rfl) (rdb h2 (vs := [(iv p0.W), (iv p0.H), (iv p0.Rail), (iv p0.Gap), (.slice Ap0_0 (p0.Kinds).length cp0_0), (.slice Ap0_1 (p0.Slots).length cp0_1), (.slice Ap0_2 (p0.Marks).length cp0_2)]) (k := 1) rfl 4) rfl) ?_
            refine Tq.val (wg rfl rfl rfl) rfl (fun _ _ h1 h2 => run_move (h1.ev rfl)) ?_
            refine Tq.val (wg rfl rfl rfl) rfl (fun _ _ h1 h2 => run_sub (h1.ev rfl) (h1.ev rfl)) ?_
            obtain ⟨x144, hx144, H⟩ := bnd H
            obtain ⟨hx1440, hx1441, hx1442⟩ := idx_some hx144
            refine Tq.val (wg rfl rfl rfl) rfl (fun _ _ h1 h2 => run_indexAddr el_22 (h1.ev rfl) hp0_0.form (h1.ev rfl) hx1440 hx1441) ?_
            refine Tq.val (wg rfl rfl rfl) rfl (fun _ _ h1 h2 => run_fieldAddr fo_49_0 (h1.ev rfl)) ?_
            refine Tq.val (wg rfl rfl rfl) rfl (fun _ _ h1 h2 => run_load1 ag_9 (h1.ev rfl) (CellsAt.drop (rdF ef_TBoardKind hp0_0 hx1442 h2) 0) rfl) ?_
            refine Tq.val (wg rfl rfl rfl) rfl (fun _ _ h1 h2 => run_leqS (h1.ev rfl) (h1.ev rfl)) ?_
            refine Tq.va rfl (fun _ _ h1 h2 => run_pickT (h1.ev rfl) (h1.ev rfl)) ?_
            obtain rfl := Option.some.inj H
            exact Tq.fin (.cons rfl (.cons rfl (.cons rfl .nil)))
          ·refine Tq.nil (Tr.normThen ?_)
           refine Tr.cond rfl H (fun H => ?_) (fun H => ?_)
           ·refine Tr.sr ?_
            refine Tr.asg rfl rfl ?_
            refine Tr.nil (Tr.normThen ?_)
            refine Tr.ret (Tr.retBlock (Tr.retThen (Tr.retThen (Tr.retBlock (Tr.retThen ?_)))))
            obtain rfl := Option.some.inj H
            exact Tr.out (m := [(iv 8)]) [] (res_tmp rfl res_nil) (fun W hW => ⟨rfl, hW.low leB⟩)
           ·refine Tr.skip (Tr.normBlock (Tr.normThen ?_))
            refine Tr.region ?_
            refine Tr.mv rfl rfl ?_
            refine Tr.va rfl (fun _ _ h1 h2 => run_add (h1.ev rfl) (h1.ev rfl)) ?_
            refine Tr.asg rfl rfl ?_
            refine Tr.nil ?_
            exact Tr.backThen leL1 (w64 (x134 + 1)) H (.cons rfl (.cons rfl .nil)) (.cons rfl .nil)
      ·refine Tr.exit (Tr.exitThen (Tr.exitThen (Tr.exitBlock (Tr.normThen ?_))))
       refine Tr.seq ?_
       refine Tr.sr ?_
       refine Tr.va rfl (fun _ _ h1 h2 => run_fieldAddr fo_26_5 (h1.ev rfl)) ?_
       refine Tr.va rfl (fun _ _ h1 h2 => run_load1 ag_23 (h1.ev rfl) (rdb h2 (vs := [(iv p0.W), (iv p0.H), (iv p0.Rail), (iv p0.Gap), (.slice Ap0_0 (p0.Kinds).length cp0_0), (.slice Ap0_1 (p0.Slots).length cp0_1), (.slice Ap0_2 (p0.Marks).length cp0_2)]) (k := 1) rfl 5) rfl) ?_
       refine Tr.va rfl (fun _ _ h1 h2 => run_len un_23 (h1.ev rfl)) ?_
       refine Tr.va rfl (fun _ _ h1 h2 => run_gtr (h1.ev rfl) (h1.ev rfl)) ?_
       refine Tr.nil (Tr.normThen ?_)
       refine Tr.cond rfl H (fun H => ?_) (fun H => ?_)
       ·refine Tr.sr ?_
        refine Tr.asg rfl rfl ?_
        refine Tr.nil (Tr.normThen ?_)
        refine Tr.ret (Tr.retThen ?_)
        obtain rfl := Option.some.inj H
        exact Tr.out (m := [(iv 2)]) [] (res_tmp rfl res_nil) (fun W hW => ⟨rfl, hW.low leB⟩)
       ·refine Tr.skip (Tr.normThen ?_)
        refine Tr.seq ?_
        refine Tr.sr ?_
        refine Tr.asg rfl rfl ?_
        refine Tr.nil (Tr.normThen ?_)
        refine Tr.block ?_
        refine Tr.loop (σ := Int) (fun m w s => F_etchhouseref9_CheckPanel_L2 N p0 m s = some r) (fun s => [(1, (.pointer (some ⟨b100, 0, none⟩))), (5, (iv s))]) (fun s => [(1, bx b100 #[(iv p0.W), (iv p0.H), (iv p0.Rail), (iv p0.Gap), (.slice Ap0_0 (p0.Kinds).length cp0_0), (.slice Ap0_1 (p0.Slots).length cp0_1), (.slice Ap0_2 (p0.Marks).length cp0_2)] 26)]) N 0 H (.cons rfl (.cons rfl .nil)) (.cons rfl .nil) (fun _ _ h => noSome (h)) ?_
        intro w leL2 mL2 x150 hs
        have H := hs
        replace H : F_etchhouseref9_CheckPanel_L2 N p0 (mL2 + 1) x150 = some r := H
        replace hp0_0 := hp0_0.leR leL2
        replace hp0_1 := hp0_1.leR leL2
        replace hp0_2 := hp0_2.leR leL2
        replace leB := leB.trans leL2
        replace leL1 := leL1.trans leL2
        rw [F_etchhouseref9_CheckPanel_L2.eq_2] at H
        show Tr _ _ (LF [(1, (.pointer (some ⟨b100, 0, none⟩))), (5, (iv x150))]) (LE [(1, bx b100 #[(iv p0.W), (iv p0.H), (iv p0.Rail), (iv p0.Gap), (.slice Ap0_0 (p0.Kinds).length cp0_0), (.slice Ap0_1 (p0.Slots).length cp0_1), (.slice Ap0_2 (p0.Marks).length cp0_2)] 26)]) _
        refine Tr.seq ?_
        refine Tr.sr ?_
        refine Tr.mv rfl rfl ?_
        refine Tr.va rfl (fun _ _ h1 h2 => run_fieldAddr fo_26_5 (h1.ev rfl)) ?_
        refine Tr.va rfl (fun _ _ h1 h2 => run_load1 ag_23 (h1.ev rfl) (rdb h2 (vs := [(iv p0.W), (iv p0.H), (iv p0.Rail), (iv p0.Gap), (.slice Ap0_0 (p0.Kinds).length cp0_0), (.slice Ap0_1 (p0.Slots).length cp0_1), (.slice Ap0_2 (p0.Marks).length cp0_2)]) (k := 1) rfl 5) rfl) ?_
        refine Tr.va rfl (fun _ _ h1 h2 => run_len un_23 (h1.ev rfl)) ?_
        refine Tr.va rfl (fun _ _ h1 h2 => run_lss (h1.ev rfl) (h1.ev rfl)) ?_
        refine Tr.nil (Tr.normThen ?_)
        refine Tr.cond rfl H (fun H => ?_) (fun H => ?_)
        ·refine Tr.skip (Tr.normThen ?_)
         refine Tr.seq ?_
         refine Tr.block ?_
         refine Tr.sr ?_
         refine Tr.va rfl (fun _ _ h1 h2 => run_loadN (cs := [(iv p0.W), (iv p0.H), (iv p0.Rail), (iv p0.Gap), (.slice Ap0_0 (p0.Kinds).length cp0_0), (.slice Ap0_1 (p0.Slots).length cp0_1), (.slice Ap0_2 (p0.Marks).length cp0_2)]) ag_26 sz_26 (h1.ev rfl) (CellsAt.take (rdb h2 (vs := [(iv p0.W), (iv p0.H), (iv p0.Rail), (iv p0.Gap), (.slice Ap0_0 (p0.Kinds).length cp0_0), (.slice Ap0_1 (p0.Slots).length cp0_1), (.slice Ap0_2 (p0.Marks).length cp0_2)]) (k := 1) rfl 0) 7) rfl) ?_
         refine Tr.mv rfl rfl ?_
         obtain ⟨y151, hy151, H⟩ := bnd H
         refine Tr.call0 (r := (iv y151)) (wn rfl) rfl Tryz.call37 (evl_cons rfl (evl_cons rfl evl_nil)) (fun W hW => F_etchhouseref9_checkSlot_ok N p0 Ap0_0 cp0_0 (hp0_0.ext hW.extAll) Ap0_1 cp0_1 (hp0_1.ext hW.extAll) Ap0_2 cp0_2 (hp0_2.ext hW.extAll) x150 y151 hy151 (HF.start _)) ?_
         refine Tr.asg rfl rfl ?_
         refine Tr.nil (Tr.normThen ?_)
         refine Tr.sr ?_
         refine Tr.mv rfl rfl ?_
         refine Tr.va rfl (fun _ _ h1 h2 => run_neq (h1.ev rfl) (h1.ev rfl)) ?_
         refine Tr.nil (Tr.normThen ?_)
         refine Tr.cond rfl H (fun H => ?_) (fun H => ?_)
         ·refine Tr.sr ?_
          refine Tr.mv rfl rfl ?_
          refine Tr.asg rfl rfl ?_
          refine Tr.nil (Tr.normThen ?_)
          refine Tr.ret (Tr.retBlock (Tr.retThen (Tr.retThen (Tr.retBlock (Tr.retThen ?_)))))
          obtain rfl := Option.some.inj H
          exact Tr.out (m := [(iv y151)]) [] (res_tmp rfl res_nil) (fun W hW => ⟨rfl, hW.low leB⟩)
         ·refine Tr.skip (Tr.normBlock (Tr.normThen ?_))
          refine Tr.region ?_
          refine Tr.mv rfl rfl ?_
          refine Tr.va rfl (fun _ _ h1 h2 => run_add (h1.ev rfl) (h1.ev rfl)) ?_
          refine Tr.asg rfl rfl ?_
          refine Tr.nil ?_
          exact Tr.backThen leL2 (w64 (x150 + 1)) H (.cons rfl (.cons rfl .nil)) (.cons rfl .nil)
        ·refine Tr.exit (Tr.exitThen (Tr.exitThen (Tr.exitBlock (Tr.normThen ?_))))
         refine Tr.seq ?_
         refine Tr.sr ?_
         refine Tr.va rfl (fun _ _ h1 h2 => run_fieldAddr fo_26_6 (h1.ev rfl)) ?_
         refine Tr.va rfl (fun _ _ h1 h2 => run_load1 ag_24 (h1.ev rfl) (rdb h2 (vs := [(iv p0.W), (iv p0.H), (iv p0.Rail), (iv p0.Gap), (.slice Ap0_0 (p0.Kinds).length cp0_0), (.slice Ap0_1 (p0.Slots).length cp0_1), (.slice Ap0_2 (p0.Marks).length cp0_2)]) (k := 1) rfl 6) rfl) ?_
         refine Tr.va rfl (fun _ _ h1 h2 => run_len un_24 (h1.ev rfl)) ?_
         refine Tr.va rfl (fun _ _ h1 h2 => run_gtr (h1.ev rfl) (h1.ev rfl)) ?_
         refine Tr.nil (Tr.normThen ?_)
         refine Tr.cond rfl H (fun H => ?_) (fun H => ?_)
         ·refine Tr.sr ?_
          refine Tr.asg rfl rfl ?_
          refine Tr.nil (Tr.normThen ?_)
          refine Tr.ret (Tr.retThen ?_)
          obtain rfl := Option.some.inj H
          exact Tr.out (m := [(iv 2)]) [] (res_tmp rfl res_nil) (fun W hW => ⟨rfl, hW.low leB⟩)
         ·refine Tr.skip (Tr.normThen ?_)
          refine Tr.seq ?_
          refine Tr.sr ?_
          refine Tr.asg rfl rfl ?_
          refine Tr.nil (Tr.normThen ?_)
          refine Tr.block ?_
          refine Tr.loop (σ := Int) (fun m w s => F_etchhouseref9_CheckPanel_L3 N p0 m s = some r) (fun s => [(1, (.pointer (some ⟨b100, 0, none⟩))), (7, (iv s))]) (fun s => [(1, bx b100 #[(iv p0.W), (iv p0.H), (iv p0.Rail), (iv p0.Gap), (.slice Ap0_0 (p0.Kinds).length cp0_0), (.slice Ap0_1 (p0.Slots).length cp0_1), (.slice Ap0_2 (p0.Marks).length cp0_2)] 26)]) N 0 H (.cons rfl (.cons rfl .nil)) (.cons rfl .nil) (fun _ _ h => noSome (h)) ?_
          intro w leL3 mL3 x157 hs
          have H := hs
          replace H : F_etchhouseref9_CheckPanel_L3 N p0 (mL3 + 1) x157 = some r := H
          replace hp0_0 := hp0_0.leR leL3
          replace hp0_1 := hp0_1.leR leL3
          replace hp0_2 := hp0_2.leR leL3
          replace leB := leB.trans leL3
          replace leL1 := leL1.trans leL3
          replace leL2 := leL2.trans leL3
          rw [F_etchhouseref9_CheckPanel_L3.eq_2] at H
          show Tr _ _ (LF [(1, (.pointer (some ⟨b100, 0, none⟩))), (7, (iv x157))]) (LE [(1, bx b100 #[(iv p0.W), (iv p0.H), (iv p0.Rail), (iv p0.Gap), (.slice Ap0_0 (p0.Kinds).length cp0_0), (.slice Ap0_1 (p0.Slots).length cp0_1), (.slice Ap0_2 (p0.Marks).length cp0_2)] 26)]) _
          refine Tr.seq ?_
          refine Tr.sr ?_
          refine Tr.mv rfl rfl ?_
          refine Tr.va rfl (fun _ _ h1 h2 => run_fieldAddr fo_26_6 (h1.ev rfl)) ?_
          refine Tr.va rfl (fun _ _ h1 h2 => run_load1 ag_24 (h1.ev rfl) (rdb h2 (vs := [(iv p0.W), (iv p0.H), (iv p0.Rail), (iv p0.Gap), (.slice Ap0_0 (p0.Kinds).length cp0_0), (.slice Ap0_1 (p0.Slots).length cp0_1), (.slice Ap0_2 (p0.Marks).length cp0_2)]) (k := 1) rfl 6) rfl) ?_
          refine Tr.va rfl (fun _ _ h1 h2 => run_len un_24 (h1.ev rfl)) ?_
          refine Tr.va rfl (fun _ _ h1 h2 => run_lss (h1.ev rfl) (h1.ev rfl)) ?_
          refine Tr.nil (Tr.normThen ?_)
          refine Tr.cond rfl H (fun H => ?_) (fun H => ?_)
          ·refine Tr.skip (Tr.normThen ?_)
           refine Tr.seq ?_
           refine Tr.block ?_
           refine Tr.sr ?_
           refine Tr.va rfl (fun _ _ h1 h2 => run_loadN (cs := [(iv p0.W), (iv p0.H), (iv p0.Rail), (iv p0.Gap), (.slice Ap0_0 (p0.Kinds).length cp0_0), (.slice Ap0_1 (p0.Slots).length cp0_1), (.slice Ap0_2 (p0.Marks).length cp0_2)]) ag_26 sz_26 (h1.ev rfl) (CellsAt.take (rdb h2 (vs := [(iv p0.W), (iv p0.H), (iv p0.Rail), (iv p0.Gap), (.slice Ap0_0 (p0.Kinds).length cp0_0), (.slice Ap0_1 (p0.Slots).length cp0_1), (.slice Ap0_2 (p0.Marks).length cp0_2)]) (k := 1) rfl 0) 7) rfl) ?_
           refine Tr.mv rfl rfl ?_
           obtain ⟨y158, hy158, H⟩ := bnd H
           refine Tr.call0 (r := (iv y158)) (wn rfl) rfl Tryz.call38 (evl_cons rfl (evl_cons rfl evl_nil)) (fun W hW => F_etchhouseref9_checkMark_ok N p0 Ap0_0 cp0_0 (hp0_0.ext hW.extAll) Ap0_1 cp0_1 (hp0_1.ext hW.extAll) Ap0_2 cp0_2 (hp0_2.ext hW.extAll) x157 y158 hy158 (HF.start _)) ?_
           refine Tr.asg rfl rfl ?_
           refine Tr.nil (Tr.normThen ?_)
           refine Tr.sr ?_
           refine Tr.mv rfl rfl ?_
           refine Tr.va rfl (fun _ _ h1 h2 => run_neq (h1.ev rfl) (h1.ev rfl)) ?_
           refine Tr.nil (Tr.normThen ?_)
           refine Tr.cond rfl H (fun H => ?_) (fun H => ?_)
           ·refine Tr.sr ?_
            refine Tr.mv rfl rfl ?_
            refine Tr.asg rfl rfl ?_
            refine Tr.nil (Tr.normThen ?_)
            refine Tr.ret (Tr.retBlock (Tr.retThen (Tr.retThen (Tr.retBlock (Tr.retThen ?_)))))
            obtain rfl := Option.some.inj H
            exact Tr.out (m := [(iv y158)]) [] (res_tmp rfl res_nil) (fun W hW => ⟨rfl, hW.low leB⟩)
           ·refine Tr.skip (Tr.normBlock (Tr.normThen ?_))
            refine Tr.region ?_
            refine Tr.mv rfl rfl ?_
            refine Tr.va rfl (fun _ _ h1 h2 => run_add (h1.ev rfl) (h1.ev rfl)) ?_
            refine Tr.asg rfl rfl ?_
            refine Tr.nil ?_
            exact Tr.backThen leL3 (w64 (x157 + 1)) H (.cons rfl (.cons rfl .nil)) (.cons rfl .nil)
          ·refine Tr.exit (Tr.exitThen (Tr.exitThen (Tr.exitBlock (Tr.normThen ?_))))
           refine Tr.sr ?_
           refine Tr.asg rfl rfl ?_
           refine Tr.nil (Tr.normThen ?_)
           refine Tr.ret ?_
           obtain rfl := Option.some.inj H
           exact Tr.out (m := [(iv 0)]) [] (res_tmp rfl res_nil) (fun W hW => ⟨rfl, hW.low leB⟩)

theorem F_etchhouseref9_spaced_ok (N : Nat) {w : Bs} (hT : Tab Tryz.prog w) (p0 : (List Int)) (Ap0_0 : Option Addr) (cp0_0 : Nat) (hp0_0 : Sl w.R w.W fl_i64 Ap0_0 cp0_0 p0) (r : ByteArray) (H : F_etchhouseref9_spaced N p0 = some r) (hE : HF w w.W E0) : Calls Tryz.prog 21 [(.slice Ap0_0 (p0).length cp0_0)].toArray w.W fun e W' => e = .returned (sv r) ∧ HF w W' E0 := by
 unfold F_etchhouseref9_spaced at H
 have leB := Bs.Le.refl w
 refine Tr.enter (n := 20) Tryz.func21 rfl rfl rfl hE ?_
 refine Tr.sr ?_
 refine Tr.asg rfl rfl ?_
 refine Tr.nil (Tr.normThen ?_)
 refine Tr.sr ?_
 refine Tr.asg rfl rfl ?_
 refine Tr.nil (Tr.normThen ?_)
 refine Tr.seq ?_
 refine Tr.sr ?_
 refine Tr.asg rfl rfl ?_
 refine Tr.nil (Tr.normThen ?_)
 refine Tr.block ?_
 refine Tr.loop (σ := ByteArray × Int) (fun m w s => F_etchhouseref9_spaced_L1 p0 m s.1 s.2 = some r) (fun s => [(0, (.slice Ap0_0 (p0).length cp0_0)), (3, (sv s.1)), (4, (iv s.2))]) (fun s => []) N (⟨#[]⟩, 0) H (.cons rfl (.cons rfl (.cons rfl .nil))) .nil (fun _ _ h => noSome (h)) ?_
 intro w leL1 mL1 s hs
 obtain ⟨x114, x115⟩ := s
 have H := hs
 replace H : F_etchhouseref9_spaced_L1 p0 (mL1 + 1) x114 x115 = some r := H
 replace hT := hT.ext leL1.ext
 replace hp0_0 := hp0_0.leR leL1
 replace leB := leB.trans leL1
 rw [F_etchhouseref9_spaced_L1.eq_2] at H
 show Tr _ _ (LF [(0, (.slice Ap0_0 (p0).length cp0_0)), (3, (sv x114)), (4, (iv x115))]) (LE []) _
 refine Tr.seq ?_
 refine Tr.sr ?_
 refine Tr.mv rfl rfl ?_
 refine Tr.mv rfl rfl ?_
 refine Tr.va rfl (fun _ _ h1 h2 => run_len un_64 (h1.ev rfl)) ?_
 refine Tr.va rfl (fun _ _ h1 h2 => run_lss (h1.ev rfl) (h1.ev rfl)) ?_
 refine Tr.nil (Tr.normThen ?_)
 refine Tr.cond rfl H (fun H => ?_) (fun H => ?_)
 ·refine Tr.skip (Tr.normThen ?_)
  refine Tr.seq ?_
  refine Tr.block ?_
  refine Tr.region ?_
  refine Tr.mv rfl rfl ?_
  refine Tr.mv rfl rfl ?_
  refine Tr.mv rfl rfl ?_
  obtain ⟨x116, hx116, H⟩ := bnd H
  obtain ⟨hx1160, hx1161, hx1162⟩ := idx_some hx116
  refine Tr.va rfl (fun _ _ h1 h2 => run_indexAddr el_64 (h1.ev rfl) hp0_0.form (h1.ev rfl) hx1160 hx1161) ?_
  refine Tr.va rfl (fun _ _ h1 h2 => run_load1 ag_3 (h1.ev rfl) (rdF ef_i64 hp0_0 hx1162 h2) rfl) ?_
  obtain ⟨y117, hy117, H⟩ := bnd H
  refine Tr.call0 (r := (sv y117)) (wn rfl) rfl Tryz.call15 (evl_cons rfl evl_nil) (fun W hW => F_strconv_Itoa_ok (hT.ext hW.extAll) x116 y117 hy117 (HF.start _)) ?_
  obtain ⟨t118, ht118, H⟩ := bnd H
  refine Tr.va rfl (fun _ _ h1 h2 => run_catS (h1.ev rfl) (h1.ev rfl) ht118) ?_
  obtain ⟨t119, ht119, H⟩ := bnd H
  refine Tr.va rfl (fun _ _ h1 h2 => run_catS (h1.ev rfl) (h1.ev rfl) ht119) ?_
  refine Tr.asg rfl rfl ?_
  refine Tr.nil (Tr.normBlock (Tr.normThen ?_))
  refine Tr.region ?_
  refine Tr.mv rfl rfl ?_
  refine Tr.va rfl (fun _ _ h1 h2 => run_add (h1.ev rfl) (h1.ev rfl)) ?_
  refine Tr.asg rfl rfl ?_
  refine Tr.nil ?_
  exact Tr.backThen leL1 (t119, (w64 (x115 + 1))) H (.cons rfl (.cons rfl (.cons rfl .nil))) .nil
 ·refine Tr.exit (Tr.exitThen (Tr.exitThen (Tr.exitBlock (Tr.normThen ?_))))
  refine Tr.sr ?_
  refine Tr.mv rfl rfl ?_
  refine Tr.asg rfl rfl ?_
  refine Tr.nil (Tr.normThen ?_)
  refine Tr.ret ?_
  obtain rfl := Option.some.inj H
  exact Tr.out (m := [(sv x114)]) [] (res_tmp rfl res_nil) (fun W hW => ⟨rfl, hW.low leB⟩)

theorem F_etchhouseref9_Text_ok (N : Nat) {w : Bs} (hT : Tab Tryz.prog w) (p0 : TPanel) (Ap0_0 : Option Addr) (cp0_0 : Nat) (hp0_0 : Sl w.R w.W fl_TBoardKind Ap0_0 cp0_0 p0.Kinds) (Ap0_1 : Option Addr) (cp0_1 : Nat) (hp0_1 : Sl w.R w.W fl_TSlot Ap0_1 cp0_1 p0.Slots) (Ap0_2 : Option Addr) (cp0_2 : Nat) (hp0_2 : Sl w.R w.W fl_TPoint Ap0_2 cp0_2 p0.Marks) (r : (ByteArray × Int)) (H : F_etchhouseref9_Text N p0 = some r) (hE : HF w w.W E0) : Calls Tryz.prog 9 [(.agg #[(iv p0.W), (iv p0.H), (iv p0.Rail), (iv p0.Gap), (.slice Ap0_0 (p0.Kinds).length cp0_0), (.slice Ap0_1 (p0.Slots).length cp0_1), (.slice Ap0_2 (p0.Marks).length cp0_2)])].toArray w.W fun e W' => e = .returned (.tuple #[(sv r.1), (iv r.2)]) ∧ HF w W' E0 := by
 unfold F_etchhouseref9_Text at H
 have leB := Bs.Le.refl w
 refine Tr.enter (n := 114) Tryz.func9 rfl rfl rfl hE ?_
 refine Tr.sr ?_
 refine Tr.box 1 (cs := [(iv p0.W), (iv p0.H), (iv p0.Rail), (iv p0.Gap), (.slice Ap0_0 (p0.Kinds).length cp0_0), (.slice Ap0_1 (p0.Slots).length cp0_1), (.slice Ap0_2 (p0.Marks).length cp0_2)]) (wn rfl) rfl rfl rfl fun b100 => ?_
 refine Tr.asg rfl rfl ?_
 refine Tr.asg rfl rfl ?_
 refine Tr.nil (Tr.normThen ?_)
 refine Tr.seq ?_
 refine Tr.sr ?_
 refine Tr.va rfl (fun _ _ h1 h2 => run_loadN (cs := [(iv p0.W), (iv p0.H), (iv p0.Rail), (iv p0.Gap), (.slice Ap0_0 (p0.Kinds).length cp0_0), (.slice Ap0_1 (p0.Slots).length cp0_1), (.slice Ap0_2 (p0.Marks).length cp0_2)]) ag_26 sz_26 (h1.ev rfl) (CellsAt.take (rdb h2 (vs := [(iv p0.W), (iv p0.H), (iv p0.Rail), (iv p0.Gap), (.slice Ap0_0 (p0.Kinds).length cp0_0), (.slice Ap0_1 (p0.Slots).length cp0_1), (.slice Ap0_2 (p0.Marks).length cp0_2)]) (k := 1) rfl 0) 7) rfl) ?_
 obtain ⟨y101, hy101, H⟩ := bnd H
 refine Tr.call0 (r := (iv y101)) (wn rfl) rfl Tryz.call20 (evl_cons rfl evl_nil) (fun W hW => F_etchhouseref9_CheckPanel_ok N p0 Ap0_0 cp0_0 (hp0_0.ext hW.extAll) Ap0_1 cp0_1 (hp0_1.ext hW.extAll) Ap0_2 cp0_2 (hp0_2.ext hW.extAll) y101 hy101 (HF.start _)) ?_
 refine Tr.asg rfl rfl ?_
 refine Tr.nil (Tr.normThen ?_)
 refine Tr.sr ?_
 refine Tr.mv rfl rfl ?_
 refine Tr.va rfl (fun _ _ h1 h2 => run_neq (h1.ev rfl) (h1.ev rfl)) ?_
 refine Tr.nil (Tr.normThen ?_)
 refine Tr.cond rfl H (fun H => ?_) (fun H => ?_)
 ·refine Tr.sr ?_
  refine Tr.mv rfl rfl ?_
  refine Tr.asg rfl rfl ?_
  refine Tr.asg rfl rfl ?_
  refine Tr.nil (Tr.normThen ?_)
  refine Tr.ret (Tr.retThen ?_)
  obtain rfl := Option.some.inj H
  exact Tr.out (m := [(sv ⟨#[]⟩), (iv y101)]) [] (res_tmp rfl (res_tmp rfl res_nil)) (fun W hW => ⟨rfl, hW.low leB⟩)
 ·refine Tr.skip (Tr.normThen ?_)
  refine Tr.sr ?_
  refine Tr.va rfl (fun _ _ h1 h2 => run_fieldAddr fo_26_0 (h1.ev rfl)) ?_
  refine Tr.va rfl (fun _ _ h1 h2 => run_load1 ag_3 (h1.ev rfl) (rdb h2 (vs := [(iv p0.W), (iv p0.H), (iv p0.Rail), (iv p0.Gap), (.slice Ap0_0 (p0.Kinds).length cp0_0), (.slice Ap0_1 (p0.Slots).length cp0_1), (.slice Ap0_2 (p0.Marks).length cp0_2)]) (k := 1) rfl 0) rfl) ?_
  refine Tr.va rfl (fun _ _ h1 h2 => run_fieldAddr fo_26_1 (h1.ev rfl)) ?_
  refine Tr.va rfl (fun _ _ h1 h2 => run_load1 ag_3 (h1.ev rfl) (rdb h2 (vs := [(iv p0.W), (iv p0.H), (iv p0.Rail), (iv p0.Gap), (.slice Ap0_0 (p0.Kinds).length cp0_0), (.slice Ap0_1 (p0.Slots).length cp0_1), (.slice Ap0_2 (p0.Marks).length cp0_2)]) (k := 1) rfl 1) rfl) ?_
  refine Tr.va rfl (fun _ _ h1 h2 => run_fieldAddr fo_26_2 (h1.ev rfl)) ?_
  refine Tr.va rfl (fun _ _ h1 h2 => run_load1 ag_3 (h1.ev rfl) (rdb h2 (vs := [(iv p0.W), (iv p0.H), (iv p0.Rail), (iv p0.Gap), (.slice Ap0_0 (p0.Kinds).length cp0_0), (.slice Ap0_1 (p0.Slots).length cp0_1), (.slice Ap0_2 (p0.Marks).length cp0_2)]) (k := 1) rfl 2) rfl) ?_
  refine Tr.va rfl (fun _ _ h1 h2 => run_fieldAddr fo_26_3 (h1.ev rfl)) ?_
  refine Tr.va rfl (fun _ _ h1 h2 => run_load1 ag_3 (h1.ev rfl) (rdb h2 (vs := [(iv p0.W), (iv p0.H), (iv p0.Rail), (iv p0.Gap), (.slice Ap0_0 (p0.Kinds).length cp0_0), (.slice Ap0_1 (p0.Slots).length cp0_1), (.slice Ap0_2 (p0.Marks).length cp0_2)]) (k := 1) rfl 3) rfl) ?_
  refine Tr.buildSlice 2 (e := 3) (vs := [(0, (iv p0.W)), (1, (iv p0.H)), (2, (iv p0.Rail)), (3, (iv p0.Gap))]) (cs := [(iv p0.W), (iv p0.H), (iv p0.Rail), (iv p0.Gap)]) (wn rfl) rfl (evs_cons rfl (evs_cons rfl (evs_cons rfl (evs_cons rfl evs_nil)))) (by kernel_rfl) fun b102 => ?_
  refine Tr.own 2 fl_i64 [p0.W, p0.H, p0.Rail, p0.Gap] (css := [[(iv p0.W)], [(iv p0.H)], [(iv p0.Rail)], [(iv p0.Gap)]]) rfl (.cons ⟨(), trivial, rfl⟩ (.cons ⟨(), trivial, rfl⟩ (.cons ⟨(), trivial, rfl⟩ (.cons ⟨(), trivial, rfl⟩ .nil)))) rfl (by decide) (lit_max rfl) ?_
  obtain ⟨y103, hy103, H⟩ := bnd H
  refine Tr.call0 (r := (sv y103)) (wn rfl) rfl Tryz.call21 (evl_cons rfl evl_nil) (fun W hW => F_etchhouseref9_spaced_ok N (hT.ext hW.extAll) [p0.W, p0.H, p0.Rail, p0.Gap] (some ⟨b102, 0, none⟩) 4 (hW.slCall (k := 2) rfl) y103 hy103 (HF.start _)) ?_
  obtain ⟨t104, ht104, H⟩ := bnd H
  refine Tr.va rfl (fun _ _ h1 h2 => run_catS (h1.ev rfl) (h1.ev rfl) ht104) ?_
  obtain ⟨t105, ht105, H⟩ := bnd H
  refine Tr.va rfl (fun _ _ h1 h2 => run_catS (h1.ev rfl) (h1.ev rfl) ht105) ?_
  refine Tr.asg rfl rfl ?_
  refine Tr.nil (Tr.normThen ?_)
  refine Tr.seq ?_
  refine Tr.sr ?_
  refine Tr.asg rfl rfl ?_
  refine Tr.nil (Tr.normThen ?_)
  refine Tr.block ?_
  refine Tr.loop (σ := ByteArray × Int) (fun m w s => F_etchhouseref9_Text_L1 N p0 m s.1 s.2 = some r) (fun s => [(1, (.pointer (some ⟨b100, 0, none⟩))), (5, (sv s.1)), (6, (iv s.2))]) (fun s => [(1, bx b100 #[(iv p0.W), (iv p0.H), (iv p0.Rail), (iv p0.Gap), (.slice Ap0_0 (p0.Kinds).length cp0_0), (.slice Ap0_1 (p0.Slots).length cp0_1), (.slice Ap0_2 (p0.Marks).length cp0_2)] 26)]) N (t105, 0) H (.cons rfl (.cons rfl (.cons rfl .nil))) (.cons rfl .nil) (fun _ _ h => noSome (h)) ?_
  intro w leL1 mL1 s hs
  obtain ⟨x132, x133⟩ := s
  have H := hs
  replace H : F_etchhouseref9_Text_L1 N p0 (mL1 + 1) x132 x133 = some r := H
  replace hT := hT.ext leL1.ext
  replace hp0_0 := hp0_0.leR leL1
  replace hp0_1 := hp0_1.leR leL1
  replace hp0_2 := hp0_2.leR leL1
  replace leB := leB.trans leL1
  rw [F_etchhouseref9_Text_L1.eq_2] at H
  show Tr _ _ (LF [(1, (.pointer (some ⟨b100, 0, none⟩))), (5, (sv x132)), (6, (iv x133))]) (LE [(1, bx b100 #[(iv p0.W), (iv p0.H), (iv p0.Rail), (iv p0.Gap), (.slice Ap0_0 (p0.Kinds).length cp0_0), (.slice Ap0_1 (p0.Slots).length cp0_1), (.slice Ap0_2 (p0.Marks).length cp0_2)] 26)]) _
  refine Tr.seq ?_
  refine Tr.sr ?_
  refine Tr.mv rfl rfl ?_
  refine Tr.va rfl (fun _ _ h1 h2 => run_fieldAddr fo_26_4 (h1.ev rfl)) ?_
  refine Tr.va rfl (fun _ _ h1 h2 => run_load1 ag_22 (h1.ev rfl) (rdb h2 (vs := [(iv p0.W), (iv p0.H), (iv p0.Rail), (iv p0.Gap), (.slice Ap0_0 (p0.Kinds).length cp0_0), (.slice Ap0_1 (p0.Slots).length cp0_1), (.slice Ap0_2 (p0.Marks).length cp0_2)]) (k := 1) rfl 4) rfl) ?_
  refine Tr.va rfl (fun _ _ h1 h2 => run_len un_22 (h1.ev rfl)) ?_
  refine Tr.va rfl (fun _ _ h1 h2 => run_lss (h1.ev rfl) (h1.ev rfl)) ?_
  refine Tr.nil (Tr.normThen ?_)
  refine Tr.cond rfl H (fun H => ?_) (fun H => ?_)
  ·refine Tr.skip (Tr.normThen ?_)
   refine Tr.seq ?_
   refine Tr.block ?_
   refine Tr.drawC 24 [] [] (by kernel_rfl) (by kernel_rfl) fun sz134 hlosz134 hEsz134 => ?_
   refine Dr.quiet 0 [(34, (sv x132))] (by kernel_rfl) rfl rfl (by kernel_rfl) ?_ rfl rfl ?_
   ·refine Tq.mv rfl rfl ?_
    exact Tq.fin (.cons rfl .nil)
   refine Dr.quiet 1 [(35, (.pointer (some ⟨b100, 4, none⟩)))] (by kernel_rfl) rfl rfl (by kernel_rfl) ?_ rfl rfl ?_
   ·refine Tq.va rfl (fun _ _ h1 h2 => run_fieldAddr fo_26_4 (h1.ev rfl)) ?_
    exact Tq.fin (.cons rfl .nil)
   refine Dr.quiet 2 [(36, (.slice Ap0_0 (p0.Kinds).length cp0_0))] (by kernel_rfl) rfl rfl (by kernel_rfl) ?_ rfl rfl ?_
   ·refine Tq.va rfl (fun _ _ h1 h2 => run_load1 ag_22 (h1.ev rfl) (rdb h2 (vs := [(iv p0.W), (iv p0.H), (iv p0.Rail), (iv p0.Gap), (.slice Ap0_0 (p0.Kinds).length cp0_0), (.slice Ap0_1 (p0.Slots).length cp0_1), (.slice Ap0_2 (p0.Marks).length cp0_2)]) (k := 1) rfl 4) rfl) ?_
    exact Tq.fin (.cons rfl .nil)
   refine Dr.quiet 3 [(37, (iv x133))] (by kernel_rfl) rfl rfl (by kernel_rfl) ?_ rfl rfl ?_
   ·refine Tq.mv rfl rfl ?_
    exact Tq.fin (.cons rfl .nil)
   obtain ⟨x135, hx135, H⟩ := bnd H
   obtain ⟨hx1350, hx1351, hx1352⟩ := idx_some hx135
   refine Dr.quiet 4 [(38, (.pointer (some ⟨adB Ap0_0, adO Ap0_0 + (x133).toNat * 3, none⟩)))] (by kernel_rfl) rfl rfl (by kernel_rfl) ?_ rfl rfl ?_
   ·refine Tq.va rfl (fun _ _ h1 h2 => run_indexAddr el_22 (h1.ev rfl) hp0_0.form (h1.ev rfl) hx1350 hx1351) ?_
    exact Tq.fin (.cons rfl .nil)
   refine Dr.quiet 5 [(39, (.pointer (some ⟨adB Ap0_0, adO Ap0_0 + (x133).toNat * 3 + 0, none⟩)))] (by kernel_rfl) rfl rfl (by kernel_rfl) ?_ rfl rfl ?_
   ·refine Tq.va rfl (fun _ _ h1 h2 => run_fieldAddr fo_49_0 (h1.ev rfl)) ?_
    exact Tq.fin (.cons rfl .nil)
   refine Dr.quiet 6 [(40, (sv x135.Name))] (by kernel_rfl) rfl rfl (by kernel_rfl) ?_ rfl rfl ?_
   ·refine Tq.va rfl (fun _ _ h1 h2 => run_load1 ag_9 (h1.ev rfl) (CellsAt.drop (rdF ef_TBoardKind hp0_0 hx1352 h2) 0) rfl) ?_
    exact Tq.fin (.cons rfl .nil)
   obtain ⟨t136, ht136, H⟩ := bnd H
   refine Dr.quiet 7 [(41, (sv t136))] (by kernel_rfl) rfl rfl (by kernel_rfl) ?_ rfl rfl ?_
   ·refine Tq.va rfl (fun _ _ h1 h2 => run_catS (h1.ev rfl) (h1.ev rfl) ht136) ?_
    exact Tq.fin (.cons rfl .nil)
   refine Dr.quiet 8 [(42, (.pointer (some ⟨b100, 4, none⟩)))] (by kernel_rfl) rfl rfl (by kernel_rfl) ?_ rfl rfl ?_
   ·refine Tq.va rfl (fun _ _ h1 h2 => run_fieldAddr fo_26_4 (h1.ev rfl)) ?_
    exact Tq.fin (.cons rfl .nil)
   refine Dr.quiet 9 [(43, (.slice Ap0_0 (p0.Kinds).length cp0_0))] (by kernel_rfl) rfl rfl (by kernel_rfl) ?_ rfl rfl ?_
   ·refine Tq.va rfl (fun _ _ h1 h2 => run_load1 ag_22 (h1.ev rfl) (rdb h2 (vs := [(iv p0.W), (iv p0.H), (iv p0.Rail), (iv p0.Gap), (.slice Ap0_0 (p0.Kinds).length cp0_0), (.slice Ap0_1 (p0.Slots).length cp0_1), (.slice Ap0_2 (p0.Marks).length cp0_2)]) (k := 1) rfl 4) rfl) ?_
    exact Tq.fin (.cons rfl .nil)
   refine Dr.quiet 10 [(44, (iv x133))] (by kernel_rfl) rfl rfl (by kernel_rfl) ?_ rfl rfl ?_
   ·refine Tq.mv rfl rfl ?_
    exact Tq.fin (.cons rfl .nil)
   obtain ⟨x137, hx137, H⟩ := bnd H
   obtain ⟨hx1370, hx1371, hx1372⟩ := idx_some hx137
   refine Dr.quiet 11 [(45, (.pointer (some ⟨adB Ap0_0, adO Ap0_0 + (x133).toNat * 3, none⟩)))] (by kernel_rfl) rfl rfl (by kernel_rfl) ?_ rfl rfl ?_
   ·refine Tq.va rfl (fun _ _ h1 h2 => run_indexAddr el_22 (h1.ev rfl) hp0_0.form (h1.ev rfl) hx1370 hx1371) ?_
    exact Tq.fin (.cons rfl .nil)
   refine Dr.quiet 12 [(46, (.pointer (some ⟨adB Ap0_0, adO Ap0_0 + (x133).toNat * 3 + 1, none⟩)))] (by kernel_rfl) rfl rfl (by kernel_rfl) ?_ rfl rfl ?_
   ·refine Tq.va rfl (fun _ _ h1 h2 => run_fieldAddr fo_49_1 (h1.ev rfl)) ?_
    exact Tq.fin (.cons rfl .nil)
   refine Dr.quiet 13 [(47, (iv x137.W))] (by kernel_rfl) rfl rfl (by kernel_rfl) ?_ rfl rfl ?_
   ·refine Tq.va rfl (fun _ _ h1 h2 => run_load1 ag_3 (h1.ev rfl) (CellsAt.drop (rdF ef_TBoardKind hp0_0 hx1372 h2) 1) rfl) ?_
    exact Tq.fin (.cons rfl .nil)
   refine Dr.quiet 14 [(48, (.pointer (some ⟨b100, 4, none⟩)))] (by kernel_rfl) rfl rfl (by kernel_rfl) ?_ rfl rfl ?_
   ·refine Tq.va rfl (fun _ _ h1 h2 => run_fieldAddr fo_26_4 (h1.ev rfl)) ?_
    exact Tq.fin (.cons rfl .nil)
   refine Dr.quiet 15 [(49, (.slice Ap0_0 (p0.Kinds).length cp0_0))] (by kernel_rfl) rfl rfl (by kernel_rfl) ?_ rfl rfl ?_
   ·refine Tq.va rfl (fun _ _ h1 h2 => run_load1 ag_22 (h1.ev rfl) (rdb h2 (vs := [(iv p0.W), (iv p0.H), (iv p0.Rail), (iv p0.Gap), (.slice Ap0_0 (p0.Kinds).length cp0_0), (.slice Ap0_1 (p0.Slots).length cp0_1), (.slice Ap0_2 (p0.Marks).length cp0_2)]) (k := 1) rfl 4) rfl) ?_
    exact Tq.fin (.cons rfl .nil)
   refine Dr.quiet 16 [(50, (iv x133))] (by kernel_rfl) rfl rfl (by kernel_rfl) ?_ rfl rfl ?_
   ·refine Tq.mv rfl rfl ?_
    exact Tq.fin (.cons rfl .nil)
   obtain ⟨x138, hx138, H⟩ := bnd H
   obtain ⟨hx1380, hx1381, hx1382⟩ := idx_some hx138
   refine Dr.quiet 17 [(51, (.pointer (some ⟨adB Ap0_0, adO Ap0_0 + (x133).toNat * 3, none⟩)))] (by kernel_rfl) rfl rfl (by kernel_rfl) ?_ rfl rfl ?_
   ·refine Tq.va rfl (fun _ _ h1 h2 => run_indexAddr el_22 (h1.ev rfl) hp0_0.form (h1.ev rfl) hx1380 hx1381) ?_
    exact Tq.fin (.cons rfl .nil)
   refine Dr.quiet 18 [(52, (.pointer (some ⟨adB Ap0_0, adO Ap0_0 + (x133).toNat * 3 + 2, none⟩)))] (by kernel_rfl) rfl rfl (by kernel_rfl) ?_ rfl rfl ?_
   ·refine Tq.va rfl (fun _ _ h1 h2 => run_fieldAddr fo_49_2 (h1.ev rfl)) ?_
    exact Tq.fin (.cons rfl .nil)
   refine Dr.quiet 19 [(53, (iv x138.H))] (by kernel_rfl) rfl rfl (by kernel_rfl) ?_ rfl rfl ?_
   ·refine Tq.va rfl (fun _ _ h1 h2 => run_load1 ag_3 (h1.ev rfl) (CellsAt.drop (rdF ef_TBoardKind hp0_0 hx1382 h2) 2) rfl) ?_
    exact Tq.fin (.cons rfl .nil)
   refine Dr.one 20 (by kernel_rfl) ?_
   refine St.buildSlice 20 5 (e := 3) (vs := [(0, (iv x137.W)), (1, (iv x138.H))]) (cs := [(iv x137.W), (iv x138.H)]) rfl (wn rfl) rfl (evs_cons rfl (evs_cons rfl evs_nil)) (by kernel_rfl) fun b139 hb139 => ?_
   refine Dr.own 5 fl_i64 [x137.W, x138.H] (css := [[(iv x137.W)], [(iv x138.H)]]) rfl (.cons ⟨(), trivial, rfl⟩ (.cons ⟨(), trivial, rfl⟩ .nil)) rfl (by decide) (lit_max rfl) ?_
   obtain ⟨y140, hy140, H⟩ := bnd H
   refine Dr.quiet 21 [(55, (sv y140))] (by kernel_rfl) rfl rfl (by kernel_rfl) ?_ rfl rfl ?_
   ·refine Tq.call0 (r := (sv y140)) (wn rfl) rfl Tryz.call21 (evl_cons rfl evl_nil) (fun W hW => F_etchhouseref9_spaced_ok N (hT.ext hW.extAll) [x137.W, x138.H] (some ⟨b139, 0, none⟩) 2 (hW.slCall (k := 5) rfl) y140 hy140 (HF.start _)) ?_
    exact Tq.fin (.cons rfl .nil)
   obtain ⟨t141, ht141, H⟩ := bnd H
   refine Dr.quiet 22 [(56, (sv t141))] (by kernel_rfl) rfl rfl (by kernel_rfl) ?_ rfl rfl ?_
   ·refine Tq.va rfl (fun _ _ h1 h2 => run_catS (h1.ev rfl) (h1.ev rfl) ht141) ?_
    exact Tq.fin (.cons rfl .nil)
   obtain ⟨t142, ht142, H⟩ := bnd H
   refine Dr.quiet 23 [(57, (sv t142))] (by kernel_rfl) rfl rfl (by kernel_rfl) ?_ rfl rfl ?_
   ·refine Tq.va rfl (fun _ _ h1 h2 => run_catS (h1.ev rfl) (h1.ev rfl) ht142) ?_
    exact Tq.fin (.cons rfl .nil)
   refine Dr.tail (by kernel_rfl) ?_
   obtain ⟨t143, ht143, H⟩ := bnd H
   refine Tr.va rfl (fun _ _ h1 h2 => run_catS (h1.ev rfl) (h1.ev rfl) ht143) ?_
   refine Tr.asg rfl rfl ?_
   refine Tr.nil (Tr.normBlock (Tr.normThen ?_))
   refine Tr.region ?_
   refine Tr.mv rfl rfl ?_
   refine Tr.va rfl (fun _ _ h1 h2 => run_add (h1.ev rfl) (h1.ev rfl)) ?_
   refine Tr.asg rfl rfl ?_
   refine Tr.nil ?_
   exact Tr.backThen leL1 (t143, (w64 (x133 + 1))) H (.cons rfl (.cons rfl (.cons rfl .nil))) (.cons rfl .nil)
  ·refine Tr.exit (Tr.exitThen (Tr.exitThen (Tr.exitBlock (Tr.normThen ?_))))
   refine Tr.seq ?_
   refine Tr.sr ?_
   refine Tr.asg rfl rfl ?_
   refine Tr.nil (Tr.normThen ?_)
   refine Tr.block ?_
   refine Tr.loop (σ := ByteArray × Int) (fun m w s => F_etchhouseref9_Text_L2 N p0 m s.1 s.2 = some r) (fun s => [(1, (.pointer (some ⟨b100, 0, none⟩))), (5, (sv s.1)), (7, (iv s.2))]) (fun s => [(1, bx b100 #[(iv p0.W), (iv p0.H), (iv p0.Rail), (iv p0.Gap), (.slice Ap0_0 (p0.Kinds).length cp0_0), (.slice Ap0_1 (p0.Slots).length cp0_1), (.slice Ap0_2 (p0.Marks).length cp0_2)] 26)]) N (x132, 0) H (.cons rfl (.cons rfl (.cons rfl .nil))) (.cons rfl .nil) (fun _ _ h => noSome (h)) ?_
   intro w leL2 mL2 s hs
   obtain ⟨x168, x169⟩ := s
   have H := hs
   replace H : F_etchhouseref9_Text_L2 N p0 (mL2 + 1) x168 x169 = some r := H
   replace hT := hT.ext leL2.ext
   replace hp0_0 := hp0_0.leR leL2
   replace hp0_1 := hp0_1.leR leL2
   replace hp0_2 := hp0_2.leR leL2
   replace leB := leB.trans leL2
   replace leL1 := leL1.trans leL2
   rw [F_etchhouseref9_Text_L2.eq_2] at H
   show Tr _ _ (LF [(1, (.pointer (some ⟨b100, 0, none⟩))), (5, (sv x168)), (7, (iv x169))]) (LE [(1, bx b100 #[(iv p0.W), (iv p0.H), (iv p0.Rail), (iv p0.Gap), (.slice Ap0_0 (p0.Kinds).length cp0_0), (.slice Ap0_1 (p0.Slots).length cp0_1), (.slice Ap0_2 (p0.Marks).length cp0_2)] 26)]) _
   refine Tr.seq ?_
   refine Tr.sr ?_
   refine Tr.mv rfl rfl ?_
   refine Tr.va rfl (fun _ _ h1 h2 => run_fieldAddr fo_26_5 (h1.ev rfl)) ?_
   refine Tr.va rfl (fun _ _ h1 h2 => run_load1 ag_23 (h1.ev rfl) (rdb h2 (vs := [(iv p0.W), (iv p0.H), (iv p0.Rail), (iv p0.Gap), (.slice Ap0_0 (p0.Kinds).length cp0_0), (.slice Ap0_1 (p0.Slots).length cp0_1), (.slice Ap0_2 (p0.Marks).length cp0_2)]) (k := 1) rfl 5) rfl) ?_
   refine Tr.va rfl (fun _ _ h1 h2 => run_len un_23 (h1.ev rfl)) ?_
   refine Tr.va rfl (fun _ _ h1 h2 => run_lss (h1.ev rfl) (h1.ev rfl)) ?_
   refine Tr.nil (Tr.normThen ?_)
   refine Tr.cond rfl H (fun H => ?_) (fun H => ?_)
   ·refine Tr.skip (Tr.normThen ?_)
    refine Tr.seq ?_
    refine Tr.block ?_
    refine Tr.sr ?_
    refine Tr.va rfl (fun _ _ h1 h2 => run_fieldAddr fo_26_5 (h1.ev rfl)) ?_
    refine Tr.va rfl (fun _ _ h1 h2 => run_load1 ag_23 (h1.ev rfl) (rdb h2 (vs := [(iv p0.W), (iv p0.H), (iv p0.Rail), (iv p0.Gap), (.slice Ap0_0 (p0.Kinds).length cp0_0), (.slice Ap0_1 (p0.Slots).length cp0_1), (.slice Ap0_2 (p0.Marks).length cp0_2)]) (k := 1) rfl 5) rfl) ?_
    refine Tr.mv rfl rfl ?_
    obtain ⟨x170, hx170, H⟩ := bnd H
    obtain ⟨hx1700, hx1701, hx1702⟩ := idx_some hx170
    refine Tr.va rfl (fun _ _ h1 h2 => run_indexAddr el_23 (h1.ev rfl) hp0_1.form (h1.ev rfl) hx1700 hx1701) ?_
    refine Tr.va rfl (fun _ _ h1 h2 => run_loadN (cs := [(sv x170.Board), (iv x170.Quarters), (iv x170.At.X), (iv x170.At.Y)]) ag_53 sz_53 (h1.ev rfl) (CellsAt.take (rdF ef_TSlot hp0_1 hx1702 h2) 4) rfl) ?_
    refine Tr.alloc 10 (wn rfl) rfl ze_53 fun b171 => ?_
    refine Tr.store 10 (cs := [(sv x170.Board), (iv x170.Quarters), (iv x170.At.X), (iv x170.At.Y)]) [(sv x170.Board), (iv x170.Quarters), (iv x170.At.X), (iv x170.At.Y)] (wn rfl) rfl rfl rfl rfl sz_53 rfl rfl rfl ?_
    refine Tr.nil (Tr.normThen ?_)
    refine Tr.drawC 16 [] [] (by kernel_rfl) (by kernel_rfl) fun sz172 hlosz172 hEsz172 => ?_
    refine Dr.quiet 0 [(71, (sv x168))] (by kernel_rfl) rfl rfl (by kernel_rfl) ?_ rfl rfl ?_
    ·refine Tq.mv rfl rfl ?_
     exact Tq.fin (.cons rfl .nil)
    refine Dr.quiet 1 [(72, (.pointer (some ⟨b171, 0, none⟩)))] (by kernel_rfl) rfl rfl (by kernel_rfl) ?_ rfl rfl ?_
    ·refine Tq.va rfl (fun _ _ h1 h2 => run_fieldAddr fo_53_0 (h1.ev rfl)) ?_
     exact Tq.fin (.cons rfl .nil)
    refine Dr.quiet 2 [(73, (sv x170.Board))] (by kernel_rfl) rfl rfl (by kernel_rfl) ?_ rfl rfl ?_
    ·refine Tq.va rfl (fun _ _ h1 h2 => run_load1 ag_9 (h1.ev rfl) (rdb h2 (vs := [(sv x170.Board), (iv x170.Quarters), (iv x170.At.X), (iv x170.At.Y)]) (k := 10) rfl 0) rfl) ?_
     exact Tq.fin (.cons rfl .nil)
    obtain ⟨t173, ht173, H⟩ := bnd H
    refine Dr.quiet 3 [(74, (sv t173))] (by kernel_rfl) rfl rfl (by kernel_rfl) ?_ rfl rfl ?_
    ·refine Tq.va rfl (fun _ _ h1 h2 => run_catS (h1.ev rfl) (h1.ev rfl) ht173) ?_
     exact Tq.fin (.cons rfl .nil)
    refine Dr.quiet 4 [(75, (.pointer (some ⟨b171, 1, none⟩)))] (by kernel_rfl) rfl rfl (by kernel_rfl) ?_ rfl rfl ?_
    ·refine Tq.va rfl (fun _ _ h1 h2 => run_fieldAddr fo_53_1 (h1.ev rfl)) ?_
     exact Tq.fin (.cons rfl .nil)
    refine Dr.quiet 5 [(76, (iv x170.Quarters))] (by kernel_rfl) rfl rfl (by kernel_rfl) ?_ rfl rfl ?_
    ·refine Tq.va rfl (fun _ _ h1 h2 => run_load1 ag_3 (h1.ev rfl) (rdb h2 (vs := [(sv x170.Board), (iv x170.Quarters), (iv x170.At.X), (iv x170.At.Y)]) (k := 10) rfl 1) rfl) ?_
     exact Tq.fin (.cons rfl .nil)
    refine Dr.quiet 6 [(77, (.pointer (some ⟨b171, 2, none⟩)))] (by kernel_rfl) rfl rfl (by kernel_rfl) ?_ rfl rfl ?_
    ·refine Tq.va rfl (fun _ _ h1 h2 => run_fieldAddr fo_53_2 (h1.ev rfl)) ?_
     exact Tq.fin (.cons rfl .nil)
    refine Dr.quiet 7 [(78, (.pointer (some ⟨b171, 2, none⟩)))] (by kernel_rfl) rfl rfl (by kernel_rfl) ?_ rfl rfl ?_
    ·refine Tq.va rfl (fun _ _ h1 h2 => run_fieldAddr fo_51_0 (h1.ev rfl)) ?_
     exact Tq.fin (.cons rfl .nil)
    refine Dr.quiet 8 [(79, (iv x170.At.X))] (by kernel_rfl) rfl rfl (by kernel_rfl) ?_ rfl rfl ?_
    ·refine Tq.va rfl (fun _ _ h1 h2 => run_load1 ag_3 (h1.ev rfl) (rdb h2 (vs := [(sv x170.Board), (iv x170.Quarters), (iv x170.At.X), (iv x170.At.Y)]) (k := 10) rfl 2) rfl) ?_
     exact Tq.fin (.cons rfl .nil)
    refine Dr.quiet 9 [(80, (.pointer (some ⟨b171, 2, none⟩)))] (by kernel_rfl) rfl rfl (by kernel_rfl) ?_ rfl rfl ?_
    ·refine Tq.va rfl (fun _ _ h1 h2 => run_fieldAddr fo_53_2 (h1.ev rfl)) ?_
     exact Tq.fin (.cons rfl .nil)
    refine Dr.quiet 10 [(81, (.pointer (some ⟨b171, 3, none⟩)))] (by kernel_rfl) rfl rfl (by kernel_rfl) ?_ rfl rfl ?_
    ·refine Tq.va rfl (fun _ _ h1 h2 => run_fieldAddr fo_51_1 (h1.ev rfl)) ?_
     exact Tq.fin (.cons rfl .nil)
    refine Dr.quiet 11 [(82, (iv x170.At.Y))] (by kernel_rfl) rfl rfl (by kernel_rfl) ?_ rfl rfl ?_
    ·refine Tq.va rfl (fun _ _ h1 h2 => run_load1 ag_3 (h1.ev rfl) (rdb h2 (vs := [(sv x170.Board), (iv x170.Quarters), (iv x170.At.X), (iv x170.At.Y)]) (k := 10) rfl 3) rfl) ?_
     exact Tq.fin (.cons rfl .nil)
    refine Dr.one 12 (by kernel_rfl) ?_
    refine St.buildSlice 12 11 (e := 3) (vs := [(0, (iv x170.Quarters)), (1, (iv x170.At.X)), (2, (iv x170.At.Y))]) (cs := [(iv x170.Quarters), (iv x170.At.X), (iv x170.At.Y)]) rfl (wn rfl) rfl (evs_cons rfl (evs_cons rfl (evs_cons rfl evs_nil))) (by kernel_rfl) fun b174 hb174 => ?_
    refine Dr.own 11 fl_i64 [x170.Quarters, x170.At.X, x170.At.Y] (css := [[(iv x170.Quarters)], [(iv x170.At.X)], [(iv x170.At.Y)]]) rfl (.cons ⟨(), trivial, rfl⟩ (.cons ⟨(), trivial, rfl⟩ (.cons ⟨(), trivial, rfl⟩ .nil))) rfl (by decide) (lit_max rfl) ?_
    obtain ⟨y175, hy175, H⟩ := bnd H
    refine Dr.quiet 13 [(84, (sv y175))] (by kernel_rfl) rfl rfl (by kernel_rfl) ?_ rfl rfl ?_
    ·refine Tq.call0 (r := (sv y175)) (wn rfl) rfl Tryz.call21 (evl_cons rfl evl_nil) (fun W hW => F_etchhouseref9_spaced_ok N (hT.ext hW.extAll) [x170.Quarters, x170.At.X, x170.At.Y] (some ⟨b174, 0, none⟩) 3 (hW.slCall (k := 11) rfl) y175 hy175 (HF.start _)) ?_
     exact Tq.fin (.cons rfl .nil)
    obtain ⟨t176, ht176, H⟩ := bnd H
    refine Dr.quiet 14 [(85, (sv t176))] (by kernel_rfl) rfl rfl (by kernel_rfl) ?_ rfl rfl ?_
    ·refine Tq.va rfl (fun _ _ h1 h2 => run_catS (h1.ev rfl) (h1.ev rfl) ht176) ?_
     exact Tq.fin (.cons rfl .nil)
    obtain ⟨t177, ht177, H⟩ := bnd H
    refine Dr.quiet 15 [(86, (sv t177))] (by kernel_rfl) rfl rfl (by kernel_rfl) ?_ rfl rfl ?_
    ·refine Tq.va rfl (fun _ _ h1 h2 => run_catS (h1.ev rfl) (h1.ev rfl) ht177) ?_
     exact Tq.fin (.cons rfl .nil)
    refine Dr.tail (by kernel_rfl) ?_
    obtain ⟨t178, ht178, H⟩ := bnd H
    refine Tr.va rfl (fun _ _ h1 h2 => run_catS (h1.ev rfl) (h1.ev rfl) ht178) ?_
    refine Tr.asg rfl rfl ?_
    refine Tr.nil (Tr.normBlock (Tr.normThen ?_))
    refine Tr.region ?_
    refine Tr.mv rfl rfl ?_
    refine Tr.va rfl (fun _ _ h1 h2 => run_add (h1.ev rfl) (h1.ev rfl)) ?_
    refine Tr.asg rfl rfl ?_
    refine Tr.nil ?_
    exact Tr.backThen leL2 (t178, (w64 (x169 + 1))) H (.cons rfl (.cons rfl (.cons rfl .nil))) (.cons rfl .nil)
   ·refine Tr.exit (Tr.exitThen (Tr.exitThen (Tr.exitBlock (Tr.normThen ?_))))
    refine Tr.seq ?_
    refine Tr.sr ?_
    refine Tr.asg rfl rfl ?_
    refine Tr.nil (Tr.normThen ?_)
    refine Tr.block ?_
    refine Tr.loop (σ := ByteArray × Int) (fun m w s => F_etchhouseref9_Text_L3 N p0 m s.1 s.2 = some r) (fun s => [(1, (.pointer (some ⟨b100, 0, none⟩))), (5, (sv s.1)), (9, (iv s.2))]) (fun s => [(1, bx b100 #[(iv p0.W), (iv p0.H), (iv p0.Rail), (iv p0.Gap), (.slice Ap0_0 (p0.Kinds).length cp0_0), (.slice Ap0_1 (p0.Slots).length cp0_1), (.slice Ap0_2 (p0.Marks).length cp0_2)] 26)]) N (x168, 0) H (.cons rfl (.cons rfl (.cons rfl .nil))) (.cons rfl .nil) (fun _ _ h => noSome (h)) ?_
    intro w leL3 mL3 s hs
    obtain ⟨x201, x202⟩ := s
    have H := hs
    replace H : F_etchhouseref9_Text_L3 N p0 (mL3 + 1) x201 x202 = some r := H
    replace hT := hT.ext leL3.ext
    replace hp0_0 := hp0_0.leR leL3
    replace hp0_1 := hp0_1.leR leL3
    replace hp0_2 := hp0_2.leR leL3
    replace leB := leB.trans leL3
    replace leL1 := leL1.trans leL3
    replace leL2 := leL2.trans leL3
    rw [F_etchhouseref9_Text_L3.eq_2] at H
    show Tr _ _ (LF [(1, (.pointer (some ⟨b100, 0, none⟩))), (5, (sv x201)), (9, (iv x202))]) (LE [(1, bx b100 #[(iv p0.W), (iv p0.H), (iv p0.Rail), (iv p0.Gap), (.slice Ap0_0 (p0.Kinds).length cp0_0), (.slice Ap0_1 (p0.Slots).length cp0_1), (.slice Ap0_2 (p0.Marks).length cp0_2)] 26)]) _
    refine Tr.seq ?_
    refine Tr.sr ?_
    refine Tr.mv rfl rfl ?_
    refine Tr.va rfl (fun _ _ h1 h2 => run_fieldAddr fo_26_6 (h1.ev rfl)) ?_
    refine Tr.va rfl (fun _ _ h1 h2 => run_load1 ag_24 (h1.ev rfl) (rdb h2 (vs := [(iv p0.W), (iv p0.H), (iv p0.Rail), (iv p0.Gap), (.slice Ap0_0 (p0.Kinds).length cp0_0), (.slice Ap0_1 (p0.Slots).length cp0_1), (.slice Ap0_2 (p0.Marks).length cp0_2)]) (k := 1) rfl 6) rfl) ?_
    refine Tr.va rfl (fun _ _ h1 h2 => run_len un_24 (h1.ev rfl)) ?_
    refine Tr.va rfl (fun _ _ h1 h2 => run_lss (h1.ev rfl) (h1.ev rfl)) ?_
    refine Tr.nil (Tr.normThen ?_)
    refine Tr.cond rfl H (fun H => ?_) (fun H => ?_)
    ·refine Tr.skip (Tr.normThen ?_)
     refine Tr.seq ?_
     refine Tr.block ?_
     refine Tr.drawC 17 [] [] (by kernel_rfl) (by kernel_rfl) fun sz203 hlosz203 hEsz203 => ?_
     refine Dr.quiet 0 [(95, (sv x201))] (by kernel_rfl) rfl rfl (by kernel_rfl) ?_ rfl rfl ?_
     ·refine Tq.mv rfl rfl ?_
      exact Tq.fin (.cons rfl .nil)
     refine Dr.quiet 1 [(96, (.pointer (some ⟨b100, 6, none⟩)))] (by kernel_rfl) rfl rfl (by kernel_rfl) ?_ rfl rfl ?_
     ·refine Tq.va rfl (fun _ _ h1 h2 => run_fieldAddr fo_26_6 (h1.ev rfl)) ?_
      exact Tq.fin (.cons rfl .nil)
     refine Dr.quiet 2 [(97, (.slice Ap0_2 (p0.Marks).length cp0_2))] (by kernel_rfl) rfl rfl (by kernel_rfl) ?_ rfl rfl ?_
     ·refine Tq.va rfl (fun _ _ h1 h2 => run_load1 ag_24 (h1.ev rfl) (rdb h2 (vs := [(iv p0.W), (iv p0.H), (iv p0.Rail), (iv p0.Gap), (.slice Ap0_0 (p0.Kinds).length cp0_0), (.slice Ap0_1 (p0.Slots).length cp0_1), (.slice Ap0_2 (p0.Marks).length cp0_2)]) (k := 1) rfl 6) rfl) ?_
      exact Tq.fin (.cons rfl .nil)
     refine Dr.quiet 3 [(98, (iv x202))] (by kernel_rfl) rfl rfl (by kernel_rfl) ?_ rfl rfl ?_
     ·refine Tq.mv rfl rfl ?_
      exact Tq.fin (.cons rfl .nil)
     obtain ⟨x204, hx204, H⟩ := bnd H
     obtain ⟨hx2040, hx2041, hx2042⟩ := idx_some hx204
     refine Dr.quiet 4 [(99, (.pointer (some ⟨adB Ap0_2, adO Ap0_2 + (x202).toNat * 2, none⟩)))] (by kernel_rfl) rfl rfl (by kernel_rfl) ?_ rfl rfl ?_
     ·refine Tq.va rfl (fun _ _ h1 h2 => run_indexAddr el_24 (h1.ev rfl) hp0_2.form (h1.ev rfl) hx2040 hx2041) ?_
      exact Tq.fin (.cons rfl .nil)
     refine Dr.quiet 5 [(100, (.pointer (some ⟨adB Ap0_2, adO Ap0_2 + (x202).toNat * 2 + 0, none⟩)))] (by kernel_rfl) rfl rfl (by kernel_rfl) ?_ rfl rfl ?_
     ·refine Tq.va rfl (fun _ _ h1 h2 => run_fieldAddr fo_51_0 (h1.ev rfl)) ?_
      exact Tq.fin (.cons rfl .nil)
     refine Dr.quiet 6 [(101, (iv x204.X))] (by kernel_rfl) rfl rfl (by kernel_rfl) ?_ rfl rfl ?_
     ·refine Tq.va rfl (fun _ _ h1 h2 => run_load1 ag_3 (h1.ev rfl) (CellsAt.drop (rdF ef_TPoint hp0_2 hx2042 h2) 0) rfl) ?_
      exact Tq.fin (.cons rfl .nil)
     refine Dr.quiet 7 [(102, (.pointer (some ⟨b100, 6, none⟩)))] (by kernel_rfl) rfl rfl (by kernel_rfl) ?_ rfl rfl ?_
     ·refine Tq.va rfl (fun _ _ h1 h2 => run_fieldAddr fo_26_6 (h1.ev rfl)) ?_
      exact Tq.fin (.cons rfl .nil)
     refine Dr.quiet 8 [(103, (.slice Ap0_2 (p0.Marks).length cp0_2))] (by kernel_rfl) rfl rfl (by kernel_rfl) ?_ rfl rfl ?_
     ·refine Tq.va rfl (fun _ _ h1 h2 => run_load1 ag_24 (h1.ev rfl) (rdb h2 (vs := [(iv p0.W), (iv p0.H), (iv p0.Rail), (iv p0.Gap), (.slice Ap0_0 (p0.Kinds).length cp0_0), (.slice Ap0_1 (p0.Slots).length cp0_1), (.slice Ap0_2 (p0.Marks).length cp0_2)]) (k := 1) rfl 6) rfl) ?_
      exact Tq.fin (.cons rfl .nil)
     refine Dr.quiet 9 [(104, (iv x202))] (by kernel_rfl) rfl rfl (by kernel_rfl) ?_ rfl rfl ?_
     ·refine Tq.mv rfl rfl ?_
      exact Tq.fin (.cons rfl .nil)
     obtain ⟨x205, hx205, H⟩ := bnd H
     obtain ⟨hx2050, hx2051, hx2052⟩ := idx_some hx205
     refine Dr.quiet 10 [(105, (.pointer (some ⟨adB Ap0_2, adO Ap0_2 + (x202).toNat * 2, none⟩)))] (by kernel_rfl) rfl rfl (by kernel_rfl) ?_ rfl rfl ?_
     ·refine Tq.va rfl (fun _ _ h1 h2 => run_indexAddr el_24 (h1.ev rfl) hp0_2.form (h1.ev rfl) hx2050 hx2051) ?_
      exact Tq.fin (.cons rfl .nil)
     refine Dr.quiet 11 [(106, (.pointer (some ⟨adB Ap0_2, adO Ap0_2 + (x202).toNat * 2 + 1, none⟩)))] (by kernel_rfl) rfl rfl (by kernel_rfl) ?_ rfl rfl ?_
     ·refine Tq.va rfl (fun _ _ h1 h2 => run_fieldAddr fo_51_1 (h1.ev rfl)) ?_
      exact Tq.fin (.cons rfl .nil)
     refine Dr.quiet 12 [(107, (iv x205.Y))] (by kernel_rfl) rfl rfl (by kernel_rfl) ?_ rfl rfl ?_
     ·refine Tq.va rfl (fun _ _ h1 h2 => run_load1 ag_3 (h1.ev rfl) (CellsAt.drop (rdF ef_TPoint hp0_2 hx2052 h2) 1) rfl) ?_
      exact Tq.fin (.cons rfl .nil)
     refine Dr.one 13 (by kernel_rfl) ?_
     refine St.buildSlice 13 14 (e := 3) (vs := [(0, (iv x204.X)), (1, (iv x205.Y))]) (cs := [(iv x204.X), (iv x205.Y)]) rfl (wn rfl) rfl (evs_cons rfl (evs_cons rfl evs_nil)) (by kernel_rfl) fun b206 hb206 => ?_
     refine Dr.own 14 fl_i64 [x204.X, x205.Y] (css := [[(iv x204.X)], [(iv x205.Y)]]) rfl (.cons ⟨(), trivial, rfl⟩ (.cons ⟨(), trivial, rfl⟩ .nil)) rfl (by decide) (lit_max rfl) ?_
     obtain ⟨y207, hy207, H⟩ := bnd H
     refine Dr.quiet 14 [(109, (sv y207))] (by kernel_rfl) rfl rfl (by kernel_rfl) ?_ rfl rfl ?_
     ·refine Tq.call0 (r := (sv y207)) (wn rfl) rfl Tryz.call21 (evl_cons rfl evl_nil) (fun W hW => F_etchhouseref9_spaced_ok N (hT.ext hW.extAll) [x204.X, x205.Y] (some ⟨b206, 0, none⟩) 2 (hW.slCall (k := 14) rfl) y207 hy207 (HF.start _)) ?_
      exact Tq.fin (.cons rfl .nil)
     obtain ⟨t208, ht208, H⟩ := bnd H
     refine Dr.quiet 15 [(110, (sv t208))] (by kernel_rfl) rfl rfl (by kernel_rfl) ?_ rfl rfl ?_
     ·refine Tq.va rfl (fun _ _ h1 h2 => run_catS (h1.ev rfl) (h1.ev rfl) ht208) ?_
      exact Tq.fin (.cons rfl .nil)
     obtain ⟨t209, ht209, H⟩ := bnd H
     refine Dr.quiet 16 [(111, (sv t209))] (by kernel_rfl) rfl rfl (by kernel_rfl) ?_ rfl rfl ?_
     ·refine Tq.va rfl (fun _ _ h1 h2 => run_catS (h1.ev rfl) (h1.ev rfl) ht209) ?_
      exact Tq.fin (.cons rfl .nil)
     refine Dr.tail (by kernel_rfl) ?_
     obtain ⟨t210, ht210, H⟩ := bnd H
     refine Tr.va rfl (fun _ _ h1 h2 => run_catS (h1.ev rfl) (h1.ev rfl) ht210) ?_
     refine Tr.asg rfl rfl ?_
     refine Tr.nil (Tr.normBlock (Tr.normThen ?_))
     refine Tr.region ?_
     refine Tr.mv rfl rfl ?_
     refine Tr.va rfl (fun _ _ h1 h2 => run_add (h1.ev rfl) (h1.ev rfl)) ?_
     refine Tr.asg rfl rfl ?_
     refine Tr.nil ?_
     exact Tr.backThen leL3 (t210, (w64 (x202 + 1))) H (.cons rfl (.cons rfl (.cons rfl .nil))) (.cons rfl .nil)
    ·refine Tr.exit (Tr.exitThen (Tr.exitThen (Tr.exitBlock (Tr.normThen ?_))))
     refine Tr.sr ?_
     refine Tr.mv rfl rfl ?_
     refine Tr.asg rfl rfl ?_
     refine Tr.asg rfl rfl ?_
     refine Tr.nil (Tr.normThen ?_)
     refine Tr.ret ?_
     obtain rfl := Option.some.inj H
     exact Tr.out (m := [(sv x201), (iv 0)]) [] (res_tmp rfl (res_tmp rfl res_nil)) (fun W hW => ⟨rfl, hW.low leB⟩)

theorem F_strings_Cut_ok {w : Bs} (hT : Tab Tryz.prog w) (p0 : ByteArray) (p1 : ByteArray) (r : (ByteArray × ByteArray × Bool)) (H : cutF p0 p1 = some r) (hE : HF w w.W E0) : Calls Tryz.prog 17 [(sv p0), (sv p1)].toArray w.W fun e W' => e = .returned (.tuple #[(sv r.1), (sv r.2.1), (.bool r.2.2)]) ∧ HF w W' E0 :=
 cutF_rule (ρ := Tryz.cut17_ren) { Tryz.cut17 with } hT Tryz.cut17.g1 H hE

theorem F_strings_Split_ok {w : Bs} (hT : Tab Tryz.prog w) (p0 : ByteArray) (p1 : ByteArray) (r : (List ByteArray)) (H : splitF p0 p1 = some r) (hE : HF w w.W (LEn [emp])) : Calls Tryz.prog 28 [(sv p0), (sv p1)].toArray w.W fun e W' => ∃ u : (Option Addr × Nat), e = .returned (.slice u.1 (r).length u.2) ∧ (SlF u.1 (r).length u.2) ∧ HF w W' (LEn [ow u.1 u.2 9 fl_str r]) :=
 splitF_rule (ρ := Tryz.split28_ren) Tryz.split28 hT Tryz.split28.g1 (t := fl_str) rfl ef_str () tr_str (by kernel_rfl) H hE

theorem F_slices_IndexFunc_string_ok {w : Bs} (p0 : (List ByteArray)) (Ap0_0 : Option Addr) (cp0_0 : Nat) (hp0_0 : Sl w.R w.W fl_str Ap0_0 cp0_0 p0) (p1 : ByteArray → Option Bool) (fid1 : Nat) (cap1 : List Value) (hg1 : ∀ args W, (callFunc fid1 args).run Tryz.prog W = .ok (.enter fid1 args) W) (hf1 : ∀ (w' : Bs), w.Ext w' → ∀ (z0 : ByteArray), ∀ y, p1 z0 = some y → Calls Tryz.prog fid1 (([(sv z0)] : List Value) ++ cap1).toArray w'.W fun e W'' => e = .returned (.bool y) ∧ HF w' W'' E0) (r : Int) (H : F_slices_IndexFunc_string p0 p1 = some r) (hE : HF w w.W E0) : Calls Tryz.prog 54 [(.slice Ap0_0 (p0).length cp0_0), (.func (.func fid1) #[] cap1.toArray)].toArray w.W fun e W' => e = .returned (iv r) ∧ HF w W' E0 := by
 unfold F_slices_IndexFunc_string at H
 have leB := Bs.Le.refl w
 refine Tr.enter (n := 19) Tryz.func54 rfl rfl rfl hE ?_
 refine Tr.sr ?_
 refine Tr.asg rfl rfl ?_
 refine Tr.nil (Tr.normThen ?_)
 refine Tr.seq ?_
 refine Tr.sr ?_
 refine Tr.mv rfl rfl ?_
 refine Tr.va rfl (fun _ _ h1 h2 => run_len un_40 (h1.ev rfl)) ?_
 refine Tr.mv rfl rfl ?_
 refine Tr.nil (Tr.normThen ?_)
 refine Tr.block ?_
 refine Tr.loop (σ := (List ByteArray) × Nat) (fun m w s => m = s.1.length + 1 ∧ s.1 = List.drop s.2 p0 ∧ s.2 ≤ p0.length ∧ F_slices_IndexFunc_string_L1 p1 s.1 s.2 = some r) (fun s => [(0, (.slice Ap0_0 (p0).length cp0_0)), (1, (.func (.func fid1) #[] cap1.toArray)), (7, (iv (p0.length : Int))), (8, (iv (s.2 : Int)))]) (fun s => []) (p0.length + 1) (p0, 0) ⟨rfl, rfl, Nat.zero_le _, H⟩ (.cons rfl (.cons rfl (.cons rfl (.cons rfl .nil)))) .nil (fun _ _ h => absurd h.1 (by simp)) ?_
 intro w leL1 m s hs
 obtain ⟨restL1, iL1⟩ := s
 obtain ⟨hmL1, hdL1, hiL1, H⟩ := hs
 replace hdL1 : restL1 = List.drop iL1 p0 := hdL1
 replace H : F_slices_IndexFunc_string_L1 p1 restL1 iL1 = some r := H
 replace hmL1 : m + 1 = restL1.length + 1 := hmL1
 replace hp0_0 := hp0_0.leR leL1
 replace hf1 := fun w' he => hf1 w' (leL1.ext.trans he)
 replace leB := leB.trans leL1
 obtain rfl : m = restL1.length := by omega
 clear hmL1
 show Tr _ _ (LF [(0, (.slice Ap0_0 (p0).length cp0_0)), (1, (.func (.func fid1) #[] cap1.toArray)), (7, (iv (p0.length : Int))), (8, (iv (iL1 : Int)))]) (LE []) _
 cases restL1 with
 | nil =>
  rw [F_slices_IndexFunc_string_L1.eq_1] at H
  refine Tr.sr ?_
  refine Tr.va rfl (fun _ _ h1 h2 => run_lss (h1.ev rfl) (h1.ev rfl)) ?_
  refine Tr.nil (Tr.normThen ?_)
  refine Tr.seq ?_
  refine Tr.condF rfl (range_nil hdL1) ?_
  refine Tr.exit (Tr.exitThen (Tr.exitThen (Tr.exitBlock (Tr.normThen ?_))))
  refine Tr.sr ?_
  refine Tr.asg rfl rfl ?_
  refine Tr.nil (Tr.normThen ?_)
  refine Tr.ret ?_
  obtain rfl := Option.some.inj H
  exact Tr.out (m := [(iv (-1))]) [] (res_tmp rfl res_nil) (fun W hW => ⟨rfl, hW.low leB⟩)
 | cons xL1 restL1 =>
  rw [F_slices_IndexFunc_string_L1.eq_2] at H
  refine Tr.sr ?_
  refine Tr.va rfl (fun _ _ h1 h2 => run_lss (h1.ev rfl) (h1.ev rfl)) ?_
  refine Tr.nil (Tr.normThen ?_)
  refine Tr.seq ?_
  refine Tr.condT rfl (range_on hdL1) ?_
  refine Tr.skip (Tr.normThen ?_)
  refine Tr.seq ?_
  refine Tr.block ?_
  refine Tr.sr ?_
  refine Tr.mv rfl rfl ?_
  refine Tr.asg rfl rfl ?_
  refine Tr.nil (Tr.normThen ?_)
  refine Tr.sr ?_
  refine Tr.mv rfl rfl ?_
  refine Tr.mv rfl rfl ?_
  refine Tr.mv rfl rfl ?_
  refine Tr.va rfl (fun _ _ h1 h2 => run_indexAddr el_40 (h1.ev rfl) hp0_0.form (h1.ev rfl) (Int.natCast_nonneg _) (range_lt hdL1)) ?_
  refine Tr.va rfl (fun _ _ h1 h2 => run_load1 ag_9 (h1.ev rfl) (rdF ef_str hp0_0 (range_at hdL1) h2) rfl) ?_
  obtain ⟨y103, hy103, H⟩ := bnd H
  refine Tr.callF (r := (.bool y103)) (wn rfl) rfl rfl hg1 (evl_cons rfl evl_nil) (fun W hW => hf1 hW.all hW.extAll xL1 _ hy103) ?_
  refine Tr.nil (Tr.normThen ?_)
  refine Tr.cond rfl H (fun H => ?_) (fun H => ?_)
  ·refine Tr.sr ?_
   refine Tr.mv rfl rfl ?_
   refine Tr.asg rfl rfl ?_
   refine Tr.nil (Tr.normThen ?_)
   refine Tr.ret (Tr.retBlock (Tr.retThen (Tr.retThen (Tr.retBlock (Tr.retThen ?_)))))
   obtain rfl := Option.some.inj H
   exact Tr.out (m := [(iv (iL1 : Int))]) [] (res_tmp rfl res_nil) (fun W hW => ⟨rfl, hW.low leB⟩)
  ·refine Tr.skip (Tr.normBlock (Tr.normThen ?_))
   refine Tr.region ?_
   refine Tr.va rfl (fun _ _ h1 h2 => run_add (h1.ev rfl) (h1.ev rfl)) ?_
   refine Tr.mv rfl rfl ?_
   refine Tr.nil ?_
   exact Tr.backThen leL1 (restL1, (iL1 + 1)) ⟨rfl, range_tl hdL1, range_lt hdL1, H⟩ (.cons rfl (.cons rfl (.cons rfl (.cons (congrArg (fun z => some (Value.int .i64 z)) (range_up hdL1 hp0_0.form)) .nil)))) .nil

theorem F_slices_ContainsFunc_string_ok {w : Bs} (p0 : (List ByteArray)) (Ap0_0 : Option Addr) (cp0_0 : Nat) (hp0_0 : Sl w.R w.W fl_str Ap0_0 cp0_0 p0) (p1 : ByteArray → Option Bool) (fid1 : Nat) (cap1 : List Value) (hg1 : ∀ args W, (callFunc fid1 args).run Tryz.prog W = .ok (.enter fid1 args) W) (hf1 : ∀ (w' : Bs), w.Ext w' → ∀ (z0 : ByteArray), ∀ y, p1 z0 = some y → Calls Tryz.prog fid1 (([(sv z0)] : List Value) ++ cap1).toArray w'.W fun e W'' => e = .returned (.bool y) ∧ HF w' W'' E0) (r : Bool) (H : F_slices_ContainsFunc_string p0 p1 = some r) (hE : HF w w.W E0) : Calls Tryz.prog 29 [(.slice Ap0_0 (p0).length cp0_0), (.func (.func fid1) #[] cap1.toArray)].toArray w.W fun e W' => e = .returned (.bool r) ∧ HF w W' E0 := by
 unfold F_slices_ContainsFunc_string at H
 have leB := Bs.Le.refl w
 refine Tr.enter (n := 9) Tryz.func29 rfl rfl rfl hE ?_
 refine Tr.sr ?_
 refine Tr.asg rfl rfl ?_
 refine Tr.nil (Tr.normThen ?_)
 refine Tr.sr ?_
 refine Tr.mv rfl rfl ?_
 refine Tr.mv rfl rfl ?_
 obtain ⟨y100, hy100, H⟩ := bnd H
 refine Tr.call0 (r := (iv y100)) (wn rfl) rfl Tryz.call54 (evl_cons rfl (evl_cons rfl evl_nil)) (fun W hW => F_slices_IndexFunc_string_ok p0 Ap0_0 cp0_0 (hp0_0.ext hW.extAll) p1 fid1 cap1 hg1 (fun w' he => hf1 w' (hW.extAll.trans he)) y100 hy100 (HF.start _)) ?_
 refine Tr.va rfl (fun _ _ h1 h2 => run_geq (h1.ev rfl) (h1.ev rfl)) ?_
 refine Tr.asg rfl rfl ?_
 refine Tr.nil (Tr.normThen ?_)
 refine Tr.ret ?_
 obtain rfl := Option.some.inj H
 exact Tr.out (m := [(.bool (decide (0 ≤ y100)))]) [] (res_tmp rfl res_nil) (fun W hW => ⟨rfl, hW.low leB⟩)

theorem F_strings_ContainsFunc_ok {w : Bs} (p0 : ByteArray) (p1 : Int → Option Bool) (fid1 : Nat) (cap1 : List Value) (hg1 : ∀ args W, (callFunc fid1 args).run Tryz.prog W = .ok (.enter fid1 args) W) (hf1 : ∀ (w' : Bs), w.Ext w' → ∀ (z0 : Int), ∀ y, p1 z0 = some y → Calls Tryz.prog fid1 (([(.int .i32 z0)] : List Value) ++ cap1).toArray w'.W fun e W'' => e = .returned (.bool y) ∧ HF w' W'' E0) (r : Bool) (H : containsF p0 p1 = some r) (hE : HF w w.W E0) : Calls Tryz.prog 55 [(sv p0), (.func (.func fid1) #[] cap1.toArray)].toArray w.W fun e W' => e = .returned (.bool r) ∧ HF w W' E0 :=
 containsF_rule (ρ := Tryz.containsfunc55_ren) Tryz.containsfunc55 hg1 hf1 H hE

theorem F_plot_IsRow_1_ok {w : Bs} (p0 : Int) (r : Bool) (H : F_plot_IsRow_1 p0 = some r) (hE : HF w w.W E0) : Calls Tryz.prog 56 [(.int .i32 p0)].toArray w.W fun e W' => e = .returned (.bool r) ∧ HF w W' E0 := by
 unfold F_plot_IsRow_1 at H
 have leB := Bs.Le.refl w
 refine Tr.enter (n := 9) Tryz.func56 rfl rfl rfl hE ?_
 refine Tr.sr ?_
 refine Tr.asg rfl rfl ?_
 refine Tr.nil (Tr.normThen ?_)
 refine Tr.sr ?_
 refine Tr.mv rfl rfl ?_
 refine Tr.va rfl (fun _ _ h1 h2 => run_lss (h1.ev rfl) (h1.ev rfl)) ?_
 refine Tr.mv rfl rfl ?_
 refine Tr.mid0 3 [(8, (.bool ((decide (p0 < 33)) || (decide (126 < p0)))))] [] ?_ ?_
 ·cases hg99 : (decide (p0 < 33))
  ·refine Tr.val (wg rfl rfl rfl) rfl (fun _ _ h1 h2 => run_move (h1.ev rfl)) ?_
   refine Tr.val (wg rfl rfl rfl) rfl (fun _ _ h1 h2 => run_gtr (h1.ev rfl) (h1.ev rfl)) ?_
   refine Tr.va rfl (fun _ _ h1 h2 => run_pickF (h1.ev rfl) (h1.ev rfl)) ?_
   exact Tr.nil (Tr.fin0 (.cons rfl .nil) .nil)
  ·refine Tr.pass rfl rfl rfl rfl rfl (by decide) ?_
   refine Tr.pass rfl rfl rfl rfl rfl (by decide) ?_
   refine Tr.va rfl (fun _ _ h1 h2 => run_pickT (h1.ev rfl) (h1.ev rfl)) ?_
   exact Tr.nil (Tr.fin0 (.cons rfl .nil) .nil)
 ·show Tr _ _ (LF [(8, (.bool ((decide (p0 < 33)) || (decide (126 < p0)))))]) (LE []) _
  refine Tr.asg rfl rfl ?_
  refine Tr.nil (Tr.normThen ?_)
  refine Tr.ret ?_
  obtain rfl := Option.some.inj H
  exact Tr.out (m := [(.bool ((decide (p0 < 33)) || (decide (126 < p0))))]) [] (res_tmp rfl res_nil) (fun W hW => ⟨rfl, hW.low leB⟩)

theorem F_plot_IsRow_ok {w : Bs} (p0 : ByteArray) (r : Bool) (H : F_plot_IsRow p0 = some r) (hE : HF w w.W E0) : Calls Tryz.prog 31 [(sv p0)].toArray w.W fun e W' => e = .returned (.bool r) ∧ HF w W' E0 := by
 unfold F_plot_IsRow at H
 have leB := Bs.Le.refl w
 refine Tr.enter (n := 10) Tryz.func31 rfl rfl rfl hE ?_
 refine Tr.sr ?_
 refine Tr.asg rfl rfl ?_
 refine Tr.nil (Tr.normThen ?_)
 refine Tr.sr ?_
 refine Tr.mv rfl rfl ?_
 refine Tr.va rfl (fun _ _ h1 h2 => run_neqS (h1.ev rfl) (h1.ev rfl)) ?_
 refine Tr.mv rfl rfl ?_
 obtain ⟨g101, hg101, H⟩ := bnd H
 refine Tr.mid0 4 [(9, (.bool g101))] [] ?_ ?_
 ·cases hg102 : (!sEq p0 (⟨#[]⟩))
  ·rw [hg102] at hg101
   rw [if_neg (by decide)] at hg101
   have H := hg101
   obtain rfl := Option.some.inj H
   refine Tr.pass rfl rfl rfl rfl rfl (by decide) ?_
   refine Tr.pass rfl rfl rfl rfl rfl (by decide) ?_
   refine Tr.pass rfl rfl rfl rfl rfl (by decide) ?_
   refine Tr.va rfl (fun _ _ h1 h2 => run_pickF (h1.ev rfl) (h1.ev rfl)) ?_
   exact Tr.nil (Tr.fin0 (.cons rfl .nil) .nil)
  ·rw [hg102] at hg101
   rw [if_pos rfl] at hg101
   have H := hg101
   refine Tr.val (wg rfl rfl rfl) rfl (fun _ _ h1 h2 => run_move (h1.ev rfl)) ?_
   obtain ⟨y102, hy102, H⟩ := bnd H
   refine Tr.call0 (r := (.bool y102)) (wg rfl rfl rfl) rfl Tryz.call55 (evl_cons rfl (evl_cons rfl evl_nil)) (fun W hW => F_strings_ContainsFunc_ok p0 (fun z0 => F_plot_IsRow_1 z0) 56 [] Tryz.call56 (fun w' he z0 y hy => F_plot_IsRow_1_ok z0 y hy (HF.start _)) y102 hy102 (HF.start _)) ?_
   refine Tr.val (wg rfl rfl rfl) rfl (fun _ _ h1 h2 => run_not (h1.ev rfl)) ?_
   refine Tr.va rfl (fun _ _ h1 h2 => run_pickT (h1.ev rfl) (h1.ev rfl)) ?_
   obtain rfl := Option.some.inj H
   exact Tr.nil (Tr.fin0 (.cons rfl .nil) .nil)
 ·show Tr _ _ (LF [(9, (.bool g101))]) (LE []) _
  refine Tr.asg rfl rfl ?_
  refine Tr.nil (Tr.normThen ?_)
  refine Tr.ret ?_
  obtain rfl := Option.some.inj H
  exact Tr.out (m := [(.bool g101)]) [] (res_tmp rfl res_nil) (fun W hW => ⟨rfl, hW.low leB⟩)

theorem F_panel_readLine_1_ok {w : Bs} (p0 : ByteArray) (r : Bool) (H : F_panel_readLine_1 p0 = some r) (hE : HF w w.W E0) : Calls Tryz.prog 30 [(sv p0)].toArray w.W fun e W' => e = .returned (.bool r) ∧ HF w W' E0 := by
 unfold F_panel_readLine_1 at H
 have leB := Bs.Le.refl w
 refine Tr.enter (n := 6) Tryz.func30 rfl rfl rfl hE ?_
 refine Tr.sr ?_
 refine Tr.asg rfl rfl ?_
 refine Tr.nil (Tr.normThen ?_)
 refine Tr.sr ?_
 refine Tr.mv rfl rfl ?_
 obtain ⟨y100, hy100, H⟩ := bnd H
 refine Tr.call0 (r := (.bool y100)) (wn rfl) rfl Tryz.call31 (evl_cons rfl evl_nil) (fun W hW => F_plot_IsRow_ok p0 y100 hy100 (HF.start _)) ?_
 refine Tr.va rfl (fun _ _ h1 h2 => run_not (h1.ev rfl)) ?_
 refine Tr.asg rfl rfl ?_
 refine Tr.nil (Tr.normThen ?_)
 refine Tr.ret ?_
 obtain rfl := Option.some.inj H
 exact Tr.out (m := [(.bool (!y100))]) [] (res_tmp rfl res_nil) (fun W hW => ⟨rfl, hW.low leB⟩)

theorem F_stringslite_HasPrefix_ok {w : Bs} (p0 : ByteArray) (p1 : ByteArray) (r : Bool) (H : F_stringslite_HasPrefix p0 p1 = some r) (hE : HF w w.W E0) : Calls Tryz.prog 118 [(sv p0), (sv p1)].toArray w.W fun e W' => e = .returned (.bool r) ∧ HF w W' E0 := by
 unfold F_stringslite_HasPrefix at H
 have leB := Bs.Le.refl w
 refine Tr.enter (n := 18) Tryz.func118 rfl rfl rfl hE ?_
 refine Tr.sr ?_
 refine Tr.asg rfl rfl ?_
 refine Tr.nil (Tr.normThen ?_)
 refine Tr.sr ?_
 refine Tr.mv rfl rfl ?_
 refine Tr.va rfl (fun _ _ h1 h2 => run_lenS un_9 (h1.ev rfl)) ?_
 refine Tr.mv rfl rfl ?_
 refine Tr.va rfl (fun _ _ h1 h2 => run_lenS un_9 (h1.ev rfl)) ?_
 refine Tr.va rfl (fun _ _ h1 h2 => run_geq (h1.ev rfl) (h1.ev rfl)) ?_
 refine Tr.mv rfl rfl ?_
 obtain ⟨g101, hg101, H⟩ := bnd H
 refine Tr.mid0 7 [(17, (.bool g101))] [] ?_ ?_
 ·cases hg102 : (decide ((p1.size : Int) ≤ (p0.size : Int)))
  ·rw [hg102] at hg101
   rw [if_neg (by decide)] at hg101
   have H := hg101
   obtain rfl := Option.some.inj H
   refine Tr.pass rfl rfl rfl rfl rfl (by decide) ?_
   refine Tr.pass rfl rfl rfl rfl rfl (by decide) ?_
   refine Tr.pass rfl rfl rfl rfl rfl (by decide) ?_
   refine Tr.pass rfl rfl rfl rfl rfl (by decide) ?_
   refine Tr.pass rfl rfl rfl rfl rfl (by decide) ?_
   refine Tr.pass rfl rfl rfl rfl rfl (by decide) ?_
   refine Tr.va rfl (fun _ _ h1 h2 => run_pickF (h1.ev rfl) (h1.ev rfl)) ?_
   exact Tr.nil (Tr.fin0 (.cons rfl .nil) .nil)
  ·rw [hg102] at hg101
   rw [if_pos rfl] at hg101
   have H := hg101
   refine Tr.val (wg rfl rfl rfl) rfl (fun _ _ h1 h2 => run_move (h1.ev rfl)) ?_
   refine Tr.val (wg rfl rfl rfl) rfl (fun _ _ h1 h2 => run_move (h1.ev rfl)) ?_
   refine Tr.val (wg rfl rfl rfl) rfl (fun _ _ h1 h2 => run_lenS un_9 (h1.ev rfl)) ?_
   obtain ⟨t102, ht102, H⟩ := bnd H
   refine Tr.val (wg rfl rfl rfl) rfl (fun _ _ h1 h2 => run_cutSH un_9 (h1.ev rfl) (h1.ev rfl) ht102) ?_
   refine Tr.val (wg rfl rfl rfl) rfl (fun _ _ h1 h2 => run_move (h1.ev rfl)) ?_
   refine Tr.val (wg rfl rfl rfl) rfl (fun _ _ h1 h2 => run_eqlS (h1.ev rfl) (h1.ev rfl)) ?_
   refine Tr.va rfl (fun _ _ h1 h2 => run_pickT (h1.ev rfl) (h1.ev rfl)) ?_
   obtain rfl := Option.some.inj H
   exact Tr.nil (Tr.fin0 (.cons rfl .nil) .nil)
 ·show Tr _ _ (LF [(17, (.bool g101))]) (LE []) _
  refine Tr.asg rfl rfl ?_
  refine Tr.nil (Tr.normThen ?_)
  refine Tr.ret ?_
  obtain rfl := Option.some.inj H
  exact Tr.out (m := [(.bool g101)]) [] (res_tmp rfl res_nil) (fun W hW => ⟨rfl, hW.low leB⟩)

theorem F_stringslite_TrimPrefix_ok {w : Bs} (p0 : ByteArray) (p1 : ByteArray) (r : ByteArray) (H : F_stringslite_TrimPrefix p0 p1 = some r) (hE : HF w w.W E0) : Calls Tryz.prog 104 [(sv p0), (sv p1)].toArray w.W fun e W' => e = .returned (sv r) ∧ HF w W' E0 := by
 unfold F_stringslite_TrimPrefix at H
 have leB := Bs.Le.refl w
 refine Tr.enter (n := 13) Tryz.func104 rfl rfl rfl hE ?_
 refine Tr.sr ?_
 refine Tr.asg rfl rfl ?_
 refine Tr.nil (Tr.normThen ?_)
 refine Tr.seq ?_
 refine Tr.sr ?_
 refine Tr.mv rfl rfl ?_
 refine Tr.mv rfl rfl ?_
 obtain ⟨y100, hy100, H⟩ := bnd H
 refine Tr.call0 (r := (.bool y100)) (wn rfl) rfl Tryz.call118 (evl_cons rfl (evl_cons rfl evl_nil)) (fun W hW => F_stringslite_HasPrefix_ok p0 p1 y100 hy100 (HF.start _)) ?_
 refine Tr.nil (Tr.normThen ?_)
 refine Tr.cond rfl H (fun H => ?_) (fun H => ?_)
 ·refine Tr.sr ?_
  refine Tr.mv rfl rfl ?_
  refine Tr.mv rfl rfl ?_
  refine Tr.va rfl (fun _ _ h1 h2 => run_lenS un_9 (h1.ev rfl)) ?_
  obtain ⟨t101, ht101, H⟩ := bnd H
  refine Tr.va rfl (fun _ _ h1 h2 => run_cutSL un_9 (h1.ev rfl) (h1.ev rfl) ht101) ?_
  refine Tr.asg rfl rfl ?_
  refine Tr.nil (Tr.normThen ?_)
  refine Tr.ret (Tr.retThen ?_)
  obtain rfl := Option.some.inj H
  exact Tr.out (m := [(sv t101)]) [] (res_tmp rfl res_nil) (fun W hW => ⟨rfl, hW.low leB⟩)
 ·refine Tr.skip (Tr.normThen ?_)
  refine Tr.sr ?_
  refine Tr.mv rfl rfl ?_
  refine Tr.asg rfl rfl ?_
  refine Tr.nil (Tr.normThen ?_)
  refine Tr.ret ?_
  obtain rfl := Option.some.inj H
  exact Tr.out (m := [(sv p0)]) [] (res_tmp rfl res_nil) (fun W hW => ⟨rfl, hW.low leB⟩)

theorem F_strings_TrimPrefix_ok {w : Bs} (p0 : ByteArray) (p1 : ByteArray) (r : ByteArray) (H : F_strings_TrimPrefix p0 p1 = some r) (hE : HF w w.W E0) : Calls Tryz.prog 86 [(sv p0), (sv p1)].toArray w.W fun e W' => e = .returned (sv r) ∧ HF w W' E0 := by
 unfold F_strings_TrimPrefix at H
 have leB := Bs.Le.refl w
 refine Tr.enter (n := 8) Tryz.func86 rfl rfl rfl hE ?_
 refine Tr.sr ?_
 refine Tr.asg rfl rfl ?_
 refine Tr.nil (Tr.normThen ?_)
 refine Tr.sr ?_
 refine Tr.mv rfl rfl ?_
 refine Tr.mv rfl rfl ?_
 obtain ⟨y100, hy100, H⟩ := bnd H
 refine Tr.call0 (r := (sv y100)) (wn rfl) rfl Tryz.call104 (evl_cons rfl (evl_cons rfl evl_nil)) (fun W hW => F_stringslite_TrimPrefix_ok p0 p1 y100 hy100 (HF.start _)) ?_
 refine Tr.asg rfl rfl ?_
 refine Tr.nil (Tr.normThen ?_)
 refine Tr.ret ?_
 obtain rfl := Option.some.inj H
 exact Tr.out (m := [(sv y100)]) [] (res_tmp rfl res_nil) (fun W hW => ⟨rfl, hW.low leB⟩)

theorem F_strings_Trim_ok {w : Bs} (p0 : ByteArray) (p1 : ByteArray) (r : ByteArray) (H : trimF p0 p1 = some r) (hE : HF w w.W E0) : Calls Tryz.prog 87 [(sv p0), (sv p1)].toArray w.W fun e W' => e = .returned (sv r) ∧ HF w W' E0 :=
 trimF_rule (ρ := Tryz.trim87_ren) Tryz.trim87 (by kernel_rfl) H hE

theorem F_strconv_Atoi_ok {w : Bs} (p0 : ByteArray) (r : Int) (H : atoiF p0 = some r) (hE : HF w w.W E0) : Calls Tryz.prog 88 [(sv p0)].toArray w.W fun e W' => e = .returned (.tuple #[(iv r), .nilIface]) ∧ HF w W' E0 :=
 atoiF_rule (ρ := Tryz.atoi88_ren) Tryz.atoi88 H hE

theorem F_plot_Number_ok {w : Bs} (p0 : ByteArray) (r : (Int × Bool)) (H : F_plot_Number p0 = some r) (hE : HF w w.W E0) : Calls Tryz.prog 57 [(sv p0)].toArray w.W fun e W' => e = .returned (.tuple #[(iv r.1), (.bool r.2)]) ∧ HF w W' E0 := by
 unfold F_plot_Number at H
 have leB := Bs.Le.refl w
 refine Tr.enter (n := 37) Tryz.func57 rfl rfl rfl hE ?_
 refine Tr.sr ?_
 refine Tr.asg rfl rfl ?_
 refine Tr.asg rfl rfl ?_
 refine Tr.nil (Tr.normThen ?_)
 refine Tr.sr ?_
 refine Tr.mv rfl rfl ?_
 obtain ⟨y100, hy100, H⟩ := bnd H
 refine Tr.call0 (r := (sv y100)) (wn rfl) rfl Tryz.call86 (evl_cons rfl (evl_cons rfl evl_nil)) (fun W hW => F_strings_TrimPrefix_ok p0 (⟨#[45]⟩) y100 hy100 (HF.start _)) ?_
 refine Tr.asg rfl rfl ?_
 refine Tr.nil (Tr.normThen ?_)
 refine Tr.seq ?_
 refine Tr.sr ?_
 refine Tr.mv rfl rfl ?_
 refine Tr.va rfl (fun _ _ h1 h2 => run_lenS un_9 (h1.ev rfl)) ?_
 refine Tr.va rfl (fun _ _ h1 h2 => run_lss (h1.ev rfl) (h1.ev rfl)) ?_
 refine Tr.mv rfl rfl ?_
 refine Tr.mid0 4 [(0, (sv p0)), (4, (sv y100)), (16, (.bool ((decide ((y100.size : Int) < 1)) || (decide (9 < (y100.size : Int))))))] [] ?_ ?_
 ·cases hg107 : (decide ((y100.size : Int) < 1))
  ·refine Tr.val (wg rfl rfl rfl) rfl (fun _ _ h1 h2 => run_move (h1.ev rfl)) ?_
   refine Tr.val (wg rfl rfl rfl) rfl (fun _ _ h1 h2 => run_lenS un_9 (h1.ev rfl)) ?_
   refine Tr.val (wg rfl rfl rfl) rfl (fun _ _ h1 h2 => run_gtr (h1.ev rfl) (h1.ev rfl)) ?_
   refine Tr.va rfl (fun _ _ h1 h2 => run_pickF (h1.ev rfl) (h1.ev rfl)) ?_
   exact Tr.nil (Tr.fin0 (.cons rfl (.cons rfl (.cons rfl .nil))) .nil)
  ·refine Tr.pass rfl rfl rfl rfl rfl (by decide) ?_
   refine Tr.pass rfl rfl rfl rfl rfl (by decide) ?_
   refine Tr.pass rfl rfl rfl rfl rfl (by decide) ?_
   refine Tr.va rfl (fun _ _ h1 h2 => run_pickT (h1.ev rfl) (h1.ev rfl)) ?_
   exact Tr.nil (Tr.fin0 (.cons rfl (.cons rfl (.cons rfl .nil))) .nil)
 ·show Tr _ _ (LF [(0, (sv p0)), (4, (sv y100)), (16, (.bool ((decide ((y100.size : Int) < 1)) || (decide (9 < (y100.size : Int))))))]) (LE []) _
  refine Tr.mv rfl rfl ?_
  obtain ⟨g102, hg102, H⟩ := bnd H
  refine Tr.mid0 4 [(0, (sv p0)), (4, (sv y100)), (21, (.bool g102))] [] ?_ ?_
  ·cases hg107 : ((decide ((y100.size : Int) < 1)) || (decide (9 < (y100.size : Int))))
   ·rw [hg107] at hg102
    rw [if_neg (by decide)] at hg102
    have H := hg102
    refine Tr.val (wg rfl rfl rfl) rfl (fun _ _ h1 h2 => run_move (h1.ev rfl)) ?_
    obtain ⟨y103, hy103, H⟩ := bnd H
    refine Tr.call0 (r := (sv y103)) (wg rfl rfl rfl) rfl Tryz.call87 (evl_cons rfl (evl_cons rfl evl_nil)) (fun W hW => F_strings_Trim_ok y100 (⟨#[48, 49, 50, 51, 52, 53, 54, 55, 56, 57]⟩) y103 hy103 (HF.start _)) ?_
    refine Tr.val (wg rfl rfl rfl) rfl (fun _ _ h1 h2 => run_neqS (h1.ev rfl) (h1.ev rfl)) ?_
    refine Tr.va rfl (fun _ _ h1 h2 => run_pickF (h1.ev rfl) (h1.ev rfl)) ?_
    obtain rfl := Option.some.inj H
    exact Tr.nil (Tr.fin0 (.cons rfl (.cons rfl (.cons rfl .nil))) .nil)
   ·rw [hg107] at hg102
    rw [if_pos rfl] at hg102
    have H := hg102
    obtain rfl := Option.some.inj H
    refine Tr.pass rfl rfl rfl rfl rfl (by decide) ?_
    refine Tr.pass rfl rfl rfl rfl rfl (by decide) ?_
    refine Tr.pass rfl rfl rfl rfl rfl (by decide) ?_
    refine Tr.va rfl (fun _ _ h1 h2 => run_pickT (h1.ev rfl) (h1.ev rfl)) ?_
    exact Tr.nil (Tr.fin0 (.cons rfl (.cons rfl (.cons rfl .nil))) .nil)
  ·show Tr _ _ (LF [(0, (sv p0)), (4, (sv y100)), (21, (.bool g102))]) (LE []) _
   refine Tr.mv rfl rfl ?_
   obtain ⟨g105, hg105, H⟩ := bnd H
   refine Tr.mid0 8 [(0, (sv p0)), (30, (.bool g105))] [] ?_ ?_
   ·cases hg107 : g102
    ·rw [hg107] at hg105
     rw [if_neg (by decide)] at hg105
     have H := hg105
     refine Tr.val (wg rfl rfl rfl) rfl (fun _ _ h1 h2 => run_move (h1.ev rfl)) ?_
     obtain ⟨c106, hc106, H⟩ := bnd H
     refine Tr.val (wg rfl rfl rfl) rfl (fun _ _ h1 h2 => run_indexS un_9 (h1.ev rfl) (h1.ev rfl) hc106) ?_
     refine Tr.val (wg rfl rfl rfl) rfl (fun _ _ h1 h2 => run_eql (h1.ev rfl) (h1.ev rfl)) ?_
     refine Tr.val (wg rfl rfl rfl) rfl (fun _ _ h1 h2 => run_move (h1.ev rfl)) ?_
     refine Tr.mid0 3 [(0, (sv p0)), (22, (.bool false)), (29, (.bool ((c106 == 48) && (!sEq p0 (⟨#[48]⟩)))))] [] ?_ ?_
     ·cases hg106 : (c106 == 48)
      ·refine Tr.pass rfl rfl rfl rfl rfl (by decide) ?_
       refine Tr.pass rfl rfl rfl rfl rfl (by decide) ?_
       refine Tr.val (wg rfl rfl rfl) rfl (fun _ _ h1 h2 => run_pickF (h1.ev rfl) (h1.ev rfl)) ?_
       exact Tr.nil (Tr.fin0 (.cons rfl (.cons rfl (.cons rfl .nil))) .nil)
      ·refine Tr.val (wg rfl rfl rfl) rfl (fun _ _ h1 h2 => run_move (h1.ev rfl)) ?_
       refine Tr.val (wg rfl rfl rfl) rfl (fun _ _ h1 h2 => run_neqS (h1.ev rfl) (h1.ev rfl)) ?_
       refine Tr.val (wg rfl rfl rfl) rfl (fun _ _ h1 h2 => run_pickT (h1.ev rfl) (h1.ev rfl)) ?_
       exact Tr.nil (Tr.fin0 (.cons rfl (.cons rfl (.cons rfl .nil))) .nil)
     ·show Tr _ _ (LF [(0, (sv p0)), (22, (.bool false)), (29, (.bool ((c106 == 48) && (!sEq p0 (⟨#[48]⟩)))))]) (LE []) _
      refine Tr.va rfl (fun _ _ h1 h2 => run_pickF (h1.ev rfl) (h1.ev rfl)) ?_
      obtain rfl := Option.some.inj H
      exact Tr.nil (Tr.fin0 (.cons rfl (.cons rfl .nil)) .nil)
    ·rw [hg107] at hg105
     rw [if_pos rfl] at hg105
     have H := hg105
     obtain rfl := Option.some.inj H
     refine Tr.pass rfl rfl rfl rfl rfl (by decide) ?_
     refine Tr.pass rfl rfl rfl rfl rfl (by decide) ?_
     refine Tr.pass rfl rfl rfl rfl rfl (by decide) ?_
     refine Tr.pass rfl rfl rfl rfl rfl (by decide) ?_
     refine Tr.passU rfl rfl rfl rfl (by decide) ?_
     refine Tr.passU rfl rfl rfl rfl (by decide) ?_
     refine Tr.pass rfl rfl rfl rfl rfl (by decide) ?_
     refine Tr.va rfl (fun _ _ h1 h2 => run_pickT (h1.ev rfl) (h1.ev rfl)) ?_
     exact Tr.nil (Tr.fin0 (.cons rfl (.cons rfl .nil)) .nil)
   ·show Tr _ _ (LF [(0, (sv p0)), (30, (.bool g105))]) (LE []) _
    refine Tr.nil (Tr.normThen ?_)
    refine Tr.cond rfl H (fun H => ?_) (fun H => ?_)
    ·refine Tr.sr ?_
     refine Tr.asg rfl rfl ?_
     refine Tr.asg rfl rfl ?_
     refine Tr.nil (Tr.normThen ?_)
     refine Tr.ret (Tr.retThen ?_)
     obtain rfl := Option.some.inj H
     exact Tr.out (m := [(iv 0), (.bool false)]) [] (res_tmp rfl (res_tmp rfl res_nil)) (fun W hW => ⟨rfl, hW.low leB⟩)
    ·refine Tr.skip (Tr.normThen ?_)
     refine Tr.sr ?_
     refine Tr.mv rfl rfl ?_
     obtain ⟨y107, hy107, H⟩ := bnd H
     refine Tr.call0 (r := (.tuple #[(iv y107), .nilIface])) (wn rfl) rfl Tryz.call88 (evl_cons rfl evl_nil) (fun W hW => F_strconv_Atoi_ok p0 y107 hy107 (HF.start _)) ?_
     refine Tr.mv rfl rfl ?_
     refine Tr.va rfl (fun _ _ h1 h2 => run_extract (h1.ev rfl) rfl) ?_
     refine Tr.va rfl (fun _ _ h1 h2 => run_extract (h1.ev rfl) rfl) ?_
     refine Tr.asg rfl rfl ?_
     refine Tr.asg rfl rfl ?_
     refine Tr.nil (Tr.normThen ?_)
     refine Tr.sr ?_
     refine Tr.mv rfl rfl ?_
     refine Tr.asg rfl rfl ?_
     refine Tr.asg rfl rfl ?_
     refine Tr.nil (Tr.normThen ?_)
     refine Tr.ret ?_
     obtain rfl := Option.some.inj H
     exact Tr.out (m := [(iv y107), (.bool true)]) [] (res_tmp rfl (res_tmp rfl res_nil)) (fun W hW => ⟨rfl, hW.low leB⟩)

theorem F_plot_Numbers_ok {w : Bs} (p0 : (List ByteArray)) (Ap0_0 : Option Addr) (cp0_0 : Nat) (hp0_0 : Sl w.R w.W fl_str Ap0_0 cp0_0 p0) (r : ((List Int) × Bool)) (H : F_plot_Numbers p0 = some r) (hE : HF w w.W (LEn [emp])) : Calls Tryz.prog 32 [(.slice Ap0_0 (p0).length cp0_0)].toArray w.W fun e W' => ∃ u : (Option Addr × Nat), e = .returned (.tuple #[(.slice u.1 (r.1).length u.2), (.bool r.2)]) ∧ (SlF u.1 (r.1).length u.2) ∧ HF w W' (LEn [ow u.1 u.2 3 fl_i64 r.1]) := by
 unfold F_plot_Numbers at H
 have leB := Bs.Le.refl w
 refine Tr.enter (n := 28) Tryz.func32 rfl rfl rfl hE ?_
 refine Tr.sr ?_
 refine Tr.asg rfl rfl ?_
 refine Tr.nilOwn 1 3 fl_i64 ?_
 show Tr _ _ (uf _ 2 (.slice none (([] : List Int)).length 0)) _ _
 refine Tr.asg rfl rfl ?_
 refine Tr.nil (Tr.normThen ?_)
 refine Tr.sr ?_
 refine Tr.asg rfl rfl ?_
 refine Tr.nilOwn 2 3 fl_i64 ?_
 show Tr _ _ (uf _ 4 (.slice none (([] : List Int)).length 0)) _ _
 refine Tr.nil (Tr.normThen ?_)
 refine Tr.seq ?_
 refine Tr.sr ?_
 refine Tr.mv rfl rfl ?_
 refine Tr.va rfl (fun _ _ h1 h2 => run_len un_40 (h1.ev rfl)) ?_
 refine Tr.mv rfl rfl ?_
 refine Tr.nil (Tr.normThen ?_)
 refine Tr.block ?_
 refine Tr.loop (σ := (List ByteArray) × Nat × (List Int) × (Option Addr) × Nat) (fun m w s => m = s.1.length + 1 ∧ s.1 = List.drop s.2.1 p0 ∧ s.2.1 ≤ p0.length ∧ F_plot_Numbers_L1 s.1 s.2.1 s.2.2.1 = some r ∧ SlF s.2.2.2.1 (s.2.2.1).length s.2.2.2.2) (fun s => [(4, (.slice s.2.2.2.1 (s.2.2.1).length s.2.2.2.2)), (9, (.slice Ap0_0 (p0).length cp0_0)), (10, (iv (p0.length : Int))), (11, (iv (s.2.1 : Int)))]) (fun s => [(2, ow s.2.2.2.1 s.2.2.2.2 3 fl_i64 s.2.2.1)]) (p0.length + 1) (p0, 0, ([] : List Int), none, 0) ⟨rfl, rfl, Nat.zero_le _, H, slf_nil⟩ (.cons rfl (.cons rfl (.cons rfl (.cons rfl .nil)))) (.cons rfl .nil) (fun _ _ h => absurd h.1 (by simp)) ?_
 intro w leL1 m s hs
 obtain ⟨restL1, iL1, l114, Al114, cl114⟩ := s
 obtain ⟨hmL1, hdL1, hiL1, H, hl114⟩ := hs
 replace hdL1 : restL1 = List.drop iL1 p0 := hdL1
 replace H : F_plot_Numbers_L1 restL1 iL1 l114 = some r := H
 replace hmL1 : m + 1 = restL1.length + 1 := hmL1
 replace hp0_0 := hp0_0.leR leL1
 replace leB := leB.trans leL1
 replace hl114 : SlF Al114 (l114).length cl114 := hl114
 obtain rfl : m = restL1.length := by omega
 clear hmL1
 show Tr _ _ (LF [(4, (.slice Al114 (l114).length cl114)), (9, (.slice Ap0_0 (p0).length cp0_0)), (10, (iv (p0.length : Int))), (11, (iv (iL1 : Int)))]) (LE [(2, ow Al114 cl114 3 fl_i64 l114)]) _
 cases restL1 with
 | nil =>
  rw [F_plot_Numbers_L1.eq_1] at H
  refine Tr.sr ?_
  refine Tr.va rfl (fun _ _ h1 h2 => run_lss (h1.ev rfl) (h1.ev rfl)) ?_
  refine Tr.nil (Tr.normThen ?_)
  refine Tr.seq ?_
  refine Tr.condF rfl (range_nil hdL1) ?_
  refine Tr.exit (Tr.exitThen (Tr.exitThen (Tr.exitBlock (Tr.normThen ?_))))
  refine Tr.sr ?_
  refine Tr.mv rfl rfl ?_
  refine Tr.asg rfl rfl ?_
  refine Tr.asg rfl rfl ?_
  refine Tr.nil (Tr.normThen ?_)
  refine Tr.ret ?_
  obtain rfl := Option.some.inj H
  exact Tr.out (m := [(.slice Al114 (l114).length cl114), (.bool true)]) [] (res_tmp rfl (res_tmp rfl res_nil)) (fun W hW => ⟨(Al114, cl114), rfl, hl114, HF.lowE leB (hW.pick (ks := [2]) (by decide) (pk_cons rfl pk_nil)) ⟨ow_any _ _ _ _ tr_i64, trivial⟩⟩)
 | cons xL1 restL1 =>
  rw [F_plot_Numbers_L1.eq_2] at H
  refine Tr.sr ?_
  refine Tr.va rfl (fun _ _ h1 h2 => run_lss (h1.ev rfl) (h1.ev rfl)) ?_
  refine Tr.nil (Tr.normThen ?_)
  refine Tr.seq ?_
  refine Tr.condT rfl (range_on hdL1) ?_
  refine Tr.skip (Tr.normThen ?_)
  refine Tr.seq ?_
  refine Tr.block ?_
  refine Tr.sr ?_
  refine Tr.va rfl (fun _ _ h1 h2 => run_indexAddr el_40 (h1.ev rfl) hp0_0.form (h1.ev rfl) (Int.natCast_nonneg _) (range_lt hdL1)) ?_
  refine Tr.va rfl (fun _ _ h1 h2 => run_load1 ag_9 (h1.ev rfl) (rdF ef_str hp0_0 (range_at hdL1) h2) rfl) ?_
  refine Tr.asg rfl rfl ?_
  refine Tr.nil (Tr.normThen ?_)
  refine Tr.sr ?_
  refine Tr.mv rfl rfl ?_
  obtain ⟨y115, hy115, H⟩ := bnd H
  refine Tr.call0 (r := (.tuple #[(iv y115.1), (.bool y115.2)])) (wn rfl) rfl Tryz.call57 (evl_cons rfl evl_nil) (fun W hW => F_plot_Number_ok xL1 y115 hy115 (HF.start _)) ?_
  refine Tr.mv rfl rfl ?_
  refine Tr.va rfl (fun _ _ h1 h2 => run_extract (h1.ev rfl) rfl) ?_
  refine Tr.va rfl (fun _ _ h1 h2 => run_extract (h1.ev rfl) rfl) ?_
  refine Tr.asg rfl rfl ?_
  refine Tr.asg rfl rfl ?_
  refine Tr.nil (Tr.normThen ?_)
  refine Tr.seq ?_
  refine Tr.sr ?_
  refine Tr.mv rfl rfl ?_
  refine Tr.va rfl (fun _ _ h1 h2 => run_not (h1.ev rfl)) ?_
  refine Tr.nil (Tr.normThen ?_)
  refine Tr.cond rfl H (fun H => ?_) (fun H => ?_)
  ·refine Tr.sr ?_
   refine Tr.asg rfl rfl ?_
   refine Tr.nilOwn 7 3 fl_i64 ?_
   show Tr _ _ (uf _ 2 (.slice none (([] : List Int)).length 0)) _ _
   refine Tr.asg rfl rfl ?_
   refine Tr.nil (Tr.normThen ?_)
   refine Tr.ret (Tr.retThen (Tr.retBlock (Tr.retThen (Tr.retThen (Tr.retBlock (Tr.retThen ?_))))))
   obtain rfl := Option.some.inj H
   exact Tr.out (m := [(.slice none (([] : List Int)).length 0), (.bool false)]) [] (res_tmp rfl (res_tmp rfl res_nil)) (fun W hW => ⟨(none, 0), rfl, slf_nil, HF.lowE leB (hW.pick (ks := [7]) (by decide) (pk_cons rfl pk_nil)) ⟨ow_any _ _ _ _ tr_i64, trivial⟩⟩)
  ·refine Tr.skip (Tr.normThen ?_)
   refine Tr.region ?_
   refine Tr.mv rfl rfl ?_
   refine Tr.mv rfl rfl ?_
   refine Tr.buildSlice 8 (e := 3) (vs := [(0, (iv y115.1))]) (cs := [(iv y115.1)]) (wn rfl) rfl (evs_cons rfl evs_nil) (by kernel_rfl) fun b116 => ?_
   obtain ⟨l117, hl117, H⟩ := bnd H
   refine Tr.append 2 (t := fl_i64) (l := l114) (l2 := [y115.1]) (wn rfl) rfl rfl rfl rfl (fun W hW => ⟨[[(iv y115.1)]], (.cons ⟨(), trivial, rfl⟩ .nil), rdb hW (vs := [(iv y115.1)]) (k := 8) rfl 0⟩) un_64 sz_3 zl_3 (by decide) by_3 rfl hl117 fun Al117 cl117 hAl117 => ?_
   refine Tr.asg rfl rfl ?_
   refine Tr.nil (Tr.normBlock (Tr.normThen ?_))
   refine Tr.region ?_
   refine Tr.va rfl (fun _ _ h1 h2 => run_add (h1.ev rfl) (h1.ev rfl)) ?_
   refine Tr.mv rfl rfl ?_
   refine Tr.nil ?_
   exact Tr.backThen leL1 (restL1, (iL1 + 1), l117, Al117, cl117) ⟨rfl, range_tl hdL1, range_lt hdL1, H, hAl117⟩ (.cons rfl (.cons rfl (.cons rfl (.cons (congrArg (fun z => some (Value.int .i64 z)) (range_up hdL1 hp0_0.form)) .nil)))) (.cons rfl .nil)

end Go.Proofs.YtmbjoffligicnaaGreatDoor
