/- The walks: each function computes its plain function. -/
import Derived.Test.YtcjeebkoafonpaaGreatDoorXWd
namespace Go.Proofs.YtcjeebkoafonpaaGreatDoor
open Go.RowKit
set_option maxRecDepth 100000
set_option maxHeartbeats 1000000
theorem F_etchhouseref3_SamePlot_ok (N : Nat) {w : Bs} (p0 : TPlot) (Ap0_0 : Option Addr) (cp0_0 : Nat) (hp0_0 : Sl w.R w.W fl_TPlotTool Ap0_0 cp0_0 p0.Tools) (Ap0_1 : Option Addr) (cp0_1 : Nat) (hp0_1 : Sl w.R w.W fl_TPlotStep Ap0_1 cp0_1 p0.Steps) (p1 : TPlot) (Ap1_0 : Option Addr) (cp1_0 : Nat) (hp1_0 : Sl w.R w.W fl_TPlotTool Ap1_0 cp1_0 p1.Tools) (Ap1_1 : Option Addr) (cp1_1 : Nat) (hp1_1 : Sl w.R w.W fl_TPlotStep Ap1_1 cp1_1 p1.Steps) (r : Bool) (H : F_etchhouseref3_SamePlot N p0 p1 = some r) (hE : HF w w.W E0) : Calls Tryz.prog 7 [(.agg #[(iv p0.Unit), (.slice Ap0_0 (p0.Tools).length cp0_0), (.slice Ap0_1 (p0.Steps).length cp0_1)]), (.agg #[(iv p1.Unit), (.slice Ap1_0 (p1.Tools).length cp1_0), (.slice Ap1_1 (p1.Steps).length cp1_1)])].toArray w.W fun e W' => e = .returned (.bool r) ∧ HF w W' E0 := by
 unfold F_etchhouseref3_SamePlot at H
 have leB := Bs.Le.refl w
 refine Tr.enter (n := 64) Tryz.func7 rfl rfl rfl hE ?_
 refine Tr.sr ?_
 refine Tr.box 1 (cs := [(iv p0.Unit), (.slice Ap0_0 (p0.Tools).length cp0_0), (.slice Ap0_1 (p0.Steps).length cp0_1)]) (wn rfl) rfl rfl rfl fun b100 => ?_
 refine Tr.box 2 (cs := [(iv p1.Unit), (.slice Ap1_0 (p1.Tools).length cp1_0), (.slice Ap1_1 (p1.Steps).length cp1_1)]) (wn rfl) rfl rfl rfl fun b101 => ?_
 refine Tr.asg rfl rfl ?_
 refine Tr.nil (Tr.normThen ?_)
 refine Tr.seq ?_
 refine Tr.sr ?_
 refine Tr.v1 rfl (run_fieldAddr fo_26_0) rfl ?_
 refine Tr.va rfl (fun _ _ h1 h2 => run_load1 ag_3 (h1.ev rfl) (rdb h2 (vs := [(iv p0.Unit), (.slice Ap0_0 (p0.Tools).length cp0_0), (.slice Ap0_1 (p0.Steps).length cp0_1)]) (k := 1) rfl 0) rfl) ?_
 refine Tr.v1 rfl (run_fieldAddr fo_26_0) rfl ?_
 refine Tr.va rfl (fun _ _ h1 h2 => run_load1 ag_3 (h1.ev rfl) (rdb h2 (vs := [(iv p1.Unit), (.slice Ap1_0 (p1.Tools).length cp1_0), (.slice Ap1_1 (p1.Steps).length cp1_1)]) (k := 2) rfl 0) rfl) ?_
 refine Tr.v2 rfl run_neq rfl rfl ?_
 refine Tr.mv rfl rfl ?_
 refine Tr.mid0 8 [(2, (.pointer (some ⟨b100, 0, none⟩))), (3, (.pointer (some ⟨b101, 0, none⟩))), (19, (.bool ((p0.Unit != p1.Unit) || ((p0.Tools.length : Int) != (p1.Tools.length : Int)))))] [(1, bx b100 #[(iv p0.Unit), (.slice Ap0_0 (p0.Tools).length cp0_0), (.slice Ap0_1 (p0.Steps).length cp0_1)] 26), (2, bx b101 #[(iv p1.Unit), (.slice Ap1_0 (p1.Tools).length cp1_0), (.slice Ap1_1 (p1.Steps).length cp1_1)] 26)] ?_ ?_
 ·cases hg104 : (p0.Unit != p1.Unit)
  ·refine Tr.w1 (wg rfl rfl rfl) rfl (run_fieldAddr fo_26_1) rfl ?_
   refine Tr.val (wg rfl rfl rfl) rfl (fun _ _ h1 h2 => run_load1 ag_23 (h1.ev rfl) (rdb h2 (vs := [(iv p0.Unit), (.slice Ap0_0 (p0.Tools).length cp0_0), (.slice Ap0_1 (p0.Steps).length cp0_1)]) (k := 1) rfl 1) rfl) ?_
   refine Tr.w1 (wg rfl rfl rfl) rfl (run_len un_23) rfl ?_
   refine Tr.w1 (wg rfl rfl rfl) rfl (run_fieldAddr fo_26_1) rfl ?_
   refine Tr.val (wg rfl rfl rfl) rfl (fun _ _ h1 h2 => run_load1 ag_23 (h1.ev rfl) (rdb h2 (vs := [(iv p1.Unit), (.slice Ap1_0 (p1.Tools).length cp1_0), (.slice Ap1_1 (p1.Steps).length cp1_1)]) (k := 2) rfl 1) rfl) ?_
   refine Tr.w1 (wg rfl rfl rfl) rfl (run_len un_23) rfl ?_
   refine Tr.w2 (wg rfl rfl rfl) rfl run_neq rfl rfl ?_
   refine Tr.v2 rfl run_pickF rfl rfl ?_
   exact Tr.nil (Tr.fin0 (.r rfl) (.r rfl))
  ·refine Tr.ps ?_
   refine Tr.ps ?_
   refine Tr.ps ?_
   refine Tr.ps ?_
   refine Tr.ps ?_
   refine Tr.ps ?_
   refine Tr.ps ?_
   refine Tr.v2 rfl run_pickT rfl rfl ?_
   exact Tr.nil (Tr.fin0 (.r rfl) (.r rfl))
 ·show Tr _ _ (LF [(2, (.pointer (some ⟨b100, 0, none⟩))), (3, (.pointer (some ⟨b101, 0, none⟩))), (19, (.bool ((p0.Unit != p1.Unit) || ((p0.Tools.length : Int) != (p1.Tools.length : Int)))))]) (LE [(1, bx b100 #[(iv p0.Unit), (.slice Ap0_0 (p0.Tools).length cp0_0), (.slice Ap0_1 (p0.Steps).length cp0_1)] 26), (2, bx b101 #[(iv p1.Unit), (.slice Ap1_0 (p1.Tools).length cp1_0), (.slice Ap1_1 (p1.Steps).length cp1_1)] 26)]) _
  refine Tr.mv rfl rfl ?_
  obtain ⟨g103, hg103, H⟩ := bnd H
  refine Tr.mid0 7 [(2, (.pointer (some ⟨b100, 0, none⟩))), (3, (.pointer (some ⟨b101, 0, none⟩))), (27, (.bool g103))] [(1, bx b100 #[(iv p0.Unit), (.slice Ap0_0 (p0.Tools).length cp0_0), (.slice Ap0_1 (p0.Steps).length cp0_1)] 26), (2, bx b101 #[(iv p1.Unit), (.slice Ap1_0 (p1.Tools).length cp1_0), (.slice Ap1_1 (p1.Steps).length cp1_1)] 26)] ?_ ?_
  ·cases hg104 : ((p0.Unit != p1.Unit) || ((p0.Tools.length : Int) != (p1.Tools.length : Int)))
   ·rw [hg104] at hg103
    rw [if_neg (by decide)] at hg103
    have H := hg103
    refine Tr.w1 (wg rfl rfl rfl) rfl (run_fieldAddr fo_26_2) rfl ?_
    refine Tr.val (wg rfl rfl rfl) rfl (fun _ _ h1 h2 => run_load1 ag_24 (h1.ev rfl) (rdb h2 (vs := [(iv p0.Unit), (.slice Ap0_0 (p0.Tools).length cp0_0), (.slice Ap0_1 (p0.Steps).length cp0_1)]) (k := 1) rfl 2) rfl) ?_
    refine Tr.w1 (wg rfl rfl rfl) rfl (run_fieldAddr fo_26_2) rfl ?_
    refine Tr.val (wg rfl rfl rfl) rfl (fun _ _ h1 h2 => run_load1 ag_24 (h1.ev rfl) (rdb h2 (vs := [(iv p1.Unit), (.slice Ap1_0 (p1.Tools).length cp1_0), (.slice Ap1_1 (p1.Steps).length cp1_1)]) (k := 2) rfl 2) rfl) ?_
    obtain ⟨y104, hy104, H⟩ := bnd H
    refine Tr.call0 (r := (.bool y104)) (wg rfl rfl rfl) rfl Tryz.call21 (evl_cons rfl (evl_cons rfl evl_nil)) (fun W hW => F_etchhouseref3_sameSteps_ok N p0.Steps Ap0_1 cp0_1 (hp0_1.ext hW.extAll) p1.Steps Ap1_1 cp1_1 (hp1_1.ext hW.extAll) y104 hy104 (HF.start _)) ?_
    refine Tr.w1 (wg rfl rfl rfl) rfl run_not rfl ?_
    refine Tr.v2 rfl run_pickF rfl rfl ?_
    obtain rfl := Option.some.inj H
    exact Tr.nil (Tr.fin0 (.r rfl) (.r rfl))
   ·rw [hg104] at hg103
    rw [if_pos rfl] at hg103
    have H := hg103
    obtain rfl := Option.some.inj H
    refine Tr.ps ?_
    refine Tr.ps ?_
    refine Tr.ps ?_
    refine Tr.ps ?_
    refine Tr.ps ?_
    refine Tr.ps ?_
    refine Tr.v2 rfl run_pickT rfl rfl ?_
    exact Tr.nil (Tr.fin0 (.r rfl) (.r rfl))
  ·show Tr _ _ (LF [(2, (.pointer (some ⟨b100, 0, none⟩))), (3, (.pointer (some ⟨b101, 0, none⟩))), (27, (.bool g103))]) (LE [(1, bx b100 #[(iv p0.Unit), (.slice Ap0_0 (p0.Tools).length cp0_0), (.slice Ap0_1 (p0.Steps).length cp0_1)] 26), (2, bx b101 #[(iv p1.Unit), (.slice Ap1_0 (p1.Tools).length cp1_0), (.slice Ap1_1 (p1.Steps).length cp1_1)] 26)]) _
   refine Tr.nil (Tr.normThen ?_)
   refine Tr.cond rfl H (fun H => ?_) (fun H => ?_)
   ·refine Tr.sr ?_
    refine Tr.asg rfl rfl ?_
    refine Tr.nil (Tr.normThen ?_)
    refine Tr.ret (Tr.retThen ?_)
    obtain rfl := Option.some.inj H
    exact Tr.out (m := [(.bool false)]) [] (res_tmp rfl res_nil) (fun W hW => ⟨rfl, hW.low leB⟩)
   ·refine Tr.skip (Tr.normThen ?_)
    refine Tr.seq ?_
    refine Tr.sr ?_
    refine Tr.asg rfl rfl ?_
    refine Tr.nil (Tr.normThen ?_)
    refine Tr.block ?_
    refine Tr.loop (σ := Unit) (fun m w _ => F_etchhouseref3_SamePlot_L1 p0 m = some r) (fun _ => [(2, (.pointer (some ⟨b100, 0, none⟩))), (3, (.pointer (some ⟨b101, 0, none⟩))), (5, (iv 0))]) (fun _ => [(1, bx b100 #[(iv p0.Unit), (.slice Ap0_0 (p0.Tools).length cp0_0), (.slice Ap0_1 (p0.Steps).length cp0_1)] 26), (2, bx b101 #[(iv p1.Unit), (.slice Ap1_0 (p1.Tools).length cp1_0), (.slice Ap1_1 (p1.Steps).length cp1_1)] 26)]) N () H (.r rfl) (.r rfl) (fun _ _ h => noSome (h)) ?_
    intro w leL1 mL1 _ hs
    have H := hs
    replace H : F_etchhouseref3_SamePlot_L1 p0 (mL1 + 1) = some r := H
    replace hp0_0 := hp0_0.leR leL1
    replace hp0_1 := hp0_1.leR leL1
    replace hp1_0 := hp1_0.leR leL1
    replace hp1_1 := hp1_1.leR leL1
    replace leB := leB.trans leL1
    rw [F_etchhouseref3_SamePlot_L1.eq_2] at H
    show Tr _ _ (LF [(2, (.pointer (some ⟨b100, 0, none⟩))), (3, (.pointer (some ⟨b101, 0, none⟩))), (5, (iv 0))]) (LE [(1, bx b100 #[(iv p0.Unit), (.slice Ap0_0 (p0.Tools).length cp0_0), (.slice Ap0_1 (p0.Steps).length cp0_1)] 26), (2, bx b101 #[(iv p1.Unit), (.slice Ap1_0 (p1.Tools).length cp1_0), (.slice Ap1_1 (p1.Steps).length cp1_1)] 26)]) _
    refine Tr.seq ?_
    refine Tr.sr ?_
    refine Tr.mv rfl rfl ?_
    refine Tr.v1 rfl (run_fieldAddr fo_26_1) rfl ?_
    refine Tr.va rfl (fun _ _ h1 h2 => run_load1 ag_23 (h1.ev rfl) (rdb h2 (vs := [(iv p0.Unit), (.slice Ap0_0 (p0.Tools).length cp0_0), (.slice Ap0_1 (p0.Steps).length cp0_1)]) (k := 1) rfl 1) rfl) ?_
    refine Tr.v1 rfl (run_len un_23) rfl ?_
    refine Tr.v2 rfl run_lss rfl rfl ?_
    refine Tr.nil (Tr.normThen ?_)
    refine Tr.cond rfl H (fun H => ?_) (fun H => ?_)
    ·refine Tr.skip (Tr.normThen ?_)
     refine Tr.seq ?_
     refine Tr.block ?_
     refine Tr.seq ?_
     cases H
    ·refine Tr.exit (Tr.exitThen (Tr.exitThen (Tr.exitBlock (Tr.normThen ?_))))
     refine Tr.sr ?_
     refine Tr.asg rfl rfl ?_
     refine Tr.nil (Tr.normThen ?_)
     refine Tr.ret ?_
     obtain rfl := Option.some.inj H
     exact Tr.out (m := [(.bool true)]) [] (res_tmp rfl res_nil) (fun W hW => ⟨rfl, hW.low leB⟩)

theorem F_plot_within_ok {w : Bs} (p0 : Int) (p1 : Int) (p2 : Int) (r : Bool) (H : F_plot_within p0 p1 p2 = some r) (hE : HF w w.W E0) : Calls Tryz.prog 47 [(iv p0), (iv p1), (iv p2)].toArray w.W fun e W' => e = .returned (.bool r) ∧ HF w W' E0 := by
 unfold F_plot_within at H
 have leB := Bs.Le.refl w
 refine Tr.enter (n := 15) Tryz.func47 rfl rfl rfl hE ?_
 refine Tr.sr ?_
 refine Tr.asg rfl rfl ?_
 refine Tr.nil (Tr.normThen ?_)
 refine Tr.sr ?_
 refine Tr.mv rfl rfl ?_
 refine Tr.mv rfl rfl ?_
 refine Tr.v2 rfl run_geq rfl rfl ?_
 refine Tr.mv rfl rfl ?_
 refine Tr.mid0 4 [(14, (.bool ((decide (p1 ≤ p0)) && (decide (p0 ≤ p2)))))] [] ?_ ?_
 ·cases hg99 : (decide (p1 ≤ p0))
  ·refine Tr.ps ?_
   refine Tr.ps ?_
   refine Tr.ps ?_
   refine Tr.v2 rfl run_pickF rfl rfl ?_
   exact Tr.nil (Tr.fin0 (.r rfl) .nil)
  ·refine Tr.w1 (wg rfl rfl rfl) rfl run_move rfl ?_
   refine Tr.w1 (wg rfl rfl rfl) rfl run_move rfl ?_
   refine Tr.w2 (wg rfl rfl rfl) rfl run_leq rfl rfl ?_
   refine Tr.v2 rfl run_pickT rfl rfl ?_
   exact Tr.nil (Tr.fin0 (.r rfl) .nil)
 ·show Tr _ _ (LF [(14, (.bool ((decide (p1 ≤ p0)) && (decide (p0 ≤ p2)))))]) (LE []) _
  refine Tr.asg rfl rfl ?_
  refine Tr.nil (Tr.normThen ?_)
  refine Tr.ret ?_
  obtain rfl := Option.some.inj H
  exact Tr.out (m := [(.bool ((decide (p1 ≤ p0)) && (decide (p0 ≤ p2))))]) [] (res_tmp rfl res_nil) (fun W hW => ⟨rfl, hW.low leB⟩)

theorem F_plot_count_b_ok (N : Nat) (rec : (List TPlotStep) → Option Int) (hrec : ∀ {w : Bs} (p0 : (List TPlotStep)) (Ap0_0 : Option Addr) (cp0_0 : Nat) (hp0_0 : Sl w.R w.W fl_TPlotStep Ap0_0 cp0_0 p0) (r : Int) (H : rec p0 = some r) (hE : HF w w.W E0), Calls Tryz.prog 49 [(.slice Ap0_0 (p0).length cp0_0)].toArray w.W fun e W' => e = .returned (iv r) ∧ HF w W' E0) {w : Bs} (p0 : (List TPlotStep)) (Ap0_0 : Option Addr) (cp0_0 : Nat) (hp0_0 : Sl w.R w.W fl_TPlotStep Ap0_0 cp0_0 p0) (r : Int) (H : F_plot_count_b N rec p0 = some r) (hE : HF w w.W E0) : Calls Tryz.prog 49 [(.slice Ap0_0 (p0).length cp0_0)].toArray w.W fun e W' => e = .returned (iv r) ∧ HF w W' E0 := by
 unfold F_plot_count_b at H
 have leB := Bs.Le.refl w
 refine Tr.enter (n := 30) Tryz.func49 rfl rfl rfl hE ?_
 refine Tr.sr ?_
 refine Tr.asg rfl rfl ?_
 refine Tr.nil (Tr.normThen ?_)
 refine Tr.sr ?_
 refine Tr.asg rfl rfl ?_
 refine Tr.nil (Tr.normThen ?_)
 refine Tr.seq ?_
 refine Tr.sr ?_
 refine Tr.mv rfl rfl ?_
 refine Tr.v1 rfl (run_len un_24) rfl ?_
 refine Tr.mv rfl rfl ?_
 refine Tr.nil (Tr.normThen ?_)
 refine Tr.block ?_
 refine Tr.loop (σ := (List TPlotStep) × Nat) (fun m w s => m = s.1.length + 1 ∧ s.1 = List.drop s.2 p0 ∧ s.2 ≤ p0.length ∧ F_plot_count_L1 s.1 s.2 = some r) (fun s => [(3, (iv 0)), (6, (.slice Ap0_0 (p0).length cp0_0)), (7, (iv (p0.length : Int))), (8, (iv (s.2 : Int)))]) (fun s => []) (p0.length + 1) (p0, 0) ⟨rfl, rfl, Nat.zero_le _, H⟩ (.r rfl) .nil (fun _ _ h => absurd h.1 (by simp)) ?_
 intro w leL1 m s hs
 obtain ⟨restL1, iL1⟩ := s
 obtain ⟨hmL1, hdL1, hiL1, H⟩ := hs
 replace hdL1 : restL1 = List.drop iL1 p0 := hdL1
 replace H : F_plot_count_L1 restL1 iL1 = some r := H
 replace hmL1 : m + 1 = restL1.length + 1 := hmL1
 replace hp0_0 := hp0_0.leR leL1
 replace leB := leB.trans leL1
 obtain rfl : m = restL1.length := by omega
 clear hmL1
 show Tr _ _ (LF [(3, (iv 0)), (6, (.slice Ap0_0 (p0).length cp0_0)), (7, (iv (p0.length : Int))), (8, (iv (iL1 : Int)))]) (LE []) _
 cases restL1 with
 | nil =>
  rw [F_plot_count_L1.eq_1] at H
  refine Tr.sr ?_
  refine Tr.v2 rfl run_lss rfl rfl ?_
  refine Tr.nil (Tr.normThen ?_)
  refine Tr.seq ?_
  refine Tr.condF rfl (range_nil hdL1) ?_
  refine Tr.exit (Tr.exitThen (Tr.exitThen (Tr.exitBlock (Tr.normThen ?_))))
  refine Tr.sr ?_
  refine Tr.mv rfl rfl ?_
  refine Tr.asg rfl rfl ?_
  refine Tr.nil (Tr.normThen ?_)
  refine Tr.ret ?_
  obtain rfl := Option.some.inj H
  exact Tr.out (m := [(iv 0)]) [] (res_tmp rfl res_nil) (fun W hW => ⟨rfl, hW.low leB⟩)
 | cons xL1 restL1 =>
  rw [F_plot_count_L1.eq_2] at H
  refine Tr.sr ?_
  refine Tr.v2 rfl run_lss rfl rfl ?_
  refine Tr.nil (Tr.normThen ?_)
  refine Tr.seq ?_
  refine Tr.condT rfl (range_on hdL1) ?_
  refine Tr.skip (Tr.normThen ?_)
  refine Tr.seq ?_
  refine Tr.block ?_
  refine Tr.seq ?_
  cases H
theorem F_plot_count_ok : ∀ (N : Nat) {w : Bs} (p0 : (List TPlotStep)) (Ap0_0 : Option Addr) (cp0_0 : Nat) (hp0_0 : Sl w.R w.W fl_TPlotStep Ap0_0 cp0_0 p0) (r : Int) (H : F_plot_count N p0 = some r) (hE : HF w w.W E0), Calls Tryz.prog 49 [(.slice Ap0_0 (p0).length cp0_0)].toArray w.W fun e W' => e = .returned (iv r) ∧ HF w W' E0
 | 0 => by intros; rename_i H _; cases H
 | N + 1 => F_plot_count_b_ok N (F_plot_count N) (F_plot_count_ok N)

theorem F_plot_checkSteps_b_ok (N : Nat) (rec : TPlot → (List TPlotStep) → Int → Option Int) (hrec : ∀ {w : Bs} (p0 : TPlot) (Ap0_0 : Option Addr) (cp0_0 : Nat) (hp0_0 : Sl w.R w.W fl_TPlotTool Ap0_0 cp0_0 p0.Tools) (Ap0_1 : Option Addr) (cp0_1 : Nat) (hp0_1 : Sl w.R w.W fl_TPlotStep Ap0_1 cp0_1 p0.Steps) (p1 : (List TPlotStep)) (Ap1_0 : Option Addr) (cp1_0 : Nat) (hp1_0 : Sl w.R w.W fl_TPlotStep Ap1_0 cp1_0 p1) (p2 : Int) (r : Int) (H : rec p0 p1 p2 = some r) (hE : HF w w.W E0), Calls Tryz.prog 50 [(.agg #[(iv p0.Unit), (.slice Ap0_0 (p0.Tools).length cp0_0), (.slice Ap0_1 (p0.Steps).length cp0_1)]), (.slice Ap1_0 (p1).length cp1_0), (iv p2)].toArray w.W fun e W' => e = .returned (iv r) ∧ HF w W' E0) {w : Bs} (p0 : TPlot) (Ap0_0 : Option Addr) (cp0_0 : Nat) (hp0_0 : Sl w.R w.W fl_TPlotTool Ap0_0 cp0_0 p0.Tools) (Ap0_1 : Option Addr) (cp0_1 : Nat) (hp0_1 : Sl w.R w.W fl_TPlotStep Ap0_1 cp0_1 p0.Steps) (p1 : (List TPlotStep)) (Ap1_0 : Option Addr) (cp1_0 : Nat) (hp1_0 : Sl w.R w.W fl_TPlotStep Ap1_0 cp1_0 p1) (p2 : Int) (r : Int) (H : F_plot_checkSteps_b N rec p0 p1 p2 = some r) (hE : HF w w.W E0) : Calls Tryz.prog 50 [(.agg #[(iv p0.Unit), (.slice Ap0_0 (p0.Tools).length cp0_0), (.slice Ap0_1 (p0.Steps).length cp0_1)]), (.slice Ap1_0 (p1).length cp1_0), (iv p2)].toArray w.W fun e W' => e = .returned (iv r) ∧ HF w W' E0 := by
 unfold F_plot_checkSteps_b at H
 have leB := Bs.Le.refl w
 refine Tr.enter (n := 34) Tryz.func50 rfl rfl rfl hE ?_
 refine Tr.sr ?_
 refine Tr.box 1 (cs := [(iv p0.Unit), (.slice Ap0_0 (p0.Tools).length cp0_0), (.slice Ap0_1 (p0.Steps).length cp0_1)]) (wn rfl) rfl rfl rfl fun b100 => ?_
 refine Tr.asg rfl rfl ?_
 refine Tr.nil (Tr.normThen ?_)
 refine Tr.seq ?_
 refine Tr.sr ?_
 refine Tr.mv rfl rfl ?_
 refine Tr.v1 rfl (run_len un_24) rfl ?_
 refine Tr.mv rfl rfl ?_
 refine Tr.nil (Tr.normThen ?_)
 refine Tr.block ?_
 refine Tr.loop (σ := (List TPlotStep) × Nat) (fun m w s => m = s.1.length + 1 ∧ s.1 = List.drop s.2 p1 ∧ s.2 ≤ p1.length ∧ F_plot_checkSteps_L1 s.1 s.2 = some r) (fun s => [(2, (iv p2)), (3, (.pointer (some ⟨b100, 0, none⟩))), (11, (.slice Ap1_0 (p1).length cp1_0)), (12, (iv (p1.length : Int))), (13, (iv (s.2 : Int)))]) (fun s => [(1, bx b100 #[(iv p0.Unit), (.slice Ap0_0 (p0.Tools).length cp0_0), (.slice Ap0_1 (p0.Steps).length cp0_1)] 26)]) (p1.length + 1) (p1, 0) ⟨rfl, rfl, Nat.zero_le _, H⟩ (.r rfl) (.r rfl) (fun _ _ h => absurd h.1 (by simp)) ?_
 intro w leL1 m s hs
 obtain ⟨restL1, iL1⟩ := s
 obtain ⟨hmL1, hdL1, hiL1, H⟩ := hs
 replace hdL1 : restL1 = List.drop iL1 p1 := hdL1
 replace H : F_plot_checkSteps_L1 restL1 iL1 = some r := H
 replace hmL1 : m + 1 = restL1.length + 1 := hmL1
 replace hp0_0 := hp0_0.leR leL1
 replace hp0_1 := hp0_1.leR leL1
 replace hp1_0 := hp1_0.leR leL1
 replace leB := leB.trans leL1
 obtain rfl : m = restL1.length := by omega
 clear hmL1
 show Tr _ _ (LF [(2, (iv p2)), (3, (.pointer (some ⟨b100, 0, none⟩))), (11, (.slice Ap1_0 (p1).length cp1_0)), (12, (iv (p1.length : Int))), (13, (iv (iL1 : Int)))]) (LE [(1, bx b100 #[(iv p0.Unit), (.slice Ap0_0 (p0.Tools).length cp0_0), (.slice Ap0_1 (p0.Steps).length cp0_1)] 26)]) _
 cases restL1 with
 | nil =>
  rw [F_plot_checkSteps_L1.eq_1] at H
  refine Tr.sr ?_
  refine Tr.v2 rfl run_lss rfl rfl ?_
  refine Tr.nil (Tr.normThen ?_)
  refine Tr.seq ?_
  refine Tr.condF rfl (range_nil hdL1) ?_
  refine Tr.exit (Tr.exitThen (Tr.exitThen (Tr.exitBlock (Tr.normThen ?_))))
  refine Tr.sr ?_
  refine Tr.asg rfl rfl ?_
  refine Tr.nil (Tr.normThen ?_)
  refine Tr.ret ?_
  obtain rfl := Option.some.inj H
  exact Tr.out (m := [(iv 0)]) [] (res_tmp rfl res_nil) (fun W hW => ⟨rfl, hW.low leB⟩)
 | cons xL1 restL1 =>
  rw [F_plot_checkSteps_L1.eq_2] at H
  refine Tr.sr ?_
  refine Tr.v2 rfl run_lss rfl rfl ?_
  refine Tr.nil (Tr.normThen ?_)
  refine Tr.seq ?_
  refine Tr.condT rfl (range_on hdL1) ?_
  refine Tr.skip (Tr.normThen ?_)
  refine Tr.seq ?_
  refine Tr.block ?_
  refine Tr.seq ?_
  cases H
theorem F_plot_checkSteps_ok : ∀ (N : Nat) {w : Bs} (p0 : TPlot) (Ap0_0 : Option Addr) (cp0_0 : Nat) (hp0_0 : Sl w.R w.W fl_TPlotTool Ap0_0 cp0_0 p0.Tools) (Ap0_1 : Option Addr) (cp0_1 : Nat) (hp0_1 : Sl w.R w.W fl_TPlotStep Ap0_1 cp0_1 p0.Steps) (p1 : (List TPlotStep)) (Ap1_0 : Option Addr) (cp1_0 : Nat) (hp1_0 : Sl w.R w.W fl_TPlotStep Ap1_0 cp1_0 p1) (p2 : Int) (r : Int) (H : F_plot_checkSteps N p0 p1 p2 = some r) (hE : HF w w.W E0), Calls Tryz.prog 50 [(.agg #[(iv p0.Unit), (.slice Ap0_0 (p0.Tools).length cp0_0), (.slice Ap0_1 (p0.Steps).length cp0_1)]), (.slice Ap1_0 (p1).length cp1_0), (iv p2)].toArray w.W fun e W' => e = .returned (iv r) ∧ HF w W' E0
 | 0 => by intros; rename_i H _; cases H
 | N + 1 => F_plot_checkSteps_b_ok N (F_plot_checkSteps N) (F_plot_checkSteps_ok N)

theorem F_plot_CheckPlot_ok (N : Nat) {w : Bs} (p0 : TPlot) (Ap0_0 : Option Addr) (cp0_0 : Nat) (hp0_0 : Sl w.R w.W fl_TPlotTool Ap0_0 cp0_0 p0.Tools) (Ap0_1 : Option Addr) (cp0_1 : Nat) (hp0_1 : Sl w.R w.W fl_TPlotStep Ap0_1 cp0_1 p0.Steps) (r : Int) (H : F_plot_CheckPlot N p0 = some r) (hE : HF w w.W E0) : Calls Tryz.prog 26 [(.agg #[(iv p0.Unit), (.slice Ap0_0 (p0.Tools).length cp0_0), (.slice Ap0_1 (p0.Steps).length cp0_1)])].toArray w.W fun e W' => e = .returned (iv r) ∧ HF w W' E0 := by
 unfold F_plot_CheckPlot at H
 have leB := Bs.Le.refl w
 refine Tr.enter (n := 52) Tryz.func26 rfl rfl rfl hE ?_
 refine Tr.sr ?_
 refine Tr.box 1 (cs := [(iv p0.Unit), (.slice Ap0_0 (p0.Tools).length cp0_0), (.slice Ap0_1 (p0.Steps).length cp0_1)]) (wn rfl) rfl rfl rfl fun b100 => ?_
 refine Tr.asg rfl rfl ?_
 refine Tr.nil (Tr.normThen ?_)
 refine Tr.seq ?_
 refine Tr.sr ?_
 refine Tr.v1 rfl (run_fieldAddr fo_26_0) rfl ?_
 refine Tr.va rfl (fun _ _ h1 h2 => run_load1 ag_3 (h1.ev rfl) (rdb h2 (vs := [(iv p0.Unit), (.slice Ap0_0 (p0.Tools).length cp0_0), (.slice Ap0_1 (p0.Steps).length cp0_1)]) (k := 1) rfl 0) rfl) ?_
 obtain ⟨y101, hy101, H⟩ := bnd H
 refine Tr.call0 (r := (.bool y101)) (wn rfl) rfl Tryz.call47 (evl_cons rfl (evl_cons rfl (evl_cons rfl evl_nil))) (fun W hW => F_plot_within_ok p0.Unit 1 1000 y101 hy101 (HF.start _)) ?_
 refine Tr.v1 rfl run_not rfl ?_
 refine Tr.nil (Tr.normThen ?_)
 refine Tr.cond rfl H (fun H => ?_) (fun H => ?_)
 ·refine Tr.sr ?_
  refine Tr.asg rfl rfl ?_
  refine Tr.nil (Tr.normThen ?_)
  refine Tr.ret (Tr.retThen ?_)
  obtain rfl := Option.some.inj H
  exact Tr.out (m := [(iv 1)]) [] (res_tmp rfl res_nil) (fun W hW => ⟨rfl, hW.low leB⟩)
 ·refine Tr.skip (Tr.normThen ?_)
  refine Tr.seq ?_
  refine Tr.sr ?_
  refine Tr.v1 rfl (run_fieldAddr fo_26_1) rfl ?_
  refine Tr.va rfl (fun _ _ h1 h2 => run_load1 ag_23 (h1.ev rfl) (rdb h2 (vs := [(iv p0.Unit), (.slice Ap0_0 (p0.Tools).length cp0_0), (.slice Ap0_1 (p0.Steps).length cp0_1)]) (k := 1) rfl 1) rfl) ?_
  refine Tr.v1 rfl (run_len un_23) rfl ?_
  refine Tr.v2 rfl run_gtr rfl rfl ?_
  refine Tr.nil (Tr.normThen ?_)
  refine Tr.cond rfl H (fun H => ?_) (fun H => ?_)
  ·refine Tr.sr ?_
   refine Tr.asg rfl rfl ?_
   refine Tr.nil (Tr.normThen ?_)
   refine Tr.ret (Tr.retThen ?_)
   obtain rfl := Option.some.inj H
   exact Tr.out (m := [(iv 2)]) [] (res_tmp rfl res_nil) (fun W hW => ⟨rfl, hW.low leB⟩)
  ·refine Tr.skip (Tr.normThen ?_)
   refine Tr.seq ?_
   refine Tr.sr ?_
   refine Tr.v1 rfl (run_fieldAddr fo_26_1) rfl ?_
   refine Tr.va rfl (fun _ _ h1 h2 => run_load1 ag_23 (h1.ev rfl) (rdb h2 (vs := [(iv p0.Unit), (.slice Ap0_0 (p0.Tools).length cp0_0), (.slice Ap0_1 (p0.Steps).length cp0_1)]) (k := 1) rfl 1) rfl) ?_
   refine Tr.v1 rfl (run_len un_23) rfl ?_
   refine Tr.mv rfl rfl ?_
   refine Tr.nil (Tr.normThen ?_)
   refine Tr.block ?_
   refine Tr.loop (σ := (List TPlotTool) × Nat) (fun m w s => m = s.1.length + 1 ∧ s.1 = List.drop s.2 p0.Tools ∧ s.2 ≤ p0.Tools.length ∧ F_plot_CheckPlot_L1 N p0 s.1 s.2 = some r) (fun s => [(1, (.pointer (some ⟨b100, 0, none⟩))), (15, (.slice Ap0_0 (p0.Tools).length cp0_0)), (16, (iv (p0.Tools.length : Int))), (17, (iv (s.2 : Int)))]) (fun s => [(1, bx b100 #[(iv p0.Unit), (.slice Ap0_0 (p0.Tools).length cp0_0), (.slice Ap0_1 (p0.Steps).length cp0_1)] 26)]) (p0.Tools.length + 1) (p0.Tools, 0) ⟨rfl, rfl, Nat.zero_le _, H⟩ (.r rfl) (.r rfl) (fun _ _ h => absurd h.1 (by simp)) ?_
   intro w leL1 m s hs
   obtain ⟨restL1, iL1⟩ := s
   obtain ⟨hmL1, hdL1, hiL1, H⟩ := hs
   replace hdL1 : restL1 = List.drop iL1 p0.Tools := hdL1
   replace H : F_plot_CheckPlot_L1 N p0 restL1 iL1 = some r := H
   replace hmL1 : m + 1 = restL1.length + 1 := hmL1
   replace hp0_0 := hp0_0.leR leL1
   replace hp0_1 := hp0_1.leR leL1
   replace leB := leB.trans leL1
   obtain rfl : m = restL1.length := by omega
   clear hmL1
   show Tr _ _ (LF [(1, (.pointer (some ⟨b100, 0, none⟩))), (15, (.slice Ap0_0 (p0.Tools).length cp0_0)), (16, (iv (p0.Tools.length : Int))), (17, (iv (iL1 : Int)))]) (LE [(1, bx b100 #[(iv p0.Unit), (.slice Ap0_0 (p0.Tools).length cp0_0), (.slice Ap0_1 (p0.Steps).length cp0_1)] 26)]) _
   cases restL1 with
   | nil =>
    rw [F_plot_CheckPlot_L1.eq_1] at H
    refine Tr.sr ?_
    refine Tr.v2 rfl run_lss rfl rfl ?_
    refine Tr.nil (Tr.normThen ?_)
    refine Tr.seq ?_
    refine Tr.condF rfl (range_nil hdL1) ?_
    refine Tr.exit (Tr.exitThen (Tr.exitThen (Tr.exitBlock (Tr.normThen ?_))))
    refine Tr.seq ?_
    refine Tr.sr ?_
    refine Tr.v1 rfl (run_fieldAddr fo_26_2) rfl ?_
    refine Tr.va rfl (fun _ _ h1 h2 => run_load1 ag_24 (h1.ev rfl) (rdb h2 (vs := [(iv p0.Unit), (.slice Ap0_0 (p0.Tools).length cp0_0), (.slice Ap0_1 (p0.Steps).length cp0_1)]) (k := 1) rfl 2) rfl) ?_
    obtain ⟨y102, hy102, H⟩ := bnd H
    refine Tr.call0 (r := (iv y102)) (wn rfl) rfl Tryz.call49 (evl_cons rfl evl_nil) (fun W hW => F_plot_count_ok N p0.Steps Ap0_1 cp0_1 (hp0_1.ext hW.extAll) y102 hy102 (HF.start _)) ?_
    refine Tr.v2 rfl run_gtr rfl rfl ?_
    refine Tr.nil (Tr.normThen ?_)
    refine Tr.cond rfl H (fun H => ?_) (fun H => ?_)
    ·refine Tr.sr ?_
     refine Tr.asg rfl rfl ?_
     refine Tr.nil (Tr.normThen ?_)
     refine Tr.ret (Tr.retThen ?_)
     obtain rfl := Option.some.inj H
     exact Tr.out (m := [(iv 2)]) [] (res_tmp rfl res_nil) (fun W hW => ⟨rfl, hW.low leB⟩)
    ·refine Tr.skip (Tr.normThen ?_)
     refine Tr.sr ?_
     refine Tr.va rfl (fun _ _ h1 h2 => run_loadN (cs := [(iv p0.Unit), (.slice Ap0_0 (p0.Tools).length cp0_0), (.slice Ap0_1 (p0.Steps).length cp0_1)]) ag_26 sz_26 (h1.ev rfl) (CellsAt.take (rdb h2 (vs := [(iv p0.Unit), (.slice Ap0_0 (p0.Tools).length cp0_0), (.slice Ap0_1 (p0.Steps).length cp0_1)]) (k := 1) rfl 0) 3) rfl) ?_
     refine Tr.v1 rfl (run_fieldAddr fo_26_2) rfl ?_
     refine Tr.va rfl (fun _ _ h1 h2 => run_load1 ag_24 (h1.ev rfl) (rdb h2 (vs := [(iv p0.Unit), (.slice Ap0_0 (p0.Tools).length cp0_0), (.slice Ap0_1 (p0.Steps).length cp0_1)]) (k := 1) rfl 2) rfl) ?_
     obtain ⟨y103, hy103, H⟩ := bnd H
     refine Tr.call0 (r := (iv y103)) (wn rfl) rfl Tryz.call50 (evl_cons rfl (evl_cons rfl (evl_cons rfl evl_nil))) (fun W hW => F_plot_checkSteps_ok N p0 Ap0_0 cp0_0 (hp0_0.ext hW.extAll) Ap0_1 cp0_1 (hp0_1.ext hW.extAll) p0.Steps Ap0_1 cp0_1 (hp0_1.ext hW.extAll) 0 y103 hy103 (HF.start _)) ?_
     refine Tr.asg rfl rfl ?_
     refine Tr.nil (Tr.normThen ?_)
     refine Tr.ret ?_
     obtain rfl := Option.some.inj H
     exact Tr.out (m := [(iv y103)]) [] (res_tmp rfl res_nil) (fun W hW => ⟨rfl, hW.low leB⟩)
   | cons xL1 restL1 =>
    rw [F_plot_CheckPlot_L1.eq_2] at H
    refine Tr.sr ?_
    refine Tr.v2 rfl run_lss rfl rfl ?_
    refine Tr.nil (Tr.normThen ?_)
    refine Tr.seq ?_
    refine Tr.condT rfl (range_on hdL1) ?_
    refine Tr.skip (Tr.normThen ?_)
    refine Tr.seq ?_
    refine Tr.block ?_
    refine Tr.seq ?_
    cases H

theorem F_strconv_Itoa_ok {w : Bs} (p0 : Int) (r : ByteArray) (H : itoaS p0 = some r) (hE : HF w w.W E0) : Calls Tryz.prog 41 [(iv p0)].toArray w.W fun e W' => e = .returned (sv r) ∧ HF w W' E0 :=
 itoaS_rule (ρ := Tryz.itoa41_ren) Tryz.itoa41 H hE

end Go.Proofs.YtcjeebkoafonpaaGreatDoor
namespace Go.Proofs
open Go.Shelf
def Tryz.bld40_ren : Go.Shelf.Ren := ⟨fun | 166 => 40 | 240 => 91 | 276 => 130 | n => n, fun | 5 => 5 | 37 => 78 | 70 => 77 | 72 => 80 | 75 => 82 | 80 => 89 | 164 => 180 | n => n, fun n => n⟩
theorem Tryz.bld40 : Go.Proofs.Lays.n166 Tryz.prog Tryz.bld40_ren := {
 mixed := by kernel_rfl
 f166 := Tryz.func40.trans (congrArg some (by kernel_rfl))
 f240 := Tryz.func91.trans (congrArg some (by kernel_rfl))
 f276 := Tryz.func130.trans (congrArg some (by kernel_rfl))
 t0 := Tryz.underlying0
 a0 := Tryz.isAgg0
 z0 := Tryz.sizeOf0
 v0 := Tryz.zeroValue0
 t3 := Tryz.underlying3
 a3 := Tryz.isAgg3
 z3 := Tryz.sizeOf3
 v3 := Tryz.zeroValue3
 t4 := Tryz.underlying4
 a4 := Tryz.isAgg4
 z4 := Tryz.sizeOf4
 v4 := Tryz.zeroValue4
 t9 := Tryz.underlying9
 a9 := Tryz.isAgg9
 z9 := Tryz.sizeOf9
 v9 := Tryz.zeroValue9
 t20 := Tryz.underlying20
 a20 := Tryz.isAgg20
 z20 := Tryz.sizeOf20
 v20 := Tryz.zeroValue20
 t37 := Tryz.underlying78
 a37 := Tryz.isAgg78
 z37 := Tryz.sizeOf78
 v37 := Tryz.zeroValue78
 t70 := Tryz.underlying77
 a70 := Tryz.isAgg77
 z70 := Tryz.sizeOf77
 v70 := Tryz.zeroValue77
 t72 := Tryz.underlying80
 a72 := Tryz.isAgg80
 z72 := Tryz.sizeOf80
 v72 := Tryz.zeroValue80
 t75 := Tryz.underlying82
 a75 := Tryz.isAgg82
 z75 := Tryz.sizeOf82
 v75 := Tryz.zeroValue82
 t164 := Tryz.underlying180
 a164 := Tryz.isAgg180
 z164 := Tryz.sizeOf180
 v164 := Tryz.zeroValue180
}
end Go.Proofs
namespace Go.Proofs.YtcjeebkoafonpaaGreatDoor
open Go.RowKit
theorem bX40 : Builder.Extra Tryz.prog Tryz.bld40_ren where
 sizeBuilder := by kernel_rfl
 liesBuilder := by kernel_rfl
 t5 := Tryz.underlying5
 a5 := Tryz.isAgg5
 z5 := Tryz.sizeOf5
 v5 := Tryz.zeroValue5
 infoByte := by kernel_rfl
 cellsByte := by kernel_rfl
 sizeByte := by kernel_rfl
 neB5 := by decide
theorem F_strings_Builder_WriteString_ok {w : Bs} (p0 : ByteArray) (Ap0_0 : Option Addr) (cp0_0 : Nat) (bp0 : Nat) (p1 : ByteArray) (r : ByteArray) (H : sbW p0 p1 = some r) (hE : HF w w.W (LEn [sb 80 5 bp0 Ap0_0 cp0_0 p0])) : Calls Tryz.prog 40 [(.pointer (some ⟨bp0, 0, none⟩)), .string p1].toArray w.W fun e W' => ∃ u : (Option Addr × Nat), e = .returned (.tuple #[.int .i64 p1.size, .nilIface]) ∧ (True) ∧ HF w W' (LEn [sb 80 5 bp0 u.1 u.2 r]) :=
 sb_write (ρ := Tryz.bld40_ren) Tryz.bld40 bX40 H hE

theorem F_plot_writeSteps_b_ok (N : Nat) (rec : ByteArray → (List TPlotStep) → Option ByteArray) (hrec : ∀ {w : Bs} (p0 : ByteArray) (Ap0_0 : Option Addr) (cp0_0 : Nat) (bp0 : Nat) (p1 : (List TPlotStep)) (Ap1_0 : Option Addr) (cp1_0 : Nat) (hp1_0 : Sl w.R w.W fl_TPlotStep Ap1_0 cp1_0 p1) (r : ByteArray) (H : rec p0 p1 = some r) (hE : HF w w.W (LEn [sb 80 5 bp0 Ap0_0 cp0_0 p0])), Calls Tryz.prog 43 [(.pointer (some ⟨bp0, 0, none⟩)), (.slice Ap1_0 (p1).length cp1_0)].toArray w.W fun e W' => ∃ u : (Option Addr × Nat), e = .returned (.tuple #[]) ∧ (True) ∧ HF w W' (LEn [sb 80 5 bp0 u.1 u.2 r])) {w : Bs} (p0 : ByteArray) (Ap0_0 : Option Addr) (cp0_0 : Nat) (bp0 : Nat) (p1 : (List TPlotStep)) (Ap1_0 : Option Addr) (cp1_0 : Nat) (hp1_0 : Sl w.R w.W fl_TPlotStep Ap1_0 cp1_0 p1) (r : ByteArray) (H : F_plot_writeSteps_b N rec p0 p1 = some r) (hE : HF w w.W (LEn [sb 80 5 bp0 Ap0_0 cp0_0 p0])) : Calls Tryz.prog 43 [(.pointer (some ⟨bp0, 0, none⟩)), (.slice Ap1_0 (p1).length cp1_0)].toArray w.W fun e W' => ∃ u : (Option Addr × Nat), e = .returned (.tuple #[]) ∧ (True) ∧ HF w W' (LEn [sb 80 5 bp0 u.1 u.2 r]) := by
 unfold F_plot_writeSteps_b at H
 have leB := Bs.Le.refl w
 refine Tr.enter (n := 91) Tryz.func43 rfl rfl rfl hE ?_
 refine Tr.sr ?_
 refine Tr.mv rfl rfl ?_
 refine Tr.v1 rfl (run_len un_24) rfl ?_
 refine Tr.mv rfl rfl ?_
 refine Tr.nil (Tr.normThen ?_)
 refine Tr.block ?_
 refine Tr.loop (σ := (List TPlotStep) × Nat) (fun m w s => m = s.1.length + 1 ∧ s.1 = List.drop s.2 p1 ∧ s.2 ≤ p1.length ∧ F_plot_writeSteps_L1 p0 s.1 s.2 = some r) (fun s => [(0, (.pointer (some ⟨bp0, 0, none⟩))), (6, (.slice Ap1_0 (p1).length cp1_0)), (7, (iv (p1.length : Int))), (8, (iv (s.2 : Int)))]) (fun s => [(0, sb 80 5 bp0 Ap0_0 cp0_0 p0)]) (p1.length + 1) (p1, 0) ⟨rfl, rfl, Nat.zero_le _, H⟩ (.r rfl) (.r rfl) (fun _ _ h => absurd h.1 (by simp)) ?_
 intro w leL1 m s hs
 obtain ⟨restL1, iL1⟩ := s
 obtain ⟨hmL1, hdL1, hiL1, H⟩ := hs
 replace hdL1 : restL1 = List.drop iL1 p1 := hdL1
 replace H : F_plot_writeSteps_L1 p0 restL1 iL1 = some r := H
 replace hmL1 : m + 1 = restL1.length + 1 := hmL1
 replace hp1_0 := hp1_0.leR leL1
 replace leB := leB.trans leL1
 obtain rfl : m = restL1.length := by omega
 clear hmL1
 show Tr _ _ (LF [(0, (.pointer (some ⟨bp0, 0, none⟩))), (6, (.slice Ap1_0 (p1).length cp1_0)), (7, (iv (p1.length : Int))), (8, (iv (iL1 : Int)))]) (LE [(0, sb 80 5 bp0 Ap0_0 cp0_0 p0)]) _
 cases restL1 with
 | nil =>
  rw [F_plot_writeSteps_L1.eq_1] at H
  refine Tr.sr ?_
  refine Tr.v2 rfl run_lss rfl rfl ?_
  refine Tr.nil (Tr.normThen ?_)
  refine Tr.seq ?_
  refine Tr.condF rfl (range_nil hdL1) ?_
  refine Tr.exit (Tr.exitThen (Tr.exitThen (Tr.exitBlock (Tr.offEnd ?_))))
  obtain rfl := Option.some.inj H
  exact Tr.out (m := []) [] res_nil (fun W hW => ⟨(Ap0_0, cp0_0), rfl, trivial, HF.lowE leB (hW.pick (ks := [0]) (by decide) (pk_cons rfl pk_nil)) ⟨sb_any, trivial⟩⟩)
 | cons xL1 restL1 =>
  rw [F_plot_writeSteps_L1.eq_2] at H
  refine Tr.sr ?_
  refine Tr.v2 rfl run_lss rfl rfl ?_
  refine Tr.nil (Tr.normThen ?_)
  refine Tr.seq ?_
  refine Tr.condT rfl (range_on hdL1) ?_
  refine Tr.skip (Tr.normThen ?_)
  refine Tr.seq ?_
  refine Tr.block ?_
  refine Tr.seq ?_
  cases H
theorem F_plot_writeSteps_ok : ∀ (N : Nat) {w : Bs} (p0 : ByteArray) (Ap0_0 : Option Addr) (cp0_0 : Nat) (bp0 : Nat) (p1 : (List TPlotStep)) (Ap1_0 : Option Addr) (cp1_0 : Nat) (hp1_0 : Sl w.R w.W fl_TPlotStep Ap1_0 cp1_0 p1) (r : ByteArray) (H : F_plot_writeSteps N p0 p1 = some r) (hE : HF w w.W (LEn [sb 80 5 bp0 Ap0_0 cp0_0 p0])), Calls Tryz.prog 43 [(.pointer (some ⟨bp0, 0, none⟩)), (.slice Ap1_0 (p1).length cp1_0)].toArray w.W fun e W' => ∃ u : (Option Addr × Nat), e = .returned (.tuple #[]) ∧ (True) ∧ HF w W' (LEn [sb 80 5 bp0 u.1 u.2 r])
 | 0 => by intros; rename_i H _; cases H
 | N + 1 => F_plot_writeSteps_b_ok N (F_plot_writeSteps N) (F_plot_writeSteps_ok N)

theorem F_strings_Builder_Len_ok {w : Bs} (p0 : ByteArray) (Ap0_0 : Option Addr) (cp0_0 : Nat) (bp0 : Nat) (r : (Int × ByteArray)) (H : sbL p0 = some r) (hE : HF w w.W (LEn [sb 80 5 bp0 Ap0_0 cp0_0 p0])) : Calls Tryz.prog 44 [(.pointer (some ⟨bp0, 0, none⟩))].toArray w.W fun e W' => ∃ u : (Option Addr × Nat), e = .returned (iv r.1) ∧ (True) ∧ HF w W' (LEn [sb 80 5 bp0 u.1 u.2 r.2]) :=
 sb_len (ρ := Tryz.bld44_ren) Tryz.bld44 H hE

end Go.Proofs.YtcjeebkoafonpaaGreatDoor
namespace Go.Proofs
open Go.Shelf
def Tryz.bld45_ren : Go.Shelf.Ren := ⟨fun | 169 => 45 | n => n, fun | 5 => 5 | 37 => 78 | 70 => 77 | 72 => 80 | 127 => 146 | n => n, fun n => n⟩
theorem Tryz.bld45 : Go.Proofs.Lays.n169 Tryz.prog Tryz.bld45_ren := {
 mixed := by kernel_rfl
 f169 := Tryz.func45.trans (congrArg some (by kernel_rfl))
 t0 := Tryz.underlying0
 a0 := Tryz.isAgg0
 z0 := Tryz.sizeOf0
 v0 := Tryz.zeroValue0
 t3 := Tryz.underlying3
 a3 := Tryz.isAgg3
 z3 := Tryz.sizeOf3
 v3 := Tryz.zeroValue3
 t9 := Tryz.underlying9
 a9 := Tryz.isAgg9
 z9 := Tryz.sizeOf9
 v9 := Tryz.zeroValue9
 t37 := Tryz.underlying78
 a37 := Tryz.isAgg78
 z37 := Tryz.sizeOf78
 v37 := Tryz.zeroValue78
 t70 := Tryz.underlying77
 a70 := Tryz.isAgg77
 z70 := Tryz.sizeOf77
 v70 := Tryz.zeroValue77
 t72 := Tryz.underlying80
 a72 := Tryz.isAgg80
 z72 := Tryz.sizeOf80
 v72 := Tryz.zeroValue80
 t127 := Tryz.underlying146
 a127 := Tryz.isAgg146
 z127 := Tryz.sizeOf146
 v127 := Tryz.zeroValue146
}
end Go.Proofs
namespace Go.Proofs.YtcjeebkoafonpaaGreatDoor
open Go.RowKit
theorem bX45 : Builder.Extra Tryz.prog Tryz.bld45_ren where
 sizeBuilder := by kernel_rfl
 liesBuilder := by kernel_rfl
 t5 := Tryz.underlying5
 a5 := Tryz.isAgg5
 z5 := Tryz.sizeOf5
 v5 := Tryz.zeroValue5
 infoByte := by kernel_rfl
 cellsByte := by kernel_rfl
 sizeByte := by kernel_rfl
 neB5 := by decide
theorem F_strings_Builder_String_ok {w : Bs} (p0 : ByteArray) (Ap0_0 : Option Addr) (cp0_0 : Nat) (bp0 : Nat) (r : (ByteArray × ByteArray)) (H : sbS p0 = some r) (hE : HF w w.W (LEn [sb 80 5 bp0 Ap0_0 cp0_0 p0])) : Calls Tryz.prog 45 [(.pointer (some ⟨bp0, 0, none⟩))].toArray w.W fun e W' => ∃ u : (Option Addr × Nat), e = .returned (sv r.1) ∧ (True) ∧ HF w W' (LEn [sb 80 5 bp0 u.1 u.2 r.2]) :=
 sb_string (ρ := Tryz.bld45_ren) Tryz.bld45 bX45 H hE

theorem F_plot_Text_ok (N : Nat) {w : Bs} (p0 : TPlot) (Ap0_0 : Option Addr) (cp0_0 : Nat) (hp0_0 : Sl w.R w.W fl_TPlotTool Ap0_0 cp0_0 p0.Tools) (Ap0_1 : Option Addr) (cp0_1 : Nat) (hp0_1 : Sl w.R w.W fl_TPlotStep Ap0_1 cp0_1 p0.Steps) (r : (ByteArray × Int)) (H : F_plot_Text N p0 = some r) (hE : HF w w.W E0) : Calls Tryz.prog 23 [(.agg #[(iv p0.Unit), (.slice Ap0_0 (p0.Tools).length cp0_0), (.slice Ap0_1 (p0.Steps).length cp0_1)])].toArray w.W fun e W' => e = .returned (.tuple #[(sv r.1), (iv r.2)]) ∧ HF w W' E0 := by
 unfold F_plot_Text at H
 have leB := Bs.Le.refl w
 refine Tr.enter (n := 61) Tryz.func23 rfl rfl rfl hE ?_
 refine Tr.sr ?_
 refine Tr.box 1 (cs := [(iv p0.Unit), (.slice Ap0_0 (p0.Tools).length cp0_0), (.slice Ap0_1 (p0.Steps).length cp0_1)]) (wn rfl) rfl rfl rfl fun b100 => ?_
 refine Tr.asg rfl rfl ?_
 refine Tr.asg rfl rfl ?_
 refine Tr.nil (Tr.normThen ?_)
 refine Tr.seq ?_
 refine Tr.sr ?_
 refine Tr.va rfl (fun _ _ h1 h2 => run_loadN (cs := [(iv p0.Unit), (.slice Ap0_0 (p0.Tools).length cp0_0), (.slice Ap0_1 (p0.Steps).length cp0_1)]) ag_26 sz_26 (h1.ev rfl) (CellsAt.take (rdb h2 (vs := [(iv p0.Unit), (.slice Ap0_0 (p0.Tools).length cp0_0), (.slice Ap0_1 (p0.Steps).length cp0_1)]) (k := 1) rfl 0) 3) rfl) ?_
 obtain ⟨y101, hy101, H⟩ := bnd H
 refine Tr.call0 (r := (iv y101)) (wn rfl) rfl Tryz.call26 (evl_cons rfl evl_nil) (fun W hW => F_plot_CheckPlot_ok N p0 Ap0_0 cp0_0 (hp0_0.ext hW.extAll) Ap0_1 cp0_1 (hp0_1.ext hW.extAll) y101 hy101 (HF.start _)) ?_
 refine Tr.asg rfl rfl ?_
 refine Tr.nil (Tr.normThen ?_)
 refine Tr.sr ?_
 refine Tr.mv rfl rfl ?_
 refine Tr.v2 rfl run_neq rfl rfl ?_
 refine Tr.nil (Tr.normThen ?_)
 refine Tr.cond rfl H (fun H => ?_) (fun H => ?_)
 ·refine Tr.sr ?_
  refine Tr.mv rfl rfl ?_
  refine Tr.asg rfl rfl ?_
  refine Tr.asg rfl rfl ?_
  refine Tr.nil (Tr.normThen ?_)
  refine Tr.ret (Tr.retThen ?_)
  obtain rfl := Option.some.inj H
  exact Tr.out (m := [(sv ByteArray.empty), (iv y101)]) [] (res_tmp rfl (res_tmp rfl res_nil)) (fun W hW => ⟨rfl, hW.low leB⟩)
 ·refine Tr.skip (Tr.normThen ?_)
  refine Tr.sr ?_
  refine Tr.sbNew (e := 5) 2 (wn rfl) rfl zb_80 fun b102 => ?_
  refine Tr.nil (Tr.normThen ?_)
  refine Tr.sr ?_
  refine Tr.v1 rfl (run_fieldAddr fo_26_0) rfl ?_
  refine Tr.va rfl (fun _ _ h1 h2 => run_load1 ag_3 (h1.ev rfl) (rdb h2 (vs := [(iv p0.Unit), (.slice Ap0_0 (p0.Tools).length cp0_0), (.slice Ap0_1 (p0.Steps).length cp0_1)]) (k := 1) rfl 0) rfl) ?_
  obtain ⟨y103, hy103, H⟩ := bnd H
  refine Tr.call0 (r := (sv y103)) (wn rfl) rfl Tryz.call41 (evl_cons rfl evl_nil) (fun W hW => F_strconv_Itoa_ok p0.Unit y103 hy103 (HF.start _)) ?_
  obtain ⟨t104, ht104, H⟩ := bnd H
  refine Tr.va rfl (fun _ _ h1 h2 => run_catS (h1.ev rfl) (h1.ev rfl) ht104) ?_
  obtain ⟨t105, ht105, H⟩ := bnd H
  refine Tr.va rfl (fun _ _ h1 h2 => run_catS (h1.ev rfl) (h1.ev rfl) ht105) ?_
  obtain ⟨y106, hy106, H⟩ := bnd H
  refine Tr.callM [2] [sb 80 5 b102 none 0 ByteArray.empty] (U := (Option Addr × Nat)) (fun u => (.tuple #[(iv ((t105 : ByteArray).size : Int)), .nilIface])) (fun u => True) (fun u => [sb 80 5 b102 u.1 u.2 y106]) rfl (pk_cons rfl pk_nil) (fun _ => rfl) (wn rfl) rfl Tryz.call40 (evl_cons rfl (evl_cons rfl evl_nil)) (fun W hW hp hE => F_strings_Builder_WriteString_ok ByteArray.empty none 0 b102 t105 y106 hy106 hE) ?_
  intro u hu
  obtain ⟨Ay106_0, cy106_0⟩ := u
  have gy106_0 := hu
  have hgy106_0 : True := gy106_0 --@phi
  show Tr _ _ (uf _ 20 (.tuple #[(iv ((t105 : ByteArray).size : Int)), .nilIface])) (up _ 2 (sb 80 5 b102 Ay106_0 cy106_0 y106)) _
  refine Tr.nil (Tr.normThen ?_)
  refine Tr.seq ?_
  refine Tr.sr ?_
  refine Tr.v1 rfl (run_fieldAddr fo_26_1) rfl ?_
  refine Tr.va rfl (fun _ _ h1 h2 => run_load1 ag_23 (h1.ev rfl) (rdb h2 (vs := [(iv p0.Unit), (.slice Ap0_0 (p0.Tools).length cp0_0), (.slice Ap0_1 (p0.Steps).length cp0_1)]) (k := 1) rfl 1) rfl) ?_
  refine Tr.v1 rfl (run_len un_23) rfl ?_
  refine Tr.mv rfl rfl ?_
  refine Tr.nil (Tr.normThen ?_)
  refine Tr.block ?_
  refine Tr.loop (σ := (List TPlotTool) × Nat) (fun m w s => m = s.1.length + 1 ∧ s.1 = List.drop s.2 p0.Tools ∧ s.2 ≤ p0.Tools.length ∧ F_plot_Text_L1 N p0 y106 s.1 s.2 = some r) (fun s => [(1, (.pointer (some ⟨b100, 0, none⟩))), (5, (.pointer (some ⟨b102, 0, none⟩))), (22, (.slice Ap0_0 (p0.Tools).length cp0_0)), (23, (iv (p0.Tools.length : Int))), (24, (iv (s.2 : Int)))]) (fun s => [(1, bx b100 #[(iv p0.Unit), (.slice Ap0_0 (p0.Tools).length cp0_0), (.slice Ap0_1 (p0.Steps).length cp0_1)] 26), (2, sb 80 5 b102 Ay106_0 cy106_0 y106)]) (p0.Tools.length + 1) (p0.Tools, 0) ⟨rfl, rfl, Nat.zero_le _, H⟩ (.r rfl) (.r rfl) (fun _ _ h => absurd h.1 (by simp)) ?_
  intro w leL1 m s hs
  obtain ⟨restL1, iL1⟩ := s
  obtain ⟨hmL1, hdL1, hiL1, H⟩ := hs
  replace hdL1 : restL1 = List.drop iL1 p0.Tools := hdL1
  replace H : F_plot_Text_L1 N p0 y106 restL1 iL1 = some r := H
  replace hmL1 : m + 1 = restL1.length + 1 := hmL1
  replace hp0_0 := hp0_0.leR leL1
  replace hp0_1 := hp0_1.leR leL1
  replace leB := leB.trans leL1
  obtain rfl : m = restL1.length := by omega
  clear hmL1
  show Tr _ _ (LF [(1, (.pointer (some ⟨b100, 0, none⟩))), (5, (.pointer (some ⟨b102, 0, none⟩))), (22, (.slice Ap0_0 (p0.Tools).length cp0_0)), (23, (iv (p0.Tools.length : Int))), (24, (iv (iL1 : Int)))]) (LE [(1, bx b100 #[(iv p0.Unit), (.slice Ap0_0 (p0.Tools).length cp0_0), (.slice Ap0_1 (p0.Steps).length cp0_1)] 26), (2, sb 80 5 b102 Ay106_0 cy106_0 y106)]) _
  cases restL1 with
  | nil =>
   rw [F_plot_Text_L1.eq_1] at H
   refine Tr.sr ?_
   refine Tr.v2 rfl run_lss rfl rfl ?_
   refine Tr.nil (Tr.normThen ?_)
   refine Tr.seq ?_
   refine Tr.condF rfl (range_nil hdL1) ?_
   refine Tr.exit (Tr.exitThen (Tr.exitThen (Tr.exitBlock (Tr.normThen ?_))))
   refine Tr.sr ?_
   refine Tr.v1 rfl (run_fieldAddr fo_26_2) rfl ?_
   refine Tr.va rfl (fun _ _ h1 h2 => run_load1 ag_24 (h1.ev rfl) (rdb h2 (vs := [(iv p0.Unit), (.slice Ap0_0 (p0.Tools).length cp0_0), (.slice Ap0_1 (p0.Steps).length cp0_1)]) (k := 1) rfl 2) rfl) ?_
   obtain ⟨y108, hy108, H⟩ := bnd H
   refine Tr.callM [2] [sb 80 5 b102 Ay106_0 cy106_0 y106] (U := (Option Addr × Nat)) (fun u => (.tuple #[])) (fun u => True) (fun u => [sb 80 5 b102 u.1 u.2 y108]) rfl (pk_cons rfl pk_nil) (fun _ => rfl) (wn rfl) rfl Tryz.call43 (evl_cons rfl (evl_cons rfl evl_nil)) (fun W hW hp hE => F_plot_writeSteps_ok N y106 Ay106_0 cy106_0 b102 p0.Steps Ap0_1 cp0_1 (hp0_1.ext (hW.extS hp)) y108 hy108 hE) ?_
   intro u hu
   obtain ⟨Ay108_0, cy108_0⟩ := u
   have gy108_0 := hu
   have hgy108_0 : True := gy108_0 --@phi
   show Tr _ _ (uf _ 57 (.tuple #[])) (up _ 2 (sb 80 5 b102 Ay108_0 cy108_0 y108)) _
   refine Tr.nil (Tr.normThen ?_)
   refine Tr.seq ?_
   refine Tr.sr ?_
   obtain ⟨y110, hy110, H⟩ := bnd H
   refine Tr.callM [2] [sb 80 5 b102 Ay108_0 cy108_0 y108] (U := (Option Addr × Nat)) (fun u => (iv y110.1)) (fun u => True) (fun u => [sb 80 5 b102 u.1 u.2 y110.2]) rfl (pk_cons rfl pk_nil) (fun _ => rfl) (wn rfl) rfl Tryz.call44 (evl_cons rfl evl_nil) (fun W hW hp hE => F_strings_Builder_Len_ok y108 Ay108_0 cy108_0 b102 y110 hy110 hE) ?_
   intro u hu
   obtain ⟨Ay110_0, cy110_0⟩ := u
   have gy110_0 := hu
   have hgy110_0 : True := gy110_0 --@phi
   show Tr _ _ (uf _ 58 (iv y110.1)) (up _ 2 (sb 80 5 b102 Ay110_0 cy110_0 y110.2)) _
   refine Tr.v2 rfl run_gtr rfl rfl ?_
   refine Tr.nil (Tr.normThen ?_)
   refine Tr.cond rfl H (fun H => ?_) (fun H => ?_)
   ·refine Tr.sr ?_
    refine Tr.asg rfl rfl ?_
    refine Tr.asg rfl rfl ?_
    refine Tr.nil (Tr.normThen ?_)
    refine Tr.ret (Tr.retThen ?_)
    obtain rfl := Option.some.inj H
    exact Tr.out (m := [(sv ByteArray.empty), (iv 2)]) [] (res_tmp rfl (res_tmp rfl res_nil)) (fun W hW => ⟨rfl, hW.low leB⟩)
   ·refine Tr.skip (Tr.normThen ?_)
    refine Tr.sr ?_
    obtain ⟨y112, hy112, H⟩ := bnd H
    refine Tr.callM [2] [sb 80 5 b102 Ay110_0 cy110_0 y110.2] (U := (Option Addr × Nat)) (fun u => (sv y112.1)) (fun u => True) (fun u => [sb 80 5 b102 u.1 u.2 y112.2]) rfl (pk_cons rfl pk_nil) (fun _ => rfl) (wn rfl) rfl Tryz.call45 (evl_cons rfl evl_nil) (fun W hW hp hE => F_strings_Builder_String_ok y110.2 Ay110_0 cy110_0 b102 y112 hy112 hE) ?_
    intro u hu
    obtain ⟨Ay112_0, cy112_0⟩ := u
    have gy112_0 := hu
    have hgy112_0 : True := gy112_0 --@phi
    show Tr _ _ (uf _ 60 (sv y112.1)) (up _ 2 (sb 80 5 b102 Ay112_0 cy112_0 y112.2)) _
    refine Tr.asg rfl rfl ?_
    refine Tr.asg rfl rfl ?_
    refine Tr.nil (Tr.normThen ?_)
    refine Tr.ret ?_
    obtain rfl := Option.some.inj H
    exact Tr.out (m := [(sv y112.1), (iv 0)]) [] (res_tmp rfl (res_tmp rfl res_nil)) (fun W hW => ⟨rfl, hW.low leB⟩)
  | cons xL1 restL1 =>
   rw [F_plot_Text_L1.eq_2] at H
   refine Tr.sr ?_
   refine Tr.v2 rfl run_lss rfl rfl ?_
   refine Tr.nil (Tr.normThen ?_)
   refine Tr.seq ?_
   refine Tr.condT rfl (range_on hdL1) ?_
   refine Tr.skip (Tr.normThen ?_)
   refine Tr.seq ?_
   refine Tr.block ?_
   refine Tr.seq ?_
   cases H

theorem F_etchhouselaw3_awake_ok (N : Nat) {w : Bs}  (r : Bool) (H : F_etchhouselaw3_awake N = some r) (hE : HF w w.W E0) : Calls Tryz.prog 8 [].toArray w.W fun e W' => e = .returned (.bool r) ∧ HF w W' E0 := by
 unfold F_etchhouselaw3_awake at H
 have leB := Bs.Le.refl w
 refine Tr.enter (n := 14) Tryz.func8 rfl rfl rfl hE ?_
 refine Tr.sr ?_
 refine Tr.asg rfl rfl ?_
 refine Tr.nil (Tr.normThen ?_)
 refine Tr.sr ?_
 refine Tr.build (vs := [(0, (iv 7))]) (cs := [(iv 7), (.slice none 0 0), (.slice none 0 0)]) (wn rfl) rfl (evs_cons rfl evs_nil) (by kernel_rfl) ?_
 obtain ⟨y100, hy100, H⟩ := bnd H
 refine Tr.call0 (r := (.tuple #[(sv y100.1), (iv y100.2)])) (wn rfl) rfl Tryz.call23 (evl_cons rfl evl_nil) (fun W hW => F_plot_Text_ok N (TPlot.mk 7 [] []) none 0 (Sl.nil _ _ _) none 0 (Sl.nil _ _ _) y100 hy100 (HF.start _)) ?_
 refine Tr.mv rfl rfl ?_
 refine Tr.va rfl (fun _ _ h1 h2 => run_extract (h1.ev rfl) rfl) ?_
 refine Tr.va rfl (fun _ _ h1 h2 => run_extract (h1.ev rfl) rfl) ?_
 refine Tr.asg rfl rfl ?_
 refine Tr.asg rfl rfl ?_
 refine Tr.nil (Tr.normThen ?_)
 refine Tr.sr ?_
 refine Tr.mv rfl rfl ?_
 refine Tr.v2 rfl run_eql rfl rfl ?_
 refine Tr.mv rfl rfl ?_
 refine Tr.mid0 3 [(13, (.bool ((y100.2 == 0) && (sEq y100.1 (⟨#[117, 110, 105, 116, 32, 55, 10]⟩)))))] [] ?_ ?_
 ·cases hg100 : (y100.2 == 0)
  ·refine Tr.ps ?_
   refine Tr.ps ?_
   refine Tr.v2 rfl run_pickF rfl rfl ?_
   exact Tr.nil (Tr.fin0 (.r rfl) .nil)
  ·refine Tr.w1 (wg rfl rfl rfl) rfl run_move rfl ?_
   refine Tr.w2 (wg rfl rfl rfl) rfl run_eqlS rfl rfl ?_
   refine Tr.v2 rfl run_pickT rfl rfl ?_
   exact Tr.nil (Tr.fin0 (.r rfl) .nil)
 ·show Tr _ _ (LF [(13, (.bool ((y100.2 == 0) && (sEq y100.1 (⟨#[117, 110, 105, 116, 32, 55, 10]⟩)))))]) (LE []) _
  refine Tr.asg rfl rfl ?_
  refine Tr.nil (Tr.normThen ?_)
  refine Tr.ret ?_
  obtain rfl := Option.some.inj H
  exact Tr.out (m := [(.bool ((y100.2 == 0) && (sEq y100.1 (⟨#[117, 110, 105, 116, 32, 55, 10]⟩))))]) [] (res_tmp rfl res_nil) (fun W hW => ⟨rfl, hW.low leB⟩)

theorem F_etchhouselaw3_PlotsOfMatchSpec_ok (N : Nat) {w : Bs} (p0 : (List TRect)) (Ap0_0 : Option Addr) (cp0_0 : Nat) (hp0_0 : Sl w.R w.W fl_TRect Ap0_0 cp0_0 p0) (r : Bool) (H : F_etchhouselaw3_PlotsOfMatchSpec N p0 = some r) (hE : HF w w.W E0) : Calls Tryz.prog 3 [(.slice Ap0_0 (p0).length cp0_0)].toArray w.W fun e W' => e = .returned (.bool r) ∧ HF w W' E0 := by
 unfold F_etchhouselaw3_PlotsOfMatchSpec at H
 have leB := Bs.Le.refl w
 refine Tr.enter (n := 28) Tryz.func3 rfl rfl rfl hE ?_
 refine Tr.sr ?_
 refine Tr.asg rfl rfl ?_
 refine Tr.nil (Tr.normThen ?_)
 refine Tr.sr ?_
 refine Tr.mv rfl rfl ?_
 obtain ⟨y100, hy100, H⟩ := bnd H
 refine Tr.callG [1, 2] [emp, emp] (U := (Option Addr × Nat) × (Option Addr × Nat)) (fun u => (.tuple #[(.agg #[(iv y100.1.Unit), (.slice u.1.1 (y100.1.Tools).length u.1.2), (.slice u.2.1 (y100.1.Steps).length u.2.2)]), (iv y100.2)])) (fun O W u => SlF u.1.1 (y100.1.Tools).length u.1.2 ∧ SlF u.2.1 (y100.1.Steps).length u.2.2) (fun u => [ow u.1.1 u.1.2 58 fl_TPlotTool y100.1.Tools, ow u.2.1 u.2.2 53 fl_TPlotStep y100.1.Steps]) rfl (pk_cons rfl (pk_cons rfl pk_nil)) (fun _ => rfl) (wn rfl) rfl Tryz.call5 (evl_cons rfl evl_nil) (fun W hW hp hE => F_plot_Of_ok N p0 Ap0_0 cp0_0 (hp0_0.ext (hW.extS hp)) y100 hy100 hE) ?_
 intro w u le101 hu
 obtain ⟨⟨Ay100_0, cy100_0⟩, ⟨Ay100_1, cy100_1⟩⟩ := u
 obtain ⟨gy100_0, gy100_1⟩ := hu
 replace hp0_0 := hp0_0.leR le101
 replace leB := leB.trans le101
 have hgy100_0 : SlF Ay100_0 (y100.1.Tools).length cy100_0 := gy100_0 --@phi
 have hgy100_1 : SlF Ay100_1 (y100.1.Steps).length cy100_1 := gy100_1 --@phi
 show Tr _ _ (uf _ 9 (.tuple #[(.agg #[(iv y100.1.Unit), (.slice Ay100_0 (y100.1.Tools).length cy100_0), (.slice Ay100_1 (y100.1.Steps).length cy100_1)]), (iv y100.2)])) (up (up _ 2 (ow Ay100_1 cy100_1 53 fl_TPlotStep y100.1.Steps)) 1 (ow Ay100_0 cy100_0 58 fl_TPlotTool y100.1.Tools)) _
 refine Tr.mv rfl rfl ?_
 refine Tr.va rfl (fun _ _ h1 h2 => run_extract (h1.ev rfl) rfl) ?_
 refine Tr.va rfl (fun _ _ h1 h2 => run_extract (h1.ev rfl) rfl) ?_
 refine Tr.alloc 3 (wn rfl) rfl ze_26 fun b102 => ?_
 refine Tr.store 3 (cs := [(iv y100.1.Unit), (.slice Ay100_0 (y100.1.Tools).length cy100_0), (.slice Ay100_1 (y100.1.Steps).length cy100_1)]) [(iv y100.1.Unit), (.slice Ay100_0 (y100.1.Tools).length cy100_0), (.slice Ay100_1 (y100.1.Steps).length cy100_1)] (wn rfl) rfl rfl rfl rfl sz_26 rfl rfl rfl ?_
 refine Tr.asg rfl rfl ?_
 refine Tr.nil (Tr.normThen ?_)
 refine Tr.sr ?_
 refine Tr.mv rfl rfl ?_
 obtain ⟨y103, hy103, H⟩ := bnd H
 refine Tr.callG [] [] (U := (Option Addr × Nat) × (Option Addr × Nat)) (fun u => (.tuple #[(.agg #[(iv y103.1.Unit), (.slice u.1.1 (y103.1.Tools).length u.1.2), (.slice u.2.1 (y103.1.Steps).length u.2.2)]), (iv y103.2)])) (fun O W u => Sl O W fl_TPlotTool u.1.1 u.1.2 y103.1.Tools ∧ Sl O W fl_TPlotStep u.2.1 u.2.2 y103.1.Steps) (fun u => []) rfl pk_nil (fun _ => rfl) (wn rfl) rfl Tryz.call6 (evl_cons rfl evl_nil) (fun W hW hp hE => F_etchhouseref3_Of_ok N p0 Ap0_0 cp0_0 (hp0_0.ext (hW.extS hp)) y103 hy103 hE) ?_
 intro w u le104 hu
 obtain ⟨⟨Ay103_0, cy103_0⟩, ⟨Ay103_1, cy103_1⟩⟩ := u
 obtain ⟨gy103_0, gy103_1⟩ := hu
 replace hp0_0 := hp0_0.leR le104
 replace leB := leB.trans le104
 have hgy103_0 : Sl w.O w.W fl_TPlotTool Ay103_0 cy103_0 y103.1.Tools := gy103_0 --@phi
 have hgy103_1 : Sl w.O w.W fl_TPlotStep Ay103_1 cy103_1 y103.1.Steps := gy103_1 --@phi
 show Tr _ _ (uf _ 14 (.tuple #[(.agg #[(iv y103.1.Unit), (.slice Ay103_0 (y103.1.Tools).length cy103_0), (.slice Ay103_1 (y103.1.Steps).length cy103_1)]), (iv y103.2)])) (_) _
 refine Tr.mv rfl rfl ?_
 refine Tr.va rfl (fun _ _ h1 h2 => run_extract (h1.ev rfl) rfl) ?_
 refine Tr.va rfl (fun _ _ h1 h2 => run_extract (h1.ev rfl) rfl) ?_
 refine Tr.alloc 4 (wn rfl) rfl ze_26 fun b105 => ?_
 refine Tr.store 4 (cs := [(iv y103.1.Unit), (.slice Ay103_0 (y103.1.Tools).length cy103_0), (.slice Ay103_1 (y103.1.Steps).length cy103_1)]) [(iv y103.1.Unit), (.slice Ay103_0 (y103.1.Tools).length cy103_0), (.slice Ay103_1 (y103.1.Steps).length cy103_1)] (wn rfl) rfl rfl rfl rfl sz_26 rfl rfl rfl ?_
 refine Tr.asg rfl rfl ?_
 refine Tr.nil (Tr.normThen ?_)
 refine Tr.sr ?_
 refine Tr.va rfl (fun _ _ h1 h2 => run_loadN (cs := [(iv y100.1.Unit), (.slice Ay100_0 (y100.1.Tools).length cy100_0), (.slice Ay100_1 (y100.1.Steps).length cy100_1)]) ag_26 sz_26 (h1.ev rfl) (CellsAt.take (rdb h2 (vs := [(iv y100.1.Unit), (.slice Ay100_0 (y100.1.Tools).length cy100_0), (.slice Ay100_1 (y100.1.Steps).length cy100_1)]) (k := 3) rfl 0) 3) rfl) ?_
 refine Tr.va rfl (fun _ _ h1 h2 => run_loadN (cs := [(iv y103.1.Unit), (.slice Ay103_0 (y103.1.Tools).length cy103_0), (.slice Ay103_1 (y103.1.Steps).length cy103_1)]) ag_26 sz_26 (h1.ev rfl) (CellsAt.take (rdb h2 (vs := [(iv y103.1.Unit), (.slice Ay103_0 (y103.1.Tools).length cy103_0), (.slice Ay103_1 (y103.1.Steps).length cy103_1)]) (k := 4) rfl 0) 3) rfl) ?_
 obtain ⟨y106, hy106, H⟩ := bnd H
 refine Tr.call0 (r := (.bool y106)) (wn rfl) rfl Tryz.call7 (evl_cons rfl (evl_cons rfl evl_nil)) (fun W hW => F_etchhouseref3_SamePlot_ok N y100.1 Ay100_0 cy100_0 (hW.slCall (k := 1) rfl) Ay100_1 cy100_1 (hW.slCall (k := 2) rfl) y103.1 Ay103_0 cy103_0 (hgy103_0.rl.ext hW.extAll) Ay103_1 cy103_1 (hgy103_1.rl.ext hW.extAll) y106 hy106 (HF.start _)) ?_
 refine Tr.mv rfl rfl ?_
 refine Tr.mid0 4 [(24, (.bool (y106 && (y100.2 == y103.2))))] [(1, ow Ay100_0 cy100_0 58 fl_TPlotTool y100.1.Tools), (2, ow Ay100_1 cy100_1 53 fl_TPlotStep y100.1.Steps), (3, bx b102 #[(iv y100.1.Unit), (.slice Ay100_0 (y100.1.Tools).length cy100_0), (.slice Ay100_1 (y100.1.Steps).length cy100_1)] 26), (4, bx b105 #[(iv y103.1.Unit), (.slice Ay103_0 (y103.1.Tools).length cy103_0), (.slice Ay103_1 (y103.1.Steps).length cy103_1)] 26)] ?_ ?_
 ·cases hg109 : y106
  ·refine Tr.ps ?_
   refine Tr.ps ?_
   refine Tr.ps ?_
   refine Tr.v2 rfl run_pickF rfl rfl ?_
   exact Tr.nil (Tr.fin0 (.r rfl) (.r rfl))
  ·refine Tr.w1 (wg rfl rfl rfl) rfl run_move rfl ?_
   refine Tr.w1 (wg rfl rfl rfl) rfl run_move rfl ?_
   refine Tr.w2 (wg rfl rfl rfl) rfl run_eql rfl rfl ?_
   refine Tr.v2 rfl run_pickT rfl rfl ?_
   exact Tr.nil (Tr.fin0 (.r rfl) (.r rfl))
 ·show Tr _ _ (LF [(24, (.bool (y106 && (y100.2 == y103.2))))]) (LE [(1, ow Ay100_0 cy100_0 58 fl_TPlotTool y100.1.Tools), (2, ow Ay100_1 cy100_1 53 fl_TPlotStep y100.1.Steps), (3, bx b102 #[(iv y100.1.Unit), (.slice Ay100_0 (y100.1.Tools).length cy100_0), (.slice Ay100_1 (y100.1.Steps).length cy100_1)] 26), (4, bx b105 #[(iv y103.1.Unit), (.slice Ay103_0 (y103.1.Tools).length cy103_0), (.slice Ay103_1 (y103.1.Steps).length cy103_1)] 26)]) _
  refine Tr.mv rfl rfl ?_
  obtain ⟨g108, hg108, H⟩ := bnd H
  refine Tr.mid0 2 [(27, (.bool g108))] [(1, ow Ay100_0 cy100_0 58 fl_TPlotTool y100.1.Tools), (2, ow Ay100_1 cy100_1 53 fl_TPlotStep y100.1.Steps), (3, bx b102 #[(iv y100.1.Unit), (.slice Ay100_0 (y100.1.Tools).length cy100_0), (.slice Ay100_1 (y100.1.Steps).length cy100_1)] 26), (4, bx b105 #[(iv y103.1.Unit), (.slice Ay103_0 (y103.1.Tools).length cy103_0), (.slice Ay103_1 (y103.1.Steps).length cy103_1)] 26)] ?_ ?_
  ·cases hg109 : (y106 && (y100.2 == y103.2))
   ·rw [hg109] at hg108
    rw [if_neg (by decide)] at hg108
    have H := hg108
    obtain rfl := Option.some.inj H
    refine Tr.ps ?_
    refine Tr.v2 rfl run_pickF rfl rfl ?_
    exact Tr.nil (Tr.fin0 (.r rfl) (.r rfl))
   ·rw [hg109] at hg108
    rw [if_pos rfl] at hg108
    have H := hg108
    obtain ⟨y109, hy109, H⟩ := bnd H
    refine Tr.call0 (r := (.bool y109)) (wg rfl rfl rfl) rfl Tryz.call8 evl_nil (fun W hW => F_etchhouselaw3_awake_ok N y109 hy109 (HF.start _)) ?_
    refine Tr.v2 rfl run_pickT rfl rfl ?_
    obtain rfl := Option.some.inj H
    exact Tr.nil (Tr.fin0 (.r rfl) (.r rfl))
  ·show Tr _ _ (LF [(27, (.bool g108))]) (LE [(1, ow Ay100_0 cy100_0 58 fl_TPlotTool y100.1.Tools), (2, ow Ay100_1 cy100_1 53 fl_TPlotStep y100.1.Steps), (3, bx b102 #[(iv y100.1.Unit), (.slice Ay100_0 (y100.1.Tools).length cy100_0), (.slice Ay100_1 (y100.1.Steps).length cy100_1)] 26), (4, bx b105 #[(iv y103.1.Unit), (.slice Ay103_0 (y103.1.Tools).length cy103_0), (.slice Ay103_1 (y103.1.Steps).length cy103_1)] 26)]) _
   refine Tr.asg rfl rfl ?_
   refine Tr.nil (Tr.normThen ?_)
   refine Tr.ret ?_
   obtain rfl := Option.some.inj H
   exact Tr.out (m := [(.bool g108)]) [] (res_tmp rfl res_nil) (fun W hW => ⟨rfl, hW.low leB⟩)

end Go.Proofs.YtcjeebkoafonpaaGreatDoor
