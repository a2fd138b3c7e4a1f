/- The walks: each function computes its plain function. -/
import Derived.Test.YtocjndhpgjccoaaGreatDoorXWa
namespace Go.Proofs.YtocjndhpgjccoaaGreatDoor
open Go.RowKit
set_option maxRecDepth 100000
set_option maxHeartbeats 1000000
theorem F_plot_flatPlot_ok (N : Nat) {w : Bs} (p0 : TPlot) (Ap0_0 : Option Addr) (cp0_0 : Nat) (hp0_0 : Sl w.O w.W fl_TPlotTool Ap0_0 cp0_0 p0.Tools) (Ap0_1 : Option Addr) (cp0_1 : Nat) (hp0_1 : Sl w.O w.W fl_TPlotStep Ap0_1 cp0_1 p0.Steps) (r : TPlot) (H : F_plot_flatPlot N p0 = some r) (hE : HF w w.W (LEn [emp, emp])) : Calls Tryz.prog 17 [(.agg #[(iv p0.Unit), (.slice Ap0_0 (p0.Tools).length cp0_0), (.slice Ap0_1 (p0.Steps).length cp0_1)])].toArray w.W fun e W' => ∃ (w' : Bs) (u : (Option Addr × Nat) × (Option Addr × Nat)), w.Le w' ∧ e = .returned (.agg #[(iv r.Unit), (.slice u.1.1 (r.Tools).length u.1.2), (.slice u.2.1 (r.Steps).length u.2.2)]) ∧ (SlF u.1.1 (r.Tools).length u.1.2 ∧ SlF u.2.1 (r.Steps).length u.2.2) ∧ HF w' W' (LEn [ow u.1.1 u.1.2 54 fl_TPlotTool r.Tools, ow u.2.1 u.2.2 49 fl_TPlotStep r.Steps]) := by
 unfold F_plot_flatPlot at H
 have leB := Bs.Le.refl w
 refine Tr.enter (n := 13) Tryz.func17 rfl rfl rfl hE ?_
 refine Tr.sr ?_
 refine Tr.box 1 (cs := [(iv p0.Unit), (.slice Ap0_0 (p0.Tools).length cp0_0), (.slice Ap0_1 (p0.Steps).length cp0_1)]) (wn rfl) rfl rfl rfl fun b100 => ?_
 refine Tr.alloc 2 (wn rfl) rfl ze_25 fun b101 => ?_
 refine Tr.nil (Tr.normThen ?_)
 refine Tr.seq ?_
 refine Tr.drawC 9 [] [] (by kernel_rfl) (by kernel_rfl) fun sz102 hlosz102 hEsz102 => ?_
 refine Dr.quiet 0 [(3, (.pointer (some ⟨b100, 0, none⟩)))] (by kernel_rfl) rfl rfl (by kernel_rfl) ?_ rfl rfl ?_
 ·refine Tq.va rfl (fun _ _ h1 h2 => run_fieldAddr fo_25_0 (h1.ev rfl)) ?_
  exact Tq.fin (.cons rfl .nil)
 refine Dr.quiet 1 [(4, (iv p0.Unit))] (by kernel_rfl) rfl rfl (by kernel_rfl) ?_ rfl rfl ?_
 ·refine Tq.va rfl (fun _ _ h1 h2 => run_load1 ag_3 (h1.ev rfl) (rdb h2 (vs := [(iv p0.Unit), (.slice Ap0_0 (p0.Tools).length cp0_0), (.slice Ap0_1 (p0.Steps).length cp0_1)]) (k := 1) rfl 0) rfl) ?_
  exact Tq.fin (.cons rfl .nil)
 refine Dr.quiet 2 [(5, (.pointer (some ⟨b100, 1, none⟩)))] (by kernel_rfl) rfl rfl (by kernel_rfl) ?_ rfl rfl ?_
 ·refine Tq.va rfl (fun _ _ h1 h2 => run_fieldAddr fo_25_1 (h1.ev rfl)) ?_
  exact Tq.fin (.cons rfl .nil)
 refine Dr.quiet 3 [(6, (.slice Ap0_0 (p0.Tools).length cp0_0))] (by kernel_rfl) rfl rfl (by kernel_rfl) ?_ rfl rfl ?_
 ·refine Tq.va rfl (fun _ _ h1 h2 => run_load1 ag_22 (h1.ev rfl) (rdb h2 (vs := [(iv p0.Unit), (.slice Ap0_0 (p0.Tools).length cp0_0), (.slice Ap0_1 (p0.Steps).length cp0_1)]) (k := 1) rfl 1) rfl) ?_
  exact Tq.fin (.cons rfl .nil)
 refine Dr.quiet 5 [(8, (.pointer (some ⟨b100, 2, none⟩)))] (by kernel_rfl) rfl rfl (by kernel_rfl) ?_ rfl rfl ?_
 ·refine Tq.va rfl (fun _ _ h1 h2 => run_fieldAddr fo_25_2 (h1.ev rfl)) ?_
  exact Tq.fin (.cons rfl .nil)
 refine Dr.quiet 6 [(9, (.slice Ap0_1 (p0.Steps).length cp0_1))] (by kernel_rfl) rfl rfl (by kernel_rfl) ?_ rfl rfl ?_
 ·refine Tq.va rfl (fun _ _ h1 h2 => run_load1 ag_23 (h1.ev rfl) (rdb h2 (vs := [(iv p0.Unit), (.slice Ap0_0 (p0.Tools).length cp0_0), (.slice Ap0_1 (p0.Steps).length cp0_1)]) (k := 1) rfl 2) rfl) ?_
  exact Tq.fin (.cons rfl .nil)
 refine Dr.quiet 7 [(10, (.agg #[(iv 0), (iv 0)]))] (by kernel_rfl) rfl rfl (by kernel_rfl) ?_ rfl rfl ?_
 ·refine Tq.build (vs := []) (cs := [(iv 0), (iv 0)]) (wn rfl) rfl evs_nil (by kernel_rfl) ?_
  exact Tq.fin (.cons rfl .nil)
 obtain ⟨y103, hy103, H⟩ := bnd H
 refine Dr.one 4 (by kernel_rfl) ?_
 refine St.callG 4 [3] [emp] (U := (Option Addr × Nat)) (fun u => (.slice u.1 (y103).length u.2)) (fun O W u => SlF u.1 (y103).length u.2) (fun u => [ow u.1 u.2 54 fl_TPlotTool y103]) rfl (pk_cons rfl pk_nil) (fun _ => rfl) (insS_no rfl) rfl (wn rfl) rfl Tryz.call44 (evl_cons rfl (evl_cons rfl evl_nil)) (fun W hW hp hE => F_plot_ownTools_ok N p0.Tools Ap0_0 cp0_0 (hp0_0.extO (hW.extS hp)) (fun z0 => F_plot_asItIs z0) 45 [] Tryz.call45 (fun w' he z0 y hy => F_plot_asItIs_ok z0 y hy (HF.start _)) y103 hy103 hE) ?_
 intro w u le104 hu hsy103
 obtain ⟨Ay103_0, cy103_0⟩ := u
 have gy103_0 := hu
 replace hp0_0 := hp0_0.le le104
 replace hp0_1 := hp0_1.le le104
 replace leB := leB.trans le104
 have hgy103_0 : SlF Ay103_0 (y103).length cy103_0 := gy103_0
 show Dr _ _ _ _ _ _ _ _ _ (uf _ 7 (.slice Ay103_0 (y103).length cy103_0)) (up _ 3 (ow Ay103_0 cy103_0 54 fl_TPlotTool y103))
 obtain ⟨y105, hy105, H⟩ := bnd H
 refine Dr.one 8 (by kernel_rfl) ?_
 refine St.callG 8 [4] [emp] (U := (Option Addr × Nat)) (fun u => (.slice u.1 (y105).length u.2)) (fun O W u => SlF u.1 (y105).length u.2) (fun u => [ow u.1 u.2 49 fl_TPlotStep y105]) rfl (pk_cons rfl pk_nil) (fun _ => rfl) (insS_no rfl) rfl (wn rfl) rfl Tryz.call46 (evl_cons rfl (evl_cons rfl evl_nil)) (fun W hW hp hE => F_plot_flat_ok N p0.Steps Ap0_1 cp0_1 (hp0_1.extO (hW.extS hp)) (TPoint.mk 0 0) y105 hy105 hE) ?_
 intro w u le106 hu hsy105
 obtain ⟨Ay105_0, cy105_0⟩ := u
 have gy105_0 := hu
 replace hp0_0 := hp0_0.le le106
 replace hp0_1 := hp0_1.le le106
 replace leB := leB.trans le106
 have hgy105_0 : SlF Ay105_0 (y105).length cy105_0 := gy105_0
 show Dr _ _ _ _ _ _ _ _ _ (uf _ 11 (.slice Ay105_0 (y105).length cy105_0)) (up _ 4 (ow Ay105_0 cy105_0 49 fl_TPlotStep y105))
 refine Dr.tail (by kernel_rfl) ?_
 refine Tr.build (vs := [(0, (iv p0.Unit)), (1, (.slice Ay103_0 (y103).length cy103_0)), (2, (.slice Ay105_0 (y105).length cy105_0))]) (cs := [(iv p0.Unit), (.slice Ay103_0 (y103).length cy103_0), (.slice Ay105_0 (y105).length cy105_0)]) (wn rfl) rfl (evs_cons rfl (evs_cons rfl (evs_cons rfl evs_nil))) (by kernel_rfl) ?_
 refine Tr.store 2 (cs := [(iv p0.Unit), (.slice Ay103_0 (y103).length cy103_0), (.slice Ay105_0 (y105).length cy105_0)]) [(iv p0.Unit), (.slice Ay103_0 (y103).length cy103_0), (.slice Ay105_0 (y105).length cy105_0)] (wn rfl) rfl rfl rfl rfl sz_25 rfl rfl rfl ?_
 refine Tr.nil (Tr.normThen ?_)
 refine Tr.ret ?_
 obtain rfl := Option.some.inj H
 exact Tr.out (m := [(.agg #[(iv p0.Unit), (.slice Ay103_0 (y103).length cy103_0), (.slice Ay105_0 (y105).length cy105_0)])]) [2] (res_cell rfl rfl ag_25 sz_25 res_nil) (fun W hW => ⟨w, ((Ay103_0, cy103_0), (Ay105_0, cy105_0)), leB, rfl, ⟨hgy103_0, hgy105_0⟩, hW.pick (ks := [3, 4]) (by decide) (pk_cons rfl (pk_cons rfl pk_nil))⟩)

theorem F_plot_told_ok (N : Nat) {w : Bs} (p0 : TPlot) (Ap0_0 : Option Addr) (cp0_0 : Nat) (hp0_0 : Sl w.O w.W fl_TPlotTool Ap0_0 cp0_0 p0.Tools) (Ap0_1 : Option Addr) (cp0_1 : Nat) (hp0_1 : Sl w.O w.W fl_TPlotStep Ap0_1 cp0_1 p0.Steps) (r : (TPlot × Int)) (H : F_plot_told N p0 = some r) (hE : HF w w.W (LEn [])) : Calls Tryz.prog 16 [(.agg #[(iv p0.Unit), (.slice Ap0_0 (p0.Tools).length cp0_0), (.slice Ap0_1 (p0.Steps).length cp0_1)])].toArray w.W fun e W' => ∃ (w' : Bs) (u : (Option Addr × Nat) × (Option Addr × Nat)), w.Le w' ∧ e = .returned (.tuple #[(.agg #[(iv r.1.Unit), (.slice u.1.1 (r.1.Tools).length u.1.2), (.slice u.2.1 (r.1.Steps).length u.2.2)]), (iv r.2)]) ∧ (Sl w'.O w'.W fl_TPlotTool u.1.1 u.1.2 r.1.Tools ∧ Sl w'.O w'.W fl_TPlotStep u.2.1 u.2.2 r.1.Steps) ∧ HF w' W' (LEn []) := by
 unfold F_plot_told at H
 have leB := Bs.Le.refl w
 refine Tr.enter (n := 12) Tryz.func16 rfl rfl rfl hE ?_
 refine Tr.sr ?_
 refine Tr.box 1 (cs := [(iv p0.Unit), (.slice Ap0_0 (p0.Tools).length cp0_0), (.slice Ap0_1 (p0.Steps).length cp0_1)]) (wn rfl) rfl rfl rfl fun b100 => ?_
 refine Tr.alloc 2 (wn rfl) rfl ze_25 fun b101 => ?_
 refine Tr.asg rfl rfl ?_
 refine Tr.nil (Tr.normThen ?_)
 refine Tr.seq ?_
 refine Tr.sr ?_
 refine Tr.va rfl (fun _ _ h1 h2 => run_loadN (cs := [(iv p0.Unit), (.slice Ap0_0 (p0.Tools).length cp0_0), (.slice Ap0_1 (p0.Steps).length cp0_1)]) ag_25 sz_25 (h1.ev rfl) (CellsAt.take (rdb h2 (vs := [(iv p0.Unit), (.slice Ap0_0 (p0.Tools).length cp0_0), (.slice Ap0_1 (p0.Steps).length cp0_1)]) (k := 1) rfl 0) 3) rfl) ?_
 obtain ⟨y102, hy102, H⟩ := bnd H
 refine Tr.call0 (r := (iv y102)) (wn rfl) rfl Tryz.call15 (evl_cons rfl evl_nil) (fun W hW => F_plot_CheckPlot_ok N p0 Ap0_0 cp0_0 (hp0_0.rl.ext hW.extAll) Ap0_1 cp0_1 (hp0_1.rl.ext hW.extAll) y102 hy102 (HF.start _)) ?_
 refine Tr.asg rfl rfl ?_
 refine Tr.nil (Tr.normThen ?_)
 refine Tr.sr ?_
 refine Tr.mv rfl rfl ?_
 refine Tr.va rfl (fun _ _ h1 h2 => run_neq (h1.ev rfl) (h1.ev rfl)) ?_
 refine Tr.nil (Tr.normThen ?_)
 refine Tr.cond rfl H (fun H => ?_) (fun H => ?_)
 ·refine Tr.sr ?_
  refine Tr.build (vs := []) (cs := [(iv 0), (.slice none 0 0), (.slice none 0 0)]) (wn rfl) rfl evs_nil (by kernel_rfl) ?_
  refine Tr.mv rfl rfl ?_
  refine Tr.store 2 (cs := [(iv 0), (.slice none 0 0), (.slice none 0 0)]) [(iv 0), (.slice none 0 0), (.slice none 0 0)] (wn rfl) rfl rfl rfl rfl sz_25 rfl rfl rfl ?_
  refine Tr.asg rfl rfl ?_
  refine Tr.nil (Tr.normThen ?_)
  refine Tr.ret (Tr.retThen ?_)
  obtain rfl := Option.some.inj H
  exact Tr.out (m := [(.agg #[(iv 0), (.slice none 0 0), (.slice none 0 0)]), (iv y102)]) [2] (res_cell rfl rfl ag_25 sz_25 (res_tmp rfl res_nil)) (fun W hW => ⟨w, ((none, 0), (none, 0)), leB, rfl, ⟨(Sl.nil _ _ _), (Sl.nil _ _ _)⟩, hW.pick (ks := []) (by decide) pk_nil⟩)
 ·refine Tr.skip (Tr.normThen ?_)
  refine Tr.sr ?_
  refine Tr.va rfl (fun _ _ h1 h2 => run_loadN (cs := [(iv p0.Unit), (.slice Ap0_0 (p0.Tools).length cp0_0), (.slice Ap0_1 (p0.Steps).length cp0_1)]) ag_25 sz_25 (h1.ev rfl) (CellsAt.take (rdb h2 (vs := [(iv p0.Unit), (.slice Ap0_0 (p0.Tools).length cp0_0), (.slice Ap0_1 (p0.Steps).length cp0_1)]) (k := 1) rfl 0) 3) rfl) ?_
  refine Tr.store 2 (cs := [(iv p0.Unit), (.slice Ap0_0 (p0.Tools).length cp0_0), (.slice Ap0_1 (p0.Steps).length cp0_1)]) [(iv p0.Unit), (.slice Ap0_0 (p0.Tools).length cp0_0), (.slice Ap0_1 (p0.Steps).length cp0_1)] (wn rfl) rfl rfl rfl rfl sz_25 rfl rfl rfl ?_
  refine Tr.asg rfl rfl ?_
  refine Tr.nil (Tr.normThen ?_)
  refine Tr.ret ?_
  obtain rfl := Option.some.inj H
  exact Tr.out (m := [(.agg #[(iv p0.Unit), (.slice Ap0_0 (p0.Tools).length cp0_0), (.slice Ap0_1 (p0.Steps).length cp0_1)]), (iv 0)]) [2] (res_cell rfl rfl ag_25 sz_25 (res_tmp rfl res_nil)) (fun W hW => ⟨w, ((Ap0_0, cp0_0), (Ap0_1, cp0_1)), leB, rfl, ⟨hp0_0, hp0_1⟩, hW.pick (ks := []) (by decide) pk_nil⟩)

theorem F_plot_Flat_ok (N : Nat) {w : Bs} (p0 : TPlot) (Ap0_0 : Option Addr) (cp0_0 : Nat) (hp0_0 : Sl w.O w.W fl_TPlotTool Ap0_0 cp0_0 p0.Tools) (Ap0_1 : Option Addr) (cp0_1 : Nat) (hp0_1 : Sl w.O w.W fl_TPlotStep Ap0_1 cp0_1 p0.Steps) (r : (TPlot × Int)) (H : F_plot_Flat N p0 = some r) (hE : HF w w.W (LEn [])) : Calls Tryz.prog 6 [(.agg #[(iv p0.Unit), (.slice Ap0_0 (p0.Tools).length cp0_0), (.slice Ap0_1 (p0.Steps).length cp0_1)])].toArray w.W fun e W' => ∃ (w' : Bs) (u : (Option Addr × Nat) × (Option Addr × Nat)), w.Le w' ∧ e = .returned (.tuple #[(.agg #[(iv r.1.Unit), (.slice u.1.1 (r.1.Tools).length u.1.2), (.slice u.2.1 (r.1.Steps).length u.2.2)]), (iv r.2)]) ∧ (Sl w'.O w'.W fl_TPlotTool u.1.1 u.1.2 r.1.Tools ∧ Sl w'.O w'.W fl_TPlotStep u.2.1 u.2.2 r.1.Steps) ∧ HF w' W' (LEn []) := by
 unfold F_plot_Flat at H
 have leB := Bs.Le.refl w
 refine Tr.enter (n := 16) Tryz.func6 rfl rfl rfl hE ?_
 refine Tr.sr ?_
 refine Tr.box 1 (cs := [(iv p0.Unit), (.slice Ap0_0 (p0.Tools).length cp0_0), (.slice Ap0_1 (p0.Steps).length cp0_1)]) (wn rfl) rfl rfl rfl fun b100 => ?_
 refine Tr.alloc 2 (wn rfl) rfl ze_25 fun b101 => ?_
 refine Tr.asg rfl rfl ?_
 refine Tr.nil (Tr.normThen ?_)
 refine Tr.seq ?_
 refine Tr.sr ?_
 refine Tr.va rfl (fun _ _ h1 h2 => run_loadN (cs := [(iv p0.Unit), (.slice Ap0_0 (p0.Tools).length cp0_0), (.slice Ap0_1 (p0.Steps).length cp0_1)]) ag_25 sz_25 (h1.ev rfl) (CellsAt.take (rdb h2 (vs := [(iv p0.Unit), (.slice Ap0_0 (p0.Tools).length cp0_0), (.slice Ap0_1 (p0.Steps).length cp0_1)]) (k := 1) rfl 0) 3) rfl) ?_
 obtain ⟨y102, hy102, H⟩ := bnd H
 refine Tr.call0 (r := (iv y102)) (wn rfl) rfl Tryz.call15 (evl_cons rfl evl_nil) (fun W hW => F_plot_CheckPlot_ok N p0 Ap0_0 cp0_0 (hp0_0.rl.ext hW.extAll) Ap0_1 cp0_1 (hp0_1.rl.ext hW.extAll) y102 hy102 (HF.start _)) ?_
 refine Tr.asg rfl rfl ?_
 refine Tr.nil (Tr.normThen ?_)
 refine Tr.sr ?_
 refine Tr.mv rfl rfl ?_
 refine Tr.va rfl (fun _ _ h1 h2 => run_neq (h1.ev rfl) (h1.ev rfl)) ?_
 refine Tr.nil (Tr.normThen ?_)
 refine Tr.cond rfl H (fun H => ?_) (fun H => ?_)
 ·refine Tr.sr ?_
  refine Tr.build (vs := []) (cs := [(iv 0), (.slice none 0 0), (.slice none 0 0)]) (wn rfl) rfl evs_nil (by kernel_rfl) ?_
  refine Tr.mv rfl rfl ?_
  refine Tr.store 2 (cs := [(iv 0), (.slice none 0 0), (.slice none 0 0)]) [(iv 0), (.slice none 0 0), (.slice none 0 0)] (wn rfl) rfl rfl rfl rfl sz_25 rfl rfl rfl ?_
  refine Tr.asg rfl rfl ?_
  refine Tr.nil (Tr.normThen ?_)
  refine Tr.ret (Tr.retThen ?_)
  obtain rfl := Option.some.inj H
  exact Tr.out (m := [(.agg #[(iv 0), (.slice none 0 0), (.slice none 0 0)]), (iv y102)]) [2] (res_cell rfl rfl ag_25 sz_25 (res_tmp rfl res_nil)) (fun W hW => ⟨w, ((none, 0), (none, 0)), leB, rfl, ⟨(Sl.nil _ _ _), (Sl.nil _ _ _)⟩, hW.pick (ks := []) (by decide) pk_nil⟩)
 ·refine Tr.skip (Tr.normThen ?_)
  refine Tr.sr ?_
  refine Tr.va rfl (fun _ _ h1 h2 => run_loadN (cs := [(iv p0.Unit), (.slice Ap0_0 (p0.Tools).length cp0_0), (.slice Ap0_1 (p0.Steps).length cp0_1)]) ag_25 sz_25 (h1.ev rfl) (CellsAt.take (rdb h2 (vs := [(iv p0.Unit), (.slice Ap0_0 (p0.Tools).length cp0_0), (.slice Ap0_1 (p0.Steps).length cp0_1)]) (k := 1) rfl 0) 3) rfl) ?_
  obtain ⟨y103, hy103, H⟩ := bnd H
  refine Tr.callG [3, 4] [emp, emp] (U := (Option Addr × Nat) × (Option Addr × Nat)) (fun u => (.agg #[(iv y103.Unit), (.slice u.1.1 (y103.Tools).length u.1.2), (.slice u.2.1 (y103.Steps).length u.2.2)])) (fun O W u => SlF u.1.1 (y103.Tools).length u.1.2 ∧ SlF u.2.1 (y103.Steps).length u.2.2) (fun u => [ow u.1.1 u.1.2 54 fl_TPlotTool y103.Tools, ow u.2.1 u.2.2 49 fl_TPlotStep y103.Steps]) rfl (pk_cons rfl (pk_cons rfl pk_nil)) (fun _ => rfl) (wn rfl) rfl Tryz.call17 (evl_cons rfl evl_nil) (fun W hW hp hE => F_plot_flatPlot_ok N p0 Ap0_0 cp0_0 (hp0_0.extO (hW.extS hp)) Ap0_1 cp0_1 (hp0_1.extO (hW.extS hp)) y103 hy103 hE) ?_
  intro w u le104 hu
  obtain ⟨⟨Ay103_0, cy103_0⟩, ⟨Ay103_1, cy103_1⟩⟩ := u
  obtain ⟨gy103_0, gy103_1⟩ := hu
  replace hp0_0 := hp0_0.le le104
  replace hp0_1 := hp0_1.le le104
  replace leB := leB.trans le104
  have hgy103_0 : SlF Ay103_0 (y103.Tools).length cy103_0 := gy103_0 --@phi
  have hgy103_1 : SlF Ay103_1 (y103.Steps).length cy103_1 := gy103_1 --@phi
  show Tr _ _ (uf _ 12 (.agg #[(iv y103.Unit), (.slice Ay103_0 (y103.Tools).length cy103_0), (.slice Ay103_1 (y103.Steps).length cy103_1)])) (up (up _ 4 (ow Ay103_1 cy103_1 49 fl_TPlotStep y103.Steps)) 3 (ow Ay103_0 cy103_0 54 fl_TPlotTool y103.Tools)) _
  refine Tr.freeze 3 rfl fun w le106 hz105 => ?_
  replace hp0_0 := hp0_0.le le106
  replace hp0_1 := hp0_1.le le106
  replace leB := leB.trans le106
  refine Tr.freeze 4 rfl fun w le108 hz107 => ?_
  replace hp0_0 := hp0_0.le le108
  replace hp0_1 := hp0_1.le le108
  replace hz105 := hz105.le le108
  replace leB := leB.trans le108
  obtain ⟨y109, hy109, H⟩ := bnd H
  refine Tr.callG [] [] (U := (Option Addr × Nat) × (Option Addr × Nat)) (fun u => (.tuple #[(.agg #[(iv y109.1.Unit), (.slice u.1.1 (y109.1.Tools).length u.1.2), (.slice u.2.1 (y109.1.Steps).length u.2.2)]), (iv y109.2)])) (fun O W u => Sl O W fl_TPlotTool u.1.1 u.1.2 y109.1.Tools ∧ Sl O W fl_TPlotStep u.2.1 u.2.2 y109.1.Steps) (fun u => []) rfl pk_nil (fun _ => rfl) (wn rfl) rfl Tryz.call16 (evl_cons rfl evl_nil) (fun W hW hp hE => F_plot_told_ok N y103 Ay103_0 cy103_0 (hz105.extO (hW.extS hp)) Ay103_1 cy103_1 (hz107.extO (hW.extS hp)) y109 hy109 hE) ?_
  intro w u le110 hu
  obtain ⟨⟨Ay109_0, cy109_0⟩, ⟨Ay109_1, cy109_1⟩⟩ := u
  obtain ⟨gy109_0, gy109_1⟩ := hu
  replace hp0_0 := hp0_0.le le110
  replace hp0_1 := hp0_1.le le110
  replace hz105 := hz105.le le110
  replace hz107 := hz107.le le110
  replace leB := leB.trans le110
  have hgy109_0 : Sl w.O w.W fl_TPlotTool Ay109_0 cy109_0 y109.1.Tools := gy109_0 --@phi
  have hgy109_1 : Sl w.O w.W fl_TPlotStep Ay109_1 cy109_1 y109.1.Steps := gy109_1 --@phi
  show Tr _ _ (uf _ 13 (.tuple #[(.agg #[(iv y109.1.Unit), (.slice Ay109_0 (y109.1.Tools).length cy109_0), (.slice Ay109_1 (y109.1.Steps).length cy109_1)]), (iv y109.2)])) (_) _
  refine Tr.va rfl (fun _ _ h1 h2 => run_extract (h1.ev rfl) rfl) ?_
  refine Tr.va rfl (fun _ _ h1 h2 => run_extract (h1.ev rfl) rfl) ?_
  refine Tr.store 2 (cs := [(iv y109.1.Unit), (.slice Ay109_0 (y109.1.Tools).length cy109_0), (.slice Ay109_1 (y109.1.Steps).length cy109_1)]) [(iv y109.1.Unit), (.slice Ay109_0 (y109.1.Tools).length cy109_0), (.slice Ay109_1 (y109.1.Steps).length cy109_1)] (wn rfl) rfl rfl rfl rfl sz_25 rfl rfl rfl ?_
  refine Tr.asg rfl rfl ?_
  refine Tr.nil (Tr.normThen ?_)
  refine Tr.ret ?_
  obtain rfl := Option.some.inj H
  exact Tr.out (m := [(.agg #[(iv y109.1.Unit), (.slice Ay109_0 (y109.1.Tools).length cy109_0), (.slice Ay109_1 (y109.1.Steps).length cy109_1)]), (iv y109.2)]) [2] (res_cell rfl rfl ag_25 sz_25 (res_tmp rfl res_nil)) (fun W hW => ⟨w, ((Ay109_0, cy109_0), (Ay109_1, cy109_1)), leB, rfl, ⟨hgy109_0, hgy109_1⟩, hW.pick (ks := []) (by decide) pk_nil⟩)

theorem F_etchhouseref3_within_ok {w : Bs} (p0 : Int) (p1 : Int) (p2 : Int) (r : Bool) (H : F_etchhouseref3_within p0 p1 p2 = some r) (hE : HF w w.W E0) : Calls Tryz.prog 47 [(iv p0), (iv p1), (iv p2)].toArray w.W fun e W' => e = .returned (.bool r) ∧ HF w W' E0 := by
 unfold F_etchhouseref3_within at H
 have leB := Bs.Le.refl w
 refine Tr.enter (n := 15) Tryz.func47 rfl rfl rfl hE ?_
 refine Tr.sr ?_
 refine Tr.asg rfl rfl ?_
 refine Tr.nil (Tr.normThen ?_)
 refine Tr.sr ?_
 refine Tr.mv rfl rfl ?_
 refine Tr.mv rfl rfl ?_
 refine Tr.va rfl (fun _ _ h1 h2 => run_geq (h1.ev rfl) (h1.ev rfl)) ?_
 refine Tr.mv rfl rfl ?_
 refine Tr.mid0 4 [(14, (.bool ((decide (p1 ≤ p0)) && (decide (p0 ≤ p2)))))] [] ?_ ?_
 ·cases hg99 : (decide (p1 ≤ p0))
  ·refine Tr.pass rfl rfl rfl rfl rfl (by decide) ?_
   refine Tr.pass rfl rfl rfl rfl rfl (by decide) ?_
   refine Tr.pass rfl rfl rfl rfl rfl (by decide) ?_
   refine Tr.va rfl (fun _ _ h1 h2 => run_pickF (h1.ev rfl) (h1.ev rfl)) ?_
   exact Tr.nil (Tr.fin0 (.cons rfl .nil) .nil)
  ·refine Tr.val (wg rfl rfl rfl) rfl (fun _ _ h1 h2 => run_move (h1.ev rfl)) ?_
   refine Tr.val (wg rfl rfl rfl) rfl (fun _ _ h1 h2 => run_move (h1.ev rfl)) ?_
   refine Tr.val (wg rfl rfl rfl) rfl (fun _ _ h1 h2 => run_leq (h1.ev rfl) (h1.ev rfl)) ?_
   refine Tr.va rfl (fun _ _ h1 h2 => run_pickT (h1.ev rfl) (h1.ev rfl)) ?_
   exact Tr.nil (Tr.fin0 (.cons rfl .nil) .nil)
 ·show Tr _ _ (LF [(14, (.bool ((decide (p1 ≤ p0)) && (decide (p0 ≤ p2)))))]) (LE []) _
  refine Tr.asg rfl rfl ?_
  refine Tr.nil (Tr.normThen ?_)
  refine Tr.ret ?_
  obtain rfl := Option.some.inj H
  exact Tr.out (m := [(.bool ((decide (p1 ≤ p0)) && (decide (p0 ≤ p2))))]) [] (res_tmp rfl res_nil) (fun W hW => ⟨rfl, hW.low leB⟩)

theorem F_etchhouseref3_IsName_ok (N : Nat) {w : Bs} (p0 : ByteArray) (r : Bool) (H : F_etchhouseref3_IsName N p0 = some r) (hE : HF w w.W E0) : Calls Tryz.prog 48 [(sv p0)].toArray w.W fun e W' => e = .returned (.bool r) ∧ HF w W' E0 := by
 unfold F_etchhouseref3_IsName at H
 have leB := Bs.Le.refl w
 refine Tr.enter (n := 55) Tryz.func48 rfl rfl rfl hE ?_
 refine Tr.sr ?_
 refine Tr.asg rfl rfl ?_
 refine Tr.nil (Tr.normThen ?_)
 refine Tr.seq ?_
 refine Tr.sr ?_
 refine Tr.asg rfl rfl ?_
 refine Tr.nil (Tr.normThen ?_)
 refine Tr.block ?_
 refine Tr.loop (σ := Int) (fun m w s => F_etchhouseref3_IsName_L1 p0 m s = some r) (fun s => [(0, (sv p0)), (3, (iv s))]) (fun s => []) N 0 H (.cons rfl (.cons rfl .nil)) .nil (fun _ _ h => noSome (h)) ?_
 intro w leL1 mL1 x105 hs
 have H := hs
 replace H : F_etchhouseref3_IsName_L1 p0 (mL1 + 1) x105 = some r := H
 replace leB := leB.trans leL1
 rw [F_etchhouseref3_IsName_L1.eq_2] at H
 show Tr _ _ (LF [(0, (sv p0)), (3, (iv x105))]) (LE []) _
 refine Tr.seq ?_
 refine Tr.sr ?_
 refine Tr.mv rfl rfl ?_
 refine Tr.mv rfl rfl ?_
 refine Tr.va rfl (fun _ _ h1 h2 => run_lenS un_9 (h1.ev rfl)) ?_
 refine Tr.va rfl (fun _ _ h1 h2 => run_lss (h1.ev rfl) (h1.ev rfl)) ?_
 refine Tr.nil (Tr.normThen ?_)
 refine Tr.cond rfl H (fun H => ?_) (fun H => ?_)
 ·refine Tr.skip (Tr.normThen ?_)
  refine Tr.seq ?_
  refine Tr.block ?_
  refine Tr.sr ?_
  refine Tr.mv rfl rfl ?_
  refine Tr.mv rfl rfl ?_
  obtain ⟨c106, hc106, H⟩ := bnd H
  refine Tr.va rfl (fun _ _ h1 h2 => run_indexS un_9 (h1.ev rfl) (h1.ev rfl) hc106) ?_
  refine Tr.asg rfl rfl ?_
  refine Tr.nil (Tr.normThen ?_)
  refine Tr.sr ?_
  refine Tr.mv rfl rfl ?_
  refine Tr.va rfl (fun _ _ h1 h2 => run_geq (h1.ev rfl) (h1.ev rfl)) ?_
  refine Tr.mv rfl rfl ?_
  refine Tr.mid0 3 [(0, (sv p0)), (3, (iv x105)), (4, (.int .u8 c106)), (20, (.bool ((decide (97 ≤ c106)) && (decide (c106 ≤ 122)))))] [] ?_ ?_
  ·cases hg106 : (decide (97 ≤ c106))
   ·refine Tr.pass rfl rfl rfl rfl rfl (by decide) ?_
    refine Tr.pass rfl rfl rfl rfl rfl (by decide) ?_
    refine Tr.va rfl (fun _ _ h1 h2 => run_pickF (h1.ev rfl) (h1.ev rfl)) ?_
    exact Tr.nil (Tr.fin0 (.cons rfl (.cons rfl (.cons rfl (.cons rfl .nil)))) .nil)
   ·refine Tr.val (wg rfl rfl rfl) rfl (fun _ _ h1 h2 => run_move (h1.ev rfl)) ?_
    refine Tr.val (wg rfl rfl rfl) rfl (fun _ _ h1 h2 => run_leq (h1.ev rfl) (h1.ev rfl)) ?_
    refine Tr.va rfl (fun _ _ h1 h2 => run_pickT (h1.ev rfl) (h1.ev rfl)) ?_
    exact Tr.nil (Tr.fin0 (.cons rfl (.cons rfl (.cons rfl (.cons rfl .nil)))) .nil)
  ·show Tr _ _ (LF [(0, (sv p0)), (3, (iv x105)), (4, (.int .u8 c106)), (20, (.bool ((decide (97 ≤ c106)) && (decide (c106 ≤ 122)))))]) (LE []) _
   refine Tr.mv rfl rfl ?_
   refine Tr.mid0 7 [(0, (sv p0)), (3, (iv x105)), (4, (.int .u8 c106)), (28, (.bool (((decide (97 ≤ c106)) && (decide (c106 ≤ 122))) || ((decide (65 ≤ c106)) && (decide (c106 ≤ 90))))))] [] ?_ ?_
   ·cases hg106 : ((decide (97 ≤ c106)) && (decide (c106 ≤ 122)))
    ·refine Tr.val (wg rfl rfl rfl) rfl (fun _ _ h1 h2 => run_move (h1.ev rfl)) ?_
     refine Tr.val (wg rfl rfl rfl) rfl (fun _ _ h1 h2 => run_geq (h1.ev rfl) (h1.ev rfl)) ?_
     refine Tr.val (wg rfl rfl rfl) rfl (fun _ _ h1 h2 => run_move (h1.ev rfl)) ?_
     refine Tr.mid0 3 [(0, (sv p0)), (3, (iv x105)), (4, (.int .u8 c106)), (21, (.bool false)), (27, (.bool ((decide (65 ≤ c106)) && (decide (c106 ≤ 90)))))] [] ?_ ?_
     ·cases hg106 : (decide (65 ≤ c106))
      ·refine Tr.pass rfl rfl rfl rfl rfl (by decide) ?_
       refine Tr.pass rfl rfl rfl rfl rfl (by decide) ?_
       refine Tr.val (wg rfl rfl rfl) rfl (fun _ _ h1 h2 => run_pickF (h1.ev rfl) (h1.ev rfl)) ?_
       exact Tr.nil (Tr.fin0 (.cons rfl (.cons rfl (.cons rfl (.cons rfl (.cons rfl .nil))))) .nil)
      ·refine Tr.val (wg rfl rfl rfl) rfl (fun _ _ h1 h2 => run_move (h1.ev rfl)) ?_
       refine Tr.val (wg rfl rfl rfl) rfl (fun _ _ h1 h2 => run_leq (h1.ev rfl) (h1.ev rfl)) ?_
       refine Tr.val (wg rfl rfl rfl) rfl (fun _ _ h1 h2 => run_pickT (h1.ev rfl) (h1.ev rfl)) ?_
       exact Tr.nil (Tr.fin0 (.cons rfl (.cons rfl (.cons rfl (.cons rfl (.cons rfl .nil))))) .nil)
     ·show Tr _ _ (LF [(0, (sv p0)), (3, (iv x105)), (4, (.int .u8 c106)), (21, (.bool false)), (27, (.bool ((decide (65 ≤ c106)) && (decide (c106 ≤ 90)))))]) (LE []) _
      refine Tr.va rfl (fun _ _ h1 h2 => run_pickF (h1.ev rfl) (h1.ev rfl)) ?_
      exact Tr.nil (Tr.fin0 (.cons rfl (.cons rfl (.cons rfl (.cons rfl .nil)))) .nil)
    ·refine Tr.pass rfl rfl rfl rfl rfl (by decide) ?_
     refine Tr.pass rfl rfl rfl rfl rfl (by decide) ?_
     refine Tr.pass rfl rfl rfl rfl rfl (by decide) ?_
     refine Tr.passU rfl rfl rfl rfl (by decide) ?_
     refine Tr.passU rfl rfl rfl rfl (by decide) ?_
     refine Tr.pass rfl rfl rfl rfl rfl (by decide) ?_
     refine Tr.va rfl (fun _ _ h1 h2 => run_pickT (h1.ev rfl) (h1.ev rfl)) ?_
     exact Tr.nil (Tr.fin0 (.cons rfl (.cons rfl (.cons rfl (.cons rfl .nil)))) .nil)
   ·show Tr _ _ (LF [(0, (sv p0)), (3, (iv x105)), (4, (.int .u8 c106)), (28, (.bool (((decide (97 ≤ c106)) && (decide (c106 ≤ 122))) || ((decide (65 ≤ c106)) && (decide (c106 ≤ 90))))))]) (LE []) _
    refine Tr.asg rfl rfl ?_
    refine Tr.nil (Tr.normThen ?_)
    refine Tr.sr ?_
    refine Tr.mv rfl rfl ?_
    refine Tr.va rfl (fun _ _ h1 h2 => run_not (h1.ev rfl)) ?_
    refine Tr.mv rfl rfl ?_
    refine Tr.mid0 20 [(0, (sv p0)), (3, (iv x105)), (51, (.bool ((!(((decide (97 ≤ c106)) && (decide (c106 ≤ 122))) || ((decide (65 ≤ c106)) && (decide (c106 ≤ 90))))) && ((x105 == 0) || (((c106 != 95) && (c106 != 45)) && (!((decide (48 ≤ c106)) && (decide (c106 ≤ 57)))))))))] [] ?_ ?_
    ·cases hg106 : (!(((decide (97 ≤ c106)) && (decide (c106 ≤ 122))) || ((decide (65 ≤ c106)) && (decide (c106 ≤ 90)))))
     ·refine Tr.pass rfl rfl rfl rfl rfl (by decide) ?_
      refine Tr.pass rfl rfl rfl rfl rfl (by decide) ?_
      refine Tr.pass rfl rfl rfl rfl rfl (by decide) ?_
      refine Tr.passU rfl rfl rfl rfl (by decide) ?_
      refine Tr.passU rfl rfl rfl rfl (by decide) ?_
      refine Tr.passU rfl rfl rfl rfl (by decide) ?_
      refine Tr.passU rfl rfl rfl rfl (by decide) ?_
      refine Tr.passU rfl rfl rfl rfl (by decide) ?_
      refine Tr.passU rfl rfl rfl rfl (by decide) ?_
      refine Tr.passU rfl rfl rfl rfl (by decide) ?_
      refine Tr.passU rfl rfl rfl rfl (by decide) ?_
      refine Tr.passU rfl rfl rfl rfl (by decide) ?_
      refine Tr.passU rfl rfl rfl rfl (by decide) ?_
      refine Tr.passU rfl rfl rfl rfl (by decide) ?_
      refine Tr.passU rfl rfl rfl rfl (by decide) ?_
      refine Tr.passU rfl rfl rfl rfl (by decide) ?_
      refine Tr.passU rfl rfl rfl rfl (by decide) ?_
      refine Tr.passU rfl rfl rfl rfl (by decide) ?_
      refine Tr.pass rfl rfl rfl rfl rfl (by decide) ?_
      refine Tr.va rfl (fun _ _ h1 h2 => run_pickF (h1.ev rfl) (h1.ev rfl)) ?_
      exact Tr.nil (Tr.fin0 (.cons rfl (.cons rfl (.cons rfl .nil))) .nil)
     ·refine Tr.val (wg rfl rfl rfl) rfl (fun _ _ h1 h2 => run_move (h1.ev rfl)) ?_
      refine Tr.val (wg rfl rfl rfl) rfl (fun _ _ h1 h2 => run_eql (h1.ev rfl) (h1.ev rfl)) ?_
      refine Tr.val (wg rfl rfl rfl) rfl (fun _ _ h1 h2 => run_move (h1.ev rfl)) ?_
      refine Tr.mid0 16 [(0, (sv p0)), (3, (iv x105)), (31, (.bool true)), (50, (.bool ((x105 == 0) || (((c106 != 95) && (c106 != 45)) && (!((decide (48 ≤ c106)) && (decide (c106 ≤ 57))))))))] [] ?_ ?_
      ·cases hg106 : (x105 == 0)
       ·refine Tr.val (wg rfl rfl rfl) rfl (fun _ _ h1 h2 => run_move (h1.ev rfl)) ?_
        refine Tr.val (wg rfl rfl rfl) rfl (fun _ _ h1 h2 => run_neq (h1.ev rfl) (h1.ev rfl)) ?_
        refine Tr.val (wg rfl rfl rfl) rfl (fun _ _ h1 h2 => run_move (h1.ev rfl)) ?_
        refine Tr.mid0 3 [(0, (sv p0)), (3, (iv x105)), (4, (.int .u8 c106)), (31, (.bool true)), (34, (.bool false)), (40, (.bool ((c106 != 95) && (c106 != 45))))] [] ?_ ?_
        ·cases hg106 : (c106 != 95)
         ·refine Tr.pass rfl rfl rfl rfl rfl (by decide) ?_
          refine Tr.pass rfl rfl rfl rfl rfl (by decide) ?_
          refine Tr.val (wg rfl rfl rfl) rfl (fun _ _ h1 h2 => run_pickF (h1.ev rfl) (h1.ev rfl)) ?_
          exact Tr.nil (Tr.fin0 (.cons rfl (.cons rfl (.cons rfl (.cons rfl (.cons rfl (.cons rfl .nil)))))) .nil)
         ·refine Tr.val (wg rfl rfl rfl) rfl (fun _ _ h1 h2 => run_move (h1.ev rfl)) ?_
          refine Tr.val (wg rfl rfl rfl) rfl (fun _ _ h1 h2 => run_neq (h1.ev rfl) (h1.ev rfl)) ?_
          refine Tr.val (wg rfl rfl rfl) rfl (fun _ _ h1 h2 => run_pickT (h1.ev rfl) (h1.ev rfl)) ?_
          exact Tr.nil (Tr.fin0 (.cons rfl (.cons rfl (.cons rfl (.cons rfl (.cons rfl (.cons rfl .nil)))))) .nil)
        ·show Tr _ _ (LF [(0, (sv p0)), (3, (iv x105)), (4, (.int .u8 c106)), (31, (.bool true)), (34, (.bool false)), (40, (.bool ((c106 != 95) && (c106 != 45))))]) (LE []) _
         refine Tr.val (wg rfl rfl rfl) rfl (fun _ _ h1 h2 => run_move (h1.ev rfl)) ?_
         refine Tr.mid0 8 [(0, (sv p0)), (3, (iv x105)), (31, (.bool true)), (34, (.bool false)), (49, (.bool (((c106 != 95) && (c106 != 45)) && (!((decide (48 ≤ c106)) && (decide (c106 ≤ 57)))))))] [] ?_ ?_
         ·cases hg106 : ((c106 != 95) && (c106 != 45))
          ·refine Tr.pass rfl rfl rfl rfl rfl (by decide) ?_
           refine Tr.pass rfl rfl rfl rfl rfl (by decide) ?_
           refine Tr.pass rfl rfl rfl rfl rfl (by decide) ?_
           refine Tr.passU rfl rfl rfl rfl (by decide) ?_
           refine Tr.passU rfl rfl rfl rfl (by decide) ?_
           refine Tr.pass rfl rfl rfl rfl rfl (by decide) ?_
           refine Tr.pass rfl rfl rfl rfl rfl (by decide) ?_
           refine Tr.val (wg rfl rfl rfl) rfl (fun _ _ h1 h2 => run_pickF (h1.ev rfl) (h1.ev rfl)) ?_
           exact Tr.nil (Tr.fin0 (.cons rfl (.cons rfl (.cons rfl (.cons rfl (.cons rfl .nil))))) .nil)
          ·refine Tr.val (wg rfl rfl rfl) rfl (fun _ _ h1 h2 => run_move (h1.ev rfl)) ?_
           refine Tr.val (wg rfl rfl rfl) rfl (fun _ _ h1 h2 => run_geq (h1.ev rfl) (h1.ev rfl)) ?_
           refine Tr.val (wg rfl rfl rfl) rfl (fun _ _ h1 h2 => run_move (h1.ev rfl)) ?_
           refine Tr.mid0 3 [(0, (sv p0)), (3, (iv x105)), (31, (.bool true)), (34, (.bool false)), (41, (.bool true)), (47, (.bool ((decide (48 ≤ c106)) && (decide (c106 ≤ 57)))))] [] ?_ ?_
           ·cases hg106 : (decide (48 ≤ c106))
            ·refine Tr.pass rfl rfl rfl rfl rfl (by decide) ?_
             refine Tr.pass rfl rfl rfl rfl rfl (by decide) ?_
             refine Tr.val (wg rfl rfl rfl) rfl (fun _ _ h1 h2 => run_pickF (h1.ev rfl) (h1.ev rfl)) ?_
             exact Tr.nil (Tr.fin0 (.cons rfl (.cons rfl (.cons rfl (.cons rfl (.cons rfl (.cons rfl .nil)))))) .nil)
            ·refine Tr.val (wg rfl rfl rfl) rfl (fun _ _ h1 h2 => run_move (h1.ev rfl)) ?_
             refine Tr.val (wg rfl rfl rfl) rfl (fun _ _ h1 h2 => run_leq (h1.ev rfl) (h1.ev rfl)) ?_
             refine Tr.val (wg rfl rfl rfl) rfl (fun _ _ h1 h2 => run_pickT (h1.ev rfl) (h1.ev rfl)) ?_
             exact Tr.nil (Tr.fin0 (.cons rfl (.cons rfl (.cons rfl (.cons rfl (.cons rfl (.cons rfl .nil)))))) .nil)
           ·show Tr _ _ (LF [(0, (sv p0)), (3, (iv x105)), (31, (.bool true)), (34, (.bool false)), (41, (.bool true)), (47, (.bool ((decide (48 ≤ c106)) && (decide (c106 ≤ 57)))))]) (LE []) _
            refine Tr.val (wg rfl rfl rfl) rfl (fun _ _ h1 h2 => run_not (h1.ev rfl)) ?_
            refine Tr.val (wg rfl rfl rfl) rfl (fun _ _ h1 h2 => run_pickT (h1.ev rfl) (h1.ev rfl)) ?_
            exact Tr.nil (Tr.fin0 (.cons rfl (.cons rfl (.cons rfl (.cons rfl (.cons rfl .nil))))) .nil)
         ·show Tr _ _ (LF [(0, (sv p0)), (3, (iv x105)), (31, (.bool true)), (34, (.bool false)), (49, (.bool (((c106 != 95) && (c106 != 45)) && (!((decide (48 ≤ c106)) && (decide (c106 ≤ 57)))))))]) (LE []) _
          refine Tr.val (wg rfl rfl rfl) rfl (fun _ _ h1 h2 => run_pickF (h1.ev rfl) (h1.ev rfl)) ?_
          exact Tr.nil (Tr.fin0 (.cons rfl (.cons rfl (.cons rfl (.cons rfl .nil)))) .nil)
       ·refine Tr.pass rfl rfl rfl rfl rfl (by decide) ?_
        refine Tr.pass rfl rfl rfl rfl rfl (by decide) ?_
        refine Tr.pass rfl rfl rfl rfl rfl (by decide) ?_
        refine Tr.passU rfl rfl rfl rfl (by decide) ?_
        refine Tr.passU rfl rfl rfl rfl (by decide) ?_
        refine Tr.pass rfl rfl rfl rfl rfl (by decide) ?_
        refine Tr.pass rfl rfl rfl rfl rfl (by decide) ?_
        refine Tr.passU rfl rfl rfl rfl (by decide) ?_
        refine Tr.passU rfl rfl rfl rfl (by decide) ?_
        refine Tr.passU rfl rfl rfl rfl (by decide) ?_
        refine Tr.passU rfl rfl rfl rfl (by decide) ?_
        refine Tr.passU rfl rfl rfl rfl (by decide) ?_
        refine Tr.passU rfl rfl rfl rfl (by decide) ?_
        refine Tr.passU rfl rfl rfl rfl (by decide) ?_
        refine Tr.pass rfl rfl rfl rfl rfl (by decide) ?_
        refine Tr.val (wg rfl rfl rfl) rfl (fun _ _ h1 h2 => run_pickT (h1.ev rfl) (h1.ev rfl)) ?_
        exact Tr.nil (Tr.fin0 (.cons rfl (.cons rfl (.cons rfl (.cons rfl .nil)))) .nil)
      ·show Tr _ _ (LF [(0, (sv p0)), (3, (iv x105)), (31, (.bool true)), (50, (.bool ((x105 == 0) || (((c106 != 95) && (c106 != 45)) && (!((decide (48 ≤ c106)) && (decide (c106 ≤ 57))))))))]) (LE []) _
       refine Tr.va rfl (fun _ _ h1 h2 => run_pickT (h1.ev rfl) (h1.ev rfl)) ?_
       exact Tr.nil (Tr.fin0 (.cons rfl (.cons rfl (.cons rfl .nil))) .nil)
    ·show Tr _ _ (LF [(0, (sv p0)), (3, (iv x105)), (51, (.bool ((!(((decide (97 ≤ c106)) && (decide (c106 ≤ 122))) || ((decide (65 ≤ c106)) && (decide (c106 ≤ 90))))) && ((x105 == 0) || (((c106 != 95) && (c106 != 45)) && (!((decide (48 ≤ c106)) && (decide (c106 ≤ 57)))))))))]) (LE []) _
     refine Tr.nil (Tr.normThen ?_)
     refine Tr.cond rfl H (fun H => ?_) (fun H => ?_)
     ·refine Tr.sr ?_
      refine Tr.asg rfl rfl ?_
      refine Tr.nil (Tr.normThen ?_)
      refine Tr.ret (Tr.retBlock (Tr.retThen (Tr.retThen (Tr.retBlock (Tr.retThen ?_)))))
      obtain rfl := Option.some.inj H
      exact Tr.out (m := [(.bool false)]) [] (res_tmp rfl res_nil) (fun W hW => ⟨rfl, hW.low leB⟩)
     ·refine Tr.skip (Tr.normBlock (Tr.normThen ?_))
      refine Tr.region ?_
      refine Tr.mv rfl rfl ?_
      refine Tr.va rfl (fun _ _ h1 h2 => run_add (h1.ev rfl) (h1.ev rfl)) ?_
      refine Tr.asg rfl rfl ?_
      refine Tr.nil ?_
      exact Tr.backThen leL1 (w64 (x105 + 1)) H (.cons rfl (.cons rfl .nil)) .nil
 ·refine Tr.exit (Tr.exitThen (Tr.exitThen (Tr.exitBlock (Tr.normThen ?_))))
  refine Tr.sr ?_
  refine Tr.mv rfl rfl ?_
  refine Tr.va rfl (fun _ _ h1 h2 => run_lenS un_9 (h1.ev rfl)) ?_
  obtain ⟨y107, hy107, H⟩ := bnd H
  refine Tr.call0 (r := (.bool y107)) (wn rfl) rfl Tryz.call47 (evl_cons rfl (evl_cons rfl (evl_cons rfl evl_nil))) (fun W hW => F_etchhouseref3_within_ok (p0.size : Int) 1 40 y107 hy107 (HF.start _)) ?_
  refine Tr.asg rfl rfl ?_
  refine Tr.nil (Tr.normThen ?_)
  refine Tr.ret ?_
  obtain rfl := Option.some.inj H
  exact Tr.out (m := [(.bool y107)]) [] (res_tmp rfl res_nil) (fun W hW => ⟨rfl, hW.low leB⟩)

theorem F_etchhouseref1_within_ok {w : Bs} (p0 : Int) (p1 : Int) (p2 : Int) (r : Bool) (H : F_etchhouseref1_within p0 p1 p2 = some r) (hE : HF w w.W E0) : Calls Tryz.prog 132 [(iv p0), (iv p1), (iv p2)].toArray w.W fun e W' => e = .returned (.bool r) ∧ HF w W' E0 := by
 unfold F_etchhouseref1_within at H
 have leB := Bs.Le.refl w
 refine Tr.enter (n := 15) Tryz.func132 rfl rfl rfl hE ?_
 refine Tr.sr ?_
 refine Tr.asg rfl rfl ?_
 refine Tr.nil (Tr.normThen ?_)
 refine Tr.sr ?_
 refine Tr.mv rfl rfl ?_
 refine Tr.mv rfl rfl ?_
 refine Tr.va rfl (fun _ _ h1 h2 => run_geq (h1.ev rfl) (h1.ev rfl)) ?_
 refine Tr.mv rfl rfl ?_
 refine Tr.mid0 4 [(14, (.bool ((decide (p1 ≤ p0)) && (decide (p0 ≤ p2)))))] [] ?_ ?_
 ·cases hg99 : (decide (p1 ≤ p0))
  ·refine Tr.pass rfl rfl rfl rfl rfl (by decide) ?_
   refine Tr.pass rfl rfl rfl rfl rfl (by decide) ?_
   refine Tr.pass rfl rfl rfl rfl rfl (by decide) ?_
   refine Tr.va rfl (fun _ _ h1 h2 => run_pickF (h1.ev rfl) (h1.ev rfl)) ?_
   exact Tr.nil (Tr.fin0 (.cons rfl .nil) .nil)
  ·refine Tr.val (wg rfl rfl rfl) rfl (fun _ _ h1 h2 => run_move (h1.ev rfl)) ?_
   refine Tr.val (wg rfl rfl rfl) rfl (fun _ _ h1 h2 => run_move (h1.ev rfl)) ?_
   refine Tr.val (wg rfl rfl rfl) rfl (fun _ _ h1 h2 => run_leq (h1.ev rfl) (h1.ev rfl)) ?_
   refine Tr.va rfl (fun _ _ h1 h2 => run_pickT (h1.ev rfl) (h1.ev rfl)) ?_
   exact Tr.nil (Tr.fin0 (.cons rfl .nil) .nil)
 ·show Tr _ _ (LF [(14, (.bool ((decide (p1 ≤ p0)) && (decide (p0 ≤ p2)))))]) (LE []) _
  refine Tr.asg rfl rfl ?_
  refine Tr.nil (Tr.normThen ?_)
  refine Tr.ret ?_
  obtain rfl := Option.some.inj H
  exact Tr.out (m := [(.bool ((decide (p1 ≤ p0)) && (decide (p0 ≤ p2))))]) [] (res_tmp rfl res_nil) (fun W hW => ⟨rfl, hW.low leB⟩)

theorem F_etchhouseref1_At_ok {w : Bs} (p0 : Int) (r : Bool) (H : F_etchhouseref1_At p0 = some r) (hE : HF w w.W E0) : Calls Tryz.prog 106 [(iv p0)].toArray w.W fun e W' => e = .returned (.bool r) ∧ HF w W' E0 := by
 unfold F_etchhouseref1_At at H
 have leB := Bs.Le.refl w
 refine Tr.enter (n := 5) Tryz.func106 rfl rfl rfl hE ?_
 refine Tr.sr ?_
 refine Tr.asg rfl rfl ?_
 refine Tr.nil (Tr.normThen ?_)
 refine Tr.sr ?_
 refine Tr.mv rfl rfl ?_
 obtain ⟨y100, hy100, H⟩ := bnd H
 refine Tr.call0 (r := (.bool y100)) (wn rfl) rfl Tryz.call132 (evl_cons rfl (evl_cons rfl (evl_cons rfl evl_nil))) (fun W hW => F_etchhouseref1_within_ok p0 (-1000000) 1000000 y100 hy100 (HF.start _)) ?_
 refine Tr.asg rfl rfl ?_
 refine Tr.nil (Tr.normThen ?_)
 refine Tr.ret ?_
 obtain rfl := Option.some.inj H
 exact Tr.out (m := [(.bool y100)]) [] (res_tmp rfl res_nil) (fun W hW => ⟨rfl, hW.low leB⟩)

theorem F_etchhouseref3_fits_ok {w : Bs} (p0 : Int) (p1 : Int) (r : Bool) (H : F_etchhouseref3_fits p0 p1 = some r) (hE : HF w w.W E0) : Calls Tryz.prog 82 [(iv p0), (iv p1)].toArray w.W fun e W' => e = .returned (.bool r) ∧ HF w W' E0 := by
 unfold F_etchhouseref3_fits at H
 have leB := Bs.Le.refl w
 refine Tr.enter (n := 13) Tryz.func82 rfl rfl rfl hE ?_
 refine Tr.sr ?_
 refine Tr.asg rfl rfl ?_
 refine Tr.nil (Tr.normThen ?_)
 refine Tr.sr ?_
 refine Tr.mv rfl rfl ?_
 obtain ⟨y100, hy100, H⟩ := bnd H
 refine Tr.call0 (r := (.bool y100)) (wn rfl) rfl Tryz.call106 (evl_cons rfl evl_nil) (fun W hW => F_etchhouseref1_At_ok p0 y100 hy100 (HF.start _)) ?_
 refine Tr.mv rfl rfl ?_
 obtain ⟨g102, hg102, H⟩ := bnd H
 refine Tr.mid0 5 [(12, (.bool g102))] [] ?_ ?_
 ·cases hg103 : y100
  ·rw [hg103] at hg102
   rw [if_neg (by decide)] at hg102
   have H := hg102
   obtain rfl := Option.some.inj H
   refine Tr.pass rfl rfl rfl rfl rfl (by decide) ?_
   refine Tr.pass rfl rfl rfl rfl rfl (by decide) ?_
   refine Tr.pass rfl rfl rfl rfl rfl (by decide) ?_
   refine Tr.pass rfl rfl rfl rfl rfl (by decide) ?_
   refine Tr.va rfl (fun _ _ h1 h2 => run_pickF (h1.ev rfl) (h1.ev rfl)) ?_
   exact Tr.nil (Tr.fin0 (.cons rfl .nil) .nil)
  ·rw [hg103] at hg102
   rw [if_pos rfl] at hg102
   have H := hg102
   refine Tr.val (wg rfl rfl rfl) rfl (fun _ _ h1 h2 => run_move (h1.ev rfl)) ?_
   refine Tr.val (wg rfl rfl rfl) rfl (fun _ _ h1 h2 => run_move (h1.ev rfl)) ?_
   refine Tr.val (wg rfl rfl rfl) rfl (fun _ _ h1 h2 => run_mul (h1.ev rfl) (h1.ev rfl)) ?_
   obtain ⟨y103, hy103, H⟩ := bnd H
   refine Tr.call0 (r := (.bool y103)) (wg rfl rfl rfl) rfl Tryz.call106 (evl_cons rfl evl_nil) (fun W hW => F_etchhouseref1_At_ok (w64 (p0 * p1)) y103 hy103 (HF.start _)) ?_
   refine Tr.va rfl (fun _ _ h1 h2 => run_pickT (h1.ev rfl) (h1.ev rfl)) ?_
   obtain rfl := Option.some.inj H
   exact Tr.nil (Tr.fin0 (.cons rfl .nil) .nil)
 ·show Tr _ _ (LF [(12, (.bool g102))]) (LE []) _
  refine Tr.asg rfl rfl ?_
  refine Tr.nil (Tr.normThen ?_)
  refine Tr.ret ?_
  obtain rfl := Option.some.inj H
  exact Tr.out (m := [(.bool g102)]) [] (res_tmp rfl res_nil) (fun W hW => ⟨rfl, hW.low leB⟩)

theorem F_etchhouseref3_checkToolRects_ok (N : Nat) {w : Bs} (p0 : (List TRect)) (Ap0_0 : Option Addr) (cp0_0 : Nat) (hp0_0 : Sl w.R w.W fl_TRect Ap0_0 cp0_0 p0) (p1 : Int) (r : Int) (H : F_etchhouseref3_checkToolRects N p0 p1 = some r) (hE : HF w w.W E0) : Calls Tryz.prog 49 [(.slice Ap0_0 (p0).length cp0_0), (iv p1)].toArray w.W fun e W' => e = .returned (iv r) ∧ HF w W' E0 := by
 unfold F_etchhouseref3_checkToolRects at H
 have leB := Bs.Le.refl w
 refine Tr.enter (n := 61) Tryz.func49 rfl rfl rfl hE ?_
 refine Tr.sr ?_
 refine Tr.asg rfl rfl ?_
 refine Tr.nil (Tr.normThen ?_)
 refine Tr.seq ?_
 refine Tr.sr ?_
 refine Tr.mv rfl rfl ?_
 refine Tr.va rfl (fun _ _ h1 h2 => run_len un_52 (h1.ev rfl)) ?_
 refine Tr.va rfl (fun _ _ h1 h2 => run_eql (h1.ev rfl) (h1.ev rfl)) ?_
 refine Tr.nil (Tr.normThen ?_)
 refine Tr.cond rfl H (fun H => ?_) (fun H => ?_)
 ·refine Tr.sr ?_
  refine Tr.asg rfl rfl ?_
  refine Tr.nil (Tr.normThen ?_)
  refine Tr.ret (Tr.retThen ?_)
  obtain rfl := Option.some.inj H
  exact Tr.out (m := [(iv 9)]) [] (res_tmp rfl res_nil) (fun W hW => ⟨rfl, hW.low leB⟩)
 ·refine Tr.skip (Tr.normThen ?_)
  refine Tr.seq ?_
  refine Tr.sr ?_
  refine Tr.mv rfl rfl ?_
  refine Tr.va rfl (fun _ _ h1 h2 => run_len un_52 (h1.ev rfl)) ?_
  refine Tr.va rfl (fun _ _ h1 h2 => run_gtr (h1.ev rfl) (h1.ev rfl)) ?_
  refine Tr.nil (Tr.normThen ?_)
  refine Tr.cond rfl H (fun H => ?_) (fun H => ?_)
  ·refine Tr.sr ?_
   refine Tr.asg rfl rfl ?_
   refine Tr.nil (Tr.normThen ?_)
   refine Tr.ret (Tr.retThen ?_)
   obtain rfl := Option.some.inj H
   exact Tr.out (m := [(iv 2)]) [] (res_tmp rfl res_nil) (fun W hW => ⟨rfl, hW.low leB⟩)
  ·refine Tr.skip (Tr.normThen ?_)
   refine Tr.seq ?_
   refine Tr.sr ?_
   refine Tr.asg rfl rfl ?_
   refine Tr.nil (Tr.normThen ?_)
   refine Tr.block ?_
   refine Tr.loop (σ := Int) (fun m w s => F_etchhouseref3_checkToolRects_L1 p0 p1 m s = some r) (fun s => [(0, (.slice Ap0_0 (p0).length cp0_0)), (1, (iv p1)), (5, (iv s))]) (fun s => []) N 0 H (.cons rfl (.cons rfl (.cons rfl .nil))) .nil (fun _ _ h => noSome (h)) ?_
   intro w leL1 mL1 x127 hs
   have H := hs
   replace H : F_etchhouseref3_checkToolRects_L1 p0 p1 (mL1 + 1) x127 = some r := H
   replace hp0_0 := hp0_0.leR leL1
   replace leB := leB.trans leL1
   rw [F_etchhouseref3_checkToolRects_L1.eq_2] at H
   show Tr _ _ (LF [(0, (.slice Ap0_0 (p0).length cp0_0)), (1, (iv p1)), (5, (iv x127))]) (LE []) _
   refine Tr.seq ?_
   refine Tr.sr ?_
   refine Tr.mv rfl rfl ?_
   refine Tr.mv rfl rfl ?_
   refine Tr.va rfl (fun _ _ h1 h2 => run_len un_52 (h1.ev rfl)) ?_
   refine Tr.va rfl (fun _ _ h1 h2 => run_lss (h1.ev rfl) (h1.ev rfl)) ?_
   refine Tr.nil (Tr.normThen ?_)
   refine Tr.cond rfl H (fun H => ?_) (fun H => ?_)
   ·refine Tr.skip (Tr.normThen ?_)
    refine Tr.seq ?_
    refine Tr.block ?_
    refine Tr.sr ?_
    refine Tr.mv rfl rfl ?_
    refine Tr.mv rfl rfl ?_
    obtain ⟨x128, hx128, H⟩ := bnd H
    obtain ⟨hx1280, hx1281, hx1282⟩ := idx_some hx128
    refine Tr.va rfl (fun _ _ h1 h2 => run_indexAddr el_52 (h1.ev rfl) hp0_0.form (h1.ev rfl) hx1280 hx1281) ?_
    refine Tr.va rfl (fun _ _ h1 h2 => run_loadN (cs := [(iv x128.X0), (iv x128.Y0), (iv x128.X1), (iv x128.Y1)]) ag_66 sz_66 (h1.ev rfl) (CellsAt.take (rdF ef_TRect hp0_0 hx1282 h2) 4) rfl) ?_
    refine Tr.alloc 3 (wn rfl) rfl ze_66 fun b129 => ?_
    refine Tr.store 3 (cs := [(iv x128.X0), (iv x128.Y0), (iv x128.X1), (iv x128.Y1)]) [(iv x128.X0), (iv x128.Y0), (iv x128.X1), (iv x128.Y1)] (wn rfl) rfl rfl rfl rfl sz_66 rfl rfl rfl ?_
    refine Tr.nil (Tr.normThen ?_)
    refine Tr.seq ?_
    refine Tr.sr ?_
    refine Tr.va rfl (fun _ _ h1 h2 => run_fieldAddr fo_66_0 (h1.ev rfl)) ?_
    refine Tr.va rfl (fun _ _ h1 h2 => run_load1 ag_3 (h1.ev rfl) (rdb h2 (vs := [(iv x128.X0), (iv x128.Y0), (iv x128.X1), (iv x128.Y1)]) (k := 3) rfl 0) rfl) ?_
    refine Tr.mv rfl rfl ?_
    obtain ⟨y130, hy130, H⟩ := bnd H
    refine Tr.call0 (r := (.bool y130)) (wn rfl) rfl Tryz.call82 (evl_cons rfl (evl_cons rfl evl_nil)) (fun W hW => F_etchhouseref3_fits_ok x128.X0 p1 y130 hy130 (HF.start _)) ?_
    refine Tr.va rfl (fun _ _ h1 h2 => run_not (h1.ev rfl)) ?_
    refine Tr.mv rfl rfl ?_
    obtain ⟨g132, hg132, H⟩ := bnd H
    refine Tr.mid0 6 [(0, (.slice Ap0_0 (p0).length cp0_0)), (1, (iv p1)), (5, (iv x127)), (6, (.pointer (some ⟨b129, 0, none⟩))), (34, (.bool g132))] [(3, bx b129 #[(iv x128.X0), (iv x128.Y0), (iv x128.X1), (iv x128.Y1)] 66)] ?_ ?_
    ·cases hg139 : (!y130)
     ·rw [hg139] at hg132
      rw [if_neg (by decide)] at hg132
      have H := hg132
      refine Tr.val (wg rfl rfl rfl) rfl (fun _ _ h1 h2 => run_fieldAddr fo_66_1 (h1.ev rfl)) ?_
      refine Tr.val (wg rfl rfl rfl) rfl (fun _ _ h1 h2 => run_load1 ag_3 (h1.ev rfl) (rdb h2 (vs := [(iv x128.X0), (iv x128.Y0), (iv x128.X1), (iv x128.Y1)]) (k := 3) rfl 1) rfl) ?_
      refine Tr.val (wg rfl rfl rfl) rfl (fun _ _ h1 h2 => run_move (h1.ev rfl)) ?_
      obtain ⟨y133, hy133, H⟩ := bnd H
      refine Tr.call0 (r := (.bool y133)) (wg rfl rfl rfl) rfl Tryz.call82 (evl_cons rfl (evl_cons rfl evl_nil)) (fun W hW => F_etchhouseref3_fits_ok x128.Y0 p1 y133 hy133 (HF.start _)) ?_
      refine Tr.val (wg rfl rfl rfl) rfl (fun _ _ h1 h2 => run_not (h1.ev rfl)) ?_
      refine Tr.va rfl (fun _ _ h1 h2 => run_pickF (h1.ev rfl) (h1.ev rfl)) ?_
      obtain rfl := Option.some.inj H
      exact Tr.nil (Tr.fin0 (.cons rfl (.cons rfl (.cons rfl (.cons rfl (.cons rfl .nil))))) (.cons rfl .nil))
     ·rw [hg139] at hg132
      rw [if_pos rfl] at hg132
      have H := hg132
      obtain rfl := Option.some.inj H
      refine Tr.pass rfl rfl rfl rfl rfl (by decide) ?_
      refine Tr.pass rfl rfl rfl rfl rfl (by decide) ?_
      refine Tr.pass rfl rfl rfl rfl rfl (by decide) ?_
      refine Tr.pass rfl rfl rfl rfl rfl (by decide) ?_
      refine Tr.pass rfl rfl rfl rfl rfl (by decide) ?_
      refine Tr.va rfl (fun _ _ h1 h2 => run_pickT (h1.ev rfl) (h1.ev rfl)) ?_
      exact Tr.nil (Tr.fin0 (.cons rfl (.cons rfl (.cons rfl (.cons rfl (.cons rfl .nil))))) (.cons rfl .nil))
    ·show Tr _ _ (LF [(0, (.slice Ap0_0 (p0).length cp0_0)), (1, (iv p1)), (5, (iv x127)), (6, (.pointer (some ⟨b129, 0, none⟩))), (34, (.bool g132))]) (LE [(3, bx b129 #[(iv x128.X0), (iv x128.Y0), (iv x128.X1), (iv x128.Y1)] 66)]) _
     refine Tr.mv rfl rfl ?_
     obtain ⟨g135, hg135, H⟩ := bnd H
     refine Tr.mid0 6 [(0, (.slice Ap0_0 (p0).length cp0_0)), (1, (iv p1)), (5, (iv x127)), (6, (.pointer (some ⟨b129, 0, none⟩))), (41, (.bool g135))] [(3, bx b129 #[(iv x128.X0), (iv x128.Y0), (iv x128.X1), (iv x128.Y1)] 66)] ?_ ?_
     ·cases hg139 : g132
      ·rw [hg139] at hg135
       rw [if_neg (by decide)] at hg135
       have H := hg135
       refine Tr.val (wg rfl rfl rfl) rfl (fun _ _ h1 h2 => run_fieldAddr fo_66_2 (h1.ev rfl)) ?_
       refine Tr.val (wg rfl rfl rfl) rfl (fun _ _ h1 h2 => run_load1 ag_3 (h1.ev rfl) (rdb h2 (vs := [(iv x128.X0), (iv x128.Y0), (iv x128.X1), (iv x128.Y1)]) (k := 3) rfl 2) rfl) ?_
       refine Tr.val (wg rfl rfl rfl) rfl (fun _ _ h1 h2 => run_move (h1.ev rfl)) ?_
       obtain ⟨y136, hy136, H⟩ := bnd H
       refine Tr.call0 (r := (.bool y136)) (wg rfl rfl rfl) rfl Tryz.call82 (evl_cons rfl (evl_cons rfl evl_nil)) (fun W hW => F_etchhouseref3_fits_ok x128.X1 p1 y136 hy136 (HF.start _)) ?_
       refine Tr.val (wg rfl rfl rfl) rfl (fun _ _ h1 h2 => run_not (h1.ev rfl)) ?_
       refine Tr.va rfl (fun _ _ h1 h2 => run_pickF (h1.ev rfl) (h1.ev rfl)) ?_
       obtain rfl := Option.some.inj H
       exact Tr.nil (Tr.fin0 (.cons rfl (.cons rfl (.cons rfl (.cons rfl (.cons rfl .nil))))) (.cons rfl .nil))
      ·rw [hg139] at hg135
       rw [if_pos rfl] at hg135
       have H := hg135
       obtain rfl := Option.some.inj H
       refine Tr.pass rfl rfl rfl rfl rfl (by decide) ?_
       refine Tr.pass rfl rfl rfl rfl rfl (by decide) ?_
       refine Tr.pass rfl rfl rfl rfl rfl (by decide) ?_
       refine Tr.pass rfl rfl rfl rfl rfl (by decide) ?_
       refine Tr.pass rfl rfl rfl rfl rfl (by decide) ?_
       refine Tr.va rfl (fun _ _ h1 h2 => run_pickT (h1.ev rfl) (h1.ev rfl)) ?_
       exact Tr.nil (Tr.fin0 (.cons rfl (.cons rfl (.cons rfl (.cons rfl (.cons rfl .nil))))) (.cons rfl .nil))
     ·show Tr _ _ (LF [(0, (.slice Ap0_0 (p0).length cp0_0)), (1, (iv p1)), (5, (iv x127)), (6, (.pointer (some ⟨b129, 0, none⟩))), (41, (.bool g135))]) (LE [(3, bx b129 #[(iv x128.X0), (iv x128.Y0), (iv x128.X1), (iv x128.Y1)] 66)]) _
      refine Tr.mv rfl rfl ?_
      obtain ⟨g138, hg138, H⟩ := bnd H
      refine Tr.mid0 6 [(0, (.slice Ap0_0 (p0).length cp0_0)), (1, (iv p1)), (5, (iv x127)), (6, (.pointer (some ⟨b129, 0, none⟩))), (48, (.bool g138))] [(3, bx b129 #[(iv x128.X0), (iv x128.Y0), (iv x128.X1), (iv x128.Y1)] 66)] ?_ ?_
      ·cases hg139 : g135
       ·rw [hg139] at hg138
        rw [if_neg (by decide)] at hg138
        have H := hg138
        refine Tr.val (wg rfl rfl rfl) rfl (fun _ _ h1 h2 => run_fieldAddr fo_66_3 (h1.ev rfl)) ?_
        refine Tr.val (wg rfl rfl rfl) rfl (fun _ _ h1 h2 => run_load1 ag_3 (h1.ev rfl) (rdb h2 (vs := [(iv x128.X0), (iv x128.Y0), (iv x128.X1), (iv x128.Y1)]) (k := 3) rfl 3) rfl) ?_
        refine Tr.val (wg rfl rfl rfl) rfl (fun _ _ h1 h2 => run_move (h1.ev rfl)) ?_
        obtain ⟨y139, hy139, H⟩ := bnd H
        refine Tr.call0 (r := (.bool y139)) (wg rfl rfl rfl) rfl Tryz.call82 (evl_cons rfl (evl_cons rfl evl_nil)) (fun W hW => F_etchhouseref3_fits_ok x128.Y1 p1 y139 hy139 (HF.start _)) ?_
        refine Tr.val (wg rfl rfl rfl) rfl (fun _ _ h1 h2 => run_not (h1.ev rfl)) ?_
        refine Tr.va rfl (fun _ _ h1 h2 => run_pickF (h1.ev rfl) (h1.ev rfl)) ?_
        obtain rfl := Option.some.inj H
        exact Tr.nil (Tr.fin0 (.cons rfl (.cons rfl (.cons rfl (.cons rfl (.cons rfl .nil))))) (.cons rfl .nil))
       ·rw [hg139] at hg138
        rw [if_pos rfl] at hg138
        have H := hg138
        obtain rfl := Option.some.inj H
        refine Tr.pass rfl rfl rfl rfl rfl (by decide) ?_
        refine Tr.pass rfl rfl rfl rfl rfl (by decide) ?_
        refine Tr.pass rfl rfl rfl rfl rfl (by decide) ?_
        refine Tr.pass rfl rfl rfl rfl rfl (by decide) ?_
        refine Tr.pass rfl rfl rfl rfl rfl (by decide) ?_
        refine Tr.va rfl (fun _ _ h1 h2 => run_pickT (h1.ev rfl) (h1.ev rfl)) ?_
        exact Tr.nil (Tr.fin0 (.cons rfl (.cons rfl (.cons rfl (.cons rfl (.cons rfl .nil))))) (.cons rfl .nil))
      ·show Tr _ _ (LF [(0, (.slice Ap0_0 (p0).length cp0_0)), (1, (iv p1)), (5, (iv x127)), (6, (.pointer (some ⟨b129, 0, none⟩))), (48, (.bool g138))]) (LE [(3, bx b129 #[(iv x128.X0), (iv x128.Y0), (iv x128.X1), (iv x128.Y1)] 66)]) _
       refine Tr.nil (Tr.normThen ?_)
       refine Tr.cond rfl H (fun H => ?_) (fun H => ?_)
       ·refine Tr.sr ?_
        refine Tr.asg rfl rfl ?_
        refine Tr.nil (Tr.normThen ?_)
        refine Tr.ret (Tr.retThen (Tr.retBlock (Tr.retThen (Tr.retThen (Tr.retBlock (Tr.retThen ?_))))))
        obtain rfl := Option.some.inj H
        exact Tr.out (m := [(iv 1)]) [] (res_tmp rfl res_nil) (fun W hW => ⟨rfl, hW.low leB⟩)
       ·refine Tr.skip (Tr.normThen ?_)
        refine Tr.sr ?_
        refine Tr.va rfl (fun _ _ h1 h2 => run_fieldAddr fo_66_2 (h1.ev rfl)) ?_
        refine Tr.va rfl (fun _ _ h1 h2 => run_load1 ag_3 (h1.ev rfl) (rdb h2 (vs := [(iv x128.X0), (iv x128.Y0), (iv x128.X1), (iv x128.Y1)]) (k := 3) rfl 2) rfl) ?_
        refine Tr.va rfl (fun _ _ h1 h2 => run_fieldAddr fo_66_0 (h1.ev rfl)) ?_
        refine Tr.va rfl (fun _ _ h1 h2 => run_load1 ag_3 (h1.ev rfl) (rdb h2 (vs := [(iv x128.X0), (iv x128.Y0), (iv x128.X1), (iv x128.Y1)]) (k := 3) rfl 0) rfl) ?_
        refine Tr.va rfl (fun _ _ h1 h2 => run_leq (h1.ev rfl) (h1.ev rfl)) ?_
        refine Tr.mv rfl rfl ?_
        refine Tr.mid0 6 [(0, (.slice Ap0_0 (p0).length cp0_0)), (1, (iv p1)), (5, (iv x127)), (60, (.bool ((decide (x128.X1 ≤ x128.X0)) || (decide (x128.Y1 ≤ x128.Y0)))))] [(3, bx b129 #[(iv x128.X0), (iv x128.Y0), (iv x128.X1), (iv x128.Y1)] 66)] ?_ ?_
        ·cases hg139 : (decide (x128.X1 ≤ x128.X0))
         ·refine Tr.val (wg rfl rfl rfl) rfl (fun _ _ h1 h2 => run_fieldAddr fo_66_3 (h1.ev rfl)) ?_
          refine Tr.val (wg rfl rfl rfl) rfl (fun _ _ h1 h2 => run_load1 ag_3 (h1.ev rfl) (rdb h2 (vs := [(iv x128.X0), (iv x128.Y0), (iv x128.X1), (iv x128.Y1)]) (k := 3) rfl 3) rfl) ?_
          refine Tr.val (wg rfl rfl rfl) rfl (fun _ _ h1 h2 => run_fieldAddr fo_66_1 (h1.ev rfl)) ?_
          refine Tr.val (wg rfl rfl rfl) rfl (fun _ _ h1 h2 => run_load1 ag_3 (h1.ev rfl) (rdb h2 (vs := [(iv x128.X0), (iv x128.Y0), (iv x128.X1), (iv x128.Y1)]) (k := 3) rfl 1) rfl) ?_
          refine Tr.val (wg rfl rfl rfl) rfl (fun _ _ h1 h2 => run_leq (h1.ev rfl) (h1.ev rfl)) ?_
          refine Tr.va rfl (fun _ _ h1 h2 => run_pickF (h1.ev rfl) (h1.ev rfl)) ?_
          exact Tr.nil (Tr.fin0 (.cons rfl (.cons rfl (.cons rfl (.cons rfl .nil)))) (.cons rfl .nil))
         ·refine Tr.pass rfl rfl rfl rfl rfl (by decide) ?_
          refine Tr.pass rfl rfl rfl rfl rfl (by decide) ?_
          refine Tr.pass rfl rfl rfl rfl rfl (by decide) ?_
          refine Tr.pass rfl rfl rfl rfl rfl (by decide) ?_
          refine Tr.pass rfl rfl rfl rfl rfl (by decide) ?_
          refine Tr.va rfl (fun _ _ h1 h2 => run_pickT (h1.ev rfl) (h1.ev rfl)) ?_
          exact Tr.nil (Tr.fin0 (.cons rfl (.cons rfl (.cons rfl (.cons rfl .nil)))) (.cons rfl .nil))
        ·show Tr _ _ (LF [(0, (.slice Ap0_0 (p0).length cp0_0)), (1, (iv p1)), (5, (iv x127)), (60, (.bool ((decide (x128.X1 ≤ x128.X0)) || (decide (x128.Y1 ≤ x128.Y0)))))]) (LE [(3, bx b129 #[(iv x128.X0), (iv x128.Y0), (iv x128.X1), (iv x128.Y1)] 66)]) _
         refine Tr.nil (Tr.normThen ?_)
         refine Tr.cond rfl H (fun H => ?_) (fun H => ?_)
         ·refine Tr.sr ?_
          refine Tr.asg rfl rfl ?_
          refine Tr.nil (Tr.normThen ?_)
          refine Tr.ret (Tr.retBlock (Tr.retThen (Tr.retThen (Tr.retBlock (Tr.retThen ?_)))))
          obtain rfl := Option.some.inj H
          exact Tr.out (m := [(iv 13)]) [] (res_tmp rfl res_nil) (fun W hW => ⟨rfl, hW.low leB⟩)
         ·refine Tr.skip (Tr.normBlock (Tr.normThen ?_))
          refine Tr.region ?_
          refine Tr.mv rfl rfl ?_
          refine Tr.va rfl (fun _ _ h1 h2 => run_add (h1.ev rfl) (h1.ev rfl)) ?_
          refine Tr.asg rfl rfl ?_
          refine Tr.nil ?_
          exact Tr.backThen leL1 (w64 (x127 + 1)) H (.cons rfl (.cons rfl (.cons rfl .nil))) .nil
   ·refine Tr.exit (Tr.exitThen (Tr.exitThen (Tr.exitBlock (Tr.normThen ?_))))
    refine Tr.sr ?_
    refine Tr.asg rfl rfl ?_
    refine Tr.nil (Tr.normThen ?_)
    refine Tr.ret ?_
    obtain rfl := Option.some.inj H
    exact Tr.out (m := [(iv 0)]) [] (res_tmp rfl res_nil) (fun W hW => ⟨rfl, hW.low leB⟩)

theorem F_etchhouseref3_count_b_ok (N : Nat) (rec : (List TPlotStep) → Option Int) (hrec : ∀ {w : Bs} (p0 : (List TPlotStep)) (Ap0_0 : Option Addr) (cp0_0 : Nat) (hp0_0 : Sl w.R w.W fl_TPlotStep Ap0_0 cp0_0 p0) (r : Int) (H : rec p0 = some r) (hE : HF w w.W E0), Calls Tryz.prog 50 [(.slice Ap0_0 (p0).length cp0_0)].toArray w.W fun e W' => e = .returned (iv r) ∧ HF w W' E0) {w : Bs} (p0 : (List TPlotStep)) (Ap0_0 : Option Addr) (cp0_0 : Nat) (hp0_0 : Sl w.R w.W fl_TPlotStep Ap0_0 cp0_0 p0) (r : Int) (H : F_etchhouseref3_count_b N rec p0 = some r) (hE : HF w w.W E0) : Calls Tryz.prog 50 [(.slice Ap0_0 (p0).length cp0_0)].toArray w.W fun e W' => e = .returned (iv r) ∧ HF w W' E0 := by
 unfold F_etchhouseref3_count_b at H
 have leB := Bs.Le.refl w
 refine Tr.enter (n := 55) Tryz.func50 rfl rfl rfl hE ?_
 refine Tr.sr ?_
 refine Tr.asg rfl rfl ?_
 refine Tr.nil (Tr.normThen ?_)
 refine Tr.sr ?_
 refine Tr.asg rfl rfl ?_
 refine Tr.nil (Tr.normThen ?_)
 refine Tr.seq ?_
 refine Tr.sr ?_
 refine Tr.asg rfl rfl ?_
 refine Tr.nil (Tr.normThen ?_)
 refine Tr.block ?_
 refine Tr.loop (σ := Int × Int) (fun m w s => F_etchhouseref3_count_L5 p0 rec m s.1 s.2 = some r) (fun s => [(0, (.slice Ap0_0 (p0).length cp0_0)), (3, (iv s.1)), (4, (iv s.2))]) (fun s => []) N (0, 0) H (.cons rfl (.cons rfl (.cons rfl .nil))) .nil (fun _ _ h => noSome (h)) ?_
 intro w leL5 mL5 s hs
 obtain ⟨x164, x165⟩ := s
 have H := hs
 replace H : F_etchhouseref3_count_L5 p0 rec (mL5 + 1) x164 x165 = some r := H
 replace hp0_0 := hp0_0.leR leL5
 replace leB := leB.trans leL5
 rw [F_etchhouseref3_count_L5.eq_2] at H
 show Tr _ _ (LF [(0, (.slice Ap0_0 (p0).length cp0_0)), (3, (iv x164)), (4, (iv x165))]) (LE []) _
 refine Tr.seq ?_
 refine Tr.sr ?_
 refine Tr.mv rfl rfl ?_
 refine Tr.mv rfl rfl ?_
 refine Tr.va rfl (fun _ _ h1 h2 => run_len un_23 (h1.ev rfl)) ?_
 refine Tr.va rfl (fun _ _ h1 h2 => run_lss (h1.ev rfl) (h1.ev rfl)) ?_
 refine Tr.mv rfl rfl ?_
 refine Tr.mid0 3 [(0, (.slice Ap0_0 (p0).length cp0_0)), (3, (iv x164)), (4, (iv x165)), (14, (.bool ((decide (x165 < (p0.length : Int))) && (decide (x164 ≤ 3000)))))] [] ?_ ?_
 ·cases hg194 : (decide (x165 < (p0.length : Int)))
  ·refine Tr.pass rfl rfl rfl rfl rfl (by decide) ?_
   refine Tr.pass rfl rfl rfl rfl rfl (by decide) ?_
   refine Tr.va rfl (fun _ _ h1 h2 => run_pickF (h1.ev rfl) (h1.ev rfl)) ?_
   exact Tr.nil (Tr.fin0 (.cons rfl (.cons rfl (.cons rfl (.cons rfl .nil)))) .nil)
  ·refine Tr.val (wg rfl rfl rfl) rfl (fun _ _ h1 h2 => run_move (h1.ev rfl)) ?_
   refine Tr.val (wg rfl rfl rfl) rfl (fun _ _ h1 h2 => run_leq (h1.ev rfl) (h1.ev rfl)) ?_
   refine Tr.va rfl (fun _ _ h1 h2 => run_pickT (h1.ev rfl) (h1.ev rfl)) ?_
   exact Tr.nil (Tr.fin0 (.cons rfl (.cons rfl (.cons rfl (.cons rfl .nil)))) .nil)
 ·show Tr _ _ (LF [(0, (.slice Ap0_0 (p0).length cp0_0)), (3, (iv x164)), (4, (iv x165)), (14, (.bool ((decide (x165 < (p0.length : Int))) && (decide (x164 ≤ 3000)))))]) (LE []) _
  refine Tr.nil (Tr.normThen ?_)
  refine Tr.cond rfl H (fun H => ?_) (fun H => ?_)
  ·refine Tr.skip (Tr.normThen ?_)
   refine Tr.seq ?_
   refine Tr.block ?_
   refine Tr.sr ?_
   refine Tr.mv rfl rfl ?_
   refine Tr.va rfl (fun _ _ h1 h2 => run_add (h1.ev rfl) (h1.ev rfl)) ?_
   refine Tr.asg rfl rfl ?_
   refine Tr.nil (Tr.normThen ?_)
   refine Tr.sr ?_
   refine Tr.asg rfl rfl ?_
   refine Tr.asg rfl rfl ?_
   refine Tr.nil (Tr.normThen ?_)
   have leJ172 := Bs.Le.refl w
   refine Tr.cutJ (σ := Int) (fun w s => F_etchhouseref3_count_J7 p0 rec x164 x165 (F_etchhouseref3_count_L5 p0 rec mL5) s = some r) (fun s => [(0, (.slice Ap0_0 (p0).length cp0_0)), (3, (iv (w64 (x164 + 1)))), (4, (iv x165)), (5, (iv s)), (6, (iv 1))]) (fun s => []) ?_ ?_
   ·refine Tr.sr ?_
    refine Tr.mv rfl rfl ?_
    refine Tr.mv rfl rfl ?_
    obtain ⟨x190, hx190, H⟩ := bnd H
    obtain ⟨hx1900, hx1901, hx1902⟩ := idx_some hx190
    obtain ⟨u191, hRu191, hoku191, hcu191⟩ := (hp0_0).el hx1902
    obtain ⟨⟨Au191_0, cu191_0⟩, ⟨Au191_1, cu191_1⟩⟩ := u191
    obtain ⟨hoku191_0, hoku191_1⟩ := TPlotStep_ok.1 hoku191
    replace hoku191_0 : Sl w.R w.W fl_TPoint Au191_0 cu191_0 x190.Points := hoku191_0
    replace hoku191_1 : Sl w.R w.W fl_TPlotStep Au191_1 cu191_1 x190.Steps := hoku191_1
    refine Tr.va rfl (fun _ _ h1 h2 => run_indexAddr el_23 (h1.ev rfl) hp0_0.form (h1.ev rfl) hx1900 hx1901) ?_
    refine Tr.va rfl (fun _ _ h1 h2 => run_fieldAddr fo_49_4 (h1.ev rfl)) ?_
    refine Tr.va rfl (fun _ _ h1 h2 => run_load1 ag_3 (h1.ev rfl) (CellsAt.drop (rdR hRu191 hcu191 h2) 5) rfl) ?_
    obtain ⟨y192, hy192, H⟩ := bnd H
    refine Tr.call0 (r := (.bool y192)) (wn rfl) rfl Tryz.call47 (evl_cons rfl (evl_cons rfl (evl_cons rfl evl_nil))) (fun W hW => F_etchhouseref3_within_ok x190.NX 1 100 y192 hy192 (HF.start _)) ?_
    refine Tr.nil (Tr.normThen ?_)
    refine Tr.cond rfl H (fun H => ?_) (fun H => ?_)
    ·refine Tr.region ?_
     refine Tr.mv rfl rfl ?_
     refine Tr.mv rfl rfl ?_
     obtain ⟨x193, hx193, H⟩ := bnd H
     obtain ⟨hx1930, hx1931, hx1932⟩ := idx_some hx193
     obtain ⟨u194, hRu194, hoku194, hcu194⟩ := (hp0_0).el hx1932
     obtain ⟨⟨Au194_0, cu194_0⟩, ⟨Au194_1, cu194_1⟩⟩ := u194
     obtain ⟨hoku194_0, hoku194_1⟩ := TPlotStep_ok.1 hoku194
     replace hoku194_0 : Sl w.R w.W fl_TPoint Au194_0 cu194_0 x193.Points := hoku194_0
     replace hoku194_1 : Sl w.R w.W fl_TPlotStep Au194_1 cu194_1 x193.Steps := hoku194_1
     refine Tr.va rfl (fun _ _ h1 h2 => run_indexAddr el_23 (h1.ev rfl) hp0_0.form (h1.ev rfl) hx1930 hx1931) ?_
     refine Tr.va rfl (fun _ _ h1 h2 => run_fieldAddr fo_49_4 (h1.ev rfl)) ?_
     refine Tr.va rfl (fun _ _ h1 h2 => run_load1 ag_3 (h1.ev rfl) (CellsAt.drop (rdR hRu194 hcu194 h2) 5) rfl) ?_
     refine Tr.asg rfl rfl ?_
     refine Tr.nil ?_
     exact Tr.backThen leJ172 x193.NX H (.cons rfl (.cons rfl (.cons rfl (.cons rfl (.cons rfl .nil))))) .nil
    ·refine Tr.skip ?_
     exact Tr.backThen leJ172 1 H (.cons rfl (.cons rfl (.cons rfl (.cons rfl (.cons rfl .nil))))) .nil
   ·intro w x171 hlJ173 hs
    have H := hs
    replace H : F_etchhouseref3_count_J7 p0 rec x164 x165 (F_etchhouseref3_count_L5 p0 rec mL5) x171 = some r := H
    replace hp0_0 := hp0_0.leR hlJ173
    replace leB := leB.trans hlJ173
    replace leL5 := leL5.trans hlJ173
    unfold F_etchhouseref3_count_J7 at H
    show Tr _ _ (LF [(0, (.slice Ap0_0 (p0).length cp0_0)), (3, (iv (w64 (x164 + 1)))), (4, (iv x165)), (5, (iv x171)), (6, (iv 1))]) (LE []) _
    have leJ180 := Bs.Le.refl w
    refine Tr.cutJ (σ := Int) (fun w s => F_etchhouseref3_count_J6 p0 rec x164 x165 (F_etchhouseref3_count_L5 p0 rec mL5) x171 s = some r) (fun s => [(0, (.slice Ap0_0 (p0).length cp0_0)), (3, (iv (w64 (x164 + 1)))), (4, (iv x165)), (5, (iv x171)), (6, (iv s))]) (fun s => []) ?_ ?_
    ·refine Tr.sr ?_
     refine Tr.mv rfl rfl ?_
     refine Tr.mv rfl rfl ?_
     obtain ⟨x185, hx185, H⟩ := bnd H
     obtain ⟨hx1850, hx1851, hx1852⟩ := idx_some hx185
     obtain ⟨u186, hRu186, hoku186, hcu186⟩ := (hp0_0).el hx1852
     obtain ⟨⟨Au186_0, cu186_0⟩, ⟨Au186_1, cu186_1⟩⟩ := u186
     obtain ⟨hoku186_0, hoku186_1⟩ := TPlotStep_ok.1 hoku186
     replace hoku186_0 : Sl w.R w.W fl_TPoint Au186_0 cu186_0 x185.Points := hoku186_0
     replace hoku186_1 : Sl w.R w.W fl_TPlotStep Au186_1 cu186_1 x185.Steps := hoku186_1
     refine Tr.va rfl (fun _ _ h1 h2 => run_indexAddr el_23 (h1.ev rfl) hp0_0.form (h1.ev rfl) hx1850 hx1851) ?_
     refine Tr.va rfl (fun _ _ h1 h2 => run_fieldAddr fo_49_5 (h1.ev rfl)) ?_
     refine Tr.va rfl (fun _ _ h1 h2 => run_load1 ag_3 (h1.ev rfl) (CellsAt.drop (rdR hRu186 hcu186 h2) 6) rfl) ?_
     obtain ⟨y187, hy187, H⟩ := bnd H
     refine Tr.call0 (r := (.bool y187)) (wn rfl) rfl Tryz.call47 (evl_cons rfl (evl_cons rfl (evl_cons rfl evl_nil))) (fun W hW => F_etchhouseref3_within_ok x185.NY 1 100 y187 hy187 (HF.start _)) ?_
     refine Tr.nil (Tr.normThen ?_)
     refine Tr.cond rfl H (fun H => ?_) (fun H => ?_)
     ·refine Tr.region ?_
      refine Tr.mv rfl rfl ?_
      refine Tr.mv rfl rfl ?_
      obtain ⟨x188, hx188, H⟩ := bnd H
      obtain ⟨hx1880, hx1881, hx1882⟩ := idx_some hx188
      obtain ⟨u189, hRu189, hoku189, hcu189⟩ := (hp0_0).el hx1882
      obtain ⟨⟨Au189_0, cu189_0⟩, ⟨Au189_1, cu189_1⟩⟩ := u189
      obtain ⟨hoku189_0, hoku189_1⟩ := TPlotStep_ok.1 hoku189
      replace hoku189_0 : Sl w.R w.W fl_TPoint Au189_0 cu189_0 x188.Points := hoku189_0
      replace hoku189_1 : Sl w.R w.W fl_TPlotStep Au189_1 cu189_1 x188.Steps := hoku189_1
      refine Tr.va rfl (fun _ _ h1 h2 => run_indexAddr el_23 (h1.ev rfl) hp0_0.form (h1.ev rfl) hx1880 hx1881) ?_
      refine Tr.va rfl (fun _ _ h1 h2 => run_fieldAddr fo_49_5 (h1.ev rfl)) ?_
      refine Tr.va rfl (fun _ _ h1 h2 => run_load1 ag_3 (h1.ev rfl) (CellsAt.drop (rdR hRu189 hcu189 h2) 6) rfl) ?_
      refine Tr.asg rfl rfl ?_
      refine Tr.nil ?_
      exact Tr.backThen leJ180 x188.NY H (.cons rfl (.cons rfl (.cons rfl (.cons rfl (.cons rfl .nil))))) .nil
     ·refine Tr.skip ?_
      exact Tr.backThen leJ180 1 H (.cons rfl (.cons rfl (.cons rfl (.cons rfl (.cons rfl .nil))))) .nil
    ·intro w x179 hlJ181 hs
     have H := hs
     replace H : F_etchhouseref3_count_J6 p0 rec x164 x165 (F_etchhouseref3_count_L5 p0 rec mL5) x171 x179 = some r := H
     replace hp0_0 := hp0_0.leR hlJ181
     replace leB := leB.trans hlJ181
     replace leL5 := leL5.trans hlJ181
     unfold F_etchhouseref3_count_J6 at H
     show Tr _ _ (LF [(0, (.slice Ap0_0 (p0).length cp0_0)), (3, (iv (w64 (x164 + 1)))), (4, (iv x165)), (5, (iv x171)), (6, (iv x179))]) (LE []) _
     refine Tr.region ?_
     refine Tr.mv rfl rfl ?_
     refine Tr.mv rfl rfl ?_
     refine Tr.mv rfl rfl ?_
     refine Tr.va rfl (fun _ _ h1 h2 => run_mul (h1.ev rfl) (h1.ev rfl)) ?_
     refine Tr.mv rfl rfl ?_
     refine Tr.mv rfl rfl ?_
     obtain ⟨x182, hx182, H⟩ := bnd H
     obtain ⟨hx1820, hx1821, hx1822⟩ := idx_some hx182
     obtain ⟨u183, hRu183, hoku183, hcu183⟩ := (hp0_0).el hx1822
     obtain ⟨⟨Au183_0, cu183_0⟩, ⟨Au183_1, cu183_1⟩⟩ := u183
     obtain ⟨hoku183_0, hoku183_1⟩ := TPlotStep_ok.1 hoku183
     replace hoku183_0 : Sl w.R w.W fl_TPoint Au183_0 cu183_0 x182.Points := hoku183_0
     replace hoku183_1 : Sl w.R w.W fl_TPlotStep Au183_1 cu183_1 x182.Steps := hoku183_1
     refine Tr.va rfl (fun _ _ h1 h2 => run_indexAddr el_23 (h1.ev rfl) hp0_0.form (h1.ev rfl) hx1820 hx1821) ?_
     refine Tr.va rfl (fun _ _ h1 h2 => run_fieldAddr fo_49_6 (h1.ev rfl)) ?_
     refine Tr.va rfl (fun _ _ h1 h2 => run_load1 ag_23 (h1.ev rfl) (CellsAt.drop (rdR hRu183 hcu183 h2) 7) rfl) ?_
     obtain ⟨y184, hy184, H⟩ := bnd H
     refine Tr.call0 (r := (iv y184)) (wn rfl) rfl Tryz.call50 (evl_cons rfl evl_nil) (fun W hW => hrec x182.Steps Au183_1 cu183_1 (hoku183_1.ext hW.extAll) y184 hy184 (HF.start _)) ?_
     refine Tr.va rfl (fun _ _ h1 h2 => run_mul (h1.ev rfl) (h1.ev rfl)) ?_
     refine Tr.va rfl (fun _ _ h1 h2 => run_add (h1.ev rfl) (h1.ev rfl)) ?_
     refine Tr.asg rfl rfl ?_
     refine Tr.nil (Tr.normBlock (Tr.normThen ?_))
     refine Tr.region ?_
     refine Tr.mv rfl rfl ?_
     refine Tr.va rfl (fun _ _ h1 h2 => run_add (h1.ev rfl) (h1.ev rfl)) ?_
     refine Tr.asg rfl rfl ?_
     refine Tr.nil ?_
     exact Tr.backThen leL5 ((w64 ((w64 (x164 + 1)) + (w64 ((w64 (x171 * x179)) * y184)))), (w64 (x165 + 1))) H (.cons rfl (.cons rfl (.cons rfl .nil))) .nil
  ·refine Tr.exit (Tr.exitThen (Tr.exitThen (Tr.exitBlock (Tr.normThen ?_))))
   refine Tr.sr ?_
   refine Tr.mv rfl rfl ?_
   refine Tr.va rfl (fun _ _ h1 h2 => run_min (h1.ev rfl) (h1.ev rfl) _) ?_
   refine Tr.asg rfl rfl ?_
   refine Tr.nil (Tr.normThen ?_)
   refine Tr.ret ?_
   obtain rfl := Option.some.inj H
   exact Tr.out (m := [(iv (min x164 3001))]) [] (res_tmp rfl res_nil) (fun W hW => ⟨rfl, hW.low leB⟩)
theorem F_etchhouseref3_count_ok : ∀ (N : Nat) {w : Bs} (p0 : (List TPlotStep)) (Ap0_0 : Option Addr) (cp0_0 : Nat) (hp0_0 : Sl w.R w.W fl_TPlotStep Ap0_0 cp0_0 p0) (r : Int) (H : F_etchhouseref3_count N p0 = some r) (hE : HF w w.W E0), Calls Tryz.prog 50 [(.slice Ap0_0 (p0).length cp0_0)].toArray w.W fun e W' => e = .returned (iv r) ∧ HF w W' E0
 | 0 => by intros; rename_i H _; cases H
 | N + 1 => F_etchhouseref3_count_b_ok N (F_etchhouseref3_count N) (F_etchhouseref3_count_ok N)

theorem F_etchhouseref3_fields_ok {w : Bs} (p0 : TPlotStep) (Ap0_0 : Option Addr) (cp0_0 : Nat) (hp0_0 : Sl w.R w.W fl_TPoint Ap0_0 cp0_0 p0.Points) (Ap0_1 : Option Addr) (cp0_1 : Nat) (hp0_1 : Sl w.R w.W fl_TPlotStep Ap0_1 cp0_1 p0.Steps) (r : Bool) (H : F_etchhouseref3_fields p0 = some r) (hE : HF w w.W E0) : Calls Tryz.prog 107 [(.agg #[(iv p0.Kind), (sv p0.Name), (iv p0.At.X), (iv p0.At.Y), (.slice Ap0_0 (p0.Points).length cp0_0), (iv p0.NX), (iv p0.NY), (.slice Ap0_1 (p0.Steps).length cp0_1)])].toArray w.W fun e W' => e = .returned (.bool r) ∧ HF w W' E0 := by
 unfold F_etchhouseref3_fields at H
 have leB := Bs.Le.refl w
 refine Tr.enter (n := 62) Tryz.func107 rfl rfl rfl hE ?_
 refine Tr.sr ?_
 refine Tr.box 1 (cs := [(iv p0.Kind), (sv p0.Name), (iv p0.At.X), (iv p0.At.Y), (.slice Ap0_0 (p0.Points).length cp0_0), (iv p0.NX), (iv p0.NY), (.slice Ap0_1 (p0.Steps).length cp0_1)]) (wn rfl) rfl rfl rfl fun b100 => ?_
 refine Tr.asg rfl rfl ?_
 refine Tr.nil (Tr.normThen ?_)
 refine Tr.sr ?_
 refine Tr.asg rfl rfl ?_
 refine Tr.asg rfl rfl ?_
 refine Tr.asg rfl rfl ?_
 refine Tr.asg rfl rfl ?_
 refine Tr.nil (Tr.normThen ?_)
 have leJ108 := Bs.Le.refl w
 refine Tr.cutJ (σ := Bool × Bool × Bool × Bool) (fun w s => F_etchhouseref3_fields_J2 p0 s.1 s.2.1 s.2.2.1 s.2.2.2 = some r) (fun s => [(1, (.pointer (some ⟨b100, 0, none⟩))), (3, (.bool s.1)), (4, (.bool s.2.1)), (5, (.bool s.2.2.1)), (6, (.bool s.2.2.2))]) (fun s => [(1, bx b100 #[(iv p0.Kind), (sv p0.Name), (iv p0.At.X), (iv p0.At.Y), (.slice Ap0_0 (p0.Points).length cp0_0), (iv p0.NX), (iv p0.NY), (.slice Ap0_1 (p0.Steps).length cp0_1)] 49)]) ?_ ?_
 ·refine Tr.sr ?_
  refine Tr.va rfl (fun _ _ h1 h2 => run_fieldAddr fo_49_0 (h1.ev rfl)) ?_
  refine Tr.va rfl (fun _ _ h1 h2 => run_load1 ag_3 (h1.ev rfl) (rdb h2 (vs := [(iv p0.Kind), (sv p0.Name), (iv p0.At.X), (iv p0.At.Y), (.slice Ap0_0 (p0.Points).length cp0_0), (iv p0.NX), (iv p0.NY), (.slice Ap0_1 (p0.Steps).length cp0_1)]) (k := 1) rfl 0) rfl) ?_
  refine Tr.nil (Tr.normThen ?_)
  refine Tr.block ?_
  refine Tr.sr ?_
  refine Tr.va rfl (fun _ _ h1 h2 => run_eql (h1.ev rfl) (h1.ev rfl)) ?_
  refine Tr.asg rfl rfl ?_
  refine Tr.nil (Tr.normThen ?_)
  refine Tr.cond rfl H (fun H => ?_) (fun H => ?_)
  ·refine Tr.region ?_
   refine Tr.asg rfl rfl ?_
   refine Tr.nil (Tr.normBlock ?_)
   exact Tr.backThen leJ108 (true, false, false, false) H (.cons rfl (.cons rfl (.cons rfl (.cons rfl (.cons rfl .nil))))) (.cons rfl .nil)
  ·have leJ111 := Bs.Le.refl w
   refine Tr.cutJ (σ := Bool) (fun w s => F_etchhouseref3_fields_J3 p0 s = some r) (fun s => [(1, (.pointer (some ⟨b100, 0, none⟩))), (3, (.bool false)), (4, (.bool false)), (5, (.bool false)), (6, (.bool false)), (8, (iv p0.Kind)), (11, (.bool s))]) (fun s => [(1, bx b100 #[(iv p0.Kind), (sv p0.Name), (iv p0.At.X), (iv p0.At.Y), (.slice Ap0_0 (p0.Points).length cp0_0), (iv p0.NX), (iv p0.NY), (.slice Ap0_1 (p0.Steps).length cp0_1)] 49)]) ?_ ?_
   ·refine Tr.sr ?_
    refine Tr.va rfl (fun _ _ h1 h2 => run_eql (h1.ev rfl) (h1.ev rfl)) ?_
    refine Tr.asg rfl rfl ?_
    refine Tr.nil (Tr.normThen ?_)
    refine Tr.cond rfl H (fun H => ?_) (fun H => ?_)
    ·refine Tr.skip ?_
     exact Tr.backThen leJ111 (p0.Kind == 4) H (.cons rfl (.cons rfl (.cons rfl (.cons rfl (.cons rfl (.cons rfl (.cons rfl .nil))))))) (.cons rfl .nil)
    ·refine Tr.sr ?_
     refine Tr.va rfl (fun _ _ h1 h2 => run_eql (h1.ev rfl) (h1.ev rfl)) ?_
     refine Tr.asg rfl rfl ?_
     refine Tr.nil (Tr.normThen ?_)
     refine Tr.cond rfl H (fun H => ?_) (fun H => ?_)
     ·refine Tr.skip ?_
      exact Tr.backThen leJ111 (p0.Kind == 5) H (.cons rfl (.cons rfl (.cons rfl (.cons rfl (.cons rfl (.cons rfl (.cons rfl .nil))))))) (.cons rfl .nil)
     ·refine Tr.region ?_
      refine Tr.va rfl (fun _ _ h1 h2 => run_eql (h1.ev rfl) (h1.ev rfl)) ?_
      refine Tr.asg rfl rfl ?_
      refine Tr.nil ?_
      exact Tr.backThen leJ111 (p0.Kind == 6) H (.cons rfl (.cons rfl (.cons rfl (.cons rfl (.cons rfl (.cons rfl (.cons rfl .nil))))))) (.cons rfl .nil)
   ·intro w x110 hlJ112 hs
    have H := hs
    replace H : F_etchhouseref3_fields_J3 p0 x110 = some r := H
    replace hp0_0 := hp0_0.leR hlJ112
    replace hp0_1 := hp0_1.leR hlJ112
    replace leB := leB.trans hlJ112
    replace leJ108 := leJ108.trans hlJ112
    unfold F_etchhouseref3_fields_J3 at H
    show Tr _ _ (LF [(1, (.pointer (some ⟨b100, 0, none⟩))), (3, (.bool false)), (4, (.bool false)), (5, (.bool false)), (6, (.bool false)), (8, (iv p0.Kind)), (11, (.bool x110))]) (LE [(1, bx b100 #[(iv p0.Kind), (sv p0.Name), (iv p0.At.X), (iv p0.At.Y), (.slice Ap0_0 (p0.Points).length cp0_0), (iv p0.NX), (iv p0.NY), (.slice Ap0_1 (p0.Steps).length cp0_1)] 49)]) _
    refine Tr.cond rfl H (fun H => ?_) (fun H => ?_)
    ·refine Tr.region ?_
     refine Tr.asg rfl rfl ?_
     refine Tr.nil (Tr.normBlock ?_)
     exact Tr.backThen leJ108 (false, true, false, false) H (.cons rfl (.cons rfl (.cons rfl (.cons rfl (.cons rfl .nil))))) (.cons rfl .nil)
    ·refine Tr.sr ?_
     refine Tr.va rfl (fun _ _ h1 h2 => run_eql (h1.ev rfl) (h1.ev rfl)) ?_
     refine Tr.asg rfl rfl ?_
     refine Tr.nil (Tr.normThen ?_)
     refine Tr.cond rfl H (fun H => ?_) (fun H => ?_)
     ·refine Tr.region ?_
      refine Tr.asg rfl rfl ?_
      refine Tr.nil (Tr.normBlock ?_)
      exact Tr.backThen leJ108 (false, false, true, false) H (.cons rfl (.cons rfl (.cons rfl (.cons rfl (.cons rfl .nil))))) (.cons rfl .nil)
     ·refine Tr.sr ?_
      refine Tr.va rfl (fun _ _ h1 h2 => run_eql (h1.ev rfl) (h1.ev rfl)) ?_
      refine Tr.asg rfl rfl ?_
      refine Tr.nil (Tr.normThen ?_)
      refine Tr.cond rfl H (fun H => ?_) (fun H => ?_)
      ·refine Tr.region ?_
       refine Tr.asg rfl rfl ?_
       refine Tr.asg rfl rfl ?_
       refine Tr.nil (Tr.normBlock ?_)
       exact Tr.backThen leJ108 (false, true, false, true) H (.cons rfl (.cons rfl (.cons rfl (.cons rfl (.cons rfl .nil))))) (.cons rfl .nil)
      ·refine Tr.skip (Tr.normBlock ?_)
       exact Tr.backThen leJ108 (false, false, false, false) H (.cons rfl (.cons rfl (.cons rfl (.cons rfl (.cons rfl .nil))))) (.cons rfl .nil)
 ·intro w s hlJ109 hs
  obtain ⟨x104, x105, x106, x107⟩ := s
  have H := hs
  replace H : F_etchhouseref3_fields_J2 p0 x104 x105 x106 x107 = some r := H
  replace hp0_0 := hp0_0.leR hlJ109
  replace hp0_1 := hp0_1.leR hlJ109
  replace leB := leB.trans hlJ109
  unfold F_etchhouseref3_fields_J2 at H
  show Tr _ _ (LF [(1, (.pointer (some ⟨b100, 0, none⟩))), (3, (.bool x104)), (4, (.bool x105)), (5, (.bool x106)), (6, (.bool x107))]) (LE [(1, bx b100 #[(iv p0.Kind), (sv p0.Name), (iv p0.At.X), (iv p0.At.Y), (.slice Ap0_0 (p0.Points).length cp0_0), (iv p0.NX), (iv p0.NY), (.slice Ap0_1 (p0.Steps).length cp0_1)] 49)]) _
  refine Tr.sr ?_
  refine Tr.mv rfl rfl ?_
  refine Tr.mv rfl rfl ?_
  refine Tr.mid0 4 [(1, (.pointer (some ⟨b100, 0, none⟩))), (4, (.bool x105)), (5, (.bool x106)), (6, (.bool x107)), (24, (.bool (x104 || (sEq p0.Name ByteArray.empty))))] [(1, bx b100 #[(iv p0.Kind), (sv p0.Name), (iv p0.At.X), (iv p0.At.Y), (.slice Ap0_0 (p0.Points).length cp0_0), (iv p0.NX), (iv p0.NY), (.slice Ap0_1 (p0.Steps).length cp0_1)] 49)] ?_ ?_
  ·cases hg109 : x104
   ·refine Tr.val (wg rfl rfl rfl) rfl (fun _ _ h1 h2 => run_fieldAddr fo_49_1 (h1.ev rfl)) ?_
    refine Tr.val (wg rfl rfl rfl) rfl (fun _ _ h1 h2 => run_load1 ag_9 (h1.ev rfl) (rdb h2 (vs := [(iv p0.Kind), (sv p0.Name), (iv p0.At.X), (iv p0.At.Y), (.slice Ap0_0 (p0.Points).length cp0_0), (iv p0.NX), (iv p0.NY), (.slice Ap0_1 (p0.Steps).length cp0_1)]) (k := 1) rfl 1) rfl) ?_
    refine Tr.val (wg rfl rfl rfl) rfl (fun _ _ h1 h2 => run_eqlS (h1.ev rfl) (h1.ev rfl)) ?_
    refine Tr.va rfl (fun _ _ h1 h2 => run_pickF (h1.ev rfl) (h1.ev rfl)) ?_
    exact Tr.nil (Tr.fin0 (.cons rfl (.cons rfl (.cons rfl (.cons rfl (.cons rfl .nil))))) (.cons rfl .nil))
   ·refine Tr.pass rfl rfl rfl rfl rfl (by decide) ?_
    refine Tr.pass rfl rfl rfl rfl rfl (by decide) ?_
    refine Tr.pass rfl rfl rfl rfl rfl (by decide) ?_
    refine Tr.va rfl (fun _ _ h1 h2 => run_pickT (h1.ev rfl) (h1.ev rfl)) ?_
    exact Tr.nil (Tr.fin0 (.cons rfl (.cons rfl (.cons rfl (.cons rfl (.cons rfl .nil))))) (.cons rfl .nil))
  ·show Tr _ _ (LF [(1, (.pointer (some ⟨b100, 0, none⟩))), (4, (.bool x105)), (5, (.bool x106)), (6, (.bool x107)), (24, (.bool (x104 || (sEq p0.Name ByteArray.empty))))]) (LE [(1, bx b100 #[(iv p0.Kind), (sv p0.Name), (iv p0.At.X), (iv p0.At.Y), (.slice Ap0_0 (p0.Points).length cp0_0), (iv p0.NX), (iv p0.NY), (.slice Ap0_1 (p0.Steps).length cp0_1)] 49)]) _
   refine Tr.mv rfl rfl ?_
   refine Tr.mid0 8 [(1, (.pointer (some ⟨b100, 0, none⟩))), (5, (.bool x106)), (6, (.bool x107)), (33, (.bool ((x104 || (sEq p0.Name ByteArray.empty)) && (x105 || (eqTPoint p0.At (TPoint.mk 0 0))))))] [(1, bx b100 #[(iv p0.Kind), (sv p0.Name), (iv p0.At.X), (iv p0.At.Y), (.slice Ap0_0 (p0.Points).length cp0_0), (iv p0.NX), (iv p0.NY), (.slice Ap0_1 (p0.Steps).length cp0_1)] 49)] ?_ ?_
   ·cases hg109 : (x104 || (sEq p0.Name ByteArray.empty))
    ·refine Tr.pass rfl rfl rfl rfl rfl (by decide) ?_
     refine Tr.pass rfl rfl rfl rfl rfl (by decide) ?_
     refine Tr.passU rfl rfl rfl rfl (by decide) ?_
     refine Tr.passU rfl rfl rfl rfl (by decide) ?_
     refine Tr.passU rfl rfl rfl rfl (by decide) ?_
     refine Tr.passU rfl rfl rfl rfl (by decide) ?_
     refine Tr.pass rfl rfl rfl rfl rfl (by decide) ?_
     refine Tr.va rfl (fun _ _ h1 h2 => run_pickF (h1.ev rfl) (h1.ev rfl)) ?_
     exact Tr.nil (Tr.fin0 (.cons rfl (.cons rfl (.cons rfl (.cons rfl .nil)))) (.cons rfl .nil))
    ·refine Tr.val (wg rfl rfl rfl) rfl (fun _ _ h1 h2 => run_move (h1.ev rfl)) ?_
     refine Tr.val (wg rfl rfl rfl) rfl (fun _ _ h1 h2 => run_move (h1.ev rfl)) ?_
     refine Tr.mid0 5 [(1, (.pointer (some ⟨b100, 0, none⟩))), (5, (.bool x106)), (6, (.bool x107)), (25, (.bool true)), (32, (.bool (x105 || (eqTPoint p0.At (TPoint.mk 0 0)))))] [(1, bx b100 #[(iv p0.Kind), (sv p0.Name), (iv p0.At.X), (iv p0.At.Y), (.slice Ap0_0 (p0.Points).length cp0_0), (iv p0.NX), (iv p0.NY), (.slice Ap0_1 (p0.Steps).length cp0_1)] 49)] ?_ ?_
     ·cases hg109 : x105
      ·refine Tr.val (wg rfl rfl rfl) rfl (fun _ _ h1 h2 => run_fieldAddr fo_49_2 (h1.ev rfl)) ?_
       refine Tr.val (wg rfl rfl rfl) rfl (fun _ _ h1 h2 => run_loadN (cs := [(iv p0.At.X), (iv p0.At.Y)]) ag_42 sz_42 (h1.ev rfl) (CellsAt.take (rdb h2 (vs := [(iv p0.Kind), (sv p0.Name), (iv p0.At.X), (iv p0.At.Y), (.slice Ap0_0 (p0.Points).length cp0_0), (iv p0.NX), (iv p0.NY), (.slice Ap0_1 (p0.Steps).length cp0_1)]) (k := 1) rfl 2) 2) rfl) ?_
       refine Tr.build (vs := []) (cs := [(iv 0), (iv 0)]) (wg rfl rfl rfl) rfl evs_nil (by kernel_rfl) ?_
       refine Tr.val (wg rfl rfl rfl) rfl (fun _ _ h1 h2 => run_eql_42 p0.At (TPoint.mk 0 0) (h1.ev rfl) (h1.ev rfl)) ?_
       refine Tr.val (wg rfl rfl rfl) rfl (fun _ _ h1 h2 => run_pickF (h1.ev rfl) (h1.ev rfl)) ?_
       exact Tr.nil (Tr.fin0 (.cons rfl (.cons rfl (.cons rfl (.cons rfl (.cons rfl .nil))))) (.cons rfl .nil))
      ·refine Tr.pass rfl rfl rfl rfl rfl (by decide) ?_
       refine Tr.pass rfl rfl rfl rfl rfl (by decide) ?_
       refine Tr.pass rfl rfl rfl rfl rfl (by decide) ?_
       refine Tr.pass rfl rfl rfl rfl rfl (by decide) ?_
       refine Tr.val (wg rfl rfl rfl) rfl (fun _ _ h1 h2 => run_pickT (h1.ev rfl) (h1.ev rfl)) ?_
       exact Tr.nil (Tr.fin0 (.cons rfl (.cons rfl (.cons rfl (.cons rfl (.cons rfl .nil))))) (.cons rfl .nil))
     ·show Tr _ _ (LF [(1, (.pointer (some ⟨b100, 0, none⟩))), (5, (.bool x106)), (6, (.bool x107)), (25, (.bool true)), (32, (.bool (x105 || (eqTPoint p0.At (TPoint.mk 0 0)))))]) (LE [(1, bx b100 #[(iv p0.Kind), (sv p0.Name), (iv p0.At.X), (iv p0.At.Y), (.slice Ap0_0 (p0.Points).length cp0_0), (iv p0.NX), (iv p0.NY), (.slice Ap0_1 (p0.Steps).length cp0_1)] 49)]) _
      refine Tr.va rfl (fun _ _ h1 h2 => run_pickT (h1.ev rfl) (h1.ev rfl)) ?_
      exact Tr.nil (Tr.fin0 (.cons rfl (.cons rfl (.cons rfl (.cons rfl .nil)))) (.cons rfl .nil))
   ·show Tr _ _ (LF [(1, (.pointer (some ⟨b100, 0, none⟩))), (5, (.bool x106)), (6, (.bool x107)), (33, (.bool ((x104 || (sEq p0.Name ByteArray.empty)) && (x105 || (eqTPoint p0.At (TPoint.mk 0 0))))))]) (LE [(1, bx b100 #[(iv p0.Kind), (sv p0.Name), (iv p0.At.X), (iv p0.At.Y), (.slice Ap0_0 (p0.Points).length cp0_0), (iv p0.NX), (iv p0.NY), (.slice Ap0_1 (p0.Steps).length cp0_1)] 49)]) _
    refine Tr.mv rfl rfl ?_
    refine Tr.mid0 8 [(1, (.pointer (some ⟨b100, 0, none⟩))), (6, (.bool x107)), (42, (.bool (((x104 || (sEq p0.Name ByteArray.empty)) && (x105 || (eqTPoint p0.At (TPoint.mk 0 0)))) && (x106 || ((p0.Points.length : Int) == 0)))))] [(1, bx b100 #[(iv p0.Kind), (sv p0.Name), (iv p0.At.X), (iv p0.At.Y), (.slice Ap0_0 (p0.Points).length cp0_0), (iv p0.NX), (iv p0.NY), (.slice Ap0_1 (p0.Steps).length cp0_1)] 49)] ?_ ?_
    ·cases hg109 : ((x104 || (sEq p0.Name ByteArray.empty)) && (x105 || (eqTPoint p0.At (TPoint.mk 0 0))))
     ·refine Tr.pass rfl rfl rfl rfl rfl (by decide) ?_
      refine Tr.pass rfl rfl rfl rfl rfl (by decide) ?_
      refine Tr.passU rfl rfl rfl rfl (by decide) ?_
      refine Tr.passU rfl rfl rfl rfl (by decide) ?_
      refine Tr.passU rfl rfl rfl rfl (by decide) ?_
      refine Tr.passU rfl rfl rfl rfl (by decide) ?_
      refine Tr.pass rfl rfl rfl rfl rfl (by decide) ?_
      refine Tr.va rfl (fun _ _ h1 h2 => run_pickF (h1.ev rfl) (h1.ev rfl)) ?_
      exact Tr.nil (Tr.fin0 (.cons rfl (.cons rfl (.cons rfl .nil))) (.cons rfl .nil))
     ·refine Tr.val (wg rfl rfl rfl) rfl (fun _ _ h1 h2 => run_move (h1.ev rfl)) ?_
      refine Tr.val (wg rfl rfl rfl) rfl (fun _ _ h1 h2 => run_move (h1.ev rfl)) ?_
      refine Tr.mid0 5 [(1, (.pointer (some ⟨b100, 0, none⟩))), (6, (.bool x107)), (34, (.bool true)), (41, (.bool (x106 || ((p0.Points.length : Int) == 0))))] [(1, bx b100 #[(iv p0.Kind), (sv p0.Name), (iv p0.At.X), (iv p0.At.Y), (.slice Ap0_0 (p0.Points).length cp0_0), (iv p0.NX), (iv p0.NY), (.slice Ap0_1 (p0.Steps).length cp0_1)] 49)] ?_ ?_
      ·cases hg109 : x106
       ·refine Tr.val (wg rfl rfl rfl) rfl (fun _ _ h1 h2 => run_fieldAddr fo_49_3 (h1.ev rfl)) ?_
        refine Tr.val (wg rfl rfl rfl) rfl (fun _ _ h1 h2 => run_load1 ag_47 (h1.ev rfl) (rdb h2 (vs := [(iv p0.Kind), (sv p0.Name), (iv p0.At.X), (iv p0.At.Y), (.slice Ap0_0 (p0.Points).length cp0_0), (iv p0.NX), (iv p0.NY), (.slice Ap0_1 (p0.Steps).length cp0_1)]) (k := 1) rfl 4) rfl) ?_
        refine Tr.val (wg rfl rfl rfl) rfl (fun _ _ h1 h2 => run_len un_47 (h1.ev rfl)) ?_
        refine Tr.val (wg rfl rfl rfl) rfl (fun _ _ h1 h2 => run_eql (h1.ev rfl) (h1.ev rfl)) ?_
        refine Tr.val (wg rfl rfl rfl) rfl (fun _ _ h1 h2 => run_pickF (h1.ev rfl) (h1.ev rfl)) ?_
        exact Tr.nil (Tr.fin0 (.cons rfl (.cons rfl (.cons rfl (.cons rfl .nil)))) (.cons rfl .nil))
       ·refine Tr.pass rfl rfl rfl rfl rfl (by decide) ?_
        refine Tr.pass rfl rfl rfl rfl rfl (by decide) ?_
        refine Tr.pass rfl rfl rfl rfl rfl (by decide) ?_
        refine Tr.pass rfl rfl rfl rfl rfl (by decide) ?_
        refine Tr.val (wg rfl rfl rfl) rfl (fun _ _ h1 h2 => run_pickT (h1.ev rfl) (h1.ev rfl)) ?_
        exact Tr.nil (Tr.fin0 (.cons rfl (.cons rfl (.cons rfl (.cons rfl .nil)))) (.cons rfl .nil))
      ·show Tr _ _ (LF [(1, (.pointer (some ⟨b100, 0, none⟩))), (6, (.bool x107)), (34, (.bool true)), (41, (.bool (x106 || ((p0.Points.length : Int) == 0))))]) (LE [(1, bx b100 #[(iv p0.Kind), (sv p0.Name), (iv p0.At.X), (iv p0.At.Y), (.slice Ap0_0 (p0.Points).length cp0_0), (iv p0.NX), (iv p0.NY), (.slice Ap0_1 (p0.Steps).length cp0_1)] 49)]) _
       refine Tr.va rfl (fun _ _ h1 h2 => run_pickT (h1.ev rfl) (h1.ev rfl)) ?_
       exact Tr.nil (Tr.fin0 (.cons rfl (.cons rfl (.cons rfl .nil))) (.cons rfl .nil))
    ·show Tr _ _ (LF [(1, (.pointer (some ⟨b100, 0, none⟩))), (6, (.bool x107)), (42, (.bool (((x104 || (sEq p0.Name ByteArray.empty)) && (x105 || (eqTPoint p0.At (TPoint.mk 0 0)))) && (x106 || ((p0.Points.length : Int) == 0)))))]) (LE [(1, bx b100 #[(iv p0.Kind), (sv p0.Name), (iv p0.At.X), (iv p0.At.Y), (.slice Ap0_0 (p0.Points).length cp0_0), (iv p0.NX), (iv p0.NY), (.slice Ap0_1 (p0.Steps).length cp0_1)] 49)]) _
     refine Tr.mv rfl rfl ?_
     refine Tr.mid0 18 [(61, (.bool ((((x104 || (sEq p0.Name ByteArray.empty)) && (x105 || (eqTPoint p0.At (TPoint.mk 0 0)))) && (x106 || ((p0.Points.length : Int) == 0))) && (x107 || (((p0.NX == 0) && (p0.NY == 0)) && ((p0.Steps.length : Int) == 0))))))] [(1, bx b100 #[(iv p0.Kind), (sv p0.Name), (iv p0.At.X), (iv p0.At.Y), (.slice Ap0_0 (p0.Points).length cp0_0), (iv p0.NX), (iv p0.NY), (.slice Ap0_1 (p0.Steps).length cp0_1)] 49)] ?_ ?_
     ·cases hg109 : (((x104 || (sEq p0.Name ByteArray.empty)) && (x105 || (eqTPoint p0.At (TPoint.mk 0 0)))) && (x106 || ((p0.Points.length : Int) == 0)))
      ·refine Tr.pass rfl rfl rfl rfl rfl (by decide) ?_
       refine Tr.pass rfl rfl rfl rfl rfl (by decide) ?_
       refine Tr.passU rfl rfl rfl rfl (by decide) ?_
       refine Tr.passU rfl rfl rfl rfl (by decide) ?_
       refine Tr.passU rfl rfl rfl rfl (by decide) ?_
       refine Tr.passU rfl rfl rfl rfl (by decide) ?_
       refine Tr.passU rfl rfl rfl rfl (by decide) ?_
       refine Tr.passU rfl rfl rfl rfl (by decide) ?_
       refine Tr.passU rfl rfl rfl rfl (by decide) ?_
       refine Tr.passU rfl rfl rfl rfl (by decide) ?_
       refine Tr.passU rfl rfl rfl rfl (by decide) ?_
       refine Tr.passU rfl rfl rfl rfl (by decide) ?_
       refine Tr.passU rfl rfl rfl rfl (by decide) ?_
       refine Tr.passU rfl rfl rfl rfl (by decide) ?_
       refine Tr.passU rfl rfl rfl rfl (by decide) ?_
       refine Tr.passU rfl rfl rfl rfl (by decide) ?_
       refine Tr.pass rfl rfl rfl rfl rfl (by decide) ?_
       refine Tr.va rfl (fun _ _ h1 h2 => run_pickF (h1.ev rfl) (h1.ev rfl)) ?_
       exact Tr.nil (Tr.fin0 (.cons rfl .nil) (.cons rfl .nil))
      ·refine Tr.val (wg rfl rfl rfl) rfl (fun _ _ h1 h2 => run_move (h1.ev rfl)) ?_
       refine Tr.val (wg rfl rfl rfl) rfl (fun _ _ h1 h2 => run_move (h1.ev rfl)) ?_
       refine Tr.mid0 15 [(43, (.bool true)), (60, (.bool (x107 || (((p0.NX == 0) && (p0.NY == 0)) && ((p0.Steps.length : Int) == 0)))))] [(1, bx b100 #[(iv p0.Kind), (sv p0.Name), (iv p0.At.X), (iv p0.At.Y), (.slice Ap0_0 (p0.Points).length cp0_0), (iv p0.NX), (iv p0.NY), (.slice Ap0_1 (p0.Steps).length cp0_1)] 49)] ?_ ?_
       ·cases hg109 : x107
        ·refine Tr.val (wg rfl rfl rfl) rfl (fun _ _ h1 h2 => run_fieldAddr fo_49_4 (h1.ev rfl)) ?_
         refine Tr.val (wg rfl rfl rfl) rfl (fun _ _ h1 h2 => run_load1 ag_3 (h1.ev rfl) (rdb h2 (vs := [(iv p0.Kind), (sv p0.Name), (iv p0.At.X), (iv p0.At.Y), (.slice Ap0_0 (p0.Points).length cp0_0), (iv p0.NX), (iv p0.NY), (.slice Ap0_1 (p0.Steps).length cp0_1)]) (k := 1) rfl 5) rfl) ?_
         refine Tr.val (wg rfl rfl rfl) rfl (fun _ _ h1 h2 => run_eql (h1.ev rfl) (h1.ev rfl)) ?_
         refine Tr.val (wg rfl rfl rfl) rfl (fun _ _ h1 h2 => run_move (h1.ev rfl)) ?_
         refine Tr.mid0 4 [(1, (.pointer (some ⟨b100, 0, none⟩))), (43, (.bool true)), (45, (.bool false)), (53, (.bool ((p0.NX == 0) && (p0.NY == 0))))] [(1, bx b100 #[(iv p0.Kind), (sv p0.Name), (iv p0.At.X), (iv p0.At.Y), (.slice Ap0_0 (p0.Points).length cp0_0), (iv p0.NX), (iv p0.NY), (.slice Ap0_1 (p0.Steps).length cp0_1)] 49)] ?_ ?_
         ·cases hg109 : (p0.NX == 0)
          ·refine Tr.pass rfl rfl rfl rfl rfl (by decide) ?_
           refine Tr.pass rfl rfl rfl rfl rfl (by decide) ?_
           refine Tr.pass rfl rfl rfl rfl rfl (by decide) ?_
           refine Tr.val (wg rfl rfl rfl) rfl (fun _ _ h1 h2 => run_pickF (h1.ev rfl) (h1.ev rfl)) ?_
           exact Tr.nil (Tr.fin0 (.cons rfl (.cons rfl (.cons rfl (.cons rfl .nil)))) (.cons rfl .nil))
          ·refine Tr.val (wg rfl rfl rfl) rfl (fun _ _ h1 h2 => run_fieldAddr fo_49_5 (h1.ev rfl)) ?_
           refine Tr.val (wg rfl rfl rfl) rfl (fun _ _ h1 h2 => run_load1 ag_3 (h1.ev rfl) (rdb h2 (vs := [(iv p0.Kind), (sv p0.Name), (iv p0.At.X), (iv p0.At.Y), (.slice Ap0_0 (p0.Points).length cp0_0), (iv p0.NX), (iv p0.NY), (.slice Ap0_1 (p0.Steps).length cp0_1)]) (k := 1) rfl 6) rfl) ?_
           refine Tr.val (wg rfl rfl rfl) rfl (fun _ _ h1 h2 => run_eql (h1.ev rfl) (h1.ev rfl)) ?_
           refine Tr.val (wg rfl rfl rfl) rfl (fun _ _ h1 h2 => run_pickT (h1.ev rfl) (h1.ev rfl)) ?_
           exact Tr.nil (Tr.fin0 (.cons rfl (.cons rfl (.cons rfl (.cons rfl .nil)))) (.cons rfl .nil))
         ·show Tr _ _ (LF [(1, (.pointer (some ⟨b100, 0, none⟩))), (43, (.bool true)), (45, (.bool false)), (53, (.bool ((p0.NX == 0) && (p0.NY == 0))))]) (LE [(1, bx b100 #[(iv p0.Kind), (sv p0.Name), (iv p0.At.X), (iv p0.At.Y), (.slice Ap0_0 (p0.Points).length cp0_0), (iv p0.NX), (iv p0.NY), (.slice Ap0_1 (p0.Steps).length cp0_1)] 49)]) _
          refine Tr.val (wg rfl rfl rfl) rfl (fun _ _ h1 h2 => run_move (h1.ev rfl)) ?_
          refine Tr.mid0 5 [(43, (.bool true)), (45, (.bool false)), (59, (.bool (((p0.NX == 0) && (p0.NY == 0)) && ((p0.Steps.length : Int) == 0))))] [(1, bx b100 #[(iv p0.Kind), (sv p0.Name), (iv p0.At.X), (iv p0.At.Y), (.slice Ap0_0 (p0.Points).length cp0_0), (iv p0.NX), (iv p0.NY), (.slice Ap0_1 (p0.Steps).length cp0_1)] 49)] ?_ ?_
          ·cases hg109 : ((p0.NX == 0) && (p0.NY == 0))
           ·refine Tr.pass rfl rfl rfl rfl rfl (by decide) ?_
            refine Tr.pass rfl rfl rfl rfl rfl (by decide) ?_
            refine Tr.pass rfl rfl rfl rfl rfl (by decide) ?_
            refine Tr.pass rfl rfl rfl rfl rfl (by decide) ?_
            refine Tr.val (wg rfl rfl rfl) rfl (fun _ _ h1 h2 => run_pickF (h1.ev rfl) (h1.ev rfl)) ?_
            exact Tr.nil (Tr.fin0 (.cons rfl (.cons rfl (.cons rfl .nil))) (.cons rfl .nil))
           ·refine Tr.val (wg rfl rfl rfl) rfl (fun _ _ h1 h2 => run_fieldAddr fo_49_6 (h1.ev rfl)) ?_
            refine Tr.val (wg rfl rfl rfl) rfl (fun _ _ h1 h2 => run_load1 ag_23 (h1.ev rfl) (rdb h2 (vs := [(iv p0.Kind), (sv p0.Name), (iv p0.At.X), (iv p0.At.Y), (.slice Ap0_0 (p0.Points).length cp0_0), (iv p0.NX), (iv p0.NY), (.slice Ap0_1 (p0.Steps).length cp0_1)]) (k := 1) rfl 7) rfl) ?_
            refine Tr.val (wg rfl rfl rfl) rfl (fun _ _ h1 h2 => run_len un_23 (h1.ev rfl)) ?_
            refine Tr.val (wg rfl rfl rfl) rfl (fun _ _ h1 h2 => run_eql (h1.ev rfl) (h1.ev rfl)) ?_
            refine Tr.val (wg rfl rfl rfl) rfl (fun _ _ h1 h2 => run_pickT (h1.ev rfl) (h1.ev rfl)) ?_
            exact Tr.nil (Tr.fin0 (.cons rfl (.cons rfl (.cons rfl .nil))) (.cons rfl .nil))
          ·show Tr _ _ (LF [(43, (.bool true)), (45, (.bool false)), (59, (.bool (((p0.NX == 0) && (p0.NY == 0)) && ((p0.Steps.length : Int) == 0))))]) (LE [(1, bx b100 #[(iv p0.Kind), (sv p0.Name), (iv p0.At.X), (iv p0.At.Y), (.slice Ap0_0 (p0.Points).length cp0_0), (iv p0.NX), (iv p0.NY), (.slice Ap0_1 (p0.Steps).length cp0_1)] 49)]) _
           refine Tr.val (wg rfl rfl rfl) rfl (fun _ _ h1 h2 => run_pickF (h1.ev rfl) (h1.ev rfl)) ?_
           exact Tr.nil (Tr.fin0 (.cons rfl (.cons rfl .nil)) (.cons rfl .nil))
        ·refine Tr.pass rfl rfl rfl rfl rfl (by decide) ?_
         refine Tr.pass rfl rfl rfl rfl rfl (by decide) ?_
         refine Tr.pass rfl rfl rfl rfl rfl (by decide) ?_
         refine Tr.pass rfl rfl rfl rfl rfl (by decide) ?_
         refine Tr.passU rfl rfl rfl rfl (by decide) ?_
         refine Tr.passU rfl rfl rfl rfl (by decide) ?_
         refine Tr.passU rfl rfl rfl rfl (by decide) ?_
         refine Tr.pass rfl rfl rfl rfl rfl (by decide) ?_
         refine Tr.pass rfl rfl rfl rfl rfl (by decide) ?_
         refine Tr.passU rfl rfl rfl rfl (by decide) ?_
         refine Tr.passU rfl rfl rfl rfl (by decide) ?_
         refine Tr.passU rfl rfl rfl rfl (by decide) ?_
         refine Tr.passU rfl rfl rfl rfl (by decide) ?_
         refine Tr.pass rfl rfl rfl rfl rfl (by decide) ?_
         refine Tr.val (wg rfl rfl rfl) rfl (fun _ _ h1 h2 => run_pickT (h1.ev rfl) (h1.ev rfl)) ?_
         exact Tr.nil (Tr.fin0 (.cons rfl (.cons rfl .nil)) (.cons rfl .nil))
       ·show Tr _ _ (LF [(43, (.bool true)), (60, (.bool (x107 || (((p0.NX == 0) && (p0.NY == 0)) && ((p0.Steps.length : Int) == 0)))))]) (LE [(1, bx b100 #[(iv p0.Kind), (sv p0.Name), (iv p0.At.X), (iv p0.At.Y), (.slice Ap0_0 (p0.Points).length cp0_0), (iv p0.NX), (iv p0.NY), (.slice Ap0_1 (p0.Steps).length cp0_1)] 49)]) _
        refine Tr.va rfl (fun _ _ h1 h2 => run_pickT (h1.ev rfl) (h1.ev rfl)) ?_
        exact Tr.nil (Tr.fin0 (.cons rfl .nil) (.cons rfl .nil))
     ·show Tr _ _ (LF [(61, (.bool ((((x104 || (sEq p0.Name ByteArray.empty)) && (x105 || (eqTPoint p0.At (TPoint.mk 0 0)))) && (x106 || ((p0.Points.length : Int) == 0))) && (x107 || (((p0.NX == 0) && (p0.NY == 0)) && ((p0.Steps.length : Int) == 0))))))]) (LE [(1, bx b100 #[(iv p0.Kind), (sv p0.Name), (iv p0.At.X), (iv p0.At.Y), (.slice Ap0_0 (p0.Points).length cp0_0), (iv p0.NX), (iv p0.NY), (.slice Ap0_1 (p0.Steps).length cp0_1)] 49)]) _
      refine Tr.asg rfl rfl ?_
      refine Tr.nil (Tr.normThen ?_)
      refine Tr.ret ?_
      obtain rfl := Option.some.inj H
      exact Tr.out (m := [(.bool ((((x104 || (sEq p0.Name ByteArray.empty)) && (x105 || (eqTPoint p0.At (TPoint.mk 0 0)))) && (x106 || ((p0.Points.length : Int) == 0))) && (x107 || (((p0.NX == 0) && (p0.NY == 0)) && ((p0.Steps.length : Int) == 0)))))]) [] (res_tmp rfl res_nil) (fun W hW => ⟨rfl, hW.low leB⟩)

theorem F_etchhouseref3_tool_ok (N : Nat) {w : Bs} (p0 : TPlot) (Ap0_0 : Option Addr) (cp0_0 : Nat) (hp0_0 : Sl w.R w.W fl_TPlotTool Ap0_0 cp0_0 p0.Tools) (Ap0_1 : Option Addr) (cp0_1 : Nat) (hp0_1 : Sl w.R w.W fl_TPlotStep Ap0_1 cp0_1 p0.Steps) (p1 : ByteArray) (r : Int) (H : F_etchhouseref3_tool N p0 p1 = some r) (hE : HF w w.W E0) : Calls Tryz.prog 108 [(.agg #[(iv p0.Unit), (.slice Ap0_0 (p0.Tools).length cp0_0), (.slice Ap0_1 (p0.Steps).length cp0_1)]), (sv p1)].toArray w.W fun e W' => e = .returned (iv r) ∧ HF w W' E0 := by
 unfold F_etchhouseref3_tool at H
 have leB := Bs.Le.refl w
 refine Tr.enter (n := 22) Tryz.func108 rfl rfl rfl hE ?_
 refine Tr.sr ?_
 refine Tr.box 1 (cs := [(iv p0.Unit), (.slice Ap0_0 (p0.Tools).length cp0_0), (.slice Ap0_1 (p0.Steps).length cp0_1)]) (wn rfl) rfl rfl rfl fun b100 => ?_
 refine Tr.asg rfl rfl ?_
 refine Tr.nil (Tr.normThen ?_)
 refine Tr.seq ?_
 refine Tr.sr ?_
 refine Tr.asg rfl rfl ?_
 refine Tr.nil (Tr.normThen ?_)
 refine Tr.block ?_
 refine Tr.loop (σ := Int) (fun m w s => F_etchhouseref3_tool_L1 p0 p1 m s = some r) (fun s => [(1, (sv p1)), (2, (.pointer (some ⟨b100, 0, none⟩))), (5, (iv s))]) (fun s => [(1, bx b100 #[(iv p0.Unit), (.slice Ap0_0 (p0.Tools).length cp0_0), (.slice Ap0_1 (p0.Steps).length cp0_1)] 25)]) N 0 H (.cons rfl (.cons rfl (.cons rfl .nil))) (.cons rfl .nil) (fun _ _ h => noSome (h)) ?_
 intro w leL1 mL1 x108 hs
 have H := hs
 replace H : F_etchhouseref3_tool_L1 p0 p1 (mL1 + 1) x108 = some r := H
 replace hp0_0 := hp0_0.leR leL1
 replace hp0_1 := hp0_1.leR leL1
 replace leB := leB.trans leL1
 rw [F_etchhouseref3_tool_L1.eq_2] at H
 show Tr _ _ (LF [(1, (sv p1)), (2, (.pointer (some ⟨b100, 0, none⟩))), (5, (iv x108))]) (LE [(1, bx b100 #[(iv p0.Unit), (.slice Ap0_0 (p0.Tools).length cp0_0), (.slice Ap0_1 (p0.Steps).length cp0_1)] 25)]) _
 refine Tr.seq ?_
 refine Tr.sr ?_
 refine Tr.mv rfl rfl ?_
 refine Tr.va rfl (fun _ _ h1 h2 => run_fieldAddr fo_25_1 (h1.ev rfl)) ?_
 refine Tr.va rfl (fun _ _ h1 h2 => run_load1 ag_22 (h1.ev rfl) (rdb h2 (vs := [(iv p0.Unit), (.slice Ap0_0 (p0.Tools).length cp0_0), (.slice Ap0_1 (p0.Steps).length cp0_1)]) (k := 1) rfl 1) rfl) ?_
 refine Tr.va rfl (fun _ _ h1 h2 => run_len un_22 (h1.ev rfl)) ?_
 refine Tr.va rfl (fun _ _ h1 h2 => run_lss (h1.ev rfl) (h1.ev rfl)) ?_
 refine Tr.nil (Tr.normThen ?_)
 refine Tr.cond rfl H (fun H => ?_) (fun H => ?_)
 ·refine Tr.skip (Tr.normThen ?_)
  refine Tr.seq ?_
  refine Tr.block ?_
  refine Tr.sr ?_
  refine Tr.va rfl (fun _ _ h1 h2 => run_fieldAddr fo_25_1 (h1.ev rfl)) ?_
  refine Tr.va rfl (fun _ _ h1 h2 => run_load1 ag_22 (h1.ev rfl) (rdb h2 (vs := [(iv p0.Unit), (.slice Ap0_0 (p0.Tools).length cp0_0), (.slice Ap0_1 (p0.Steps).length cp0_1)]) (k := 1) rfl 1) rfl) ?_
  refine Tr.mv rfl rfl ?_
  obtain ⟨x109, hx109, H⟩ := bnd H
  obtain ⟨hx1090, hx1091, hx1092⟩ := idx_some hx109
  obtain ⟨u110, hRu110, hoku110, hcu110⟩ := (hp0_0).el hx1092
  obtain ⟨Au110_0, cu110_0⟩ := u110
  have hoku110_0 := hoku110
  replace hoku110_0 : Sl w.R w.W fl_TRect Au110_0 cu110_0 x109.Rects := hoku110_0
  refine Tr.va rfl (fun _ _ h1 h2 => run_indexAddr el_22 (h1.ev rfl) hp0_0.form (h1.ev rfl) hx1090 hx1091) ?_
  refine Tr.va rfl (fun _ _ h1 h2 => run_fieldAddr fo_54_0 (h1.ev rfl)) ?_
  refine Tr.va rfl (fun _ _ h1 h2 => run_load1 ag_9 (h1.ev rfl) (CellsAt.drop (rdR hRu110 hcu110 h2) 0) rfl) ?_
  refine Tr.mv rfl rfl ?_
  refine Tr.va rfl (fun _ _ h1 h2 => run_eqlS (h1.ev rfl) (h1.ev rfl)) ?_
  refine Tr.nil (Tr.normThen ?_)
  refine Tr.cond rfl H (fun H => ?_) (fun H => ?_)
  ·refine Tr.sr ?_
   refine Tr.mv rfl rfl ?_
   refine Tr.asg rfl rfl ?_
   refine Tr.nil (Tr.normThen ?_)
   refine Tr.ret (Tr.retBlock (Tr.retThen (Tr.retThen (Tr.retBlock (Tr.retThen ?_)))))
   obtain rfl := Option.some.inj H
   exact Tr.out (m := [(iv x108)]) [] (res_tmp rfl res_nil) (fun W hW => ⟨rfl, hW.low leB⟩)
  ·refine Tr.skip (Tr.normBlock (Tr.normThen ?_))
   refine Tr.region ?_
   refine Tr.mv rfl rfl ?_
   refine Tr.va rfl (fun _ _ h1 h2 => run_add (h1.ev rfl) (h1.ev rfl)) ?_
   refine Tr.asg rfl rfl ?_
   refine Tr.nil ?_
   exact Tr.backThen leL1 (w64 (x108 + 1)) H (.cons rfl (.cons rfl (.cons rfl .nil))) (.cons rfl .nil)
 ·refine Tr.exit (Tr.exitThen (Tr.exitThen (Tr.exitBlock (Tr.normThen ?_))))
  refine Tr.sr ?_
  refine Tr.asg rfl rfl ?_
  refine Tr.nil (Tr.normThen ?_)
  refine Tr.ret ?_
  obtain rfl := Option.some.inj H
  exact Tr.out (m := [(iv (-1))]) [] (res_tmp rfl res_nil) (fun W hW => ⟨rfl, hW.low leB⟩)

theorem F_etchhouseref3_pointFits_ok {w : Bs} (p0 : TPoint) (p1 : Int) (r : Bool) (H : F_etchhouseref3_pointFits p0 p1 = some r) (hE : HF w w.W E0) : Calls Tryz.prog 109 [(.agg #[(iv p0.X), (iv p0.Y)]), (iv p1)].toArray w.W fun e W' => e = .returned (.bool r) ∧ HF w W' E0 := by
 unfold F_etchhouseref3_pointFits at H
 have leB := Bs.Le.refl w
 refine Tr.enter (n := 15) Tryz.func109 rfl rfl rfl hE ?_
 refine Tr.sr ?_
 refine Tr.box 1 (cs := [(iv p0.X), (iv p0.Y)]) (wn rfl) rfl rfl rfl fun b100 => ?_
 refine Tr.asg rfl rfl ?_
 refine Tr.nil (Tr.normThen ?_)
 refine Tr.sr ?_
 refine Tr.va rfl (fun _ _ h1 h2 => run_fieldAddr fo_42_0 (h1.ev rfl)) ?_
 refine Tr.va rfl (fun _ _ h1 h2 => run_load1 ag_3 (h1.ev rfl) (rdb h2 (vs := [(iv p0.X), (iv p0.Y)]) (k := 1) rfl 0) rfl) ?_
 refine Tr.mv rfl rfl ?_
 obtain ⟨y101, hy101, H⟩ := bnd H
 refine Tr.call0 (r := (.bool y101)) (wn rfl) rfl Tryz.call82 (evl_cons rfl (evl_cons rfl evl_nil)) (fun W hW => F_etchhouseref3_fits_ok p0.X p1 y101 hy101 (HF.start _)) ?_
 refine Tr.mv rfl rfl ?_
 obtain ⟨g103, hg103, H⟩ := bnd H
 refine Tr.mid0 5 [(14, (.bool g103))] [(1, bx b100 #[(iv p0.X), (iv p0.Y)] 42)] ?_ ?_
 ·cases hg104 : y101
  ·rw [hg104] at hg103
   rw [if_neg (by decide)] at hg103
   have H := hg103
   obtain rfl := Option.some.inj H
   refine Tr.pass rfl rfl rfl rfl rfl (by decide) ?_
   refine Tr.pass rfl rfl rfl rfl rfl (by decide) ?_
   refine Tr.pass rfl rfl rfl rfl rfl (by decide) ?_
   refine Tr.pass rfl rfl rfl rfl rfl (by decide) ?_
   refine Tr.va rfl (fun _ _ h1 h2 => run_pickF (h1.ev rfl) (h1.ev rfl)) ?_
   exact Tr.nil (Tr.fin0 (.cons rfl .nil) (.cons rfl .nil))
  ·rw [hg104] at hg103
   rw [if_pos rfl] at hg103
   have H := hg103
   refine Tr.val (wg rfl rfl rfl) rfl (fun _ _ h1 h2 => run_fieldAddr fo_42_1 (h1.ev rfl)) ?_
   refine Tr.val (wg rfl rfl rfl) rfl (fun _ _ h1 h2 => run_load1 ag_3 (h1.ev rfl) (rdb h2 (vs := [(iv p0.X), (iv p0.Y)]) (k := 1) rfl 1) rfl) ?_
   refine Tr.val (wg rfl rfl rfl) rfl (fun _ _ h1 h2 => run_move (h1.ev rfl)) ?_
   obtain ⟨y104, hy104, H⟩ := bnd H
   refine Tr.call0 (r := (.bool y104)) (wg rfl rfl rfl) rfl Tryz.call82 (evl_cons rfl (evl_cons rfl evl_nil)) (fun W hW => F_etchhouseref3_fits_ok p0.Y p1 y104 hy104 (HF.start _)) ?_
   refine Tr.va rfl (fun _ _ h1 h2 => run_pickT (h1.ev rfl) (h1.ev rfl)) ?_
   obtain rfl := Option.some.inj H
   exact Tr.nil (Tr.fin0 (.cons rfl .nil) (.cons rfl .nil))
 ·show Tr _ _ (LF [(14, (.bool g103))]) (LE [(1, bx b100 #[(iv p0.X), (iv p0.Y)] 42)]) _
  refine Tr.asg rfl rfl ?_
  refine Tr.nil (Tr.normThen ?_)
  refine Tr.ret ?_
  obtain rfl := Option.some.inj H
  exact Tr.out (m := [(.bool g103)]) [] (res_tmp rfl res_nil) (fun W hW => ⟨rfl, hW.low leB⟩)

theorem F_etchhouseref3_checkArea_ok (N : Nat) {w : Bs} (p0 : (List TPoint)) (Ap0_0 : Option Addr) (cp0_0 : Nat) (hp0_0 : Sl w.R w.W fl_TPoint Ap0_0 cp0_0 p0) (p1 : Int) (r : Int) (H : F_etchhouseref3_checkArea N p0 p1 = some r) (hE : HF w w.W E0) : Calls Tryz.prog 110 [(.slice Ap0_0 (p0).length cp0_0), (iv p1)].toArray w.W fun e W' => e = .returned (iv r) ∧ HF w W' E0 := by
 unfold F_etchhouseref3_checkArea at H
 have leB := Bs.Le.refl w
 refine Tr.enter (n := 57) Tryz.func110 rfl rfl rfl hE ?_
 refine Tr.sr ?_
 refine Tr.asg rfl rfl ?_
 refine Tr.nil (Tr.normThen ?_)
 refine Tr.seq ?_
 refine Tr.sr ?_
 refine Tr.asg rfl rfl ?_
 refine Tr.nil (Tr.normThen ?_)
 refine Tr.block ?_
 refine Tr.loop (σ := Int) (fun m w s => F_etchhouseref3_checkArea_L1 N p0 p1 m s = some r) (fun s => [(0, (.slice Ap0_0 (p0).length cp0_0)), (1, (iv p1)), (5, (iv s))]) (fun s => []) N 0 H (.cons rfl (.cons rfl (.cons rfl .nil))) .nil (fun _ _ h => noSome (h)) ?_
 intro w leL1 mL1 x107 hs
 have H := hs
 replace H : F_etchhouseref3_checkArea_L1 N p0 p1 (mL1 + 1) x107 = some r := H
 replace hp0_0 := hp0_0.leR leL1
 replace leB := leB.trans leL1
 rw [F_etchhouseref3_checkArea_L1.eq_2] at H
 show Tr _ _ (LF [(0, (.slice Ap0_0 (p0).length cp0_0)), (1, (iv p1)), (5, (iv x107))]) (LE []) _
 refine Tr.seq ?_
 refine Tr.sr ?_
 refine Tr.mv rfl rfl ?_
 refine Tr.mv rfl rfl ?_
 refine Tr.va rfl (fun _ _ h1 h2 => run_len un_47 (h1.ev rfl)) ?_
 refine Tr.va rfl (fun _ _ h1 h2 => run_lss (h1.ev rfl) (h1.ev rfl)) ?_
 refine Tr.nil (Tr.normThen ?_)
 refine Tr.cond rfl H (fun H => ?_) (fun H => ?_)
 ·refine Tr.skip (Tr.normThen ?_)
  refine Tr.seq ?_
  refine Tr.block ?_
  refine Tr.sr ?_
  refine Tr.mv rfl rfl ?_
  refine Tr.mv rfl rfl ?_
  obtain ⟨x108, hx108, H⟩ := bnd H
  obtain ⟨hx1080, hx1081, hx1082⟩ := idx_some hx108
  refine Tr.va rfl (fun _ _ h1 h2 => run_indexAddr el_47 (h1.ev rfl) hp0_0.form (h1.ev rfl) hx1080 hx1081) ?_
  refine Tr.va rfl (fun _ _ h1 h2 => run_loadN (cs := [(iv x108.X), (iv x108.Y)]) ag_42 sz_42 (h1.ev rfl) (CellsAt.take (rdF ef_TPoint hp0_0 hx1082 h2) 2) rfl) ?_
  refine Tr.mv rfl rfl ?_
  obtain ⟨y109, hy109, H⟩ := bnd H
  refine Tr.call0 (r := (.bool y109)) (wn rfl) rfl Tryz.call109 (evl_cons rfl (evl_cons rfl evl_nil)) (fun W hW => F_etchhouseref3_pointFits_ok x108 p1 y109 hy109 (HF.start _)) ?_
  refine Tr.va rfl (fun _ _ h1 h2 => run_not (h1.ev rfl)) ?_
  refine Tr.nil (Tr.normThen ?_)
  refine Tr.cond rfl H (fun H => ?_) (fun H => ?_)
  ·refine Tr.sr ?_
   refine Tr.asg rfl rfl ?_
   refine Tr.nil (Tr.normThen ?_)
   refine Tr.ret (Tr.retBlock (Tr.retThen (Tr.retThen (Tr.retBlock (Tr.retThen ?_)))))
   obtain rfl := Option.some.inj H
   exact Tr.out (m := [(iv 1)]) [] (res_tmp rfl res_nil) (fun W hW => ⟨rfl, hW.low leB⟩)
  ·refine Tr.skip (Tr.normBlock (Tr.normThen ?_))
   refine Tr.region ?_
   refine Tr.mv rfl rfl ?_
   refine Tr.va rfl (fun _ _ h1 h2 => run_add (h1.ev rfl) (h1.ev rfl)) ?_
   refine Tr.asg rfl rfl ?_
   refine Tr.nil ?_
   exact Tr.backThen leL1 (w64 (x107 + 1)) H (.cons rfl (.cons rfl (.cons rfl .nil))) .nil
 ·refine Tr.exit (Tr.exitThen (Tr.exitThen (Tr.exitBlock (Tr.normThen ?_))))
  refine Tr.seq ?_
  refine Tr.sr ?_
  refine Tr.mv rfl rfl ?_
  refine Tr.va rfl (fun _ _ h1 h2 => run_len un_47 (h1.ev rfl)) ?_
  refine Tr.va rfl (fun _ _ h1 h2 => run_gtr (h1.ev rfl) (h1.ev rfl)) ?_
  refine Tr.nil (Tr.normThen ?_)
  refine Tr.cond rfl H (fun H => ?_) (fun H => ?_)
  ·refine Tr.sr ?_
   refine Tr.asg rfl rfl ?_
   refine Tr.nil (Tr.normThen ?_)
   refine Tr.ret (Tr.retThen ?_)
   obtain rfl := Option.some.inj H
   exact Tr.out (m := [(iv 2)]) [] (res_tmp rfl res_nil) (fun W hW => ⟨rfl, hW.low leB⟩)
  ·refine Tr.skip (Tr.normThen ?_)
   refine Tr.seq ?_
   refine Tr.sr ?_
   refine Tr.mv rfl rfl ?_
   refine Tr.va rfl (fun _ _ h1 h2 => run_len un_47 (h1.ev rfl)) ?_
   refine Tr.va rfl (fun _ _ h1 h2 => run_lss (h1.ev rfl) (h1.ev rfl)) ?_
   refine Tr.nil (Tr.normThen ?_)
   refine Tr.cond rfl H (fun H => ?_) (fun H => ?_)
   ·refine Tr.sr ?_
    refine Tr.asg rfl rfl ?_
    refine Tr.nil (Tr.normThen ?_)
    refine Tr.ret (Tr.retThen ?_)
    obtain rfl := Option.some.inj H
    exact Tr.out (m := [(iv 3)]) [] (res_tmp rfl res_nil) (fun W hW => ⟨rfl, hW.low leB⟩)
   ·refine Tr.skip (Tr.normThen ?_)
    refine Tr.seq ?_
    refine Tr.sr ?_
    refine Tr.asg rfl rfl ?_
    refine Tr.nil (Tr.normThen ?_)
    refine Tr.block ?_
    refine Tr.loop (σ := Int) (fun m w s => F_etchhouseref3_checkArea_L2 p0 m s = some r) (fun s => [(0, (.slice Ap0_0 (p0).length cp0_0)), (6, (iv s))]) (fun s => []) N 0 H (.cons rfl (.cons rfl .nil)) .nil (fun _ _ h => noSome (h)) ?_
    intro w leL2 mL2 x127 hs
    have H := hs
    replace H : F_etchhouseref3_checkArea_L2 p0 (mL2 + 1) x127 = some r := H
    replace hp0_0 := hp0_0.leR leL2
    replace leB := leB.trans leL2
    replace leL1 := leL1.trans leL2
    rw [F_etchhouseref3_checkArea_L2.eq_2] at H
    show Tr _ _ (LF [(0, (.slice Ap0_0 (p0).length cp0_0)), (6, (iv x127))]) (LE []) _
    refine Tr.seq ?_
    refine Tr.sr ?_
    refine Tr.mv rfl rfl ?_
    refine Tr.mv rfl rfl ?_
    refine Tr.va rfl (fun _ _ h1 h2 => run_len un_47 (h1.ev rfl)) ?_
    refine Tr.va rfl (fun _ _ h1 h2 => run_lss (h1.ev rfl) (h1.ev rfl)) ?_
    refine Tr.nil (Tr.normThen ?_)
    refine Tr.cond rfl H (fun H => ?_) (fun H => ?_)
    ·refine Tr.skip (Tr.normThen ?_)
     refine Tr.seq ?_
     refine Tr.block ?_
     refine Tr.seq ?_
     refine Tr.drawC 15 [] [14] (by kernel_rfl) (by kernel_rfl) fun sz128 hlosz128 hEsz128 => ?_
     refine Dr.quiet 0 [(34, (.slice Ap0_0 (p0).length cp0_0))] (by kernel_rfl) rfl rfl (by kernel_rfl) ?_ rfl rfl ?_
     ·refine Tq.mv rfl rfl ?_
      exact Tq.fin (.cons rfl .nil)
     refine Dr.quiet 1 [(35, (iv x127))] (by kernel_rfl) rfl rfl (by kernel_rfl) ?_ rfl rfl ?_
     ·refine Tq.mv rfl rfl ?_
      exact Tq.fin (.cons rfl .nil)
     obtain ⟨x129, hx129, H⟩ := bnd H
     obtain ⟨hx1290, hx1291, hx1292⟩ := idx_some hx129
     refine Dr.quiet 2 [(36, (.pointer (some ⟨adB Ap0_0, adO Ap0_0 + (x127).toNat * 2, none⟩)))] (by kernel_rfl) rfl rfl (by kernel_rfl) ?_ rfl rfl ?_
     ·refine Tq.va rfl (fun _ _ h1 h2 => run_indexAddr el_47 (h1.ev rfl) hp0_0.form (h1.ev rfl) hx1290 hx1291) ?_
      exact Tq.fin (.cons rfl .nil)
     refine Dr.quiet 3 [(37, (.agg #[(iv x129.X), (iv x129.Y)]))] (by kernel_rfl) rfl rfl (by kernel_rfl) ?_ rfl rfl ?_
     ·refine Tq.va rfl (fun _ _ h1 h2 => run_loadN (cs := [(iv x129.X), (iv x129.Y)]) ag_42 sz_42 (h1.ev rfl) (CellsAt.take (rdF ef_TPoint hp0_0 hx1292 h2) 2) rfl) ?_
      exact Tq.fin (.cons rfl .nil)
     refine Dr.quietP 4 (by kernel_rfl) rfl (wn rfl) rfl (by kernel_rfl) (fun _ _ h1 => run_move (h1.ev rfl)) rfl ?_
     refine Dr.quietP 5 (by kernel_rfl) rfl (wn rfl) rfl (by kernel_rfl) (fun _ _ h1 => run_move (h1.ev rfl)) rfl ?_
     refine Dr.quietP 6 (by kernel_rfl) rfl (wn rfl) rfl (by kernel_rfl) (fun _ _ h1 => run_add (h1.ev rfl) (h1.ev rfl)) rfl ?_
     refine Dr.quietP 7 (by kernel_rfl) rfl (wn rfl) rfl (by kernel_rfl) (fun _ _ h1 => run_move (h1.ev rfl)) rfl ?_
     refine Dr.quietP 8 (by kernel_rfl) rfl (wn rfl) rfl (by kernel_rfl) (fun _ _ h1 => run_len un_47 (h1.ev rfl)) rfl ?_
     obtain ⟨q130, hq130, H⟩ := bnd H
     refine Dr.quietP 9 (by kernel_rfl) rfl (wn rfl) rfl (by kernel_rfl) (fun _ _ h1 => run_md (h1.ev rfl) (h1.ev rfl) hq130) rfl ?_
     obtain ⟨x131, hx131, H⟩ := bnd H
     obtain ⟨hx1310, hx1311, hx1312⟩ := idx_some hx131
     refine Dr.quietP 10 (by kernel_rfl) rfl (wn rfl) rfl (by kernel_rfl) (fun _ _ h1 => run_indexAddr el_47 (h1.ev rfl) hp0_0.form (h1.ev rfl) hx1310 hx1311) rfl ?_
     refine Dr.quietZ 11 [(45, (.agg #[(iv x131.X), (iv x131.Y)]))] [] true (by kernel_rfl) rfl rfl (by kernel_rfl) (fun W W' h2 hsW hk => HF.keepZ (le := []) (ks := []) (s0 := sz128) true h2 hk (fun _ => hlosz128) .nil (fun b hb => hb.elim (fun ⟨_, hp, _⟩ => nomatch hp) (fun hb => .inr ⟨rfl, hb.2, (fun _ h => nomatch h)⟩)) (fun _ h => nomatch h) rfl) ?_ rfl rfl ?_
     ·refine Tq.va rfl (fun _ _ h1 h2 => run_loadN (cs := [(iv x131.X), (iv x131.Y)]) ag_42 sz_42 (h1.ev rfl) (CellsAt.take (rdF ef_TPoint hp0_0 hx1312 h2) 2) rfl) ?_
      exact Tq.fin (.cons rfl .nil)
     refine Dr.cut (U := Nat × Nat) [12, 13] 1 (fun u => sz128 ≤ u.1 ∧ sz128 ≤ u.2) (fun u => [(0, (.slice Ap0_0 (p0).length cp0_0)), (6, (iv x127)), (7, (.pointer (some ⟨u.1, 0, none⟩))), (8, (.pointer (some ⟨u.2, 0, none⟩))), (28, (iv x127)), (29, (.slice Ap0_0 (p0).length cp0_0)), (30, (iv (p0.length : Int))), (31, (.bool (decide (x127 < (p0.length : Int))))), (34, (.slice Ap0_0 (p0).length cp0_0)), (35, (iv x127)), (36, (.pointer (some ⟨adB Ap0_0, adO Ap0_0 + (x127).toNat * 2, none⟩))), (37, (.agg #[(iv x129.X), (iv x129.Y)])), (38, (.slice Ap0_0 (p0).length cp0_0)), (39, (iv x127)), (40, (iv (w64 (x127 + 1)))), (41, (.slice Ap0_0 (p0).length cp0_0)), (42, (iv (p0.length : Int))), (43, (iv q130)), (44, (.pointer (some ⟨adB Ap0_0, adO Ap0_0 + (q130).toNat * 2, none⟩))), (45, (.agg #[(iv x131.X), (iv x131.Y)]))]) (fun u => [(5, bx u.1 #[(iv 0), (iv 0)] 42), (6, bx u.2 #[(iv 0), (iv 0)] 42)]) ?_ ?_
     ·intro hC
      refine Dr.pair 12 13 (by kernel_rfl) ?_ ?_
      ·refine St.alloc 12 5 rfl (wn rfl) rfl ze_42 fun b132 hb132 => ?_
       refine Dr.one 13 (by kernel_rfl) ?_
       refine St.alloc 13 6 rfl (wn rfl) rfl ze_42 fun b133 hb133 => ?_
       exact (hC ⟨b132, b133⟩ ⟨hb132, hb133⟩).use (by kernel_rfl) (.cons rfl (.cons rfl (.cons rfl (.cons rfl (.cons rfl (.cons rfl (.cons rfl (.cons rfl (.cons rfl (.cons rfl (.cons rfl (.cons rfl (.cons rfl (.cons rfl (.cons rfl (.cons rfl (.cons rfl (.cons rfl (.cons rfl (.cons rfl .nil)))))))))))))))))))) (.cons rfl (.cons rfl .nil))
      ·refine St.alloc 13 6 rfl (wn rfl) rfl ze_42 fun b133 hb133 => ?_
       refine Dr.one 12 (by kernel_rfl) ?_
       refine St.alloc 12 5 rfl (wn rfl) rfl ze_42 fun b132 hb132 => ?_
       exact (hC ⟨b132, b133⟩ ⟨hb132, hb133⟩).use (by kernel_rfl) (.cons rfl (.cons rfl (.cons rfl (.cons rfl (.cons rfl (.cons rfl (.cons rfl (.cons rfl (.cons rfl (.cons rfl (.cons rfl (.cons rfl (.cons rfl (.cons rfl (.cons rfl (.cons rfl (.cons rfl (.cons rfl (.cons rfl (.cons rfl .nil)))))))))))))))))))) (.cons rfl (.cons rfl .nil))
     intro u hu
     obtain ⟨b132, b133⟩ := u
     obtain ⟨hb132, hb133⟩ := hu
     replace hb132 : sz128 ≤ b132 := hb132
     replace hb133 : sz128 ≤ b133 := hb133
     show Dr _ _ _ _ _ _ _ _ _ (LF [(0, (.slice Ap0_0 (p0).length cp0_0)), (6, (iv x127)), (7, (.pointer (some ⟨b132, 0, none⟩))), (8, (.pointer (some ⟨b133, 0, none⟩))), (28, (iv x127)), (29, (.slice Ap0_0 (p0).length cp0_0)), (30, (iv (p0.length : Int))), (31, (.bool (decide (x127 < (p0.length : Int))))), (34, (.slice Ap0_0 (p0).length cp0_0)), (35, (iv x127)), (36, (.pointer (some ⟨adB Ap0_0, adO Ap0_0 + (x127).toNat * 2, none⟩))), (37, (.agg #[(iv x129.X), (iv x129.Y)])), (38, (.slice Ap0_0 (p0).length cp0_0)), (39, (iv x127)), (40, (iv (w64 (x127 + 1)))), (41, (.slice Ap0_0 (p0).length cp0_0)), (42, (iv (p0.length : Int))), (43, (iv q130)), (44, (.pointer (some ⟨adB Ap0_0, adO Ap0_0 + (q130).toNat * 2, none⟩))), (45, (.agg #[(iv x131.X), (iv x131.Y)]))]) (LE [(5, bx b132 #[(iv 0), (iv 0)] 42), (6, bx b133 #[(iv 0), (iv 0)] 42)])
     refine Dr.one 14 (by kernel_rfl) ?_
     refine St.store 14 5 (cs := [(iv x129.X), (iv x129.Y)]) [(iv x129.X), (iv x129.Y)] rfl (wn rfl) (.inr ⟨by simp, hb132⟩) rfl rfl rfl rfl sz_42 rfl rfl rfl ?_
     refine Dr.tail (by kernel_rfl) ?_
     refine Tr.store 6 (cs := [(iv x131.X), (iv x131.Y)]) [(iv x131.X), (iv x131.Y)] (wn rfl) rfl rfl rfl rfl sz_42 rfl rfl rfl ?_
     refine Tr.nil (Tr.normThen ?_)
     refine Tr.sr ?_
     refine Tr.va rfl (fun _ _ h1 h2 => run_fieldAddr fo_42_0 (h1.ev rfl)) ?_
     refine Tr.va rfl (fun _ _ h1 h2 => run_load1 ag_3 (h1.ev rfl) (rdb h2 (vs := [(iv x129.X), (iv x129.Y)]) (k := 5) rfl 0) rfl) ?_
     refine Tr.va rfl (fun _ _ h1 h2 => run_fieldAddr fo_42_0 (h1.ev rfl)) ?_
     refine Tr.va rfl (fun _ _ h1 h2 => run_load1 ag_3 (h1.ev rfl) (rdb h2 (vs := [(iv x131.X), (iv x131.Y)]) (k := 6) rfl 0) rfl) ?_
     refine Tr.va rfl (fun _ _ h1 h2 => run_eql (h1.ev rfl) (h1.ev rfl)) ?_
     refine Tr.va rfl (fun _ _ h1 h2 => run_fieldAddr fo_42_1 (h1.ev rfl)) ?_
     refine Tr.va rfl (fun _ _ h1 h2 => run_load1 ag_3 (h1.ev rfl) (rdb h2 (vs := [(iv x129.X), (iv x129.Y)]) (k := 5) rfl 1) rfl) ?_
     refine Tr.va rfl (fun _ _ h1 h2 => run_fieldAddr fo_42_1 (h1.ev rfl)) ?_
     refine Tr.va rfl (fun _ _ h1 h2 => run_load1 ag_3 (h1.ev rfl) (rdb h2 (vs := [(iv x131.X), (iv x131.Y)]) (k := 6) rfl 1) rfl) ?_
     refine Tr.va rfl (fun _ _ h1 h2 => run_eql (h1.ev rfl) (h1.ev rfl)) ?_
     refine Tr.va rfl (fun _ _ h1 h2 => run_eqlB un_4 (h1.ev rfl) (h1.ev rfl)) ?_
     refine Tr.nil (Tr.normThen ?_)
     refine Tr.cond rfl H (fun H => ?_) (fun H => ?_)
     ·refine Tr.sr ?_
      refine Tr.asg rfl rfl ?_
      refine Tr.nil (Tr.normThen ?_)
      refine Tr.ret (Tr.retBlock (Tr.retThen (Tr.retThen (Tr.retBlock (Tr.retThen ?_)))))
      obtain rfl := Option.some.inj H
      exact Tr.out (m := [(iv 3)]) [] (res_tmp rfl res_nil) (fun W hW => ⟨rfl, hW.low leB⟩)
     ·refine Tr.skip (Tr.normBlock (Tr.normThen ?_))
      refine Tr.region ?_
      refine Tr.mv rfl rfl ?_
      refine Tr.va rfl (fun _ _ h1 h2 => run_add (h1.ev rfl) (h1.ev rfl)) ?_
      refine Tr.asg rfl rfl ?_
      refine Tr.nil ?_
      exact Tr.backThen leL2 (w64 (x127 + 1)) H (.cons rfl (.cons rfl .nil)) .nil
    ·refine Tr.exit (Tr.exitThen (Tr.exitThen (Tr.exitBlock (Tr.normThen ?_))))
     refine Tr.sr ?_
     refine Tr.asg rfl rfl ?_
     refine Tr.nil (Tr.normThen ?_)
     refine Tr.ret ?_
     obtain rfl := Option.some.inj H
     exact Tr.out (m := [(iv 0)]) [] (res_tmp rfl res_nil) (fun W hW => ⟨rfl, hW.low leB⟩)

theorem F_etchhouseref3_checkStep_ok (N : Nat) {w : Bs} (p0 : TPlot) (Ap0_0 : Option Addr) (cp0_0 : Nat) (hp0_0 : Sl w.R w.W fl_TPlotTool Ap0_0 cp0_0 p0.Tools) (Ap0_1 : Option Addr) (cp0_1 : Nat) (hp0_1 : Sl w.R w.W fl_TPlotStep Ap0_1 cp0_1 p0.Steps) (p1 : TPlotStep) (Ap1_0 : Option Addr) (cp1_0 : Nat) (hp1_0 : Sl w.R w.W fl_TPoint Ap1_0 cp1_0 p1.Points) (Ap1_1 : Option Addr) (cp1_1 : Nat) (hp1_1 : Sl w.R w.W fl_TPlotStep Ap1_1 cp1_1 p1.Steps) (p2 : Int) (r : Int) (H : F_etchhouseref3_checkStep N p0 p1 p2 = some r) (hE : HF w w.W E0) : Calls Tryz.prog 83 [(.agg #[(iv p0.Unit), (.slice Ap0_0 (p0.Tools).length cp0_0), (.slice Ap0_1 (p0.Steps).length cp0_1)]), (.agg #[(iv p1.Kind), (sv p1.Name), (iv p1.At.X), (iv p1.At.Y), (.slice Ap1_0 (p1.Points).length cp1_0), (iv p1.NX), (iv p1.NY), (.slice Ap1_1 (p1.Steps).length cp1_1)]), (iv p2)].toArray w.W fun e W' => e = .returned (iv r) ∧ HF w W' E0 := by
 unfold F_etchhouseref3_checkStep at H
 have leB := Bs.Le.refl w
 refine Tr.enter (n := 57) Tryz.func83 rfl rfl rfl hE ?_
 refine Tr.sr ?_
 refine Tr.box 1 (cs := [(iv p0.Unit), (.slice Ap0_0 (p0.Tools).length cp0_0), (.slice Ap0_1 (p0.Steps).length cp0_1)]) (wn rfl) rfl rfl rfl fun b100 => ?_
 refine Tr.box 2 (cs := [(iv p1.Kind), (sv p1.Name), (iv p1.At.X), (iv p1.At.Y), (.slice Ap1_0 (p1.Points).length cp1_0), (iv p1.NX), (iv p1.NY), (.slice Ap1_1 (p1.Steps).length cp1_1)]) (wn rfl) rfl rfl rfl fun b101 => ?_
 refine Tr.asg rfl rfl ?_
 refine Tr.nil (Tr.normThen ?_)
 refine Tr.seq ?_
 refine Tr.sr ?_
 refine Tr.va rfl (fun _ _ h1 h2 => run_fieldAddr fo_49_0 (h1.ev rfl)) ?_
 refine Tr.va rfl (fun _ _ h1 h2 => run_load1 ag_3 (h1.ev rfl) (rdb h2 (vs := [(iv p1.Kind), (sv p1.Name), (iv p1.At.X), (iv p1.At.Y), (.slice Ap1_0 (p1.Points).length cp1_0), (iv p1.NX), (iv p1.NY), (.slice Ap1_1 (p1.Steps).length cp1_1)]) (k := 2) rfl 0) rfl) ?_
 obtain ⟨y102, hy102, H⟩ := bnd H
 refine Tr.call0 (r := (.bool y102)) (wn rfl) rfl Tryz.call47 (evl_cons rfl (evl_cons rfl (evl_cons rfl evl_nil))) (fun W hW => F_etchhouseref3_within_ok p1.Kind 1 8 y102 hy102 (HF.start _)) ?_
 refine Tr.va rfl (fun _ _ h1 h2 => run_not (h1.ev rfl)) ?_
 refine Tr.nil (Tr.normThen ?_)
 refine Tr.cond rfl H (fun H => ?_) (fun H => ?_)
 ·refine Tr.sr ?_
  refine Tr.asg rfl rfl ?_
  refine Tr.nil (Tr.normThen ?_)
  refine Tr.ret (Tr.retThen ?_)
  obtain rfl := Option.some.inj H
  exact Tr.out (m := [(iv 4)]) [] (res_tmp rfl res_nil) (fun W hW => ⟨rfl, hW.low leB⟩)
 ·refine Tr.skip (Tr.normThen ?_)
  refine Tr.seq ?_
  refine Tr.sr ?_
  refine Tr.va rfl (fun _ _ h1 h2 => run_loadN (cs := [(iv p1.Kind), (sv p1.Name), (iv p1.At.X), (iv p1.At.Y), (.slice Ap1_0 (p1.Points).length cp1_0), (iv p1.NX), (iv p1.NY), (.slice Ap1_1 (p1.Steps).length cp1_1)]) ag_49 sz_49 (h1.ev rfl) (CellsAt.take (rdb h2 (vs := [(iv p1.Kind), (sv p1.Name), (iv p1.At.X), (iv p1.At.Y), (.slice Ap1_0 (p1.Points).length cp1_0), (iv p1.NX), (iv p1.NY), (.slice Ap1_1 (p1.Steps).length cp1_1)]) (k := 2) rfl 0) 8) rfl) ?_
  obtain ⟨y103, hy103, H⟩ := bnd H
  refine Tr.call0 (r := (.bool y103)) (wn rfl) rfl Tryz.call107 (evl_cons rfl evl_nil) (fun W hW => F_etchhouseref3_fields_ok p1 Ap1_0 cp1_0 (hp1_0.ext hW.extAll) Ap1_1 cp1_1 (hp1_1.ext hW.extAll) y103 hy103 (HF.start _)) ?_
  refine Tr.va rfl (fun _ _ h1 h2 => run_not (h1.ev rfl)) ?_
  refine Tr.nil (Tr.normThen ?_)
  refine Tr.cond rfl H (fun H => ?_) (fun H => ?_)
  ·refine Tr.sr ?_
   refine Tr.asg rfl rfl ?_
   refine Tr.nil (Tr.normThen ?_)
   refine Tr.ret (Tr.retThen ?_)
   obtain rfl := Option.some.inj H
   exact Tr.out (m := [(iv 3)]) [] (res_tmp rfl res_nil) (fun W hW => ⟨rfl, hW.low leB⟩)
  ·refine Tr.skip (Tr.normThen ?_)
   refine Tr.seq ?_
   refine Tr.sr ?_
   refine Tr.va rfl (fun _ _ h1 h2 => run_fieldAddr fo_49_0 (h1.ev rfl)) ?_
   refine Tr.va rfl (fun _ _ h1 h2 => run_load1 ag_3 (h1.ev rfl) (rdb h2 (vs := [(iv p1.Kind), (sv p1.Name), (iv p1.At.X), (iv p1.At.Y), (.slice Ap1_0 (p1.Points).length cp1_0), (iv p1.NX), (iv p1.NY), (.slice Ap1_1 (p1.Steps).length cp1_1)]) (k := 2) rfl 0) rfl) ?_
   refine Tr.va rfl (fun _ _ h1 h2 => run_eql (h1.ev rfl) (h1.ev rfl)) ?_
   refine Tr.mv rfl rfl ?_
   obtain ⟨g105, hg105, H⟩ := bnd H
   refine Tr.mid0 6 [(2, (iv p2)), (3, (.pointer (some ⟨b100, 0, none⟩))), (4, (.pointer (some ⟨b101, 0, none⟩))), (23, (.bool g105))] [(1, bx b100 #[(iv p0.Unit), (.slice Ap0_0 (p0.Tools).length cp0_0), (.slice Ap0_1 (p0.Steps).length cp0_1)] 25), (2, bx b101 #[(iv p1.Kind), (sv p1.Name), (iv p1.At.X), (iv p1.At.Y), (.slice Ap1_0 (p1.Points).length cp1_0), (iv p1.NX), (iv p1.NY), (.slice Ap1_1 (p1.Steps).length cp1_1)] 49)] ?_ ?_
   ·cases hg118 : (p1.Kind == 3)
    ·rw [hg118] at hg105
     rw [if_neg (by decide)] at hg105
     have H := hg105
     obtain rfl := Option.some.inj H
     refine Tr.pass rfl rfl rfl rfl rfl (by decide) ?_
     refine Tr.pass rfl rfl rfl rfl rfl (by decide) ?_
     refine Tr.pass rfl rfl rfl rfl rfl (by decide) ?_
     refine Tr.pass rfl rfl rfl rfl rfl (by decide) ?_
     refine Tr.pass rfl rfl rfl rfl rfl (by decide) ?_
     refine Tr.va rfl (fun _ _ h1 h2 => run_pickF (h1.ev rfl) (h1.ev rfl)) ?_
     exact Tr.nil (Tr.fin0 (.cons rfl (.cons rfl (.cons rfl (.cons rfl .nil)))) (.cons rfl (.cons rfl .nil)))
    ·rw [hg118] at hg105
     rw [if_pos rfl] at hg105
     have H := hg105
     refine Tr.val (wg rfl rfl rfl) rfl (fun _ _ h1 h2 => run_loadN (cs := [(iv p0.Unit), (.slice Ap0_0 (p0.Tools).length cp0_0), (.slice Ap0_1 (p0.Steps).length cp0_1)]) ag_25 sz_25 (h1.ev rfl) (CellsAt.take (rdb h2 (vs := [(iv p0.Unit), (.slice Ap0_0 (p0.Tools).length cp0_0), (.slice Ap0_1 (p0.Steps).length cp0_1)]) (k := 1) rfl 0) 3) rfl) ?_
     refine Tr.val (wg rfl rfl rfl) rfl (fun _ _ h1 h2 => run_fieldAddr fo_49_1 (h1.ev rfl)) ?_
     refine Tr.val (wg rfl rfl rfl) rfl (fun _ _ h1 h2 => run_load1 ag_9 (h1.ev rfl) (rdb h2 (vs := [(iv p1.Kind), (sv p1.Name), (iv p1.At.X), (iv p1.At.Y), (.slice Ap1_0 (p1.Points).length cp1_0), (iv p1.NX), (iv p1.NY), (.slice Ap1_1 (p1.Steps).length cp1_1)]) (k := 2) rfl 1) rfl) ?_
     obtain ⟨y106, hy106, H⟩ := bnd H
     refine Tr.call0 (r := (iv y106)) (wg rfl rfl rfl) rfl Tryz.call108 (evl_cons rfl (evl_cons rfl evl_nil)) (fun W hW => F_etchhouseref3_tool_ok N p0 Ap0_0 cp0_0 (hp0_0.ext hW.extAll) Ap0_1 cp0_1 (hp0_1.ext hW.extAll) p1.Name y106 hy106 (HF.start _)) ?_
     refine Tr.val (wg rfl rfl rfl) rfl (fun _ _ h1 h2 => run_lss (h1.ev rfl) (h1.ev rfl)) ?_
     refine Tr.va rfl (fun _ _ h1 h2 => run_pickT (h1.ev rfl) (h1.ev rfl)) ?_
     obtain rfl := Option.some.inj H
     exact Tr.nil (Tr.fin0 (.cons rfl (.cons rfl (.cons rfl (.cons rfl .nil)))) (.cons rfl (.cons rfl .nil)))
   ·show Tr _ _ (LF [(2, (iv p2)), (3, (.pointer (some ⟨b100, 0, none⟩))), (4, (.pointer (some ⟨b101, 0, none⟩))), (23, (.bool g105))]) (LE [(1, bx b100 #[(iv p0.Unit), (.slice Ap0_0 (p0.Tools).length cp0_0), (.slice Ap0_1 (p0.Steps).length cp0_1)] 25), (2, bx b101 #[(iv p1.Kind), (sv p1.Name), (iv p1.At.X), (iv p1.At.Y), (.slice Ap1_0 (p1.Points).length cp1_0), (iv p1.NX), (iv p1.NY), (.slice Ap1_1 (p1.Steps).length cp1_1)] 49)]) _
    refine Tr.nil (Tr.normThen ?_)
    refine Tr.cond rfl H (fun H => ?_) (fun H => ?_)
    ·refine Tr.sr ?_
     refine Tr.asg rfl rfl ?_
     refine Tr.nil (Tr.normThen ?_)
     refine Tr.ret (Tr.retThen ?_)
     obtain rfl := Option.some.inj H
     exact Tr.out (m := [(iv 5)]) [] (res_tmp rfl res_nil) (fun W hW => ⟨rfl, hW.low leB⟩)
    ·refine Tr.skip (Tr.normThen ?_)
     refine Tr.seq ?_
     refine Tr.sr ?_
     refine Tr.va rfl (fun _ _ h1 h2 => run_fieldAddr fo_49_2 (h1.ev rfl)) ?_
     refine Tr.va rfl (fun _ _ h1 h2 => run_loadN (cs := [(iv p1.At.X), (iv p1.At.Y)]) ag_42 sz_42 (h1.ev rfl) (CellsAt.take (rdb h2 (vs := [(iv p1.Kind), (sv p1.Name), (iv p1.At.X), (iv p1.At.Y), (.slice Ap1_0 (p1.Points).length cp1_0), (iv p1.NX), (iv p1.NY), (.slice Ap1_1 (p1.Steps).length cp1_1)]) (k := 2) rfl 2) 2) rfl) ?_
     refine Tr.va rfl (fun _ _ h1 h2 => run_fieldAddr fo_25_0 (h1.ev rfl)) ?_
     refine Tr.va rfl (fun _ _ h1 h2 => run_load1 ag_3 (h1.ev rfl) (rdb h2 (vs := [(iv p0.Unit), (.slice Ap0_0 (p0.Tools).length cp0_0), (.slice Ap0_1 (p0.Steps).length cp0_1)]) (k := 1) rfl 0) rfl) ?_
     obtain ⟨y107, hy107, H⟩ := bnd H
     refine Tr.call0 (r := (.bool y107)) (wn rfl) rfl Tryz.call109 (evl_cons rfl (evl_cons rfl evl_nil)) (fun W hW => F_etchhouseref3_pointFits_ok p1.At p0.Unit y107 hy107 (HF.start _)) ?_
     refine Tr.va rfl (fun _ _ h1 h2 => run_not (h1.ev rfl)) ?_
     refine Tr.nil (Tr.normThen ?_)
     refine Tr.cond rfl H (fun H => ?_) (fun H => ?_)
     ·refine Tr.sr ?_
      refine Tr.asg rfl rfl ?_
      refine Tr.nil (Tr.normThen ?_)
      refine Tr.ret (Tr.retThen ?_)
      obtain rfl := Option.some.inj H
      exact Tr.out (m := [(iv 1)]) [] (res_tmp rfl res_nil) (fun W hW => ⟨rfl, hW.low leB⟩)
     ·refine Tr.skip (Tr.normThen ?_)
      refine Tr.seq ?_
      refine Tr.sr ?_
      refine Tr.va rfl (fun _ _ h1 h2 => run_fieldAddr fo_49_0 (h1.ev rfl)) ?_
      refine Tr.va rfl (fun _ _ h1 h2 => run_load1 ag_3 (h1.ev rfl) (rdb h2 (vs := [(iv p1.Kind), (sv p1.Name), (iv p1.At.X), (iv p1.At.Y), (.slice Ap1_0 (p1.Points).length cp1_0), (iv p1.NX), (iv p1.NY), (.slice Ap1_1 (p1.Steps).length cp1_1)]) (k := 2) rfl 0) rfl) ?_
      refine Tr.va rfl (fun _ _ h1 h2 => run_eql (h1.ev rfl) (h1.ev rfl)) ?_
      refine Tr.nil (Tr.normThen ?_)
      refine Tr.cond rfl H (fun H => ?_) (fun H => ?_)
      ·refine Tr.sr ?_
       refine Tr.va rfl (fun _ _ h1 h2 => run_fieldAddr fo_49_3 (h1.ev rfl)) ?_
       refine Tr.va rfl (fun _ _ h1 h2 => run_load1 ag_47 (h1.ev rfl) (rdb h2 (vs := [(iv p1.Kind), (sv p1.Name), (iv p1.At.X), (iv p1.At.Y), (.slice Ap1_0 (p1.Points).length cp1_0), (iv p1.NX), (iv p1.NY), (.slice Ap1_1 (p1.Steps).length cp1_1)]) (k := 2) rfl 4) rfl) ?_
       refine Tr.va rfl (fun _ _ h1 h2 => run_fieldAddr fo_25_0 (h1.ev rfl)) ?_
       refine Tr.va rfl (fun _ _ h1 h2 => run_load1 ag_3 (h1.ev rfl) (rdb h2 (vs := [(iv p0.Unit), (.slice Ap0_0 (p0.Tools).length cp0_0), (.slice Ap0_1 (p0.Steps).length cp0_1)]) (k := 1) rfl 0) rfl) ?_
       obtain ⟨y108, hy108, H⟩ := bnd H
       refine Tr.call0 (r := (iv y108)) (wn rfl) rfl Tryz.call110 (evl_cons rfl (evl_cons rfl evl_nil)) (fun W hW => F_etchhouseref3_checkArea_ok N p1.Points Ap1_0 cp1_0 (hp1_0.ext hW.extAll) p0.Unit y108 hy108 (HF.start _)) ?_
       refine Tr.asg rfl rfl ?_
       refine Tr.nil (Tr.normThen ?_)
       refine Tr.ret (Tr.retThen ?_)
       obtain rfl := Option.some.inj H
       exact Tr.out (m := [(iv y108)]) [] (res_tmp rfl res_nil) (fun W hW => ⟨rfl, hW.low leB⟩)
      ·refine Tr.skip (Tr.normThen ?_)
       have leJ113 := Bs.Le.refl w
       refine Tr.cutJ (σ := Unit) (fun w _ => F_etchhouseref3_checkStep_J1 = some r) (fun _ => []) (fun _ => []) ?_ ?_
       ·refine Tr.sr ?_
        refine Tr.va rfl (fun _ _ h1 h2 => run_fieldAddr fo_49_0 (h1.ev rfl)) ?_
        refine Tr.va rfl (fun _ _ h1 h2 => run_load1 ag_3 (h1.ev rfl) (rdb h2 (vs := [(iv p1.Kind), (sv p1.Name), (iv p1.At.X), (iv p1.At.Y), (.slice Ap1_0 (p1.Points).length cp1_0), (iv p1.NX), (iv p1.NY), (.slice Ap1_1 (p1.Steps).length cp1_1)]) (k := 2) rfl 0) rfl) ?_
        refine Tr.va rfl (fun _ _ h1 h2 => run_eql (h1.ev rfl) (h1.ev rfl)) ?_
        refine Tr.nil (Tr.normThen ?_)
        refine Tr.cond rfl H (fun H => ?_) (fun H => ?_)
        ·refine Tr.seq ?_
         refine Tr.sr ?_
         refine Tr.va rfl (fun _ _ h1 h2 => run_fieldAddr fo_49_4 (h1.ev rfl)) ?_
         refine Tr.va rfl (fun _ _ h1 h2 => run_load1 ag_3 (h1.ev rfl) (rdb h2 (vs := [(iv p1.Kind), (sv p1.Name), (iv p1.At.X), (iv p1.At.Y), (.slice Ap1_0 (p1.Points).length cp1_0), (iv p1.NX), (iv p1.NY), (.slice Ap1_1 (p1.Steps).length cp1_1)]) (k := 2) rfl 5) rfl) ?_
         obtain ⟨y115, hy115, H⟩ := bnd H
         refine Tr.call0 (r := (.bool y115)) (wn rfl) rfl Tryz.call47 (evl_cons rfl (evl_cons rfl (evl_cons rfl evl_nil))) (fun W hW => F_etchhouseref3_within_ok p1.NX 1 100 y115 hy115 (HF.start _)) ?_
         refine Tr.va rfl (fun _ _ h1 h2 => run_not (h1.ev rfl)) ?_
         refine Tr.mv rfl rfl ?_
         obtain ⟨g117, hg117, H⟩ := bnd H
         refine Tr.mid0 5 [(2, (iv p2)), (4, (.pointer (some ⟨b101, 0, none⟩))), (50, (.bool g117))] [(1, bx b100 #[(iv p0.Unit), (.slice Ap0_0 (p0.Tools).length cp0_0), (.slice Ap0_1 (p0.Steps).length cp0_1)] 25), (2, bx b101 #[(iv p1.Kind), (sv p1.Name), (iv p1.At.X), (iv p1.At.Y), (.slice Ap1_0 (p1.Points).length cp1_0), (iv p1.NX), (iv p1.NY), (.slice Ap1_1 (p1.Steps).length cp1_1)] 49)] ?_ ?_
         ·cases hg118 : (!y115)
          ·rw [hg118] at hg117
           rw [if_neg (by decide)] at hg117
           have H := hg117
           refine Tr.val (wg rfl rfl rfl) rfl (fun _ _ h1 h2 => run_fieldAddr fo_49_5 (h1.ev rfl)) ?_
           refine Tr.val (wg rfl rfl rfl) rfl (fun _ _ h1 h2 => run_load1 ag_3 (h1.ev rfl) (rdb h2 (vs := [(iv p1.Kind), (sv p1.Name), (iv p1.At.X), (iv p1.At.Y), (.slice Ap1_0 (p1.Points).length cp1_0), (iv p1.NX), (iv p1.NY), (.slice Ap1_1 (p1.Steps).length cp1_1)]) (k := 2) rfl 6) rfl) ?_
           obtain ⟨y118, hy118, H⟩ := bnd H
           refine Tr.call0 (r := (.bool y118)) (wg rfl rfl rfl) rfl Tryz.call47 (evl_cons rfl (evl_cons rfl (evl_cons rfl evl_nil))) (fun W hW => F_etchhouseref3_within_ok p1.NY 1 100 y118 hy118 (HF.start _)) ?_
           refine Tr.val (wg rfl rfl rfl) rfl (fun _ _ h1 h2 => run_not (h1.ev rfl)) ?_
           refine Tr.va rfl (fun _ _ h1 h2 => run_pickF (h1.ev rfl) (h1.ev rfl)) ?_
           obtain rfl := Option.some.inj H
           exact Tr.nil (Tr.fin0 (.cons rfl (.cons rfl (.cons rfl .nil))) (.cons rfl (.cons rfl .nil)))
          ·rw [hg118] at hg117
           rw [if_pos rfl] at hg117
           have H := hg117
           obtain rfl := Option.some.inj H
           refine Tr.pass rfl rfl rfl rfl rfl (by decide) ?_
           refine Tr.pass rfl rfl rfl rfl rfl (by decide) ?_
           refine Tr.pass rfl rfl rfl rfl rfl (by decide) ?_
           refine Tr.pass rfl rfl rfl rfl rfl (by decide) ?_
           refine Tr.va rfl (fun _ _ h1 h2 => run_pickT (h1.ev rfl) (h1.ev rfl)) ?_
           exact Tr.nil (Tr.fin0 (.cons rfl (.cons rfl (.cons rfl .nil))) (.cons rfl (.cons rfl .nil)))
         ·show Tr _ _ (LF [(2, (iv p2)), (4, (.pointer (some ⟨b101, 0, none⟩))), (50, (.bool g117))]) (LE [(1, bx b100 #[(iv p0.Unit), (.slice Ap0_0 (p0.Tools).length cp0_0), (.slice Ap0_1 (p0.Steps).length cp0_1)] 25), (2, bx b101 #[(iv p1.Kind), (sv p1.Name), (iv p1.At.X), (iv p1.At.Y), (.slice Ap1_0 (p1.Points).length cp1_0), (iv p1.NX), (iv p1.NY), (.slice Ap1_1 (p1.Steps).length cp1_1)] 49)]) _
          refine Tr.nil (Tr.normThen ?_)
          refine Tr.cond rfl H (fun H => ?_) (fun H => ?_)
          ·refine Tr.sr ?_
           refine Tr.asg rfl rfl ?_
           refine Tr.nil (Tr.normThen ?_)
           refine Tr.ret (Tr.retThen (Tr.retThen ?_))
           obtain rfl := Option.some.inj H
           exact Tr.out (m := [(iv 1)]) [] (res_tmp rfl res_nil) (fun W hW => ⟨rfl, hW.low leB⟩)
          ·refine Tr.skip (Tr.normThen ?_)
           refine Tr.seq ?_
           refine Tr.sr ?_
           refine Tr.va rfl (fun _ _ h1 h2 => run_fieldAddr fo_49_6 (h1.ev rfl)) ?_
           refine Tr.va rfl (fun _ _ h1 h2 => run_load1 ag_23 (h1.ev rfl) (rdb h2 (vs := [(iv p1.Kind), (sv p1.Name), (iv p1.At.X), (iv p1.At.Y), (.slice Ap1_0 (p1.Points).length cp1_0), (iv p1.NX), (iv p1.NY), (.slice Ap1_1 (p1.Steps).length cp1_1)]) (k := 2) rfl 7) rfl) ?_
           refine Tr.va rfl (fun _ _ h1 h2 => run_len un_23 (h1.ev rfl)) ?_
           refine Tr.va rfl (fun _ _ h1 h2 => run_eql (h1.ev rfl) (h1.ev rfl)) ?_
           refine Tr.nil (Tr.normThen ?_)
           refine Tr.cond rfl H (fun H => ?_) (fun H => ?_)
           ·refine Tr.sr ?_
            refine Tr.asg rfl rfl ?_
            refine Tr.nil (Tr.normThen ?_)
            refine Tr.ret (Tr.retThen (Tr.retThen ?_))
            obtain rfl := Option.some.inj H
            exact Tr.out (m := [(iv 9)]) [] (res_tmp rfl res_nil) (fun W hW => ⟨rfl, hW.low leB⟩)
           ·refine Tr.skip (Tr.normThen ?_)
            refine Tr.sr ?_
            refine Tr.mv rfl rfl ?_
            refine Tr.va rfl (fun _ _ h1 h2 => run_geq (h1.ev rfl) (h1.ev rfl)) ?_
            refine Tr.nil (Tr.normThen ?_)
            refine Tr.cond rfl H (fun H => ?_) (fun H => ?_)
            ·refine Tr.sr ?_
             refine Tr.asg rfl rfl ?_
             refine Tr.nil (Tr.normThen ?_)
             refine Tr.ret (Tr.retThen ?_)
             obtain rfl := Option.some.inj H
             exact Tr.out (m := [(iv 2)]) [] (res_tmp rfl res_nil) (fun W hW => ⟨rfl, hW.low leB⟩)
            ·refine Tr.skip ?_
             exact Tr.backThen leJ113 () H .nil .nil
        ·refine Tr.skip ?_
         exact Tr.backThen leJ113 () H .nil .nil
       ·intro w _ hlJ114 hs
        have H := hs
        replace H : F_etchhouseref3_checkStep_J1 = some r := H
        replace leB := leB.trans hlJ114
        unfold F_etchhouseref3_checkStep_J1 at H
        show Tr _ _ (LF []) (LE []) _
        refine Tr.sr ?_
        refine Tr.asg rfl rfl ?_
        refine Tr.nil (Tr.normThen ?_)
        refine Tr.ret ?_
        obtain rfl := Option.some.inj H
        exact Tr.out (m := [(iv 0)]) [] (res_tmp rfl res_nil) (fun W hW => ⟨rfl, hW.low leB⟩)

theorem F_etchhouseref3_checkSteps_b_ok (N : Nat) (rec : TPlot → (List TPlotStep) → Int → Option Int) (hrec : ∀ {w : Bs} (p0 : TPlot) (Ap0_0 : Option Addr) (cp0_0 : Nat) (hp0_0 : Sl w.R w.W fl_TPlotTool Ap0_0 cp0_0 p0.Tools) (Ap0_1 : Option Addr) (cp0_1 : Nat) (hp0_1 : Sl w.R w.W fl_TPlotStep Ap0_1 cp0_1 p0.Steps) (p1 : (List TPlotStep)) (Ap1_0 : Option Addr) (cp1_0 : Nat) (hp1_0 : Sl w.R w.W fl_TPlotStep Ap1_0 cp1_0 p1) (p2 : Int) (r : Int) (H : rec p0 p1 p2 = some r) (hE : HF w w.W E0), Calls Tryz.prog 51 [(.agg #[(iv p0.Unit), (.slice Ap0_0 (p0.Tools).length cp0_0), (.slice Ap0_1 (p0.Steps).length cp0_1)]), (.slice Ap1_0 (p1).length cp1_0), (iv p2)].toArray w.W fun e W' => e = .returned (iv r) ∧ HF w W' E0) {w : Bs} (p0 : TPlot) (Ap0_0 : Option Addr) (cp0_0 : Nat) (hp0_0 : Sl w.R w.W fl_TPlotTool Ap0_0 cp0_0 p0.Tools) (Ap0_1 : Option Addr) (cp0_1 : Nat) (hp0_1 : Sl w.R w.W fl_TPlotStep Ap0_1 cp0_1 p0.Steps) (p1 : (List TPlotStep)) (Ap1_0 : Option Addr) (cp1_0 : Nat) (hp1_0 : Sl w.R w.W fl_TPlotStep Ap1_0 cp1_0 p1) (p2 : Int) (r : Int) (H : F_etchhouseref3_checkSteps_b N rec p0 p1 p2 = some r) (hE : HF w w.W E0) : Calls Tryz.prog 51 [(.agg #[(iv p0.Unit), (.slice Ap0_0 (p0.Tools).length cp0_0), (.slice Ap0_1 (p0.Steps).length cp0_1)]), (.slice Ap1_0 (p1).length cp1_0), (iv p2)].toArray w.W fun e W' => e = .returned (iv r) ∧ HF w W' E0 := by
 unfold F_etchhouseref3_checkSteps_b at H
 have leB := Bs.Le.refl w
 refine Tr.enter (n := 38) Tryz.func51 rfl rfl rfl hE ?_
 refine Tr.sr ?_
 refine Tr.box 1 (cs := [(iv p0.Unit), (.slice Ap0_0 (p0.Tools).length cp0_0), (.slice Ap0_1 (p0.Steps).length cp0_1)]) (wn rfl) rfl rfl rfl fun b100 => ?_
 refine Tr.asg rfl rfl ?_
 refine Tr.nil (Tr.normThen ?_)
 refine Tr.seq ?_
 refine Tr.sr ?_
 refine Tr.asg rfl rfl ?_
 refine Tr.nil (Tr.normThen ?_)
 refine Tr.block ?_
 refine Tr.loop (σ := Int) (fun m w s => F_etchhouseref3_checkSteps_L1 N p0 p1 p2 rec m s = some r) (fun s => [(1, (.slice Ap1_0 (p1).length cp1_0)), (2, (iv p2)), (3, (.pointer (some ⟨b100, 0, none⟩))), (7, (iv s))]) (fun s => [(1, bx b100 #[(iv p0.Unit), (.slice Ap0_0 (p0.Tools).length cp0_0), (.slice Ap0_1 (p0.Steps).length cp0_1)] 25)]) N 0 H (.cons rfl (.cons rfl (.cons rfl (.cons rfl .nil)))) (.cons rfl .nil) (fun _ _ h => noSome (h)) ?_
 intro w leL1 mL1 x116 hs
 have H := hs
 replace H : F_etchhouseref3_checkSteps_L1 N p0 p1 p2 rec (mL1 + 1) x116 = some r := H
 replace hp1_0 := hp1_0.leR leL1
 replace hp0_0 := hp0_0.leR leL1
 replace hp0_1 := hp0_1.leR leL1
 replace leB := leB.trans leL1
 rw [F_etchhouseref3_checkSteps_L1.eq_2] at H
 show Tr _ _ (LF [(1, (.slice Ap1_0 (p1).length cp1_0)), (2, (iv p2)), (3, (.pointer (some ⟨b100, 0, none⟩))), (7, (iv x116))]) (LE [(1, bx b100 #[(iv p0.Unit), (.slice Ap0_0 (p0.Tools).length cp0_0), (.slice Ap0_1 (p0.Steps).length cp0_1)] 25)]) _
 refine Tr.seq ?_
 refine Tr.sr ?_
 refine Tr.mv rfl rfl ?_
 refine Tr.mv rfl rfl ?_
 refine Tr.va rfl (fun _ _ h1 h2 => run_len un_23 (h1.ev rfl)) ?_
 refine Tr.va rfl (fun _ _ h1 h2 => run_lss (h1.ev rfl) (h1.ev rfl)) ?_
 refine Tr.nil (Tr.normThen ?_)
 refine Tr.cond rfl H (fun H => ?_) (fun H => ?_)
 ·refine Tr.skip (Tr.normThen ?_)
  refine Tr.seq ?_
  refine Tr.block ?_
  refine Tr.seq ?_
  refine Tr.seq ?_
  refine Tr.draw (by kernel_rfl) (by kernel_rfl) ?_
  refine Tq.va rfl (fun _ _ h1 h2 => run_loadN (cs := [(iv p0.Unit), (.slice Ap0_0 (p0.Tools).length cp0_0), (.slice Ap0_1 (p0.Steps).length cp0_1)]) ag_25 sz_25 (h1.ev rfl) (CellsAt.take (rdb h2 (vs := [(iv p0.Unit), (.slice Ap0_0 (p0.Tools).length cp0_0), (.slice Ap0_1 (p0.Steps).length cp0_1)]) (k := 1) rfl 0) 3) rfl) ?_
  refine Tq.mv rfl rfl ?_
  refine Tq.mv rfl rfl ?_
  obtain ⟨x117, hx117, H⟩ := bnd H
  obtain ⟨hx1170, hx1171, hx1172⟩ := idx_some hx117
  obtain ⟨u118, hRu118, hoku118, hcu118⟩ := (hp1_0).el hx1172
  obtain ⟨⟨Au118_0, cu118_0⟩, ⟨Au118_1, cu118_1⟩⟩ := u118
  obtain ⟨hoku118_0, hoku118_1⟩ := TPlotStep_ok.1 hoku118
  replace hoku118_0 : Sl w.R w.W fl_TPoint Au118_0 cu118_0 x117.Points := hoku118_0
  replace hoku118_1 : Sl w.R w.W fl_TPlotStep Au118_1 cu118_1 x117.Steps := hoku118_1
  refine Tq.va rfl (fun _ _ h1 h2 => run_indexAddr el_23 (h1.ev rfl) hp1_0.form (h1.ev rfl) hx1170 hx1171) ?_
  refine Tq.va rfl (fun _ _ h1 h2 => run_loadN (cs := [(iv x117.Kind), (sv x117.Name), (iv x117.At.X), (iv x117.At.Y), (.slice Au118_0 (x117.Points).length cu118_0), (iv x117.NX), (iv x117.NY), (.slice Au118_1 (x117.Steps).length cu118_1)]) ag_49 sz_49 (h1.ev rfl) (CellsAt.take (rdR hRu118 hcu118 h2) 8) rfl) ?_
  refine Tq.mv rfl rfl ?_
  obtain ⟨y119, hy119, H⟩ := bnd H
  refine Tq.call0 (r := (iv y119)) (wn rfl) rfl Tryz.call83 (evl_cons rfl (evl_cons rfl (evl_cons rfl evl_nil))) (fun W hW => F_etchhouseref3_checkStep_ok N p0 Ap0_0 cp0_0 (hp0_0.ext hW.extAll) Ap0_1 cp0_1 (hp0_1.ext hW.extAll) x117 Au118_0 cu118_0 (hoku118_0.ext hW.extAll) Au118_1 cu118_1 (hoku118_1.ext hW.extAll) p2 y119 hy119 (HF.start _)) ?_
  refine Tq.asg rfl rfl ?_
  refine Tq.nil (Tr.normThen ?_)
  refine Tr.sr ?_
  refine Tr.mv rfl rfl ?_
  refine Tr.va rfl (fun _ _ h1 h2 => run_neq (h1.ev rfl) (h1.ev rfl)) ?_
  refine Tr.nil (Tr.normThen ?_)
  refine Tr.cond rfl H (fun H => ?_) (fun H => ?_)
  ·refine Tr.sr ?_
   refine Tr.mv rfl rfl ?_
   refine Tr.asg rfl rfl ?_
   refine Tr.nil (Tr.normThen ?_)
   refine Tr.ret (Tr.retThen (Tr.retBlock (Tr.retThen (Tr.retThen (Tr.retBlock (Tr.retThen ?_))))))
   obtain rfl := Option.some.inj H
   exact Tr.out (m := [(iv y119)]) [] (res_tmp rfl res_nil) (fun W hW => ⟨rfl, hW.low leB⟩)
  ·refine Tr.skip (Tr.normThen ?_)
   refine Tr.seq ?_
   refine Tr.draw (by kernel_rfl) (by kernel_rfl) ?_
   refine Tq.va rfl (fun _ _ h1 h2 => run_loadN (cs := [(iv p0.Unit), (.slice Ap0_0 (p0.Tools).length cp0_0), (.slice Ap0_1 (p0.Steps).length cp0_1)]) ag_25 sz_25 (h1.ev rfl) (CellsAt.take (rdb h2 (vs := [(iv p0.Unit), (.slice Ap0_0 (p0.Tools).length cp0_0), (.slice Ap0_1 (p0.Steps).length cp0_1)]) (k := 1) rfl 0) 3) rfl) ?_
   refine Tq.mv rfl rfl ?_
   refine Tq.mv rfl rfl ?_
   obtain ⟨x120, hx120, H⟩ := bnd H
   obtain ⟨hx1200, hx1201, hx1202⟩ := idx_some hx120
   obtain ⟨u121, hRu121, hoku121, hcu121⟩ := (hp1_0).el hx1202
   obtain ⟨⟨Au121_0, cu121_0⟩, ⟨Au121_1, cu121_1⟩⟩ := u121
   obtain ⟨hoku121_0, hoku121_1⟩ := TPlotStep_ok.1 hoku121
   replace hoku121_0 : Sl w.R w.W fl_TPoint Au121_0 cu121_0 x120.Points := hoku121_0
   replace hoku121_1 : Sl w.R w.W fl_TPlotStep Au121_1 cu121_1 x120.Steps := hoku121_1
   refine Tq.va rfl (fun _ _ h1 h2 => run_indexAddr el_23 (h1.ev rfl) hp1_0.form (h1.ev rfl) hx1200 hx1201) ?_
   refine Tq.va rfl (fun _ _ h1 h2 => run_fieldAddr fo_49_6 (h1.ev rfl)) ?_
   refine Tq.va rfl (fun _ _ h1 h2 => run_load1 ag_23 (h1.ev rfl) (CellsAt.drop (rdR hRu121 hcu121 h2) 7) rfl) ?_
   refine Tq.mv rfl rfl ?_
   refine Tq.va rfl (fun _ _ h1 h2 => run_add (h1.ev rfl) (h1.ev rfl)) ?_
   obtain ⟨y122, hy122, H⟩ := bnd H
   refine Tq.call0 (r := (iv y122)) (wn rfl) rfl Tryz.call51 (evl_cons rfl (evl_cons rfl (evl_cons rfl evl_nil))) (fun W hW => hrec p0 Ap0_0 cp0_0 (hp0_0.ext hW.extAll) Ap0_1 cp0_1 (hp0_1.ext hW.extAll) x120.Steps Au121_1 cu121_1 (hoku121_1.ext hW.extAll) (w64 (p2 + 1)) y122 hy122 (HF.start _)) ?_
   refine Tq.asg rfl rfl ?_
   refine Tq.nil (Tr.normThen ?_)
   refine Tr.sr ?_
   refine Tr.mv rfl rfl ?_
   refine Tr.va rfl (fun _ _ h1 h2 => run_neq (h1.ev rfl) (h1.ev rfl)) ?_
   refine Tr.nil (Tr.normThen ?_)
   refine Tr.cond rfl H (fun H => ?_) (fun H => ?_)
   ·refine Tr.sr ?_
    refine Tr.mv rfl rfl ?_
    refine Tr.asg rfl rfl ?_
    refine Tr.nil (Tr.normThen ?_)
    refine Tr.ret (Tr.retBlock (Tr.retThen (Tr.retThen (Tr.retBlock (Tr.retThen ?_)))))
    obtain rfl := Option.some.inj H
    exact Tr.out (m := [(iv y122)]) [] (res_tmp rfl res_nil) (fun W hW => ⟨rfl, hW.low leB⟩)
   ·refine Tr.skip (Tr.normBlock (Tr.normThen ?_))
    refine Tr.region ?_
    refine Tr.mv rfl rfl ?_
    refine Tr.va rfl (fun _ _ h1 h2 => run_add (h1.ev rfl) (h1.ev rfl)) ?_
    refine Tr.asg rfl rfl ?_
    refine Tr.nil ?_
    exact Tr.backThen leL1 (w64 (x116 + 1)) H (.cons rfl (.cons rfl (.cons rfl (.cons rfl .nil)))) (.cons rfl .nil)
 ·refine Tr.exit (Tr.exitThen (Tr.exitThen (Tr.exitBlock (Tr.normThen ?_))))
  refine Tr.sr ?_
  refine Tr.asg rfl rfl ?_
  refine Tr.nil (Tr.normThen ?_)
  refine Tr.ret ?_
  obtain rfl := Option.some.inj H
  exact Tr.out (m := [(iv 0)]) [] (res_tmp rfl res_nil) (fun W hW => ⟨rfl, hW.low leB⟩)
theorem F_etchhouseref3_checkSteps_ok : ∀ (N : Nat) {w : Bs} (p0 : TPlot) (Ap0_0 : Option Addr) (cp0_0 : Nat) (hp0_0 : Sl w.R w.W fl_TPlotTool Ap0_0 cp0_0 p0.Tools) (Ap0_1 : Option Addr) (cp0_1 : Nat) (hp0_1 : Sl w.R w.W fl_TPlotStep Ap0_1 cp0_1 p0.Steps) (p1 : (List TPlotStep)) (Ap1_0 : Option Addr) (cp1_0 : Nat) (hp1_0 : Sl w.R w.W fl_TPlotStep Ap1_0 cp1_0 p1) (p2 : Int) (r : Int) (H : F_etchhouseref3_checkSteps N p0 p1 p2 = some r) (hE : HF w w.W E0), Calls Tryz.prog 51 [(.agg #[(iv p0.Unit), (.slice Ap0_0 (p0.Tools).length cp0_0), (.slice Ap0_1 (p0.Steps).length cp0_1)]), (.slice Ap1_0 (p1).length cp1_0), (iv p2)].toArray w.W fun e W' => e = .returned (iv r) ∧ HF w W' E0
 | 0 => by intros; rename_i H _; cases H
 | N + 1 => F_etchhouseref3_checkSteps_b_ok N (F_etchhouseref3_checkSteps N) (F_etchhouseref3_checkSteps_ok N)

theorem F_etchhouseref3_CheckPlot_ok (N : Nat) {w : Bs} (p0 : TPlot) (Ap0_0 : Option Addr) (cp0_0 : Nat) (hp0_0 : Sl w.R w.W fl_TPlotTool Ap0_0 cp0_0 p0.Tools) (Ap0_1 : Option Addr) (cp0_1 : Nat) (hp0_1 : Sl w.R w.W fl_TPlotStep Ap0_1 cp0_1 p0.Steps) (r : Int) (H : F_etchhouseref3_CheckPlot N p0 = some r) (hE : HF w w.W E0) : Calls Tryz.prog 18 [(.agg #[(iv p0.Unit), (.slice Ap0_0 (p0.Tools).length cp0_0), (.slice Ap0_1 (p0.Steps).length cp0_1)])].toArray w.W fun e W' => e = .returned (iv r) ∧ HF w W' E0 := by
 unfold F_etchhouseref3_CheckPlot at H
 have leB := Bs.Le.refl w
 refine Tr.enter (n := 60) Tryz.func18 rfl rfl rfl hE ?_
 refine Tr.sr ?_
 refine Tr.box 1 (cs := [(iv p0.Unit), (.slice Ap0_0 (p0.Tools).length cp0_0), (.slice Ap0_1 (p0.Steps).length cp0_1)]) (wn rfl) rfl rfl rfl fun b100 => ?_
 refine Tr.asg rfl rfl ?_
 refine Tr.nil (Tr.normThen ?_)
 refine Tr.seq ?_
 refine Tr.sr ?_
 refine Tr.va rfl (fun _ _ h1 h2 => run_fieldAddr fo_25_0 (h1.ev rfl)) ?_
 refine Tr.va rfl (fun _ _ h1 h2 => run_load1 ag_3 (h1.ev rfl) (rdb h2 (vs := [(iv p0.Unit), (.slice Ap0_0 (p0.Tools).length cp0_0), (.slice Ap0_1 (p0.Steps).length cp0_1)]) (k := 1) rfl 0) rfl) ?_
 obtain ⟨y101, hy101, H⟩ := bnd H
 refine Tr.call0 (r := (.bool y101)) (wn rfl) rfl Tryz.call47 (evl_cons rfl (evl_cons rfl (evl_cons rfl evl_nil))) (fun W hW => F_etchhouseref3_within_ok p0.Unit 1 1000 y101 hy101 (HF.start _)) ?_
 refine Tr.va rfl (fun _ _ h1 h2 => run_not (h1.ev rfl)) ?_
 refine Tr.nil (Tr.normThen ?_)
 refine Tr.cond rfl H (fun H => ?_) (fun H => ?_)
 ·refine Tr.sr ?_
  refine Tr.asg rfl rfl ?_
  refine Tr.nil (Tr.normThen ?_)
  refine Tr.ret (Tr.retThen ?_)
  obtain rfl := Option.some.inj H
  exact Tr.out (m := [(iv 1)]) [] (res_tmp rfl res_nil) (fun W hW => ⟨rfl, hW.low leB⟩)
 ·refine Tr.skip (Tr.normThen ?_)
  refine Tr.seq ?_
  refine Tr.sr ?_
  refine Tr.va rfl (fun _ _ h1 h2 => run_fieldAddr fo_25_1 (h1.ev rfl)) ?_
  refine Tr.va rfl (fun _ _ h1 h2 => run_load1 ag_22 (h1.ev rfl) (rdb h2 (vs := [(iv p0.Unit), (.slice Ap0_0 (p0.Tools).length cp0_0), (.slice Ap0_1 (p0.Steps).length cp0_1)]) (k := 1) rfl 1) rfl) ?_
  refine Tr.va rfl (fun _ _ h1 h2 => run_len un_22 (h1.ev rfl)) ?_
  refine Tr.va rfl (fun _ _ h1 h2 => run_gtr (h1.ev rfl) (h1.ev rfl)) ?_
  refine Tr.nil (Tr.normThen ?_)
  refine Tr.cond rfl H (fun H => ?_) (fun H => ?_)
  ·refine Tr.sr ?_
   refine Tr.asg rfl rfl ?_
   refine Tr.nil (Tr.normThen ?_)
   refine Tr.ret (Tr.retThen ?_)
   obtain rfl := Option.some.inj H
   exact Tr.out (m := [(iv 2)]) [] (res_tmp rfl res_nil) (fun W hW => ⟨rfl, hW.low leB⟩)
  ·refine Tr.skip (Tr.normThen ?_)
   refine Tr.seq ?_
   refine Tr.sr ?_
   refine Tr.asg rfl rfl ?_
   refine Tr.nil (Tr.normThen ?_)
   refine Tr.block ?_
   refine Tr.loop (σ := Int) (fun m w s => F_etchhouseref3_CheckPlot_L1 N p0 m s = some r) (fun s => [(1, (.pointer (some ⟨b100, 0, none⟩))), (3, (iv s))]) (fun s => [(1, bx b100 #[(iv p0.Unit), (.slice Ap0_0 (p0.Tools).length cp0_0), (.slice Ap0_1 (p0.Steps).length cp0_1)] 25)]) N 0 H (.cons rfl (.cons rfl .nil)) (.cons rfl .nil) (fun _ _ h => noSome (h)) ?_
   intro w leL1 mL1 x125 hs
   have H := hs
   replace H : F_etchhouseref3_CheckPlot_L1 N p0 (mL1 + 1) x125 = some r := H
   replace hp0_0 := hp0_0.leR leL1
   replace hp0_1 := hp0_1.leR leL1
   replace leB := leB.trans leL1
   rw [F_etchhouseref3_CheckPlot_L1.eq_2] at H
   show Tr _ _ (LF [(1, (.pointer (some ⟨b100, 0, none⟩))), (3, (iv x125))]) (LE [(1, bx b100 #[(iv p0.Unit), (.slice Ap0_0 (p0.Tools).length cp0_0), (.slice Ap0_1 (p0.Steps).length cp0_1)] 25)]) _
   refine Tr.seq ?_
   refine Tr.sr ?_
   refine Tr.mv rfl rfl ?_
   refine Tr.va rfl (fun _ _ h1 h2 => run_fieldAddr fo_25_1 (h1.ev rfl)) ?_
   refine Tr.va rfl (fun _ _ h1 h2 => run_load1 ag_22 (h1.ev rfl) (rdb h2 (vs := [(iv p0.Unit), (.slice Ap0_0 (p0.Tools).length cp0_0), (.slice Ap0_1 (p0.Steps).length cp0_1)]) (k := 1) rfl 1) rfl) ?_
   refine Tr.va rfl (fun _ _ h1 h2 => run_len un_22 (h1.ev rfl)) ?_
   refine Tr.va rfl (fun _ _ h1 h2 => run_lss (h1.ev rfl) (h1.ev rfl)) ?_
   refine Tr.nil (Tr.normThen ?_)
   refine Tr.cond rfl H (fun H => ?_) (fun H => ?_)
   ·refine Tr.skip (Tr.normThen ?_)
    refine Tr.seq ?_
    refine Tr.block ?_
    refine Tr.sr ?_
    refine Tr.va rfl (fun _ _ h1 h2 => run_fieldAddr fo_25_1 (h1.ev rfl)) ?_
    refine Tr.va rfl (fun _ _ h1 h2 => run_load1 ag_22 (h1.ev rfl) (rdb h2 (vs := [(iv p0.Unit), (.slice Ap0_0 (p0.Tools).length cp0_0), (.slice Ap0_1 (p0.Steps).length cp0_1)]) (k := 1) rfl 1) rfl) ?_
    refine Tr.mv rfl rfl ?_
    obtain ⟨x126, hx126, H⟩ := bnd H
    obtain ⟨hx1260, hx1261, hx1262⟩ := idx_some hx126
    obtain ⟨u127, hRu127, hoku127, hcu127⟩ := (hp0_0).el hx1262
    obtain ⟨Au127_0, cu127_0⟩ := u127
    have hoku127_0 := hoku127
    replace hoku127_0 : Sl w.R w.W fl_TRect Au127_0 cu127_0 x126.Rects := hoku127_0
    refine Tr.va rfl (fun _ _ h1 h2 => run_indexAddr el_22 (h1.ev rfl) hp0_0.form (h1.ev rfl) hx1260 hx1261) ?_
    refine Tr.va rfl (fun _ _ h1 h2 => run_loadN (cs := [(sv x126.Name), (.slice Au127_0 (x126.Rects).length cu127_0)]) ag_54 sz_54 (h1.ev rfl) (CellsAt.take (rdR hRu127 hcu127 h2) 2) rfl) ?_
    refine Tr.alloc 4 (wn rfl) rfl ze_54 fun b128 => ?_
    refine Tr.store 4 (cs := [(sv x126.Name), (.slice Au127_0 (x126.Rects).length cu127_0)]) [(sv x126.Name), (.slice Au127_0 (x126.Rects).length cu127_0)] (wn rfl) rfl rfl rfl rfl sz_54 rfl rfl rfl ?_
    refine Tr.nil (Tr.normThen ?_)
    refine Tr.seq ?_
    refine Tr.sr ?_
    refine Tr.va rfl (fun _ _ h1 h2 => run_fieldAddr fo_54_0 (h1.ev rfl)) ?_
    refine Tr.va rfl (fun _ _ h1 h2 => run_load1 ag_9 (h1.ev rfl) (rdb h2 (vs := [(sv x126.Name), (.slice Au127_0 (x126.Rects).length cu127_0)]) (k := 4) rfl 0) rfl) ?_
    obtain ⟨y129, hy129, H⟩ := bnd H
    refine Tr.call0 (r := (.bool y129)) (wn rfl) rfl Tryz.call48 (evl_cons rfl evl_nil) (fun W hW => F_etchhouseref3_IsName_ok N x126.Name y129 hy129 (HF.start _)) ?_
    refine Tr.va rfl (fun _ _ h1 h2 => run_not (h1.ev rfl)) ?_
    refine Tr.nil (Tr.normThen ?_)
    refine Tr.cond rfl H (fun H => ?_) (fun H => ?_)
    ·refine Tr.sr ?_
     refine Tr.asg rfl rfl ?_
     refine Tr.nil (Tr.normThen ?_)
     refine Tr.ret (Tr.retThen (Tr.retBlock (Tr.retThen (Tr.retThen (Tr.retBlock (Tr.retThen ?_))))))
     obtain rfl := Option.some.inj H
     exact Tr.out (m := [(iv 5)]) [] (res_tmp rfl res_nil) (fun W hW => ⟨rfl, hW.low leB⟩)
    ·refine Tr.skip (Tr.normThen ?_)
     refine Tr.seq ?_
     refine Tr.sr ?_
     refine Tr.va rfl (fun _ _ h1 h2 => run_fieldAddr fo_54_1 (h1.ev rfl)) ?_
     refine Tr.va rfl (fun _ _ h1 h2 => run_load1 ag_52 (h1.ev rfl) (rdb h2 (vs := [(sv x126.Name), (.slice Au127_0 (x126.Rects).length cu127_0)]) (k := 4) rfl 1) rfl) ?_
     refine Tr.va rfl (fun _ _ h1 h2 => run_fieldAddr fo_25_0 (h1.ev rfl)) ?_
     refine Tr.va rfl (fun _ _ h1 h2 => run_load1 ag_3 (h1.ev rfl) (rdb h2 (vs := [(iv p0.Unit), (.slice Ap0_0 (p0.Tools).length cp0_0), (.slice Ap0_1 (p0.Steps).length cp0_1)]) (k := 1) rfl 0) rfl) ?_
     obtain ⟨y130, hy130, H⟩ := bnd H
     refine Tr.call0 (r := (iv y130)) (wn rfl) rfl Tryz.call49 (evl_cons rfl (evl_cons rfl evl_nil)) (fun W hW => F_etchhouseref3_checkToolRects_ok N x126.Rects Au127_0 cu127_0 (hoku127_0.ext hW.extAll) p0.Unit y130 hy130 (HF.start _)) ?_
     refine Tr.asg rfl rfl ?_
     refine Tr.nil (Tr.normThen ?_)
     refine Tr.sr ?_
     refine Tr.mv rfl rfl ?_
     refine Tr.va rfl (fun _ _ h1 h2 => run_neq (h1.ev rfl) (h1.ev rfl)) ?_
     refine Tr.nil (Tr.normThen ?_)
     refine Tr.cond rfl H (fun H => ?_) (fun H => ?_)
     ·refine Tr.sr ?_
      refine Tr.mv rfl rfl ?_
      refine Tr.asg rfl rfl ?_
      refine Tr.nil (Tr.normThen ?_)
      refine Tr.ret (Tr.retThen (Tr.retBlock (Tr.retThen (Tr.retThen (Tr.retBlock (Tr.retThen ?_))))))
      obtain rfl := Option.some.inj H
      exact Tr.out (m := [(iv y130)]) [] (res_tmp rfl res_nil) (fun W hW => ⟨rfl, hW.low leB⟩)
     ·refine Tr.skip (Tr.normThen ?_)
      refine Tr.seq ?_
      refine Tr.draw (by kernel_rfl) (by kernel_rfl) ?_
      refine Tq.mv rfl rfl ?_
      refine Tq.va rfl (fun _ _ h1 h2 => run_gtr (h1.ev rfl) (h1.ev rfl)) ?_
      refine Tq.mv rfl rfl ?_
      obtain ⟨g133, hg133, H⟩ := bnd H
      refine Tq.mid 11 [(1, (.pointer (some ⟨b100, 0, none⟩))), (3, (iv x125)), (51, (.bool g133))] ?_ ?_
      ·cases hg135 : (decide (0 < x125))
       ·rw [hg135] at hg133
        rw [if_neg (by decide)] at hg133
        have H := hg133
        obtain rfl := Option.some.inj H
        refine Tq.pass rfl rfl rfl rfl rfl (by decide) ?_
        refine Tq.pass rfl rfl rfl rfl rfl (by decide) ?_
        refine Tq.pass rfl rfl rfl rfl rfl (by decide) ?_
        refine Tq.pass rfl rfl rfl rfl rfl (by decide) ?_
        refine Tq.pass rfl rfl rfl rfl rfl (by decide) ?_
        refine Tq.pass rfl rfl rfl rfl rfl (by decide) ?_
        refine Tq.pass rfl rfl rfl rfl rfl (by decide) ?_
        refine Tq.pass rfl rfl rfl rfl rfl (by decide) ?_
        refine Tq.pass rfl rfl rfl rfl rfl (by decide) ?_
        refine Tq.pass rfl rfl rfl rfl rfl (by decide) ?_
        refine Tq.va rfl (fun _ _ h1 h2 => run_pickF (h1.ev rfl) (h1.ev rfl)) ?_
        exact Tq.fin (.cons rfl (.cons rfl (.cons rfl .nil)))
       ·rw [hg135] at hg133
        rw [if_pos rfl] at hg133
        have H := hg133
        refine Tq.val (wg rfl rfl rfl) rfl (fun _ _ h1 h2 => run_fieldAddr fo_54_0 (h1.ev rfl)) ?_
        refine Tq.val (wg rfl rfl rfl) rfl (fun _ _ h1 h2 => run_load1 ag_9 (h1.ev rfl) (rdb h2 (vs := [(sv x126.Name), (.slice Au127_0 (x126.Rects).length cu127_0)]) (k := 4) rfl 0) rfl) ?_
        refine Tq.val (wg rfl rfl rfl) rfl (fun _ _ h1 h2 => run_fieldAddr fo_25_1 (h1.ev rfl)) ?_
        refine Tq.val (wg rfl rfl rfl) rfl (fun _ _ h1 h2 => run_load1 ag_22 (h1.ev rfl) (rdb h2 (vs := [(iv p0.Unit), (.slice Ap0_0 (p0.Tools).length cp0_0), (.slice Ap0_1 (p0.Steps).length cp0_1)]) (k := 1) rfl 1) rfl) ?_
        refine Tq.val (wg rfl rfl rfl) rfl (fun _ _ h1 h2 => run_move (h1.ev rfl)) ?_
        refine Tq.val (wg rfl rfl rfl) rfl (fun _ _ h1 h2 => run_sub (h1.ev rfl) (h1.ev rfl)) ?_
        obtain ⟨x134, hx134, H⟩ := bnd H
        obtain ⟨hx1340, hx1341, hx1342⟩ := idx_some hx134
        obtain ⟨u135, hRu135, hoku135, hcu135⟩ := (hp0_0).el hx1342
        obtain ⟨Au135_0, cu135_0⟩ := u135
        have hoku135_0 := hoku135
        replace hoku135_0 : Sl w.R w.W fl_TRect Au135_0 cu135_0 x134.Rects := hoku135_0
        refine Tq.val (wg rfl rfl rfl) rfl (fun _ _ h1 h2 => run_indexAddr el_22 (h1.ev rfl) hp0_0.form (h1.ev rfl) hx1340 hx1341) ?_
        refine Tq.val (wg rfl rfl rfl) rfl (fun _ _ h1 h2 => run_fieldAddr fo_54_0 (h1.ev rfl)) ?_
        refine Tq.val (wg rfl rfl rfl) rfl (fun _ _ h1 h2 => run_load1 ag_9 (h1.ev rfl) (CellsAt.drop (rdR hRu135 hcu135 h2) 0) rfl) ?_
        refine Tq.val (wg rfl rfl rfl) rfl (fun _ _ h1 h2 => run_leqS (h1.ev rfl) (h1.ev rfl)) ?_
        refine Tq.va rfl (fun _ _ h1 h2 => run_pickT (h1.ev rfl) (h1.ev rfl)) ?_
        obtain rfl := Option.some.inj H
        exact Tq.fin (.cons rfl (.cons rfl (.cons rfl .nil)))
      ·refine Tq.nil (Tr.normThen ?_)
       refine Tr.cond rfl H (fun H => ?_) (fun H => ?_)
       ·refine Tr.sr ?_
        refine Tr.asg rfl rfl ?_
        refine Tr.nil (Tr.normThen ?_)
        refine Tr.ret (Tr.retBlock (Tr.retThen (Tr.retThen (Tr.retBlock (Tr.retThen ?_)))))
        obtain rfl := Option.some.inj H
        exact Tr.out (m := [(iv 8)]) [] (res_tmp rfl res_nil) (fun W hW => ⟨rfl, hW.low leB⟩)
       ·refine Tr.skip (Tr.normBlock (Tr.normThen ?_))
        refine Tr.region ?_
        refine Tr.mv rfl rfl ?_
        refine Tr.va rfl (fun _ _ h1 h2 => run_add (h1.ev rfl) (h1.ev rfl)) ?_
        refine Tr.asg rfl rfl ?_
        refine Tr.nil ?_
        exact Tr.backThen leL1 (w64 (x125 + 1)) H (.cons rfl (.cons rfl .nil)) (.cons rfl .nil)
   ·refine Tr.exit (Tr.exitThen (Tr.exitThen (Tr.exitBlock (Tr.normThen ?_))))
    refine Tr.seq ?_
    refine Tr.sr ?_
    refine Tr.va rfl (fun _ _ h1 h2 => run_fieldAddr fo_25_2 (h1.ev rfl)) ?_
    refine Tr.va rfl (fun _ _ h1 h2 => run_load1 ag_23 (h1.ev rfl) (rdb h2 (vs := [(iv p0.Unit), (.slice Ap0_0 (p0.Tools).length cp0_0), (.slice Ap0_1 (p0.Steps).length cp0_1)]) (k := 1) rfl 2) rfl) ?_
    obtain ⟨y136, hy136, H⟩ := bnd H
    refine Tr.call0 (r := (iv y136)) (wn rfl) rfl Tryz.call50 (evl_cons rfl evl_nil) (fun W hW => F_etchhouseref3_count_ok N p0.Steps Ap0_1 cp0_1 (hp0_1.ext hW.extAll) y136 hy136 (HF.start _)) ?_
    refine Tr.va rfl (fun _ _ h1 h2 => run_gtr (h1.ev rfl) (h1.ev rfl)) ?_
    refine Tr.nil (Tr.normThen ?_)
    refine Tr.cond rfl H (fun H => ?_) (fun H => ?_)
    ·refine Tr.sr ?_
     refine Tr.asg rfl rfl ?_
     refine Tr.nil (Tr.normThen ?_)
     refine Tr.ret (Tr.retThen ?_)
     obtain rfl := Option.some.inj H
     exact Tr.out (m := [(iv 2)]) [] (res_tmp rfl res_nil) (fun W hW => ⟨rfl, hW.low leB⟩)
    ·refine Tr.skip (Tr.normThen ?_)
     refine Tr.sr ?_
     refine Tr.va rfl (fun _ _ h1 h2 => run_loadN (cs := [(iv p0.Unit), (.slice Ap0_0 (p0.Tools).length cp0_0), (.slice Ap0_1 (p0.Steps).length cp0_1)]) ag_25 sz_25 (h1.ev rfl) (CellsAt.take (rdb h2 (vs := [(iv p0.Unit), (.slice Ap0_0 (p0.Tools).length cp0_0), (.slice Ap0_1 (p0.Steps).length cp0_1)]) (k := 1) rfl 0) 3) rfl) ?_
     refine Tr.va rfl (fun _ _ h1 h2 => run_fieldAddr fo_25_2 (h1.ev rfl)) ?_
     refine Tr.va rfl (fun _ _ h1 h2 => run_load1 ag_23 (h1.ev rfl) (rdb h2 (vs := [(iv p0.Unit), (.slice Ap0_0 (p0.Tools).length cp0_0), (.slice Ap0_1 (p0.Steps).length cp0_1)]) (k := 1) rfl 2) rfl) ?_
     obtain ⟨y137, hy137, H⟩ := bnd H
     refine Tr.call0 (r := (iv y137)) (wn rfl) rfl Tryz.call51 (evl_cons rfl (evl_cons rfl (evl_cons rfl evl_nil))) (fun W hW => F_etchhouseref3_checkSteps_ok N p0 Ap0_0 cp0_0 (hp0_0.ext hW.extAll) Ap0_1 cp0_1 (hp0_1.ext hW.extAll) p0.Steps Ap0_1 cp0_1 (hp0_1.ext hW.extAll) 0 y137 hy137 (HF.start _)) ?_
     refine Tr.asg rfl rfl ?_
     refine Tr.nil (Tr.normThen ?_)
     refine Tr.ret ?_
     obtain rfl := Option.some.inj H
     exact Tr.out (m := [(iv y137)]) [] (res_tmp rfl res_nil) (fun W hW => ⟨rfl, hW.low leB⟩)

theorem F_etchhouseref3_places_ok {w : Bs} (p0 : TPlotStep) (Ap0_0 : Option Addr) (cp0_0 : Nat) (hp0_0 : Sl w.R w.W fl_TPoint Ap0_0 cp0_0 p0.Points) (Ap0_1 : Option Addr) (cp0_1 : Nat) (hp0_1 : Sl w.R w.W fl_TPlotStep Ap0_1 cp0_1 p0.Steps) (r : Bool) (H : F_etchhouseref3_places p0 = some r) (hE : HF w w.W E0) : Calls Tryz.prog 84 [(.agg #[(iv p0.Kind), (sv p0.Name), (iv p0.At.X), (iv p0.At.Y), (.slice Ap0_0 (p0.Points).length cp0_0), (iv p0.NX), (iv p0.NY), (.slice Ap0_1 (p0.Steps).length cp0_1)])].toArray w.W fun e W' => e = .returned (.bool r) ∧ HF w W' E0 := by
 unfold F_etchhouseref3_places at H
 have leB := Bs.Le.refl w
 refine Tr.enter (n := 16) Tryz.func84 rfl rfl rfl hE ?_
 refine Tr.sr ?_
 refine Tr.box 1 (cs := [(iv p0.Kind), (sv p0.Name), (iv p0.At.X), (iv p0.At.Y), (.slice Ap0_0 (p0.Points).length cp0_0), (iv p0.NX), (iv p0.NY), (.slice Ap0_1 (p0.Steps).length cp0_1)]) (wn rfl) rfl rfl rfl fun b100 => ?_
 refine Tr.asg rfl rfl ?_
 refine Tr.nil (Tr.normThen ?_)
 refine Tr.sr ?_
 refine Tr.va rfl (fun _ _ h1 h2 => run_fieldAddr fo_49_0 (h1.ev rfl)) ?_
 refine Tr.va rfl (fun _ _ h1 h2 => run_load1 ag_3 (h1.ev rfl) (rdb h2 (vs := [(iv p0.Kind), (sv p0.Name), (iv p0.At.X), (iv p0.At.Y), (.slice Ap0_0 (p0.Points).length cp0_0), (iv p0.NX), (iv p0.NY), (.slice Ap0_1 (p0.Steps).length cp0_1)]) (k := 1) rfl 0) rfl) ?_
 refine Tr.va rfl (fun _ _ h1 h2 => run_eql (h1.ev rfl) (h1.ev rfl)) ?_
 refine Tr.mv rfl rfl ?_
 refine Tr.mid0 4 [(1, (.pointer (some ⟨b100, 0, none⟩))), (10, (.bool ((p0.Kind == 4) || (p0.Kind == 5))))] [(1, bx b100 #[(iv p0.Kind), (sv p0.Name), (iv p0.At.X), (iv p0.At.Y), (.slice Ap0_0 (p0.Points).length cp0_0), (iv p0.NX), (iv p0.NY), (.slice Ap0_1 (p0.Steps).length cp0_1)] 49)] ?_ ?_
 ·cases hg100 : (p0.Kind == 4)
  ·refine Tr.val (wg rfl rfl rfl) rfl (fun _ _ h1 h2 => run_fieldAddr fo_49_0 (h1.ev rfl)) ?_
   refine Tr.val (wg rfl rfl rfl) rfl (fun _ _ h1 h2 => run_load1 ag_3 (h1.ev rfl) (rdb h2 (vs := [(iv p0.Kind), (sv p0.Name), (iv p0.At.X), (iv p0.At.Y), (.slice Ap0_0 (p0.Points).length cp0_0), (iv p0.NX), (iv p0.NY), (.slice Ap0_1 (p0.Steps).length cp0_1)]) (k := 1) rfl 0) rfl) ?_
   refine Tr.val (wg rfl rfl rfl) rfl (fun _ _ h1 h2 => run_eql (h1.ev rfl) (h1.ev rfl)) ?_
   refine Tr.va rfl (fun _ _ h1 h2 => run_pickF (h1.ev rfl) (h1.ev rfl)) ?_
   exact Tr.nil (Tr.fin0 (.cons rfl (.cons rfl .nil)) (.cons rfl .nil))
  ·refine Tr.pass rfl rfl rfl rfl rfl (by decide) ?_
   refine Tr.pass rfl rfl rfl rfl rfl (by decide) ?_
   refine Tr.pass rfl rfl rfl rfl rfl (by decide) ?_
   refine Tr.va rfl (fun _ _ h1 h2 => run_pickT (h1.ev rfl) (h1.ev rfl)) ?_
   exact Tr.nil (Tr.fin0 (.cons rfl (.cons rfl .nil)) (.cons rfl .nil))
 ·show Tr _ _ (LF [(1, (.pointer (some ⟨b100, 0, none⟩))), (10, (.bool ((p0.Kind == 4) || (p0.Kind == 5))))]) (LE [(1, bx b100 #[(iv p0.Kind), (sv p0.Name), (iv p0.At.X), (iv p0.At.Y), (.slice Ap0_0 (p0.Points).length cp0_0), (iv p0.NX), (iv p0.NY), (.slice Ap0_1 (p0.Steps).length cp0_1)] 49)]) _
  refine Tr.mv rfl rfl ?_
  refine Tr.mid0 4 [(15, (.bool (((p0.Kind == 4) || (p0.Kind == 5)) || (p0.Kind == 6))))] [(1, bx b100 #[(iv p0.Kind), (sv p0.Name), (iv p0.At.X), (iv p0.At.Y), (.slice Ap0_0 (p0.Points).length cp0_0), (iv p0.NX), (iv p0.NY), (.slice Ap0_1 (p0.Steps).length cp0_1)] 49)] ?_ ?_
  ·cases hg100 : ((p0.Kind == 4) || (p0.Kind == 5))
   ·refine Tr.val (wg rfl rfl rfl) rfl (fun _ _ h1 h2 => run_fieldAddr fo_49_0 (h1.ev rfl)) ?_
    refine Tr.val (wg rfl rfl rfl) rfl (fun _ _ h1 h2 => run_load1 ag_3 (h1.ev rfl) (rdb h2 (vs := [(iv p0.Kind), (sv p0.Name), (iv p0.At.X), (iv p0.At.Y), (.slice Ap0_0 (p0.Points).length cp0_0), (iv p0.NX), (iv p0.NY), (.slice Ap0_1 (p0.Steps).length cp0_1)]) (k := 1) rfl 0) rfl) ?_
    refine Tr.val (wg rfl rfl rfl) rfl (fun _ _ h1 h2 => run_eql (h1.ev rfl) (h1.ev rfl)) ?_
    refine Tr.va rfl (fun _ _ h1 h2 => run_pickF (h1.ev rfl) (h1.ev rfl)) ?_
    exact Tr.nil (Tr.fin0 (.cons rfl .nil) (.cons rfl .nil))
   ·refine Tr.pass rfl rfl rfl rfl rfl (by decide) ?_
    refine Tr.pass rfl rfl rfl rfl rfl (by decide) ?_
    refine Tr.pass rfl rfl rfl rfl rfl (by decide) ?_
    refine Tr.va rfl (fun _ _ h1 h2 => run_pickT (h1.ev rfl) (h1.ev rfl)) ?_
    exact Tr.nil (Tr.fin0 (.cons rfl .nil) (.cons rfl .nil))
  ·show Tr _ _ (LF [(15, (.bool (((p0.Kind == 4) || (p0.Kind == 5)) || (p0.Kind == 6))))]) (LE [(1, bx b100 #[(iv p0.Kind), (sv p0.Name), (iv p0.At.X), (iv p0.At.Y), (.slice Ap0_0 (p0.Points).length cp0_0), (iv p0.NX), (iv p0.NY), (.slice Ap0_1 (p0.Steps).length cp0_1)] 49)]) _
   refine Tr.asg rfl rfl ?_
   refine Tr.nil (Tr.normThen ?_)
   refine Tr.ret ?_
   obtain rfl := Option.some.inj H
   exact Tr.out (m := [(.bool (((p0.Kind == 4) || (p0.Kind == 5)) || (p0.Kind == 6)))]) [] (res_tmp rfl res_nil) (fun W hW => ⟨rfl, hW.low leB⟩)

theorem F_etchhouseref3_moved_ok (N : Nat) {w : Bs} (p0 : TPlotStep) (Ap0_0 : Option Addr) (cp0_0 : Nat) (hp0_0 : Sl w.R w.W fl_TPoint Ap0_0 cp0_0 p0.Points) (Ap0_1 : Option Addr) (cp0_1 : Nat) (hp0_1 : Sl w.O w.W fl_TPlotStep Ap0_1 cp0_1 p0.Steps) (p1 : TPoint) (r : TPlotStep) (H : F_etchhouseref3_moved N p0 p1 = some r) (hE : HF w w.W (LEn [emp])) : Calls Tryz.prog 52 [(.agg #[(iv p0.Kind), (sv p0.Name), (iv p0.At.X), (iv p0.At.Y), (.slice Ap0_0 (p0.Points).length cp0_0), (iv p0.NX), (iv p0.NY), (.slice Ap0_1 (p0.Steps).length cp0_1)]), (.agg #[(iv p1.X), (iv p1.Y)])].toArray w.W fun e W' => ∃ (w' : Bs) (u : (Option Addr × Nat) × (Option Addr × Nat)), w.Le w' ∧ e = .returned (.agg #[(iv r.Kind), (sv r.Name), (iv r.At.X), (iv r.At.Y), (.slice u.1.1 (r.Points).length u.1.2), (iv r.NX), (iv r.NY), (.slice u.2.1 (r.Steps).length u.2.2)]) ∧ (SlF u.1.1 (r.Points).length u.1.2 ∧ Sl w'.O w'.W fl_TPlotStep u.2.1 u.2.2 r.Steps) ∧ HF w' W' (LEn [ow u.1.1 u.1.2 42 fl_TPoint r.Points]) := by
 unfold F_etchhouseref3_moved at H
 have leB := Bs.Le.refl w
 refine Tr.enter (n := 55) Tryz.func52 rfl rfl rfl hE ?_
 refine Tr.sr ?_
 refine Tr.box 1 (cs := [(iv p0.Kind), (sv p0.Name), (iv p0.At.X), (iv p0.At.Y), (.slice Ap0_0 (p0.Points).length cp0_0), (iv p0.NX), (iv p0.NY), (.slice Ap0_1 (p0.Steps).length cp0_1)]) (wn rfl) rfl rfl rfl fun b100 => ?_
 refine Tr.box 2 (cs := [(iv p1.X), (iv p1.Y)]) (wn rfl) rfl rfl rfl fun b101 => ?_
 refine Tr.alloc 3 (wn rfl) rfl ze_49 fun b102 => ?_
 refine Tr.nil (Tr.normThen ?_)
 have leJ106 := Bs.Le.refl w
 refine Tr.cutJ (σ := Int × Int) (fun w s => F_etchhouseref3_moved_J2 N p0 p1 s.1 s.2 = some r) (fun s => [(2, (.pointer (some ⟨b100, 0, none⟩))), (3, (.pointer (some ⟨b101, 0, none⟩))), (4, (.pointer (some ⟨b102, 0, none⟩)))]) (fun s => [(1, bx b100 #[(iv p0.Kind), (sv p0.Name), (iv s.1), (iv s.2), (.slice Ap0_0 (p0.Points).length cp0_0), (iv p0.NX), (iv p0.NY), (.slice Ap0_1 (p0.Steps).length cp0_1)] 49), (2, bx b101 #[(iv p1.X), (iv p1.Y)] 42), (3, bx b102 #[(iv 0), (sv ⟨#[]⟩), (iv 0), (iv 0), (.slice none 0 0), (iv 0), (iv 0), (.slice none 0 0)] 49)]) ?_ ?_
 ·refine Tr.sr ?_
  refine Tr.va rfl (fun _ _ h1 h2 => run_loadN (cs := [(iv p0.Kind), (sv p0.Name), (iv p0.At.X), (iv p0.At.Y), (.slice Ap0_0 (p0.Points).length cp0_0), (iv p0.NX), (iv p0.NY), (.slice Ap0_1 (p0.Steps).length cp0_1)]) ag_49 sz_49 (h1.ev rfl) (CellsAt.take (rdb h2 (vs := [(iv p0.Kind), (sv p0.Name), (iv p0.At.X), (iv p0.At.Y), (.slice Ap0_0 (p0.Points).length cp0_0), (iv p0.NX), (iv p0.NY), (.slice Ap0_1 (p0.Steps).length cp0_1)]) (k := 1) rfl 0) 8) rfl) ?_
  obtain ⟨y128, hy128, H⟩ := bnd H
  refine Tr.call0 (r := (.bool y128)) (wn rfl) rfl Tryz.call84 (evl_cons rfl evl_nil) (fun W hW => F_etchhouseref3_places_ok p0 Ap0_0 cp0_0 (hp0_0.ext hW.extAll) Ap0_1 cp0_1 (hp0_1.rl.ext hW.extAll) y128 hy128 (HF.start _)) ?_
  refine Tr.nil (Tr.normThen ?_)
  refine Tr.cond rfl H (fun H => ?_) (fun H => ?_)
  ·refine Tr.region ?_
   refine Tr.va rfl (fun _ _ h1 h2 => run_fieldAddr fo_49_2 (h1.ev rfl)) ?_
   refine Tr.va rfl (fun _ _ h1 h2 => run_fieldAddr fo_42_0 (h1.ev rfl)) ?_
   refine Tr.va rfl (fun _ _ h1 h2 => run_load1 ag_3 (h1.ev rfl) (rdb h2 (vs := [(iv p0.Kind), (sv p0.Name), (iv p0.At.X), (iv p0.At.Y), (.slice Ap0_0 (p0.Points).length cp0_0), (iv p0.NX), (iv p0.NY), (.slice Ap0_1 (p0.Steps).length cp0_1)]) (k := 1) rfl 2) rfl) ?_
   refine Tr.va rfl (fun _ _ h1 h2 => run_fieldAddr fo_42_0 (h1.ev rfl)) ?_
   refine Tr.va rfl (fun _ _ h1 h2 => run_load1 ag_3 (h1.ev rfl) (rdb h2 (vs := [(iv p1.X), (iv p1.Y)]) (k := 2) rfl 0) rfl) ?_
   refine Tr.va rfl (fun _ _ h1 h2 => run_add (h1.ev rfl) (h1.ev rfl)) ?_
   refine Tr.va rfl (fun _ _ h1 h2 => run_fieldAddr fo_49_2 (h1.ev rfl)) ?_
   refine Tr.va rfl (fun _ _ h1 h2 => run_fieldAddr fo_42_1 (h1.ev rfl)) ?_
   refine Tr.va rfl (fun _ _ h1 h2 => run_load1 ag_3 (h1.ev rfl) (rdb h2 (vs := [(iv p0.Kind), (sv p0.Name), (iv p0.At.X), (iv p0.At.Y), (.slice Ap0_0 (p0.Points).length cp0_0), (iv p0.NX), (iv p0.NY), (.slice Ap0_1 (p0.Steps).length cp0_1)]) (k := 1) rfl 3) rfl) ?_
   refine Tr.va rfl (fun _ _ h1 h2 => run_fieldAddr fo_42_1 (h1.ev rfl)) ?_
   refine Tr.va rfl (fun _ _ h1 h2 => run_load1 ag_3 (h1.ev rfl) (rdb h2 (vs := [(iv p1.X), (iv p1.Y)]) (k := 2) rfl 1) rfl) ?_
   refine Tr.va rfl (fun _ _ h1 h2 => run_add (h1.ev rfl) (h1.ev rfl)) ?_
   refine Tr.build (vs := [(0, (iv (w64 (p0.At.X + p1.X)))), (1, (iv (w64 (p0.At.Y + p1.Y))))]) (cs := [(iv (w64 (p0.At.X + p1.X))), (iv (w64 (p0.At.Y + p1.Y)))]) (wn rfl) rfl (evs_cons rfl (evs_cons rfl evs_nil)) (by kernel_rfl) ?_
   refine Tr.va rfl (fun _ _ h1 h2 => run_fieldAddr fo_49_2 (h1.ev rfl)) ?_
   refine Tr.store 1 (cs := [(iv (w64 (p0.At.X + p1.X))), (iv (w64 (p0.At.Y + p1.Y)))]) [(iv p0.Kind), (sv p0.Name), (iv (w64 (p0.At.X + p1.X))), (iv (w64 (p0.At.Y + p1.Y))), (.slice Ap0_0 (p0.Points).length cp0_0), (iv p0.NX), (iv p0.NY), (.slice Ap0_1 (p0.Steps).length cp0_1)] (wn rfl) rfl rfl rfl rfl sz_42 rfl rfl rfl ?_
   refine Tr.nil ?_
   exact Tr.backThen leJ106 ((w64 (p0.At.X + p1.X)), (w64 (p0.At.Y + p1.Y))) H (.cons rfl (.cons rfl (.cons rfl .nil))) (.cons rfl (.cons rfl (.cons rfl .nil)))
  ·refine Tr.skip ?_
   exact Tr.backThen leJ106 (p0.At.X, p0.At.Y) H (.cons rfl (.cons rfl (.cons rfl .nil))) (.cons rfl (.cons rfl (.cons rfl .nil)))
 ·intro w s hlJ107 hs
  obtain ⟨x104, x105⟩ := s
  have H := hs
  replace H : F_etchhouseref3_moved_J2 N p0 p1 x104 x105 = some r := H
  replace hp0_0 := hp0_0.leR hlJ107
  replace hp0_1 := hp0_1.le hlJ107
  replace leB := leB.trans hlJ107
  unfold F_etchhouseref3_moved_J2 at H
  show Tr _ _ (LF [(2, (.pointer (some ⟨b100, 0, none⟩))), (3, (.pointer (some ⟨b101, 0, none⟩))), (4, (.pointer (some ⟨b102, 0, none⟩)))]) (LE [(1, bx b100 #[(iv p0.Kind), (sv p0.Name), (iv x104), (iv x105), (.slice Ap0_0 (p0.Points).length cp0_0), (iv p0.NX), (iv p0.NY), (.slice Ap0_1 (p0.Steps).length cp0_1)] 49), (2, bx b101 #[(iv p1.X), (iv p1.Y)] 42), (3, bx b102 #[(iv 0), (sv ⟨#[]⟩), (iv 0), (iv 0), (.slice none 0 0), (iv 0), (iv 0), (.slice none 0 0)] 49)]) _
  refine Tr.sr ?_
  refine Tr.asg rfl rfl ?_
  refine Tr.nilOwn 4 42 fl_TPoint ?_
  show Tr _ _ (uf _ 5 (.slice none (([] : List TPoint)).length 0)) _ _
  refine Tr.nil (Tr.normThen ?_)
  refine Tr.seq ?_
  refine Tr.sr ?_
  refine Tr.asg rfl rfl ?_
  refine Tr.nil (Tr.normThen ?_)
  refine Tr.block ?_
  refine Tr.loop (σ := (List TPoint) × Int × (Option Addr) × Nat) (fun m w s => F_etchhouseref3_moved_L1 p0 p1 x104 x105 m s.1 s.2.1 = some r ∧ SlF s.2.2.1 (s.1).length s.2.2.2) (fun s => [(2, (.pointer (some ⟨b100, 0, none⟩))), (3, (.pointer (some ⟨b101, 0, none⟩))), (4, (.pointer (some ⟨b102, 0, none⟩))), (5, (.slice s.2.2.1 (s.1).length s.2.2.2)), (6, (iv s.2.1))]) (fun s => [(1, bx b100 #[(iv p0.Kind), (sv p0.Name), (iv x104), (iv x105), (.slice Ap0_0 (p0.Points).length cp0_0), (iv p0.NX), (iv p0.NY), (.slice Ap0_1 (p0.Steps).length cp0_1)] 49), (2, bx b101 #[(iv p1.X), (iv p1.Y)] 42), (3, bx b102 #[(iv 0), (sv ⟨#[]⟩), (iv 0), (iv 0), (.slice none 0 0), (iv 0), (iv 0), (.slice none 0 0)] 49), (4, ow s.2.2.1 s.2.2.2 42 fl_TPoint s.1)]) N (([] : List TPoint), 0, none, 0) ⟨H, slf_nil⟩ (.cons rfl (.cons rfl (.cons rfl (.cons rfl (.cons rfl .nil))))) (.cons rfl (.cons rfl (.cons rfl (.cons rfl .nil)))) (fun _ _ h => noSome (h.1)) ?_
  intro w leL1 mL1 s hs
  obtain ⟨l122, x123, Al122, cl122⟩ := s
  obtain ⟨H, hl122⟩ := hs
  replace H : F_etchhouseref3_moved_L1 p0 p1 x104 x105 (mL1 + 1) l122 x123 = some r := H
  replace hp0_0 := hp0_0.leR leL1
  replace hp0_1 := hp0_1.le leL1
  replace leB := leB.trans leL1
  replace hl122 : SlF Al122 (l122).length cl122 := hl122
  rw [F_etchhouseref3_moved_L1.eq_2] at H
  show Tr _ _ (LF [(2, (.pointer (some ⟨b100, 0, none⟩))), (3, (.pointer (some ⟨b101, 0, none⟩))), (4, (.pointer (some ⟨b102, 0, none⟩))), (5, (.slice Al122 (l122).length cl122)), (6, (iv x123))]) (LE [(1, bx b100 #[(iv p0.Kind), (sv p0.Name), (iv x104), (iv x105), (.slice Ap0_0 (p0.Points).length cp0_0), (iv p0.NX), (iv p0.NY), (.slice Ap0_1 (p0.Steps).length cp0_1)] 49), (2, bx b101 #[(iv p1.X), (iv p1.Y)] 42), (3, bx b102 #[(iv 0), (sv ⟨#[]⟩), (iv 0), (iv 0), (.slice none 0 0), (iv 0), (iv 0), (.slice none 0 0)] 49), (4, ow Al122 cl122 42 fl_TPoint l122)]) _
  refine Tr.seq ?_
  refine Tr.sr ?_
  refine Tr.mv rfl rfl ?_
  refine Tr.va rfl (fun _ _ h1 h2 => run_fieldAddr fo_49_3 (h1.ev rfl)) ?_
  refine Tr.va rfl (fun _ _ h1 h2 => run_load1 ag_47 (h1.ev rfl) (rdb h2 (vs := [(iv p0.Kind), (sv p0.Name), (iv x104), (iv x105), (.slice Ap0_0 (p0.Points).length cp0_0), (iv p0.NX), (iv p0.NY), (.slice Ap0_1 (p0.Steps).length cp0_1)]) (k := 1) rfl 4) rfl) ?_
  refine Tr.va rfl (fun _ _ h1 h2 => run_len un_47 (h1.ev rfl)) ?_
  refine Tr.va rfl (fun _ _ h1 h2 => run_lss (h1.ev rfl) (h1.ev rfl)) ?_
  refine Tr.nil (Tr.normThen ?_)
  refine Tr.cond rfl H (fun H => ?_) (fun H => ?_)
  ·refine Tr.skip (Tr.normThen ?_)
   refine Tr.seq ?_
   refine Tr.block ?_
   obtain ⟨x125, hx125, H⟩ := bnd H
   obtain ⟨hx1250, hx1251, hx1252⟩ := idx_some hx125
   obtain ⟨x126, hx126, H⟩ := bnd H
   obtain ⟨hx1260, hx1261, hx1262⟩ := idx_some hx126
   refine Tr.drawF 21 [(20, .makeFunc (.func 0) #[] #[.tmp 49])] [(20, ⟨50, 7, (.func (.func 0) #[] #[(.agg #[(iv (w64 (x125.X + p1.X))), (iv (w64 (x126.Y + p1.Y)))])]), fun b => .slice (some ⟨b, 0, none⟩) 1 1, fun b => bx b #[(iv (w64 (x125.X + p1.X))), (iv (w64 (x126.Y + p1.Y)))] 42⟩)] [(2, (.pointer (some ⟨b100, 0, none⟩))), (3, (.pointer (some ⟨b101, 0, none⟩))), (4, (.pointer (some ⟨b102, 0, none⟩))), (5, (.slice Al122 (l122).length cl122)), (6, (iv x123)), (23, (iv x123)), (24, (.pointer (some ⟨b100, 4, none⟩))), (25, (.slice Ap0_0 (p0.Points).length cp0_0)), (26, (iv (p0.Points.length : Int))), (27, (.bool (decide (x123 < (p0.Points.length : Int))))), (30, (.slice Al122 (l122).length cl122)), (31, (.pointer (some ⟨b100, 4, none⟩))), (32, (.slice Ap0_0 (p0.Points).length cp0_0)), (33, (iv x123)), (34, (.pointer (some ⟨adB Ap0_0, adO Ap0_0 + (x123).toNat * 2, none⟩))), (35, (.pointer (some ⟨adB Ap0_0, adO Ap0_0 + (x123).toNat * 2 + 0, none⟩))), (36, (iv x125.X)), (37, (.pointer (some ⟨b101, 0, none⟩))), (38, (iv p1.X)), (39, (iv (w64 (x125.X + p1.X)))), (40, (.pointer (some ⟨b100, 4, none⟩))), (41, (.slice Ap0_0 (p0.Points).length cp0_0)), (42, (iv x123)), (43, (.pointer (some ⟨adB Ap0_0, adO Ap0_0 + (x123).toNat * 2, none⟩))), (44, (.pointer (some ⟨adB Ap0_0, adO Ap0_0 + (x123).toNat * 2 + 1, none⟩))), (45, (iv x126.Y)), (46, (.pointer (some ⟨b101, 1, none⟩))), (47, (iv p1.Y)), (48, (iv (w64 (x126.Y + p1.Y)))), (49, (.agg #[(iv (w64 (x125.X + p1.X))), (iv (w64 (x126.Y + p1.Y)))])), (50, (.func (.func 0) #[] #[(.agg #[(iv (w64 (x125.X + p1.X))), (iv (w64 (x126.Y + p1.Y)))])]))] (by kernel_rfl) (by kernel_rfl) (by kernel_rfl) (by kernel_rfl) (by kernel_rfl) (by kernel_rfl) (by kernel_rfl) (fall_cons (fr_lit (vs := [(0, (.agg #[(iv (w64 (x125.X + p1.X))), (iv (w64 (x126.Y + p1.Y)))]))]) rfl rfl rfl (by kernel_rfl)) fall_nil) (fall_cons rfl fall_nil) (fall_cons rfl fall_nil) ?_ ?_
   ·refine Tq.mv rfl rfl ?_
    refine Tq.va rfl (fun _ _ h1 h2 => run_fieldAddr fo_49_3 (h1.ev rfl)) ?_
    refine Tq.va rfl (fun _ _ h1 h2 => run_load1 ag_47 (h1.ev rfl) (rdb h2 (vs := [(iv p0.Kind), (sv p0.Name), (iv x104), (iv x105), (.slice Ap0_0 (p0.Points).length cp0_0), (iv p0.NX), (iv p0.NY), (.slice Ap0_1 (p0.Steps).length cp0_1)]) (k := 1) rfl 4) rfl) ?_
    refine Tq.mv rfl rfl ?_
    refine Tq.va rfl (fun _ _ h1 h2 => run_indexAddr el_47 (h1.ev rfl) hp0_0.form (h1.ev rfl) hx1250 hx1251) ?_
    refine Tq.va rfl (fun _ _ h1 h2 => run_fieldAddr fo_42_0 (h1.ev rfl)) ?_
    refine Tq.va rfl (fun _ _ h1 h2 => run_load1 ag_3 (h1.ev rfl) (CellsAt.drop (rdF ef_TPoint hp0_0 hx1252 h2) 0) rfl) ?_
    refine Tq.va rfl (fun _ _ h1 h2 => run_fieldAddr fo_42_0 (h1.ev rfl)) ?_
    refine Tq.va rfl (fun _ _ h1 h2 => run_load1 ag_3 (h1.ev rfl) (rdb h2 (vs := [(iv p1.X), (iv p1.Y)]) (k := 2) rfl 0) rfl) ?_
    refine Tq.va rfl (fun _ _ h1 h2 => run_add (h1.ev rfl) (h1.ev rfl)) ?_
    refine Tq.va rfl (fun _ _ h1 h2 => run_fieldAddr fo_49_3 (h1.ev rfl)) ?_
    refine Tq.va rfl (fun _ _ h1 h2 => run_load1 ag_47 (h1.ev rfl) (rdb h2 (vs := [(iv p0.Kind), (sv p0.Name), (iv x104), (iv x105), (.slice Ap0_0 (p0.Points).length cp0_0), (iv p0.NX), (iv p0.NY), (.slice Ap0_1 (p0.Steps).length cp0_1)]) (k := 1) rfl 4) rfl) ?_
    refine Tq.mv rfl rfl ?_
    refine Tq.va rfl (fun _ _ h1 h2 => run_indexAddr el_47 (h1.ev rfl) hp0_0.form (h1.ev rfl) hx1260 hx1261) ?_
    refine Tq.va rfl (fun _ _ h1 h2 => run_fieldAddr fo_42_1 (h1.ev rfl)) ?_
    refine Tq.va rfl (fun _ _ h1 h2 => run_load1 ag_3 (h1.ev rfl) (CellsAt.drop (rdF ef_TPoint hp0_0 hx1262 h2) 1) rfl) ?_
    refine Tq.va rfl (fun _ _ h1 h2 => run_fieldAddr fo_42_1 (h1.ev rfl)) ?_
    refine Tq.va rfl (fun _ _ h1 h2 => run_load1 ag_3 (h1.ev rfl) (rdb h2 (vs := [(iv p1.X), (iv p1.Y)]) (k := 2) rfl 1) rfl) ?_
    refine Tq.va rfl (fun _ _ h1 h2 => run_add (h1.ev rfl) (h1.ev rfl)) ?_
    refine Tq.build (vs := [(0, (iv (w64 (x125.X + p1.X)))), (1, (iv (w64 (x126.Y + p1.Y))))]) (cs := [(iv (w64 (x125.X + p1.X))), (iv (w64 (x126.Y + p1.Y)))]) (wn rfl) rfl (evs_cons rfl (evs_cons rfl evs_nil)) (by kernel_rfl) ?_
    refine Tq.mkFunc (vs := [(.agg #[(iv (w64 (x125.X + p1.X))), (iv (w64 (x126.Y + p1.Y)))])]) (wn rfl) rfl (evl_cons rfl evl_nil) ?_
    exact Tq.fin (.cons rfl (.cons rfl (.cons rfl (.cons rfl (.cons rfl (.cons rfl (.cons rfl (.cons rfl (.cons rfl (.cons rfl (.cons rfl (.cons rfl (.cons rfl (.cons rfl (.cons rfl (.cons rfl (.cons rfl (.cons rfl (.cons rfl (.cons rfl (.cons rfl (.cons rfl (.cons rfl (.cons rfl (.cons rfl (.cons rfl (.cons rfl (.cons rfl (.cons rfl (.cons rfl (.cons rfl .nil)))))))))))))))))))))))))))))))
   ·intro bs124
    refine Tr.sel (lf := [(2, (.pointer (some ⟨b100, 0, none⟩))), (3, (.pointer (some ⟨b101, 0, none⟩))), (4, (.pointer (some ⟨b102, 0, none⟩))), (6, (iv x123)), (30, (.slice Al122 (l122).length cl122)), (50, (.slice (some ⟨(bs124 20), 0, none⟩) 1 1))]) (le := [(1, bx b100 #[(iv p0.Kind), (sv p0.Name), (iv x104), (iv x105), (.slice Ap0_0 (p0.Points).length cp0_0), (iv p0.NX), (iv p0.NY), (.slice Ap0_1 (p0.Steps).length cp0_1)] 49), (2, bx b101 #[(iv p1.X), (iv p1.Y)] 42), (3, bx b102 #[(iv 0), (sv ⟨#[]⟩), (iv 0), (iv 0), (.slice none 0 0), (iv 0), (iv 0), (.slice none 0 0)] 49), (4, ow Al122 cl122 42 fl_TPoint l122), (7, bx (bs124 20) #[(iv (w64 (x125.X + p1.X))), (iv (w64 (x126.Y + p1.Y)))] 42)]) (.cons rfl (.cons rfl (.cons rfl (.cons rfl (.cons rfl (.cons rfl .nil)))))) (.cons rfl (.cons rfl (.cons rfl (.cons rfl (.cons rfl .nil))))) ?_
    obtain ⟨l127, hl127, H⟩ := bnd H
    refine Tr.append 4 (t := fl_TPoint) (l := l122) (l2 := [(TPoint.mk (w64 (x125.X + p1.X)) (w64 (x126.Y + p1.Y)))]) (wn rfl) rfl rfl rfl rfl (fun W hW => ⟨[[(iv (w64 (x125.X + p1.X))), (iv (w64 (x126.Y + p1.Y)))]], (.cons ⟨(), trivial, rfl⟩ .nil), rdb hW (vs := [(iv (w64 (x125.X + p1.X))), (iv (w64 (x126.Y + p1.Y)))]) (k := 7) rfl 0⟩) un_47 sz_42 zl_42 (by decide) by_42 rfl hl127 fun Al127 cl127 hAl127 => ?_
    refine Tr.asg rfl rfl ?_
    refine Tr.nil (Tr.normBlock (Tr.normThen ?_))
    refine Tr.region ?_
    refine Tr.mv rfl rfl ?_
    refine Tr.va rfl (fun _ _ h1 h2 => run_add (h1.ev rfl) (h1.ev rfl)) ?_
    refine Tr.asg rfl rfl ?_
    refine Tr.nil ?_
    exact Tr.backThen leL1 (l127, (w64 (x123 + 1)), Al127, cl127) ⟨H, hAl127⟩ (.cons rfl (.cons rfl (.cons rfl (.cons rfl (.cons rfl .nil))))) (.cons rfl (.cons rfl (.cons rfl (.cons rfl .nil))))
  ·refine Tr.exit (Tr.exitThen (Tr.exitThen (Tr.exitBlock (Tr.normThen ?_))))
   refine Tr.sr ?_
   refine Tr.mv rfl rfl ?_
   refine Tr.va rfl (fun _ _ h1 h2 => run_fieldAddr fo_49_3 (h1.ev rfl)) ?_
   refine Tr.store 1 (cs := [(.slice Al122 (l122).length cl122)]) [(iv p0.Kind), (sv p0.Name), (iv x104), (iv x105), (.slice Al122 (l122).length cl122), (iv p0.NX), (iv p0.NY), (.slice Ap0_1 (p0.Steps).length cp0_1)] (wn rfl) rfl rfl rfl rfl sz_47 rfl rfl rfl ?_
   refine Tr.nil (Tr.normThen ?_)
   refine Tr.sr ?_
   refine Tr.va rfl (fun _ _ h1 h2 => run_loadN (cs := [(iv p0.Kind), (sv p0.Name), (iv x104), (iv x105), (.slice Al122 (l122).length cl122), (iv p0.NX), (iv p0.NY), (.slice Ap0_1 (p0.Steps).length cp0_1)]) ag_49 sz_49 (h1.ev rfl) (CellsAt.take (rdb h2 (vs := [(iv p0.Kind), (sv p0.Name), (iv x104), (iv x105), (.slice Al122 (l122).length cl122), (iv p0.NX), (iv p0.NY), (.slice Ap0_1 (p0.Steps).length cp0_1)]) (k := 1) rfl 0) 8) rfl) ?_
   refine Tr.store 3 (cs := [(iv p0.Kind), (sv p0.Name), (iv x104), (iv x105), (.slice Al122 (l122).length cl122), (iv p0.NX), (iv p0.NY), (.slice Ap0_1 (p0.Steps).length cp0_1)]) [(iv p0.Kind), (sv p0.Name), (iv x104), (iv x105), (.slice Al122 (l122).length cl122), (iv p0.NX), (iv p0.NY), (.slice Ap0_1 (p0.Steps).length cp0_1)] (wn rfl) rfl rfl rfl rfl sz_49 rfl rfl rfl ?_
   refine Tr.nil (Tr.normThen ?_)
   refine Tr.ret ?_
   obtain rfl := Option.some.inj H
   exact Tr.out (m := [(.agg #[(iv p0.Kind), (sv p0.Name), (iv x104), (iv x105), (.slice Al122 (l122).length cl122), (iv p0.NX), (iv p0.NY), (.slice Ap0_1 (p0.Steps).length cp0_1)])]) [3] (res_cell rfl rfl ag_49 sz_49 res_nil) (fun W hW => ⟨w, ((Al122, cl122), (Ap0_1, cp0_1)), leB, rfl, ⟨hl122, hp0_1⟩, hW.pick (ks := [4]) (by decide) (pk_cons rfl pk_nil)⟩)

theorem F_etchhouseref3_flat_b_ok (N : Nat) (rec : (List TPlotStep) → TPoint → Option (List TPlotStep)) (hrec : ∀ {w : Bs} (p0 : (List TPlotStep)) (Ap0_0 : Option Addr) (cp0_0 : Nat) (hp0_0 : Sl w.O w.W fl_TPlotStep Ap0_0 cp0_0 p0) (p1 : TPoint) (r : (List TPlotStep)) (H : rec p0 p1 = some r) (hE : HF w w.W (LEn [emp])), Calls Tryz.prog 19 [(.slice Ap0_0 (p0).length cp0_0), (.agg #[(iv p1.X), (iv p1.Y)])].toArray w.W fun e W' => ∃ (w' : Bs) (u : (Option Addr × Nat)), w.Le w' ∧ e = .returned (.slice u.1 (r).length u.2) ∧ (SlF u.1 (r).length u.2) ∧ HF w' W' (LEn [ow u.1 u.2 49 fl_TPlotStep r])) {w : Bs} (p0 : (List TPlotStep)) (Ap0_0 : Option Addr) (cp0_0 : Nat) (hp0_0 : Sl w.O w.W fl_TPlotStep Ap0_0 cp0_0 p0) (p1 : TPoint) (r : (List TPlotStep)) (H : F_etchhouseref3_flat_b N rec p0 p1 = some r) (hE : HF w w.W (LEn [emp])) : Calls Tryz.prog 19 [(.slice Ap0_0 (p0).length cp0_0), (.agg #[(iv p1.X), (iv p1.Y)])].toArray w.W fun e W' => ∃ (w' : Bs) (u : (Option Addr × Nat)), w.Le w' ∧ e = .returned (.slice u.1 (r).length u.2) ∧ (SlF u.1 (r).length u.2) ∧ HF w' W' (LEn [ow u.1 u.2 49 fl_TPlotStep r]) := by
 unfold F_etchhouseref3_flat_b at H
 have leB := Bs.Le.refl w
 refine Tr.enter (n := 64) Tryz.func19 rfl rfl rfl hE ?_
 refine Tr.sr ?_
 refine Tr.box 1 (cs := [(iv p1.X), (iv p1.Y)]) (wn rfl) rfl rfl rfl fun b100 => ?_
 refine Tr.asg rfl rfl ?_
 refine Tr.nilOwn 2 49 fl_TPlotStep ?_
 show Tr _ _ (uf _ 4 (.slice none (([] : List TPlotStep)).length 0)) _ _
 refine Tr.nil (Tr.normThen ?_)
 refine Tr.sr ?_
 refine Tr.asg rfl rfl ?_
 refine Tr.nilOwn 3 49 fl_TPlotStep ?_
 show Tr _ _ (uf _ 5 (.slice none (([] : List TPlotStep)).length 0)) _ _
 refine Tr.nil (Tr.normThen ?_)
 refine Tr.seq ?_
 refine Tr.sr ?_
 refine Tr.asg rfl rfl ?_
 refine Tr.nil (Tr.normThen ?_)
 refine Tr.block ?_
 refine Tr.loop (σ := (List TPlotStep) × Int × (Option Addr) × Nat) (fun m w s => F_etchhouseref3_flat_L9 N p0 p1 rec m s.1 s.2.1 = some r ∧ SlF s.2.2.1 (s.1).length s.2.2.2) (fun s => [(0, (.slice Ap0_0 (p0).length cp0_0)), (3, (.pointer (some ⟨b100, 0, none⟩))), (5, (.slice s.2.2.1 (s.1).length s.2.2.2)), (6, (iv s.2.1))]) (fun s => [(1, bx b100 #[(iv p1.X), (iv p1.Y)] 42), (3, ow s.2.2.1 s.2.2.2 49 fl_TPlotStep s.1)]) N (([] : List TPlotStep), 0, none, 0) ⟨H, slf_nil⟩ (.cons rfl (.cons rfl (.cons rfl (.cons rfl .nil)))) (.cons rfl (.cons rfl .nil)) (fun _ _ h => noSome (h.1)) ?_
 intro w leL9 mL9 s hs
 obtain ⟨l279, x280, Al279, cl279⟩ := s
 obtain ⟨H, hl279⟩ := hs
 replace H : F_etchhouseref3_flat_L9 N p0 p1 rec (mL9 + 1) l279 x280 = some r := H
 replace hp0_0 := hp0_0.le leL9
 replace leB := leB.trans leL9
 replace hl279 : SlF Al279 (l279).length cl279 := hl279
 rw [F_etchhouseref3_flat_L9.eq_2] at H
 show Tr _ _ (LF [(0, (.slice Ap0_0 (p0).length cp0_0)), (3, (.pointer (some ⟨b100, 0, none⟩))), (5, (.slice Al279 (l279).length cl279)), (6, (iv x280))]) (LE [(1, bx b100 #[(iv p1.X), (iv p1.Y)] 42), (3, ow Al279 cl279 49 fl_TPlotStep l279)]) _
 refine Tr.seq ?_
 refine Tr.sr ?_
 refine Tr.mv rfl rfl ?_
 refine Tr.mv rfl rfl ?_
 refine Tr.va rfl (fun _ _ h1 h2 => run_len un_23 (h1.ev rfl)) ?_
 refine Tr.va rfl (fun _ _ h1 h2 => run_lss (h1.ev rfl) (h1.ev rfl)) ?_
 refine Tr.nil (Tr.normThen ?_)
 refine Tr.cond rfl H (fun H => ?_) (fun H => ?_)
 ·refine Tr.skip (Tr.normThen ?_)
  refine Tr.seq ?_
  refine Tr.block ?_
  refine Tr.sr ?_
  refine Tr.mv rfl rfl ?_
  refine Tr.mv rfl rfl ?_
  obtain ⟨x281, hx281, H⟩ := bnd H
  obtain ⟨hx2810, hx2811, hx2812⟩ := idx_some hx281
  obtain ⟨u282, hRu282, hoku282, hcu282⟩ := (hp0_0).el hx2812
  obtain ⟨⟨Au282_0, cu282_0⟩, ⟨Au282_1, cu282_1⟩⟩ := u282
  obtain ⟨hoku282_0, hoku282_1⟩ := TPlotStep_ok.1 hoku282
  replace hoku282_0 : Sl w.O w.W fl_TPoint Au282_0 cu282_0 x281.Points := hoku282_0
  replace hoku282_1 : Sl w.O w.W fl_TPlotStep Au282_1 cu282_1 x281.Steps := hoku282_1
  replace hRu282 : w.R (adB Ap0_0) := Or.inl hRu282
  refine Tr.va rfl (fun _ _ h1 h2 => run_indexAddr el_23 (h1.ev rfl) hp0_0.form (h1.ev rfl) hx2810 hx2811) ?_
  refine Tr.va rfl (fun _ _ h1 h2 => run_loadN (cs := [(iv x281.Kind), (sv x281.Name), (iv x281.At.X), (iv x281.At.Y), (.slice Au282_0 (x281.Points).length cu282_0), (iv x281.NX), (iv x281.NY), (.slice Au282_1 (x281.Steps).length cu282_1)]) ag_49 sz_49 (h1.ev rfl) (CellsAt.take (rdR hRu282 hcu282 h2) 8) rfl) ?_
  refine Tr.alloc 28 (wn rfl) rfl ze_49 fun b283 => ?_
  refine Tr.store 28 (cs := [(iv x281.Kind), (sv x281.Name), (iv x281.At.X), (iv x281.At.Y), (.slice Au282_0 (x281.Points).length cu282_0), (iv x281.NX), (iv x281.NY), (.slice Au282_1 (x281.Steps).length cu282_1)]) [(iv x281.Kind), (sv x281.Name), (iv x281.At.X), (iv x281.At.Y), (.slice Au282_0 (x281.Points).length cu282_0), (iv x281.NX), (iv x281.NY), (.slice Au282_1 (x281.Steps).length cu282_1)] (wn rfl) rfl rfl rfl rfl sz_49 rfl rfl rfl ?_
  refine Tr.nil (Tr.normThen ?_)
  refine Tr.seq ?_
  refine Tr.sr ?_
  refine Tr.va rfl (fun _ _ h1 h2 => run_fieldAddr fo_49_0 (h1.ev rfl)) ?_
  refine Tr.va rfl (fun _ _ h1 h2 => run_load1 ag_3 (h1.ev rfl) (rdb h2 (vs := [(iv x281.Kind), (sv x281.Name), (iv x281.At.X), (iv x281.At.Y), (.slice Au282_0 (x281.Points).length cu282_0), (iv x281.NX), (iv x281.NY), (.slice Au282_1 (x281.Steps).length cu282_1)]) (k := 28) rfl 0) rfl) ?_
  refine Tr.va rfl (fun _ _ h1 h2 => run_eql (h1.ev rfl) (h1.ev rfl)) ?_
  refine Tr.nil (Tr.normThen ?_)
  refine Tr.cond rfl H (fun H => ?_) (fun H => ?_)
  ·refine Tr.seq ?_
   refine Tr.sr ?_
   refine Tr.asg rfl rfl ?_
   refine Tr.nil (Tr.normThen ?_)
   refine Tr.block ?_
   refine Tr.loop (σ := (List TPlotStep) × Int × (Option Addr) × Nat) (fun m w s => F_etchhouseref3_flat_L12 N p1 rec x280 (F_etchhouseref3_flat_L9 N p0 p1 rec mL9) x281 m s.1 s.2.1 = some r ∧ SlF s.2.2.1 (s.1).length s.2.2.2) (fun s => [(0, (.slice Ap0_0 (p0).length cp0_0)), (3, (.pointer (some ⟨b100, 0, none⟩))), (5, (.slice s.2.2.1 (s.1).length s.2.2.2)), (6, (iv x280)), (7, (.pointer (some ⟨b283, 0, none⟩))), (8, (iv s.2.1))]) (fun s => [(1, bx b100 #[(iv p1.X), (iv p1.Y)] 42), (3, ow s.2.2.1 s.2.2.2 49 fl_TPlotStep s.1), (28, bx b283 #[(iv x281.Kind), (sv x281.Name), (iv x281.At.X), (iv x281.At.Y), (.slice Au282_0 (x281.Points).length cu282_0), (iv x281.NX), (iv x281.NY), (.slice Au282_1 (x281.Steps).length cu282_1)] 49)]) N (l279, 0, Al279, cl279) ⟨H, hl279⟩ (.cons rfl (.cons rfl (.cons rfl (.cons rfl (.cons rfl (.cons rfl .nil)))))) (.cons rfl (.cons rfl (.cons rfl .nil))) (fun _ _ h => noSome (h.1)) ?_
   intro w leL12 mL12 s hs
   obtain ⟨l336, x337, Al336, cl336⟩ := s
   obtain ⟨H, hl336⟩ := hs
   replace H : F_etchhouseref3_flat_L12 N p1 rec x280 (F_etchhouseref3_flat_L9 N p0 p1 rec mL9) x281 (mL12 + 1) l336 x337 = some r := H
   replace hp0_0 := hp0_0.le leL12
   replace hoku282_0 := hoku282_0.le leL12
   replace hoku282_1 := hoku282_1.le leL12
   replace leB := leB.trans leL12
   replace leL9 := leL9.trans leL12
   replace hl336 : SlF Al336 (l336).length cl336 := hl336
   rw [F_etchhouseref3_flat_L12.eq_2] at H
   show Tr _ _ (LF [(0, (.slice Ap0_0 (p0).length cp0_0)), (3, (.pointer (some ⟨b100, 0, none⟩))), (5, (.slice Al336 (l336).length cl336)), (6, (iv x280)), (7, (.pointer (some ⟨b283, 0, none⟩))), (8, (iv x337))]) (LE [(1, bx b100 #[(iv p1.X), (iv p1.Y)] 42), (3, ow Al336 cl336 49 fl_TPlotStep l336), (28, bx b283 #[(iv x281.Kind), (sv x281.Name), (iv x281.At.X), (iv x281.At.Y), (.slice Au282_0 (x281.Points).length cu282_0), (iv x281.NX), (iv x281.NY), (.slice Au282_1 (x281.Steps).length cu282_1)] 49)]) _
   refine Tr.seq ?_
   refine Tr.sr ?_
   refine Tr.mv rfl rfl ?_
   refine Tr.va rfl (fun _ _ h1 h2 => run_fieldAddr fo_49_5 (h1.ev rfl)) ?_
   refine Tr.va rfl (fun _ _ h1 h2 => run_load1 ag_3 (h1.ev rfl) (rdb h2 (vs := [(iv x281.Kind), (sv x281.Name), (iv x281.At.X), (iv x281.At.Y), (.slice Au282_0 (x281.Points).length cu282_0), (iv x281.NX), (iv x281.NY), (.slice Au282_1 (x281.Steps).length cu282_1)]) (k := 28) rfl 6) rfl) ?_
   refine Tr.va rfl (fun _ _ h1 h2 => run_lss (h1.ev rfl) (h1.ev rfl)) ?_
   refine Tr.nil (Tr.normThen ?_)
   refine Tr.cond rfl H (fun H => ?_) (fun H => ?_)
   ·refine Tr.skip (Tr.normThen ?_)
    refine Tr.seq ?_
    refine Tr.block ?_
    refine Tr.sr ?_
    refine Tr.asg rfl rfl ?_
    refine Tr.nil (Tr.normThen ?_)
    refine Tr.block ?_
    refine Tr.loop (σ := (List TPlotStep) × Int × (Option Addr) × Nat) (fun m w s => F_etchhouseref3_flat_L13 p1 rec x281 x337 (F_etchhouseref3_flat_L12 N p1 rec x280 (F_etchhouseref3_flat_L9 N p0 p1 rec mL9) x281 mL12) m s.1 s.2.1 = some r ∧ SlF s.2.2.1 (s.1).length s.2.2.2) (fun s => [(0, (.slice Ap0_0 (p0).length cp0_0)), (3, (.pointer (some ⟨b100, 0, none⟩))), (5, (.slice s.2.2.1 (s.1).length s.2.2.2)), (6, (iv x280)), (7, (.pointer (some ⟨b283, 0, none⟩))), (8, (iv x337)), (9, (iv s.2.1))]) (fun s => [(1, bx b100 #[(iv p1.X), (iv p1.Y)] 42), (3, ow s.2.2.1 s.2.2.2 49 fl_TPlotStep s.1), (28, bx b283 #[(iv x281.Kind), (sv x281.Name), (iv x281.At.X), (iv x281.At.Y), (.slice Au282_0 (x281.Points).length cu282_0), (iv x281.NX), (iv x281.NY), (.slice Au282_1 (x281.Steps).length cu282_1)] 49)]) N (l336, 0, Al336, cl336) ⟨H, hl336⟩ (.cons rfl (.cons rfl (.cons rfl (.cons rfl (.cons rfl (.cons rfl (.cons rfl .nil))))))) (.cons rfl (.cons rfl (.cons rfl .nil))) (fun _ _ h => noSome (h.1)) ?_
    intro w leL13 mL13 s hs
    obtain ⟨l354, x355, Al354, cl354⟩ := s
    obtain ⟨H, hl354⟩ := hs
    replace H : F_etchhouseref3_flat_L13 p1 rec x281 x337 (F_etchhouseref3_flat_L12 N p1 rec x280 (F_etchhouseref3_flat_L9 N p0 p1 rec mL9) x281 mL12) (mL13 + 1) l354 x355 = some r := H
    replace hp0_0 := hp0_0.le leL13
    replace hoku282_0 := hoku282_0.le leL13
    replace hoku282_1 := hoku282_1.le leL13
    replace leB := leB.trans leL13
    replace leL9 := leL9.trans leL13
    replace leL12 := leL12.trans leL13
    replace hl354 : SlF Al354 (l354).length cl354 := hl354
    rw [F_etchhouseref3_flat_L13.eq_2] at H
    show Tr _ _ (LF [(0, (.slice Ap0_0 (p0).length cp0_0)), (3, (.pointer (some ⟨b100, 0, none⟩))), (5, (.slice Al354 (l354).length cl354)), (6, (iv x280)), (7, (.pointer (some ⟨b283, 0, none⟩))), (8, (iv x337)), (9, (iv x355))]) (LE [(1, bx b100 #[(iv p1.X), (iv p1.Y)] 42), (3, ow Al354 cl354 49 fl_TPlotStep l354), (28, bx b283 #[(iv x281.Kind), (sv x281.Name), (iv x281.At.X), (iv x281.At.Y), (.slice Au282_0 (x281.Points).length cu282_0), (iv x281.NX), (iv x281.NY), (.slice Au282_1 (x281.Steps).length cu282_1)] 49)]) _
    refine Tr.seq ?_
    refine Tr.sr ?_
    refine Tr.mv rfl rfl ?_
    refine Tr.va rfl (fun _ _ h1 h2 => run_fieldAddr fo_49_4 (h1.ev rfl)) ?_
    refine Tr.va rfl (fun _ _ h1 h2 => run_load1 ag_3 (h1.ev rfl) (rdb h2 (vs := [(iv x281.Kind), (sv x281.Name), (iv x281.At.X), (iv x281.At.Y), (.slice Au282_0 (x281.Points).length cu282_0), (iv x281.NX), (iv x281.NY), (.slice Au282_1 (x281.Steps).length cu282_1)]) (k := 28) rfl 5) rfl) ?_
    refine Tr.va rfl (fun _ _ h1 h2 => run_lss (h1.ev rfl) (h1.ev rfl)) ?_
    refine Tr.nil (Tr.normThen ?_)
    refine Tr.cond rfl H (fun H => ?_) (fun H => ?_)
    ·refine Tr.skip (Tr.normThen ?_)
     refine Tr.seq ?_
     refine Tr.block ?_
     refine Tr.region ?_
     refine Tr.mv rfl rfl ?_
     refine Tr.va rfl (fun _ _ h1 h2 => run_fieldAddr fo_49_6 (h1.ev rfl)) ?_
     refine Tr.va rfl (fun _ _ h1 h2 => run_load1 ag_23 (h1.ev rfl) (rdb h2 (vs := [(iv x281.Kind), (sv x281.Name), (iv x281.At.X), (iv x281.At.Y), (.slice Au282_0 (x281.Points).length cu282_0), (iv x281.NX), (iv x281.NY), (.slice Au282_1 (x281.Steps).length cu282_1)]) (k := 28) rfl 7) rfl) ?_
     refine Tr.va rfl (fun _ _ h1 h2 => run_fieldAddr fo_42_0 (h1.ev rfl)) ?_
     refine Tr.va rfl (fun _ _ h1 h2 => run_load1 ag_3 (h1.ev rfl) (rdb h2 (vs := [(iv p1.X), (iv p1.Y)]) (k := 1) rfl 0) rfl) ?_
     refine Tr.mv rfl rfl ?_
     refine Tr.va rfl (fun _ _ h1 h2 => run_fieldAddr fo_49_2 (h1.ev rfl)) ?_
     refine Tr.va rfl (fun _ _ h1 h2 => run_fieldAddr fo_42_0 (h1.ev rfl)) ?_
     refine Tr.va rfl (fun _ _ h1 h2 => run_load1 ag_3 (h1.ev rfl) (rdb h2 (vs := [(iv x281.Kind), (sv x281.Name), (iv x281.At.X), (iv x281.At.Y), (.slice Au282_0 (x281.Points).length cu282_0), (iv x281.NX), (iv x281.NY), (.slice Au282_1 (x281.Steps).length cu282_1)]) (k := 28) rfl 2) rfl) ?_
     refine Tr.va rfl (fun _ _ h1 h2 => run_mul (h1.ev rfl) (h1.ev rfl)) ?_
     refine Tr.va rfl (fun _ _ h1 h2 => run_add (h1.ev rfl) (h1.ev rfl)) ?_
     refine Tr.va rfl (fun _ _ h1 h2 => run_fieldAddr fo_42_1 (h1.ev rfl)) ?_
     refine Tr.va rfl (fun _ _ h1 h2 => run_load1 ag_3 (h1.ev rfl) (rdb h2 (vs := [(iv p1.X), (iv p1.Y)]) (k := 1) rfl 1) rfl) ?_
     refine Tr.mv rfl rfl ?_
     refine Tr.va rfl (fun _ _ h1 h2 => run_fieldAddr fo_49_2 (h1.ev rfl)) ?_
     refine Tr.va rfl (fun _ _ h1 h2 => run_fieldAddr fo_42_1 (h1.ev rfl)) ?_
     refine Tr.va rfl (fun _ _ h1 h2 => run_load1 ag_3 (h1.ev rfl) (rdb h2 (vs := [(iv x281.Kind), (sv x281.Name), (iv x281.At.X), (iv x281.At.Y), (.slice Au282_0 (x281.Points).length cu282_0), (iv x281.NX), (iv x281.NY), (.slice Au282_1 (x281.Steps).length cu282_1)]) (k := 28) rfl 3) rfl) ?_
     refine Tr.va rfl (fun _ _ h1 h2 => run_mul (h1.ev rfl) (h1.ev rfl)) ?_
     refine Tr.va rfl (fun _ _ h1 h2 => run_add (h1.ev rfl) (h1.ev rfl)) ?_
     refine Tr.build (vs := [(0, (iv (w64 (p1.X + (w64 (x355 * x281.At.X)))))), (1, (iv (w64 (p1.Y + (w64 (x337 * x281.At.Y))))))]) (cs := [(iv (w64 (p1.X + (w64 (x355 * x281.At.X))))), (iv (w64 (p1.Y + (w64 (x337 * x281.At.Y)))))]) (wn rfl) rfl (evs_cons rfl (evs_cons rfl evs_nil)) (by kernel_rfl) ?_
     obtain ⟨y356, hy356, H⟩ := bnd H
     refine Tr.callG [37] [emp] (U := (Option Addr × Nat)) (fun u => (.slice u.1 (y356).length u.2)) (fun O W u => SlF u.1 (y356).length u.2) (fun u => [ow u.1 u.2 49 fl_TPlotStep y356]) rfl (pk_cons rfl pk_nil) (fun _ => rfl) (wn rfl) rfl Tryz.call19 (evl_cons rfl (evl_cons rfl evl_nil)) (fun W hW hp hE => hrec x281.Steps Au282_1 cu282_1 (hoku282_1.extO (hW.extS hp)) (TPoint.mk (w64 (p1.X + (w64 (x355 * x281.At.X)))) (w64 (p1.Y + (w64 (x337 * x281.At.Y))))) y356 hy356 hE) ?_
     intro w u le357 hu
     obtain ⟨Ay356_0, cy356_0⟩ := u
     have gy356_0 := hu
     replace hp0_0 := hp0_0.le le357
     replace hoku282_0 := hoku282_0.le le357
     replace hoku282_1 := hoku282_1.le le357
     replace leB := leB.trans le357
     replace leL9 := leL9.trans le357
     replace leL12 := leL12.trans le357
     replace leL13 := leL13.trans le357
     have hgy356_0 : SlF Ay356_0 (y356).length cy356_0 := gy356_0 --@phi
     show Tr _ _ (uf _ 55 (.slice Ay356_0 (y356).length cy356_0)) (up _ 37 (ow Ay356_0 cy356_0 49 fl_TPlotStep y356)) _
     refine Tr.freeze 37 rfl fun w le359 hz358 => ?_
     replace hp0_0 := hp0_0.le le359
     replace hoku282_0 := hoku282_0.le le359
     replace hoku282_1 := hoku282_1.le le359
     replace leB := leB.trans le359
     replace leL9 := leL9.trans le359
     replace leL12 := leL12.trans le359
     replace leL13 := leL13.trans le359
     obtain ⟨l360, hl360, H⟩ := bnd H
     refine Tr.appendS 3 (t := fl_TPlotStep) (l := l354) (l2 := y356) (wn rfl) rfl rfl rfl rfl (apO hz358) un_23 sz_49 zl_49 (by decide) by_49 rfl hl360 fun Al360 cl360 hAl360 => ?_
     refine Tr.asg rfl rfl ?_
     refine Tr.nil (Tr.normBlock (Tr.normThen ?_))
     refine Tr.region ?_
     refine Tr.mv rfl rfl ?_
     refine Tr.va rfl (fun _ _ h1 h2 => run_add (h1.ev rfl) (h1.ev rfl)) ?_
     refine Tr.asg rfl rfl ?_
     refine Tr.nil ?_
     exact Tr.backThen leL13 (l360, (w64 (x355 + 1)), Al360, cl360) ⟨H, hAl360⟩ (.cons rfl (.cons rfl (.cons rfl (.cons rfl (.cons rfl (.cons rfl (.cons rfl .nil))))))) (.cons rfl (.cons rfl (.cons rfl .nil)))
    ·refine Tr.exit (Tr.exitThen (Tr.exitThen (Tr.exitBlock (Tr.normBlock (Tr.normThen ?_)))))
     refine Tr.region ?_
     refine Tr.mv rfl rfl ?_
     refine Tr.va rfl (fun _ _ h1 h2 => run_add (h1.ev rfl) (h1.ev rfl)) ?_
     refine Tr.asg rfl rfl ?_
     refine Tr.nil ?_
     exact Tr.backThen leL12 (l354, (w64 (x337 + 1)), Al354, cl354) ⟨H, hl354⟩ (.cons rfl (.cons rfl (.cons rfl (.cons rfl (.cons rfl (.cons rfl .nil)))))) (.cons rfl (.cons rfl (.cons rfl .nil)))
   ·refine Tr.exit (Tr.exitThen (Tr.exitThen (Tr.exitBlock (Tr.normThen ?_))))
    refine Tr.exit (Tr.exitThen (Tr.exitBlock (Tr.normThen ?_)))
    refine Tr.region ?_
    refine Tr.mv rfl rfl ?_
    refine Tr.va rfl (fun _ _ h1 h2 => run_add (h1.ev rfl) (h1.ev rfl)) ?_
    refine Tr.asg rfl rfl ?_
    refine Tr.nil ?_
    exact Tr.backThen leL9 (l336, (w64 (x280 + 1)), Al336, cl336) ⟨H, hl336⟩ (.cons rfl (.cons rfl (.cons rfl (.cons rfl .nil)))) (.cons rfl (.cons rfl .nil))
  ·refine Tr.skip (Tr.normThen ?_)
   refine Tr.region ?_
   refine Tr.mv rfl rfl ?_
   refine Tr.va rfl (fun _ _ h1 h2 => run_loadN (cs := [(iv x281.Kind), (sv x281.Name), (iv x281.At.X), (iv x281.At.Y), (.slice Au282_0 (x281.Points).length cu282_0), (iv x281.NX), (iv x281.NY), (.slice Au282_1 (x281.Steps).length cu282_1)]) ag_49 sz_49 (h1.ev rfl) (CellsAt.take (rdb h2 (vs := [(iv x281.Kind), (sv x281.Name), (iv x281.At.X), (iv x281.At.Y), (.slice Au282_0 (x281.Points).length cu282_0), (iv x281.NX), (iv x281.NY), (.slice Au282_1 (x281.Steps).length cu282_1)]) (k := 28) rfl 0) 8) rfl) ?_
   refine Tr.va rfl (fun _ _ h1 h2 => run_loadN (cs := [(iv p1.X), (iv p1.Y)]) ag_42 sz_42 (h1.ev rfl) (CellsAt.take (rdb h2 (vs := [(iv p1.X), (iv p1.Y)]) (k := 1) rfl 0) 2) rfl) ?_
   obtain ⟨y361, hy361, H⟩ := bnd H
   refine Tr.callG [38] [emp] (U := (Option Addr × Nat) × (Option Addr × Nat)) (fun u => (.agg #[(iv y361.Kind), (sv y361.Name), (iv y361.At.X), (iv y361.At.Y), (.slice u.1.1 (y361.Points).length u.1.2), (iv y361.NX), (iv y361.NY), (.slice u.2.1 (y361.Steps).length u.2.2)])) (fun O W u => SlF u.1.1 (y361.Points).length u.1.2 ∧ Sl O W fl_TPlotStep u.2.1 u.2.2 y361.Steps) (fun u => [ow u.1.1 u.1.2 42 fl_TPoint y361.Points]) rfl (pk_cons rfl pk_nil) (fun _ => rfl) (wn rfl) rfl Tryz.call52 (evl_cons rfl (evl_cons rfl evl_nil)) (fun W hW hp hE => F_etchhouseref3_moved_ok N x281 Au282_0 cu282_0 (hoku282_0.rl.ext (hW.extS hp)) Au282_1 cu282_1 (hoku282_1.extO (hW.extS hp)) p1 y361 hy361 hE) ?_
   intro w u le362 hu
   obtain ⟨⟨Ay361_0, cy361_0⟩, ⟨Ay361_1, cy361_1⟩⟩ := u
   obtain ⟨gy361_0, gy361_1⟩ := hu
   replace hp0_0 := hp0_0.le le362
   replace hcu282 := le362.ext.cells hRu282 hcu282
   replace hRu282 := le362.r _ hRu282
   replace hoku282_0 := hoku282_0.le le362
   replace hoku282_1 := hoku282_1.le le362
   replace leB := leB.trans le362
   replace leL9 := leL9.trans le362
   have hgy361_0 : SlF Ay361_0 (y361.Points).length cy361_0 := gy361_0 --@phi
   have hgy361_1 : Sl w.O w.W fl_TPlotStep Ay361_1 cy361_1 y361.Steps := gy361_1 --@phi
   show Tr _ _ (uf _ 60 (.agg #[(iv y361.Kind), (sv y361.Name), (iv y361.At.X), (iv y361.At.Y), (.slice Ay361_0 (y361.Points).length cy361_0), (iv y361.NX), (iv y361.NY), (.slice Ay361_1 (y361.Steps).length cy361_1)])) (up _ 38 (ow Ay361_0 cy361_0 42 fl_TPoint y361.Points)) _
   refine Tr.freeze 38 rfl fun w le364 hz363 => ?_
   replace hp0_0 := hp0_0.le le364
   replace hcu282 := le364.ext.cells hRu282 hcu282
   replace hRu282 := le364.r _ hRu282
   replace hoku282_0 := hoku282_0.le le364
   replace hoku282_1 := hoku282_1.le le364
   replace hgy361_1 := hgy361_1.le le364
   replace leB := leB.trans le364
   replace leL9 := leL9.trans le364
   refine Tr.buildSlice 39 (e := 49) (vs := [(0, (.agg #[(iv y361.Kind), (sv y361.Name), (iv y361.At.X), (iv y361.At.Y), (.slice Ay361_0 (y361.Points).length cy361_0), (iv y361.NX), (iv y361.NY), (.slice Ay361_1 (y361.Steps).length cy361_1)]))]) (cs := [(iv y361.Kind), (sv y361.Name), (iv y361.At.X), (iv y361.At.Y), (.slice Ay361_0 (y361.Points).length cy361_0), (iv y361.NX), (iv y361.NY), (.slice Ay361_1 (y361.Steps).length cy361_1)]) (wn rfl) rfl (evs_cons rfl evs_nil) (by kernel_rfl) fun b365 => ?_
   obtain ⟨l366, hl366, H⟩ := bnd H
   refine Tr.append 3 (t := fl_TPlotStep) (l := l279) (l2 := [y361]) (wn rfl) rfl rfl rfl rfl (fun W hW => ⟨[[(iv y361.Kind), (sv y361.Name), (iv y361.At.X), (iv y361.At.Y), (.slice Ay361_0 (y361.Points).length cy361_0), (iv y361.NX), (iv y361.NY), (.slice Ay361_1 (y361.Steps).length cy361_1)]], (.cons ⟨((Ay361_0, cy361_0), (Ay361_1, cy361_1)), (TPlotStep_ok.2 ⟨hz363, hgy361_1⟩), rfl⟩ .nil), rdb hW (vs := [(iv y361.Kind), (sv y361.Name), (iv y361.At.X), (iv y361.At.Y), (.slice Ay361_0 (y361.Points).length cy361_0), (iv y361.NX), (iv y361.NY), (.slice Ay361_1 (y361.Steps).length cy361_1)]) (k := 39) rfl 0⟩) un_23 sz_49 zl_49 (by decide) by_49 rfl hl366 fun Al366 cl366 hAl366 => ?_
   refine Tr.asg rfl rfl ?_
   refine Tr.nil (Tr.normBlock (Tr.normThen ?_))
   refine Tr.region ?_
   refine Tr.mv rfl rfl ?_
   refine Tr.va rfl (fun _ _ h1 h2 => run_add (h1.ev rfl) (h1.ev rfl)) ?_
   refine Tr.asg rfl rfl ?_
   refine Tr.nil ?_
   exact Tr.backThen leL9 (l366, (w64 (x280 + 1)), Al366, cl366) ⟨H, hAl366⟩ (.cons rfl (.cons rfl (.cons rfl (.cons rfl .nil)))) (.cons rfl (.cons rfl .nil))
 ·refine Tr.exit (Tr.exitThen (Tr.exitThen (Tr.exitBlock (Tr.normThen ?_))))
  refine Tr.sr ?_
  refine Tr.mv rfl rfl ?_
  refine Tr.asg rfl rfl ?_
  refine Tr.nil (Tr.normThen ?_)
  refine Tr.ret ?_
  obtain rfl := Option.some.inj H
  exact Tr.out (m := [(.slice Al279 (l279).length cl279)]) [] (res_tmp rfl res_nil) (fun W hW => ⟨w, (Al279, cl279), leB, rfl, hl279, hW.pick (ks := [3]) (by decide) (pk_cons rfl pk_nil)⟩)
theorem F_etchhouseref3_flat_ok : ∀ (N : Nat) {w : Bs} (p0 : (List TPlotStep)) (Ap0_0 : Option Addr) (cp0_0 : Nat) (hp0_0 : Sl w.O w.W fl_TPlotStep Ap0_0 cp0_0 p0) (p1 : TPoint) (r : (List TPlotStep)) (H : F_etchhouseref3_flat N p0 p1 = some r) (hE : HF w w.W (LEn [emp])), Calls Tryz.prog 19 [(.slice Ap0_0 (p0).length cp0_0), (.agg #[(iv p1.X), (iv p1.Y)])].toArray w.W fun e W' => ∃ (w' : Bs) (u : (Option Addr × Nat)), w.Le w' ∧ e = .returned (.slice u.1 (r).length u.2) ∧ (SlF u.1 (r).length u.2) ∧ HF w' W' (LEn [ow u.1 u.2 49 fl_TPlotStep r])
 | 0 => by intros; rename_i H _; cases H
 | N + 1 => F_etchhouseref3_flat_b_ok N (F_etchhouseref3_flat N) (F_etchhouseref3_flat_ok N)

theorem F_etchhouseref3_right_ok (N : Nat) {w : Bs} (p0 : TPlot) (Ap0_0 : Option Addr) (cp0_0 : Nat) (hp0_0 : Sl w.O w.W fl_TPlotTool Ap0_0 cp0_0 p0.Tools) (Ap0_1 : Option Addr) (cp0_1 : Nat) (hp0_1 : Sl w.O w.W fl_TPlotStep Ap0_1 cp0_1 p0.Steps) (r : (TPlot × Int)) (H : F_etchhouseref3_right N p0 = some r) (hE : HF w w.W (LEn [])) : Calls Tryz.prog 20 [(.agg #[(iv p0.Unit), (.slice Ap0_0 (p0.Tools).length cp0_0), (.slice Ap0_1 (p0.Steps).length cp0_1)])].toArray w.W fun e W' => ∃ (w' : Bs) (u : (Option Addr × Nat) × (Option Addr × Nat)), w.Le w' ∧ e = .returned (.tuple #[(.agg #[(iv r.1.Unit), (.slice u.1.1 (r.1.Tools).length u.1.2), (.slice u.2.1 (r.1.Steps).length u.2.2)]), (iv r.2)]) ∧ (Sl w'.O w'.W fl_TPlotTool u.1.1 u.1.2 r.1.Tools ∧ Sl w'.O w'.W fl_TPlotStep u.2.1 u.2.2 r.1.Steps) ∧ HF w' W' (LEn []) := by
 unfold F_etchhouseref3_right at H
 have leB := Bs.Le.refl w
 refine Tr.enter (n := 12) Tryz.func20 rfl rfl rfl hE ?_
 refine Tr.sr ?_
 refine Tr.box 1 (cs := [(iv p0.Unit), (.slice Ap0_0 (p0.Tools).length cp0_0), (.slice Ap0_1 (p0.Steps).length cp0_1)]) (wn rfl) rfl rfl rfl fun b100 => ?_
 refine Tr.alloc 2 (wn rfl) rfl ze_25 fun b101 => ?_
 refine Tr.asg rfl rfl ?_
 refine Tr.nil (Tr.normThen ?_)
 refine Tr.seq ?_
 refine Tr.sr ?_
 refine Tr.va rfl (fun _ _ h1 h2 => run_loadN (cs := [(iv p0.Unit), (.slice Ap0_0 (p0.Tools).length cp0_0), (.slice Ap0_1 (p0.Steps).length cp0_1)]) ag_25 sz_25 (h1.ev rfl) (CellsAt.take (rdb h2 (vs := [(iv p0.Unit), (.slice Ap0_0 (p0.Tools).length cp0_0), (.slice Ap0_1 (p0.Steps).length cp0_1)]) (k := 1) rfl 0) 3) rfl) ?_
 obtain ⟨y102, hy102, H⟩ := bnd H
 refine Tr.call0 (r := (iv y102)) (wn rfl) rfl Tryz.call18 (evl_cons rfl evl_nil) (fun W hW => F_etchhouseref3_CheckPlot_ok N p0 Ap0_0 cp0_0 (hp0_0.rl.ext hW.extAll) Ap0_1 cp0_1 (hp0_1.rl.ext hW.extAll) y102 hy102 (HF.start _)) ?_
 refine Tr.asg rfl rfl ?_
 refine Tr.nil (Tr.normThen ?_)
 refine Tr.sr ?_
 refine Tr.mv rfl rfl ?_
 refine Tr.va rfl (fun _ _ h1 h2 => run_neq (h1.ev rfl) (h1.ev rfl)) ?_
 refine Tr.nil (Tr.normThen ?_)
 refine Tr.cond rfl H (fun H => ?_) (fun H => ?_)
 ·refine Tr.sr ?_
  refine Tr.build (vs := []) (cs := [(iv 0), (.slice none 0 0), (.slice none 0 0)]) (wn rfl) rfl evs_nil (by kernel_rfl) ?_
  refine Tr.mv rfl rfl ?_
  refine Tr.store 2 (cs := [(iv 0), (.slice none 0 0), (.slice none 0 0)]) [(iv 0), (.slice none 0 0), (.slice none 0 0)] (wn rfl) rfl rfl rfl rfl sz_25 rfl rfl rfl ?_
  refine Tr.asg rfl rfl ?_
  refine Tr.nil (Tr.normThen ?_)
  refine Tr.ret (Tr.retThen ?_)
  obtain rfl := Option.some.inj H
  exact Tr.out (m := [(.agg #[(iv 0), (.slice none 0 0), (.slice none 0 0)]), (iv y102)]) [2] (res_cell rfl rfl ag_25 sz_25 (res_tmp rfl res_nil)) (fun W hW => ⟨w, ((none, 0), (none, 0)), leB, rfl, ⟨(Sl.nil _ _ _), (Sl.nil _ _ _)⟩, hW.pick (ks := []) (by decide) pk_nil⟩)
 ·refine Tr.skip (Tr.normThen ?_)
  refine Tr.sr ?_
  refine Tr.va rfl (fun _ _ h1 h2 => run_loadN (cs := [(iv p0.Unit), (.slice Ap0_0 (p0.Tools).length cp0_0), (.slice Ap0_1 (p0.Steps).length cp0_1)]) ag_25 sz_25 (h1.ev rfl) (CellsAt.take (rdb h2 (vs := [(iv p0.Unit), (.slice Ap0_0 (p0.Tools).length cp0_0), (.slice Ap0_1 (p0.Steps).length cp0_1)]) (k := 1) rfl 0) 3) rfl) ?_
  refine Tr.store 2 (cs := [(iv p0.Unit), (.slice Ap0_0 (p0.Tools).length cp0_0), (.slice Ap0_1 (p0.Steps).length cp0_1)]) [(iv p0.Unit), (.slice Ap0_0 (p0.Tools).length cp0_0), (.slice Ap0_1 (p0.Steps).length cp0_1)] (wn rfl) rfl rfl rfl rfl sz_25 rfl rfl rfl ?_
  refine Tr.asg rfl rfl ?_
  refine Tr.nil (Tr.normThen ?_)
  refine Tr.ret ?_
  obtain rfl := Option.some.inj H
  exact Tr.out (m := [(.agg #[(iv p0.Unit), (.slice Ap0_0 (p0.Tools).length cp0_0), (.slice Ap0_1 (p0.Steps).length cp0_1)]), (iv 0)]) [2] (res_cell rfl rfl ag_25 sz_25 (res_tmp rfl res_nil)) (fun W hW => ⟨w, ((Ap0_0, cp0_0), (Ap0_1, cp0_1)), leB, rfl, ⟨hp0_0, hp0_1⟩, hW.pick (ks := []) (by decide) pk_nil⟩)

theorem F_etchhouseref3_Flat_ok (N : Nat) {w : Bs} (p0 : TPlot) (Ap0_0 : Option Addr) (cp0_0 : Nat) (hp0_0 : Sl w.O w.W fl_TPlotTool Ap0_0 cp0_0 p0.Tools) (Ap0_1 : Option Addr) (cp0_1 : Nat) (hp0_1 : Sl w.O w.W fl_TPlotStep Ap0_1 cp0_1 p0.Steps) (r : (TPlot × Int)) (H : F_etchhouseref3_Flat N p0 = some r) (hE : HF w w.W (LEn [])) : Calls Tryz.prog 7 [(.agg #[(iv p0.Unit), (.slice Ap0_0 (p0.Tools).length cp0_0), (.slice Ap0_1 (p0.Steps).length cp0_1)])].toArray w.W fun e W' => ∃ (w' : Bs) (u : (Option Addr × Nat) × (Option Addr × Nat)), w.Le w' ∧ e = .returned (.tuple #[(.agg #[(iv r.1.Unit), (.slice u.1.1 (r.1.Tools).length u.1.2), (.slice u.2.1 (r.1.Steps).length u.2.2)]), (iv r.2)]) ∧ (Sl w'.O w'.W fl_TPlotTool u.1.1 u.1.2 r.1.Tools ∧ Sl w'.O w'.W fl_TPlotStep u.2.1 u.2.2 r.1.Steps) ∧ HF w' W' (LEn []) := by
 unfold F_etchhouseref3_Flat at H
 have leB := Bs.Le.refl w
 refine Tr.enter (n := 20) Tryz.func7 rfl rfl rfl hE ?_
 refine Tr.sr ?_
 refine Tr.box 1 (cs := [(iv p0.Unit), (.slice Ap0_0 (p0.Tools).length cp0_0), (.slice Ap0_1 (p0.Steps).length cp0_1)]) (wn rfl) rfl rfl rfl fun b100 => ?_
 refine Tr.alloc 2 (wn rfl) rfl ze_25 fun b101 => ?_
 refine Tr.asg rfl rfl ?_
 refine Tr.nil (Tr.normThen ?_)
 refine Tr.seq ?_
 refine Tr.sr ?_
 refine Tr.va rfl (fun _ _ h1 h2 => run_loadN (cs := [(iv p0.Unit), (.slice Ap0_0 (p0.Tools).length cp0_0), (.slice Ap0_1 (p0.Steps).length cp0_1)]) ag_25 sz_25 (h1.ev rfl) (CellsAt.take (rdb h2 (vs := [(iv p0.Unit), (.slice Ap0_0 (p0.Tools).length cp0_0), (.slice Ap0_1 (p0.Steps).length cp0_1)]) (k := 1) rfl 0) 3) rfl) ?_
 obtain ⟨y102, hy102, H⟩ := bnd H
 refine Tr.call0 (r := (iv y102)) (wn rfl) rfl Tryz.call18 (evl_cons rfl evl_nil) (fun W hW => F_etchhouseref3_CheckPlot_ok N p0 Ap0_0 cp0_0 (hp0_0.rl.ext hW.extAll) Ap0_1 cp0_1 (hp0_1.rl.ext hW.extAll) y102 hy102 (HF.start _)) ?_
 refine Tr.asg rfl rfl ?_
 refine Tr.nil (Tr.normThen ?_)
 refine Tr.sr ?_
 refine Tr.mv rfl rfl ?_
 refine Tr.va rfl (fun _ _ h1 h2 => run_neq (h1.ev rfl) (h1.ev rfl)) ?_
 refine Tr.nil (Tr.normThen ?_)
 refine Tr.cond rfl H (fun H => ?_) (fun H => ?_)
 ·refine Tr.sr ?_
  refine Tr.build (vs := []) (cs := [(iv 0), (.slice none 0 0), (.slice none 0 0)]) (wn rfl) rfl evs_nil (by kernel_rfl) ?_
  refine Tr.mv rfl rfl ?_
  refine Tr.store 2 (cs := [(iv 0), (.slice none 0 0), (.slice none 0 0)]) [(iv 0), (.slice none 0 0), (.slice none 0 0)] (wn rfl) rfl rfl rfl rfl sz_25 rfl rfl rfl ?_
  refine Tr.asg rfl rfl ?_
  refine Tr.nil (Tr.normThen ?_)
  refine Tr.ret (Tr.retThen ?_)
  obtain rfl := Option.some.inj H
  exact Tr.out (m := [(.agg #[(iv 0), (.slice none 0 0), (.slice none 0 0)]), (iv y102)]) [2] (res_cell rfl rfl ag_25 sz_25 (res_tmp rfl res_nil)) (fun W hW => ⟨w, ((none, 0), (none, 0)), leB, rfl, ⟨(Sl.nil _ _ _), (Sl.nil _ _ _)⟩, hW.pick (ks := []) (by decide) pk_nil⟩)
 ·refine Tr.skip (Tr.normThen ?_)
  refine Tr.sr ?_
  refine Tr.va rfl (fun _ _ h1 h2 => run_fieldAddr fo_25_2 (h1.ev rfl)) ?_
  refine Tr.va rfl (fun _ _ h1 h2 => run_load1 ag_23 (h1.ev rfl) (rdb h2 (vs := [(iv p0.Unit), (.slice Ap0_0 (p0.Tools).length cp0_0), (.slice Ap0_1 (p0.Steps).length cp0_1)]) (k := 1) rfl 2) rfl) ?_
  refine Tr.build (vs := []) (cs := [(iv 0), (iv 0)]) (wn rfl) rfl evs_nil (by kernel_rfl) ?_
  obtain ⟨y103, hy103, H⟩ := bnd H
  refine Tr.callG [3] [emp] (U := (Option Addr × Nat)) (fun u => (.slice u.1 (y103).length u.2)) (fun O W u => SlF u.1 (y103).length u.2) (fun u => [ow u.1 u.2 49 fl_TPlotStep y103]) rfl (pk_cons rfl pk_nil) (fun _ => rfl) (wn rfl) rfl Tryz.call19 (evl_cons rfl (evl_cons rfl evl_nil)) (fun W hW hp hE => F_etchhouseref3_flat_ok N p0.Steps Ap0_1 cp0_1 (hp0_1.extO (hW.extS hp)) (TPoint.mk 0 0) y103 hy103 hE) ?_
  intro w u le104 hu
  obtain ⟨Ay103_0, cy103_0⟩ := u
  have gy103_0 := hu
  replace hp0_0 := hp0_0.le le104
  replace hp0_1 := hp0_1.le le104
  replace leB := leB.trans le104
  have hgy103_0 : SlF Ay103_0 (y103).length cy103_0 := gy103_0 --@phi
  show Tr _ _ (uf _ 14 (.slice Ay103_0 (y103).length cy103_0)) (up _ 3 (ow Ay103_0 cy103_0 49 fl_TPlotStep y103)) _
  refine Tr.va rfl (fun _ _ h1 h2 => run_fieldAddr fo_25_2 (h1.ev rfl)) ?_
  refine Tr.store 1 (cs := [(.slice Ay103_0 (y103).length cy103_0)]) [(iv p0.Unit), (.slice Ap0_0 (p0.Tools).length cp0_0), (.slice Ay103_0 (y103).length cy103_0)] (wn rfl) rfl rfl rfl rfl sz_23 rfl rfl rfl ?_
  refine Tr.nil (Tr.normThen ?_)
  refine Tr.sr ?_
  refine Tr.va rfl (fun _ _ h1 h2 => run_loadN (cs := [(iv p0.Unit), (.slice Ap0_0 (p0.Tools).length cp0_0), (.slice Ay103_0 (y103).length cy103_0)]) ag_25 sz_25 (h1.ev rfl) (CellsAt.take (rdb h2 (vs := [(iv p0.Unit), (.slice Ap0_0 (p0.Tools).length cp0_0), (.slice Ay103_0 (y103).length cy103_0)]) (k := 1) rfl 0) 3) rfl) ?_
  refine Tr.freeze 3 rfl fun w le106 hz105 => ?_
  replace hp0_0 := hp0_0.le le106
  replace hp0_1 := hp0_1.le le106
  replace leB := leB.trans le106
  obtain ⟨y107, hy107, H⟩ := bnd H
  refine Tr.callG [] [] (U := (Option Addr × Nat) × (Option Addr × Nat)) (fun u => (.tuple #[(.agg #[(iv y107.1.Unit), (.slice u.1.1 (y107.1.Tools).length u.1.2), (.slice u.2.1 (y107.1.Steps).length u.2.2)]), (iv y107.2)])) (fun O W u => Sl O W fl_TPlotTool u.1.1 u.1.2 y107.1.Tools ∧ Sl O W fl_TPlotStep u.2.1 u.2.2 y107.1.Steps) (fun u => []) rfl pk_nil (fun _ => rfl) (wn rfl) rfl Tryz.call20 (evl_cons rfl evl_nil) (fun W hW hp hE => F_etchhouseref3_right_ok N (TPlot.mk p0.Unit p0.Tools y103) Ap0_0 cp0_0 (hp0_0.extO (hW.extS hp)) Ay103_0 cy103_0 (hz105.extO (hW.extS hp)) y107 hy107 hE) ?_
  intro w u le108 hu
  obtain ⟨⟨Ay107_0, cy107_0⟩, ⟨Ay107_1, cy107_1⟩⟩ := u
  obtain ⟨gy107_0, gy107_1⟩ := hu
  replace hp0_0 := hp0_0.le le108
  replace hp0_1 := hp0_1.le le108
  replace hz105 := hz105.le le108
  replace leB := leB.trans le108
  have hgy107_0 : Sl w.O w.W fl_TPlotTool Ay107_0 cy107_0 y107.1.Tools := gy107_0 --@phi
  have hgy107_1 : Sl w.O w.W fl_TPlotStep Ay107_1 cy107_1 y107.1.Steps := gy107_1 --@phi
  show Tr _ _ (uf _ 17 (.tuple #[(.agg #[(iv y107.1.Unit), (.slice Ay107_0 (y107.1.Tools).length cy107_0), (.slice Ay107_1 (y107.1.Steps).length cy107_1)]), (iv y107.2)])) (_) _
  refine Tr.va rfl (fun _ _ h1 h2 => run_extract (h1.ev rfl) rfl) ?_
  refine Tr.va rfl (fun _ _ h1 h2 => run_extract (h1.ev rfl) rfl) ?_
  refine Tr.store 2 (cs := [(iv y107.1.Unit), (.slice Ay107_0 (y107.1.Tools).length cy107_0), (.slice Ay107_1 (y107.1.Steps).length cy107_1)]) [(iv y107.1.Unit), (.slice Ay107_0 (y107.1.Tools).length cy107_0), (.slice Ay107_1 (y107.1.Steps).length cy107_1)] (wn rfl) rfl rfl rfl rfl sz_25 rfl rfl rfl ?_
  refine Tr.asg rfl rfl ?_
  refine Tr.nil (Tr.normThen ?_)
  refine Tr.ret ?_
  obtain rfl := Option.some.inj H
  exact Tr.out (m := [(.agg #[(iv y107.1.Unit), (.slice Ay107_0 (y107.1.Tools).length cy107_0), (.slice Ay107_1 (y107.1.Steps).length cy107_1)]), (iv y107.2)]) [2] (res_cell rfl rfl ag_25 sz_25 (res_tmp rfl res_nil)) (fun W hW => ⟨w, ((Ay107_0, cy107_0), (Ay107_1, cy107_1)), leB, rfl, ⟨hgy107_0, hgy107_1⟩, hW.pick (ks := []) (by decide) pk_nil⟩)

theorem F_plot_Short_1_ok {w : Bs} (p0 : Int) (r : Int) (H : F_plot_Short_1 p0 = some r) (hE : HF w w.W E0) : Calls Tryz.prog 22 [(iv p0)].toArray w.W fun e W' => e = .returned (iv r) ∧ HF w W' E0 := by
 unfold F_plot_Short_1 at H
 have leB := Bs.Le.refl w
 refine Tr.enter (n := 4) Tryz.func22 rfl rfl rfl hE ?_
 refine Tr.sr ?_
 refine Tr.asg rfl rfl ?_
 refine Tr.nil (Tr.normThen ?_)
 refine Tr.sr ?_
 refine Tr.mv rfl rfl ?_
 refine Tr.asg rfl rfl ?_
 refine Tr.nil (Tr.normThen ?_)
 refine Tr.ret ?_
 obtain rfl := Option.some.inj H
 exact Tr.out (m := [(iv p0)]) [] (res_tmp rfl res_nil) (fun W hW => ⟨rfl, hW.low leB⟩)

theorem F_disp_44_ok (N : Nat) (x : Nat) {w : Bs} (p0 : Int) (r : Int) (H : F_disp_44 N x p0 = some r) (hE : HF w w.W E0) : Calls Tryz.prog x [(iv p0)].toArray w.W fun e W' => e = .returned (iv r) ∧ HF w W' E0 := by
 unfold F_disp_44 at H
 by_cases hx : x = 22
 ·rw [if_pos hx] at H; subst hx; exact F_plot_Short_1_ok p0 r H hE
 rw [if_neg hx] at H
 by_cases hx : x = 100
 ·rw [if_pos hx] at H; subst hx; exact F_plot_times_1_ok p0 r H hE
 rw [if_neg hx] at H
 cases H
theorem F_disp_44_call (N : Nat) (x : Nat) (p0 : Int) (r : Int) (H : F_disp_44 N x p0 = some r) : ∀ args W, (callFunc x args).run Tryz.prog W = .ok (.enter x args) W := by
 unfold F_disp_44 at H
 by_cases hx : x = 22
 ·subst hx; exact Tryz.call22
 rw [if_neg hx] at H
 by_cases hx : x = 100
 ·subst hx; exact Tryz.call100
 rw [if_neg hx] at H
 cases H

theorem F_plot_changed_1_ok (N : Nat) {w : Bs} (p0 : TPoint) (q0 : Nat) (bq0 : Nat) (hb0 : w.R bq0) (hc0 : CellsAt w.W bq0 0 [(.func (.func q0) #[] #[])]) (r : TPoint) (H : F_plot_changed_1 N p0 q0 = some r) (hE : HF w w.W E0) : Calls Tryz.prog 53 [(.agg #[(iv p0.X), (iv p0.Y)]), (.pointer (some ⟨bq0, 0, none⟩))].toArray w.W fun e W' => e = .returned (.agg #[(iv r.X), (iv r.Y)]) ∧ HF w W' E0 := by
 unfold F_plot_changed_1 at H
 have leB := Bs.Le.refl w
 refine Tr.enter (n := 13) Tryz.func53 rfl rfl rfl hE ?_
 refine Tr.sr ?_
 refine Tr.box 1 (cs := [(iv p0.X), (iv p0.Y)]) (wn rfl) rfl rfl rfl fun b100 => ?_
 refine Tr.alloc 2 (wn rfl) rfl ze_42 fun b101 => ?_
 refine Tr.nil (Tr.normThen ?_)
 refine Tr.seq ?_
 refine Tr.drawTail 7 (by kernel_rfl) (by kernel_rfl) ?_
 refine Tq.va rfl (fun _ _ h1 h2 => run_load1 ag_44 (h1.ev rfl) (rdR hb0 hc0 h2) rfl) ?_
 refine Tq.va rfl (fun _ _ h1 h2 => run_fieldAddr fo_42_0 (h1.ev rfl)) ?_
 refine Tq.va rfl (fun _ _ h1 h2 => run_load1 ag_3 (h1.ev rfl) (rdb h2 (vs := [(iv p0.X), (iv p0.Y)]) (k := 1) rfl 0) rfl) ?_
 obtain ⟨y102, hy102, H⟩ := bnd H
 refine Tq.callF (r := (iv y102)) (wn rfl) rfl rfl (F_disp_44_call N q0 p0.X _ hy102) (evl_cons rfl evl_nil) (fun W hW => F_disp_44_ok N q0 p0.X y102 hy102 (HF.start _)) ?_
 refine Tq.va rfl (fun _ _ h1 h2 => run_load1 ag_44 (h1.ev rfl) (rdR hb0 hc0 h2) rfl) ?_
 refine Tq.va rfl (fun _ _ h1 h2 => run_fieldAddr fo_42_1 (h1.ev rfl)) ?_
 refine Tq.va rfl (fun _ _ h1 h2 => run_load1 ag_3 (h1.ev rfl) (rdb h2 (vs := [(iv p0.X), (iv p0.Y)]) (k := 1) rfl 1) rfl) ?_
 refine Tq.nil ?_
 obtain ⟨y103, hy103, H⟩ := bnd H
 refine Tr.callF (r := (iv y103)) (wn rfl) rfl rfl (F_disp_44_call N q0 p0.Y _ hy103) (evl_cons rfl evl_nil) (fun W hW => F_disp_44_ok N q0 p0.Y y103 hy103 (HF.start _)) ?_
 refine Tr.build (vs := [(0, (iv y102)), (1, (iv y103))]) (cs := [(iv y102), (iv y103)]) (wn rfl) rfl (evs_cons rfl (evs_cons rfl evs_nil)) (by kernel_rfl) ?_
 refine Tr.store 2 (cs := [(iv y102), (iv y103)]) [(iv y102), (iv y103)] (wn rfl) rfl rfl rfl rfl sz_42 rfl rfl rfl ?_
 refine Tr.nil (Tr.normThen ?_)
 refine Tr.ret ?_
 obtain rfl := Option.some.inj H
 exact Tr.out (m := [(.agg #[(iv y102), (iv y103)])]) [2] (res_cell rfl rfl ag_42 sz_42 res_nil) (fun W hW => ⟨rfl, hW.low leB⟩)

theorem F_plot_changed_2_ok (N : Nat) {w : Bs} (p0 : TRect) (q0 : Nat) (bq0 : Nat) (hb0 : w.R bq0) (hc0 : CellsAt w.W bq0 0 [(.func (.func q0) #[] #[])]) (r : TRect) (H : F_plot_changed_2 N p0 q0 = some r) (hE : HF w w.W E0) : Calls Tryz.prog 54 [(.agg #[(iv p0.X0), (iv p0.Y0), (iv p0.X1), (iv p0.Y1)]), (.pointer (some ⟨bq0, 0, none⟩))].toArray w.W fun e W' => e = .returned (.agg #[(iv r.X0), (iv r.Y0), (iv r.X1), (iv r.Y1)]) ∧ HF w W' E0 := by
 unfold F_plot_changed_2 at H
 have leB := Bs.Le.refl w
 refine Tr.enter (n := 21) Tryz.func54 rfl rfl rfl hE ?_
 refine Tr.sr ?_
 refine Tr.box 1 (cs := [(iv p0.X0), (iv p0.Y0), (iv p0.X1), (iv p0.Y1)]) (wn rfl) rfl rfl rfl fun b100 => ?_
 refine Tr.alloc 2 (wn rfl) rfl ze_66 fun b101 => ?_
 refine Tr.nil (Tr.normThen ?_)
 refine Tr.seq ?_
 refine Tr.drawTail 15 (by kernel_rfl) (by kernel_rfl) ?_
 refine Tq.va rfl (fun _ _ h1 h2 => run_load1 ag_44 (h1.ev rfl) (rdR hb0 hc0 h2) rfl) ?_
 refine Tq.va rfl (fun _ _ h1 h2 => run_fieldAddr fo_66_0 (h1.ev rfl)) ?_
 refine Tq.va rfl (fun _ _ h1 h2 => run_load1 ag_3 (h1.ev rfl) (rdb h2 (vs := [(iv p0.X0), (iv p0.Y0), (iv p0.X1), (iv p0.Y1)]) (k := 1) rfl 0) rfl) ?_
 obtain ⟨y102, hy102, H⟩ := bnd H
 refine Tq.callF (r := (iv y102)) (wn rfl) rfl rfl (F_disp_44_call N q0 p0.X0 _ hy102) (evl_cons rfl evl_nil) (fun W hW => F_disp_44_ok N q0 p0.X0 y102 hy102 (HF.start _)) ?_
 refine Tq.va rfl (fun _ _ h1 h2 => run_load1 ag_44 (h1.ev rfl) (rdR hb0 hc0 h2) rfl) ?_
 refine Tq.va rfl (fun _ _ h1 h2 => run_fieldAddr fo_66_1 (h1.ev rfl)) ?_
 refine Tq.va rfl (fun _ _ h1 h2 => run_load1 ag_3 (h1.ev rfl) (rdb h2 (vs := [(iv p0.X0), (iv p0.Y0), (iv p0.X1), (iv p0.Y1)]) (k := 1) rfl 1) rfl) ?_
 obtain ⟨y103, hy103, H⟩ := bnd H
 refine Tq.callF (r := (iv y103)) (wn rfl) rfl rfl (F_disp_44_call N q0 p0.Y0 _ hy103) (evl_cons rfl evl_nil) (fun W hW => F_disp_44_ok N q0 p0.Y0 y103 hy103 (HF.start _)) ?_
 refine Tq.va rfl (fun _ _ h1 h2 => run_load1 ag_44 (h1.ev rfl) (rdR hb0 hc0 h2) rfl) ?_
 refine Tq.va rfl (fun _ _ h1 h2 => run_fieldAddr fo_66_2 (h1.ev rfl)) ?_
 refine Tq.va rfl (fun _ _ h1 h2 => run_load1 ag_3 (h1.ev rfl) (rdb h2 (vs := [(iv p0.X0), (iv p0.Y0), (iv p0.X1), (iv p0.Y1)]) (k := 1) rfl 2) rfl) ?_
 obtain ⟨y104, hy104, H⟩ := bnd H
 refine Tq.callF (r := (iv y104)) (wn rfl) rfl rfl (F_disp_44_call N q0 p0.X1 _ hy104) (evl_cons rfl evl_nil) (fun W hW => F_disp_44_ok N q0 p0.X1 y104 hy104 (HF.start _)) ?_
 refine Tq.va rfl (fun _ _ h1 h2 => run_load1 ag_44 (h1.ev rfl) (rdR hb0 hc0 h2) rfl) ?_
 refine Tq.va rfl (fun _ _ h1 h2 => run_fieldAddr fo_66_3 (h1.ev rfl)) ?_
 refine Tq.va rfl (fun _ _ h1 h2 => run_load1 ag_3 (h1.ev rfl) (rdb h2 (vs := [(iv p0.X0), (iv p0.Y0), (iv p0.X1), (iv p0.Y1)]) (k := 1) rfl 3) rfl) ?_
 refine Tq.nil ?_
 obtain ⟨y105, hy105, H⟩ := bnd H
 refine Tr.callF (r := (iv y105)) (wn rfl) rfl rfl (F_disp_44_call N q0 p0.Y1 _ hy105) (evl_cons rfl evl_nil) (fun W hW => F_disp_44_ok N q0 p0.Y1 y105 hy105 (HF.start _)) ?_
 refine Tr.build (vs := [(0, (iv y102)), (1, (iv y103)), (2, (iv y104)), (3, (iv y105))]) (cs := [(iv y102), (iv y103), (iv y104), (iv y105)]) (wn rfl) rfl (evs_cons rfl (evs_cons rfl (evs_cons rfl (evs_cons rfl evs_nil)))) (by kernel_rfl) ?_
 refine Tr.store 2 (cs := [(iv y102), (iv y103), (iv y104), (iv y105)]) [(iv y102), (iv y103), (iv y104), (iv y105)] (wn rfl) rfl rfl rfl rfl sz_66 rfl rfl rfl ?_
 refine Tr.nil (Tr.normThen ?_)
 refine Tr.ret ?_
 obtain rfl := Option.some.inj H
 exact Tr.out (m := [(.agg #[(iv y102), (iv y103), (iv y104), (iv y105)])]) [2] (res_cell rfl rfl ag_66 sz_66 res_nil) (fun W hW => ⟨rfl, hW.low leB⟩)

theorem F_slices_Clone_PlotStep_ok {w : Bs} (p0 : (List TPlotStep)) (Ap0_0 : Option Addr) (cp0_0 : Nat) (hp0_0 : Sl w.O w.W fl_TPlotStep Ap0_0 cp0_0 p0) (r : (List TPlotStep)) (H : F_slices_Clone_PlotStep p0 = some r) (hE : HF w w.W (LEn [emp])) : Calls Tryz.prog 85 [(.slice Ap0_0 (p0).length cp0_0)].toArray w.W fun e W' => ∃ (w' : Bs) (u : (Option Addr × Nat)), w.Le w' ∧ e = .returned (.slice u.1 (r).length u.2) ∧ (SlF u.1 (r).length u.2) ∧ HF w' W' (LEn [ow u.1 u.2 49 fl_TPlotStep r]) := by
 unfold F_slices_Clone_PlotStep at H
 have leB := Bs.Le.refl w
 refine Tr.enter (n := 8) Tryz.func85 rfl rfl rfl hE ?_
 refine Tr.sr ?_
 refine Tr.asg rfl rfl ?_
 refine Tr.nilOwn 1 49 fl_TPlotStep ?_
 show Tr _ _ (uf _ 2 (.slice none (([] : List TPlotStep)).length 0)) _ _
 refine Tr.nil (Tr.normThen ?_)
 refine Tr.seq ?_
 refine Tr.sr ?_
 refine Tr.mv rfl rfl ?_
 refine Tr.va rfl (fun _ _ h1 h2 => run_eqlNil un_23 (h1.ev rfl) (h1.ev rfl)) ?_
 refine Tr.nil (Tr.normThen ?_)
 cases Ap0_0 with
 | none =>
  have hl0 := slf_none hp0_0.form
  replace H : (some ([] : List TPlotStep)) = some r := by simpa [apd, hl0] using H
  refine Tr.condT rfl rfl ?_
  refine Tr.sr ?_
  refine Tr.asg rfl rfl ?_
  refine Tr.nilOwn 2 49 fl_TPlotStep ?_
  show Tr _ _ (uf _ 2 (.slice none (([] : List TPlotStep)).length 0)) _ _
  refine Tr.nil (Tr.normThen ?_)
  refine Tr.ret (Tr.retThen ?_)
  obtain rfl := Option.some.inj H
  exact Tr.out (m := [(.slice none (([] : List TPlotStep)).length 0)]) [] (res_tmp rfl res_nil) (fun W hW => ⟨w, (none, 0), leB, rfl, slf_nil, hW.pick (ks := [2]) (by decide) (pk_cons rfl pk_nil)⟩)
 | some a102 =>
  refine Tr.condF rfl rfl ?_
  refine Tr.skip (Tr.normThen ?_)
  refine Tr.sr ?_
  refine Tr.buildSlice 3 (e := 49) (vs := []) (cs := []) (wn rfl) rfl evs_nil (by kernel_rfl) fun b100 => ?_
  refine Tr.mv rfl rfl ?_
  refine Tr.own 3 fl_TPlotStep ([] : List TPlotStep) (css := []) rfl .nil rfl (by decide) (lit_max rfl) ?_
  obtain ⟨l101, hl101, H⟩ := bnd H
  refine Tr.appendS 3 (t := fl_TPlotStep) (l := ([] : List TPlotStep)) (l2 := p0) (wn rfl) rfl rfl rfl rfl (apO hp0_0) un_23 sz_49 zl_49 (by decide) by_49 rfl hl101 fun Al101 cl101 hAl101 => ?_
  refine Tr.asg rfl rfl ?_
  refine Tr.nil (Tr.normThen ?_)
  refine Tr.ret ?_
  obtain rfl := Option.some.inj H
  exact Tr.out (m := [(.slice Al101 (l101).length cl101)]) [] (res_tmp rfl res_nil) (fun W hW => ⟨w, (Al101, cl101), leB, rfl, hAl101, hW.pick (ks := [3]) (by decide) (pk_cons rfl pk_nil)⟩)

end Go.Proofs.YtocjndhpgjccoaaGreatDoor
