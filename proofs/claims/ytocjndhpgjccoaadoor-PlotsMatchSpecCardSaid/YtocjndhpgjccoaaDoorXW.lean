/- The walks: each function computes its plain function. -/
import Derived.Test.YtocjndhpgjccoaaDoorXWb
namespace Go.Proofs.YtocjndhpgjccoaaDoor
open Go.RowKit
set_option maxRecDepth 100000
set_option maxHeartbeats 1000000
theorem F_etchhouselaw3_PlotsMatchSpec_ok (N : Nat) {w : Bs} (hT : Tab Tryd.prog w) (p0 : TPlot) (Ap0_0 : Option Addr) (cp0_0 : Nat) (hp0_0 : Sl w.R w.W fl_TPlotTool Ap0_0 cp0_0 p0.Tools) (Ap0_1 : Option Addr) (cp0_1 : Nat) (hp0_1 : Sl w.R w.W fl_TPlotStep Ap0_1 cp0_1 p0.Steps) (r : Bool) (H : F_etchhouselaw3_PlotsMatchSpec N p0 = some r) (hE : HF w w.W E0) : Calls Tryd.prog 3 [(.agg #[(.int .i64 p0.Unit), (.slice Ap0_0 (p0.Tools).length cp0_0), (.slice Ap0_1 (p0.Steps).length cp0_1)])].toArray w.W fun e W' => e = .returned (.bool r) ∧ HF w W' E0 := by
 unfold F_etchhouselaw3_PlotsMatchSpec at H
 have leB := Bs.Le.refl w
 refine Tr.enter (n := 35) Tryd.func3 rfl rfl rfl hE ?_
 refine Tr.sr ?_
 refine Tr.box 1 (cs := [(.int .i64 p0.Unit), (.slice Ap0_0 (p0.Tools).length cp0_0), (.slice Ap0_1 (p0.Steps).length cp0_1)]) (wn rfl) rfl rfl rfl fun b100 => ?_
 refine Tr.asg rfl rfl ?_
 refine Tr.nil (Tr.normThen ?_)
 refine Tr.sr ?_
 refine Tr.va rfl (fun _ _ h1 h2 => run_loadN (cs := [(.int .i64 p0.Unit), (.slice Ap0_0 (p0.Tools).length cp0_0), (.slice Ap0_1 (p0.Steps).length cp0_1)]) ag_25 sz_25 (h1.ev rfl) (CellsAt.take (rdb h2 (vs := [(.int .i64 p0.Unit), (.slice Ap0_0 (p0.Tools).length cp0_0), (.slice Ap0_1 (p0.Steps).length cp0_1)]) (k := 1) rfl 0) 3) rfl) ?_
 obtain ⟨y101, hy101, H⟩ := bnd H
 refine Tr.call0 (r := (.tuple #[(.string y101.1), (.int .i64 y101.2)])) (wn rfl) rfl Tryd.call6 (evl_cons rfl evl_nil) (fun W hW => F_plot_Text_ok N (hT.ext hW.extAll) p0 Ap0_0 cp0_0 (hp0_0.ext hW.extAll) Ap0_1 cp0_1 (hp0_1.ext hW.extAll) y101 hy101 (HF.start _)) ?_
 refine Tr.mv rfl rfl ?_
 refine Tr.va rfl (fun _ _ h1 h2 => run_extract (h1.ev rfl) rfl) ?_
 refine Tr.va rfl (fun _ _ h1 h2 => run_extract (h1.ev rfl) rfl) ?_
 refine Tr.asg rfl rfl ?_
 refine Tr.asg rfl rfl ?_
 refine Tr.nil (Tr.normThen ?_)
 refine Tr.sr ?_
 refine Tr.va rfl (fun _ _ h1 h2 => run_loadN (cs := [(.int .i64 p0.Unit), (.slice Ap0_0 (p0.Tools).length cp0_0), (.slice Ap0_1 (p0.Steps).length cp0_1)]) ag_25 sz_25 (h1.ev rfl) (CellsAt.take (rdb h2 (vs := [(.int .i64 p0.Unit), (.slice Ap0_0 (p0.Tools).length cp0_0), (.slice Ap0_1 (p0.Steps).length cp0_1)]) (k := 1) rfl 0) 3) rfl) ?_
 obtain ⟨y102, hy102, H⟩ := bnd H
 refine Tr.call0 (r := (.tuple #[(.string y102.1), (.int .i64 y102.2)])) (wn rfl) rfl Tryd.call7 (evl_cons rfl evl_nil) (fun W hW => F_etchhouseref3_Text_ok N (hT.ext hW.extAll) p0 Ap0_0 cp0_0 (hp0_0.ext hW.extAll) Ap0_1 cp0_1 (hp0_1.ext hW.extAll) y102 hy102 (HF.start _)) ?_
 refine Tr.mv rfl rfl ?_
 refine Tr.va rfl (fun _ _ h1 h2 => run_extract (h1.ev rfl) rfl) ?_
 refine Tr.va rfl (fun _ _ h1 h2 => run_extract (h1.ev rfl) rfl) ?_
 refine Tr.asg rfl rfl ?_
 refine Tr.asg rfl rfl ?_
 refine Tr.nil (Tr.normThen ?_)
 refine Tr.seq ?_
 refine Tr.draw (by kernel_rfl) (by kernel_rfl) ?_
 refine Tq.va rfl (fun _ _ h1 h2 => run_loadN (cs := [(.int .i64 p0.Unit), (.slice Ap0_0 (p0.Tools).length cp0_0), (.slice Ap0_1 (p0.Steps).length cp0_1)]) ag_25 sz_25 (h1.ev rfl) (CellsAt.take (rdb h2 (vs := [(.int .i64 p0.Unit), (.slice Ap0_0 (p0.Tools).length cp0_0), (.slice Ap0_1 (p0.Steps).length cp0_1)]) (k := 1) rfl 0) 3) rfl) ?_
 obtain ⟨y103, hy103, H⟩ := bnd H
 refine Tq.call0 (r := (.int .i64 y103)) (wn rfl) rfl Tryd.call8 (evl_cons rfl evl_nil) (fun W hW => F_plot_CheckPlot_ok N p0 Ap0_0 cp0_0 (hp0_0.ext hW.extAll) Ap0_1 cp0_1 (hp0_1.ext hW.extAll) y103 hy103 (HF.start _)) ?_
 refine Tq.va rfl (fun _ _ h1 h2 => run_loadN (cs := [(.int .i64 p0.Unit), (.slice Ap0_0 (p0.Tools).length cp0_0), (.slice Ap0_1 (p0.Steps).length cp0_1)]) ag_25 sz_25 (h1.ev rfl) (CellsAt.take (rdb h2 (vs := [(.int .i64 p0.Unit), (.slice Ap0_0 (p0.Tools).length cp0_0), (.slice Ap0_1 (p0.Steps).length cp0_1)]) (k := 1) rfl 0) 3) rfl) ?_
 obtain ⟨y104, hy104, H⟩ := bnd H
 refine Tq.call0 (r := (.int .i64 y104)) (wn rfl) rfl Tryd.call9 (evl_cons rfl evl_nil) (fun W hW => F_etchhouseref3_CheckPlot_ok N p0 Ap0_0 cp0_0 (hp0_0.ext hW.extAll) Ap0_1 cp0_1 (hp0_1.ext hW.extAll) y104 hy104 (HF.start _)) ?_
 refine Tq.va rfl (fun _ _ h1 h2 => run_eql (h1.ev rfl) (h1.ev rfl)) ?_
 refine Tq.mv rfl rfl ?_
 refine Tq.mid 4 [(4, (.int .i64 y101.2)), (6, (.int .i64 y102.2)), (26, (.bool ((y103 == y104) && (sEq y101.1 y102.1))))] ?_ ?_
 ·cases hg107 : (y103 == y104)
  ·refine Tq.pass rfl rfl rfl rfl rfl (by decide) ?_
   refine Tq.pass rfl rfl rfl rfl rfl (by decide) ?_
   refine Tq.pass rfl rfl rfl rfl rfl (by decide) ?_
   refine Tq.va rfl (fun _ _ h1 h2 => run_pickF (h1.ev rfl) (h1.ev rfl)) ?_
   exact Tq.fin (.cons rfl (.cons rfl (.cons rfl .nil)))
  ·refine Tq.val (wg rfl rfl rfl) rfl (fun _ _ h1 h2 => run_move (h1.ev rfl)) ?_
   refine Tq.val (wg rfl rfl rfl) rfl (fun _ _ h1 h2 => run_move (h1.ev rfl)) ?_
   refine Tq.val (wg rfl rfl rfl) rfl (fun _ _ h1 h2 => run_eqlS (h1.ev rfl) (h1.ev rfl)) ?_
   refine Tq.va rfl (fun _ _ h1 h2 => run_pickT (h1.ev rfl) (h1.ev rfl)) ?_
   exact Tq.fin (.cons rfl (.cons rfl (.cons rfl .nil)))
 ·refine Tq.mv rfl rfl ?_
  refine Tq.mid 4 [(31, (.bool (((y103 == y104) && (sEq y101.1 y102.1)) && (y101.2 == y102.2))))] ?_ ?_
  ·cases hg107 : ((y103 == y104) && (sEq y101.1 y102.1))
   ·refine Tq.pass rfl rfl rfl rfl rfl (by decide) ?_
    refine Tq.pass rfl rfl rfl rfl rfl (by decide) ?_
    refine Tq.pass rfl rfl rfl rfl rfl (by decide) ?_
    refine Tq.va rfl (fun _ _ h1 h2 => run_pickF (h1.ev rfl) (h1.ev rfl)) ?_
    exact Tq.fin (.cons rfl .nil)
   ·refine Tq.val (wg rfl rfl rfl) rfl (fun _ _ h1 h2 => run_move (h1.ev rfl)) ?_
    refine Tq.val (wg rfl rfl rfl) rfl (fun _ _ h1 h2 => run_move (h1.ev rfl)) ?_
    refine Tq.val (wg rfl rfl rfl) rfl (fun _ _ h1 h2 => run_eql (h1.ev rfl) (h1.ev rfl)) ?_
    refine Tq.va rfl (fun _ _ h1 h2 => run_pickT (h1.ev rfl) (h1.ev rfl)) ?_
    exact Tq.fin (.cons rfl .nil)
  ·refine Tq.mv rfl rfl ?_
   obtain ⟨g106, hg106, H⟩ := bnd H
   refine Tq.mid 2 [(34, (.bool g106))] ?_ ?_
   ·cases hg107 : (((y103 == y104) && (sEq y101.1 y102.1)) && (y101.2 == y102.2))
    ·rw [hg107] at hg106
     rw [if_neg (by decide)] at hg106
     have H := hg106
     obtain rfl := Option.some.inj H
     refine Tq.pass rfl rfl rfl rfl rfl (by decide) ?_
     refine Tq.va rfl (fun _ _ h1 h2 => run_pickF (h1.ev rfl) (h1.ev rfl)) ?_
     exact Tq.fin (.cons rfl .nil)
    ·rw [hg107] at hg106
     rw [if_pos rfl] at hg106
     have H := hg106
     obtain ⟨y107, hy107, H⟩ := bnd H
     refine Tq.call0 (r := (.bool y107)) (wg rfl rfl rfl) rfl Tryd.call10 evl_nil (fun W hW => F_etchhouselaw3_awake_ok N (hT.ext hW.extAll) y107 hy107 (HF.start _)) ?_
     refine Tq.va rfl (fun _ _ h1 h2 => run_pickT (h1.ev rfl) (h1.ev rfl)) ?_
     obtain rfl := Option.some.inj H
     exact Tq.fin (.cons rfl .nil)
   ·refine Tq.asg rfl rfl ?_
    refine Tq.nil (Tr.normThen ?_)
    refine Tr.ret ?_
    obtain rfl := Option.some.inj H
    exact Tr.out (m := [(.bool g106)]) [] (res_tmp rfl res_nil) (fun W hW => ⟨rfl, hW.low leB⟩)

end Go.Proofs.YtocjndhpgjccoaaDoor
