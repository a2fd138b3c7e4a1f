/- The walks: each function computes its plain function. -/
import Derived.Test.YtocjndhpgjccoaaGreatDoorXWd
namespace Go.Proofs.YtocjndhpgjccoaaGreatDoor
open Go.RowKit
set_option maxRecDepth 100000
set_option maxHeartbeats 1000000
theorem F_etchhouselaw3_PlotsShortMatchSpec_ok (N : Nat) {w : Bs} (p0 : TPlot) (Ap0_0 : Option Addr) (cp0_0 : Nat) (hp0_0 : Sl w.O w.W fl_TPlotTool Ap0_0 cp0_0 p0.Tools) (Ap0_1 : Option Addr) (cp0_1 : Nat) (hp0_1 : Sl w.O w.W fl_TPlotStep Ap0_1 cp0_1 p0.Steps) (r : Bool) (H : F_etchhouselaw3_PlotsShortMatchSpec N p0 = some r) (hE : HF w w.W E0) : Calls Tryz.prog 3 [(.agg #[(iv p0.Unit), (.slice Ap0_0 (p0.Tools).length cp0_0), (.slice Ap0_1 (p0.Steps).length cp0_1)])].toArray w.W fun e W' => e = .returned (.bool r) ∧ HF w W' E0 := by
 unfold F_etchhouselaw3_PlotsShortMatchSpec at H
 have leB := Bs.Le.refl w
 refine Tr.enter (n := 52) Tryz.func3 rfl rfl rfl hE ?_
 refine Tr.sr ?_
 refine Tr.box 1 (cs := [(iv p0.Unit), (.slice Ap0_0 (p0.Tools).length cp0_0), (.slice Ap0_1 (p0.Steps).length cp0_1)]) (wn rfl) rfl rfl rfl fun b100 => ?_
 refine Tr.asg rfl rfl ?_
 refine Tr.nil (Tr.normThen ?_)
 refine Tr.sr ?_
 refine Tr.va rfl (fun _ _ h1 h2 => run_loadN (cs := [(iv p0.Unit), (.slice Ap0_0 (p0.Tools).length cp0_0), (.slice Ap0_1 (p0.Steps).length cp0_1)]) ag_25 sz_25 (h1.ev rfl) (CellsAt.take (rdb h2 (vs := [(iv p0.Unit), (.slice Ap0_0 (p0.Tools).length cp0_0), (.slice Ap0_1 (p0.Steps).length cp0_1)]) (k := 1) rfl 0) 3) rfl) ?_
 obtain ⟨y101, hy101, H⟩ := bnd H
 refine Tr.callG [] [] (U := (Option Addr × Nat) × (Option Addr × Nat)) (fun u => (.tuple #[(.agg #[(iv y101.1.Unit), (.slice u.1.1 (y101.1.Tools).length u.1.2), (.slice u.2.1 (y101.1.Steps).length u.2.2)]), (iv y101.2)])) (fun O W u => Sl O W fl_TPlotTool u.1.1 u.1.2 y101.1.Tools ∧ Sl O W fl_TPlotStep u.2.1 u.2.2 y101.1.Steps) (fun u => []) rfl pk_nil (fun _ => rfl) (wn rfl) rfl Tryz.call6 (evl_cons rfl evl_nil) (fun W hW hp hE => F_plot_Flat_ok N p0 Ap0_0 cp0_0 (hp0_0.extO (hW.extS hp)) Ap0_1 cp0_1 (hp0_1.extO (hW.extS hp)) y101 hy101 hE) ?_
 intro w u le102 hu
 obtain ⟨⟨Ay101_0, cy101_0⟩, ⟨Ay101_1, cy101_1⟩⟩ := u
 obtain ⟨gy101_0, gy101_1⟩ := hu
 replace hp0_0 := hp0_0.le le102
 replace hp0_1 := hp0_1.le le102
 replace leB := leB.trans le102
 have hgy101_0 : Sl w.O w.W fl_TPlotTool Ay101_0 cy101_0 y101.1.Tools := gy101_0 --@phi
 have hgy101_1 : Sl w.O w.W fl_TPlotStep Ay101_1 cy101_1 y101.1.Steps := gy101_1 --@phi
 show Tr _ _ (uf _ 13 (.tuple #[(.agg #[(iv y101.1.Unit), (.slice Ay101_0 (y101.1.Tools).length cy101_0), (.slice Ay101_1 (y101.1.Steps).length cy101_1)]), (iv y101.2)])) (_) _
 refine Tr.mv rfl rfl ?_
 refine Tr.va rfl (fun _ _ h1 h2 => run_extract (h1.ev rfl) rfl) ?_
 refine Tr.va rfl (fun _ _ h1 h2 => run_extract (h1.ev rfl) rfl) ?_
 refine Tr.alloc 2 (wn rfl) rfl ze_25 fun b103 => ?_
 refine Tr.store 2 (cs := [(iv y101.1.Unit), (.slice Ay101_0 (y101.1.Tools).length cy101_0), (.slice Ay101_1 (y101.1.Steps).length cy101_1)]) [(iv y101.1.Unit), (.slice Ay101_0 (y101.1.Tools).length cy101_0), (.slice Ay101_1 (y101.1.Steps).length cy101_1)] (wn rfl) rfl rfl rfl rfl sz_25 rfl rfl rfl ?_
 refine Tr.asg rfl rfl ?_
 refine Tr.nil (Tr.normThen ?_)
 refine Tr.sr ?_
 refine Tr.va rfl (fun _ _ h1 h2 => run_loadN (cs := [(iv p0.Unit), (.slice Ap0_0 (p0.Tools).length cp0_0), (.slice Ap0_1 (p0.Steps).length cp0_1)]) ag_25 sz_25 (h1.ev rfl) (CellsAt.take (rdb h2 (vs := [(iv p0.Unit), (.slice Ap0_0 (p0.Tools).length cp0_0), (.slice Ap0_1 (p0.Steps).length cp0_1)]) (k := 1) rfl 0) 3) rfl) ?_
 obtain ⟨y104, hy104, H⟩ := bnd H
 refine Tr.callG [] [] (U := (Option Addr × Nat) × (Option Addr × Nat)) (fun u => (.tuple #[(.agg #[(iv y104.1.Unit), (.slice u.1.1 (y104.1.Tools).length u.1.2), (.slice u.2.1 (y104.1.Steps).length u.2.2)]), (iv y104.2)])) (fun O W u => Sl O W fl_TPlotTool u.1.1 u.1.2 y104.1.Tools ∧ Sl O W fl_TPlotStep u.2.1 u.2.2 y104.1.Steps) (fun u => []) rfl pk_nil (fun _ => rfl) (wn rfl) rfl Tryz.call7 (evl_cons rfl evl_nil) (fun W hW hp hE => F_etchhouseref3_Flat_ok N p0 Ap0_0 cp0_0 (hp0_0.extO (hW.extS hp)) Ap0_1 cp0_1 (hp0_1.extO (hW.extS hp)) y104 hy104 hE) ?_
 intro w u le105 hu
 obtain ⟨⟨Ay104_0, cy104_0⟩, ⟨Ay104_1, cy104_1⟩⟩ := u
 obtain ⟨gy104_0, gy104_1⟩ := hu
 replace hp0_0 := hp0_0.le le105
 replace hp0_1 := hp0_1.le le105
 replace hgy101_0 := hgy101_0.le le105
 replace hgy101_1 := hgy101_1.le le105
 replace leB := leB.trans le105
 have hgy104_0 : Sl w.O w.W fl_TPlotTool Ay104_0 cy104_0 y104.1.Tools := gy104_0 --@phi
 have hgy104_1 : Sl w.O w.W fl_TPlotStep Ay104_1 cy104_1 y104.1.Steps := gy104_1 --@phi
 show Tr _ _ (uf _ 18 (.tuple #[(.agg #[(iv y104.1.Unit), (.slice Ay104_0 (y104.1.Tools).length cy104_0), (.slice Ay104_1 (y104.1.Steps).length cy104_1)]), (iv y104.2)])) (_) _
 refine Tr.mv rfl rfl ?_
 refine Tr.va rfl (fun _ _ h1 h2 => run_extract (h1.ev rfl) rfl) ?_
 refine Tr.va rfl (fun _ _ h1 h2 => run_extract (h1.ev rfl) rfl) ?_
 refine Tr.alloc 3 (wn rfl) rfl ze_25 fun b106 => ?_
 refine Tr.store 3 (cs := [(iv y104.1.Unit), (.slice Ay104_0 (y104.1.Tools).length cy104_0), (.slice Ay104_1 (y104.1.Steps).length cy104_1)]) [(iv y104.1.Unit), (.slice Ay104_0 (y104.1.Tools).length cy104_0), (.slice Ay104_1 (y104.1.Steps).length cy104_1)] (wn rfl) rfl rfl rfl rfl sz_25 rfl rfl rfl ?_
 refine Tr.asg rfl rfl ?_
 refine Tr.nil (Tr.normThen ?_)
 refine Tr.sr ?_
 refine Tr.va rfl (fun _ _ h1 h2 => run_loadN (cs := [(iv p0.Unit), (.slice Ap0_0 (p0.Tools).length cp0_0), (.slice Ap0_1 (p0.Steps).length cp0_1)]) ag_25 sz_25 (h1.ev rfl) (CellsAt.take (rdb h2 (vs := [(iv p0.Unit), (.slice Ap0_0 (p0.Tools).length cp0_0), (.slice Ap0_1 (p0.Steps).length cp0_1)]) (k := 1) rfl 0) 3) rfl) ?_
 obtain ⟨y107, hy107, H⟩ := bnd H
 refine Tr.callG [4, 5] [emp, emp] (U := (Option Addr × Nat) × (Option Addr × Nat)) (fun u => (.tuple #[(.agg #[(iv y107.1.Unit), (.slice u.1.1 (y107.1.Tools).length u.1.2), (.slice u.2.1 (y107.1.Steps).length u.2.2)]), (iv y107.2)])) (fun O W u => SlF u.1.1 (y107.1.Tools).length u.1.2 ∧ SlF u.2.1 (y107.1.Steps).length u.2.2) (fun u => [ow u.1.1 u.1.2 54 fl_TPlotTool y107.1.Tools, ow u.2.1 u.2.2 49 fl_TPlotStep y107.1.Steps]) rfl (pk_cons rfl (pk_cons rfl pk_nil)) (fun _ => rfl) (wn rfl) rfl Tryz.call8 (evl_cons rfl evl_nil) (fun W hW hp hE => F_plot_Short_ok N p0 Ap0_0 cp0_0 (hp0_0.extO (hW.extS hp)) Ap0_1 cp0_1 (hp0_1.extO (hW.extS hp)) y107 hy107 hE) ?_
 intro w u le108 hu
 obtain ⟨⟨Ay107_0, cy107_0⟩, ⟨Ay107_1, cy107_1⟩⟩ := u
 obtain ⟨gy107_0, gy107_1⟩ := hu
 replace hp0_0 := hp0_0.le le108
 replace hp0_1 := hp0_1.le le108
 replace hgy101_0 := hgy101_0.le le108
 replace hgy101_1 := hgy101_1.le le108
 replace hgy104_0 := hgy104_0.le le108
 replace hgy104_1 := hgy104_1.le le108
 replace leB := leB.trans le108
 have hgy107_0 : SlF Ay107_0 (y107.1.Tools).length cy107_0 := gy107_0 --@phi
 have hgy107_1 : SlF Ay107_1 (y107.1.Steps).length cy107_1 := gy107_1 --@phi
 show Tr _ _ (uf _ 23 (.tuple #[(.agg #[(iv y107.1.Unit), (.slice Ay107_0 (y107.1.Tools).length cy107_0), (.slice Ay107_1 (y107.1.Steps).length cy107_1)]), (iv y107.2)])) (up (up _ 5 (ow Ay107_1 cy107_1 49 fl_TPlotStep y107.1.Steps)) 4 (ow Ay107_0 cy107_0 54 fl_TPlotTool y107.1.Tools)) _
 refine Tr.mv rfl rfl ?_
 refine Tr.va rfl (fun _ _ h1 h2 => run_extract (h1.ev rfl) rfl) ?_
 refine Tr.va rfl (fun _ _ h1 h2 => run_extract (h1.ev rfl) rfl) ?_
 refine Tr.alloc 6 (wn rfl) rfl ze_25 fun b109 => ?_
 refine Tr.store 6 (cs := [(iv y107.1.Unit), (.slice Ay107_0 (y107.1.Tools).length cy107_0), (.slice Ay107_1 (y107.1.Steps).length cy107_1)]) [(iv y107.1.Unit), (.slice Ay107_0 (y107.1.Tools).length cy107_0), (.slice Ay107_1 (y107.1.Steps).length cy107_1)] (wn rfl) rfl rfl rfl rfl sz_25 rfl rfl rfl ?_
 refine Tr.asg rfl rfl ?_
 refine Tr.nil (Tr.normThen ?_)
 refine Tr.sr ?_
 refine Tr.va rfl (fun _ _ h1 h2 => run_loadN (cs := [(iv p0.Unit), (.slice Ap0_0 (p0.Tools).length cp0_0), (.slice Ap0_1 (p0.Steps).length cp0_1)]) ag_25 sz_25 (h1.ev rfl) (CellsAt.take (rdb h2 (vs := [(iv p0.Unit), (.slice Ap0_0 (p0.Tools).length cp0_0), (.slice Ap0_1 (p0.Steps).length cp0_1)]) (k := 1) rfl 0) 3) rfl) ?_
 obtain ⟨y110, hy110, H⟩ := bnd H
 refine Tr.callG [] [] (U := (Option Addr × Nat) × (Option Addr × Nat)) (fun u => (.tuple #[(.agg #[(iv y110.1.Unit), (.slice u.1.1 (y110.1.Tools).length u.1.2), (.slice u.2.1 (y110.1.Steps).length u.2.2)]), (iv y110.2)])) (fun O W u => Sl O W fl_TPlotTool u.1.1 u.1.2 y110.1.Tools ∧ Sl O W fl_TPlotStep u.2.1 u.2.2 y110.1.Steps) (fun u => []) rfl pk_nil (fun _ => rfl) (wn rfl) rfl Tryz.call9 (evl_cons rfl evl_nil) (fun W hW hp hE => F_etchhouseref3_Short_ok N p0 Ap0_0 cp0_0 (hp0_0.extO (hW.extS hp)) Ap0_1 cp0_1 (hp0_1.extO (hW.extS hp)) y110 hy110 hE) ?_
 intro w u le111 hu
 obtain ⟨⟨Ay110_0, cy110_0⟩, ⟨Ay110_1, cy110_1⟩⟩ := u
 obtain ⟨gy110_0, gy110_1⟩ := hu
 replace hp0_0 := hp0_0.le le111
 replace hp0_1 := hp0_1.le le111
 replace hgy101_0 := hgy101_0.le le111
 replace hgy101_1 := hgy101_1.le le111
 replace hgy104_0 := hgy104_0.le le111
 replace hgy104_1 := hgy104_1.le le111
 replace leB := leB.trans le111
 have hgy110_0 : Sl w.O w.W fl_TPlotTool Ay110_0 cy110_0 y110.1.Tools := gy110_0 --@phi
 have hgy110_1 : Sl w.O w.W fl_TPlotStep Ay110_1 cy110_1 y110.1.Steps := gy110_1 --@phi
 show Tr _ _ (uf _ 28 (.tuple #[(.agg #[(iv y110.1.Unit), (.slice Ay110_0 (y110.1.Tools).length cy110_0), (.slice Ay110_1 (y110.1.Steps).length cy110_1)]), (iv y110.2)])) (_) _
 refine Tr.mv rfl rfl ?_
 refine Tr.va rfl (fun _ _ h1 h2 => run_extract (h1.ev rfl) rfl) ?_
 refine Tr.va rfl (fun _ _ h1 h2 => run_extract (h1.ev rfl) rfl) ?_
 refine Tr.alloc 7 (wn rfl) rfl ze_25 fun b112 => ?_
 refine Tr.store 7 (cs := [(iv y110.1.Unit), (.slice Ay110_0 (y110.1.Tools).length cy110_0), (.slice Ay110_1 (y110.1.Steps).length cy110_1)]) [(iv y110.1.Unit), (.slice Ay110_0 (y110.1.Tools).length cy110_0), (.slice Ay110_1 (y110.1.Steps).length cy110_1)] (wn rfl) rfl rfl rfl rfl sz_25 rfl rfl rfl ?_
 refine Tr.asg rfl rfl ?_
 refine Tr.nil (Tr.normThen ?_)
 refine Tr.sr ?_
 refine Tr.va rfl (fun _ _ h1 h2 => run_loadN (cs := [(iv y101.1.Unit), (.slice Ay101_0 (y101.1.Tools).length cy101_0), (.slice Ay101_1 (y101.1.Steps).length cy101_1)]) ag_25 sz_25 (h1.ev rfl) (CellsAt.take (rdb h2 (vs := [(iv y101.1.Unit), (.slice Ay101_0 (y101.1.Tools).length cy101_0), (.slice Ay101_1 (y101.1.Steps).length cy101_1)]) (k := 2) rfl 0) 3) rfl) ?_
 refine Tr.va rfl (fun _ _ h1 h2 => run_loadN (cs := [(iv y104.1.Unit), (.slice Ay104_0 (y104.1.Tools).length cy104_0), (.slice Ay104_1 (y104.1.Steps).length cy104_1)]) ag_25 sz_25 (h1.ev rfl) (CellsAt.take (rdb h2 (vs := [(iv y104.1.Unit), (.slice Ay104_0 (y104.1.Tools).length cy104_0), (.slice Ay104_1 (y104.1.Steps).length cy104_1)]) (k := 3) rfl 0) 3) rfl) ?_
 obtain ⟨y113, hy113, H⟩ := bnd H
 refine Tr.call0 (r := (.bool y113)) (wn rfl) rfl Tryz.call10 (evl_cons rfl (evl_cons rfl evl_nil)) (fun W hW => F_etchhouseref3_SamePlot_ok N y101.1 Ay101_0 cy101_0 (hgy101_0.rl.ext hW.extAll) Ay101_1 cy101_1 (hgy101_1.rl.ext hW.extAll) y104.1 Ay104_0 cy104_0 (hgy104_0.rl.ext hW.extAll) Ay104_1 cy104_1 (hgy104_1.rl.ext hW.extAll) y113 hy113 (HF.start _)) ?_
 refine Tr.mv rfl rfl ?_
 refine Tr.mid0 4 [(7, (.pointer (some ⟨b109, 0, none⟩))), (8, (iv y107.2)), (9, (.pointer (some ⟨b112, 0, none⟩))), (10, (iv y110.2)), (38, (.bool (y113 && (y101.2 == y104.2))))] [(1, bx b100 #[(iv p0.Unit), (.slice Ap0_0 (p0.Tools).length cp0_0), (.slice Ap0_1 (p0.Steps).length cp0_1)] 25), (2, bx b103 #[(iv y101.1.Unit), (.slice Ay101_0 (y101.1.Tools).length cy101_0), (.slice Ay101_1 (y101.1.Steps).length cy101_1)] 25), (3, bx b106 #[(iv y104.1.Unit), (.slice Ay104_0 (y104.1.Tools).length cy104_0), (.slice Ay104_1 (y104.1.Steps).length cy104_1)] 25), (4, ow Ay107_0 cy107_0 54 fl_TPlotTool y107.1.Tools), (5, ow Ay107_1 cy107_1 49 fl_TPlotStep y107.1.Steps), (6, bx b109 #[(iv y107.1.Unit), (.slice Ay107_0 (y107.1.Tools).length cy107_0), (.slice Ay107_1 (y107.1.Steps).length cy107_1)] 25), (7, bx b112 #[(iv y110.1.Unit), (.slice Ay110_0 (y110.1.Tools).length cy110_0), (.slice Ay110_1 (y110.1.Steps).length cy110_1)] 25)] ?_ ?_
 ·cases hg119 : y113
  ·refine Tr.pass rfl rfl rfl rfl rfl (by decide) ?_
   refine Tr.pass rfl rfl rfl rfl rfl (by decide) ?_
   refine Tr.pass rfl rfl rfl rfl rfl (by decide) ?_
   refine Tr.va rfl (fun _ _ h1 h2 => run_pickF (h1.ev rfl) (h1.ev rfl)) ?_
   exact Tr.nil (Tr.fin0 (.cons rfl (.cons rfl (.cons rfl (.cons rfl (.cons rfl .nil))))) (.cons rfl (.cons rfl (.cons rfl (.cons rfl (.cons rfl (.cons rfl (.cons rfl .nil))))))))
  ·refine Tr.val (wg rfl rfl rfl) rfl (fun _ _ h1 h2 => run_move (h1.ev rfl)) ?_
   refine Tr.val (wg rfl rfl rfl) rfl (fun _ _ h1 h2 => run_move (h1.ev rfl)) ?_
   refine Tr.val (wg rfl rfl rfl) rfl (fun _ _ h1 h2 => run_eql (h1.ev rfl) (h1.ev rfl)) ?_
   refine Tr.va rfl (fun _ _ h1 h2 => run_pickT (h1.ev rfl) (h1.ev rfl)) ?_
   exact Tr.nil (Tr.fin0 (.cons rfl (.cons rfl (.cons rfl (.cons rfl (.cons rfl .nil))))) (.cons rfl (.cons rfl (.cons rfl (.cons rfl (.cons rfl (.cons rfl (.cons rfl .nil))))))))
 ·show Tr _ _ (LF [(7, (.pointer (some ⟨b109, 0, none⟩))), (8, (iv y107.2)), (9, (.pointer (some ⟨b112, 0, none⟩))), (10, (iv y110.2)), (38, (.bool (y113 && (y101.2 == y104.2))))]) (LE [(1, bx b100 #[(iv p0.Unit), (.slice Ap0_0 (p0.Tools).length cp0_0), (.slice Ap0_1 (p0.Steps).length cp0_1)] 25), (2, bx b103 #[(iv y101.1.Unit), (.slice Ay101_0 (y101.1.Tools).length cy101_0), (.slice Ay101_1 (y101.1.Steps).length cy101_1)] 25), (3, bx b106 #[(iv y104.1.Unit), (.slice Ay104_0 (y104.1.Tools).length cy104_0), (.slice Ay104_1 (y104.1.Steps).length cy104_1)] 25), (4, ow Ay107_0 cy107_0 54 fl_TPlotTool y107.1.Tools), (5, ow Ay107_1 cy107_1 49 fl_TPlotStep y107.1.Steps), (6, bx b109 #[(iv y107.1.Unit), (.slice Ay107_0 (y107.1.Tools).length cy107_0), (.slice Ay107_1 (y107.1.Steps).length cy107_1)] 25), (7, bx b112 #[(iv y110.1.Unit), (.slice Ay110_0 (y110.1.Tools).length cy110_0), (.slice Ay110_1 (y110.1.Steps).length cy110_1)] 25)]) _
  refine Tr.mv rfl rfl ?_
  obtain ⟨g115, hg115, H⟩ := bnd H
  refine Tr.mid0 4 [(8, (iv y107.2)), (10, (iv y110.2)), (43, (.bool g115))] [(1, bx b100 #[(iv p0.Unit), (.slice Ap0_0 (p0.Tools).length cp0_0), (.slice Ap0_1 (p0.Steps).length cp0_1)] 25), (2, bx b103 #[(iv y101.1.Unit), (.slice Ay101_0 (y101.1.Tools).length cy101_0), (.slice Ay101_1 (y101.1.Steps).length cy101_1)] 25), (3, bx b106 #[(iv y104.1.Unit), (.slice Ay104_0 (y104.1.Tools).length cy104_0), (.slice Ay104_1 (y104.1.Steps).length cy104_1)] 25), (4, ow Ay107_0 cy107_0 54 fl_TPlotTool y107.1.Tools), (5, ow Ay107_1 cy107_1 49 fl_TPlotStep y107.1.Steps), (6, bx b109 #[(iv y107.1.Unit), (.slice Ay107_0 (y107.1.Tools).length cy107_0), (.slice Ay107_1 (y107.1.Steps).length cy107_1)] 25), (7, bx b112 #[(iv y110.1.Unit), (.slice Ay110_0 (y110.1.Tools).length cy110_0), (.slice Ay110_1 (y110.1.Steps).length cy110_1)] 25)] ?_ ?_
  ·cases hg119 : (y113 && (y101.2 == y104.2))
   ·rw [hg119] at hg115
    rw [if_neg (by decide)] at hg115
    have H := hg115
    obtain rfl := Option.some.inj H
    refine Tr.pass rfl rfl rfl rfl rfl (by decide) ?_
    refine Tr.pass rfl rfl rfl rfl rfl (by decide) ?_
    refine Tr.pass rfl rfl rfl rfl rfl (by decide) ?_
    refine Tr.va rfl (fun _ _ h1 h2 => run_pickF (h1.ev rfl) (h1.ev rfl)) ?_
    exact Tr.nil (Tr.fin0 (.cons rfl (.cons rfl (.cons rfl .nil))) (.cons rfl (.cons rfl (.cons rfl (.cons rfl (.cons rfl (.cons rfl (.cons rfl .nil))))))))
   ·rw [hg119] at hg115
    rw [if_pos rfl] at hg115
    have H := hg115
    refine Tr.val (wg rfl rfl rfl) rfl (fun _ _ h1 h2 => run_loadN (cs := [(iv y107.1.Unit), (.slice Ay107_0 (y107.1.Tools).length cy107_0), (.slice Ay107_1 (y107.1.Steps).length cy107_1)]) ag_25 sz_25 (h1.ev rfl) (CellsAt.take (rdb h2 (vs := [(iv y107.1.Unit), (.slice Ay107_0 (y107.1.Tools).length cy107_0), (.slice Ay107_1 (y107.1.Steps).length cy107_1)]) (k := 6) rfl 0) 3) rfl) ?_
    refine Tr.val (wg rfl rfl rfl) rfl (fun _ _ h1 h2 => run_loadN (cs := [(iv y110.1.Unit), (.slice Ay110_0 (y110.1.Tools).length cy110_0), (.slice Ay110_1 (y110.1.Steps).length cy110_1)]) ag_25 sz_25 (h1.ev rfl) (CellsAt.take (rdb h2 (vs := [(iv y110.1.Unit), (.slice Ay110_0 (y110.1.Tools).length cy110_0), (.slice Ay110_1 (y110.1.Steps).length cy110_1)]) (k := 7) rfl 0) 3) rfl) ?_
    obtain ⟨y116, hy116, H⟩ := bnd H
    refine Tr.call0 (r := (.bool y116)) (wg rfl rfl rfl) rfl Tryz.call10 (evl_cons rfl (evl_cons rfl evl_nil)) (fun W hW => F_etchhouseref3_SamePlot_ok N y107.1 Ay107_0 cy107_0 (hW.slCall (k := 4) rfl) Ay107_1 cy107_1 (hW.slCall (k := 5) rfl) y110.1 Ay110_0 cy110_0 (hgy110_0.rl.ext hW.extAll) Ay110_1 cy110_1 (hgy110_1.rl.ext hW.extAll) y116 hy116 (HF.start _)) ?_
    refine Tr.va rfl (fun _ _ h1 h2 => run_pickT (h1.ev rfl) (h1.ev rfl)) ?_
    obtain rfl := Option.some.inj H
    exact Tr.nil (Tr.fin0 (.cons rfl (.cons rfl (.cons rfl .nil))) (.cons rfl (.cons rfl (.cons rfl (.cons rfl (.cons rfl (.cons rfl (.cons rfl .nil))))))))
  ·show Tr _ _ (LF [(8, (iv y107.2)), (10, (iv y110.2)), (43, (.bool g115))]) (LE [(1, bx b100 #[(iv p0.Unit), (.slice Ap0_0 (p0.Tools).length cp0_0), (.slice Ap0_1 (p0.Steps).length cp0_1)] 25), (2, bx b103 #[(iv y101.1.Unit), (.slice Ay101_0 (y101.1.Tools).length cy101_0), (.slice Ay101_1 (y101.1.Steps).length cy101_1)] 25), (3, bx b106 #[(iv y104.1.Unit), (.slice Ay104_0 (y104.1.Tools).length cy104_0), (.slice Ay104_1 (y104.1.Steps).length cy104_1)] 25), (4, ow Ay107_0 cy107_0 54 fl_TPlotTool y107.1.Tools), (5, ow Ay107_1 cy107_1 49 fl_TPlotStep y107.1.Steps), (6, bx b109 #[(iv y107.1.Unit), (.slice Ay107_0 (y107.1.Tools).length cy107_0), (.slice Ay107_1 (y107.1.Steps).length cy107_1)] 25), (7, bx b112 #[(iv y110.1.Unit), (.slice Ay110_0 (y110.1.Tools).length cy110_0), (.slice Ay110_1 (y110.1.Steps).length cy110_1)] 25)]) _
   refine Tr.mv rfl rfl ?_
   refine Tr.mid0 4 [(48, (.bool (g115 && (y107.2 == y110.2))))] [(1, bx b100 #[(iv p0.Unit), (.slice Ap0_0 (p0.Tools).length cp0_0), (.slice Ap0_1 (p0.Steps).length cp0_1)] 25), (2, bx b103 #[(iv y101.1.Unit), (.slice Ay101_0 (y101.1.Tools).length cy101_0), (.slice Ay101_1 (y101.1.Steps).length cy101_1)] 25), (3, bx b106 #[(iv y104.1.Unit), (.slice Ay104_0 (y104.1.Tools).length cy104_0), (.slice Ay104_1 (y104.1.Steps).length cy104_1)] 25), (4, ow Ay107_0 cy107_0 54 fl_TPlotTool y107.1.Tools), (5, ow Ay107_1 cy107_1 49 fl_TPlotStep y107.1.Steps), (6, bx b109 #[(iv y107.1.Unit), (.slice Ay107_0 (y107.1.Tools).length cy107_0), (.slice Ay107_1 (y107.1.Steps).length cy107_1)] 25), (7, bx b112 #[(iv y110.1.Unit), (.slice Ay110_0 (y110.1.Tools).length cy110_0), (.slice Ay110_1 (y110.1.Steps).length cy110_1)] 25)] ?_ ?_
   ·cases hg119 : g115
    ·refine Tr.pass rfl rfl rfl rfl rfl (by decide) ?_
     refine Tr.pass rfl rfl rfl rfl rfl (by decide) ?_
     refine Tr.pass rfl rfl rfl rfl rfl (by decide) ?_
     refine Tr.va rfl (fun _ _ h1 h2 => run_pickF (h1.ev rfl) (h1.ev rfl)) ?_
     exact Tr.nil (Tr.fin0 (.cons rfl .nil) (.cons rfl (.cons rfl (.cons rfl (.cons rfl (.cons rfl (.cons rfl (.cons rfl .nil))))))))
    ·refine Tr.val (wg rfl rfl rfl) rfl (fun _ _ h1 h2 => run_move (h1.ev rfl)) ?_
     refine Tr.val (wg rfl rfl rfl) rfl (fun _ _ h1 h2 => run_move (h1.ev rfl)) ?_
     refine Tr.val (wg rfl rfl rfl) rfl (fun _ _ h1 h2 => run_eql (h1.ev rfl) (h1.ev rfl)) ?_
     refine Tr.va rfl (fun _ _ h1 h2 => run_pickT (h1.ev rfl) (h1.ev rfl)) ?_
     exact Tr.nil (Tr.fin0 (.cons rfl .nil) (.cons rfl (.cons rfl (.cons rfl (.cons rfl (.cons rfl (.cons rfl (.cons rfl .nil))))))))
   ·show Tr _ _ (LF [(48, (.bool (g115 && (y107.2 == y110.2))))]) (LE [(1, bx b100 #[(iv p0.Unit), (.slice Ap0_0 (p0.Tools).length cp0_0), (.slice Ap0_1 (p0.Steps).length cp0_1)] 25), (2, bx b103 #[(iv y101.1.Unit), (.slice Ay101_0 (y101.1.Tools).length cy101_0), (.slice Ay101_1 (y101.1.Steps).length cy101_1)] 25), (3, bx b106 #[(iv y104.1.Unit), (.slice Ay104_0 (y104.1.Tools).length cy104_0), (.slice Ay104_1 (y104.1.Steps).length cy104_1)] 25), (4, ow Ay107_0 cy107_0 54 fl_TPlotTool y107.1.Tools), (5, ow Ay107_1 cy107_1 49 fl_TPlotStep y107.1.Steps), (6, bx b109 #[(iv y107.1.Unit), (.slice Ay107_0 (y107.1.Tools).length cy107_0), (.slice Ay107_1 (y107.1.Steps).length cy107_1)] 25), (7, bx b112 #[(iv y110.1.Unit), (.slice Ay110_0 (y110.1.Tools).length cy110_0), (.slice Ay110_1 (y110.1.Steps).length cy110_1)] 25)]) _
    refine Tr.mv rfl rfl ?_
    obtain ⟨g118, hg118, H⟩ := bnd H
    refine Tr.mid0 2 [(51, (.bool g118))] [(1, bx b100 #[(iv p0.Unit), (.slice Ap0_0 (p0.Tools).length cp0_0), (.slice Ap0_1 (p0.Steps).length cp0_1)] 25), (2, bx b103 #[(iv y101.1.Unit), (.slice Ay101_0 (y101.1.Tools).length cy101_0), (.slice Ay101_1 (y101.1.Steps).length cy101_1)] 25), (3, bx b106 #[(iv y104.1.Unit), (.slice Ay104_0 (y104.1.Tools).length cy104_0), (.slice Ay104_1 (y104.1.Steps).length cy104_1)] 25), (4, ow Ay107_0 cy107_0 54 fl_TPlotTool y107.1.Tools), (5, ow Ay107_1 cy107_1 49 fl_TPlotStep y107.1.Steps), (6, bx b109 #[(iv y107.1.Unit), (.slice Ay107_0 (y107.1.Tools).length cy107_0), (.slice Ay107_1 (y107.1.Steps).length cy107_1)] 25), (7, bx b112 #[(iv y110.1.Unit), (.slice Ay110_0 (y110.1.Tools).length cy110_0), (.slice Ay110_1 (y110.1.Steps).length cy110_1)] 25)] ?_ ?_
    ·cases hg119 : (g115 && (y107.2 == y110.2))
     ·rw [hg119] at hg118
      rw [if_neg (by decide)] at hg118
      have H := hg118
      obtain rfl := Option.some.inj H
      refine Tr.pass rfl rfl rfl rfl rfl (by decide) ?_
      refine Tr.va rfl (fun _ _ h1 h2 => run_pickF (h1.ev rfl) (h1.ev rfl)) ?_
      exact Tr.nil (Tr.fin0 (.cons rfl .nil) (.cons rfl (.cons rfl (.cons rfl (.cons rfl (.cons rfl (.cons rfl (.cons rfl .nil))))))))
     ·rw [hg119] at hg118
      rw [if_pos rfl] at hg118
      have H := hg118
      obtain ⟨y119, hy119, H⟩ := bnd H
      refine Tr.call0 (r := (.bool y119)) (wg rfl rfl rfl) rfl Tryz.call11 evl_nil (fun W hW => F_etchhouselaw3_awake_ok N y119 hy119 (HF.start _)) ?_
      refine Tr.va rfl (fun _ _ h1 h2 => run_pickT (h1.ev rfl) (h1.ev rfl)) ?_
      obtain rfl := Option.some.inj H
      exact Tr.nil (Tr.fin0 (.cons rfl .nil) (.cons rfl (.cons rfl (.cons rfl (.cons rfl (.cons rfl (.cons rfl (.cons rfl .nil))))))))
    ·show Tr _ _ (LF [(51, (.bool g118))]) (LE [(1, bx b100 #[(iv p0.Unit), (.slice Ap0_0 (p0.Tools).length cp0_0), (.slice Ap0_1 (p0.Steps).length cp0_1)] 25), (2, bx b103 #[(iv y101.1.Unit), (.slice Ay101_0 (y101.1.Tools).length cy101_0), (.slice Ay101_1 (y101.1.Steps).length cy101_1)] 25), (3, bx b106 #[(iv y104.1.Unit), (.slice Ay104_0 (y104.1.Tools).length cy104_0), (.slice Ay104_1 (y104.1.Steps).length cy104_1)] 25), (4, ow Ay107_0 cy107_0 54 fl_TPlotTool y107.1.Tools), (5, ow Ay107_1 cy107_1 49 fl_TPlotStep y107.1.Steps), (6, bx b109 #[(iv y107.1.Unit), (.slice Ay107_0 (y107.1.Tools).length cy107_0), (.slice Ay107_1 (y107.1.Steps).length cy107_1)] 25), (7, bx b112 #[(iv y110.1.Unit), (.slice Ay110_0 (y110.1.Tools).length cy110_0), (.slice Ay110_1 (y110.1.Steps).length cy110_1)] 25)]) _
     refine Tr.asg rfl rfl ?_
     refine Tr.nil (Tr.normThen ?_)
     refine Tr.ret ?_
     obtain rfl := Option.some.inj H
     exact Tr.out (m := [(.bool g118)]) [] (res_tmp rfl res_nil) (fun W hW => ⟨rfl, hW.low leB⟩)

end Go.Proofs.YtocjndhpgjccoaaGreatDoor
