/- The walks: each function computes its plain function. -/
import Derived.Test.YtocjndhpgjccoaaGreatDoorXWb
namespace Go.Proofs.YtocjndhpgjccoaaGreatDoor
open Go.RowKit
set_option maxRecDepth 100000
set_option maxHeartbeats 1000000
theorem F_slices_Index_int_ok {w : Bs} (p0 : (List Int)) (Ap0_0 : Option Addr) (cp0_0 : Nat) (hp0_0 : Sl w.R w.W fl_i64 Ap0_0 cp0_0 p0) (p1 : Int) (r : Int) (H : F_slices_Index_int p0 p1 = some r) (hE : HF w w.W E0) : Calls Tryz.prog 133 [(.slice Ap0_0 (p0).length cp0_0), (iv p1)].toArray w.W fun e W' => e = .returned (iv r) ∧ HF w W' E0 := by
 unfold F_slices_Index_int at H
 have leB := Bs.Le.refl w
 refine Tr.enter (n := 19) Tryz.func133 rfl rfl rfl hE ?_
 refine Tr.sr ?_
 refine Tr.asg rfl rfl ?_
 refine Tr.nil (Tr.normThen ?_)
 refine Tr.seq ?_
 refine Tr.sr ?_
 refine Tr.mv rfl rfl ?_
 refine Tr.va rfl (fun _ _ h1 h2 => run_len un_83 (h1.ev rfl)) ?_
 refine Tr.mv rfl rfl ?_
 refine Tr.nil (Tr.normThen ?_)
 refine Tr.block ?_
 refine Tr.loop (σ := (List Int) × Nat) (fun m w s => m = s.1.length + 1 ∧ s.1 = List.drop s.2 p0 ∧ s.2 ≤ p0.length ∧ F_slices_Index_int_L1 p1 s.1 s.2 = some r) (fun s => [(0, (.slice Ap0_0 (p0).length cp0_0)), (1, (iv p1)), (7, (iv (p0.length : Int))), (8, (iv (s.2 : Int)))]) (fun s => []) (p0.length + 1) (p0, 0) ⟨rfl, rfl, Nat.zero_le _, H⟩ (.cons rfl (.cons rfl (.cons rfl (.cons rfl .nil)))) .nil (fun _ _ h => absurd h.1 (by simp)) ?_
 intro w leL1 m s hs
 obtain ⟨restL1, iL1⟩ := s
 obtain ⟨hmL1, hdL1, hiL1, H⟩ := hs
 replace hdL1 : restL1 = List.drop iL1 p0 := hdL1
 replace H : F_slices_Index_int_L1 p1 restL1 iL1 = some r := H
 replace hmL1 : m + 1 = restL1.length + 1 := hmL1
 replace hp0_0 := hp0_0.leR leL1
 replace leB := leB.trans leL1
 obtain rfl : m = restL1.length := by omega
 clear hmL1
 show Tr _ _ (LF [(0, (.slice Ap0_0 (p0).length cp0_0)), (1, (iv p1)), (7, (iv (p0.length : Int))), (8, (iv (iL1 : Int)))]) (LE []) _
 cases restL1 with
 | nil =>
  rw [F_slices_Index_int_L1.eq_1] at H
  refine Tr.sr ?_
  refine Tr.va rfl (fun _ _ h1 h2 => run_lss (h1.ev rfl) (h1.ev rfl)) ?_
  refine Tr.nil (Tr.normThen ?_)
  refine Tr.seq ?_
  refine Tr.condF rfl (range_nil hdL1) ?_
  refine Tr.exit (Tr.exitThen (Tr.exitThen (Tr.exitBlock (Tr.normThen ?_))))
  refine Tr.sr ?_
  refine Tr.asg rfl rfl ?_
  refine Tr.nil (Tr.normThen ?_)
  refine Tr.ret ?_
  obtain rfl := Option.some.inj H
  exact Tr.out (m := [(iv (-1))]) [] (res_tmp rfl res_nil) (fun W hW => ⟨rfl, hW.low leB⟩)
 | cons xL1 restL1 =>
  rw [F_slices_Index_int_L1.eq_2] at H
  refine Tr.sr ?_
  refine Tr.va rfl (fun _ _ h1 h2 => run_lss (h1.ev rfl) (h1.ev rfl)) ?_
  refine Tr.nil (Tr.normThen ?_)
  refine Tr.seq ?_
  refine Tr.condT rfl (range_on hdL1) ?_
  refine Tr.skip (Tr.normThen ?_)
  refine Tr.seq ?_
  refine Tr.block ?_
  refine Tr.sr ?_
  refine Tr.mv rfl rfl ?_
  refine Tr.asg rfl rfl ?_
  refine Tr.nil (Tr.normThen ?_)
  refine Tr.sr ?_
  refine Tr.mv rfl rfl ?_
  refine Tr.mv rfl rfl ?_
  refine Tr.mv rfl rfl ?_
  refine Tr.va rfl (fun _ _ h1 h2 => run_indexAddr el_83 (h1.ev rfl) hp0_0.form (h1.ev rfl) (Int.natCast_nonneg _) (range_lt hdL1)) ?_
  refine Tr.va rfl (fun _ _ h1 h2 => run_load1 ag_3 (h1.ev rfl) (rdF ef_i64 hp0_0 (range_at hdL1) h2) rfl) ?_
  refine Tr.va rfl (fun _ _ h1 h2 => run_eql (h1.ev rfl) (h1.ev rfl)) ?_
  refine Tr.nil (Tr.normThen ?_)
  refine Tr.cond rfl H (fun H => ?_) (fun H => ?_)
  ·refine Tr.sr ?_
   refine Tr.mv rfl rfl ?_
   refine Tr.asg rfl rfl ?_
   refine Tr.nil (Tr.normThen ?_)
   refine Tr.ret (Tr.retBlock (Tr.retThen (Tr.retThen (Tr.retBlock (Tr.retThen ?_)))))
   obtain rfl := Option.some.inj H
   exact Tr.out (m := [(iv (iL1 : Int))]) [] (res_tmp rfl res_nil) (fun W hW => ⟨rfl, hW.low leB⟩)
  ·refine Tr.skip (Tr.normBlock (Tr.normThen ?_))
   refine Tr.region ?_
   refine Tr.va rfl (fun _ _ h1 h2 => run_add (h1.ev rfl) (h1.ev rfl)) ?_
   refine Tr.mv rfl rfl ?_
   refine Tr.nil ?_
   exact Tr.backThen leL1 (restL1, (iL1 + 1)) ⟨rfl, range_tl hdL1, range_lt hdL1, H⟩ (.cons rfl (.cons rfl (.cons rfl (.cons (congrArg (fun z => some (Value.int .i64 z)) (range_up hdL1 hp0_0.form)) .nil)))) .nil

theorem F_slices_Contains_int_ok {w : Bs} (p0 : (List Int)) (Ap0_0 : Option Addr) (cp0_0 : Nat) (hp0_0 : Sl w.R w.W fl_i64 Ap0_0 cp0_0 p0) (p1 : Int) (r : Bool) (H : F_slices_Contains_int p0 p1 = some r) (hE : HF w w.W E0) : Calls Tryz.prog 111 [(.slice Ap0_0 (p0).length cp0_0), (iv p1)].toArray w.W fun e W' => e = .returned (.bool r) ∧ HF w W' E0 := by
 unfold F_slices_Contains_int at H
 have leB := Bs.Le.refl w
 refine Tr.enter (n := 9) Tryz.func111 rfl rfl rfl hE ?_
 refine Tr.sr ?_
 refine Tr.asg rfl rfl ?_
 refine Tr.nil (Tr.normThen ?_)
 refine Tr.sr ?_
 refine Tr.mv rfl rfl ?_
 refine Tr.mv rfl rfl ?_
 obtain ⟨y100, hy100, H⟩ := bnd H
 refine Tr.call0 (r := (iv y100)) (wn rfl) rfl Tryz.call133 (evl_cons rfl (evl_cons rfl evl_nil)) (fun W hW => F_slices_Index_int_ok p0 Ap0_0 cp0_0 (hp0_0.ext hW.extAll) p1 y100 hy100 (HF.start _)) ?_
 refine Tr.va rfl (fun _ _ h1 h2 => run_geq (h1.ev rfl) (h1.ev rfl)) ?_
 refine Tr.asg rfl rfl ?_
 refine Tr.nil (Tr.normThen ?_)
 refine Tr.ret ?_
 obtain rfl := Option.some.inj H
 exact Tr.out (m := [(.bool (decide (0 ≤ y100)))]) [] (res_tmp rfl res_nil) (fun W hW => ⟨rfl, hW.low leB⟩)

theorem F_plot_next_ok {w : Bs} (p0 : (List TPlotStep)) (Ap0_0 : Option Addr) (cp0_0 : Nat) (hp0_0 : Sl w.R w.W fl_TPlotStep Ap0_0 cp0_0 p0) (p1 : (List Int)) (Ap1_0 : Option Addr) (cp1_0 : Nat) (hp1_0 : Sl w.R w.W fl_i64 Ap1_0 cp1_0 p1) (r : Int) (H : F_plot_next p0 p1 = some r) (hE : HF w w.W E0) : Calls Tryz.prog 86 [(.slice Ap0_0 (p0).length cp0_0), (.slice Ap1_0 (p1).length cp1_0)].toArray w.W fun e W' => e = .returned (iv r) ∧ HF w W' E0 := by
 unfold F_plot_next at H
 have leB := Bs.Le.refl w
 refine Tr.enter (n := 20) Tryz.func86 rfl rfl rfl hE ?_
 refine Tr.sr ?_
 refine Tr.asg rfl rfl ?_
 refine Tr.nil (Tr.normThen ?_)
 refine Tr.seq ?_
 refine Tr.sr ?_
 refine Tr.mv rfl rfl ?_
 refine Tr.va rfl (fun _ _ h1 h2 => run_len un_23 (h1.ev rfl)) ?_
 refine Tr.mv rfl rfl ?_
 refine Tr.nil (Tr.normThen ?_)
 refine Tr.block ?_
 refine Tr.loop (σ := (List TPlotStep) × Nat) (fun m w s => m = s.1.length + 1 ∧ s.1 = List.drop s.2 p0 ∧ s.2 ≤ p0.length ∧ F_plot_next_L1 p1 s.1 s.2 = some r) (fun s => [(1, (.slice Ap1_0 (p1).length cp1_0)), (7, (.slice Ap0_0 (p0).length cp0_0)), (8, (iv (p0.length : Int))), (9, (iv (s.2 : Int)))]) (fun s => []) (p0.length + 1) (p0, 0) ⟨rfl, rfl, Nat.zero_le _, H⟩ (.cons rfl (.cons rfl (.cons rfl (.cons rfl .nil)))) .nil (fun _ _ h => absurd h.1 (by simp)) ?_
 intro w leL1 m s hs
 obtain ⟨restL1, iL1⟩ := s
 obtain ⟨hmL1, hdL1, hiL1, H⟩ := hs
 replace hdL1 : restL1 = List.drop iL1 p0 := hdL1
 replace H : F_plot_next_L1 p1 restL1 iL1 = some r := H
 replace hmL1 : m + 1 = restL1.length + 1 := hmL1
 replace hp1_0 := hp1_0.leR leL1
 replace hp0_0 := hp0_0.leR leL1
 replace leB := leB.trans leL1
 obtain rfl : m = restL1.length := by omega
 clear hmL1
 show Tr _ _ (LF [(1, (.slice Ap1_0 (p1).length cp1_0)), (7, (.slice Ap0_0 (p0).length cp0_0)), (8, (iv (p0.length : Int))), (9, (iv (iL1 : Int)))]) (LE []) _
 cases restL1 with
 | nil =>
  rw [F_plot_next_L1.eq_1] at H
  refine Tr.sr ?_
  refine Tr.va rfl (fun _ _ h1 h2 => run_lss (h1.ev rfl) (h1.ev rfl)) ?_
  refine Tr.nil (Tr.normThen ?_)
  refine Tr.seq ?_
  refine Tr.condF rfl (range_nil hdL1) ?_
  refine Tr.exit (Tr.exitThen (Tr.exitThen (Tr.exitBlock (Tr.normThen ?_))))
  refine Tr.sr ?_
  refine Tr.asg rfl rfl ?_
  refine Tr.nil (Tr.normThen ?_)
  refine Tr.ret ?_
  obtain rfl := Option.some.inj H
  exact Tr.out (m := [(iv 0)]) [] (res_tmp rfl res_nil) (fun W hW => ⟨rfl, hW.low leB⟩)
 | cons xL1 restL1 =>
  rw [F_plot_next_L1.eq_2] at H
  refine Tr.sr ?_
  refine Tr.va rfl (fun _ _ h1 h2 => run_lss (h1.ev rfl) (h1.ev rfl)) ?_
  refine Tr.nil (Tr.normThen ?_)
  refine Tr.seq ?_
  refine Tr.condT rfl (range_on hdL1) ?_
  refine Tr.skip (Tr.normThen ?_)
  refine Tr.seq ?_
  refine Tr.block ?_
  refine Tr.sr ?_
  obtain ⟨u105, hRu105, hoku105, hcu105⟩ := (hp0_0).el (range_at hdL1)
  obtain ⟨⟨Au105_0, cu105_0⟩, ⟨Au105_1, cu105_1⟩⟩ := u105
  obtain ⟨hoku105_0, hoku105_1⟩ := TPlotStep_ok.1 hoku105
  replace hoku105_0 : Sl w.R w.W fl_TPoint Au105_0 cu105_0 xL1.Points := hoku105_0
  replace hoku105_1 : Sl w.R w.W fl_TPlotStep Au105_1 cu105_1 xL1.Steps := hoku105_1
  refine Tr.va rfl (fun _ _ h1 h2 => run_indexAddr el_23 (h1.ev rfl) hp0_0.form (h1.ev rfl) (Int.natCast_nonneg _) (range_lt hdL1)) ?_
  refine Tr.va rfl (fun _ _ h1 h2 => run_loadN (cs := [(iv xL1.Kind), (sv xL1.Name), (iv xL1.At.X), (iv xL1.At.Y), (.slice Au105_0 (xL1.Points).length cu105_0), (iv xL1.NX), (iv xL1.NY), (.slice Au105_1 (xL1.Steps).length cu105_1)]) ag_49 sz_49 (h1.ev rfl) (CellsAt.take (rdR hRu105 hcu105 h2) 8) rfl) ?_
  refine Tr.alloc 2 (wn rfl) rfl ze_49 fun b106 => ?_
  refine Tr.store 2 (cs := [(iv xL1.Kind), (sv xL1.Name), (iv xL1.At.X), (iv xL1.At.Y), (.slice Au105_0 (xL1.Points).length cu105_0), (iv xL1.NX), (iv xL1.NY), (.slice Au105_1 (xL1.Steps).length cu105_1)]) [(iv xL1.Kind), (sv xL1.Name), (iv xL1.At.X), (iv xL1.At.Y), (.slice Au105_0 (xL1.Points).length cu105_0), (iv xL1.NX), (iv xL1.NY), (.slice Au105_1 (xL1.Steps).length cu105_1)] (wn rfl) rfl rfl rfl rfl sz_49 rfl rfl rfl ?_
  refine Tr.nil (Tr.normThen ?_)
  refine Tr.sr ?_
  refine Tr.mv rfl rfl ?_
  refine Tr.va rfl (fun _ _ h1 h2 => run_fieldAddr fo_49_0 (h1.ev rfl)) ?_
  refine Tr.va rfl (fun _ _ h1 h2 => run_load1 ag_3 (h1.ev rfl) (rdb h2 (vs := [(iv xL1.Kind), (sv xL1.Name), (iv xL1.At.X), (iv xL1.At.Y), (.slice Au105_0 (xL1.Points).length cu105_0), (iv xL1.NX), (iv xL1.NY), (.slice Au105_1 (xL1.Steps).length cu105_1)]) (k := 2) rfl 0) rfl) ?_
  obtain ⟨y107, hy107, H⟩ := bnd H
  refine Tr.call0 (r := (.bool y107)) (wn rfl) rfl Tryz.call111 (evl_cons rfl (evl_cons rfl evl_nil)) (fun W hW => F_slices_Contains_int_ok p1 Ap1_0 cp1_0 (hp1_0.ext hW.extAll) xL1.Kind y107 hy107 (HF.start _)) ?_
  refine Tr.nil (Tr.normThen ?_)
  refine Tr.cond rfl H (fun H => ?_) (fun H => ?_)
  ·refine Tr.sr ?_
   refine Tr.va rfl (fun _ _ h1 h2 => run_fieldAddr fo_49_0 (h1.ev rfl)) ?_
   refine Tr.va rfl (fun _ _ h1 h2 => run_load1 ag_3 (h1.ev rfl) (rdb h2 (vs := [(iv xL1.Kind), (sv xL1.Name), (iv xL1.At.X), (iv xL1.At.Y), (.slice Au105_0 (xL1.Points).length cu105_0), (iv xL1.NX), (iv xL1.NY), (.slice Au105_1 (xL1.Steps).length cu105_1)]) (k := 2) rfl 0) rfl) ?_
   refine Tr.asg rfl rfl ?_
   refine Tr.nil (Tr.normThen ?_)
   refine Tr.ret (Tr.retBlock (Tr.retThen (Tr.retThen (Tr.retBlock (Tr.retThen ?_)))))
   obtain rfl := Option.some.inj H
   exact Tr.out (m := [(iv xL1.Kind)]) [] (res_tmp rfl res_nil) (fun W hW => ⟨rfl, hW.low leB⟩)
  ·refine Tr.skip (Tr.normBlock (Tr.normThen ?_))
   refine Tr.region ?_
   refine Tr.va rfl (fun _ _ h1 h2 => run_add (h1.ev rfl) (h1.ev rfl)) ?_
   refine Tr.mv rfl rfl ?_
   refine Tr.nil ?_
   exact Tr.backThen leL1 (restL1, (iL1 + 1)) ⟨rfl, range_tl hdL1, range_lt hdL1, H⟩ (.cons rfl (.cons rfl (.cons rfl (.cons (congrArg (fun z => some (Value.int .i64 z)) (range_up hdL1 hp0_0.form)) .nil)))) .nil

theorem F_plot_draws_ok {w : Bs} (p0 : Int) (r : Bool) (H : F_plot_draws p0 = some r) (hE : HF w w.W E0) : Calls Tryz.prog 87 [(iv p0)].toArray w.W fun e W' => e = .returned (.bool r) ∧ HF w W' E0 := by
 unfold F_plot_draws at H
 have leB := Bs.Le.refl w
 refine Tr.enter (n := 17) Tryz.func87 rfl rfl rfl hE ?_
 refine Tr.sr ?_
 refine Tr.asg rfl rfl ?_
 refine Tr.nil (Tr.normThen ?_)
 refine Tr.sr ?_
 refine Tr.mv rfl rfl ?_
 refine Tr.va rfl (fun _ _ h1 h2 => run_eql (h1.ev rfl) (h1.ev rfl)) ?_
 refine Tr.mv rfl rfl ?_
 refine Tr.mid0 3 [(0, (iv p0)), (8, (.bool ((p0 == 5) || (p0 == 6))))] [] ?_ ?_
 ·cases hg99 : (p0 == 5)
  ·refine Tr.val (wg rfl rfl rfl) rfl (fun _ _ h1 h2 => run_move (h1.ev rfl)) ?_
   refine Tr.val (wg rfl rfl rfl) rfl (fun _ _ h1 h2 => run_eql (h1.ev rfl) (h1.ev rfl)) ?_
   refine Tr.va rfl (fun _ _ h1 h2 => run_pickF (h1.ev rfl) (h1.ev rfl)) ?_
   exact Tr.nil (Tr.fin0 (.cons rfl (.cons rfl .nil)) .nil)
  ·refine Tr.pass rfl rfl rfl rfl rfl (by decide) ?_
   refine Tr.pass rfl rfl rfl rfl rfl (by decide) ?_
   refine Tr.va rfl (fun _ _ h1 h2 => run_pickT (h1.ev rfl) (h1.ev rfl)) ?_
   exact Tr.nil (Tr.fin0 (.cons rfl (.cons rfl .nil)) .nil)
 ·show Tr _ _ (LF [(0, (iv p0)), (8, (.bool ((p0 == 5) || (p0 == 6))))]) (LE []) _
  refine Tr.mv rfl rfl ?_
  refine Tr.mid0 3 [(0, (iv p0)), (12, (.bool (((p0 == 5) || (p0 == 6)) || (p0 == 7))))] [] ?_ ?_
  ·cases hg99 : ((p0 == 5) || (p0 == 6))
   ·refine Tr.val (wg rfl rfl rfl) rfl (fun _ _ h1 h2 => run_move (h1.ev rfl)) ?_
    refine Tr.val (wg rfl rfl rfl) rfl (fun _ _ h1 h2 => run_eql (h1.ev rfl) (h1.ev rfl)) ?_
    refine Tr.va rfl (fun _ _ h1 h2 => run_pickF (h1.ev rfl) (h1.ev rfl)) ?_
    exact Tr.nil (Tr.fin0 (.cons rfl (.cons rfl .nil)) .nil)
   ·refine Tr.pass rfl rfl rfl rfl rfl (by decide) ?_
    refine Tr.pass rfl rfl rfl rfl rfl (by decide) ?_
    refine Tr.va rfl (fun _ _ h1 h2 => run_pickT (h1.ev rfl) (h1.ev rfl)) ?_
    exact Tr.nil (Tr.fin0 (.cons rfl (.cons rfl .nil)) .nil)
  ·show Tr _ _ (LF [(0, (iv p0)), (12, (.bool (((p0 == 5) || (p0 == 6)) || (p0 == 7))))]) (LE []) _
   refine Tr.mv rfl rfl ?_
   refine Tr.mid0 3 [(16, (.bool ((((p0 == 5) || (p0 == 6)) || (p0 == 7)) || (p0 == 8))))] [] ?_ ?_
   ·cases hg99 : (((p0 == 5) || (p0 == 6)) || (p0 == 7))
    ·refine Tr.val (wg rfl rfl rfl) rfl (fun _ _ h1 h2 => run_move (h1.ev rfl)) ?_
     refine Tr.val (wg rfl rfl rfl) rfl (fun _ _ h1 h2 => run_eql (h1.ev rfl) (h1.ev rfl)) ?_
     refine Tr.va rfl (fun _ _ h1 h2 => run_pickF (h1.ev rfl) (h1.ev rfl)) ?_
     exact Tr.nil (Tr.fin0 (.cons rfl .nil) .nil)
    ·refine Tr.pass rfl rfl rfl rfl rfl (by decide) ?_
     refine Tr.pass rfl rfl rfl rfl rfl (by decide) ?_
     refine Tr.va rfl (fun _ _ h1 h2 => run_pickT (h1.ev rfl) (h1.ev rfl)) ?_
     exact Tr.nil (Tr.fin0 (.cons rfl .nil) .nil)
   ·show Tr _ _ (LF [(16, (.bool ((((p0 == 5) || (p0 == 6)) || (p0 == 7)) || (p0 == 8))))]) (LE []) _
    refine Tr.asg rfl rfl ?_
    refine Tr.nil (Tr.normThen ?_)
    refine Tr.ret ?_
    obtain rfl := Option.some.inj H
    exact Tr.out (m := [(.bool ((((p0 == 5) || (p0 == 6)) || (p0 == 7)) || (p0 == 8)))]) [] (res_tmp rfl res_nil) (fun W hW => ⟨rfl, hW.low leB⟩)

theorem F_plot_needless_ok {w : Bs} (p0 : TPlotStep) (Ap0_0 : Option Addr) (cp0_0 : Nat) (hp0_0 : Sl w.R w.W fl_TPoint Ap0_0 cp0_0 p0.Points) (Ap0_1 : Option Addr) (cp0_1 : Nat) (hp0_1 : Sl w.R w.W fl_TPlotStep Ap0_1 cp0_1 p0.Steps) (p1 : TKnown) (Ap1_0 : Option Addr) (cp1_0 : Nat) (hp1_0 : Sl w.R w.W fl_TPoint Ap1_0 cp1_0 p1.last.Points) (Ap1_1 : Option Addr) (cp1_1 : Nat) (hp1_1 : Sl w.R w.W fl_TPlotStep Ap1_1 cp1_1 p1.last.Steps) (p2 : (List TPlotStep)) (Ap2_0 : Option Addr) (cp2_0 : Nat) (hp2_0 : Sl w.R w.W fl_TPlotStep Ap2_0 cp2_0 p2) (r : Bool) (H : F_plot_needless p0 p1 p2 = some r) (hE : HF w w.W E0) : Calls Tryz.prog 57 [(.agg #[(iv p0.Kind), (sv p0.Name), (iv p0.At.X), (iv p0.At.Y), (.slice Ap0_0 (p0.Points).length cp0_0), (iv p0.NX), (iv p0.NY), (.slice Ap0_1 (p0.Steps).length cp0_1)]), (.agg #[(iv p1.dark), (sv p1.tool), (iv p1.place.X), (iv p1.place.Y), (.bool p1.placed), (iv p1.last.Kind), (sv p1.last.Name), (iv p1.last.At.X), (iv p1.last.At.Y), (.slice Ap1_0 (p1.last.Points).length cp1_0), (iv p1.last.NX), (iv p1.last.NY), (.slice Ap1_1 (p1.last.Steps).length cp1_1)]), (.slice Ap2_0 (p2).length cp2_0)].toArray w.W fun e W' => e = .returned (.bool r) ∧ HF w W' E0 := by
 unfold F_plot_needless at H
 have leB := Bs.Le.refl w
 refine Tr.enter (n := 105) Tryz.func57 rfl rfl rfl hE ?_
 refine Tr.sr ?_
 refine Tr.box 1 (cs := [(iv p0.Kind), (sv p0.Name), (iv p0.At.X), (iv p0.At.Y), (.slice Ap0_0 (p0.Points).length cp0_0), (iv p0.NX), (iv p0.NY), (.slice Ap0_1 (p0.Steps).length cp0_1)]) (wn rfl) rfl rfl rfl fun b100 => ?_
 refine Tr.box 2 (cs := [(iv p1.dark), (sv p1.tool), (iv p1.place.X), (iv p1.place.Y), (.bool p1.placed), (iv p1.last.Kind), (sv p1.last.Name), (iv p1.last.At.X), (iv p1.last.At.Y), (.slice Ap1_0 (p1.last.Points).length cp1_0), (iv p1.last.NX), (iv p1.last.NY), (.slice Ap1_1 (p1.last.Steps).length cp1_1)]) (wn rfl) rfl rfl rfl fun b101 => ?_
 refine Tr.asg rfl rfl ?_
 refine Tr.nil (Tr.normThen ?_)
 refine Tr.seq ?_
 refine Tr.sr ?_
 refine Tr.va rfl (fun _ _ h1 h2 => run_fieldAddr fo_49_0 (h1.ev rfl)) ?_
 refine Tr.va rfl (fun _ _ h1 h2 => run_load1 ag_3 (h1.ev rfl) (rdb h2 (vs := [(iv p0.Kind), (sv p0.Name), (iv p0.At.X), (iv p0.At.Y), (.slice Ap0_0 (p0.Points).length cp0_0), (iv p0.NX), (iv p0.NY), (.slice Ap0_1 (p0.Steps).length cp0_1)]) (k := 1) rfl 0) rfl) ?_
 refine Tr.nil (Tr.normThen ?_)
 refine Tr.block ?_
 have leJ103 := Bs.Le.refl w
 refine Tr.cutJ (σ := Bool) (fun w s => F_plot_needless_J1 p0 p1 p2 s = some r) (fun s => [(2, (.slice Ap2_0 (p2).length cp2_0)), (3, (.pointer (some ⟨b100, 0, none⟩))), (4, (.pointer (some ⟨b101, 0, none⟩))), (11, (iv p0.Kind)), (12, (.bool s))]) (fun s => [(1, bx b100 #[(iv p0.Kind), (sv p0.Name), (iv p0.At.X), (iv p0.At.Y), (.slice Ap0_0 (p0.Points).length cp0_0), (iv p0.NX), (iv p0.NY), (.slice Ap0_1 (p0.Steps).length cp0_1)] 49), (2, bx b101 #[(iv p1.dark), (sv p1.tool), (iv p1.place.X), (iv p1.place.Y), (.bool p1.placed), (iv p1.last.Kind), (sv p1.last.Name), (iv p1.last.At.X), (iv p1.last.At.Y), (.slice Ap1_0 (p1.last.Points).length cp1_0), (iv p1.last.NX), (iv p1.last.NY), (.slice Ap1_1 (p1.last.Steps).length cp1_1)] 99)]) ?_ ?_
 ·refine Tr.sr ?_
  refine Tr.va rfl (fun _ _ h1 h2 => run_eql (h1.ev rfl) (h1.ev rfl)) ?_
  refine Tr.asg rfl rfl ?_
  refine Tr.nil (Tr.normThen ?_)
  refine Tr.cond rfl H (fun H => ?_) (fun H => ?_)
  ·refine Tr.skip ?_
   exact Tr.backThen leJ103 (p0.Kind == 1) H (.cons rfl (.cons rfl (.cons rfl (.cons rfl (.cons rfl .nil))))) (.cons rfl (.cons rfl .nil))
  ·refine Tr.region ?_
   refine Tr.va rfl (fun _ _ h1 h2 => run_eql (h1.ev rfl) (h1.ev rfl)) ?_
   refine Tr.asg rfl rfl ?_
   refine Tr.nil ?_
   exact Tr.backThen leJ103 (p0.Kind == 2) H (.cons rfl (.cons rfl (.cons rfl (.cons rfl (.cons rfl .nil))))) (.cons rfl (.cons rfl .nil))
 ·intro w x102 hlJ104 hs
  have H := hs
  replace H : F_plot_needless_J1 p0 p1 p2 x102 = some r := H
  replace hp2_0 := hp2_0.leR hlJ104
  replace hp0_0 := hp0_0.leR hlJ104
  replace hp0_1 := hp0_1.leR hlJ104
  replace hp1_0 := hp1_0.leR hlJ104
  replace hp1_1 := hp1_1.leR hlJ104
  replace leB := leB.trans hlJ104
  unfold F_plot_needless_J1 at H
  show Tr _ _ (LF [(2, (.slice Ap2_0 (p2).length cp2_0)), (3, (.pointer (some ⟨b100, 0, none⟩))), (4, (.pointer (some ⟨b101, 0, none⟩))), (11, (iv p0.Kind)), (12, (.bool x102))]) (LE [(1, bx b100 #[(iv p0.Kind), (sv p0.Name), (iv p0.At.X), (iv p0.At.Y), (.slice Ap0_0 (p0.Points).length cp0_0), (iv p0.NX), (iv p0.NY), (.slice Ap0_1 (p0.Steps).length cp0_1)] 49), (2, bx b101 #[(iv p1.dark), (sv p1.tool), (iv p1.place.X), (iv p1.place.Y), (.bool p1.placed), (iv p1.last.Kind), (sv p1.last.Name), (iv p1.last.At.X), (iv p1.last.At.Y), (.slice Ap1_0 (p1.last.Points).length cp1_0), (iv p1.last.NX), (iv p1.last.NY), (.slice Ap1_1 (p1.last.Steps).length cp1_1)] 99)]) _
  refine Tr.cond rfl H (fun H => ?_) (fun H => ?_)
  ·refine Tr.sr ?_
   refine Tr.mv rfl rfl ?_
   refine Tr.buildSlice 3 (e := 3) (vs := [(0, (iv 1)), (1, (iv 2)), (2, (iv 5)), (3, (iv 6)), (4, (iv 7)), (5, (iv 8))]) (cs := [(iv 1), (iv 2), (iv 5), (iv 6), (iv 7), (iv 8)]) (wn rfl) rfl (evs_cons rfl (evs_cons rfl (evs_cons rfl (evs_cons rfl (evs_cons rfl (evs_cons rfl evs_nil)))))) (by kernel_rfl) fun b105 => ?_
   refine Tr.own 3 fl_i64 [1, 2, 5, 6, 7, 8] (css := [[(iv 1)], [(iv 2)], [(iv 5)], [(iv 6)], [(iv 7)], [(iv 8)]]) rfl (.cons ⟨(), trivial, rfl⟩ (.cons ⟨(), trivial, rfl⟩ (.cons ⟨(), trivial, rfl⟩ (.cons ⟨(), trivial, rfl⟩ (.cons ⟨(), trivial, rfl⟩ (.cons ⟨(), trivial, rfl⟩ .nil)))))) rfl (by decide) (lit_max rfl) ?_
   obtain ⟨y106, hy106, H⟩ := bnd H
   refine Tr.call0 (r := (iv y106)) (wn rfl) rfl Tryz.call86 (evl_cons rfl (evl_cons rfl evl_nil)) (fun W hW => F_plot_next_ok p2 Ap2_0 cp2_0 (hp2_0.ext hW.extAll) [1, 2, 5, 6, 7, 8] (some ⟨b105, 0, none⟩) 6 (hW.slCall (k := 3) rfl) y106 hy106 (HF.start _)) ?_
   refine Tr.asg rfl rfl ?_
   refine Tr.nil (Tr.normThen ?_)
   refine Tr.sr ?_
   refine Tr.va rfl (fun _ _ h1 h2 => run_fieldAddr fo_49_0 (h1.ev rfl)) ?_
   refine Tr.va rfl (fun _ _ h1 h2 => run_load1 ag_3 (h1.ev rfl) (rdb h2 (vs := [(iv p0.Kind), (sv p0.Name), (iv p0.At.X), (iv p0.At.Y), (.slice Ap0_0 (p0.Points).length cp0_0), (iv p0.NX), (iv p0.NY), (.slice Ap0_1 (p0.Steps).length cp0_1)]) (k := 1) rfl 0) rfl) ?_
   refine Tr.va rfl (fun _ _ h1 h2 => run_fieldAddr fo_99_0 (h1.ev rfl)) ?_
   refine Tr.va rfl (fun _ _ h1 h2 => run_load1 ag_3 (h1.ev rfl) (rdb h2 (vs := [(iv p1.dark), (sv p1.tool), (iv p1.place.X), (iv p1.place.Y), (.bool p1.placed), (iv p1.last.Kind), (sv p1.last.Name), (iv p1.last.At.X), (iv p1.last.At.Y), (.slice Ap1_0 (p1.last.Points).length cp1_0), (iv p1.last.NX), (iv p1.last.NY), (.slice Ap1_1 (p1.last.Steps).length cp1_1)]) (k := 2) rfl 0) rfl) ?_
   refine Tr.va rfl (fun _ _ h1 h2 => run_eql (h1.ev rfl) (h1.ev rfl)) ?_
   refine Tr.mv rfl rfl ?_
   obtain ⟨g108, hg108, H⟩ := bnd H
   refine Tr.mid0 4 [(27, (.bool g108))] [(1, bx b100 #[(iv p0.Kind), (sv p0.Name), (iv p0.At.X), (iv p0.At.Y), (.slice Ap0_0 (p0.Points).length cp0_0), (iv p0.NX), (iv p0.NY), (.slice Ap0_1 (p0.Steps).length cp0_1)] 49), (2, bx b101 #[(iv p1.dark), (sv p1.tool), (iv p1.place.X), (iv p1.place.Y), (.bool p1.placed), (iv p1.last.Kind), (sv p1.last.Name), (iv p1.last.At.X), (iv p1.last.At.Y), (.slice Ap1_0 (p1.last.Points).length cp1_0), (iv p1.last.NX), (iv p1.last.NY), (.slice Ap1_1 (p1.last.Steps).length cp1_1)] 99), (3, ow (some ⟨b105, 0, none⟩) 6 3 fl_i64 [1, 2, 5, 6, 7, 8])] ?_ ?_
   ·cases hg109 : (p0.Kind == p1.dark)
    ·rw [hg109] at hg108
     rw [if_neg (by decide)] at hg108
     have H := hg108
     refine Tr.val (wg rfl rfl rfl) rfl (fun _ _ h1 h2 => run_move (h1.ev rfl)) ?_
     obtain ⟨y109, hy109, H⟩ := bnd H
     refine Tr.call0 (r := (.bool y109)) (wg rfl rfl rfl) rfl Tryz.call87 (evl_cons rfl evl_nil) (fun W hW => F_plot_draws_ok y106 y109 hy109 (HF.start _)) ?_
     refine Tr.val (wg rfl rfl rfl) rfl (fun _ _ h1 h2 => run_not (h1.ev rfl)) ?_
     refine Tr.va rfl (fun _ _ h1 h2 => run_pickF (h1.ev rfl) (h1.ev rfl)) ?_
     obtain rfl := Option.some.inj H
     exact Tr.nil (Tr.fin0 (.cons rfl .nil) (.cons rfl (.cons rfl (.cons rfl .nil))))
    ·rw [hg109] at hg108
     rw [if_pos rfl] at hg108
     have H := hg108
     obtain rfl := Option.some.inj H
     refine Tr.pass rfl rfl rfl rfl rfl (by decide) ?_
     refine Tr.pass rfl rfl rfl rfl rfl (by decide) ?_
     refine Tr.pass rfl rfl rfl rfl rfl (by decide) ?_
     refine Tr.va rfl (fun _ _ h1 h2 => run_pickT (h1.ev rfl) (h1.ev rfl)) ?_
     exact Tr.nil (Tr.fin0 (.cons rfl .nil) (.cons rfl (.cons rfl (.cons rfl .nil))))
   ·show Tr _ _ (LF [(27, (.bool g108))]) (LE [(1, bx b100 #[(iv p0.Kind), (sv p0.Name), (iv p0.At.X), (iv p0.At.Y), (.slice Ap0_0 (p0.Points).length cp0_0), (iv p0.NX), (iv p0.NY), (.slice Ap0_1 (p0.Steps).length cp0_1)] 49), (2, bx b101 #[(iv p1.dark), (sv p1.tool), (iv p1.place.X), (iv p1.place.Y), (.bool p1.placed), (iv p1.last.Kind), (sv p1.last.Name), (iv p1.last.At.X), (iv p1.last.At.Y), (.slice Ap1_0 (p1.last.Points).length cp1_0), (iv p1.last.NX), (iv p1.last.NY), (.slice Ap1_1 (p1.last.Steps).length cp1_1)] 99), (3, ow (some ⟨b105, 0, none⟩) 6 3 fl_i64 [1, 2, 5, 6, 7, 8])]) _
    refine Tr.asg rfl rfl ?_
    refine Tr.nil (Tr.normThen ?_)
    refine Tr.ret (Tr.retBlock (Tr.retThen ?_))
    obtain rfl := Option.some.inj H
    exact Tr.out (m := [(.bool g108)]) [] (res_tmp rfl res_nil) (fun W hW => ⟨rfl, hW.low leB⟩)
  ·refine Tr.sr ?_
   refine Tr.va rfl (fun _ _ h1 h2 => run_eql (h1.ev rfl) (h1.ev rfl)) ?_
   refine Tr.asg rfl rfl ?_
   refine Tr.nil (Tr.normThen ?_)
   refine Tr.cond rfl H (fun H => ?_) (fun H => ?_)
   ·refine Tr.sr ?_
    refine Tr.mv rfl rfl ?_
    refine Tr.buildSlice 4 (e := 3) (vs := [(0, (iv 3)), (1, (iv 5)), (2, (iv 6)), (3, (iv 8))]) (cs := [(iv 3), (iv 5), (iv 6), (iv 8)]) (wn rfl) rfl (evs_cons rfl (evs_cons rfl (evs_cons rfl (evs_cons rfl evs_nil)))) (by kernel_rfl) fun b110 => ?_
    refine Tr.own 4 fl_i64 [3, 5, 6, 8] (css := [[(iv 3)], [(iv 5)], [(iv 6)], [(iv 8)]]) rfl (.cons ⟨(), trivial, rfl⟩ (.cons ⟨(), trivial, rfl⟩ (.cons ⟨(), trivial, rfl⟩ (.cons ⟨(), trivial, rfl⟩ .nil)))) rfl (by decide) (lit_max rfl) ?_
    obtain ⟨y111, hy111, H⟩ := bnd H
    refine Tr.call0 (r := (iv y111)) (wn rfl) rfl Tryz.call86 (evl_cons rfl (evl_cons rfl evl_nil)) (fun W hW => F_plot_next_ok p2 Ap2_0 cp2_0 (hp2_0.ext hW.extAll) [3, 5, 6, 8] (some ⟨b110, 0, none⟩) 4 (hW.slCall (k := 4) rfl) y111 hy111 (HF.start _)) ?_
    refine Tr.asg rfl rfl ?_
    refine Tr.nil (Tr.normThen ?_)
    refine Tr.sr ?_
    refine Tr.va rfl (fun _ _ h1 h2 => run_fieldAddr fo_49_1 (h1.ev rfl)) ?_
    refine Tr.va rfl (fun _ _ h1 h2 => run_load1 ag_9 (h1.ev rfl) (rdb h2 (vs := [(iv p0.Kind), (sv p0.Name), (iv p0.At.X), (iv p0.At.Y), (.slice Ap0_0 (p0.Points).length cp0_0), (iv p0.NX), (iv p0.NY), (.slice Ap0_1 (p0.Steps).length cp0_1)]) (k := 1) rfl 1) rfl) ?_
    refine Tr.va rfl (fun _ _ h1 h2 => run_fieldAddr fo_99_1 (h1.ev rfl)) ?_
    refine Tr.va rfl (fun _ _ h1 h2 => run_load1 ag_9 (h1.ev rfl) (rdb h2 (vs := [(iv p1.dark), (sv p1.tool), (iv p1.place.X), (iv p1.place.Y), (.bool p1.placed), (iv p1.last.Kind), (sv p1.last.Name), (iv p1.last.At.X), (iv p1.last.At.Y), (.slice Ap1_0 (p1.last.Points).length cp1_0), (iv p1.last.NX), (iv p1.last.NY), (.slice Ap1_1 (p1.last.Steps).length cp1_1)]) (k := 2) rfl 1) rfl) ?_
    refine Tr.va rfl (fun _ _ h1 h2 => run_eqlS (h1.ev rfl) (h1.ev rfl)) ?_
    refine Tr.mv rfl rfl ?_
    obtain ⟨g113, hg113, H⟩ := bnd H
    refine Tr.mid0 4 [(42, (.bool g113))] [(1, bx b100 #[(iv p0.Kind), (sv p0.Name), (iv p0.At.X), (iv p0.At.Y), (.slice Ap0_0 (p0.Points).length cp0_0), (iv p0.NX), (iv p0.NY), (.slice Ap0_1 (p0.Steps).length cp0_1)] 49), (2, bx b101 #[(iv p1.dark), (sv p1.tool), (iv p1.place.X), (iv p1.place.Y), (.bool p1.placed), (iv p1.last.Kind), (sv p1.last.Name), (iv p1.last.At.X), (iv p1.last.At.Y), (.slice Ap1_0 (p1.last.Points).length cp1_0), (iv p1.last.NX), (iv p1.last.NY), (.slice Ap1_1 (p1.last.Steps).length cp1_1)] 99), (4, ow (some ⟨b110, 0, none⟩) 4 3 fl_i64 [3, 5, 6, 8])] ?_ ?_
    ·cases hg114 : (sEq p0.Name p1.tool)
     ·rw [hg114] at hg113
      rw [if_neg (by decide)] at hg113
      have H := hg113
      refine Tr.val (wg rfl rfl rfl) rfl (fun _ _ h1 h2 => run_move (h1.ev rfl)) ?_
      obtain ⟨y114, hy114, H⟩ := bnd H
      refine Tr.call0 (r := (.bool y114)) (wg rfl rfl rfl) rfl Tryz.call87 (evl_cons rfl evl_nil) (fun W hW => F_plot_draws_ok y111 y114 hy114 (HF.start _)) ?_
      refine Tr.val (wg rfl rfl rfl) rfl (fun _ _ h1 h2 => run_not (h1.ev rfl)) ?_
      refine Tr.va rfl (fun _ _ h1 h2 => run_pickF (h1.ev rfl) (h1.ev rfl)) ?_
      obtain rfl := Option.some.inj H
      exact Tr.nil (Tr.fin0 (.cons rfl .nil) (.cons rfl (.cons rfl (.cons rfl .nil))))
     ·rw [hg114] at hg113
      rw [if_pos rfl] at hg113
      have H := hg113
      obtain rfl := Option.some.inj H
      refine Tr.pass rfl rfl rfl rfl rfl (by decide) ?_
      refine Tr.pass rfl rfl rfl rfl rfl (by decide) ?_
      refine Tr.pass rfl rfl rfl rfl rfl (by decide) ?_
      refine Tr.va rfl (fun _ _ h1 h2 => run_pickT (h1.ev rfl) (h1.ev rfl)) ?_
      exact Tr.nil (Tr.fin0 (.cons rfl .nil) (.cons rfl (.cons rfl (.cons rfl .nil))))
    ·show Tr _ _ (LF [(42, (.bool g113))]) (LE [(1, bx b100 #[(iv p0.Kind), (sv p0.Name), (iv p0.At.X), (iv p0.At.Y), (.slice Ap0_0 (p0.Points).length cp0_0), (iv p0.NX), (iv p0.NY), (.slice Ap0_1 (p0.Steps).length cp0_1)] 49), (2, bx b101 #[(iv p1.dark), (sv p1.tool), (iv p1.place.X), (iv p1.place.Y), (.bool p1.placed), (iv p1.last.Kind), (sv p1.last.Name), (iv p1.last.At.X), (iv p1.last.At.Y), (.slice Ap1_0 (p1.last.Points).length cp1_0), (iv p1.last.NX), (iv p1.last.NY), (.slice Ap1_1 (p1.last.Steps).length cp1_1)] 99), (4, ow (some ⟨b110, 0, none⟩) 4 3 fl_i64 [3, 5, 6, 8])]) _
     refine Tr.asg rfl rfl ?_
     refine Tr.nil (Tr.normThen ?_)
     refine Tr.ret (Tr.retBlock (Tr.retThen ?_))
     obtain rfl := Option.some.inj H
     exact Tr.out (m := [(.bool g113)]) [] (res_tmp rfl res_nil) (fun W hW => ⟨rfl, hW.low leB⟩)
   ·refine Tr.sr ?_
    refine Tr.va rfl (fun _ _ h1 h2 => run_eql (h1.ev rfl) (h1.ev rfl)) ?_
    refine Tr.asg rfl rfl ?_
    refine Tr.nil (Tr.normThen ?_)
    refine Tr.cond rfl H (fun H => ?_) (fun H => ?_)
    ·refine Tr.sr ?_
     refine Tr.mv rfl rfl ?_
     refine Tr.buildSlice 5 (e := 3) (vs := [(0, (iv 4)), (1, (iv 5)), (2, (iv 6)), (3, (iv 8))]) (cs := [(iv 4), (iv 5), (iv 6), (iv 8)]) (wn rfl) rfl (evs_cons rfl (evs_cons rfl (evs_cons rfl (evs_cons rfl evs_nil)))) (by kernel_rfl) fun b115 => ?_
     refine Tr.own 5 fl_i64 [4, 5, 6, 8] (css := [[(iv 4)], [(iv 5)], [(iv 6)], [(iv 8)]]) rfl (.cons ⟨(), trivial, rfl⟩ (.cons ⟨(), trivial, rfl⟩ (.cons ⟨(), trivial, rfl⟩ (.cons ⟨(), trivial, rfl⟩ .nil)))) rfl (by decide) (lit_max rfl) ?_
     obtain ⟨y116, hy116, H⟩ := bnd H
     refine Tr.call0 (r := (iv y116)) (wn rfl) rfl Tryz.call86 (evl_cons rfl (evl_cons rfl evl_nil)) (fun W hW => F_plot_next_ok p2 Ap2_0 cp2_0 (hp2_0.ext hW.extAll) [4, 5, 6, 8] (some ⟨b115, 0, none⟩) 4 (hW.slCall (k := 5) rfl) y116 hy116 (HF.start _)) ?_
     refine Tr.asg rfl rfl ?_
     refine Tr.nil (Tr.normThen ?_)
     refine Tr.sr ?_
     refine Tr.mv rfl rfl ?_
     refine Tr.va rfl (fun _ _ h1 h2 => run_neq (h1.ev rfl) (h1.ev rfl)) ?_
     refine Tr.mv rfl rfl ?_
     refine Tr.mid0 3 [(53, (.bool ((y116 != 6) && (y116 != 8))))] [(1, bx b100 #[(iv p0.Kind), (sv p0.Name), (iv p0.At.X), (iv p0.At.Y), (.slice Ap0_0 (p0.Points).length cp0_0), (iv p0.NX), (iv p0.NY), (.slice Ap0_1 (p0.Steps).length cp0_1)] 49), (2, bx b101 #[(iv p1.dark), (sv p1.tool), (iv p1.place.X), (iv p1.place.Y), (.bool p1.placed), (iv p1.last.Kind), (sv p1.last.Name), (iv p1.last.At.X), (iv p1.last.At.Y), (.slice Ap1_0 (p1.last.Points).length cp1_0), (iv p1.last.NX), (iv p1.last.NY), (.slice Ap1_1 (p1.last.Steps).length cp1_1)] 99), (5, ow (some ⟨b115, 0, none⟩) 4 3 fl_i64 [4, 5, 6, 8])] ?_ ?_
     ·cases hg116 : (y116 != 6)
      ·refine Tr.pass rfl rfl rfl rfl rfl (by decide) ?_
       refine Tr.pass rfl rfl rfl rfl rfl (by decide) ?_
       refine Tr.va rfl (fun _ _ h1 h2 => run_pickF (h1.ev rfl) (h1.ev rfl)) ?_
       exact Tr.nil (Tr.fin0 (.cons rfl .nil) (.cons rfl (.cons rfl (.cons rfl .nil))))
      ·refine Tr.val (wg rfl rfl rfl) rfl (fun _ _ h1 h2 => run_move (h1.ev rfl)) ?_
       refine Tr.val (wg rfl rfl rfl) rfl (fun _ _ h1 h2 => run_neq (h1.ev rfl) (h1.ev rfl)) ?_
       refine Tr.va rfl (fun _ _ h1 h2 => run_pickT (h1.ev rfl) (h1.ev rfl)) ?_
       exact Tr.nil (Tr.fin0 (.cons rfl .nil) (.cons rfl (.cons rfl (.cons rfl .nil))))
     ·show Tr _ _ (LF [(53, (.bool ((y116 != 6) && (y116 != 8))))]) (LE [(1, bx b100 #[(iv p0.Kind), (sv p0.Name), (iv p0.At.X), (iv p0.At.Y), (.slice Ap0_0 (p0.Points).length cp0_0), (iv p0.NX), (iv p0.NY), (.slice Ap0_1 (p0.Steps).length cp0_1)] 49), (2, bx b101 #[(iv p1.dark), (sv p1.tool), (iv p1.place.X), (iv p1.place.Y), (.bool p1.placed), (iv p1.last.Kind), (sv p1.last.Name), (iv p1.last.At.X), (iv p1.last.At.Y), (.slice Ap1_0 (p1.last.Points).length cp1_0), (iv p1.last.NX), (iv p1.last.NY), (.slice Ap1_1 (p1.last.Steps).length cp1_1)] 99), (5, ow (some ⟨b115, 0, none⟩) 4 3 fl_i64 [4, 5, 6, 8])]) _
      refine Tr.asg rfl rfl ?_
      refine Tr.nil (Tr.normThen ?_)
      refine Tr.ret (Tr.retBlock (Tr.retThen ?_))
      obtain rfl := Option.some.inj H
      exact Tr.out (m := [(.bool ((y116 != 6) && (y116 != 8)))]) [] (res_tmp rfl res_nil) (fun W hW => ⟨rfl, hW.low leB⟩)
    ·refine Tr.sr ?_
     refine Tr.va rfl (fun _ _ h1 h2 => run_eql (h1.ev rfl) (h1.ev rfl)) ?_
     refine Tr.asg rfl rfl ?_
     refine Tr.nil (Tr.normThen ?_)
     refine Tr.cond rfl H (fun H => ?_) (fun H => ?_)
     ·refine Tr.sr ?_
      refine Tr.va rfl (fun _ _ h1 h2 => run_fieldAddr fo_99_3 (h1.ev rfl)) ?_
      refine Tr.va rfl (fun _ _ h1 h2 => run_load1 ag_4 (h1.ev rfl) (rdb h2 (vs := [(iv p1.dark), (sv p1.tool), (iv p1.place.X), (iv p1.place.Y), (.bool p1.placed), (iv p1.last.Kind), (sv p1.last.Name), (iv p1.last.At.X), (iv p1.last.At.Y), (.slice Ap1_0 (p1.last.Points).length cp1_0), (iv p1.last.NX), (iv p1.last.NY), (.slice Ap1_1 (p1.last.Steps).length cp1_1)]) (k := 2) rfl 4) rfl) ?_
      refine Tr.mv rfl rfl ?_
      refine Tr.mid0 6 [(3, (.pointer (some ⟨b100, 0, none⟩))), (4, (.pointer (some ⟨b101, 0, none⟩))), (64, (.bool (p1.placed && (eqTPoint p1.place p0.At))))] [(1, bx b100 #[(iv p0.Kind), (sv p0.Name), (iv p0.At.X), (iv p0.At.Y), (.slice Ap0_0 (p0.Points).length cp0_0), (iv p0.NX), (iv p0.NY), (.slice Ap0_1 (p0.Steps).length cp0_1)] 49), (2, bx b101 #[(iv p1.dark), (sv p1.tool), (iv p1.place.X), (iv p1.place.Y), (.bool p1.placed), (iv p1.last.Kind), (sv p1.last.Name), (iv p1.last.At.X), (iv p1.last.At.Y), (.slice Ap1_0 (p1.last.Points).length cp1_0), (iv p1.last.NX), (iv p1.last.NY), (.slice Ap1_1 (p1.last.Steps).length cp1_1)] 99)] ?_ ?_
      ·cases hg116 : p1.placed
       ·refine Tr.pass rfl rfl rfl rfl rfl (by decide) ?_
        refine Tr.pass rfl rfl rfl rfl rfl (by decide) ?_
        refine Tr.pass rfl rfl rfl rfl rfl (by decide) ?_
        refine Tr.pass rfl rfl rfl rfl rfl (by decide) ?_
        refine Tr.pass rfl rfl rfl rfl rfl (by decide) ?_
        refine Tr.va rfl (fun _ _ h1 h2 => run_pickF (h1.ev rfl) (h1.ev rfl)) ?_
        exact Tr.nil (Tr.fin0 (.cons rfl (.cons rfl (.cons rfl .nil))) (.cons rfl (.cons rfl .nil)))
       ·refine Tr.val (wg rfl rfl rfl) rfl (fun _ _ h1 h2 => run_fieldAddr fo_99_2 (h1.ev rfl)) ?_
        refine Tr.val (wg rfl rfl rfl) rfl (fun _ _ h1 h2 => run_loadN (cs := [(iv p1.place.X), (iv p1.place.Y)]) ag_42 sz_42 (h1.ev rfl) (CellsAt.take (rdb h2 (vs := [(iv p1.dark), (sv p1.tool), (iv p1.place.X), (iv p1.place.Y), (.bool true), (iv p1.last.Kind), (sv p1.last.Name), (iv p1.last.At.X), (iv p1.last.At.Y), (.slice Ap1_0 (p1.last.Points).length cp1_0), (iv p1.last.NX), (iv p1.last.NY), (.slice Ap1_1 (p1.last.Steps).length cp1_1)]) (k := 2) rfl 2) 2) rfl) ?_
        refine Tr.val (wg rfl rfl rfl) rfl (fun _ _ h1 h2 => run_fieldAddr fo_49_2 (h1.ev rfl)) ?_
        refine Tr.val (wg rfl rfl rfl) rfl (fun _ _ h1 h2 => run_loadN (cs := [(iv p0.At.X), (iv p0.At.Y)]) ag_42 sz_42 (h1.ev rfl) (CellsAt.take (rdb h2 (vs := [(iv p0.Kind), (sv p0.Name), (iv p0.At.X), (iv p0.At.Y), (.slice Ap0_0 (p0.Points).length cp0_0), (iv p0.NX), (iv p0.NY), (.slice Ap0_1 (p0.Steps).length cp0_1)]) (k := 1) rfl 2) 2) rfl) ?_
        refine Tr.val (wg rfl rfl rfl) rfl (fun _ _ h1 h2 => run_eql_42 p1.place p0.At (h1.ev rfl) (h1.ev rfl)) ?_
        refine Tr.va rfl (fun _ _ h1 h2 => run_pickT (h1.ev rfl) (h1.ev rfl)) ?_
        exact Tr.nil (Tr.fin0 (.cons rfl (.cons rfl (.cons rfl .nil))) (.cons rfl (.cons rfl .nil)))
      ·show Tr _ _ (LF [(3, (.pointer (some ⟨b100, 0, none⟩))), (4, (.pointer (some ⟨b101, 0, none⟩))), (64, (.bool (p1.placed && (eqTPoint p1.place p0.At))))]) (LE [(1, bx b100 #[(iv p0.Kind), (sv p0.Name), (iv p0.At.X), (iv p0.At.Y), (.slice Ap0_0 (p0.Points).length cp0_0), (iv p0.NX), (iv p0.NY), (.slice Ap0_1 (p0.Steps).length cp0_1)] 49), (2, bx b101 #[(iv p1.dark), (sv p1.tool), (iv p1.place.X), (iv p1.place.Y), (.bool p1.placed), (iv p1.last.Kind), (sv p1.last.Name), (iv p1.last.At.X), (iv p1.last.At.Y), (.slice Ap1_0 (p1.last.Points).length cp1_0), (iv p1.last.NX), (iv p1.last.NY), (.slice Ap1_1 (p1.last.Steps).length cp1_1)] 99)]) _
       refine Tr.mv rfl rfl ?_
       refine Tr.mid0 5 [(3, (.pointer (some ⟨b100, 0, none⟩))), (4, (.pointer (some ⟨b101, 0, none⟩))), (70, (.bool ((p1.placed && (eqTPoint p1.place p0.At)) && (p1.last.Kind != 0))))] [(1, bx b100 #[(iv p0.Kind), (sv p0.Name), (iv p0.At.X), (iv p0.At.Y), (.slice Ap0_0 (p0.Points).length cp0_0), (iv p0.NX), (iv p0.NY), (.slice Ap0_1 (p0.Steps).length cp0_1)] 49), (2, bx b101 #[(iv p1.dark), (sv p1.tool), (iv p1.place.X), (iv p1.place.Y), (.bool p1.placed), (iv p1.last.Kind), (sv p1.last.Name), (iv p1.last.At.X), (iv p1.last.At.Y), (.slice Ap1_0 (p1.last.Points).length cp1_0), (iv p1.last.NX), (iv p1.last.NY), (.slice Ap1_1 (p1.last.Steps).length cp1_1)] 99)] ?_ ?_
       ·cases hg116 : (p1.placed && (eqTPoint p1.place p0.At))
        ·refine Tr.pass rfl rfl rfl rfl rfl (by decide) ?_
         refine Tr.pass rfl rfl rfl rfl rfl (by decide) ?_
         refine Tr.pass rfl rfl rfl rfl rfl (by decide) ?_
         refine Tr.pass rfl rfl rfl rfl rfl (by decide) ?_
         refine Tr.va rfl (fun _ _ h1 h2 => run_pickF (h1.ev rfl) (h1.ev rfl)) ?_
         exact Tr.nil (Tr.fin0 (.cons rfl (.cons rfl (.cons rfl .nil))) (.cons rfl (.cons rfl .nil)))
        ·refine Tr.val (wg rfl rfl rfl) rfl (fun _ _ h1 h2 => run_fieldAddr fo_99_4 (h1.ev rfl)) ?_
         refine Tr.val (wg rfl rfl rfl) rfl (fun _ _ h1 h2 => run_fieldAddr fo_49_0 (h1.ev rfl)) ?_
         refine Tr.val (wg rfl rfl rfl) rfl (fun _ _ h1 h2 => run_load1 ag_3 (h1.ev rfl) (rdb h2 (vs := [(iv p1.dark), (sv p1.tool), (iv p1.place.X), (iv p1.place.Y), (.bool p1.placed), (iv p1.last.Kind), (sv p1.last.Name), (iv p1.last.At.X), (iv p1.last.At.Y), (.slice Ap1_0 (p1.last.Points).length cp1_0), (iv p1.last.NX), (iv p1.last.NY), (.slice Ap1_1 (p1.last.Steps).length cp1_1)]) (k := 2) rfl 5) rfl) ?_
         refine Tr.val (wg rfl rfl rfl) rfl (fun _ _ h1 h2 => run_neq (h1.ev rfl) (h1.ev rfl)) ?_
         refine Tr.va rfl (fun _ _ h1 h2 => run_pickT (h1.ev rfl) (h1.ev rfl)) ?_
         exact Tr.nil (Tr.fin0 (.cons rfl (.cons rfl (.cons rfl .nil))) (.cons rfl (.cons rfl .nil)))
       ·show Tr _ _ (LF [(3, (.pointer (some ⟨b100, 0, none⟩))), (4, (.pointer (some ⟨b101, 0, none⟩))), (70, (.bool ((p1.placed && (eqTPoint p1.place p0.At)) && (p1.last.Kind != 0))))]) (LE [(1, bx b100 #[(iv p0.Kind), (sv p0.Name), (iv p0.At.X), (iv p0.At.Y), (.slice Ap0_0 (p0.Points).length cp0_0), (iv p0.NX), (iv p0.NY), (.slice Ap0_1 (p0.Steps).length cp0_1)] 49), (2, bx b101 #[(iv p1.dark), (sv p1.tool), (iv p1.place.X), (iv p1.place.Y), (.bool p1.placed), (iv p1.last.Kind), (sv p1.last.Name), (iv p1.last.At.X), (iv p1.last.At.Y), (.slice Ap1_0 (p1.last.Points).length cp1_0), (iv p1.last.NX), (iv p1.last.NY), (.slice Ap1_1 (p1.last.Steps).length cp1_1)] 99)]) _
        refine Tr.mv rfl rfl ?_
        refine Tr.mid0 7 [(4, (.pointer (some ⟨b101, 0, none⟩))), (78, (.bool (((p1.placed && (eqTPoint p1.place p0.At)) && (p1.last.Kind != 0)) && (eqTPoint p1.last.At p0.At))))] [(1, bx b100 #[(iv p0.Kind), (sv p0.Name), (iv p0.At.X), (iv p0.At.Y), (.slice Ap0_0 (p0.Points).length cp0_0), (iv p0.NX), (iv p0.NY), (.slice Ap0_1 (p0.Steps).length cp0_1)] 49), (2, bx b101 #[(iv p1.dark), (sv p1.tool), (iv p1.place.X), (iv p1.place.Y), (.bool p1.placed), (iv p1.last.Kind), (sv p1.last.Name), (iv p1.last.At.X), (iv p1.last.At.Y), (.slice Ap1_0 (p1.last.Points).length cp1_0), (iv p1.last.NX), (iv p1.last.NY), (.slice Ap1_1 (p1.last.Steps).length cp1_1)] 99)] ?_ ?_
        ·cases hg116 : ((p1.placed && (eqTPoint p1.place p0.At)) && (p1.last.Kind != 0))
         ·refine Tr.pass rfl rfl rfl rfl rfl (by decide) ?_
          refine Tr.pass rfl rfl rfl rfl rfl (by decide) ?_
          refine Tr.pass rfl rfl rfl rfl rfl (by decide) ?_
          refine Tr.pass rfl rfl rfl rfl rfl (by decide) ?_
          refine Tr.pass rfl rfl rfl rfl rfl (by decide) ?_
          refine Tr.pass rfl rfl rfl rfl rfl (by decide) ?_
          refine Tr.va rfl (fun _ _ h1 h2 => run_pickF (h1.ev rfl) (h1.ev rfl)) ?_
          exact Tr.nil (Tr.fin0 (.cons rfl (.cons rfl .nil)) (.cons rfl (.cons rfl .nil)))
         ·refine Tr.val (wg rfl rfl rfl) rfl (fun _ _ h1 h2 => run_fieldAddr fo_99_4 (h1.ev rfl)) ?_
          refine Tr.val (wg rfl rfl rfl) rfl (fun _ _ h1 h2 => run_fieldAddr fo_49_2 (h1.ev rfl)) ?_
          refine Tr.val (wg rfl rfl rfl) rfl (fun _ _ h1 h2 => run_loadN (cs := [(iv p1.last.At.X), (iv p1.last.At.Y)]) ag_42 sz_42 (h1.ev rfl) (CellsAt.take (rdb h2 (vs := [(iv p1.dark), (sv p1.tool), (iv p1.place.X), (iv p1.place.Y), (.bool p1.placed), (iv p1.last.Kind), (sv p1.last.Name), (iv p1.last.At.X), (iv p1.last.At.Y), (.slice Ap1_0 (p1.last.Points).length cp1_0), (iv p1.last.NX), (iv p1.last.NY), (.slice Ap1_1 (p1.last.Steps).length cp1_1)]) (k := 2) rfl 7) 2) rfl) ?_
          refine Tr.val (wg rfl rfl rfl) rfl (fun _ _ h1 h2 => run_fieldAddr fo_49_2 (h1.ev rfl)) ?_
          refine Tr.val (wg rfl rfl rfl) rfl (fun _ _ h1 h2 => run_loadN (cs := [(iv p0.At.X), (iv p0.At.Y)]) ag_42 sz_42 (h1.ev rfl) (CellsAt.take (rdb h2 (vs := [(iv p0.Kind), (sv p0.Name), (iv p0.At.X), (iv p0.At.Y), (.slice Ap0_0 (p0.Points).length cp0_0), (iv p0.NX), (iv p0.NY), (.slice Ap0_1 (p0.Steps).length cp0_1)]) (k := 1) rfl 2) 2) rfl) ?_
          refine Tr.val (wg rfl rfl rfl) rfl (fun _ _ h1 h2 => run_eql_42 p1.last.At p0.At (h1.ev rfl) (h1.ev rfl)) ?_
          refine Tr.va rfl (fun _ _ h1 h2 => run_pickT (h1.ev rfl) (h1.ev rfl)) ?_
          exact Tr.nil (Tr.fin0 (.cons rfl (.cons rfl .nil)) (.cons rfl (.cons rfl .nil)))
        ·show Tr _ _ (LF [(4, (.pointer (some ⟨b101, 0, none⟩))), (78, (.bool (((p1.placed && (eqTPoint p1.place p0.At)) && (p1.last.Kind != 0)) && (eqTPoint p1.last.At p0.At))))]) (LE [(1, bx b100 #[(iv p0.Kind), (sv p0.Name), (iv p0.At.X), (iv p0.At.Y), (.slice Ap0_0 (p0.Points).length cp0_0), (iv p0.NX), (iv p0.NY), (.slice Ap0_1 (p0.Steps).length cp0_1)] 49), (2, bx b101 #[(iv p1.dark), (sv p1.tool), (iv p1.place.X), (iv p1.place.Y), (.bool p1.placed), (iv p1.last.Kind), (sv p1.last.Name), (iv p1.last.At.X), (iv p1.last.At.Y), (.slice Ap1_0 (p1.last.Points).length cp1_0), (iv p1.last.NX), (iv p1.last.NY), (.slice Ap1_1 (p1.last.Steps).length cp1_1)] 99)]) _
         refine Tr.mv rfl rfl ?_
         refine Tr.mid0 4 [(4, (.pointer (some ⟨b101, 0, none⟩))), (83, (.bool ((((p1.placed && (eqTPoint p1.place p0.At)) && (p1.last.Kind != 0)) && (eqTPoint p1.last.At p0.At)) && (!sEq p1.tool ByteArray.empty))))] [(1, bx b100 #[(iv p0.Kind), (sv p0.Name), (iv p0.At.X), (iv p0.At.Y), (.slice Ap0_0 (p0.Points).length cp0_0), (iv p0.NX), (iv p0.NY), (.slice Ap0_1 (p0.Steps).length cp0_1)] 49), (2, bx b101 #[(iv p1.dark), (sv p1.tool), (iv p1.place.X), (iv p1.place.Y), (.bool p1.placed), (iv p1.last.Kind), (sv p1.last.Name), (iv p1.last.At.X), (iv p1.last.At.Y), (.slice Ap1_0 (p1.last.Points).length cp1_0), (iv p1.last.NX), (iv p1.last.NY), (.slice Ap1_1 (p1.last.Steps).length cp1_1)] 99)] ?_ ?_
         ·cases hg116 : (((p1.placed && (eqTPoint p1.place p0.At)) && (p1.last.Kind != 0)) && (eqTPoint p1.last.At p0.At))
          ·refine Tr.pass rfl rfl rfl rfl rfl (by decide) ?_
           refine Tr.pass rfl rfl rfl rfl rfl (by decide) ?_
           refine Tr.pass rfl rfl rfl rfl rfl (by decide) ?_
           refine Tr.va rfl (fun _ _ h1 h2 => run_pickF (h1.ev rfl) (h1.ev rfl)) ?_
           exact Tr.nil (Tr.fin0 (.cons rfl (.cons rfl .nil)) (.cons rfl (.cons rfl .nil)))
          ·refine Tr.val (wg rfl rfl rfl) rfl (fun _ _ h1 h2 => run_fieldAddr fo_99_1 (h1.ev rfl)) ?_
           refine Tr.val (wg rfl rfl rfl) rfl (fun _ _ h1 h2 => run_load1 ag_9 (h1.ev rfl) (rdb h2 (vs := [(iv p1.dark), (sv p1.tool), (iv p1.place.X), (iv p1.place.Y), (.bool p1.placed), (iv p1.last.Kind), (sv p1.last.Name), (iv p1.last.At.X), (iv p1.last.At.Y), (.slice Ap1_0 (p1.last.Points).length cp1_0), (iv p1.last.NX), (iv p1.last.NY), (.slice Ap1_1 (p1.last.Steps).length cp1_1)]) (k := 2) rfl 1) rfl) ?_
           refine Tr.val (wg rfl rfl rfl) rfl (fun _ _ h1 h2 => run_neqS (h1.ev rfl) (h1.ev rfl)) ?_
           refine Tr.va rfl (fun _ _ h1 h2 => run_pickT (h1.ev rfl) (h1.ev rfl)) ?_
           exact Tr.nil (Tr.fin0 (.cons rfl (.cons rfl .nil)) (.cons rfl (.cons rfl .nil)))
         ·show Tr _ _ (LF [(4, (.pointer (some ⟨b101, 0, none⟩))), (83, (.bool ((((p1.placed && (eqTPoint p1.place p0.At)) && (p1.last.Kind != 0)) && (eqTPoint p1.last.At p0.At)) && (!sEq p1.tool ByteArray.empty))))]) (LE [(1, bx b100 #[(iv p0.Kind), (sv p0.Name), (iv p0.At.X), (iv p0.At.Y), (.slice Ap0_0 (p0.Points).length cp0_0), (iv p0.NX), (iv p0.NY), (.slice Ap0_1 (p0.Steps).length cp0_1)] 49), (2, bx b101 #[(iv p1.dark), (sv p1.tool), (iv p1.place.X), (iv p1.place.Y), (.bool p1.placed), (iv p1.last.Kind), (sv p1.last.Name), (iv p1.last.At.X), (iv p1.last.At.Y), (.slice Ap1_0 (p1.last.Points).length cp1_0), (iv p1.last.NX), (iv p1.last.NY), (.slice Ap1_1 (p1.last.Steps).length cp1_1)] 99)]) _
          refine Tr.mv rfl rfl ?_
          refine Tr.mid0 7 [(4, (.pointer (some ⟨b101, 0, none⟩))), (91, (.bool (((((p1.placed && (eqTPoint p1.place p0.At)) && (p1.last.Kind != 0)) && (eqTPoint p1.last.At p0.At)) && (!sEq p1.tool ByteArray.empty)) && (sEq p1.last.Name p1.tool))))] [(1, bx b100 #[(iv p0.Kind), (sv p0.Name), (iv p0.At.X), (iv p0.At.Y), (.slice Ap0_0 (p0.Points).length cp0_0), (iv p0.NX), (iv p0.NY), (.slice Ap0_1 (p0.Steps).length cp0_1)] 49), (2, bx b101 #[(iv p1.dark), (sv p1.tool), (iv p1.place.X), (iv p1.place.Y), (.bool p1.placed), (iv p1.last.Kind), (sv p1.last.Name), (iv p1.last.At.X), (iv p1.last.At.Y), (.slice Ap1_0 (p1.last.Points).length cp1_0), (iv p1.last.NX), (iv p1.last.NY), (.slice Ap1_1 (p1.last.Steps).length cp1_1)] 99)] ?_ ?_
          ·cases hg116 : ((((p1.placed && (eqTPoint p1.place p0.At)) && (p1.last.Kind != 0)) && (eqTPoint p1.last.At p0.At)) && (!sEq p1.tool ByteArray.empty))
           ·refine Tr.pass rfl rfl rfl rfl rfl (by decide) ?_
            refine Tr.pass rfl rfl rfl rfl rfl (by decide) ?_
            refine Tr.pass rfl rfl rfl rfl rfl (by decide) ?_
            refine Tr.pass rfl rfl rfl rfl rfl (by decide) ?_
            refine Tr.pass rfl rfl rfl rfl rfl (by decide) ?_
            refine Tr.pass rfl rfl rfl rfl rfl (by decide) ?_
            refine Tr.va rfl (fun _ _ h1 h2 => run_pickF (h1.ev rfl) (h1.ev rfl)) ?_
            exact Tr.nil (Tr.fin0 (.cons rfl (.cons rfl .nil)) (.cons rfl (.cons rfl .nil)))
           ·refine Tr.val (wg rfl rfl rfl) rfl (fun _ _ h1 h2 => run_fieldAddr fo_99_4 (h1.ev rfl)) ?_
            refine Tr.val (wg rfl rfl rfl) rfl (fun _ _ h1 h2 => run_fieldAddr fo_49_1 (h1.ev rfl)) ?_
            refine Tr.val (wg rfl rfl rfl) rfl (fun _ _ h1 h2 => run_load1 ag_9 (h1.ev rfl) (rdb h2 (vs := [(iv p1.dark), (sv p1.tool), (iv p1.place.X), (iv p1.place.Y), (.bool p1.placed), (iv p1.last.Kind), (sv p1.last.Name), (iv p1.last.At.X), (iv p1.last.At.Y), (.slice Ap1_0 (p1.last.Points).length cp1_0), (iv p1.last.NX), (iv p1.last.NY), (.slice Ap1_1 (p1.last.Steps).length cp1_1)]) (k := 2) rfl 6) rfl) ?_
            refine Tr.val (wg rfl rfl rfl) rfl (fun _ _ h1 h2 => run_fieldAddr fo_99_1 (h1.ev rfl)) ?_
            refine Tr.val (wg rfl rfl rfl) rfl (fun _ _ h1 h2 => run_load1 ag_9 (h1.ev rfl) (rdb h2 (vs := [(iv p1.dark), (sv p1.tool), (iv p1.place.X), (iv p1.place.Y), (.bool p1.placed), (iv p1.last.Kind), (sv p1.last.Name), (iv p1.last.At.X), (iv p1.last.At.Y), (.slice Ap1_0 (p1.last.Points).length cp1_0), (iv p1.last.NX), (iv p1.last.NY), (.slice Ap1_1 (p1.last.Steps).length cp1_1)]) (k := 2) rfl 1) rfl) ?_
            refine Tr.val (wg rfl rfl rfl) rfl (fun _ _ h1 h2 => run_eqlS (h1.ev rfl) (h1.ev rfl)) ?_
            refine Tr.va rfl (fun _ _ h1 h2 => run_pickT (h1.ev rfl) (h1.ev rfl)) ?_
            exact Tr.nil (Tr.fin0 (.cons rfl (.cons rfl .nil)) (.cons rfl (.cons rfl .nil)))
          ·show Tr _ _ (LF [(4, (.pointer (some ⟨b101, 0, none⟩))), (91, (.bool (((((p1.placed && (eqTPoint p1.place p0.At)) && (p1.last.Kind != 0)) && (eqTPoint p1.last.At p0.At)) && (!sEq p1.tool ByteArray.empty)) && (sEq p1.last.Name p1.tool))))]) (LE [(1, bx b100 #[(iv p0.Kind), (sv p0.Name), (iv p0.At.X), (iv p0.At.Y), (.slice Ap0_0 (p0.Points).length cp0_0), (iv p0.NX), (iv p0.NY), (.slice Ap0_1 (p0.Steps).length cp0_1)] 49), (2, bx b101 #[(iv p1.dark), (sv p1.tool), (iv p1.place.X), (iv p1.place.Y), (.bool p1.placed), (iv p1.last.Kind), (sv p1.last.Name), (iv p1.last.At.X), (iv p1.last.At.Y), (.slice Ap1_0 (p1.last.Points).length cp1_0), (iv p1.last.NX), (iv p1.last.NY), (.slice Ap1_1 (p1.last.Steps).length cp1_1)] 99)]) _
           refine Tr.mv rfl rfl ?_
           refine Tr.mid0 4 [(4, (.pointer (some ⟨b101, 0, none⟩))), (96, (.bool ((((((p1.placed && (eqTPoint p1.place p0.At)) && (p1.last.Kind != 0)) && (eqTPoint p1.last.At p0.At)) && (!sEq p1.tool ByteArray.empty)) && (sEq p1.last.Name p1.tool)) && (p1.dark != 0))))] [(1, bx b100 #[(iv p0.Kind), (sv p0.Name), (iv p0.At.X), (iv p0.At.Y), (.slice Ap0_0 (p0.Points).length cp0_0), (iv p0.NX), (iv p0.NY), (.slice Ap0_1 (p0.Steps).length cp0_1)] 49), (2, bx b101 #[(iv p1.dark), (sv p1.tool), (iv p1.place.X), (iv p1.place.Y), (.bool p1.placed), (iv p1.last.Kind), (sv p1.last.Name), (iv p1.last.At.X), (iv p1.last.At.Y), (.slice Ap1_0 (p1.last.Points).length cp1_0), (iv p1.last.NX), (iv p1.last.NY), (.slice Ap1_1 (p1.last.Steps).length cp1_1)] 99)] ?_ ?_
           ·cases hg116 : (((((p1.placed && (eqTPoint p1.place p0.At)) && (p1.last.Kind != 0)) && (eqTPoint p1.last.At p0.At)) && (!sEq p1.tool ByteArray.empty)) && (sEq p1.last.Name p1.tool))
            ·refine Tr.pass rfl rfl rfl rfl rfl (by decide) ?_
             refine Tr.pass rfl rfl rfl rfl rfl (by decide) ?_
             refine Tr.pass rfl rfl rfl rfl rfl (by decide) ?_
             refine Tr.va rfl (fun _ _ h1 h2 => run_pickF (h1.ev rfl) (h1.ev rfl)) ?_
             exact Tr.nil (Tr.fin0 (.cons rfl (.cons rfl .nil)) (.cons rfl (.cons rfl .nil)))
            ·refine Tr.val (wg rfl rfl rfl) rfl (fun _ _ h1 h2 => run_fieldAddr fo_99_0 (h1.ev rfl)) ?_
             refine Tr.val (wg rfl rfl rfl) rfl (fun _ _ h1 h2 => run_load1 ag_3 (h1.ev rfl) (rdb h2 (vs := [(iv p1.dark), (sv p1.tool), (iv p1.place.X), (iv p1.place.Y), (.bool p1.placed), (iv p1.last.Kind), (sv p1.last.Name), (iv p1.last.At.X), (iv p1.last.At.Y), (.slice Ap1_0 (p1.last.Points).length cp1_0), (iv p1.last.NX), (iv p1.last.NY), (.slice Ap1_1 (p1.last.Steps).length cp1_1)]) (k := 2) rfl 0) rfl) ?_
             refine Tr.val (wg rfl rfl rfl) rfl (fun _ _ h1 h2 => run_neq (h1.ev rfl) (h1.ev rfl)) ?_
             refine Tr.va rfl (fun _ _ h1 h2 => run_pickT (h1.ev rfl) (h1.ev rfl)) ?_
             exact Tr.nil (Tr.fin0 (.cons rfl (.cons rfl .nil)) (.cons rfl (.cons rfl .nil)))
           ·show Tr _ _ (LF [(4, (.pointer (some ⟨b101, 0, none⟩))), (96, (.bool ((((((p1.placed && (eqTPoint p1.place p0.At)) && (p1.last.Kind != 0)) && (eqTPoint p1.last.At p0.At)) && (!sEq p1.tool ByteArray.empty)) && (sEq p1.last.Name p1.tool)) && (p1.dark != 0))))]) (LE [(1, bx b100 #[(iv p0.Kind), (sv p0.Name), (iv p0.At.X), (iv p0.At.Y), (.slice Ap0_0 (p0.Points).length cp0_0), (iv p0.NX), (iv p0.NY), (.slice Ap0_1 (p0.Steps).length cp0_1)] 49), (2, bx b101 #[(iv p1.dark), (sv p1.tool), (iv p1.place.X), (iv p1.place.Y), (.bool p1.placed), (iv p1.last.Kind), (sv p1.last.Name), (iv p1.last.At.X), (iv p1.last.At.Y), (.slice Ap1_0 (p1.last.Points).length cp1_0), (iv p1.last.NX), (iv p1.last.NY), (.slice Ap1_1 (p1.last.Steps).length cp1_1)] 99)]) _
            refine Tr.mv rfl rfl ?_
            refine Tr.mid0 7 [(104, (.bool (((((((p1.placed && (eqTPoint p1.place p0.At)) && (p1.last.Kind != 0)) && (eqTPoint p1.last.At p0.At)) && (!sEq p1.tool ByteArray.empty)) && (sEq p1.last.Name p1.tool)) && (p1.dark != 0)) && (p1.last.NX == p1.dark))))] [(1, bx b100 #[(iv p0.Kind), (sv p0.Name), (iv p0.At.X), (iv p0.At.Y), (.slice Ap0_0 (p0.Points).length cp0_0), (iv p0.NX), (iv p0.NY), (.slice Ap0_1 (p0.Steps).length cp0_1)] 49), (2, bx b101 #[(iv p1.dark), (sv p1.tool), (iv p1.place.X), (iv p1.place.Y), (.bool p1.placed), (iv p1.last.Kind), (sv p1.last.Name), (iv p1.last.At.X), (iv p1.last.At.Y), (.slice Ap1_0 (p1.last.Points).length cp1_0), (iv p1.last.NX), (iv p1.last.NY), (.slice Ap1_1 (p1.last.Steps).length cp1_1)] 99)] ?_ ?_
            ·cases hg116 : ((((((p1.placed && (eqTPoint p1.place p0.At)) && (p1.last.Kind != 0)) && (eqTPoint p1.last.At p0.At)) && (!sEq p1.tool ByteArray.empty)) && (sEq p1.last.Name p1.tool)) && (p1.dark != 0))
             ·refine Tr.pass rfl rfl rfl rfl rfl (by decide) ?_
              refine Tr.pass rfl rfl rfl rfl rfl (by decide) ?_
              refine Tr.pass rfl rfl rfl rfl rfl (by decide) ?_
              refine Tr.pass rfl rfl rfl rfl rfl (by decide) ?_
              refine Tr.pass rfl rfl rfl rfl rfl (by decide) ?_
              refine Tr.pass rfl rfl rfl rfl rfl (by decide) ?_
              refine Tr.va rfl (fun _ _ h1 h2 => run_pickF (h1.ev rfl) (h1.ev rfl)) ?_
              exact Tr.nil (Tr.fin0 (.cons rfl .nil) (.cons rfl (.cons rfl .nil)))
             ·refine Tr.val (wg rfl rfl rfl) rfl (fun _ _ h1 h2 => run_fieldAddr fo_99_4 (h1.ev rfl)) ?_
              refine Tr.val (wg rfl rfl rfl) rfl (fun _ _ h1 h2 => run_fieldAddr fo_49_4 (h1.ev rfl)) ?_
              refine Tr.val (wg rfl rfl rfl) rfl (fun _ _ h1 h2 => run_load1 ag_3 (h1.ev rfl) (rdb h2 (vs := [(iv p1.dark), (sv p1.tool), (iv p1.place.X), (iv p1.place.Y), (.bool p1.placed), (iv p1.last.Kind), (sv p1.last.Name), (iv p1.last.At.X), (iv p1.last.At.Y), (.slice Ap1_0 (p1.last.Points).length cp1_0), (iv p1.last.NX), (iv p1.last.NY), (.slice Ap1_1 (p1.last.Steps).length cp1_1)]) (k := 2) rfl 10) rfl) ?_
              refine Tr.val (wg rfl rfl rfl) rfl (fun _ _ h1 h2 => run_fieldAddr fo_99_0 (h1.ev rfl)) ?_
              refine Tr.val (wg rfl rfl rfl) rfl (fun _ _ h1 h2 => run_load1 ag_3 (h1.ev rfl) (rdb h2 (vs := [(iv p1.dark), (sv p1.tool), (iv p1.place.X), (iv p1.place.Y), (.bool p1.placed), (iv p1.last.Kind), (sv p1.last.Name), (iv p1.last.At.X), (iv p1.last.At.Y), (.slice Ap1_0 (p1.last.Points).length cp1_0), (iv p1.last.NX), (iv p1.last.NY), (.slice Ap1_1 (p1.last.Steps).length cp1_1)]) (k := 2) rfl 0) rfl) ?_
              refine Tr.val (wg rfl rfl rfl) rfl (fun _ _ h1 h2 => run_eql (h1.ev rfl) (h1.ev rfl)) ?_
              refine Tr.va rfl (fun _ _ h1 h2 => run_pickT (h1.ev rfl) (h1.ev rfl)) ?_
              exact Tr.nil (Tr.fin0 (.cons rfl .nil) (.cons rfl (.cons rfl .nil)))
            ·show Tr _ _ (LF [(104, (.bool (((((((p1.placed && (eqTPoint p1.place p0.At)) && (p1.last.Kind != 0)) && (eqTPoint p1.last.At p0.At)) && (!sEq p1.tool ByteArray.empty)) && (sEq p1.last.Name p1.tool)) && (p1.dark != 0)) && (p1.last.NX == p1.dark))))]) (LE [(1, bx b100 #[(iv p0.Kind), (sv p0.Name), (iv p0.At.X), (iv p0.At.Y), (.slice Ap0_0 (p0.Points).length cp0_0), (iv p0.NX), (iv p0.NY), (.slice Ap0_1 (p0.Steps).length cp0_1)] 49), (2, bx b101 #[(iv p1.dark), (sv p1.tool), (iv p1.place.X), (iv p1.place.Y), (.bool p1.placed), (iv p1.last.Kind), (sv p1.last.Name), (iv p1.last.At.X), (iv p1.last.At.Y), (.slice Ap1_0 (p1.last.Points).length cp1_0), (iv p1.last.NX), (iv p1.last.NY), (.slice Ap1_1 (p1.last.Steps).length cp1_1)] 99)]) _
             refine Tr.asg rfl rfl ?_
             refine Tr.nil (Tr.normThen ?_)
             refine Tr.ret (Tr.retBlock (Tr.retThen ?_))
             obtain rfl := Option.some.inj H
             exact Tr.out (m := [(.bool (((((((p1.placed && (eqTPoint p1.place p0.At)) && (p1.last.Kind != 0)) && (eqTPoint p1.last.At p0.At)) && (!sEq p1.tool ByteArray.empty)) && (sEq p1.last.Name p1.tool)) && (p1.dark != 0)) && (p1.last.NX == p1.dark)))]) [] (res_tmp rfl res_nil) (fun W hW => ⟨rfl, hW.low leB⟩)
     ·refine Tr.skip (Tr.normBlock (Tr.normThen ?_))
      refine Tr.sr ?_
      refine Tr.asg rfl rfl ?_
      refine Tr.nil (Tr.normThen ?_)
      refine Tr.ret ?_
      obtain rfl := Option.some.inj H
      exact Tr.out (m := [(.bool false)]) [] (res_tmp rfl res_nil) (fun W hW => ⟨rfl, hW.low leB⟩)

theorem F_plot_known__behind_ok {w : Bs} (p0 : TKnown) (Ap0_0 : Option Addr) (cp0_0 : Nat) (hp0_0 : Sl w.O w.W fl_TPoint Ap0_0 cp0_0 p0.last.Points) (Ap0_1 : Option Addr) (cp0_1 : Nat) (hp0_1 : Sl w.O w.W fl_TPlotStep Ap0_1 cp0_1 p0.last.Steps) (p1 : TPlotStep) (Ap1_0 : Option Addr) (cp1_0 : Nat) (hp1_0 : Sl w.R w.W fl_TPoint Ap1_0 cp1_0 p1.Points) (Ap1_1 : Option Addr) (cp1_1 : Nat) (hp1_1 : Sl w.R w.W fl_TPlotStep Ap1_1 cp1_1 p1.Steps) (r : TKnown) (H : F_plot_known__behind p0 p1 = some r) (hE : HF w w.W (LEn [])) : Calls Tryz.prog 58 [(.agg #[(iv p0.dark), (sv p0.tool), (iv p0.place.X), (iv p0.place.Y), (.bool p0.placed), (iv p0.last.Kind), (sv p0.last.Name), (iv p0.last.At.X), (iv p0.last.At.Y), (.slice Ap0_0 (p0.last.Points).length cp0_0), (iv p0.last.NX), (iv p0.last.NY), (.slice Ap0_1 (p0.last.Steps).length cp0_1)]), (.agg #[(iv p1.Kind), (sv p1.Name), (iv p1.At.X), (iv p1.At.Y), (.slice Ap1_0 (p1.Points).length cp1_0), (iv p1.NX), (iv p1.NY), (.slice Ap1_1 (p1.Steps).length cp1_1)])].toArray w.W fun e W' => ∃ (w' : Bs) (u : (Option Addr × Nat) × (Option Addr × Nat)), w.Le w' ∧ e = .returned (.agg #[(iv r.dark), (sv r.tool), (iv r.place.X), (iv r.place.Y), (.bool r.placed), (iv r.last.Kind), (sv r.last.Name), (iv r.last.At.X), (iv r.last.At.Y), (.slice u.1.1 (r.last.Points).length u.1.2), (iv r.last.NX), (iv r.last.NY), (.slice u.2.1 (r.last.Steps).length u.2.2)]) ∧ (Sl w'.O w'.W fl_TPoint u.1.1 u.1.2 r.last.Points ∧ Sl w'.O w'.W fl_TPlotStep u.2.1 u.2.2 r.last.Steps) ∧ HF w' W' (LEn []) := by
 unfold F_plot_known__behind at H
 have leB := Bs.Le.refl w
 refine Tr.enter (n := 49) Tryz.func58 rfl rfl rfl hE ?_
 refine Tr.sr ?_
 refine Tr.box 1 (cs := [(iv p0.dark), (sv p0.tool), (iv p0.place.X), (iv p0.place.Y), (.bool p0.placed), (iv p0.last.Kind), (sv p0.last.Name), (iv p0.last.At.X), (iv p0.last.At.Y), (.slice Ap0_0 (p0.last.Points).length cp0_0), (iv p0.last.NX), (iv p0.last.NY), (.slice Ap0_1 (p0.last.Steps).length cp0_1)]) (wn rfl) rfl rfl rfl fun b100 => ?_
 refine Tr.box 2 (cs := [(iv p1.Kind), (sv p1.Name), (iv p1.At.X), (iv p1.At.Y), (.slice Ap1_0 (p1.Points).length cp1_0), (iv p1.NX), (iv p1.NY), (.slice Ap1_1 (p1.Steps).length cp1_1)]) (wn rfl) rfl rfl rfl fun b101 => ?_
 refine Tr.alloc 3 (wn rfl) rfl ze_99 fun b102 => ?_
 refine Tr.nil (Tr.normThen ?_)
 have leJ122 := Bs.Le.refl w
 refine Tr.cutJ (σ := Int × ByteArray × Int × Int × Bool × Int × ByteArray × Int × Int × (List TPoint) × Int × Int × (List TPlotStep) × (Option Addr) × Nat × (Option Addr) × Nat) (fun w s => F_plot_known__behind_J3 s.1 s.2.1 s.2.2.1 s.2.2.2.1 s.2.2.2.2.1 s.2.2.2.2.2.1 s.2.2.2.2.2.2.1 s.2.2.2.2.2.2.2.1 s.2.2.2.2.2.2.2.2.1 s.2.2.2.2.2.2.2.2.2.1 s.2.2.2.2.2.2.2.2.2.2.1 s.2.2.2.2.2.2.2.2.2.2.2.1 s.2.2.2.2.2.2.2.2.2.2.2.2.1 = some r ∧ Sl w.O w.W fl_TPoint s.2.2.2.2.2.2.2.2.2.2.2.2.2.1 s.2.2.2.2.2.2.2.2.2.2.2.2.2.2.1 s.2.2.2.2.2.2.2.2.2.1 ∧ Sl w.O w.W fl_TPlotStep s.2.2.2.2.2.2.2.2.2.2.2.2.2.2.2.1 s.2.2.2.2.2.2.2.2.2.2.2.2.2.2.2.2 s.2.2.2.2.2.2.2.2.2.2.2.2.1) (fun s => [(2, (.pointer (some ⟨b100, 0, none⟩))), (4, (.pointer (some ⟨b102, 0, none⟩)))]) (fun s => [(1, bx b100 #[(iv s.1), (sv s.2.1), (iv s.2.2.1), (iv s.2.2.2.1), (.bool s.2.2.2.2.1), (iv s.2.2.2.2.2.1), (sv s.2.2.2.2.2.2.1), (iv s.2.2.2.2.2.2.2.1), (iv s.2.2.2.2.2.2.2.2.1), (.slice s.2.2.2.2.2.2.2.2.2.2.2.2.2.1 (s.2.2.2.2.2.2.2.2.2.1).length s.2.2.2.2.2.2.2.2.2.2.2.2.2.2.1), (iv s.2.2.2.2.2.2.2.2.2.2.1), (iv s.2.2.2.2.2.2.2.2.2.2.2.1), (.slice s.2.2.2.2.2.2.2.2.2.2.2.2.2.2.2.1 (s.2.2.2.2.2.2.2.2.2.2.2.2.1).length s.2.2.2.2.2.2.2.2.2.2.2.2.2.2.2.2)] 99), (3, bx b102 #[(iv 0), (sv ⟨#[]⟩), (iv 0), (iv 0), (.bool false), (iv 0), (sv ⟨#[]⟩), (iv 0), (iv 0), (.slice none 0 0), (iv 0), (iv 0), (.slice none 0 0)] 99)]) ?_ ?_
 ·refine Tr.sr ?_
  refine Tr.va rfl (fun _ _ h1 h2 => run_fieldAddr fo_49_0 (h1.ev rfl)) ?_
  refine Tr.va rfl (fun _ _ h1 h2 => run_load1 ag_3 (h1.ev rfl) (rdb h2 (vs := [(iv p1.Kind), (sv p1.Name), (iv p1.At.X), (iv p1.At.Y), (.slice Ap1_0 (p1.Points).length cp1_0), (iv p1.NX), (iv p1.NY), (.slice Ap1_1 (p1.Steps).length cp1_1)]) (k := 2) rfl 0) rfl) ?_
  refine Tr.nil (Tr.normThen ?_)
  refine Tr.block ?_
  have leJ125 := Bs.Le.refl w
  refine Tr.cutJ (σ := Bool) (fun w s => F_plot_known__behind_J5 p0 p1 s = some r) (fun s => [(2, (.pointer (some ⟨b100, 0, none⟩))), (3, (.pointer (some ⟨b101, 0, none⟩))), (4, (.pointer (some ⟨b102, 0, none⟩))), (6, (iv p1.Kind)), (7, (.bool s))]) (fun s => [(1, bx b100 #[(iv p0.dark), (sv p0.tool), (iv p0.place.X), (iv p0.place.Y), (.bool p0.placed), (iv p0.last.Kind), (sv p0.last.Name), (iv p0.last.At.X), (iv p0.last.At.Y), (.slice Ap0_0 (p0.last.Points).length cp0_0), (iv p0.last.NX), (iv p0.last.NY), (.slice Ap0_1 (p0.last.Steps).length cp0_1)] 99), (2, bx b101 #[(iv p1.Kind), (sv p1.Name), (iv p1.At.X), (iv p1.At.Y), (.slice Ap1_0 (p1.Points).length cp1_0), (iv p1.NX), (iv p1.NY), (.slice Ap1_1 (p1.Steps).length cp1_1)] 49), (3, bx b102 #[(iv 0), (sv ⟨#[]⟩), (iv 0), (iv 0), (.bool false), (iv 0), (sv ⟨#[]⟩), (iv 0), (iv 0), (.slice none 0 0), (iv 0), (iv 0), (.slice none 0 0)] 99)]) ?_ ?_
  ·refine Tr.sr ?_
   refine Tr.va rfl (fun _ _ h1 h2 => run_eql (h1.ev rfl) (h1.ev rfl)) ?_
   refine Tr.asg rfl rfl ?_
   refine Tr.nil (Tr.normThen ?_)
   refine Tr.cond rfl H (fun H => ?_) (fun H => ?_)
   ·refine Tr.skip ?_
    exact Tr.backThen leJ125 (p1.Kind == 1) H (.cons rfl (.cons rfl (.cons rfl (.cons rfl (.cons rfl .nil))))) (.cons rfl (.cons rfl (.cons rfl .nil)))
   ·refine Tr.region ?_
    refine Tr.va rfl (fun _ _ h1 h2 => run_eql (h1.ev rfl) (h1.ev rfl)) ?_
    refine Tr.asg rfl rfl ?_
    refine Tr.nil ?_
    exact Tr.backThen leJ125 (p1.Kind == 2) H (.cons rfl (.cons rfl (.cons rfl (.cons rfl (.cons rfl .nil))))) (.cons rfl (.cons rfl (.cons rfl .nil)))
  ·intro w x124 hlJ126 hs
   have H := hs
   replace H : F_plot_known__behind_J5 p0 p1 x124 = some r := H
   replace hp0_0 := hp0_0.le hlJ126
   replace hp0_1 := hp0_1.le hlJ126
   replace hp1_0 := hp1_0.leR hlJ126
   replace hp1_1 := hp1_1.leR hlJ126
   replace leB := leB.trans hlJ126
   replace leJ122 := leJ122.trans hlJ126
   unfold F_plot_known__behind_J5 at H
   show Tr _ _ (LF [(2, (.pointer (some ⟨b100, 0, none⟩))), (3, (.pointer (some ⟨b101, 0, none⟩))), (4, (.pointer (some ⟨b102, 0, none⟩))), (6, (iv p1.Kind)), (7, (.bool x124))]) (LE [(1, bx b100 #[(iv p0.dark), (sv p0.tool), (iv p0.place.X), (iv p0.place.Y), (.bool p0.placed), (iv p0.last.Kind), (sv p0.last.Name), (iv p0.last.At.X), (iv p0.last.At.Y), (.slice Ap0_0 (p0.last.Points).length cp0_0), (iv p0.last.NX), (iv p0.last.NY), (.slice Ap0_1 (p0.last.Steps).length cp0_1)] 99), (2, bx b101 #[(iv p1.Kind), (sv p1.Name), (iv p1.At.X), (iv p1.At.Y), (.slice Ap1_0 (p1.Points).length cp1_0), (iv p1.NX), (iv p1.NY), (.slice Ap1_1 (p1.Steps).length cp1_1)] 49), (3, bx b102 #[(iv 0), (sv ⟨#[]⟩), (iv 0), (iv 0), (.bool false), (iv 0), (sv ⟨#[]⟩), (iv 0), (iv 0), (.slice none 0 0), (iv 0), (iv 0), (.slice none 0 0)] 99)]) _
   refine Tr.cond rfl H (fun H => ?_) (fun H => ?_)
   ·refine Tr.region ?_
    refine Tr.va rfl (fun _ _ h1 h2 => run_fieldAddr fo_49_0 (h1.ev rfl)) ?_
    refine Tr.va rfl (fun _ _ h1 h2 => run_load1 ag_3 (h1.ev rfl) (rdb h2 (vs := [(iv p1.Kind), (sv p1.Name), (iv p1.At.X), (iv p1.At.Y), (.slice Ap1_0 (p1.Points).length cp1_0), (iv p1.NX), (iv p1.NY), (.slice Ap1_1 (p1.Steps).length cp1_1)]) (k := 2) rfl 0) rfl) ?_
    refine Tr.va rfl (fun _ _ h1 h2 => run_fieldAddr fo_99_0 (h1.ev rfl)) ?_
    refine Tr.store 1 (cs := [(iv p1.Kind)]) [(iv p1.Kind), (sv p0.tool), (iv p0.place.X), (iv p0.place.Y), (.bool p0.placed), (iv p0.last.Kind), (sv p0.last.Name), (iv p0.last.At.X), (iv p0.last.At.Y), (.slice Ap0_0 (p0.last.Points).length cp0_0), (iv p0.last.NX), (iv p0.last.NY), (.slice Ap0_1 (p0.last.Steps).length cp0_1)] (wn rfl) rfl rfl rfl rfl sz_3 rfl rfl rfl ?_
    refine Tr.nil (Tr.normBlock ?_)
    exact Tr.backThen leJ122 (p1.Kind, p0.tool, p0.place.X, p0.place.Y, p0.placed, p0.last.Kind, p0.last.Name, p0.last.At.X, p0.last.At.Y, p0.last.Points, p0.last.NX, p0.last.NY, p0.last.Steps, Ap0_0, cp0_0, Ap0_1, cp0_1) ⟨H, hp0_0, hp0_1⟩ (.cons rfl (.cons rfl .nil)) (.cons rfl (.cons rfl .nil))
   ·refine Tr.sr ?_
    refine Tr.va rfl (fun _ _ h1 h2 => run_eql (h1.ev rfl) (h1.ev rfl)) ?_
    refine Tr.asg rfl rfl ?_
    refine Tr.nil (Tr.normThen ?_)
    refine Tr.cond rfl H (fun H => ?_) (fun H => ?_)
    ·refine Tr.region ?_
     refine Tr.va rfl (fun _ _ h1 h2 => run_fieldAddr fo_49_1 (h1.ev rfl)) ?_
     refine Tr.va rfl (fun _ _ h1 h2 => run_load1 ag_9 (h1.ev rfl) (rdb h2 (vs := [(iv p1.Kind), (sv p1.Name), (iv p1.At.X), (iv p1.At.Y), (.slice Ap1_0 (p1.Points).length cp1_0), (iv p1.NX), (iv p1.NY), (.slice Ap1_1 (p1.Steps).length cp1_1)]) (k := 2) rfl 1) rfl) ?_
     refine Tr.va rfl (fun _ _ h1 h2 => run_fieldAddr fo_99_1 (h1.ev rfl)) ?_
     refine Tr.store 1 (cs := [(sv p1.Name)]) [(iv p0.dark), (sv p1.Name), (iv p0.place.X), (iv p0.place.Y), (.bool p0.placed), (iv p0.last.Kind), (sv p0.last.Name), (iv p0.last.At.X), (iv p0.last.At.Y), (.slice Ap0_0 (p0.last.Points).length cp0_0), (iv p0.last.NX), (iv p0.last.NY), (.slice Ap0_1 (p0.last.Steps).length cp0_1)] (wn rfl) rfl rfl rfl rfl sz_9 rfl rfl rfl ?_
     refine Tr.nil (Tr.normBlock ?_)
     exact Tr.backThen leJ122 (p0.dark, p1.Name, p0.place.X, p0.place.Y, p0.placed, p0.last.Kind, p0.last.Name, p0.last.At.X, p0.last.At.Y, p0.last.Points, p0.last.NX, p0.last.NY, p0.last.Steps, Ap0_0, cp0_0, Ap0_1, cp0_1) ⟨H, hp0_0, hp0_1⟩ (.cons rfl (.cons rfl .nil)) (.cons rfl (.cons rfl .nil))
    ·refine Tr.sr ?_
     refine Tr.va rfl (fun _ _ h1 h2 => run_eql (h1.ev rfl) (h1.ev rfl)) ?_
     refine Tr.asg rfl rfl ?_
     refine Tr.nil (Tr.normThen ?_)
     refine Tr.cond rfl H (fun H => ?_) (fun H => ?_)
     ·refine Tr.region ?_
      refine Tr.va rfl (fun _ _ h1 h2 => run_fieldAddr fo_49_2 (h1.ev rfl)) ?_
      refine Tr.va rfl (fun _ _ h1 h2 => run_loadN (cs := [(iv p1.At.X), (iv p1.At.Y)]) ag_42 sz_42 (h1.ev rfl) (CellsAt.take (rdb h2 (vs := [(iv p1.Kind), (sv p1.Name), (iv p1.At.X), (iv p1.At.Y), (.slice Ap1_0 (p1.Points).length cp1_0), (iv p1.NX), (iv p1.NY), (.slice Ap1_1 (p1.Steps).length cp1_1)]) (k := 2) rfl 2) 2) rfl) ?_
      refine Tr.va rfl (fun _ _ h1 h2 => run_fieldAddr fo_99_2 (h1.ev rfl)) ?_
      refine Tr.store 1 (cs := [(iv p1.At.X), (iv p1.At.Y)]) [(iv p0.dark), (sv p0.tool), (iv p1.At.X), (iv p1.At.Y), (.bool p0.placed), (iv p0.last.Kind), (sv p0.last.Name), (iv p0.last.At.X), (iv p0.last.At.Y), (.slice Ap0_0 (p0.last.Points).length cp0_0), (iv p0.last.NX), (iv p0.last.NY), (.slice Ap0_1 (p0.last.Steps).length cp0_1)] (wn rfl) rfl rfl rfl rfl sz_42 rfl rfl rfl ?_
      refine Tr.va rfl (fun _ _ h1 h2 => run_fieldAddr fo_99_3 (h1.ev rfl)) ?_
      refine Tr.store 1 (cs := [(.bool true)]) [(iv p0.dark), (sv p0.tool), (iv p1.At.X), (iv p1.At.Y), (.bool true), (iv p0.last.Kind), (sv p0.last.Name), (iv p0.last.At.X), (iv p0.last.At.Y), (.slice Ap0_0 (p0.last.Points).length cp0_0), (iv p0.last.NX), (iv p0.last.NY), (.slice Ap0_1 (p0.last.Steps).length cp0_1)] (wn rfl) rfl rfl rfl rfl sz_4 rfl rfl rfl ?_
      refine Tr.nil (Tr.normBlock ?_)
      exact Tr.backThen leJ122 (p0.dark, p0.tool, p1.At.X, p1.At.Y, true, p0.last.Kind, p0.last.Name, p0.last.At.X, p0.last.At.Y, p0.last.Points, p0.last.NX, p0.last.NY, p0.last.Steps, Ap0_0, cp0_0, Ap0_1, cp0_1) ⟨H, hp0_0, hp0_1⟩ (.cons rfl (.cons rfl .nil)) (.cons rfl (.cons rfl .nil))
     ·have leJ128 := Bs.Le.refl w
      refine Tr.cutJ (σ := Bool) (fun w s => F_plot_known__behind_J4 p0 p1 s = some r) (fun s => [(2, (.pointer (some ⟨b100, 0, none⟩))), (3, (.pointer (some ⟨b101, 0, none⟩))), (4, (.pointer (some ⟨b102, 0, none⟩))), (6, (iv p1.Kind)), (24, (.bool s))]) (fun s => [(1, bx b100 #[(iv p0.dark), (sv p0.tool), (iv p0.place.X), (iv p0.place.Y), (.bool p0.placed), (iv p0.last.Kind), (sv p0.last.Name), (iv p0.last.At.X), (iv p0.last.At.Y), (.slice Ap0_0 (p0.last.Points).length cp0_0), (iv p0.last.NX), (iv p0.last.NY), (.slice Ap0_1 (p0.last.Steps).length cp0_1)] 99), (2, bx b101 #[(iv p1.Kind), (sv p1.Name), (iv p1.At.X), (iv p1.At.Y), (.slice Ap1_0 (p1.Points).length cp1_0), (iv p1.NX), (iv p1.NY), (.slice Ap1_1 (p1.Steps).length cp1_1)] 49), (3, bx b102 #[(iv 0), (sv ⟨#[]⟩), (iv 0), (iv 0), (.bool false), (iv 0), (sv ⟨#[]⟩), (iv 0), (iv 0), (.slice none 0 0), (iv 0), (iv 0), (.slice none 0 0)] 99)]) ?_ ?_
      ·refine Tr.sr ?_
       refine Tr.va rfl (fun _ _ h1 h2 => run_eql (h1.ev rfl) (h1.ev rfl)) ?_
       refine Tr.asg rfl rfl ?_
       refine Tr.nil (Tr.normThen ?_)
       refine Tr.cond rfl H (fun H => ?_) (fun H => ?_)
       ·refine Tr.skip ?_
        exact Tr.backThen leJ128 (p1.Kind == 5) H (.cons rfl (.cons rfl (.cons rfl (.cons rfl (.cons rfl .nil))))) (.cons rfl (.cons rfl (.cons rfl .nil)))
       ·refine Tr.region ?_
        refine Tr.va rfl (fun _ _ h1 h2 => run_eql (h1.ev rfl) (h1.ev rfl)) ?_
        refine Tr.asg rfl rfl ?_
        refine Tr.nil ?_
        exact Tr.backThen leJ128 (p1.Kind == 6) H (.cons rfl (.cons rfl (.cons rfl (.cons rfl (.cons rfl .nil))))) (.cons rfl (.cons rfl (.cons rfl .nil)))
      ·intro w x127 hlJ129 hs
       have H := hs
       replace H : F_plot_known__behind_J4 p0 p1 x127 = some r := H
       replace hp0_0 := hp0_0.le hlJ129
       replace hp0_1 := hp0_1.le hlJ129
       replace hp1_0 := hp1_0.leR hlJ129
       replace hp1_1 := hp1_1.leR hlJ129
       replace leB := leB.trans hlJ129
       replace leJ122 := leJ122.trans hlJ129
       unfold F_plot_known__behind_J4 at H
       show Tr _ _ (LF [(2, (.pointer (some ⟨b100, 0, none⟩))), (3, (.pointer (some ⟨b101, 0, none⟩))), (4, (.pointer (some ⟨b102, 0, none⟩))), (6, (iv p1.Kind)), (24, (.bool x127))]) (LE [(1, bx b100 #[(iv p0.dark), (sv p0.tool), (iv p0.place.X), (iv p0.place.Y), (.bool p0.placed), (iv p0.last.Kind), (sv p0.last.Name), (iv p0.last.At.X), (iv p0.last.At.Y), (.slice Ap0_0 (p0.last.Points).length cp0_0), (iv p0.last.NX), (iv p0.last.NY), (.slice Ap0_1 (p0.last.Steps).length cp0_1)] 99), (2, bx b101 #[(iv p1.Kind), (sv p1.Name), (iv p1.At.X), (iv p1.At.Y), (.slice Ap1_0 (p1.Points).length cp1_0), (iv p1.NX), (iv p1.NY), (.slice Ap1_1 (p1.Steps).length cp1_1)] 49), (3, bx b102 #[(iv 0), (sv ⟨#[]⟩), (iv 0), (iv 0), (.bool false), (iv 0), (sv ⟨#[]⟩), (iv 0), (iv 0), (.slice none 0 0), (iv 0), (iv 0), (.slice none 0 0)] 99)]) _
       refine Tr.cond rfl H (fun H => ?_) (fun H => ?_)
       ·refine Tr.sr ?_
        refine Tr.va rfl (fun _ _ h1 h2 => run_fieldAddr fo_49_2 (h1.ev rfl)) ?_
        refine Tr.va rfl (fun _ _ h1 h2 => run_loadN (cs := [(iv p1.At.X), (iv p1.At.Y)]) ag_42 sz_42 (h1.ev rfl) (CellsAt.take (rdb h2 (vs := [(iv p1.Kind), (sv p1.Name), (iv p1.At.X), (iv p1.At.Y), (.slice Ap1_0 (p1.Points).length cp1_0), (iv p1.NX), (iv p1.NY), (.slice Ap1_1 (p1.Steps).length cp1_1)]) (k := 2) rfl 2) 2) rfl) ?_
        refine Tr.va rfl (fun _ _ h1 h2 => run_fieldAddr fo_99_2 (h1.ev rfl)) ?_
        refine Tr.store 1 (cs := [(iv p1.At.X), (iv p1.At.Y)]) [(iv p0.dark), (sv p0.tool), (iv p1.At.X), (iv p1.At.Y), (.bool p0.placed), (iv p0.last.Kind), (sv p0.last.Name), (iv p0.last.At.X), (iv p0.last.At.Y), (.slice Ap0_0 (p0.last.Points).length cp0_0), (iv p0.last.NX), (iv p0.last.NY), (.slice Ap0_1 (p0.last.Steps).length cp0_1)] (wn rfl) rfl rfl rfl rfl sz_42 rfl rfl rfl ?_
        refine Tr.va rfl (fun _ _ h1 h2 => run_fieldAddr fo_99_3 (h1.ev rfl)) ?_
        refine Tr.store 1 (cs := [(.bool true)]) [(iv p0.dark), (sv p0.tool), (iv p1.At.X), (iv p1.At.Y), (.bool true), (iv p0.last.Kind), (sv p0.last.Name), (iv p0.last.At.X), (iv p0.last.At.Y), (.slice Ap0_0 (p0.last.Points).length cp0_0), (iv p0.last.NX), (iv p0.last.NY), (.slice Ap0_1 (p0.last.Steps).length cp0_1)] (wn rfl) rfl rfl rfl rfl sz_4 rfl rfl rfl ?_
        refine Tr.nil (Tr.normThen ?_)
        refine Tr.region ?_
        refine Tr.va rfl (fun _ _ h1 h2 => run_fieldAddr fo_49_0 (h1.ev rfl)) ?_
        refine Tr.va rfl (fun _ _ h1 h2 => run_load1 ag_3 (h1.ev rfl) (rdb h2 (vs := [(iv p1.Kind), (sv p1.Name), (iv p1.At.X), (iv p1.At.Y), (.slice Ap1_0 (p1.Points).length cp1_0), (iv p1.NX), (iv p1.NY), (.slice Ap1_1 (p1.Steps).length cp1_1)]) (k := 2) rfl 0) rfl) ?_
        refine Tr.va rfl (fun _ _ h1 h2 => run_fieldAddr fo_49_2 (h1.ev rfl)) ?_
        refine Tr.va rfl (fun _ _ h1 h2 => run_loadN (cs := [(iv p1.At.X), (iv p1.At.Y)]) ag_42 sz_42 (h1.ev rfl) (CellsAt.take (rdb h2 (vs := [(iv p1.Kind), (sv p1.Name), (iv p1.At.X), (iv p1.At.Y), (.slice Ap1_0 (p1.Points).length cp1_0), (iv p1.NX), (iv p1.NY), (.slice Ap1_1 (p1.Steps).length cp1_1)]) (k := 2) rfl 2) 2) rfl) ?_
        refine Tr.va rfl (fun _ _ h1 h2 => run_fieldAddr fo_99_1 (h1.ev rfl)) ?_
        refine Tr.va rfl (fun _ _ h1 h2 => run_load1 ag_9 (h1.ev rfl) (rdb h2 (vs := [(iv p0.dark), (sv p0.tool), (iv p1.At.X), (iv p1.At.Y), (.bool true), (iv p0.last.Kind), (sv p0.last.Name), (iv p0.last.At.X), (iv p0.last.At.Y), (.slice Ap0_0 (p0.last.Points).length cp0_0), (iv p0.last.NX), (iv p0.last.NY), (.slice Ap0_1 (p0.last.Steps).length cp0_1)]) (k := 1) rfl 1) rfl) ?_
        refine Tr.va rfl (fun _ _ h1 h2 => run_fieldAddr fo_99_0 (h1.ev rfl)) ?_
        refine Tr.va rfl (fun _ _ h1 h2 => run_load1 ag_3 (h1.ev rfl) (rdb h2 (vs := [(iv p0.dark), (sv p0.tool), (iv p1.At.X), (iv p1.At.Y), (.bool true), (iv p0.last.Kind), (sv p0.last.Name), (iv p0.last.At.X), (iv p0.last.At.Y), (.slice Ap0_0 (p0.last.Points).length cp0_0), (iv p0.last.NX), (iv p0.last.NY), (.slice Ap0_1 (p0.last.Steps).length cp0_1)]) (k := 1) rfl 0) rfl) ?_
        refine Tr.build (vs := [(0, (iv p1.Kind)), (2, (.agg #[(iv p1.At.X), (iv p1.At.Y)])), (1, (sv p0.tool)), (4, (iv p0.dark))]) (cs := [(iv p1.Kind), (sv p0.tool), (iv p1.At.X), (iv p1.At.Y), (.slice none 0 0), (iv p0.dark), (iv 0), (.slice none 0 0)]) (wn rfl) rfl (evs_cons rfl (evs_cons rfl (evs_cons rfl (evs_cons rfl evs_nil)))) (by kernel_rfl) ?_
        refine Tr.va rfl (fun _ _ h1 h2 => run_fieldAddr fo_99_4 (h1.ev rfl)) ?_
        refine Tr.store 1 (cs := [(iv p1.Kind), (sv p0.tool), (iv p1.At.X), (iv p1.At.Y), (.slice none 0 0), (iv p0.dark), (iv 0), (.slice none 0 0)]) [(iv p0.dark), (sv p0.tool), (iv p1.At.X), (iv p1.At.Y), (.bool true), (iv p1.Kind), (sv p0.tool), (iv p1.At.X), (iv p1.At.Y), (.slice none 0 0), (iv p0.dark), (iv 0), (.slice none 0 0)] (wn rfl) rfl rfl rfl rfl sz_49 rfl rfl rfl ?_
        refine Tr.nil (Tr.normBlock ?_)
        exact Tr.backThen leJ122 (p0.dark, p0.tool, p1.At.X, p1.At.Y, true, p1.Kind, p0.tool, p1.At.X, p1.At.Y, [], p0.dark, 0, [], none, 0, none, 0) ⟨H, (Sl.nil _ _ _), (Sl.nil _ _ _)⟩ (.cons rfl (.cons rfl .nil)) (.cons rfl (.cons rfl .nil))
       ·refine Tr.sr ?_
        refine Tr.va rfl (fun _ _ h1 h2 => run_eql (h1.ev rfl) (h1.ev rfl)) ?_
        refine Tr.asg rfl rfl ?_
        refine Tr.nil (Tr.normThen ?_)
        refine Tr.cond rfl H (fun H => ?_) (fun H => ?_)
        ·refine Tr.region ?_
         refine Tr.build (vs := []) (cs := [(iv 0), (sv ⟨#[]⟩), (iv 0), (iv 0), (.slice none 0 0), (iv 0), (iv 0), (.slice none 0 0)]) (wn rfl) rfl evs_nil (by kernel_rfl) ?_
         refine Tr.va rfl (fun _ _ h1 h2 => run_fieldAddr fo_99_4 (h1.ev rfl)) ?_
         refine Tr.store 1 (cs := [(iv 0), (sv ⟨#[]⟩), (iv 0), (iv 0), (.slice none 0 0), (iv 0), (iv 0), (.slice none 0 0)]) [(iv p0.dark), (sv p0.tool), (iv p0.place.X), (iv p0.place.Y), (.bool p0.placed), (iv 0), (sv ⟨#[]⟩), (iv 0), (iv 0), (.slice none 0 0), (iv 0), (iv 0), (.slice none 0 0)] (wn rfl) rfl rfl rfl rfl sz_49 rfl rfl rfl ?_
         refine Tr.nil (Tr.normBlock ?_)
         exact Tr.backThen leJ122 (p0.dark, p0.tool, p0.place.X, p0.place.Y, p0.placed, 0, ⟨#[]⟩, 0, 0, [], 0, 0, [], none, 0, none, 0) ⟨H, (Sl.nil _ _ _), (Sl.nil _ _ _)⟩ (.cons rfl (.cons rfl .nil)) (.cons rfl (.cons rfl .nil))
        ·refine Tr.sr ?_
         refine Tr.va rfl (fun _ _ h1 h2 => run_eql (h1.ev rfl) (h1.ev rfl)) ?_
         refine Tr.asg rfl rfl ?_
         refine Tr.nil (Tr.normThen ?_)
         refine Tr.cond rfl H (fun H => ?_) (fun H => ?_)
         ·refine Tr.region ?_
          refine Tr.build (vs := []) (cs := [(iv 0), (sv ⟨#[]⟩), (iv 0), (iv 0), (.bool false), (iv 0), (sv ⟨#[]⟩), (iv 0), (iv 0), (.slice none 0 0), (iv 0), (iv 0), (.slice none 0 0)]) (wn rfl) rfl evs_nil (by kernel_rfl) ?_
          refine Tr.store 1 (cs := [(iv 0), (sv ⟨#[]⟩), (iv 0), (iv 0), (.bool false), (iv 0), (sv ⟨#[]⟩), (iv 0), (iv 0), (.slice none 0 0), (iv 0), (iv 0), (.slice none 0 0)]) [(iv 0), (sv ⟨#[]⟩), (iv 0), (iv 0), (.bool false), (iv 0), (sv ⟨#[]⟩), (iv 0), (iv 0), (.slice none 0 0), (iv 0), (iv 0), (.slice none 0 0)] (wn rfl) rfl rfl rfl rfl sz_99 rfl rfl rfl ?_
          refine Tr.nil (Tr.normBlock ?_)
          exact Tr.backThen leJ122 (0, ⟨#[]⟩, 0, 0, false, 0, ⟨#[]⟩, 0, 0, [], 0, 0, [], none, 0, none, 0) ⟨H, (Sl.nil _ _ _), (Sl.nil _ _ _)⟩ (.cons rfl (.cons rfl .nil)) (.cons rfl (.cons rfl .nil))
         ·refine Tr.skip (Tr.normBlock ?_)
          exact Tr.backThen leJ122 (p0.dark, p0.tool, p0.place.X, p0.place.Y, p0.placed, p0.last.Kind, p0.last.Name, p0.last.At.X, p0.last.At.Y, p0.last.Points, p0.last.NX, p0.last.NY, p0.last.Steps, Ap0_0, cp0_0, Ap0_1, cp0_1) ⟨H, hp0_0, hp0_1⟩ (.cons rfl (.cons rfl .nil)) (.cons rfl (.cons rfl .nil))
 ·intro w s hlJ123 hs
  obtain ⟨x109, x110, x111, x112, x113, x114, x115, x116, x117, l118, x119, x120, l121, Al118, cl118, Al121, cl121⟩ := s
  obtain ⟨H, hl118, hl121⟩ := hs
  replace H : F_plot_known__behind_J3 x109 x110 x111 x112 x113 x114 x115 x116 x117 l118 x119 x120 l121 = some r := H
  replace leB := leB.trans hlJ123
  replace hl118 : Sl w.O w.W fl_TPoint Al118 cl118 l118 := hl118
  replace hl121 : Sl w.O w.W fl_TPlotStep Al121 cl121 l121 := hl121
  unfold F_plot_known__behind_J3 at H
  show Tr _ _ (LF [(2, (.pointer (some ⟨b100, 0, none⟩))), (4, (.pointer (some ⟨b102, 0, none⟩)))]) (LE [(1, bx b100 #[(iv x109), (sv x110), (iv x111), (iv x112), (.bool x113), (iv x114), (sv x115), (iv x116), (iv x117), (.slice Al118 (l118).length cl118), (iv x119), (iv x120), (.slice Al121 (l121).length cl121)] 99), (3, bx b102 #[(iv 0), (sv ⟨#[]⟩), (iv 0), (iv 0), (.bool false), (iv 0), (sv ⟨#[]⟩), (iv 0), (iv 0), (.slice none 0 0), (iv 0), (iv 0), (.slice none 0 0)] 99)]) _
  refine Tr.sr ?_
  refine Tr.va rfl (fun _ _ h1 h2 => run_loadN (cs := [(iv x109), (sv x110), (iv x111), (iv x112), (.bool x113), (iv x114), (sv x115), (iv x116), (iv x117), (.slice Al118 (l118).length cl118), (iv x119), (iv x120), (.slice Al121 (l121).length cl121)]) ag_99 sz_99 (h1.ev rfl) (CellsAt.take (rdb h2 (vs := [(iv x109), (sv x110), (iv x111), (iv x112), (.bool x113), (iv x114), (sv x115), (iv x116), (iv x117), (.slice Al118 (l118).length cl118), (iv x119), (iv x120), (.slice Al121 (l121).length cl121)]) (k := 1) rfl 0) 13) rfl) ?_
  refine Tr.store 3 (cs := [(iv x109), (sv x110), (iv x111), (iv x112), (.bool x113), (iv x114), (sv x115), (iv x116), (iv x117), (.slice Al118 (l118).length cl118), (iv x119), (iv x120), (.slice Al121 (l121).length cl121)]) [(iv x109), (sv x110), (iv x111), (iv x112), (.bool x113), (iv x114), (sv x115), (iv x116), (iv x117), (.slice Al118 (l118).length cl118), (iv x119), (iv x120), (.slice Al121 (l121).length cl121)] (wn rfl) rfl rfl rfl rfl sz_99 rfl rfl rfl ?_
  refine Tr.nil (Tr.normThen ?_)
  refine Tr.ret ?_
  obtain rfl := Option.some.inj H
  exact Tr.out (m := [(.agg #[(iv x109), (sv x110), (iv x111), (iv x112), (.bool x113), (iv x114), (sv x115), (iv x116), (iv x117), (.slice Al118 (l118).length cl118), (iv x119), (iv x120), (.slice Al121 (l121).length cl121)])]) [3] (res_cell rfl rfl ag_99 sz_99 res_nil) (fun W hW => ⟨w, ((Al118, cl118), (Al121, cl121)), leB, rfl, ⟨hl118, hl121⟩, hW.pick (ks := []) (by decide) pk_nil⟩)

theorem F_plot_without_ok {w : Bs} (p0 : (List TPlotStep)) (Ap0_0 : Option Addr) (cp0_0 : Nat) (hp0_0 : Sl w.R w.W fl_TPlotStep Ap0_0 cp0_0 p0) (r : Int) (H : F_plot_without p0 = some r) (hE : HF w w.W E0) : Calls Tryz.prog 23 [(.slice Ap0_0 (p0).length cp0_0)].toArray w.W fun e W' => e = .returned (iv r) ∧ HF w W' E0 := by
 unfold F_plot_without at H
 have leB := Bs.Le.refl w
 refine Tr.enter (n := 26) Tryz.func23 rfl rfl rfl hE ?_
 refine Tr.sr ?_
 refine Tr.asg rfl rfl ?_
 refine Tr.nil (Tr.normThen ?_)
 refine Tr.sr ?_
 refine Tr.build (vs := [(0, (iv 1))]) (cs := [(iv 1), (sv ⟨#[]⟩), (iv 0), (iv 0), (.bool false), (iv 0), (sv ⟨#[]⟩), (iv 0), (iv 0), (.slice none 0 0), (iv 0), (iv 0), (.slice none 0 0)]) (wn rfl) rfl (evs_cons rfl evs_nil) (by kernel_rfl) ?_
 refine Tr.alloc 1 (wn rfl) rfl ze_99 fun b100 => ?_
 refine Tr.store 1 (cs := [(iv 1), (sv ⟨#[]⟩), (iv 0), (iv 0), (.bool false), (iv 0), (sv ⟨#[]⟩), (iv 0), (iv 0), (.slice none 0 0), (iv 0), (iv 0), (.slice none 0 0)]) [(iv 1), (sv ⟨#[]⟩), (iv 0), (iv 0), (.bool false), (iv 0), (sv ⟨#[]⟩), (iv 0), (iv 0), (.slice none 0 0), (iv 0), (iv 0), (.slice none 0 0)] (wn rfl) rfl rfl rfl rfl sz_99 rfl rfl rfl ?_
 refine Tr.nil (Tr.normThen ?_)
 refine Tr.seq ?_
 refine Tr.sr ?_
 refine Tr.mv rfl rfl ?_
 refine Tr.va rfl (fun _ _ h1 h2 => run_len un_23 (h1.ev rfl)) ?_
 refine Tr.mv rfl rfl ?_
 refine Tr.nil (Tr.normThen ?_)
 refine Tr.block ?_
 refine Tr.loop (σ := (List TPlotStep) × Nat × Int × ByteArray × Int × Int × Bool × Int × ByteArray × Int × Int × (List TPoint) × Int × Int × (List TPlotStep) × (Option Addr) × Nat × (Option Addr) × Nat) (fun m w s => m = s.1.length + 1 ∧ s.1 = List.drop s.2.1 p0 ∧ s.2.1 ≤ p0.length ∧ F_plot_without_L1 p0 s.1 s.2.1 s.2.2.1 s.2.2.2.1 s.2.2.2.2.1 s.2.2.2.2.2.1 s.2.2.2.2.2.2.1 s.2.2.2.2.2.2.2.1 s.2.2.2.2.2.2.2.2.1 s.2.2.2.2.2.2.2.2.2.1 s.2.2.2.2.2.2.2.2.2.2.1 s.2.2.2.2.2.2.2.2.2.2.2.1 s.2.2.2.2.2.2.2.2.2.2.2.2.1 s.2.2.2.2.2.2.2.2.2.2.2.2.2.1 s.2.2.2.2.2.2.2.2.2.2.2.2.2.2.1 = some r ∧ Sl w.O w.W fl_TPoint s.2.2.2.2.2.2.2.2.2.2.2.2.2.2.2.1 s.2.2.2.2.2.2.2.2.2.2.2.2.2.2.2.2.1 s.2.2.2.2.2.2.2.2.2.2.2.1 ∧ Sl w.O w.W fl_TPlotStep s.2.2.2.2.2.2.2.2.2.2.2.2.2.2.2.2.2.1 s.2.2.2.2.2.2.2.2.2.2.2.2.2.2.2.2.2.2 s.2.2.2.2.2.2.2.2.2.2.2.2.2.2.1) (fun s => [(0, (.slice Ap0_0 (p0).length cp0_0)), (3, (.pointer (some ⟨b100, 0, none⟩))), (7, (.slice Ap0_0 (p0).length cp0_0)), (8, (iv (p0.length : Int))), (9, (iv (s.2.1 : Int)))]) (fun s => [(1, bx b100 #[(iv s.2.2.1), (sv s.2.2.2.1), (iv s.2.2.2.2.1), (iv s.2.2.2.2.2.1), (.bool s.2.2.2.2.2.2.1), (iv s.2.2.2.2.2.2.2.1), (sv s.2.2.2.2.2.2.2.2.1), (iv s.2.2.2.2.2.2.2.2.2.1), (iv s.2.2.2.2.2.2.2.2.2.2.1), (.slice s.2.2.2.2.2.2.2.2.2.2.2.2.2.2.2.1 (s.2.2.2.2.2.2.2.2.2.2.2.1).length s.2.2.2.2.2.2.2.2.2.2.2.2.2.2.2.2.1), (iv s.2.2.2.2.2.2.2.2.2.2.2.2.1), (iv s.2.2.2.2.2.2.2.2.2.2.2.2.2.1), (.slice s.2.2.2.2.2.2.2.2.2.2.2.2.2.2.2.2.2.1 (s.2.2.2.2.2.2.2.2.2.2.2.2.2.2.1).length s.2.2.2.2.2.2.2.2.2.2.2.2.2.2.2.2.2.2)] 99)]) (p0.length + 1) (p0, 0, 1, ⟨#[]⟩, 0, 0, false, 0, ⟨#[]⟩, 0, 0, [], 0, 0, [], none, 0, none, 0) ⟨rfl, rfl, Nat.zero_le _, H, (Sl.nil _ _ _), (Sl.nil _ _ _)⟩ (.cons rfl (.cons rfl (.cons rfl (.cons rfl (.cons rfl .nil))))) (.cons rfl .nil) (fun _ _ h => absurd h.1 (by simp)) ?_
 intro w leL1 m s hs
 obtain ⟨restL1, iL1, x157, x158, x159, x160, x161, x162, x163, x164, x165, l166, x167, x168, l169, Al166, cl166, Al169, cl169⟩ := s
 obtain ⟨hmL1, hdL1, hiL1, H, hl166, hl169⟩ := hs
 replace hdL1 : restL1 = List.drop iL1 p0 := hdL1
 replace H : F_plot_without_L1 p0 restL1 iL1 x157 x158 x159 x160 x161 x162 x163 x164 x165 l166 x167 x168 l169 = some r := H
 replace hmL1 : m + 1 = restL1.length + 1 := hmL1
 replace hp0_0 := hp0_0.leR leL1
 replace leB := leB.trans leL1
 replace hl166 : Sl w.O w.W fl_TPoint Al166 cl166 l166 := hl166
 replace hl169 : Sl w.O w.W fl_TPlotStep Al169 cl169 l169 := hl169
 obtain rfl : m = restL1.length := by omega
 clear hmL1
 show Tr _ _ (LF [(0, (.slice Ap0_0 (p0).length cp0_0)), (3, (.pointer (some ⟨b100, 0, none⟩))), (7, (.slice Ap0_0 (p0).length cp0_0)), (8, (iv (p0.length : Int))), (9, (iv (iL1 : Int)))]) (LE [(1, bx b100 #[(iv x157), (sv x158), (iv x159), (iv x160), (.bool x161), (iv x162), (sv x163), (iv x164), (iv x165), (.slice Al166 (l166).length cl166), (iv x167), (iv x168), (.slice Al169 (l169).length cl169)] 99)]) _
 cases restL1 with
 | nil =>
  rw [F_plot_without_L1.eq_1] at H
  refine Tr.sr ?_
  refine Tr.va rfl (fun _ _ h1 h2 => run_lss (h1.ev rfl) (h1.ev rfl)) ?_
  refine Tr.nil (Tr.normThen ?_)
  refine Tr.seq ?_
  refine Tr.condF rfl (range_nil hdL1) ?_
  refine Tr.exit (Tr.exitThen (Tr.exitThen (Tr.exitBlock (Tr.normThen ?_))))
  refine Tr.sr ?_
  refine Tr.asg rfl rfl ?_
  refine Tr.nil (Tr.normThen ?_)
  refine Tr.ret ?_
  obtain rfl := Option.some.inj H
  exact Tr.out (m := [(iv (-1))]) [] (res_tmp rfl res_nil) (fun W hW => ⟨rfl, hW.low leB⟩)
 | cons xL1 restL1 =>
  rw [F_plot_without_L1.eq_2] at H
  refine Tr.sr ?_
  refine Tr.va rfl (fun _ _ h1 h2 => run_lss (h1.ev rfl) (h1.ev rfl)) ?_
  refine Tr.nil (Tr.normThen ?_)
  refine Tr.seq ?_
  refine Tr.condT rfl (range_on hdL1) ?_
  refine Tr.skip (Tr.normThen ?_)
  refine Tr.seq ?_
  refine Tr.block ?_
  refine Tr.sr ?_
  refine Tr.mv rfl rfl ?_
  obtain ⟨u170, hRu170, hoku170, hcu170⟩ := (hp0_0).el (range_at hdL1)
  obtain ⟨⟨Au170_0, cu170_0⟩, ⟨Au170_1, cu170_1⟩⟩ := u170
  obtain ⟨hoku170_0, hoku170_1⟩ := TPlotStep_ok.1 hoku170
  replace hoku170_0 : Sl w.R w.W fl_TPoint Au170_0 cu170_0 xL1.Points := hoku170_0
  replace hoku170_1 : Sl w.R w.W fl_TPlotStep Au170_1 cu170_1 xL1.Steps := hoku170_1
  refine Tr.va rfl (fun _ _ h1 h2 => run_indexAddr el_23 (h1.ev rfl) hp0_0.form (h1.ev rfl) (Int.natCast_nonneg _) (range_lt hdL1)) ?_
  refine Tr.va rfl (fun _ _ h1 h2 => run_loadN (cs := [(iv xL1.Kind), (sv xL1.Name), (iv xL1.At.X), (iv xL1.At.Y), (.slice Au170_0 (xL1.Points).length cu170_0), (iv xL1.NX), (iv xL1.NY), (.slice Au170_1 (xL1.Steps).length cu170_1)]) ag_49 sz_49 (h1.ev rfl) (CellsAt.take (rdR hRu170 hcu170 h2) 8) rfl) ?_
  refine Tr.alloc 4 (wn rfl) rfl ze_49 fun b171 => ?_
  refine Tr.asg rfl rfl ?_
  refine Tr.store 4 (cs := [(iv xL1.Kind), (sv xL1.Name), (iv xL1.At.X), (iv xL1.At.Y), (.slice Au170_0 (xL1.Points).length cu170_0), (iv xL1.NX), (iv xL1.NY), (.slice Au170_1 (xL1.Steps).length cu170_1)]) [(iv xL1.Kind), (sv xL1.Name), (iv xL1.At.X), (iv xL1.At.Y), (.slice Au170_0 (xL1.Points).length cu170_0), (iv xL1.NX), (iv xL1.NY), (.slice Au170_1 (xL1.Steps).length cu170_1)] (wn rfl) rfl rfl rfl rfl sz_49 rfl rfl rfl ?_
  refine Tr.nil (Tr.normThen ?_)
  refine Tr.seq ?_
  refine Tr.seq ?_
  refine Tr.draw (by kernel_rfl) (by kernel_rfl) ?_
  refine Tq.va rfl (fun _ _ h1 h2 => run_loadN (cs := [(iv xL1.Kind), (sv xL1.Name), (iv xL1.At.X), (iv xL1.At.Y), (.slice Au170_0 (xL1.Points).length cu170_0), (iv xL1.NX), (iv xL1.NY), (.slice Au170_1 (xL1.Steps).length cu170_1)]) ag_49 sz_49 (h1.ev rfl) (CellsAt.take (rdb h2 (vs := [(iv xL1.Kind), (sv xL1.Name), (iv xL1.At.X), (iv xL1.At.Y), (.slice Au170_0 (xL1.Points).length cu170_0), (iv xL1.NX), (iv xL1.NY), (.slice Au170_1 (xL1.Steps).length cu170_1)]) (k := 4) rfl 0) 8) rfl) ?_
  refine Tq.va rfl (fun _ _ h1 h2 => run_loadN (cs := [(iv x157), (sv x158), (iv x159), (iv x160), (.bool x161), (iv x162), (sv x163), (iv x164), (iv x165), (.slice Al166 (l166).length cl166), (iv x167), (iv x168), (.slice Al169 (l169).length cl169)]) ag_99 sz_99 (h1.ev rfl) (CellsAt.take (rdb h2 (vs := [(iv x157), (sv x158), (iv x159), (iv x160), (.bool x161), (iv x162), (sv x163), (iv x164), (iv x165), (.slice Al166 (l166).length cl166), (iv x167), (iv x168), (.slice Al169 (l169).length cl169)]) (k := 1) rfl 0) 13) rfl) ?_
  refine Tq.mv rfl rfl ?_
  refine Tq.mv rfl rfl ?_
  refine Tq.va rfl (fun _ _ h1 h2 => run_add (h1.ev rfl) (h1.ev rfl)) ?_
  obtain ⟨l172, hl172, H⟩ := bnd H
  refine Tq.va rfl (fun _ _ h1 h2 => run_cutL el_23 (h1.ev rfl) hp0_0.form (h1.ev rfl) hl172) ?_
  obtain ⟨y173, hy173, H⟩ := bnd H
  refine Tq.call0 (r := (.bool y173)) (wn rfl) rfl Tryz.call57 (evl_cons rfl (evl_cons rfl (evl_cons rfl evl_nil))) (fun W hW => F_plot_needless_ok xL1 Au170_0 cu170_0 (hoku170_0.ext hW.extAll) Au170_1 cu170_1 (hoku170_1.ext hW.extAll) (TKnown.mk x157 x158 (TPoint.mk x159 x160) x161 (TPlotStep.mk x162 x163 (TPoint.mk x164 x165) l166 x167 x168 l169)) Al166 cl166 (hl166.rl.ext hW.extAll) Al169 cl169 (hl169.rl.ext hW.extAll) l172 (cutA Ap0_0 (w64 ((iL1 : Int) + 1)).toNat 8 cp0_0) (cp0_0 - (w64 ((iL1 : Int) + 1)).toNat) (Sl.cut (hp0_0.ext hW.extAll) hl172) y173 hy173 (HF.start _)) ?_
  refine Tq.nil (Tr.normThen ?_)
  refine Tr.cond rfl H (fun H => ?_) (fun H => ?_)
  ·refine Tr.sr ?_
   refine Tr.mv rfl rfl ?_
   refine Tr.asg rfl rfl ?_
   refine Tr.nil (Tr.normThen ?_)
   refine Tr.ret (Tr.retThen (Tr.retBlock (Tr.retThen (Tr.retThen (Tr.retBlock (Tr.retThen ?_))))))
   obtain rfl := Option.some.inj H
   exact Tr.out (m := [(iv (iL1 : Int))]) [] (res_tmp rfl res_nil) (fun W hW => ⟨rfl, hW.low leB⟩)
  ·refine Tr.skip (Tr.normThen ?_)
   refine Tr.region ?_
   refine Tr.va rfl (fun _ _ h1 h2 => run_loadN (cs := [(iv x157), (sv x158), (iv x159), (iv x160), (.bool x161), (iv x162), (sv x163), (iv x164), (iv x165), (.slice Al166 (l166).length cl166), (iv x167), (iv x168), (.slice Al169 (l169).length cl169)]) ag_99 sz_99 (h1.ev rfl) (CellsAt.take (rdb h2 (vs := [(iv x157), (sv x158), (iv x159), (iv x160), (.bool x161), (iv x162), (sv x163), (iv x164), (iv x165), (.slice Al166 (l166).length cl166), (iv x167), (iv x168), (.slice Al169 (l169).length cl169)]) (k := 1) rfl 0) 13) rfl) ?_
   refine Tr.va rfl (fun _ _ h1 h2 => run_loadN (cs := [(iv xL1.Kind), (sv xL1.Name), (iv xL1.At.X), (iv xL1.At.Y), (.slice Au170_0 (xL1.Points).length cu170_0), (iv xL1.NX), (iv xL1.NY), (.slice Au170_1 (xL1.Steps).length cu170_1)]) ag_49 sz_49 (h1.ev rfl) (CellsAt.take (rdb h2 (vs := [(iv xL1.Kind), (sv xL1.Name), (iv xL1.At.X), (iv xL1.At.Y), (.slice Au170_0 (xL1.Points).length cu170_0), (iv xL1.NX), (iv xL1.NY), (.slice Au170_1 (xL1.Steps).length cu170_1)]) (k := 4) rfl 0) 8) rfl) ?_
   obtain ⟨y174, hy174, H⟩ := bnd H
   refine Tr.callG [] [] (U := (Option Addr × Nat) × (Option Addr × Nat)) (fun u => (.agg #[(iv y174.dark), (sv y174.tool), (iv y174.place.X), (iv y174.place.Y), (.bool y174.placed), (iv y174.last.Kind), (sv y174.last.Name), (iv y174.last.At.X), (iv y174.last.At.Y), (.slice u.1.1 (y174.last.Points).length u.1.2), (iv y174.last.NX), (iv y174.last.NY), (.slice u.2.1 (y174.last.Steps).length u.2.2)])) (fun O W u => Sl O W fl_TPoint u.1.1 u.1.2 y174.last.Points ∧ Sl O W fl_TPlotStep u.2.1 u.2.2 y174.last.Steps) (fun u => []) rfl pk_nil (fun _ => rfl) (wn rfl) rfl Tryz.call58 (evl_cons rfl (evl_cons rfl evl_nil)) (fun W hW hp hE => F_plot_known__behind_ok (TKnown.mk x157 x158 (TPoint.mk x159 x160) x161 (TPlotStep.mk x162 x163 (TPoint.mk x164 x165) l166 x167 x168 l169)) Al166 cl166 (hl166.extO (hW.extS hp)) Al169 cl169 (hl169.extO (hW.extS hp)) xL1 Au170_0 cu170_0 (hoku170_0.ext (hW.extS hp)) Au170_1 cu170_1 (hoku170_1.ext (hW.extS hp)) y174 hy174 hE) ?_
   intro w u le175 hu
   obtain ⟨⟨Ay174_0, cy174_0⟩, ⟨Ay174_1, cy174_1⟩⟩ := u
   obtain ⟨gy174_0, gy174_1⟩ := hu
   replace hp0_0 := hp0_0.leR le175
   replace hl166 := hl166.le le175
   replace hl169 := hl169.le le175
   replace hcu170 := le175.ext.cells hRu170 hcu170
   replace hRu170 := le175.r _ hRu170
   replace hoku170_0 := hoku170_0.leR le175
   replace hoku170_1 := hoku170_1.leR le175
   replace leB := leB.trans le175
   replace leL1 := leL1.trans le175
   have hgy174_0 : Sl w.O w.W fl_TPoint Ay174_0 cy174_0 y174.last.Points := gy174_0 --@phi
   have hgy174_1 : Sl w.O w.W fl_TPlotStep Ay174_1 cy174_1 y174.last.Steps := gy174_1 --@phi
   show Tr _ _ (uf _ 24 (.agg #[(iv y174.dark), (sv y174.tool), (iv y174.place.X), (iv y174.place.Y), (.bool y174.placed), (iv y174.last.Kind), (sv y174.last.Name), (iv y174.last.At.X), (iv y174.last.At.Y), (.slice Ay174_0 (y174.last.Points).length cy174_0), (iv y174.last.NX), (iv y174.last.NY), (.slice Ay174_1 (y174.last.Steps).length cy174_1)])) (_) _
   refine Tr.store 1 (cs := [(iv y174.dark), (sv y174.tool), (iv y174.place.X), (iv y174.place.Y), (.bool y174.placed), (iv y174.last.Kind), (sv y174.last.Name), (iv y174.last.At.X), (iv y174.last.At.Y), (.slice Ay174_0 (y174.last.Points).length cy174_0), (iv y174.last.NX), (iv y174.last.NY), (.slice Ay174_1 (y174.last.Steps).length cy174_1)]) [(iv y174.dark), (sv y174.tool), (iv y174.place.X), (iv y174.place.Y), (.bool y174.placed), (iv y174.last.Kind), (sv y174.last.Name), (iv y174.last.At.X), (iv y174.last.At.Y), (.slice Ay174_0 (y174.last.Points).length cy174_0), (iv y174.last.NX), (iv y174.last.NY), (.slice Ay174_1 (y174.last.Steps).length cy174_1)] (wn rfl) rfl rfl rfl rfl sz_99 rfl rfl rfl ?_
   refine Tr.nil (Tr.normBlock (Tr.normThen ?_))
   refine Tr.region ?_
   refine Tr.va rfl (fun _ _ h1 h2 => run_add (h1.ev rfl) (h1.ev rfl)) ?_
   refine Tr.mv rfl rfl ?_
   refine Tr.nil ?_
   exact Tr.backThen leL1 (restL1, (iL1 + 1), y174.dark, y174.tool, y174.place.X, y174.place.Y, y174.placed, y174.last.Kind, y174.last.Name, y174.last.At.X, y174.last.At.Y, y174.last.Points, y174.last.NX, y174.last.NY, y174.last.Steps, Ay174_0, cy174_0, Ay174_1, cy174_1) ⟨rfl, range_tl hdL1, range_lt hdL1, H, hgy174_0, hgy174_1⟩ (.cons rfl (.cons rfl (.cons rfl (.cons rfl (.cons (congrArg (fun z => some (Value.int .i64 z)) (range_up hdL1 hp0_0.form)) .nil))))) (.cons rfl .nil)

theorem F_slices_Delete_PlotStep_ok {w : Bs} (p0 : (List TPlotStep)) (Ap0_0 : Option Addr) (cp0_0 : Nat) (p1 : Int) (p2 : Int) (r : (List TPlotStep)) (H : F_slices_Delete_PlotStep p0 p1 p2 = some r) (hE : HF w w.W (LEn [ow Ap0_0 cp0_0 49 fl_TPlotStep p0])) : Calls Tryz.prog 24 [(.slice Ap0_0 (p0).length cp0_0), (iv p1), (iv p2)].toArray w.W fun e W' => ∃ (w' : Bs) (u : (Option Addr × Nat)), w.Le w' ∧ e = .returned (.slice u.1 (r).length u.2) ∧ (SlF u.1 (r).length u.2) ∧ HF w' W' (LEn [ow u.1 u.2 49 fl_TPlotStep r]) := by
 unfold F_slices_Delete_PlotStep at H
 have hfhp0_0 := (hE.sl (k := 0) rfl).form
 have leB := Bs.Le.refl w
 refine Tr.enter (n := 33) Tryz.func24 rfl rfl rfl hE ?_
 refine Tr.sr ?_
 refine Tr.asg rfl rfl ?_
 refine Tr.nilOwn 1 49 fl_TPlotStep ?_
 show Tr _ _ (uf _ 6 (.slice none (([] : List TPlotStep)).length 0)) _ _
 refine Tr.nil (Tr.normThen ?_)
 refine Tr.sr ?_
 refine Tr.mv rfl rfl ?_
 refine Tr.mv rfl rfl ?_
 refine Tr.mv rfl rfl ?_
 refine Tr.mv rfl rfl ?_
 refine Tr.va rfl (fun _ _ h1 h2 => run_len un_23 (h1.ev rfl)) ?_
 obtain ⟨l100, hl100, H⟩ := bnd H
 refine Tr.va rfl (fun _ _ h1 h2 => run_slice3 el_23 (h1.ev rfl) hfhp0_0 (h1.ev rfl) (h1.ev rfl) (h1.ev rfl) hl100) ?_
 refine Tr.nil (Tr.normThen ?_)
 refine Tr.seq ?_
 refine Tr.sr ?_
 refine Tr.mv rfl rfl ?_
 refine Tr.mv rfl rfl ?_
 refine Tr.va rfl (fun _ _ h1 h2 => run_eql (h1.ev rfl) (h1.ev rfl)) ?_
 refine Tr.nil (Tr.normThen ?_)
 refine Tr.cond rfl H (fun H => ?_) (fun H => ?_)
 ·refine Tr.sr ?_
  refine Tr.mv rfl rfl ?_
  refine Tr.asg rfl rfl ?_
  refine Tr.nil (Tr.normThen ?_)
  refine Tr.ret (Tr.retThen ?_)
  obtain rfl := Option.some.inj H
  exact Tr.out (m := [(.slice Ap0_0 (p0).length cp0_0)]) [] (res_tmp rfl res_nil) (fun W hW => ⟨w, (Ap0_0, cp0_0), leB, rfl, hfhp0_0, hW.pick (ks := [0]) (by decide) (pk_cons rfl pk_nil)⟩)
 ·refine Tr.skip (Tr.normThen ?_)
  refine Tr.sr ?_
  refine Tr.mv rfl rfl ?_
  refine Tr.va rfl (fun _ _ h1 h2 => run_len un_23 (h1.ev rfl)) ?_
  refine Tr.asg rfl rfl ?_
  refine Tr.nil (Tr.normThen ?_)
  refine Tr.seq ?_
  refine Tr.drawTail 6 (by kernel_rfl) (by kernel_rfl) ?_
  refine Tq.mv rfl rfl ?_
  refine Tq.mv rfl rfl ?_
  obtain ⟨l101, hl101, H⟩ := bnd H
  refine Tq.va rfl (fun _ _ h1 h2 => run_pre el_23 (h1.ev rfl) hfhp0_0 (h1.ev rfl) hl101) ?_
  refine Tq.mv rfl rfl ?_
  refine Tq.mv rfl rfl ?_
  obtain ⟨l102, hl102, H⟩ := bnd H
  refine Tq.va rfl (fun _ _ h1 h2 => run_cutL el_23 (h1.ev rfl) hfhp0_0 (h1.ev rfl) hl102) ?_
  refine Tq.nil ?_
  obtain ⟨z103, hz103, H⟩ := bnd H
  have hjz103 := leO_some hz103
  have hnz103 := shf_len hl101 hl102 hjz103
  have hpz103 := shf_pre hl101 hl102 hjz103
  refine Tr.appendShift 0 (t := fl_TPlotStep) (l := p0) (l1 := l101) (l2 := l102) (wn rfl) rfl rfl rfl rfl hl101 hl102 hjz103 un_23 sz_49 ?_
  have hfz103 : SlF Ap0_0 (shf l101 l102 p0).length cp0_0 := by rw [hnz103]; exact hfhp0_0
  have hsz103 := hnz103.trans rfl
  refine Tr.sel (lf := [(0, (.slice Ap0_0 ((shf l101 l102 p0)).length cp0_0)), (1, (iv p1)), (2, (iv p2)), (6, (.slice none (([] : List TPlotStep)).length 0)), (7, (iv (p0.length : Int))), (8, (.slice Ap0_0 ((shf l101 l102 p0)).length cp0_0)), (9, (iv p1)), (10, (iv p2)), (11, (.slice Ap0_0 ((shf l101 l102 p0)).length cp0_0)), (12, (iv (p0.length : Int))), (13, (.slice (cutA Ap0_0 p1.toNat 8 p0.length) l100.length (p0.length - p1.toNat))), (14, (iv p1)), (15, (iv p2)), (16, (.bool (p1 == p2))), (18, (.slice Ap0_0 ((shf l101 l102 p0)).length cp0_0)), (19, (iv (p0.length : Int))), (20, (.slice Ap0_0 ((shf l101 l102 p0)).length cp0_0)), (21, (iv p1)), (23, (.slice Ap0_0 ((shf l101 l102 p0)).length cp0_0)), (24, (iv p2)), (26, (.slice Ap0_0 ((l101 ++ l102)).length cp0_0))]) (le := [(0, ow Ap0_0 cp0_0 49 fl_TPlotStep (shf l101 l102 p0)), (1, ow none 0 49 fl_TPlotStep ([] : List TPlotStep))]) (.cons (slenV rfl (by rw [hnz103])) (.cons rfl (.cons rfl (.cons rfl (.cons rfl (.cons (slenV rfl (by rw [hnz103])) (.cons rfl (.cons rfl (.cons (slenV rfl (by rw [hnz103])) (.cons rfl (.cons rfl (.cons rfl (.cons rfl (.cons rfl (.cons (slenV rfl (by rw [hnz103])) (.cons rfl (.cons (slenV rfl (by rw [hnz103])) (.cons rfl (.cons (slenV rfl (by rw [hnz103])) (.cons rfl (.cons rfl .nil))))))))))))))))))))) (.cons rfl (.cons rfl .nil)) ?_
  refine Tr.asg rfl rfl ?_
  refine Tr.nil (Tr.normThen ?_)
  refine Tr.sr ?_
  refine Tr.mv rfl rfl ?_
  refine Tr.mv rfl rfl ?_
  refine Tr.va rfl (fun _ _ h1 h2 => run_len un_23 (h1.ev rfl)) ?_
  refine Tr.mv rfl rfl ?_
  obtain ⟨l104, hl104, H⟩ := bnd H
  refine Tr.va rfl (fun _ _ h1 h2 => run_cutP el_23 (h1.ev rfl) hfz103 (h1.ev rfl) (h1.ev rfl) hl104) ?_
  have hyhcl104 : cut (shf l101 l102 p0) ((l101 ++ l102).length : Int) ((shf l101 l102 p0)).length = some l104 := by rw [hsz103]; exact hl104
  have hnhcl104 := clr_len (TPlotStep.mk 0 (⟨#[]⟩) (TPoint.mk 0 0) [] 0 0 []) hyhcl104
  refine Tr.clearCut 0 (lo := ((l101 ++ l102).length : Int)) (t := fl_TPlotStep) (l := (shf l101 l102 p0)) (TPlotStep.mk 0 (⟨#[]⟩) (TPoint.mk 0 0) [] 0 0 []) (wn rfl) rfl hyhcl104 rfl un_23 ze_49 ⟨((none, 0), (none, 0)), (TPlotStep_ok.2 ⟨(Sl.nil _ _ _), (Sl.nil _ _ _)⟩), rfl⟩ rfl rfl ?_
  have hfhcl104 : SlF Ap0_0 ((clr (shf l101 l102 p0) ((l101 ++ l102).length : Int) (l104).length (TPlotStep.mk 0 (⟨#[]⟩) (TPoint.mk 0 0) [] 0 0 []))).length cp0_0 := by rw [hnhcl104]; exact hfz103
  have hphcl104_0 := clr_pre (z := (TPlotStep.mk 0 (⟨#[]⟩) (TPoint.mk 0 0) [] 0 0 [])) hyhcl104 hpz103
  have hphcl104_26 := clr_pre (z := (TPlotStep.mk 0 (⟨#[]⟩) (TPoint.mk 0 0) [] 0 0 [])) hyhcl104 hpz103
  have hphcl104_27 := clr_pre (z := (TPlotStep.mk 0 (⟨#[]⟩) (TPoint.mk 0 0) [] 0 0 [])) hyhcl104 hpz103
  have hphcl104_28 := clr_pre (z := (TPlotStep.mk 0 (⟨#[]⟩) (TPoint.mk 0 0) [] 0 0 [])) hyhcl104 hpz103
  have hshcl104 := hnhcl104.trans hsz103
  refine Tr.sel (lf := [(0, (.slice Ap0_0 ((l101 ++ l102)).length cp0_0)), (1, (iv p1)), (2, (iv p2)), (6, (.slice none (([] : List TPlotStep)).length 0)), (7, (iv (p0.length : Int))), (8, (.slice Ap0_0 ((clr (shf l101 l102 p0) ((l101 ++ l102).length : Int) (l104).length (TPlotStep.mk 0 (⟨#[]⟩) (TPoint.mk 0 0) [] 0 0 []))).length cp0_0)), (9, (iv p1)), (10, (iv p2)), (11, (.slice Ap0_0 ((clr (shf l101 l102 p0) ((l101 ++ l102).length : Int) (l104).length (TPlotStep.mk 0 (⟨#[]⟩) (TPoint.mk 0 0) [] 0 0 []))).length cp0_0)), (12, (iv (p0.length : Int))), (13, (.slice (cutA Ap0_0 p1.toNat 8 p0.length) l100.length (p0.length - p1.toNat))), (14, (iv p1)), (15, (iv p2)), (16, (.bool (p1 == p2))), (18, (.slice Ap0_0 ((clr (shf l101 l102 p0) ((l101 ++ l102).length : Int) (l104).length (TPlotStep.mk 0 (⟨#[]⟩) (TPoint.mk 0 0) [] 0 0 []))).length cp0_0)), (19, (iv (p0.length : Int))), (20, (.slice Ap0_0 ((clr (shf l101 l102 p0) ((l101 ++ l102).length : Int) (l104).length (TPlotStep.mk 0 (⟨#[]⟩) (TPoint.mk 0 0) [] 0 0 []))).length cp0_0)), (21, (iv p1)), (23, (.slice Ap0_0 ((clr (shf l101 l102 p0) ((l101 ++ l102).length : Int) (l104).length (TPlotStep.mk 0 (⟨#[]⟩) (TPoint.mk 0 0) [] 0 0 []))).length cp0_0)), (24, (iv p2)), (26, (.slice Ap0_0 ((l101 ++ l102)).length cp0_0)), (27, (.slice Ap0_0 ((l101 ++ l102)).length cp0_0)), (28, (.slice Ap0_0 ((l101 ++ l102)).length cp0_0)), (29, (iv ((l101 ++ l102).length : Int))), (30, (iv (p0.length : Int)))]) (le := [(0, ow Ap0_0 cp0_0 49 fl_TPlotStep (clr (shf l101 l102 p0) ((l101 ++ l102).length : Int) (l104).length (TPlotStep.mk 0 (⟨#[]⟩) (TPoint.mk 0 0) [] 0 0 []))), (1, ow none 0 49 fl_TPlotStep ([] : List TPlotStep))]) (.cons rfl (.cons rfl (.cons rfl (.cons rfl (.cons rfl (.cons (slenV rfl (by rw [hnhcl104])) (.cons rfl (.cons rfl (.cons (slenV rfl (by rw [hnhcl104])) (.cons rfl (.cons rfl (.cons rfl (.cons rfl (.cons rfl (.cons (slenV rfl (by rw [hnhcl104])) (.cons rfl (.cons (slenV rfl (by rw [hnhcl104])) (.cons rfl (.cons (slenV rfl (by rw [hnhcl104])) (.cons rfl (.cons rfl (.cons rfl (.cons rfl (.cons rfl (.cons rfl .nil))))))))))))))))))))))))) (.cons rfl (.cons rfl .nil)) ?_
  refine Tr.nil (Tr.normThen ?_)
  refine Tr.sr ?_
  refine Tr.mv rfl rfl ?_
  refine Tr.asg rfl rfl ?_
  refine Tr.nil (Tr.normThen ?_)
  refine Tr.ret ?_
  obtain rfl := Option.some.inj H
  refine Tr.shrinkP 0 hphcl104_0 rfl ?_
  exact Tr.out (m := [(.slice Ap0_0 ((l101 ++ l102)).length cp0_0)]) [] (res_tmp rfl res_nil) (fun W hW => ⟨w, (Ap0_0, cp0_0), leB, rfl, (pre_form hfhcl104 hphcl104_0), hW.pick (ks := [0]) (by decide) (pk_cons rfl pk_nil)⟩)

theorem F_plot_changed_2__Short_1_ok {w : Bs} (p0 : TRect) (bq0 : Nat) (hb0 : w.R bq0) (hc0 : CellsAt w.W bq0 0 [(.func (.func 22) #[] #[])]) (r : TRect) (H : F_plot_changed_2__Short_1 p0 = some r) (hE : HF w w.W E0) : Calls Tryz.prog 54 [(.agg #[(iv p0.X0), (iv p0.Y0), (iv p0.X1), (iv p0.Y1)]), (.pointer (some ⟨bq0, 0, none⟩))].toArray w.W fun e W' => e = .returned (.agg #[(iv r.X0), (iv r.Y0), (iv r.X1), (iv r.Y1)]) ∧ HF w W' E0 := by
 unfold F_plot_changed_2__Short_1 at H
 have leB := Bs.Le.refl w
 refine Tr.enter (n := 21) Tryz.func54 rfl rfl rfl hE ?_
 refine Tr.sr ?_
 refine Tr.box 1 (cs := [(iv p0.X0), (iv p0.Y0), (iv p0.X1), (iv p0.Y1)]) (wn rfl) rfl rfl rfl fun b100 => ?_
 refine Tr.alloc 2 (wn rfl) rfl ze_66 fun b101 => ?_
 refine Tr.nil (Tr.normThen ?_)
 refine Tr.seq ?_
 refine Tr.drawTail 15 (by kernel_rfl) (by kernel_rfl) ?_
 refine Tq.va rfl (fun _ _ h1 h2 => run_load1 ag_44 (h1.ev rfl) (rdR hb0 hc0 h2) rfl) ?_
 refine Tq.va rfl (fun _ _ h1 h2 => run_fieldAddr fo_66_0 (h1.ev rfl)) ?_
 refine Tq.va rfl (fun _ _ h1 h2 => run_load1 ag_3 (h1.ev rfl) (rdb h2 (vs := [(iv p0.X0), (iv p0.Y0), (iv p0.X1), (iv p0.Y1)]) (k := 1) rfl 0) rfl) ?_
 obtain ⟨y102, hy102, H⟩ := bnd H
 refine Tq.callF (r := (iv y102)) (wn rfl) rfl rfl Tryz.call22 (evl_cons rfl evl_nil) (fun W hW => F_plot_Short_1_ok p0.X0 y102 hy102 (HF.start _)) ?_
 refine Tq.va rfl (fun _ _ h1 h2 => run_load1 ag_44 (h1.ev rfl) (rdR hb0 hc0 h2) rfl) ?_
 refine Tq.va rfl (fun _ _ h1 h2 => run_fieldAddr fo_66_1 (h1.ev rfl)) ?_
 refine Tq.va rfl (fun _ _ h1 h2 => run_load1 ag_3 (h1.ev rfl) (rdb h2 (vs := [(iv p0.X0), (iv p0.Y0), (iv p0.X1), (iv p0.Y1)]) (k := 1) rfl 1) rfl) ?_
 obtain ⟨y103, hy103, H⟩ := bnd H
 refine Tq.callF (r := (iv y103)) (wn rfl) rfl rfl Tryz.call22 (evl_cons rfl evl_nil) (fun W hW => F_plot_Short_1_ok p0.Y0 y103 hy103 (HF.start _)) ?_
 refine Tq.va rfl (fun _ _ h1 h2 => run_load1 ag_44 (h1.ev rfl) (rdR hb0 hc0 h2) rfl) ?_
 refine Tq.va rfl (fun _ _ h1 h2 => run_fieldAddr fo_66_2 (h1.ev rfl)) ?_
 refine Tq.va rfl (fun _ _ h1 h2 => run_load1 ag_3 (h1.ev rfl) (rdb h2 (vs := [(iv p0.X0), (iv p0.Y0), (iv p0.X1), (iv p0.Y1)]) (k := 1) rfl 2) rfl) ?_
 obtain ⟨y104, hy104, H⟩ := bnd H
 refine Tq.callF (r := (iv y104)) (wn rfl) rfl rfl Tryz.call22 (evl_cons rfl evl_nil) (fun W hW => F_plot_Short_1_ok p0.X1 y104 hy104 (HF.start _)) ?_
 refine Tq.va rfl (fun _ _ h1 h2 => run_load1 ag_44 (h1.ev rfl) (rdR hb0 hc0 h2) rfl) ?_
 refine Tq.va rfl (fun _ _ h1 h2 => run_fieldAddr fo_66_3 (h1.ev rfl)) ?_
 refine Tq.va rfl (fun _ _ h1 h2 => run_load1 ag_3 (h1.ev rfl) (rdb h2 (vs := [(iv p0.X0), (iv p0.Y0), (iv p0.X1), (iv p0.Y1)]) (k := 1) rfl 3) rfl) ?_
 refine Tq.nil ?_
 obtain ⟨y105, hy105, H⟩ := bnd H
 refine Tr.callF (r := (iv y105)) (wn rfl) rfl rfl Tryz.call22 (evl_cons rfl evl_nil) (fun W hW => F_plot_Short_1_ok p0.Y1 y105 hy105 (HF.start _)) ?_
 refine Tr.build (vs := [(0, (iv y102)), (1, (iv y103)), (2, (iv y104)), (3, (iv y105))]) (cs := [(iv y102), (iv y103), (iv y104), (iv y105)]) (wn rfl) rfl (evs_cons rfl (evs_cons rfl (evs_cons rfl (evs_cons rfl evs_nil)))) (by kernel_rfl) ?_
 refine Tr.store 2 (cs := [(iv y102), (iv y103), (iv y104), (iv y105)]) [(iv y102), (iv y103), (iv y104), (iv y105)] (wn rfl) rfl rfl rfl rfl sz_66 rfl rfl rfl ?_
 refine Tr.nil (Tr.normThen ?_)
 refine Tr.ret ?_
 obtain rfl := Option.some.inj H
 exact Tr.out (m := [(.agg #[(iv y102), (iv y103), (iv y104), (iv y105)])]) [2] (res_cell rfl rfl ag_66 sz_66 res_nil) (fun W hW => ⟨rfl, hW.low leB⟩)

theorem F_plot_ownTools__changed_2__Short_1_ok (N : Nat) {w : Bs} (p0 : (List TPlotTool)) (Ap0_0 : Option Addr) (cp0_0 : Nat) (hp0_0 : Sl w.O w.W fl_TPlotTool Ap0_0 cp0_0 p0) (bq0 : Nat) (hb0 : w.R bq0) (hc0 : CellsAt w.W bq0 0 [(.func (.func 22) #[] #[])]) (r : (List TPlotTool)) (H : F_plot_ownTools__changed_2__Short_1 N p0 = some r) (hE : HF w w.W (LEn [emp])) : Calls Tryz.prog 44 [(.slice Ap0_0 (p0).length cp0_0), (.func (.func 54) #[] #[(.pointer (some ⟨bq0, 0, none⟩))])].toArray w.W fun e W' => ∃ (w' : Bs) (u : (Option Addr × Nat)), w.Le w' ∧ e = .returned (.slice u.1 (r).length u.2) ∧ (SlF u.1 (r).length u.2) ∧ HF w' W' (LEn [ow u.1 u.2 54 fl_TPlotTool r]) := by
 unfold F_plot_ownTools__changed_2__Short_1 at H
 have leB := Bs.Le.refl w
 refine Tr.enter (n := 50) Tryz.func44 rfl rfl rfl hE ?_
 refine Tr.sr ?_
 refine Tr.asg rfl rfl ?_
 refine Tr.nilOwn 1 54 fl_TPlotTool ?_
 show Tr _ _ (uf _ 4 (.slice none (([] : List TPlotTool)).length 0)) _ _
 refine Tr.nil (Tr.normThen ?_)
 refine Tr.sr ?_
 refine Tr.mv rfl rfl ?_
 obtain ⟨y100, hy100, H⟩ := bnd H
 refine Tr.callG [2] [emp] (U := (Option Addr × Nat)) (fun u => (.slice u.1 (y100).length u.2)) (fun O W u => SlF u.1 (y100).length u.2) (fun u => [ow u.1 u.2 54 fl_TPlotTool y100]) rfl (pk_cons rfl pk_nil) (fun _ => rfl) (wn rfl) rfl Tryz.call78 (evl_cons rfl evl_nil) (fun W hW hp hE => F_slices_Clone_PlotTool_ok p0 Ap0_0 cp0_0 (hp0_0.extO (hW.extS hp)) y100 hy100 hE) ?_
 intro w u le101 hu
 obtain ⟨Ay100_0, cy100_0⟩ := u
 have gy100_0 := hu
 replace hp0_0 := hp0_0.le le101
 replace hc0 := le101.ext.cells hb0 hc0
 replace hb0 := le101.r _ hb0
 replace leB := leB.trans le101
 have hgy100_0 : SlF Ay100_0 (y100).length cy100_0 := gy100_0 --@phi
 show Tr _ _ (uf _ 10 (.slice Ay100_0 (y100).length cy100_0)) (up _ 2 (ow Ay100_0 cy100_0 54 fl_TPlotTool y100)) _
 refine Tr.asg rfl rfl ?_
 refine Tr.nil (Tr.normThen ?_)
 refine Tr.seq ?_
 refine Tr.sr ?_
 refine Tr.mv rfl rfl ?_
 refine Tr.va rfl (fun _ _ h1 h2 => run_len un_22 (h1.ev rfl)) ?_
 refine Tr.mv rfl rfl ?_
 refine Tr.nil (Tr.normThen ?_)
 refine Tr.block ?_
 refine Tr.loop (σ := (List TPlotTool) × Int × (Option Addr) × Nat) (fun m w s => F_plot_ownTools__changed_2__Short_1_L3 y100 m s.1 s.2.1 = some r ∧ SlF s.2.2.1 (s.1).length s.2.2.2) (fun s => [(1, (.func (.func 54) #[] #[(.pointer (some ⟨bq0, 0, none⟩))])), (5, (.slice s.2.2.1 (s.1).length s.2.2.2)), (12, (iv (y100.length : Int))), (13, (iv s.2.1))]) (fun s => [(2, ow s.2.2.1 s.2.2.2 54 fl_TPlotTool s.1)]) N (y100, 0, Ay100_0, cy100_0) ⟨H, hgy100_0⟩ (.cons rfl (.cons rfl (.cons rfl (.cons rfl .nil)))) (.cons rfl .nil) (fun _ _ h => noSome (h.1)) ?_
 intro w leL3 mL3 s hs
 obtain ⟨l184, x185, Al184, cl184⟩ := s
 obtain ⟨H, hl184⟩ := hs
 replace H : F_plot_ownTools__changed_2__Short_1_L3 y100 (mL3 + 1) l184 x185 = some r := H
 replace hc0 := leL3.ext.cells hb0 hc0
 replace hb0 := leL3.r _ hb0
 replace leB := leB.trans leL3
 replace hl184 : SlF Al184 (l184).length cl184 := hl184
 rw [F_plot_ownTools__changed_2__Short_1_L3.eq_2] at H
 show Tr _ _ (LF [(1, (.func (.func 54) #[] #[(.pointer (some ⟨bq0, 0, none⟩))])), (5, (.slice Al184 (l184).length cl184)), (12, (iv (y100.length : Int))), (13, (iv x185))]) (LE [(2, ow Al184 cl184 54 fl_TPlotTool l184)]) _
 refine Tr.sr ?_
 refine Tr.va rfl (fun _ _ h1 h2 => run_lss (h1.ev rfl) (h1.ev rfl)) ?_
 refine Tr.nil (Tr.normThen ?_)
 refine Tr.seq ?_
 refine Tr.cond rfl H (fun H => ?_) (fun H => ?_)
 ·refine Tr.skip (Tr.normThen ?_)
  refine Tr.seq ?_
  refine Tr.block ?_
  refine Tr.sr ?_
  refine Tr.mv rfl rfl ?_
  refine Tr.asg rfl rfl ?_
  refine Tr.nil (Tr.normThen ?_)
  refine Tr.sr ?_
  refine Tr.mv rfl rfl ?_
  refine Tr.mv rfl rfl ?_
  refine Tr.mv rfl rfl ?_
  refine Tr.mv rfl rfl ?_
  obtain ⟨x186, hx186, H⟩ := bnd H
  obtain ⟨hx1860, hx1861, hx1862⟩ := idx_some hx186
  refine Tr.va rfl (fun _ _ h1 h2 => run_indexAddr el_22 (h1.ev rfl) hl184 (h1.ev rfl) hx1860 hx1861) ?_
  refine Tr.va rfl (fun _ _ h1 h2 => run_fieldAddr fo_54_1 (h1.ev rfl)) ?_
  refine Tr.valE (U := (fl_TPlotTool).Ad) (fun u => (fl_TPlotTool).ok w.O w.W u x186) (fun u => (.slice u.1 (x186.Rects).length u.2)) (wn rfl) rfl (ldN (κ := 2) (t := fl_TPlotTool) (V := fun u => (.slice u.1 (x186.Rects).length u.2)) rfl hx1862 (fun _ _ u h1 hc => run_load1 ag_52 (h1.ev rfl) (hc.drop 1) rfl)) ?_
  intro u187 hoku187
  obtain ⟨Au187_0, cu187_0⟩ := u187
  have hoku187_0 := hoku187
  replace hoku187_0 : Sl w.O w.W fl_TRect Au187_0 cu187_0 x186.Rects := hoku187_0
  show Tr _ _ (uf _ 22 (.slice Au187_0 (x186.Rects).length cu187_0)) _ _
  obtain ⟨y188, hy188, H⟩ := bnd H
  refine Tr.callM [11] [emp] (U := (Option Addr × Nat)) (fun u => (.slice u.1 (y188).length u.2)) (fun u => SlF u.1 (y188).length u.2) (fun u => [ow u.1 u.2 66 fl_TRect y188]) rfl (pk_cons rfl pk_nil) (fun _ => rfl) (wn rfl) rfl Tryz.call79 (evl_cons rfl evl_nil) (fun W hW hp hE => F_slices_Clone_Rect_ok x186.Rects Au187_0 cu187_0 (hoku187_0.rl.ext (hW.extS hp)) y188 hy188 hE) ?_
  intro u hu
  obtain ⟨Ay188_0, cy188_0⟩ := u
  have gy188_0 := hu
  have hgy188_0 : SlF Ay188_0 (y188).length cy188_0 := gy188_0 --@phi
  show Tr _ _ (uf _ 23 (.slice Ay188_0 (y188).length cy188_0)) (up _ 11 (ow Ay188_0 cy188_0 66 fl_TRect y188)) _
  obtain ⟨x190, hx190, H⟩ := bnd H
  obtain ⟨hx1900, hx1901, hx1902⟩ := idx_some hx190
  refine Tr.va rfl (fun _ _ h1 h2 => run_indexAddr el_22 (h1.ev rfl) hl184 (h1.ev rfl) hx1900 hx1901) ?_
  refine Tr.va rfl (fun _ _ h1 h2 => run_fieldAddr fo_54_1 (h1.ev rfl)) ?_
  refine Tr.mixOpen 2 rfl hx1902 ?_
  intro u191 hoku191
  obtain ⟨Au191_0, cu191_0⟩ := u191
  have hoku191_0 := hoku191
  replace hoku191_0 : Sl w.O w.W fl_TRect Au191_0 cu191_0 x190.Rects := hoku191_0
  show Tr _ _ _ (up _ 2 (ow Al184 cl184 54 (mix fl_TPlotTool) (mixL l184 (x185).toNat (raw fl_TPlotTool [(sv x190.Name), (.slice Au191_0 (x190.Rects).length cu191_0)] rfl rfl)))) _
  refine Tr.storeMix 2 (raw fl_TPlotTool [(sv x190.Name), (.slice Ay188_0 (y188).length cy188_0)] rfl rfl) (cs := [(.slice Ay188_0 (y188).length cy188_0)]) (fo := 1) (wn rfl) rfl rfl rfl rfl rfl (List.getElem?_eq_some_iff.1 hx1902).1 sz_52 rfl rfl rfl ?_
  refine Tr.nil (Tr.normThen ?_)
  refine Tr.sr ?_
  refine Tr.mv rfl rfl ?_
  refine Tr.mv rfl rfl ?_
  obtain ⟨x192, hx192, H⟩ := bnd H
  obtain ⟨hx1920, hx1921, hx1922⟩ := idx_some hx192
  refine Tr.va rfl (fun _ _ h1 h2 => run_indexAddr el_22 (h1.ev rfl) hl184 (h1.ev rfl) hx1920 hx1921) ?_
  refine Tr.va rfl (fun _ _ h1 h2 => run_fieldAddr fo_54_1 (h1.ev rfl)) ?_
  refine Tr.va rfl (fun _ _ h1 h2 => run_load1 ag_52 (h1.ev rfl) (CellsAt.drop (rdm (cs := raw fl_TPlotTool [(sv x190.Name), (.slice Ay188_0 (y188).length cy188_0)] rfl rfl) h2 (κ := 2) rfl (List.getElem?_eq_some_iff.1 hx1922).1) 1) rfl) ?_
  refine Tr.va rfl (fun _ _ h1 h2 => run_len un_52 (h1.ev rfl)) ?_
  refine Tr.mv rfl rfl ?_
  refine Tr.nil (Tr.normThen ?_)
  refine Tr.block ?_
  refine Tr.loop (σ := (List TRect) × Nat × (List TRect) × (Option Addr) × Nat) (fun m w s => m = s.1.length + 1 ∧ s.1 = List.drop s.2.1 y188 ∧ s.2.1 ≤ y188.length ∧ F_plot_ownTools__changed_2__Short_1_L4 l184 x185 (F_plot_ownTools__changed_2__Short_1_L3 y100 mL3) x190 s.1 s.2.1 s.2.2.1 = some r ∧ SlF s.2.2.2.1 (s.2.2.1).length s.2.2.2.2) (fun s => [(1, (.func (.func 54) #[] #[(.pointer (some ⟨bq0, 0, none⟩))])), (5, (.slice Al184 (l184).length cl184)), (6, (iv x185)), (12, (iv (y100.length : Int))), (13, (iv x185)), (30, (.slice s.2.2.2.1 (s.2.2.1).length s.2.2.2.2)), (31, (iv (y188.length : Int))), (32, (iv (s.2.1 : Int)))]) (fun s => [(2, ow Al184 cl184 54 (mix fl_TPlotTool) (mixL l184 (x185).toNat (raw fl_TPlotTool [(sv x190.Name), (.slice s.2.2.2.1 (s.2.2.1).length s.2.2.2.2)] rfl rfl))), (11, ow s.2.2.2.1 s.2.2.2.2 66 fl_TRect s.2.2.1)]) (y188.length + 1) (y188, 0, y188, Ay188_0, cy188_0) ⟨rfl, rfl, Nat.zero_le _, H, hgy188_0⟩ (.cons rfl (.cons rfl (.cons rfl (.cons rfl (.cons rfl (.cons rfl (.cons rfl (.cons rfl .nil)))))))) (.cons rfl (.cons rfl .nil)) (fun _ _ h => absurd h.1 (by simp)) ?_
  intro w leL4 m s hs
  obtain ⟨restL4, iL4, l211, Al211, cl211⟩ := s
  obtain ⟨hmL4, hdL4, hiL4, H, hl211⟩ := hs
  replace hdL4 : restL4 = List.drop iL4 y188 := hdL4
  replace H : F_plot_ownTools__changed_2__Short_1_L4 l184 x185 (F_plot_ownTools__changed_2__Short_1_L3 y100 mL3) x190 restL4 iL4 l211 = some r := H
  replace hmL4 : m + 1 = restL4.length + 1 := hmL4
  replace hc0 := leL4.ext.cells hb0 hc0
  replace hb0 := leL4.r _ hb0
  replace leB := leB.trans leL4
  replace leL3 := leL3.trans leL4
  replace hl211 : SlF Al211 (l211).length cl211 := hl211
  obtain rfl : m = restL4.length := by omega
  clear hmL4
  show Tr _ _ (LF [(1, (.func (.func 54) #[] #[(.pointer (some ⟨bq0, 0, none⟩))])), (5, (.slice Al184 (l184).length cl184)), (6, (iv x185)), (12, (iv (y100.length : Int))), (13, (iv x185)), (30, (.slice Al211 (l211).length cl211)), (31, (iv (y188.length : Int))), (32, (iv (iL4 : Int)))]) (LE [(2, ow Al184 cl184 54 (mix fl_TPlotTool) (mixL l184 (x185).toNat (raw fl_TPlotTool [(sv x190.Name), (.slice Al211 (l211).length cl211)] rfl rfl))), (11, ow Al211 cl211 66 fl_TRect l211)]) _
  cases restL4 with
  | nil =>
   rw [F_plot_ownTools__changed_2__Short_1_L4.eq_1] at H
   refine Tr.sr ?_
   refine Tr.va rfl (fun _ _ h1 h2 => run_lss (h1.ev rfl) (h1.ev rfl)) ?_
   refine Tr.nil (Tr.normThen ?_)
   refine Tr.seq ?_
   refine Tr.condF rfl (range_nil hdL4) ?_
   refine Tr.exit (Tr.exitThen (Tr.exitThen (Tr.exitBlock (Tr.normBlock (Tr.normThen ?_)))))
   refine Tr.region ?_
   refine Tr.va rfl (fun _ _ h1 h2 => run_add (h1.ev rfl) (h1.ev rfl)) ?_
   refine Tr.mv rfl rfl ?_
   refine Tr.nil ?_
   refine Tr.freeze 11 rfl fun w le213 hz212 => ?_
   replace hc0 := le213.ext.cells hb0 hc0
   replace hb0 := le213.r _ hb0
   replace leB := leB.trans le213
   replace leL3 := leL3.trans le213
   replace leL4 := leL4.trans le213
   refine Tr.mixClose 2 rfl ((Al211, cl211)) (TPlotTool.mk x190.Name l211) hz212 rfl ?_
   have hs214 : ((l184).set (x185).toNat (TPlotTool.mk x190.Name l211)).length = (l184).length := List.length_set
   have hfhs214 : SlF Al184 ((l184).set (x185).toNat (TPlotTool.mk x190.Name l211)).length cl184 := by rw [hs214]; exact hl184
   refine Tr.sel (lf := [(1, (.func (.func 54) #[] #[(.pointer (some ⟨bq0, 0, none⟩))])), (5, (.slice Al184 (((l184).set (x185).toNat (TPlotTool.mk x190.Name l211))).length cl184)), (6, (iv x185)), (12, (iv (y100.length : Int))), (13, (iv (w64 (x185 + 1)))), (30, (.slice Al211 (l211).length cl211)), (31, (iv (y188.length : Int))), (32, (iv (iL4 : Int))), (33, (.bool (decide ((iL4 : Int) < (y188.length : Int))))), (48, (iv (w64 (x185 + 1))))]) (le := [(2, ow Al184 cl184 54 fl_TPlotTool ((l184).set (x185).toNat (TPlotTool.mk x190.Name l211)))]) (.cons rfl (.cons (slenV rfl (by rw [hs214])) (.cons rfl (.cons rfl (.cons rfl (.cons rfl (.cons rfl (.cons rfl (.cons rfl (.cons rfl .nil)))))))))) (.cons rfl .nil) ?_
   exact Tr.backThen leL3 (((l184).set (x185).toNat (TPlotTool.mk x190.Name l211)), (w64 (x185 + 1)), Al184, cl184) ⟨H, hfhs214⟩ (.cons rfl (.cons rfl (.cons rfl (.cons rfl .nil)))) (.cons rfl .nil)
  | cons xL4 restL4 =>
   rw [F_plot_ownTools__changed_2__Short_1_L4.eq_2] at H
   refine Tr.sr ?_
   refine Tr.va rfl (fun _ _ h1 h2 => run_lss (h1.ev rfl) (h1.ev rfl)) ?_
   refine Tr.nil (Tr.normThen ?_)
   refine Tr.seq ?_
   refine Tr.condT rfl (range_on hdL4) ?_
   refine Tr.skip (Tr.normThen ?_)
   refine Tr.seq ?_
   refine Tr.block ?_
   refine Tr.sr ?_
   refine Tr.mv rfl rfl ?_
   obtain ⟨x215, hx215, H⟩ := bnd H
   obtain ⟨hx2150, hx2151, hx2152⟩ := idx_some hx215
   refine Tr.va rfl (fun _ _ h1 h2 => run_indexAddr el_52 (h1.ev rfl) hl211 (h1.ev rfl) hx2150 hx2151) ?_
   refine Tr.va rfl (fun _ _ h1 h2 => run_loadN (cs := [(iv x215.X0), (iv x215.Y0), (iv x215.X1), (iv x215.Y1)]) ag_66 sz_66 (h1.ev rfl) (CellsAt.take (rdo ef_TRect (k := 11) h2 rfl hx2152) 4) rfl) ?_
   refine Tr.alloc 14 (wn rfl) rfl ze_66 fun b216 => ?_
   refine Tr.asg rfl rfl ?_
   refine Tr.store 14 (cs := [(iv x215.X0), (iv x215.Y0), (iv x215.X1), (iv x215.Y1)]) [(iv x215.X0), (iv x215.Y0), (iv x215.X1), (iv x215.Y1)] (wn rfl) rfl rfl rfl rfl sz_66 rfl rfl rfl ?_
   refine Tr.nil (Tr.normThen ?_)
   refine Tr.drawTail 9 (by kernel_rfl) (by kernel_rfl) ?_
   refine Tq.mv rfl rfl ?_
   refine Tq.mv rfl rfl ?_
   obtain ⟨x217, hx217, H⟩ := bnd H
   obtain ⟨hx2170, hx2171, hx2172⟩ := idx_some hx217
   refine Tq.va rfl (fun _ _ h1 h2 => run_indexAddr el_22 (h1.ev rfl) hl184 (h1.ev rfl) hx2170 hx2171) ?_
   refine Tq.va rfl (fun _ _ h1 h2 => run_fieldAddr fo_54_1 (h1.ev rfl)) ?_
   refine Tq.va rfl (fun _ _ h1 h2 => run_load1 ag_52 (h1.ev rfl) (CellsAt.drop (rdm (cs := raw fl_TPlotTool [(sv x190.Name), (.slice Al211 (l211).length cl211)] rfl rfl) h2 (κ := 2) rfl (List.getElem?_eq_some_iff.1 hx2172).1) 1) rfl) ?_
   refine Tq.mv rfl rfl ?_
   refine Tq.mv rfl rfl ?_
   refine Tq.va rfl (fun _ _ h1 h2 => run_loadN (cs := [(iv x215.X0), (iv x215.Y0), (iv x215.X1), (iv x215.Y1)]) ag_66 sz_66 (h1.ev rfl) (CellsAt.take (rdb h2 (vs := [(iv x215.X0), (iv x215.Y0), (iv x215.X1), (iv x215.Y1)]) (k := 14) rfl 0) 4) rfl) ?_
   obtain ⟨y218, hy218, H⟩ := bnd H
   refine Tq.callF (r := (.agg #[(iv y218.X0), (iv y218.Y0), (iv y218.X1), (iv y218.Y1)])) (wn rfl) rfl rfl Tryz.call54 (evl_cons rfl evl_nil) (fun W hW => F_plot_changed_2__Short_1_ok x215 bq0 (hW.extAll.r _ hb0) (hW.extAll.cells hb0 hc0) y218 hy218 (HF.start _)) ?_
   refine Tq.nil ?_
   obtain ⟨x219, hx219, H⟩ := bnd H
   obtain ⟨hx2190, hx2191, hx2192⟩ := idx_some hx219
   refine Tr.va rfl (fun _ _ h1 h2 => run_indexAddr el_52 (h1.ev rfl) hl211 (h1.ev rfl) hx2190 hx2191) ?_
   obtain ⟨l220, hl220, H⟩ := bnd H
   have hnl220 := sets_len hl220
   refine Tr.storeEl 11 (t := fl_TRect) (l := l211) (i := (iL4 : Int)) (fo := 0) (cs := [(iv y218.X0), (iv y218.Y0), (iv y218.X1), (iv y218.Y1)]) y218 (wn rfl) rfl rfl rfl rfl rfl hx2192 sz_66 rfl (fun u _ => ⟨u, trivial, rfl⟩) rfl hl220 ?_
   have hfl220 : SlF Al211 (l220).length cl211 := by rw [hnl220]; exact hl211
   refine Tr.sel (lf := [(1, (.func (.func 54) #[] #[(.pointer (some ⟨bq0, 0, none⟩))])), (5, (.slice Al184 (l184).length cl184)), (6, (iv x185)), (7, (iv (iL4 : Int))), (8, (.pointer (some ⟨b216, 0, none⟩))), (12, (iv (y100.length : Int))), (13, (iv x185)), (30, (.slice Al211 (l220).length cl211)), (31, (iv (y188.length : Int))), (32, (iv (iL4 : Int))), (33, (.bool (decide ((iL4 : Int) < (y188.length : Int))))), (34, (iv (iL4 : Int))), (36, (.agg #[(iv x215.X0), (iv x215.Y0), (iv x215.X1), (iv x215.Y1)])), (37, (.slice Al184 (l184).length cl184)), (38, (iv x185)), (39, (.pointer (some ⟨adB Al184, adO Al184 + (x185).toNat * 2, none⟩))), (40, (.pointer (some ⟨adB Al184, adO Al184 + (x185).toNat * 2 + 1, none⟩))), (41, (.slice Al211 (l220).length cl211)), (42, (iv (iL4 : Int))), (43, (.func (.func 54) #[] #[(.pointer (some ⟨bq0, 0, none⟩))])), (44, (.agg #[(iv x215.X0), (iv x215.Y0), (iv x215.X1), (iv x215.Y1)])), (45, (.agg #[(iv y218.X0), (iv y218.Y0), (iv y218.X1), (iv y218.Y1)]))]) (le := [(2, ow Al184 cl184 54 (mix fl_TPlotTool) (mixL l184 (x185).toNat (raw fl_TPlotTool [(sv x190.Name), (.slice Al211 (l220).length cl211)] rfl rfl))), (11, ow Al211 cl211 66 fl_TRect l220), (14, bx b216 #[(iv x215.X0), (iv x215.Y0), (iv x215.X1), (iv x215.Y1)] 66)]) (.cons rfl (.cons rfl (.cons rfl (.cons rfl (.cons rfl (.cons rfl (.cons rfl (.cons (slenV rfl (by rw [hnl220])) (.cons rfl (.cons rfl (.cons rfl (.cons rfl (.cons rfl (.cons rfl (.cons rfl (.cons rfl (.cons rfl (.cons (slenV rfl (by rw [hnl220])) (.cons rfl (.cons rfl (.cons rfl (.cons rfl .nil)))))))))))))))))))))) (.cons (emix rfl (by rw [hnl220])) (.cons rfl (.cons rfl .nil))) ?_
   refine Tr.nil (Tr.normBlock (Tr.normThen ?_))
   refine Tr.region ?_
   refine Tr.va rfl (fun _ _ h1 h2 => run_add (h1.ev rfl) (h1.ev rfl)) ?_
   refine Tr.mv rfl rfl ?_
   refine Tr.nil ?_
   exact Tr.backThen leL4 (restL4, (iL4 + 1), l220, Al211, cl211) ⟨rfl, range_tl hdL4, range_lt hdL4, H, hfl220⟩ (.cons rfl (.cons rfl (.cons rfl (.cons rfl (.cons rfl (.cons rfl (.cons rfl (.cons (congrArg (fun z => some (Value.int .i64 z)) (range_up hdL4 hgy188_0)) .nil)))))))) (.cons rfl (.cons rfl .nil))
 ·refine Tr.exit (Tr.exitThen (Tr.exitThen (Tr.exitBlock (Tr.normThen ?_))))
  refine Tr.sr ?_
  refine Tr.mv rfl rfl ?_
  refine Tr.asg rfl rfl ?_
  refine Tr.nil (Tr.normThen ?_)
  refine Tr.ret ?_
  obtain rfl := Option.some.inj H
  exact Tr.out (m := [(.slice Al184 (l184).length cl184)]) [] (res_tmp rfl res_nil) (fun W hW => ⟨w, (Al184, cl184), leB, rfl, hl184, hW.pick (ks := [2]) (by decide) (pk_cons rfl pk_nil)⟩)

theorem F_plot_changed_1__Short_1_ok {w : Bs} (p0 : TPoint) (bq0 : Nat) (hb0 : w.R bq0) (hc0 : CellsAt w.W bq0 0 [(.func (.func 22) #[] #[])]) (r : TPoint) (H : F_plot_changed_1__Short_1 p0 = some r) (hE : HF w w.W E0) : Calls Tryz.prog 53 [(.agg #[(iv p0.X), (iv p0.Y)]), (.pointer (some ⟨bq0, 0, none⟩))].toArray w.W fun e W' => e = .returned (.agg #[(iv r.X), (iv r.Y)]) ∧ HF w W' E0 := by
 unfold F_plot_changed_1__Short_1 at H
 have leB := Bs.Le.refl w
 refine Tr.enter (n := 13) Tryz.func53 rfl rfl rfl hE ?_
 refine Tr.sr ?_
 refine Tr.box 1 (cs := [(iv p0.X), (iv p0.Y)]) (wn rfl) rfl rfl rfl fun b100 => ?_
 refine Tr.alloc 2 (wn rfl) rfl ze_42 fun b101 => ?_
 refine Tr.nil (Tr.normThen ?_)
 refine Tr.seq ?_
 refine Tr.drawTail 7 (by kernel_rfl) (by kernel_rfl) ?_
 refine Tq.va rfl (fun _ _ h1 h2 => run_load1 ag_44 (h1.ev rfl) (rdR hb0 hc0 h2) rfl) ?_
 refine Tq.va rfl (fun _ _ h1 h2 => run_fieldAddr fo_42_0 (h1.ev rfl)) ?_
 refine Tq.va rfl (fun _ _ h1 h2 => run_load1 ag_3 (h1.ev rfl) (rdb h2 (vs := [(iv p0.X), (iv p0.Y)]) (k := 1) rfl 0) rfl) ?_
 obtain ⟨y102, hy102, H⟩ := bnd H
 refine Tq.callF (r := (iv y102)) (wn rfl) rfl rfl Tryz.call22 (evl_cons rfl evl_nil) (fun W hW => F_plot_Short_1_ok p0.X y102 hy102 (HF.start _)) ?_
 refine Tq.va rfl (fun _ _ h1 h2 => run_load1 ag_44 (h1.ev rfl) (rdR hb0 hc0 h2) rfl) ?_
 refine Tq.va rfl (fun _ _ h1 h2 => run_fieldAddr fo_42_1 (h1.ev rfl)) ?_
 refine Tq.va rfl (fun _ _ h1 h2 => run_load1 ag_3 (h1.ev rfl) (rdb h2 (vs := [(iv p0.X), (iv p0.Y)]) (k := 1) rfl 1) rfl) ?_
 refine Tq.nil ?_
 obtain ⟨y103, hy103, H⟩ := bnd H
 refine Tr.callF (r := (iv y103)) (wn rfl) rfl rfl Tryz.call22 (evl_cons rfl evl_nil) (fun W hW => F_plot_Short_1_ok p0.Y y103 hy103 (HF.start _)) ?_
 refine Tr.build (vs := [(0, (iv y102)), (1, (iv y103))]) (cs := [(iv y102), (iv y103)]) (wn rfl) rfl (evs_cons rfl (evs_cons rfl evs_nil)) (by kernel_rfl) ?_
 refine Tr.store 2 (cs := [(iv y102), (iv y103)]) [(iv y102), (iv y103)] (wn rfl) rfl rfl rfl rfl sz_42 rfl rfl rfl ?_
 refine Tr.nil (Tr.normThen ?_)
 refine Tr.ret ?_
 obtain rfl := Option.some.inj H
 exact Tr.out (m := [(.agg #[(iv y102), (iv y103)])]) [2] (res_cell rfl rfl ag_42 sz_42 res_nil) (fun W hW => ⟨rfl, hW.low leB⟩)

theorem F_plot_changed_3__changed_1__Short_1_ok {w : Bs} (p0 : TPlotStep) (Ap0_0 : Option Addr) (cp0_0 : Nat) (Ap0_1 : Option Addr) (cp0_1 : Nat) (hp0_1 : Sl w.R w.W fl_TPlotStep Ap0_1 cp0_1 p0.Steps) (Ae0 : Option Addr) (ce0 : Nat) (le0 : List TPlotStep) (ie0 : Nat) (hi0 : ie0 < le0.length) (bq0 : Nat) (bq1 : Nat) (hb0 : w.R bq0) (hc0 : CellsAt w.W bq0 0 [(.func (.func 53) #[] #[(.pointer (some ⟨bq1, 0, none⟩))])]) (hb1 : w.R bq1) (hc1 : CellsAt w.W bq1 0 [(.func (.func 22) #[] #[])]) (r : (Int × Int × (List TPoint))) (H : F_plot_changed_3__changed_1__Short_1 p0 = some r) (hE : HF w w.W (LEn [ow Ae0 ce0 49 (mix fl_TPlotStep) (mixL le0 ie0 (raw fl_TPlotStep [(iv p0.Kind), (sv p0.Name), (iv p0.At.X), (iv p0.At.Y), (.slice Ap0_0 (p0.Points).length cp0_0), (iv p0.NX), (iv p0.NY), (.slice Ap0_1 (p0.Steps).length cp0_1)] rfl rfl)), ow Ap0_0 cp0_0 42 fl_TPoint p0.Points])) : Calls Tryz.prog 56 [(.pointer (some ⟨adB Ae0, adO Ae0 + ie0 * 8, none⟩)), (.pointer (some ⟨bq0, 0, none⟩))].toArray w.W fun e W' => ∃ (w' : Bs) (u : Unit), w.Le w' ∧ e = .returned (.tuple #[]) ∧ ((r.2.2).length = (p0.Points).length) ∧ HF w' W' (LEn [ow Ae0 ce0 49 (mix fl_TPlotStep) (mixL le0 ie0 (raw fl_TPlotStep [(iv p0.Kind), (sv p0.Name), (iv r.1), (iv r.2.1), (.slice Ap0_0 (r.2.2).length cp0_0), (iv p0.NX), (iv p0.NY), (.slice Ap0_1 (p0.Steps).length cp0_1)] rfl rfl)), ow Ap0_0 cp0_0 42 fl_TPoint r.2.2]) := by
 unfold F_plot_changed_3__changed_1__Short_1 at H
 have hfhp0_0 := (hE.sl (k := 1) rfl).form
 have leB := Bs.Le.refl w
 refine Tr.enter (n := 37) Tryz.func56 rfl rfl rfl hE ?_
 refine Tr.seq ?_
 refine Tr.drawTail 7 (by kernel_rfl) (by kernel_rfl) ?_
 refine Tq.mv rfl rfl ?_
 refine Tq.va rfl (fun _ _ h1 h2 => run_load1 ag_94 (h1.ev rfl) (rdR hb0 hc0 h2) rfl) ?_
 refine Tq.mv rfl rfl ?_
 refine Tq.va rfl (fun _ _ h1 h2 => run_nilCheck (h1.ev rfl)) ?_
 refine Tq.va rfl (fun _ _ h1 h2 => run_fieldAddr fo_49_2 (h1.ev rfl)) ?_
 refine Tq.va rfl (fun _ _ h1 h2 => run_loadN (cs := [(iv p0.At.X), (iv p0.At.Y)]) ag_42 sz_42 (h1.ev rfl) (CellsAt.take (CellsAt.drop (rdm (cs := raw fl_TPlotStep [(iv p0.Kind), (sv p0.Name), (iv p0.At.X), (iv p0.At.Y), (.slice Ap0_0 (p0.Points).length cp0_0), (iv p0.NX), (iv p0.NY), (.slice Ap0_1 (p0.Steps).length cp0_1)] rfl rfl) h2 (κ := 0) rfl hi0) 2) 2) rfl) ?_
 obtain ⟨y100, hy100, H⟩ := bnd H
 refine Tq.callF (r := (.agg #[(iv y100.X), (iv y100.Y)])) (wn rfl) rfl rfl Tryz.call53 (evl_cons rfl evl_nil) (fun W hW => F_plot_changed_1__Short_1_ok p0.At bq1 (hW.extAll.r _ hb1) (hW.extAll.cells hb1 hc1) y100 hy100 (HF.start _)) ?_
 refine Tq.nil ?_
 refine Tr.va rfl (fun _ _ h1 h2 => run_nilCheck (h1.ev rfl)) ?_
 refine Tr.va rfl (fun _ _ h1 h2 => run_fieldAddr fo_49_2 (h1.ev rfl)) ?_
 refine Tr.storeMix 0 (raw fl_TPlotStep [(iv p0.Kind), (sv p0.Name), (iv y100.X), (iv y100.Y), (.slice Ap0_0 (p0.Points).length cp0_0), (iv p0.NX), (iv p0.NY), (.slice Ap0_1 (p0.Steps).length cp0_1)] rfl rfl) (cs := [(iv y100.X), (iv y100.Y)]) (fo := 2) (wn rfl) rfl rfl rfl rfl rfl hi0 sz_42 rfl rfl rfl ?_
 refine Tr.nil (Tr.normThen ?_)
 refine Tr.sr ?_
 refine Tr.mv rfl rfl ?_
 refine Tr.va rfl (fun _ _ h1 h2 => run_nilCheck (h1.ev rfl)) ?_
 refine Tr.va rfl (fun _ _ h1 h2 => run_fieldAddr fo_49_3 (h1.ev rfl)) ?_
 refine Tr.va rfl (fun _ _ h1 h2 => run_load1 ag_47 (h1.ev rfl) (CellsAt.drop (rdm (cs := raw fl_TPlotStep [(iv p0.Kind), (sv p0.Name), (iv y100.X), (iv y100.Y), (.slice Ap0_0 (p0.Points).length cp0_0), (iv p0.NX), (iv p0.NY), (.slice Ap0_1 (p0.Steps).length cp0_1)] rfl rfl) h2 (κ := 0) rfl hi0) 4) rfl) ?_
 refine Tr.va rfl (fun _ _ h1 h2 => run_len un_47 (h1.ev rfl)) ?_
 refine Tr.mv rfl rfl ?_
 refine Tr.nil (Tr.normThen ?_)
 refine Tr.block ?_
 refine Tr.loop (σ := (List TPoint) × Nat × (List TPoint)) (fun m w s => m = s.1.length + 1 ∧ s.1 = List.drop s.2.1 p0.Points ∧ s.2.1 ≤ p0.Points.length ∧ F_plot_changed_3__changed_1__Short_1_L1 y100 s.1 s.2.1 s.2.2 = some r ∧ (s.2.2).length = (p0.Points).length) (fun s => [(0, (.pointer (some ⟨adB Ae0, adO Ae0 + ie0 * 8, none⟩))), (1, (.pointer (some ⟨bq0, 0, none⟩))), (17, (iv (p0.Points.length : Int))), (18, (iv (s.2.1 : Int)))]) (fun s => [(0, ow Ae0 ce0 49 (mix fl_TPlotStep) (mixL le0 ie0 (raw fl_TPlotStep [(iv p0.Kind), (sv p0.Name), (iv y100.X), (iv y100.Y), (.slice Ap0_0 (s.2.2).length cp0_0), (iv p0.NX), (iv p0.NY), (.slice Ap0_1 (p0.Steps).length cp0_1)] rfl rfl))), (1, ow Ap0_0 cp0_0 42 fl_TPoint s.2.2)]) (p0.Points.length + 1) (p0.Points, 0, p0.Points) ⟨rfl, rfl, Nat.zero_le _, H, rfl⟩ (.cons rfl (.cons rfl (.cons rfl (.cons rfl .nil)))) (.cons rfl (.cons rfl .nil)) (fun _ _ h => absurd h.1 (by simp)) ?_
 intro w leL1 m s hs
 obtain ⟨restL1, iL1, l115⟩ := s
 obtain ⟨hmL1, hdL1, hiL1, H, hl115⟩ := hs
 replace hdL1 : restL1 = List.drop iL1 p0.Points := hdL1
 replace H : F_plot_changed_3__changed_1__Short_1_L1 y100 restL1 iL1 l115 = some r := H
 replace hmL1 : m + 1 = restL1.length + 1 := hmL1
 replace hc0 := leL1.ext.cells hb0 hc0
 replace hb0 := leL1.r _ hb0
 replace hc1 := leL1.ext.cells hb1 hc1
 replace hb1 := leL1.r _ hb1
 replace hp0_1 := hp0_1.leR leL1
 replace leB := leB.trans leL1
 replace hl115 : (l115).length = (p0.Points).length := hl115
 have hfl115 : SlF Ap0_0 (l115).length cp0_0 := (by rw [hl115]; exact hfhp0_0)
 obtain rfl : m = restL1.length := by omega
 clear hmL1
 show Tr _ _ (LF [(0, (.pointer (some ⟨adB Ae0, adO Ae0 + ie0 * 8, none⟩))), (1, (.pointer (some ⟨bq0, 0, none⟩))), (17, (iv (p0.Points.length : Int))), (18, (iv (iL1 : Int)))]) (LE [(0, ow Ae0 ce0 49 (mix fl_TPlotStep) (mixL le0 ie0 (raw fl_TPlotStep [(iv p0.Kind), (sv p0.Name), (iv y100.X), (iv y100.Y), (.slice Ap0_0 (l115).length cp0_0), (iv p0.NX), (iv p0.NY), (.slice Ap0_1 (p0.Steps).length cp0_1)] rfl rfl))), (1, ow Ap0_0 cp0_0 42 fl_TPoint l115)]) _
 cases restL1 with
 | nil =>
  rw [F_plot_changed_3__changed_1__Short_1_L1.eq_1] at H
  refine Tr.sr ?_
  refine Tr.va rfl (fun _ _ h1 h2 => run_lss (h1.ev rfl) (h1.ev rfl)) ?_
  refine Tr.nil (Tr.normThen ?_)
  refine Tr.seq ?_
  refine Tr.condF rfl (range_nil hdL1) ?_
  refine Tr.exit (Tr.exitThen (Tr.exitThen (Tr.exitBlock (Tr.offEnd ?_))))
  obtain rfl := Option.some.inj H
  exact Tr.out (m := []) [] res_nil (fun W hW => ⟨w, (), leB, rfl, hl115, hW.pick (ks := [0, 1]) (by decide) (pk_cons rfl (pk_cons rfl pk_nil))⟩)
 | cons xL1 restL1 =>
  rw [F_plot_changed_3__changed_1__Short_1_L1.eq_2] at H
  refine Tr.sr ?_
  refine Tr.va rfl (fun _ _ h1 h2 => run_lss (h1.ev rfl) (h1.ev rfl)) ?_
  refine Tr.nil (Tr.normThen ?_)
  refine Tr.seq ?_
  refine Tr.condT rfl (range_on hdL1) ?_
  refine Tr.skip (Tr.normThen ?_)
  refine Tr.seq ?_
  refine Tr.block ?_
  refine Tr.sr ?_
  refine Tr.mv rfl rfl ?_
  refine Tr.asg rfl rfl ?_
  refine Tr.nil (Tr.normThen ?_)
  refine Tr.drawTail 14 (by kernel_rfl) (by kernel_rfl) ?_
  refine Tq.mv rfl rfl ?_
  refine Tq.va rfl (fun _ _ h1 h2 => run_nilCheck (h1.ev rfl)) ?_
  refine Tq.va rfl (fun _ _ h1 h2 => run_fieldAddr fo_49_3 (h1.ev rfl)) ?_
  refine Tq.va rfl (fun _ _ h1 h2 => run_load1 ag_47 (h1.ev rfl) (CellsAt.drop (rdm (cs := raw fl_TPlotStep [(iv p0.Kind), (sv p0.Name), (iv y100.X), (iv y100.Y), (.slice Ap0_0 (l115).length cp0_0), (iv p0.NX), (iv p0.NY), (.slice Ap0_1 (p0.Steps).length cp0_1)] rfl rfl) h2 (κ := 0) rfl hi0) 4) rfl) ?_
  refine Tq.mv rfl rfl ?_
  refine Tq.va rfl (fun _ _ h1 h2 => run_load1 ag_94 (h1.ev rfl) (rdR hb0 hc0 h2) rfl) ?_
  refine Tq.mv rfl rfl ?_
  refine Tq.va rfl (fun _ _ h1 h2 => run_nilCheck (h1.ev rfl)) ?_
  refine Tq.va rfl (fun _ _ h1 h2 => run_fieldAddr fo_49_3 (h1.ev rfl)) ?_
  refine Tq.va rfl (fun _ _ h1 h2 => run_load1 ag_47 (h1.ev rfl) (CellsAt.drop (rdm (cs := raw fl_TPlotStep [(iv p0.Kind), (sv p0.Name), (iv y100.X), (iv y100.Y), (.slice Ap0_0 (l115).length cp0_0), (iv p0.NX), (iv p0.NY), (.slice Ap0_1 (p0.Steps).length cp0_1)] rfl rfl) h2 (κ := 0) rfl hi0) 4) rfl) ?_
  refine Tq.mv rfl rfl ?_
  obtain ⟨x116, hx116, H⟩ := bnd H
  obtain ⟨hx1160, hx1161, hx1162⟩ := idx_some hx116
  refine Tq.va rfl (fun _ _ h1 h2 => run_indexAddr el_47 (h1.ev rfl) hfl115 (h1.ev rfl) hx1160 hx1161) ?_
  refine Tq.va rfl (fun _ _ h1 h2 => run_loadN (cs := [(iv x116.X), (iv x116.Y)]) ag_42 sz_42 (h1.ev rfl) (CellsAt.take (rdo ef_TPoint (k := 1) h2 rfl hx1162) 2) rfl) ?_
  obtain ⟨y117, hy117, H⟩ := bnd H
  refine Tq.callF (r := (.agg #[(iv y117.X), (iv y117.Y)])) (wn rfl) rfl rfl Tryz.call53 (evl_cons rfl evl_nil) (fun W hW => F_plot_changed_1__Short_1_ok x116 bq1 (hW.extAll.r _ hb1) (hW.extAll.cells hb1 hc1) y117 hy117 (HF.start _)) ?_
  refine Tq.nil ?_
  obtain ⟨x118, hx118, H⟩ := bnd H
  obtain ⟨hx1180, hx1181, hx1182⟩ := idx_some hx118
  refine Tr.va rfl (fun _ _ h1 h2 => run_indexAddr el_47 (h1.ev rfl) hfl115 (h1.ev rfl) hx1180 hx1181) ?_
  obtain ⟨l119, hl119, H⟩ := bnd H
  have hnl119 := sets_len hl119
  refine Tr.storeEl 1 (t := fl_TPoint) (l := l115) (i := (iL1 : Int)) (fo := 0) (cs := [(iv y117.X), (iv y117.Y)]) y117 (wn rfl) rfl rfl rfl rfl rfl hx1182 sz_42 rfl (fun u _ => ⟨u, trivial, rfl⟩) rfl hl119 ?_
  have hfl119 : SlF Ap0_0 (l119).length cp0_0 := by rw [hnl119]; exact hfl115
  have hsl119 := hnl119.trans hl115
  refine Tr.sel (lf := [(0, (.pointer (some ⟨adB Ae0, adO Ae0 + ie0 * 8, none⟩))), (1, (.pointer (some ⟨bq0, 0, none⟩))), (3, (iv (iL1 : Int))), (17, (iv (p0.Points.length : Int))), (18, (iv (iL1 : Int))), (19, (.bool (decide ((iL1 : Int) < (p0.Points.length : Int))))), (20, (iv (iL1 : Int))), (21, (.pointer (some ⟨adB Ae0, adO Ae0 + ie0 * 8, none⟩))), (22, (.pointer (some ⟨adB Ae0, adO Ae0 + ie0 * 8, none⟩))), (23, (.pointer (some ⟨adB Ae0, adO Ae0 + ie0 * 8 + 4, none⟩))), (24, (.slice Ap0_0 (l119).length cp0_0)), (25, (iv (iL1 : Int))), (26, (.func (.func 53) #[] #[(.pointer (some ⟨bq1, 0, none⟩))])), (27, (.pointer (some ⟨adB Ae0, adO Ae0 + ie0 * 8, none⟩))), (28, (.pointer (some ⟨adB Ae0, adO Ae0 + ie0 * 8, none⟩))), (29, (.pointer (some ⟨adB Ae0, adO Ae0 + ie0 * 8 + 4, none⟩))), (30, (.slice Ap0_0 (l119).length cp0_0)), (31, (iv (iL1 : Int))), (33, (.agg #[(iv x116.X), (iv x116.Y)])), (34, (.agg #[(iv y117.X), (iv y117.Y)]))]) (le := [(0, ow Ae0 ce0 49 (mix fl_TPlotStep) (mixL le0 ie0 (raw fl_TPlotStep [(iv p0.Kind), (sv p0.Name), (iv y100.X), (iv y100.Y), (.slice Ap0_0 (l119).length cp0_0), (iv p0.NX), (iv p0.NY), (.slice Ap0_1 (p0.Steps).length cp0_1)] rfl rfl))), (1, ow Ap0_0 cp0_0 42 fl_TPoint l119)]) (.cons rfl (.cons rfl (.cons rfl (.cons rfl (.cons rfl (.cons rfl (.cons rfl (.cons rfl (.cons rfl (.cons rfl (.cons (slenV rfl (by rw [hnl119])) (.cons rfl (.cons rfl (.cons rfl (.cons rfl (.cons rfl (.cons (slenV rfl (by rw [hnl119])) (.cons rfl (.cons rfl (.cons rfl .nil)))))))))))))))))))) (.cons (emix rfl (by rw [hnl119])) (.cons rfl .nil)) ?_
  refine Tr.nil (Tr.normBlock (Tr.normThen ?_))
  refine Tr.region ?_
  refine Tr.va rfl (fun _ _ h1 h2 => run_add (h1.ev rfl) (h1.ev rfl)) ?_
  refine Tr.mv rfl rfl ?_
  refine Tr.nil ?_
  exact Tr.backThen leL1 (restL1, (iL1 + 1), l119) ⟨rfl, range_tl hdL1, range_lt hdL1, H, hsl119⟩ (.cons rfl (.cons rfl (.cons rfl (.cons (congrArg (fun z => some (Value.int .i64 z)) (range_up hdL1 hfhp0_0)) .nil)))) (.cons rfl (.cons rfl .nil))

theorem F_plot_own__changed_3__changed_1__Short_1_b_ok (N : Nat) (rec : (List TPlotStep) → Option (List TPlotStep)) (hrec : ∀ {w : Bs} (p0 : (List TPlotStep)) (Ap0_0 : Option Addr) (cp0_0 : Nat) (hp0_0 : Sl w.O w.W fl_TPlotStep Ap0_0 cp0_0 p0) (bq0 : Nat) (bq1 : Nat) (hb0 : w.R bq0) (hc0 : CellsAt w.W bq0 0 [(.func (.func 53) #[] #[(.pointer (some ⟨bq1, 0, none⟩))])]) (hb1 : w.R bq1) (hc1 : CellsAt w.W bq1 0 [(.func (.func 22) #[] #[])]) (r : (List TPlotStep)) (H : rec p0 = some r) (hE : HF w w.W (LEn [emp])), Calls Tryz.prog 55 [(.slice Ap0_0 (p0).length cp0_0), (.func (.func 56) #[] #[(.pointer (some ⟨bq0, 0, none⟩))])].toArray w.W fun e W' => ∃ (w' : Bs) (u : (Option Addr × Nat)), w.Le w' ∧ e = .returned (.slice u.1 (r).length u.2) ∧ (SlF u.1 (r).length u.2) ∧ HF w' W' (LEn [ow u.1 u.2 49 fl_TPlotStep r])) {w : Bs} (p0 : (List TPlotStep)) (Ap0_0 : Option Addr) (cp0_0 : Nat) (hp0_0 : Sl w.O w.W fl_TPlotStep Ap0_0 cp0_0 p0) (bq0 : Nat) (bq1 : Nat) (hb0 : w.R bq0) (hc0 : CellsAt w.W bq0 0 [(.func (.func 53) #[] #[(.pointer (some ⟨bq1, 0, none⟩))])]) (hb1 : w.R bq1) (hc1 : CellsAt w.W bq1 0 [(.func (.func 22) #[] #[])]) (r : (List TPlotStep)) (H : F_plot_own__changed_3__changed_1__Short_1_b N rec p0 = some r) (hE : HF w w.W (LEn [emp])) : Calls Tryz.prog 55 [(.slice Ap0_0 (p0).length cp0_0), (.func (.func 56) #[] #[(.pointer (some ⟨bq0, 0, none⟩))])].toArray w.W fun e W' => ∃ (w' : Bs) (u : (Option Addr × Nat)), w.Le w' ∧ e = .returned (.slice u.1 (r).length u.2) ∧ (SlF u.1 (r).length u.2) ∧ HF w' W' (LEn [ow u.1 u.2 49 fl_TPlotStep r]) := by
 unfold F_plot_own__changed_3__changed_1__Short_1_b at H
 have leB := Bs.Le.refl w
 refine Tr.enter (n := 42) Tryz.func55 rfl rfl rfl hE ?_
 refine Tr.sr ?_
 refine Tr.asg rfl rfl ?_
 refine Tr.nilOwn 1 49 fl_TPlotStep ?_
 show Tr _ _ (uf _ 4 (.slice none (([] : List TPlotStep)).length 0)) _ _
 refine Tr.nil (Tr.normThen ?_)
 refine Tr.sr ?_
 refine Tr.mv rfl rfl ?_
 obtain ⟨y100, hy100, H⟩ := bnd H
 refine Tr.callG [2] [emp] (U := (Option Addr × Nat)) (fun u => (.slice u.1 (y100).length u.2)) (fun O W u => SlF u.1 (y100).length u.2) (fun u => [ow u.1 u.2 49 fl_TPlotStep y100]) rfl (pk_cons rfl pk_nil) (fun _ => rfl) (wn rfl) rfl Tryz.call85 (evl_cons rfl evl_nil) (fun W hW hp hE => F_slices_Clone_PlotStep_ok p0 Ap0_0 cp0_0 (hp0_0.extO (hW.extS hp)) y100 hy100 hE) ?_
 intro w u le101 hu
 obtain ⟨Ay100_0, cy100_0⟩ := u
 have gy100_0 := hu
 replace hp0_0 := hp0_0.le le101
 replace hc0 := le101.ext.cells hb0 hc0
 replace hb0 := le101.r _ hb0
 replace hc1 := le101.ext.cells hb1 hc1
 replace hb1 := le101.r _ hb1
 replace leB := leB.trans le101
 have hgy100_0 : SlF Ay100_0 (y100).length cy100_0 := gy100_0 --@phi
 show Tr _ _ (uf _ 8 (.slice Ay100_0 (y100).length cy100_0)) (up _ 2 (ow Ay100_0 cy100_0 49 fl_TPlotStep y100)) _
 refine Tr.asg rfl rfl ?_
 refine Tr.nil (Tr.normThen ?_)
 refine Tr.seq ?_
 refine Tr.sr ?_
 refine Tr.mv rfl rfl ?_
 refine Tr.va rfl (fun _ _ h1 h2 => run_len un_23 (h1.ev rfl)) ?_
 refine Tr.mv rfl rfl ?_
 refine Tr.nil (Tr.normThen ?_)
 refine Tr.block ?_
 refine Tr.loop (σ := (List TPlotStep) × Int × (Option Addr) × Nat) (fun m w s => F_plot_own__changed_3__changed_1__Short_1_L1 rec y100 m s.1 s.2.1 = some r ∧ SlF s.2.2.1 (s.1).length s.2.2.2) (fun s => [(1, (.func (.func 56) #[] #[(.pointer (some ⟨bq0, 0, none⟩))])), (5, (.slice s.2.2.1 (s.1).length s.2.2.2)), (10, (iv (y100.length : Int))), (11, (iv s.2.1))]) (fun s => [(2, ow s.2.2.1 s.2.2.2 49 fl_TPlotStep s.1)]) N (y100, 0, Ay100_0, cy100_0) ⟨H, hgy100_0⟩ (.cons rfl (.cons rfl (.cons rfl (.cons rfl .nil)))) (.cons rfl .nil) (fun _ _ h => noSome (h.1)) ?_
 intro w leL1 mL1 s hs
 obtain ⟨l154, x155, Al154, cl154⟩ := s
 obtain ⟨H, hl154⟩ := hs
 replace H : F_plot_own__changed_3__changed_1__Short_1_L1 rec y100 (mL1 + 1) l154 x155 = some r := H
 replace hc0 := leL1.ext.cells hb0 hc0
 replace hb0 := leL1.r _ hb0
 replace hc1 := leL1.ext.cells hb1 hc1
 replace hb1 := leL1.r _ hb1
 replace leB := leB.trans leL1
 replace hl154 : SlF Al154 (l154).length cl154 := hl154
 rw [F_plot_own__changed_3__changed_1__Short_1_L1.eq_2] at H
 show Tr _ _ (LF [(1, (.func (.func 56) #[] #[(.pointer (some ⟨bq0, 0, none⟩))])), (5, (.slice Al154 (l154).length cl154)), (10, (iv (y100.length : Int))), (11, (iv x155))]) (LE [(2, ow Al154 cl154 49 fl_TPlotStep l154)]) _
 refine Tr.sr ?_
 refine Tr.va rfl (fun _ _ h1 h2 => run_lss (h1.ev rfl) (h1.ev rfl)) ?_
 refine Tr.nil (Tr.normThen ?_)
 refine Tr.seq ?_
 refine Tr.cond rfl H (fun H => ?_) (fun H => ?_)
 ·refine Tr.skip (Tr.normThen ?_)
  refine Tr.seq ?_
  refine Tr.block ?_
  refine Tr.sr ?_
  refine Tr.mv rfl rfl ?_
  refine Tr.asg rfl rfl ?_
  refine Tr.nil (Tr.normThen ?_)
  refine Tr.sr ?_
  refine Tr.mv rfl rfl ?_
  refine Tr.mv rfl rfl ?_
  refine Tr.mv rfl rfl ?_
  refine Tr.mv rfl rfl ?_
  obtain ⟨x156, hx156, H⟩ := bnd H
  obtain ⟨hx1560, hx1561, hx1562⟩ := idx_some hx156
  refine Tr.va rfl (fun _ _ h1 h2 => run_indexAddr el_23 (h1.ev rfl) hl154 (h1.ev rfl) hx1560 hx1561) ?_
  refine Tr.va rfl (fun _ _ h1 h2 => run_fieldAddr fo_49_3 (h1.ev rfl)) ?_
  refine Tr.valE (U := (fl_TPlotStep).Ad) (fun u => (fl_TPlotStep).ok w.O w.W u x156) (fun u => (.slice u.1.1 (x156.Points).length u.1.2)) (wn rfl) rfl (ldN (κ := 2) (t := fl_TPlotStep) (V := fun u => (.slice u.1.1 (x156.Points).length u.1.2)) rfl hx1562 (fun _ _ u h1 hc => run_load1 ag_47 (h1.ev rfl) (hc.drop 4) rfl)) ?_
  intro u157 hoku157
  obtain ⟨⟨Au157_0, cu157_0⟩, ⟨Au157_1, cu157_1⟩⟩ := u157
  obtain ⟨hoku157_0, hoku157_1⟩ := TPlotStep_ok.1 hoku157
  replace hoku157_0 : Sl w.O w.W fl_TPoint Au157_0 cu157_0 x156.Points := hoku157_0
  replace hoku157_1 : Sl w.O w.W fl_TPlotStep Au157_1 cu157_1 x156.Steps := hoku157_1
  show Tr _ _ (uf _ 20 (.slice Au157_0 (x156.Points).length cu157_0)) _ _
  obtain ⟨y158, hy158, H⟩ := bnd H
  refine Tr.callM [7] [emp] (U := (Option Addr × Nat)) (fun u => (.slice u.1 (y158).length u.2)) (fun u => SlF u.1 (y158).length u.2) (fun u => [ow u.1 u.2 42 fl_TPoint y158]) rfl (pk_cons rfl pk_nil) (fun _ => rfl) (wn rfl) rfl Tryz.call81 (evl_cons rfl evl_nil) (fun W hW hp hE => F_slices_Clone_Point_ok x156.Points Au157_0 cu157_0 (hoku157_0.rl.ext (hW.extS hp)) y158 hy158 hE) ?_
  intro u hu
  obtain ⟨Ay158_0, cy158_0⟩ := u
  have gy158_0 := hu
  have hgy158_0 : SlF Ay158_0 (y158).length cy158_0 := gy158_0 --@phi
  show Tr _ _ (uf _ 21 (.slice Ay158_0 (y158).length cy158_0)) (up _ 7 (ow Ay158_0 cy158_0 42 fl_TPoint y158)) _
  obtain ⟨x160, hx160, H⟩ := bnd H
  obtain ⟨hx1600, hx1601, hx1602⟩ := idx_some hx160
  refine Tr.va rfl (fun _ _ h1 h2 => run_indexAddr el_23 (h1.ev rfl) hl154 (h1.ev rfl) hx1600 hx1601) ?_
  refine Tr.va rfl (fun _ _ h1 h2 => run_fieldAddr fo_49_3 (h1.ev rfl)) ?_
  refine Tr.mixOpen 2 rfl hx1602 ?_
  intro u161 hoku161
  obtain ⟨⟨Au161_0, cu161_0⟩, ⟨Au161_1, cu161_1⟩⟩ := u161
  obtain ⟨hoku161_0, hoku161_1⟩ := TPlotStep_ok.1 hoku161
  replace hoku161_0 : Sl w.O w.W fl_TPoint Au161_0 cu161_0 x160.Points := hoku161_0
  replace hoku161_1 : Sl w.O w.W fl_TPlotStep Au161_1 cu161_1 x160.Steps := hoku161_1
  show Tr _ _ _ (up _ 2 (ow Al154 cl154 49 (mix fl_TPlotStep) (mixL l154 (x155).toNat (raw fl_TPlotStep [(iv x160.Kind), (sv x160.Name), (iv x160.At.X), (iv x160.At.Y), (.slice Au161_0 (x160.Points).length cu161_0), (iv x160.NX), (iv x160.NY), (.slice Au161_1 (x160.Steps).length cu161_1)] rfl rfl)))) _
  refine Tr.storeMix 2 (raw fl_TPlotStep [(iv x160.Kind), (sv x160.Name), (iv x160.At.X), (iv x160.At.Y), (.slice Ay158_0 (y158).length cy158_0), (iv x160.NX), (iv x160.NY), (.slice Au161_1 (x160.Steps).length cu161_1)] rfl rfl) (cs := [(.slice Ay158_0 (y158).length cy158_0)]) (fo := 4) (wn rfl) rfl rfl rfl rfl rfl (List.getElem?_eq_some_iff.1 hx1602).1 sz_47 rfl rfl rfl ?_
  refine Tr.nil (Tr.normThen ?_)
  refine Tr.sr ?_
  refine Tr.mv rfl rfl ?_
  refine Tr.mv rfl rfl ?_
  refine Tr.mv rfl rfl ?_
  refine Tr.mv rfl rfl ?_
  obtain ⟨x162, hx162, H⟩ := bnd H
  obtain ⟨hx1620, hx1621, hx1622⟩ := idx_some hx162
  refine Tr.va rfl (fun _ _ h1 h2 => run_indexAddr el_23 (h1.ev rfl) hl154 (h1.ev rfl) hx1620 hx1621) ?_
  refine Tr.va rfl (fun _ _ h1 h2 => run_fieldAddr fo_49_6 (h1.ev rfl)) ?_
  refine Tr.va rfl (fun _ _ h1 h2 => run_load1 ag_23 (h1.ev rfl) (CellsAt.drop (rdm (cs := raw fl_TPlotStep [(iv x160.Kind), (sv x160.Name), (iv x160.At.X), (iv x160.At.Y), (.slice Ay158_0 (y158).length cy158_0), (iv x160.NX), (iv x160.NY), (.slice Au161_1 (x160.Steps).length cu161_1)] rfl rfl) h2 (κ := 2) rfl (List.getElem?_eq_some_iff.1 hx1622).1) 7) rfl) ?_
  refine Tr.mv rfl rfl ?_
  obtain ⟨y163, hy163, H⟩ := bnd H
  refine Tr.callG [8] [emp] (U := (Option Addr × Nat)) (fun u => (.slice u.1 (y163).length u.2)) (fun O W u => SlF u.1 (y163).length u.2) (fun u => [ow u.1 u.2 49 fl_TPlotStep y163]) rfl (pk_cons rfl pk_nil) (fun _ => rfl) (wn rfl) rfl Tryz.call55 (evl_cons rfl (evl_cons rfl evl_nil)) (fun W hW hp hE => hrec x160.Steps Au161_1 cu161_1 (hoku161_1.extO (hW.extS hp)) bq0 bq1 ((hW.extS hp).r _ hb0) ((hW.extS hp).cells hb0 hc0) ((hW.extS hp).r _ hb1) ((hW.extS hp).cells hb1 hc1) y163 hy163 hE) ?_
  intro w u le164 hu
  obtain ⟨Ay163_0, cy163_0⟩ := u
  have gy163_0 := hu
  replace hc0 := le164.ext.cells hb0 hc0
  replace hb0 := le164.r _ hb0
  replace hc1 := le164.ext.cells hb1 hc1
  replace hb1 := le164.r _ hb1
  replace hoku157_0 := hoku157_0.le le164
  replace hoku161_1 := hoku161_1.le le164
  replace leB := leB.trans le164
  replace leL1 := leL1.trans le164
  have hgy163_0 : SlF Ay163_0 (y163).length cy163_0 := gy163_0 --@phi
  show Tr _ _ (uf _ 32 (.slice Ay163_0 (y163).length cy163_0)) (up _ 8 (ow Ay163_0 cy163_0 49 fl_TPlotStep y163)) _
  obtain ⟨x165, hx165, H⟩ := bnd H
  obtain ⟨hx1650, hx1651, hx1652⟩ := idx_some hx165
  refine Tr.va rfl (fun _ _ h1 h2 => run_indexAddr el_23 (h1.ev rfl) hl154 (h1.ev rfl) hx1650 hx1651) ?_
  refine Tr.va rfl (fun _ _ h1 h2 => run_fieldAddr fo_49_6 (h1.ev rfl)) ?_
  refine Tr.storeMix 2 (raw fl_TPlotStep [(iv x160.Kind), (sv x160.Name), (iv x160.At.X), (iv x160.At.Y), (.slice Ay158_0 (y158).length cy158_0), (iv x160.NX), (iv x160.NY), (.slice Ay163_0 (y163).length cy163_0)] rfl rfl) (cs := [(.slice Ay163_0 (y163).length cy163_0)]) (fo := 7) (wn rfl) rfl rfl rfl rfl rfl (List.getElem?_eq_some_iff.1 hx1652).1 sz_23 rfl rfl rfl ?_
  refine Tr.nil (Tr.normThen ?_)
  refine Tr.region ?_
  refine Tr.mv rfl rfl ?_
  refine Tr.mv rfl rfl ?_
  refine Tr.mv rfl rfl ?_
  obtain ⟨x166, hx166, H⟩ := bnd H
  obtain ⟨hx1660, hx1661, hx1662⟩ := idx_some hx166
  refine Tr.va rfl (fun _ _ h1 h2 => run_indexAddr el_23 (h1.ev rfl) hl154 (h1.ev rfl) hx1660 hx1661) ?_
  obtain ⟨y167, hy167, H⟩ := bnd H
  refine Tr.callGC [2, 7] [ow Al154 cl154 49 (mix fl_TPlotStep) (mixL l154 (x155).toNat (raw fl_TPlotStep [(iv x160.Kind), (sv x160.Name), (iv x160.At.X), (iv x160.At.Y), (.slice Ay158_0 (y158).length cy158_0), (iv x160.NX), (iv x160.NY), (.slice Ay163_0 (y163).length cy163_0)] rfl rfl)), ow Ay158_0 cy158_0 42 fl_TPoint y158] (U := Unit) (fun u => (.tuple #[])) (fun O W u => (y167.2.2).length = (y158).length) (fun u => [ow Al154 cl154 49 (mix fl_TPlotStep) (mixL l154 (x155).toNat (raw fl_TPlotStep [(iv x160.Kind), (sv x160.Name), (iv y167.1), (iv y167.2.1), (.slice Ay158_0 (y167.2.2).length cy158_0), (iv x160.NX), (iv x160.NY), (.slice Ay163_0 (y163).length cy163_0)] rfl rfl)), ow Ay158_0 cy158_0 42 fl_TPoint y167.2.2]) rfl (pk_cons rfl (pk_cons rfl pk_nil)) (fun _ => rfl) (wn rfl) rfl rfl Tryz.call56 (evl_cons rfl evl_nil) (fun W hW hp hE => F_plot_changed_3__changed_1__Short_1_ok (TPlotStep.mk x160.Kind x160.Name x160.At y158 x160.NX x160.NY y163) Ay158_0 cy158_0 Ay163_0 cy163_0 (hW.slS (k := 8) rfl hp rfl) Al154 cl154 l154 ((x155).toNat) (List.getElem?_eq_some_iff.1 hx1662).1 bq0 bq1 ((hW.extS hp).r _ hb0) ((hW.extS hp).cells hb0 hc0) ((hW.extS hp).r _ hb1) ((hW.extS hp).cells hb1 hc1) y167 hy167 hE) ?_
  intro w u le168 hu
  have gky167_1 := hu
  replace hc0 := le168.ext.cells hb0 hc0
  replace hb0 := le168.r _ hb0
  replace hc1 := le168.ext.cells hb1 hc1
  replace hb1 := le168.r _ hb1
  replace hoku157_0 := hoku157_0.le le168
  replace hoku161_1 := hoku161_1.le le168
  replace leB := leB.trans le168
  replace leL1 := leL1.trans le168
  have hgky167_1 : (y167.2.2).length = (y158).length := gky167_1 --@phi
  have hfky167_1 : SlF Ay158_0 (y167.2.2).length cy158_0 := by rw [hgky167_1]; exact hgy158_0
  show Tr _ _ (uf _ 39 (.tuple #[])) (up (up _ 7 (ow Ay158_0 cy158_0 42 fl_TPoint y167.2.2)) 2 (ow Al154 cl154 49 (mix fl_TPlotStep) (mixL l154 (x155).toNat (raw fl_TPlotStep [(iv x160.Kind), (sv x160.Name), (iv y167.1), (iv y167.2.1), (.slice Ay158_0 (y167.2.2).length cy158_0), (iv x160.NX), (iv x160.NY), (.slice Ay163_0 (y163).length cy163_0)] rfl rfl)))) _
  refine Tr.sel (lf := [(1, (.func (.func 56) #[] #[(.pointer (some ⟨bq0, 0, none⟩))])), (5, (.slice Al154 (l154).length cl154)), (6, (iv x155)), (10, (iv (y100.length : Int))), (11, (iv x155)), (12, (.bool (decide (x155 < (y100.length : Int))))), (13, (iv x155)), (14, (.slice Al154 (l154).length cl154)), (15, (iv x155)), (16, (.slice Al154 (l154).length cl154)), (17, (iv x155)), (20, (.slice Au157_0 (x156.Points).length cu157_0)), (21, (.slice Ay158_0 (y167.2.2).length cy158_0)), (24, (.slice Al154 (l154).length cl154)), (25, (iv x155)), (26, (.slice Al154 (l154).length cl154)), (27, (iv x155)), (28, (.pointer (some ⟨adB Al154, adO Al154 + (x155).toNat * 8, none⟩))), (29, (.pointer (some ⟨adB Al154, adO Al154 + (x155).toNat * 8 + 7, none⟩))), (30, (.slice Au161_1 (x160.Steps).length cu161_1)), (31, (.func (.func 56) #[] #[(.pointer (some ⟨bq0, 0, none⟩))])), (32, (.slice Ay163_0 (y163).length cy163_0)), (33, (.pointer (some ⟨adB Al154, adO Al154 + (x155).toNat * 8, none⟩))), (34, (.pointer (some ⟨adB Al154, adO Al154 + (x155).toNat * 8 + 7, none⟩))), (35, (.func (.func 56) #[] #[(.pointer (some ⟨bq0, 0, none⟩))])), (36, (.slice Al154 (l154).length cl154)), (37, (iv x155)), (38, (.pointer (some ⟨adB Al154, adO Al154 + (x155).toNat * 8, none⟩))), (39, (.tuple #[]))]) (le := [(2, ow Al154 cl154 49 (mix fl_TPlotStep) (mixL l154 (x155).toNat (raw fl_TPlotStep [(iv x160.Kind), (sv x160.Name), (iv y167.1), (iv y167.2.1), (.slice Ay158_0 (y167.2.2).length cy158_0), (iv x160.NX), (iv x160.NY), (.slice Ay163_0 (y163).length cy163_0)] rfl rfl))), (7, ow Ay158_0 cy158_0 42 fl_TPoint y167.2.2), (8, ow Ay163_0 cy163_0 49 fl_TPlotStep y163)]) (.cons rfl (.cons rfl (.cons rfl (.cons rfl (.cons rfl (.cons rfl (.cons rfl (.cons rfl (.cons rfl (.cons rfl (.cons rfl (.cons rfl (.cons (slenV rfl (by rw [hgky167_1])) (.cons rfl (.cons rfl (.cons rfl (.cons rfl (.cons rfl (.cons rfl (.cons rfl (.cons rfl (.cons rfl (.cons rfl (.cons rfl (.cons rfl (.cons rfl (.cons rfl (.cons rfl (.cons rfl .nil))))))))))))))))))))))))))))) (.cons (emix rfl (by rw [hgky167_1])) (.cons rfl (.cons rfl .nil))) ?_
  refine Tr.nil (Tr.normBlock (Tr.normThen ?_))
  refine Tr.region ?_
  refine Tr.va rfl (fun _ _ h1 h2 => run_add (h1.ev rfl) (h1.ev rfl)) ?_
  refine Tr.mv rfl rfl ?_
  refine Tr.nil ?_
  refine Tr.freeze 7 rfl fun w le170 hz169 => ?_
  replace hc0 := le170.ext.cells hb0 hc0
  replace hb0 := le170.r _ hb0
  replace hc1 := le170.ext.cells hb1 hc1
  replace hb1 := le170.r _ hb1
  replace hoku157_0 := hoku157_0.le le170
  replace hoku161_1 := hoku161_1.le le170
  replace leB := leB.trans le170
  replace leL1 := leL1.trans le170
  refine Tr.freeze 8 rfl fun w le172 hz171 => ?_
  replace hc0 := le172.ext.cells hb0 hc0
  replace hb0 := le172.r _ hb0
  replace hc1 := le172.ext.cells hb1 hc1
  replace hb1 := le172.r _ hb1
  replace hoku157_0 := hoku157_0.le le172
  replace hz169 := hz169.le le172
  replace hoku161_1 := hoku161_1.le le172
  replace leB := leB.trans le172
  replace leL1 := leL1.trans le172
  refine Tr.mixClose 2 rfl (((Ay158_0, cy158_0), (Ay163_0, cy163_0))) (TPlotStep.mk x160.Kind x160.Name (TPoint.mk y167.1 y167.2.1) y167.2.2 x160.NX x160.NY y163) (TPlotStep_ok.2 ⟨hz169, hz171⟩) rfl ?_
  have hs173 : ((l154).set (x155).toNat (TPlotStep.mk x160.Kind x160.Name (TPoint.mk y167.1 y167.2.1) y167.2.2 x160.NX x160.NY y163)).length = (l154).length := List.length_set
  have hfhs173 : SlF Al154 ((l154).set (x155).toNat (TPlotStep.mk x160.Kind x160.Name (TPoint.mk y167.1 y167.2.1) y167.2.2 x160.NX x160.NY y163)).length cl154 := by rw [hs173]; exact hl154
  refine Tr.sel (lf := [(1, (.func (.func 56) #[] #[(.pointer (some ⟨bq0, 0, none⟩))])), (5, (.slice Al154 (((l154).set (x155).toNat (TPlotStep.mk x160.Kind x160.Name (TPoint.mk y167.1 y167.2.1) y167.2.2 x160.NX x160.NY y163))).length cl154)), (6, (iv x155)), (10, (iv (y100.length : Int))), (11, (iv (w64 (x155 + 1)))), (12, (.bool (decide (x155 < (y100.length : Int))))), (13, (iv x155)), (14, (.slice Al154 (((l154).set (x155).toNat (TPlotStep.mk x160.Kind x160.Name (TPoint.mk y167.1 y167.2.1) y167.2.2 x160.NX x160.NY y163))).length cl154)), (15, (iv x155)), (16, (.slice Al154 (((l154).set (x155).toNat (TPlotStep.mk x160.Kind x160.Name (TPoint.mk y167.1 y167.2.1) y167.2.2 x160.NX x160.NY y163))).length cl154)), (17, (iv x155)), (20, (.slice Au157_0 (x156.Points).length cu157_0)), (21, (.slice Ay158_0 (y167.2.2).length cy158_0)), (24, (.slice Al154 (((l154).set (x155).toNat (TPlotStep.mk x160.Kind x160.Name (TPoint.mk y167.1 y167.2.1) y167.2.2 x160.NX x160.NY y163))).length cl154)), (25, (iv x155)), (26, (.slice Al154 (((l154).set (x155).toNat (TPlotStep.mk x160.Kind x160.Name (TPoint.mk y167.1 y167.2.1) y167.2.2 x160.NX x160.NY y163))).length cl154)), (27, (iv x155)), (30, (.slice Au161_1 (x160.Steps).length cu161_1)), (31, (.func (.func 56) #[] #[(.pointer (some ⟨bq0, 0, none⟩))])), (32, (.slice Ay163_0 (y163).length cy163_0)), (35, (.func (.func 56) #[] #[(.pointer (some ⟨bq0, 0, none⟩))])), (36, (.slice Al154 (((l154).set (x155).toNat (TPlotStep.mk x160.Kind x160.Name (TPoint.mk y167.1 y167.2.1) y167.2.2 x160.NX x160.NY y163))).length cl154)), (37, (iv x155)), (39, (.tuple #[])), (40, (iv (w64 (x155 + 1))))]) (le := [(2, ow Al154 cl154 49 fl_TPlotStep ((l154).set (x155).toNat (TPlotStep.mk x160.Kind x160.Name (TPoint.mk y167.1 y167.2.1) y167.2.2 x160.NX x160.NY y163)))]) (.cons rfl (.cons (slenV rfl (by rw [hs173])) (.cons rfl (.cons rfl (.cons rfl (.cons rfl (.cons rfl (.cons (slenV rfl (by rw [hs173])) (.cons rfl (.cons (slenV rfl (by rw [hs173])) (.cons rfl (.cons rfl (.cons rfl (.cons (slenV rfl (by rw [hs173])) (.cons rfl (.cons (slenV rfl (by rw [hs173])) (.cons rfl (.cons rfl (.cons rfl (.cons rfl (.cons rfl (.cons (slenV rfl (by rw [hs173])) (.cons rfl (.cons rfl (.cons rfl .nil))))))))))))))))))))))))) (.cons rfl .nil) ?_
  exact Tr.backThen leL1 (((l154).set (x155).toNat (TPlotStep.mk x160.Kind x160.Name (TPoint.mk y167.1 y167.2.1) y167.2.2 x160.NX x160.NY y163)), (w64 (x155 + 1)), Al154, cl154) ⟨H, hfhs173⟩ (.cons rfl (.cons rfl (.cons rfl (.cons rfl .nil)))) (.cons rfl .nil)
 ·refine Tr.exit (Tr.exitThen (Tr.exitThen (Tr.exitBlock (Tr.normThen ?_))))
  refine Tr.sr ?_
  refine Tr.mv rfl rfl ?_
  refine Tr.asg rfl rfl ?_
  refine Tr.nil (Tr.normThen ?_)
  refine Tr.ret ?_
  obtain rfl := Option.some.inj H
  exact Tr.out (m := [(.slice Al154 (l154).length cl154)]) [] (res_tmp rfl res_nil) (fun W hW => ⟨w, (Al154, cl154), leB, rfl, hl154, hW.pick (ks := [2]) (by decide) (pk_cons rfl pk_nil)⟩)
theorem F_plot_own__changed_3__changed_1__Short_1_ok : ∀ (N : Nat) {w : Bs} (p0 : (List TPlotStep)) (Ap0_0 : Option Addr) (cp0_0 : Nat) (hp0_0 : Sl w.O w.W fl_TPlotStep Ap0_0 cp0_0 p0) (bq0 : Nat) (bq1 : Nat) (hb0 : w.R bq0) (hc0 : CellsAt w.W bq0 0 [(.func (.func 53) #[] #[(.pointer (some ⟨bq1, 0, none⟩))])]) (hb1 : w.R bq1) (hc1 : CellsAt w.W bq1 0 [(.func (.func 22) #[] #[])]) (r : (List TPlotStep)) (H : F_plot_own__changed_3__changed_1__Short_1 N p0 = some r) (hE : HF w w.W (LEn [emp])), Calls Tryz.prog 55 [(.slice Ap0_0 (p0).length cp0_0), (.func (.func 56) #[] #[(.pointer (some ⟨bq0, 0, none⟩))])].toArray w.W fun e W' => ∃ (w' : Bs) (u : (Option Addr × Nat)), w.Le w' ∧ e = .returned (.slice u.1 (r).length u.2) ∧ (SlF u.1 (r).length u.2) ∧ HF w' W' (LEn [ow u.1 u.2 49 fl_TPlotStep r])
 | 0 => by intros; rename_i H _; cases H
 | N + 1 => F_plot_own__changed_3__changed_1__Short_1_b_ok N (F_plot_own__changed_3__changed_1__Short_1 N) (F_plot_own__changed_3__changed_1__Short_1_ok N)

theorem F_plot_changed__Short_1_ok (N : Nat) {w : Bs} (p0 : TPlot) (Ap0_0 : Option Addr) (cp0_0 : Nat) (hp0_0 : Sl w.O w.W fl_TPlotTool Ap0_0 cp0_0 p0.Tools) (Ap0_1 : Option Addr) (cp0_1 : Nat) (hp0_1 : Sl w.O w.W fl_TPlotStep Ap0_1 cp0_1 p0.Steps) (r : TPlot) (H : F_plot_changed__Short_1 N p0 = some r) (hE : HF w w.W (LEn [emp, emp])) : Calls Tryz.prog 21 [(.agg #[(iv p0.Unit), (.slice Ap0_0 (p0.Tools).length cp0_0), (.slice Ap0_1 (p0.Steps).length cp0_1)]), (.func (.func 22) #[] #[])].toArray w.W fun e W' => ∃ (w' : Bs) (u : (Option Addr × Nat) × (Option Addr × Nat)), w.Le w' ∧ e = .returned (.agg #[(iv r.Unit), (.slice u.1.1 (r.Tools).length u.1.2), (.slice u.2.1 (r.Steps).length u.2.2)]) ∧ (SlF u.1.1 (r.Tools).length u.1.2 ∧ SlF u.2.1 (r.Steps).length u.2.2) ∧ HF w' W' (LEn [ow u.1.1 u.1.2 54 fl_TPlotTool r.Tools, ow u.2.1 u.2.2 49 fl_TPlotStep r.Steps]) := by
 unfold F_plot_changed__Short_1 at H
 have leB := Bs.Le.refl w
 refine Tr.enter (n := 22) Tryz.func21 rfl rfl rfl hE ?_
 refine Tr.sr ?_
 refine Tr.box 1 (cs := [(iv p0.Unit), (.slice Ap0_0 (p0.Tools).length cp0_0), (.slice Ap0_1 (p0.Steps).length cp0_1)]) (wn rfl) rfl rfl rfl fun b100 => ?_
 refine Tr.box 2 (cs := [(.func (.func 22) #[] #[])]) (wn rfl) rfl rfl rfl fun b101 => ?_
 refine Tr.alloc 3 (wn rfl) rfl ze_25 fun b102 => ?_
 refine Tr.nil (Tr.normThen ?_)
 refine Tr.sr ?_
 refine Tr.mkFunc (vs := [(.pointer (some ⟨b101, 0, none⟩))]) (wn rfl) rfl (evl_cons rfl evl_nil) ?_
 refine Tr.alloc 4 (wn rfl) rfl ze_94 fun b103 => ?_
 refine Tr.store 4 (cs := [(.func (.func 53) #[] #[(.pointer (some ⟨b101, 0, none⟩))])]) [(.func (.func 53) #[] #[(.pointer (some ⟨b101, 0, none⟩))])] (wn rfl) rfl rfl rfl rfl sz_94 rfl rfl rfl ?_
 refine Tr.nil (Tr.normThen ?_)
 refine Tr.sr ?_
 refine Tr.va rfl (fun _ _ h1 h2 => run_fieldAddr fo_25_1 (h1.ev rfl)) ?_
 refine Tr.va rfl (fun _ _ h1 h2 => run_load1 ag_22 (h1.ev rfl) (rdb h2 (vs := [(iv p0.Unit), (.slice Ap0_0 (p0.Tools).length cp0_0), (.slice Ap0_1 (p0.Steps).length cp0_1)]) (k := 1) rfl 1) rfl) ?_
 refine Tr.mkFunc (vs := [(.pointer (some ⟨b101, 0, none⟩))]) (wn rfl) rfl (evl_cons rfl evl_nil) ?_
 obtain ⟨y104, hy104, H⟩ := bnd H
 refine Tr.callG [5] [emp] (U := (Option Addr × Nat)) (fun u => (.slice u.1 (y104).length u.2)) (fun O W u => SlF u.1 (y104).length u.2) (fun u => [ow u.1 u.2 54 fl_TPlotTool y104]) rfl (pk_cons rfl pk_nil) (fun _ => rfl) (wn rfl) rfl Tryz.call44 (evl_cons rfl (evl_cons rfl evl_nil)) (fun W hW hp hE => F_plot_ownTools__changed_2__Short_1_ok N p0.Tools Ap0_0 cp0_0 (hp0_0.extO (hW.extS hp)) b101 (hW.boxS (k := 2) rfl hp rfl) (hW.boxC (k := 2) rfl) y104 hy104 hE) ?_
 intro w u le105 hu
 obtain ⟨Ay104_0, cy104_0⟩ := u
 have gy104_0 := hu
 replace hp0_0 := hp0_0.le le105
 replace hp0_1 := hp0_1.le le105
 replace leB := leB.trans le105
 have hgy104_0 : SlF Ay104_0 (y104).length cy104_0 := gy104_0 --@phi
 show Tr _ _ (uf _ 12 (.slice Ay104_0 (y104).length cy104_0)) (up _ 5 (ow Ay104_0 cy104_0 54 fl_TPlotTool y104)) _
 refine Tr.asg rfl rfl ?_
 refine Tr.nil (Tr.normThen ?_)
 refine Tr.sr ?_
 refine Tr.va rfl (fun _ _ h1 h2 => run_fieldAddr fo_25_2 (h1.ev rfl)) ?_
 refine Tr.va rfl (fun _ _ h1 h2 => run_load1 ag_23 (h1.ev rfl) (rdb h2 (vs := [(iv p0.Unit), (.slice Ap0_0 (p0.Tools).length cp0_0), (.slice Ap0_1 (p0.Steps).length cp0_1)]) (k := 1) rfl 2) rfl) ?_
 refine Tr.mkFunc (vs := [(.pointer (some ⟨b103, 0, none⟩))]) (wn rfl) rfl (evl_cons rfl evl_nil) ?_
 obtain ⟨y106, hy106, H⟩ := bnd H
 refine Tr.callG [6] [emp] (U := (Option Addr × Nat)) (fun u => (.slice u.1 (y106).length u.2)) (fun O W u => SlF u.1 (y106).length u.2) (fun u => [ow u.1 u.2 49 fl_TPlotStep y106]) rfl (pk_cons rfl pk_nil) (fun _ => rfl) (wn rfl) rfl Tryz.call55 (evl_cons rfl (evl_cons rfl evl_nil)) (fun W hW hp hE => F_plot_own__changed_3__changed_1__Short_1_ok N p0.Steps Ap0_1 cp0_1 (hp0_1.extO (hW.extS hp)) b103 b101 (hW.boxS (k := 4) rfl hp rfl) (hW.boxC (k := 4) rfl) (hW.boxS (k := 2) rfl hp rfl) (hW.boxC (k := 2) rfl) y106 hy106 hE) ?_
 intro w u le107 hu
 obtain ⟨Ay106_0, cy106_0⟩ := u
 have gy106_0 := hu
 replace hp0_0 := hp0_0.le le107
 replace hp0_1 := hp0_1.le le107
 replace leB := leB.trans le107
 have hgy106_0 : SlF Ay106_0 (y106).length cy106_0 := gy106_0 --@phi
 show Tr _ _ (uf _ 16 (.slice Ay106_0 (y106).length cy106_0)) (up _ 6 (ow Ay106_0 cy106_0 49 fl_TPlotStep y106)) _
 refine Tr.asg rfl rfl ?_
 refine Tr.nil (Tr.normThen ?_)
 refine Tr.sr ?_
 refine Tr.va rfl (fun _ _ h1 h2 => run_fieldAddr fo_25_0 (h1.ev rfl)) ?_
 refine Tr.va rfl (fun _ _ h1 h2 => run_load1 ag_3 (h1.ev rfl) (rdb h2 (vs := [(iv p0.Unit), (.slice Ap0_0 (p0.Tools).length cp0_0), (.slice Ap0_1 (p0.Steps).length cp0_1)]) (k := 1) rfl 0) rfl) ?_
 refine Tr.mv rfl rfl ?_
 refine Tr.mv rfl rfl ?_
 refine Tr.build (vs := [(0, (iv p0.Unit)), (1, (.slice Ay104_0 (y104).length cy104_0)), (2, (.slice Ay106_0 (y106).length cy106_0))]) (cs := [(iv p0.Unit), (.slice Ay104_0 (y104).length cy104_0), (.slice Ay106_0 (y106).length cy106_0)]) (wn rfl) rfl (evs_cons rfl (evs_cons rfl (evs_cons rfl evs_nil))) (by kernel_rfl) ?_
 refine Tr.store 3 (cs := [(iv p0.Unit), (.slice Ay104_0 (y104).length cy104_0), (.slice Ay106_0 (y106).length cy106_0)]) [(iv p0.Unit), (.slice Ay104_0 (y104).length cy104_0), (.slice Ay106_0 (y106).length cy106_0)] (wn rfl) rfl rfl rfl rfl sz_25 rfl rfl rfl ?_
 refine Tr.nil (Tr.normThen ?_)
 refine Tr.ret ?_
 obtain rfl := Option.some.inj H
 exact Tr.out (m := [(.agg #[(iv p0.Unit), (.slice Ay104_0 (y104).length cy104_0), (.slice Ay106_0 (y106).length cy106_0)])]) [3] (res_cell rfl rfl ag_25 sz_25 res_nil) (fun W hW => ⟨w, ((Ay104_0, cy104_0), (Ay106_0, cy106_0)), leB, rfl, ⟨hgy104_0, hgy106_0⟩, hW.pick (ks := [5, 6]) (by decide) (pk_cons rfl (pk_cons rfl pk_nil))⟩)

theorem F_plot_Short_ok (N : Nat) {w : Bs} (p0 : TPlot) (Ap0_0 : Option Addr) (cp0_0 : Nat) (hp0_0 : Sl w.O w.W fl_TPlotTool Ap0_0 cp0_0 p0.Tools) (Ap0_1 : Option Addr) (cp0_1 : Nat) (hp0_1 : Sl w.O w.W fl_TPlotStep Ap0_1 cp0_1 p0.Steps) (r : (TPlot × Int)) (H : F_plot_Short N p0 = some r) (hE : HF w w.W (LEn [emp, emp])) : Calls Tryz.prog 8 [(.agg #[(iv p0.Unit), (.slice Ap0_0 (p0.Tools).length cp0_0), (.slice Ap0_1 (p0.Steps).length cp0_1)])].toArray w.W fun e W' => ∃ (w' : Bs) (u : (Option Addr × Nat) × (Option Addr × Nat)), w.Le w' ∧ e = .returned (.tuple #[(.agg #[(iv r.1.Unit), (.slice u.1.1 (r.1.Tools).length u.1.2), (.slice u.2.1 (r.1.Steps).length u.2.2)]), (iv r.2)]) ∧ (SlF u.1.1 (r.1.Tools).length u.1.2 ∧ SlF u.2.1 (r.1.Steps).length u.2.2) ∧ HF w' W' (LEn [ow u.1.1 u.1.2 54 fl_TPlotTool r.1.Tools, ow u.2.1 u.2.2 49 fl_TPlotStep r.1.Steps]) := by
 unfold F_plot_Short at H
 have leB := Bs.Le.refl w
 refine Tr.enter (n := 28) Tryz.func8 rfl rfl rfl hE ?_
 refine Tr.sr ?_
 refine Tr.box 1 (cs := [(iv p0.Unit), (.slice Ap0_0 (p0.Tools).length cp0_0), (.slice Ap0_1 (p0.Steps).length cp0_1)]) (wn rfl) rfl rfl rfl fun b100 => ?_
 refine Tr.alloc 2 (wn rfl) rfl ze_25 fun b101 => ?_
 refine Tr.asg rfl rfl ?_
 refine Tr.nil (Tr.normThen ?_)
 refine Tr.seq ?_
 refine Tr.sr ?_
 refine Tr.va rfl (fun _ _ h1 h2 => run_loadN (cs := [(iv p0.Unit), (.slice Ap0_0 (p0.Tools).length cp0_0), (.slice Ap0_1 (p0.Steps).length cp0_1)]) ag_25 sz_25 (h1.ev rfl) (CellsAt.take (rdb h2 (vs := [(iv p0.Unit), (.slice Ap0_0 (p0.Tools).length cp0_0), (.slice Ap0_1 (p0.Steps).length cp0_1)]) (k := 1) rfl 0) 3) rfl) ?_
 obtain ⟨y102, hy102, H⟩ := bnd H
 refine Tr.call0 (r := (iv y102)) (wn rfl) rfl Tryz.call15 (evl_cons rfl evl_nil) (fun W hW => F_plot_CheckPlot_ok N p0 Ap0_0 cp0_0 (hp0_0.rl.ext hW.extAll) Ap0_1 cp0_1 (hp0_1.rl.ext hW.extAll) y102 hy102 (HF.start _)) ?_
 refine Tr.asg rfl rfl ?_
 refine Tr.nil (Tr.normThen ?_)
 refine Tr.sr ?_
 refine Tr.mv rfl rfl ?_
 refine Tr.va rfl (fun _ _ h1 h2 => run_neq (h1.ev rfl) (h1.ev rfl)) ?_
 refine Tr.nil (Tr.normThen ?_)
 refine Tr.cond rfl H (fun H => ?_) (fun H => ?_)
 ·refine Tr.sr ?_
  refine Tr.build (vs := []) (cs := [(iv 0), (.slice none 0 0), (.slice none 0 0)]) (wn rfl) rfl evs_nil (by kernel_rfl) ?_
  refine Tr.mv rfl rfl ?_
  refine Tr.store 2 (cs := [(iv 0), (.slice none 0 0), (.slice none 0 0)]) [(iv 0), (.slice none 0 0), (.slice none 0 0)] (wn rfl) rfl rfl rfl rfl sz_25 rfl rfl rfl ?_
  refine Tr.asg rfl rfl ?_
  refine Tr.nil (Tr.normThen ?_)
  refine Tr.ret (Tr.retThen ?_)
  obtain rfl := Option.some.inj H
  refine Tr.nilOwn 3 54 fl_TPlotTool ?_
  refine Tr.nilOwn 4 49 fl_TPlotStep ?_
  exact Tr.out (m := [(.agg #[(iv 0), (.slice none 0 0), (.slice none 0 0)]), (iv y102)]) [2] (res_cell rfl rfl ag_25 sz_25 (res_tmp rfl res_nil)) (fun W hW => ⟨w, ((none, 0), (none, 0)), leB, rfl, ⟨slf_nil, slf_nil⟩, hW.pick (ks := [3, 4]) (by decide) (pk_cons rfl (pk_cons rfl pk_nil))⟩)
 ·refine Tr.skip (Tr.normThen ?_)
  refine Tr.sr ?_
  refine Tr.va rfl (fun _ _ h1 h2 => run_loadN (cs := [(iv p0.Unit), (.slice Ap0_0 (p0.Tools).length cp0_0), (.slice Ap0_1 (p0.Steps).length cp0_1)]) ag_25 sz_25 (h1.ev rfl) (CellsAt.take (rdb h2 (vs := [(iv p0.Unit), (.slice Ap0_0 (p0.Tools).length cp0_0), (.slice Ap0_1 (p0.Steps).length cp0_1)]) (k := 1) rfl 0) 3) rfl) ?_
  obtain ⟨y103, hy103, H⟩ := bnd H
  refine Tr.callG [5, 6] [emp, emp] (U := (Option Addr × Nat) × (Option Addr × Nat)) (fun u => (.agg #[(iv y103.Unit), (.slice u.1.1 (y103.Tools).length u.1.2), (.slice u.2.1 (y103.Steps).length u.2.2)])) (fun O W u => SlF u.1.1 (y103.Tools).length u.1.2 ∧ SlF u.2.1 (y103.Steps).length u.2.2) (fun u => [ow u.1.1 u.1.2 54 fl_TPlotTool y103.Tools, ow u.2.1 u.2.2 49 fl_TPlotStep y103.Steps]) rfl (pk_cons rfl (pk_cons rfl pk_nil)) (fun _ => rfl) (wn rfl) rfl Tryz.call21 (evl_cons rfl (evl_cons rfl evl_nil)) (fun W hW hp hE => F_plot_changed__Short_1_ok N p0 Ap0_0 cp0_0 (hp0_0.extO (hW.extS hp)) Ap0_1 cp0_1 (hp0_1.extO (hW.extS hp)) y103 hy103 hE) ?_
  intro w u le104 hu
  obtain ⟨⟨Ay103_0, cy103_0⟩, ⟨Ay103_1, cy103_1⟩⟩ := u
  obtain ⟨gy103_0, gy103_1⟩ := hu
  replace hp0_0 := hp0_0.le le104
  replace hp0_1 := hp0_1.le le104
  replace leB := leB.trans le104
  have hgy103_0 : SlF Ay103_0 (y103.Tools).length cy103_0 := gy103_0 --@phi
  have hgy103_1 : SlF Ay103_1 (y103.Steps).length cy103_1 := gy103_1 --@phi
  show Tr _ _ (uf _ 14 (.agg #[(iv y103.Unit), (.slice Ay103_0 (y103.Tools).length cy103_0), (.slice Ay103_1 (y103.Steps).length cy103_1)])) (up (up _ 6 (ow Ay103_1 cy103_1 49 fl_TPlotStep y103.Steps)) 5 (ow Ay103_0 cy103_0 54 fl_TPlotTool y103.Tools)) _
  refine Tr.alloc 7 (wn rfl) rfl ze_25 fun b105 => ?_
  refine Tr.store 7 (cs := [(iv y103.Unit), (.slice Ay103_0 (y103.Tools).length cy103_0), (.slice Ay103_1 (y103.Steps).length cy103_1)]) [(iv y103.Unit), (.slice Ay103_0 (y103.Tools).length cy103_0), (.slice Ay103_1 (y103.Steps).length cy103_1)] (wn rfl) rfl rfl rfl rfl sz_25 rfl rfl rfl ?_
  refine Tr.nil (Tr.normThen ?_)
  refine Tr.block ?_
  refine Tr.loop (σ := (List TPlotStep) × (Option Addr) × Nat) (fun m w s => F_plot_Short_L1 y103 m s.1 = some r ∧ SlF s.2.1 (s.1).length s.2.2) (fun s => [(2, (.pointer (some ⟨b101, 0, none⟩))), (5, (.pointer (some ⟨b105, 0, none⟩)))]) (fun s => [(2, bx b101 #[(iv 0), (.slice none 0 0), (.slice none 0 0)] 25), (5, ow Ay103_0 cy103_0 54 fl_TPlotTool y103.Tools), (6, ow s.2.1 s.2.2 49 fl_TPlotStep s.1), (7, bx b105 #[(iv y103.Unit), (.slice Ay103_0 (y103.Tools).length cy103_0), (.slice s.2.1 (s.1).length s.2.2)] 25)]) N (y103.Steps, Ay103_1, cy103_1) ⟨H, hgy103_1⟩ (.cons rfl (.cons rfl .nil)) (.cons rfl (.cons rfl (.cons rfl (.cons rfl .nil)))) (fun _ _ h => noSome (h.1)) ?_
  intro w leL1 mL1 s hs
  obtain ⟨l115, Al115, cl115⟩ := s
  obtain ⟨H, hl115⟩ := hs
  replace H : F_plot_Short_L1 y103 (mL1 + 1) l115 = some r := H
  replace leB := leB.trans leL1
  replace hl115 : SlF Al115 (l115).length cl115 := hl115
  rw [F_plot_Short_L1.eq_2] at H
  show Tr _ _ (LF [(2, (.pointer (some ⟨b101, 0, none⟩))), (5, (.pointer (some ⟨b105, 0, none⟩)))]) (LE [(2, bx b101 #[(iv 0), (.slice none 0 0), (.slice none 0 0)] 25), (5, ow Ay103_0 cy103_0 54 fl_TPlotTool y103.Tools), (6, ow Al115 cl115 49 fl_TPlotStep l115), (7, bx b105 #[(iv y103.Unit), (.slice Ay103_0 (y103.Tools).length cy103_0), (.slice Al115 (l115).length cl115)] 25)]) _
  refine Tr.block ?_
  refine Tr.sr ?_
  refine Tr.va rfl (fun _ _ h1 h2 => run_fieldAddr fo_25_2 (h1.ev rfl)) ?_
  refine Tr.va rfl (fun _ _ h1 h2 => run_load1 ag_23 (h1.ev rfl) (rdb h2 (vs := [(iv y103.Unit), (.slice Ay103_0 (y103.Tools).length cy103_0), (.slice Al115 (l115).length cl115)]) (k := 7) rfl 2) rfl) ?_
  obtain ⟨y116, hy116, H⟩ := bnd H
  refine Tr.call0 (r := (iv y116)) (wn rfl) rfl Tryz.call23 (evl_cons rfl evl_nil) (fun W hW => F_plot_without_ok l115 Al115 cl115 (hW.slCall (k := 6) rfl) y116 hy116 (HF.start _)) ?_
  refine Tr.asg rfl rfl ?_
  refine Tr.nil (Tr.normThen ?_)
  refine Tr.seq ?_
  refine Tr.sr ?_
  refine Tr.mv rfl rfl ?_
  refine Tr.va rfl (fun _ _ h1 h2 => run_lss (h1.ev rfl) (h1.ev rfl)) ?_
  refine Tr.nil (Tr.normThen ?_)
  refine Tr.cond rfl H (fun H => ?_) (fun H => ?_)
  ·refine Tr.sr ?_
   refine Tr.va rfl (fun _ _ h1 h2 => run_loadN (cs := [(iv y103.Unit), (.slice Ay103_0 (y103.Tools).length cy103_0), (.slice Al115 (l115).length cl115)]) ag_25 sz_25 (h1.ev rfl) (CellsAt.take (rdb h2 (vs := [(iv y103.Unit), (.slice Ay103_0 (y103.Tools).length cy103_0), (.slice Al115 (l115).length cl115)]) (k := 7) rfl 0) 3) rfl) ?_
   refine Tr.store 2 (cs := [(iv y103.Unit), (.slice Ay103_0 (y103.Tools).length cy103_0), (.slice Al115 (l115).length cl115)]) [(iv y103.Unit), (.slice Ay103_0 (y103.Tools).length cy103_0), (.slice Al115 (l115).length cl115)] (wn rfl) rfl rfl rfl rfl sz_25 rfl rfl rfl ?_
   refine Tr.asg rfl rfl ?_
   refine Tr.nil (Tr.normThen ?_)
   refine Tr.ret (Tr.retThen (Tr.retBlock (Tr.retThen (Tr.retBlock ?_))))
   obtain rfl := Option.some.inj H
   exact Tr.out (m := [(.agg #[(iv y103.Unit), (.slice Ay103_0 (y103.Tools).length cy103_0), (.slice Al115 (l115).length cl115)]), (iv 0)]) [2] (res_cell rfl rfl ag_25 sz_25 (res_tmp rfl res_nil)) (fun W hW => ⟨w, ((Ay103_0, cy103_0), (Al115, cl115)), leB, rfl, ⟨hgy103_0, hl115⟩, hW.pick (ks := [5, 6]) (by decide) (pk_cons rfl (pk_cons rfl pk_nil))⟩)
  ·refine Tr.skip (Tr.normThen ?_)
   refine Tr.region ?_
   refine Tr.va rfl (fun _ _ h1 h2 => run_fieldAddr fo_25_2 (h1.ev rfl)) ?_
   refine Tr.va rfl (fun _ _ h1 h2 => run_load1 ag_23 (h1.ev rfl) (rdb h2 (vs := [(iv y103.Unit), (.slice Ay103_0 (y103.Tools).length cy103_0), (.slice Al115 (l115).length cl115)]) (k := 7) rfl 2) rfl) ?_
   refine Tr.mv rfl rfl ?_
   refine Tr.mv rfl rfl ?_
   refine Tr.va rfl (fun _ _ h1 h2 => run_add (h1.ev rfl) (h1.ev rfl)) ?_
   obtain ⟨y117, hy117, H⟩ := bnd H
   refine Tr.callG [6] [ow Al115 cl115 49 fl_TPlotStep l115] (U := (Option Addr × Nat)) (fun u => (.slice u.1 (y117).length u.2)) (fun O W u => SlF u.1 (y117).length u.2) (fun u => [ow u.1 u.2 49 fl_TPlotStep y117]) rfl (pk_cons rfl pk_nil) (fun _ => rfl) (wn rfl) rfl Tryz.call24 (evl_cons rfl (evl_cons rfl (evl_cons rfl evl_nil))) (fun W hW hp hE => F_slices_Delete_PlotStep_ok l115 Al115 cl115 y116 (w64 (y116 + 1)) y117 hy117 hE) ?_
   intro w u le118 hu
   obtain ⟨Ay117_0, cy117_0⟩ := u
   have gy117_0 := hu
   replace leB := leB.trans le118
   replace leL1 := leL1.trans le118
   have hgy117_0 : SlF Ay117_0 (y117).length cy117_0 := gy117_0 --@phi
   show Tr _ _ (uf _ 26 (.slice Ay117_0 (y117).length cy117_0)) (up _ 6 (ow Ay117_0 cy117_0 49 fl_TPlotStep y117)) _
   refine Tr.va rfl (fun _ _ h1 h2 => run_fieldAddr fo_25_2 (h1.ev rfl)) ?_
   refine Tr.store 7 (cs := [(.slice Ay117_0 (y117).length cy117_0)]) [(iv y103.Unit), (.slice Ay103_0 (y103.Tools).length cy103_0), (.slice Ay117_0 (y117).length cy117_0)] (wn rfl) rfl rfl rfl rfl sz_23 rfl rfl rfl ?_
   refine Tr.nil (Tr.normBlock ?_)
   exact Tr.backThen leL1 (y117, Ay117_0, cy117_0) ⟨H, hgy117_0⟩ (.cons rfl (.cons rfl .nil)) (.cons rfl (.cons rfl (.cons rfl (.cons rfl .nil))))

theorem F_etchhouseref3_draws1_ok {w : Bs} (p0 : TPlotStep) (Ap0_0 : Option Addr) (cp0_0 : Nat) (hp0_0 : Sl w.R w.W fl_TPoint Ap0_0 cp0_0 p0.Points) (Ap0_1 : Option Addr) (cp0_1 : Nat) (hp0_1 : Sl w.R w.W fl_TPlotStep Ap0_1 cp0_1 p0.Steps) (r : Bool) (H : F_etchhouseref3_draws1 p0 = some r) (hE : HF w w.W E0) : Calls Tryz.prog 112 [(.agg #[(iv p0.Kind), (sv p0.Name), (iv p0.At.X), (iv p0.At.Y), (.slice Ap0_0 (p0.Points).length cp0_0), (iv p0.NX), (iv p0.NY), (.slice Ap0_1 (p0.Steps).length cp0_1)])].toArray w.W fun e W' => e = .returned (.bool r) ∧ HF w W' E0 := by
 unfold F_etchhouseref3_draws1 at H
 have leB := Bs.Le.refl w
 refine Tr.enter (n := 21) Tryz.func112 rfl rfl rfl hE ?_
 refine Tr.sr ?_
 refine Tr.box 1 (cs := [(iv p0.Kind), (sv p0.Name), (iv p0.At.X), (iv p0.At.Y), (.slice Ap0_0 (p0.Points).length cp0_0), (iv p0.NX), (iv p0.NY), (.slice Ap0_1 (p0.Steps).length cp0_1)]) (wn rfl) rfl rfl rfl fun b100 => ?_
 refine Tr.asg rfl rfl ?_
 refine Tr.nil (Tr.normThen ?_)
 refine Tr.sr ?_
 refine Tr.va rfl (fun _ _ h1 h2 => run_fieldAddr fo_49_0 (h1.ev rfl)) ?_
 refine Tr.va rfl (fun _ _ h1 h2 => run_load1 ag_3 (h1.ev rfl) (rdb h2 (vs := [(iv p0.Kind), (sv p0.Name), (iv p0.At.X), (iv p0.At.Y), (.slice Ap0_0 (p0.Points).length cp0_0), (iv p0.NX), (iv p0.NY), (.slice Ap0_1 (p0.Steps).length cp0_1)]) (k := 1) rfl 0) rfl) ?_
 refine Tr.va rfl (fun _ _ h1 h2 => run_eql (h1.ev rfl) (h1.ev rfl)) ?_
 refine Tr.mv rfl rfl ?_
 refine Tr.mid0 4 [(1, (.pointer (some ⟨b100, 0, none⟩))), (10, (.bool ((p0.Kind == 5) || (p0.Kind == 6))))] [(1, bx b100 #[(iv p0.Kind), (sv p0.Name), (iv p0.At.X), (iv p0.At.Y), (.slice Ap0_0 (p0.Points).length cp0_0), (iv p0.NX), (iv p0.NY), (.slice Ap0_1 (p0.Steps).length cp0_1)] 49)] ?_ ?_
 ·cases hg100 : (p0.Kind == 5)
  ·refine Tr.val (wg rfl rfl rfl) rfl (fun _ _ h1 h2 => run_fieldAddr fo_49_0 (h1.ev rfl)) ?_
   refine Tr.val (wg rfl rfl rfl) rfl (fun _ _ h1 h2 => run_load1 ag_3 (h1.ev rfl) (rdb h2 (vs := [(iv p0.Kind), (sv p0.Name), (iv p0.At.X), (iv p0.At.Y), (.slice Ap0_0 (p0.Points).length cp0_0), (iv p0.NX), (iv p0.NY), (.slice Ap0_1 (p0.Steps).length cp0_1)]) (k := 1) rfl 0) rfl) ?_
   refine Tr.val (wg rfl rfl rfl) rfl (fun _ _ h1 h2 => run_eql (h1.ev rfl) (h1.ev rfl)) ?_
   refine Tr.va rfl (fun _ _ h1 h2 => run_pickF (h1.ev rfl) (h1.ev rfl)) ?_
   exact Tr.nil (Tr.fin0 (.cons rfl (.cons rfl .nil)) (.cons rfl .nil))
  ·refine Tr.pass rfl rfl rfl rfl rfl (by decide) ?_
   refine Tr.pass rfl rfl rfl rfl rfl (by decide) ?_
   refine Tr.pass rfl rfl rfl rfl rfl (by decide) ?_
   refine Tr.va rfl (fun _ _ h1 h2 => run_pickT (h1.ev rfl) (h1.ev rfl)) ?_
   exact Tr.nil (Tr.fin0 (.cons rfl (.cons rfl .nil)) (.cons rfl .nil))
 ·show Tr _ _ (LF [(1, (.pointer (some ⟨b100, 0, none⟩))), (10, (.bool ((p0.Kind == 5) || (p0.Kind == 6))))]) (LE [(1, bx b100 #[(iv p0.Kind), (sv p0.Name), (iv p0.At.X), (iv p0.At.Y), (.slice Ap0_0 (p0.Points).length cp0_0), (iv p0.NX), (iv p0.NY), (.slice Ap0_1 (p0.Steps).length cp0_1)] 49)]) _
  refine Tr.mv rfl rfl ?_
  refine Tr.mid0 4 [(1, (.pointer (some ⟨b100, 0, none⟩))), (15, (.bool (((p0.Kind == 5) || (p0.Kind == 6)) || (p0.Kind == 7))))] [(1, bx b100 #[(iv p0.Kind), (sv p0.Name), (iv p0.At.X), (iv p0.At.Y), (.slice Ap0_0 (p0.Points).length cp0_0), (iv p0.NX), (iv p0.NY), (.slice Ap0_1 (p0.Steps).length cp0_1)] 49)] ?_ ?_
  ·cases hg100 : ((p0.Kind == 5) || (p0.Kind == 6))
   ·refine Tr.val (wg rfl rfl rfl) rfl (fun _ _ h1 h2 => run_fieldAddr fo_49_0 (h1.ev rfl)) ?_
    refine Tr.val (wg rfl rfl rfl) rfl (fun _ _ h1 h2 => run_load1 ag_3 (h1.ev rfl) (rdb h2 (vs := [(iv p0.Kind), (sv p0.Name), (iv p0.At.X), (iv p0.At.Y), (.slice Ap0_0 (p0.Points).length cp0_0), (iv p0.NX), (iv p0.NY), (.slice Ap0_1 (p0.Steps).length cp0_1)]) (k := 1) rfl 0) rfl) ?_
    refine Tr.val (wg rfl rfl rfl) rfl (fun _ _ h1 h2 => run_eql (h1.ev rfl) (h1.ev rfl)) ?_
    refine Tr.va rfl (fun _ _ h1 h2 => run_pickF (h1.ev rfl) (h1.ev rfl)) ?_
    exact Tr.nil (Tr.fin0 (.cons rfl (.cons rfl .nil)) (.cons rfl .nil))
   ·refine Tr.pass rfl rfl rfl rfl rfl (by decide) ?_
    refine Tr.pass rfl rfl rfl rfl rfl (by decide) ?_
    refine Tr.pass rfl rfl rfl rfl rfl (by decide) ?_
    refine Tr.va rfl (fun _ _ h1 h2 => run_pickT (h1.ev rfl) (h1.ev rfl)) ?_
    exact Tr.nil (Tr.fin0 (.cons rfl (.cons rfl .nil)) (.cons rfl .nil))
  ·show Tr _ _ (LF [(1, (.pointer (some ⟨b100, 0, none⟩))), (15, (.bool (((p0.Kind == 5) || (p0.Kind == 6)) || (p0.Kind == 7))))]) (LE [(1, bx b100 #[(iv p0.Kind), (sv p0.Name), (iv p0.At.X), (iv p0.At.Y), (.slice Ap0_0 (p0.Points).length cp0_0), (iv p0.NX), (iv p0.NY), (.slice Ap0_1 (p0.Steps).length cp0_1)] 49)]) _
   refine Tr.mv rfl rfl ?_
   refine Tr.mid0 4 [(20, (.bool ((((p0.Kind == 5) || (p0.Kind == 6)) || (p0.Kind == 7)) || (p0.Kind == 8))))] [(1, bx b100 #[(iv p0.Kind), (sv p0.Name), (iv p0.At.X), (iv p0.At.Y), (.slice Ap0_0 (p0.Points).length cp0_0), (iv p0.NX), (iv p0.NY), (.slice Ap0_1 (p0.Steps).length cp0_1)] 49)] ?_ ?_
   ·cases hg100 : (((p0.Kind == 5) || (p0.Kind == 6)) || (p0.Kind == 7))
    ·refine Tr.val (wg rfl rfl rfl) rfl (fun _ _ h1 h2 => run_fieldAddr fo_49_0 (h1.ev rfl)) ?_
     refine Tr.val (wg rfl rfl rfl) rfl (fun _ _ h1 h2 => run_load1 ag_3 (h1.ev rfl) (rdb h2 (vs := [(iv p0.Kind), (sv p0.Name), (iv p0.At.X), (iv p0.At.Y), (.slice Ap0_0 (p0.Points).length cp0_0), (iv p0.NX), (iv p0.NY), (.slice Ap0_1 (p0.Steps).length cp0_1)]) (k := 1) rfl 0) rfl) ?_
     refine Tr.val (wg rfl rfl rfl) rfl (fun _ _ h1 h2 => run_eql (h1.ev rfl) (h1.ev rfl)) ?_
     refine Tr.va rfl (fun _ _ h1 h2 => run_pickF (h1.ev rfl) (h1.ev rfl)) ?_
     exact Tr.nil (Tr.fin0 (.cons rfl .nil) (.cons rfl .nil))
    ·refine Tr.pass rfl rfl rfl rfl rfl (by decide) ?_
     refine Tr.pass rfl rfl rfl rfl rfl (by decide) ?_
     refine Tr.pass rfl rfl rfl rfl rfl (by decide) ?_
     refine Tr.va rfl (fun _ _ h1 h2 => run_pickT (h1.ev rfl) (h1.ev rfl)) ?_
     exact Tr.nil (Tr.fin0 (.cons rfl .nil) (.cons rfl .nil))
   ·show Tr _ _ (LF [(20, (.bool ((((p0.Kind == 5) || (p0.Kind == 6)) || (p0.Kind == 7)) || (p0.Kind == 8))))]) (LE [(1, bx b100 #[(iv p0.Kind), (sv p0.Name), (iv p0.At.X), (iv p0.At.Y), (.slice Ap0_0 (p0.Points).length cp0_0), (iv p0.NX), (iv p0.NY), (.slice Ap0_1 (p0.Steps).length cp0_1)] 49)]) _
    refine Tr.asg rfl rfl ?_
    refine Tr.nil (Tr.normThen ?_)
    refine Tr.ret ?_
    obtain rfl := Option.some.inj H
    exact Tr.out (m := [(.bool ((((p0.Kind == 5) || (p0.Kind == 6)) || (p0.Kind == 7)) || (p0.Kind == 8)))]) [] (res_tmp rfl res_nil) (fun W hW => ⟨rfl, hW.low leB⟩)

theorem F_etchhouseref3_idleLight_ok (N : Nat) {w : Bs} (p0 : (List TPlotStep)) (Ap0_0 : Option Addr) (cp0_0 : Nat) (hp0_0 : Sl w.R w.W fl_TPlotStep Ap0_0 cp0_0 p0) (p1 : Int) (r : Bool) (H : F_etchhouseref3_idleLight N p0 p1 = some r) (hE : HF w w.W E0) : Calls Tryz.prog 88 [(.slice Ap0_0 (p0).length cp0_0), (iv p1)].toArray w.W fun e W' => e = .returned (.bool r) ∧ HF w W' E0 := by
 unfold F_etchhouseref3_idleLight at H
 have leB := Bs.Le.refl w
 refine Tr.enter (n := 33) Tryz.func88 rfl rfl rfl hE ?_
 refine Tr.sr ?_
 refine Tr.asg rfl rfl ?_
 refine Tr.nil (Tr.normThen ?_)
 refine Tr.seq ?_
 refine Tr.sr ?_
 refine Tr.mv rfl rfl ?_
 refine Tr.va rfl (fun _ _ h1 h2 => run_add (h1.ev rfl) (h1.ev rfl)) ?_
 refine Tr.asg rfl rfl ?_
 refine Tr.nil (Tr.normThen ?_)
 refine Tr.block ?_
 refine Tr.loop (σ := Int) (fun m w s => F_etchhouseref3_idleLight_L1 p0 m s = some r) (fun s => [(0, (.slice Ap0_0 (p0).length cp0_0)), (5, (iv s))]) (fun s => []) N (w64 (p1 + 1)) H (.cons rfl (.cons rfl .nil)) .nil (fun _ _ h => noSome (h)) ?_
 intro w leL1 mL1 x123 hs
 have H := hs
 replace H : F_etchhouseref3_idleLight_L1 p0 (mL1 + 1) x123 = some r := H
 replace hp0_0 := hp0_0.leR leL1
 replace leB := leB.trans leL1
 rw [F_etchhouseref3_idleLight_L1.eq_2] at H
 show Tr _ _ (LF [(0, (.slice Ap0_0 (p0).length cp0_0)), (5, (iv x123))]) (LE []) _
 refine Tr.seq ?_
 refine Tr.sr ?_
 refine Tr.mv rfl rfl ?_
 refine Tr.mv rfl rfl ?_
 refine Tr.va rfl (fun _ _ h1 h2 => run_len un_23 (h1.ev rfl)) ?_
 refine Tr.va rfl (fun _ _ h1 h2 => run_lss (h1.ev rfl) (h1.ev rfl)) ?_
 refine Tr.nil (Tr.normThen ?_)
 refine Tr.cond rfl H (fun H => ?_) (fun H => ?_)
 ·refine Tr.skip (Tr.normThen ?_)
  refine Tr.seq ?_
  refine Tr.block ?_
  refine Tr.seq ?_
  refine Tr.sr ?_
  refine Tr.mv rfl rfl ?_
  refine Tr.mv rfl rfl ?_
  obtain ⟨x124, hx124, H⟩ := bnd H
  obtain ⟨hx1240, hx1241, hx1242⟩ := idx_some hx124
  obtain ⟨u125, hRu125, hoku125, hcu125⟩ := (hp0_0).el hx1242
  obtain ⟨⟨Au125_0, cu125_0⟩, ⟨Au125_1, cu125_1⟩⟩ := u125
  obtain ⟨hoku125_0, hoku125_1⟩ := TPlotStep_ok.1 hoku125
  replace hoku125_0 : Sl w.R w.W fl_TPoint Au125_0 cu125_0 x124.Points := hoku125_0
  replace hoku125_1 : Sl w.R w.W fl_TPlotStep Au125_1 cu125_1 x124.Steps := hoku125_1
  refine Tr.va rfl (fun _ _ h1 h2 => run_indexAddr el_23 (h1.ev rfl) hp0_0.form (h1.ev rfl) hx1240 hx1241) ?_
  refine Tr.va rfl (fun _ _ h1 h2 => run_fieldAddr fo_49_0 (h1.ev rfl)) ?_
  refine Tr.va rfl (fun _ _ h1 h2 => run_load1 ag_3 (h1.ev rfl) (CellsAt.drop (rdR hRu125 hcu125 h2) 0) rfl) ?_
  refine Tr.va rfl (fun _ _ h1 h2 => run_eql (h1.ev rfl) (h1.ev rfl)) ?_
  refine Tr.mv rfl rfl ?_
  obtain ⟨g128, hg128, H⟩ := bnd H
  refine Tr.mid0 7 [(0, (.slice Ap0_0 (p0).length cp0_0)), (5, (iv x123)), (27, (.bool g128))] [] ?_ ?_
  ·cases hg133 : (x124.Kind == 1)
   ·rw [hg133] at hg128
    rw [if_neg (by decide)] at hg128
    have H := hg128
    refine Tr.val (wg rfl rfl rfl) rfl (fun _ _ h1 h2 => run_move (h1.ev rfl)) ?_
    refine Tr.val (wg rfl rfl rfl) rfl (fun _ _ h1 h2 => run_move (h1.ev rfl)) ?_
    obtain ⟨x129, hx129, H⟩ := bnd H
    obtain ⟨hx1290, hx1291, hx1292⟩ := idx_some hx129
    obtain ⟨u130, hRu130, hoku130, hcu130⟩ := (hp0_0).el hx1292
    obtain ⟨⟨Au130_0, cu130_0⟩, ⟨Au130_1, cu130_1⟩⟩ := u130
    obtain ⟨hoku130_0, hoku130_1⟩ := TPlotStep_ok.1 hoku130
    replace hoku130_0 : Sl w.R w.W fl_TPoint Au130_0 cu130_0 x129.Points := hoku130_0
    replace hoku130_1 : Sl w.R w.W fl_TPlotStep Au130_1 cu130_1 x129.Steps := hoku130_1
    refine Tr.val (wg rfl rfl rfl) rfl (fun _ _ h1 h2 => run_indexAddr el_23 (h1.ev rfl) hp0_0.form (h1.ev rfl) hx1290 hx1291) ?_
    refine Tr.val (wg rfl rfl rfl) rfl (fun _ _ h1 h2 => run_fieldAddr fo_49_0 (h1.ev rfl)) ?_
    refine Tr.val (wg rfl rfl rfl) rfl (fun _ _ h1 h2 => run_load1 ag_3 (h1.ev rfl) (CellsAt.drop (rdR hRu130 hcu130 h2) 0) rfl) ?_
    refine Tr.val (wg rfl rfl rfl) rfl (fun _ _ h1 h2 => run_eql (h1.ev rfl) (h1.ev rfl)) ?_
    refine Tr.va rfl (fun _ _ h1 h2 => run_pickF (h1.ev rfl) (h1.ev rfl)) ?_
    obtain rfl := Option.some.inj H
    exact Tr.nil (Tr.fin0 (.cons rfl (.cons rfl (.cons rfl .nil))) .nil)
   ·rw [hg133] at hg128
    rw [if_pos rfl] at hg128
    have H := hg128
    obtain rfl := Option.some.inj H
    refine Tr.pass rfl rfl rfl rfl rfl (by decide) ?_
    refine Tr.pass rfl rfl rfl rfl rfl (by decide) ?_
    refine Tr.pass rfl rfl rfl rfl rfl (by decide) ?_
    refine Tr.pass rfl rfl rfl rfl rfl (by decide) ?_
    refine Tr.pass rfl rfl rfl rfl rfl (by decide) ?_
    refine Tr.pass rfl rfl rfl rfl rfl (by decide) ?_
    refine Tr.va rfl (fun _ _ h1 h2 => run_pickT (h1.ev rfl) (h1.ev rfl)) ?_
    exact Tr.nil (Tr.fin0 (.cons rfl (.cons rfl (.cons rfl .nil))) .nil)
  ·show Tr _ _ (LF [(0, (.slice Ap0_0 (p0).length cp0_0)), (5, (iv x123)), (27, (.bool g128))]) (LE []) _
   refine Tr.nil (Tr.normThen ?_)
   refine Tr.cond rfl H (fun H => ?_) (fun H => ?_)
   ·refine Tr.sr ?_
    refine Tr.asg rfl rfl ?_
    refine Tr.nil (Tr.normThen ?_)
    refine Tr.ret (Tr.retThen (Tr.retBlock (Tr.retThen (Tr.retThen (Tr.retBlock (Tr.retThen ?_))))))
    obtain rfl := Option.some.inj H
    exact Tr.out (m := [(.bool true)]) [] (res_tmp rfl res_nil) (fun W hW => ⟨rfl, hW.low leB⟩)
   ·refine Tr.skip (Tr.normThen ?_)
    refine Tr.sr ?_
    refine Tr.mv rfl rfl ?_
    refine Tr.mv rfl rfl ?_
    obtain ⟨x131, hx131, H⟩ := bnd H
    obtain ⟨hx1310, hx1311, hx1312⟩ := idx_some hx131
    obtain ⟨u132, hRu132, hoku132, hcu132⟩ := (hp0_0).el hx1312
    obtain ⟨⟨Au132_0, cu132_0⟩, ⟨Au132_1, cu132_1⟩⟩ := u132
    obtain ⟨hoku132_0, hoku132_1⟩ := TPlotStep_ok.1 hoku132
    replace hoku132_0 : Sl w.R w.W fl_TPoint Au132_0 cu132_0 x131.Points := hoku132_0
    replace hoku132_1 : Sl w.R w.W fl_TPlotStep Au132_1 cu132_1 x131.Steps := hoku132_1
    refine Tr.va rfl (fun _ _ h1 h2 => run_indexAddr el_23 (h1.ev rfl) hp0_0.form (h1.ev rfl) hx1310 hx1311) ?_
    refine Tr.va rfl (fun _ _ h1 h2 => run_loadN (cs := [(iv x131.Kind), (sv x131.Name), (iv x131.At.X), (iv x131.At.Y), (.slice Au132_0 (x131.Points).length cu132_0), (iv x131.NX), (iv x131.NY), (.slice Au132_1 (x131.Steps).length cu132_1)]) ag_49 sz_49 (h1.ev rfl) (CellsAt.take (rdR hRu132 hcu132 h2) 8) rfl) ?_
    obtain ⟨y133, hy133, H⟩ := bnd H
    refine Tr.call0 (r := (.bool y133)) (wn rfl) rfl Tryz.call112 (evl_cons rfl evl_nil) (fun W hW => F_etchhouseref3_draws1_ok x131 Au132_0 cu132_0 (hoku132_0.ext hW.extAll) Au132_1 cu132_1 (hoku132_1.ext hW.extAll) y133 hy133 (HF.start _)) ?_
    refine Tr.nil (Tr.normThen ?_)
    refine Tr.cond rfl H (fun H => ?_) (fun H => ?_)
    ·refine Tr.sr ?_
     refine Tr.asg rfl rfl ?_
     refine Tr.nil (Tr.normThen ?_)
     refine Tr.ret (Tr.retBlock (Tr.retThen (Tr.retThen (Tr.retBlock (Tr.retThen ?_)))))
     obtain rfl := Option.some.inj H
     exact Tr.out (m := [(.bool false)]) [] (res_tmp rfl res_nil) (fun W hW => ⟨rfl, hW.low leB⟩)
    ·refine Tr.skip (Tr.normBlock (Tr.normThen ?_))
     refine Tr.region ?_
     refine Tr.mv rfl rfl ?_
     refine Tr.va rfl (fun _ _ h1 h2 => run_add (h1.ev rfl) (h1.ev rfl)) ?_
     refine Tr.asg rfl rfl ?_
     refine Tr.nil ?_
     exact Tr.backThen leL1 (w64 (x123 + 1)) H (.cons rfl (.cons rfl .nil)) .nil
 ·refine Tr.exit (Tr.exitThen (Tr.exitThen (Tr.exitBlock (Tr.normThen ?_))))
  refine Tr.sr ?_
  refine Tr.asg rfl rfl ?_
  refine Tr.nil (Tr.normThen ?_)
  refine Tr.ret ?_
  obtain rfl := Option.some.inj H
  exact Tr.out (m := [(.bool true)]) [] (res_tmp rfl res_nil) (fun W hW => ⟨rfl, hW.low leB⟩)

theorem F_etchhouseref3_idleUse_ok (N : Nat) {w : Bs} (p0 : (List TPlotStep)) (Ap0_0 : Option Addr) (cp0_0 : Nat) (hp0_0 : Sl w.R w.W fl_TPlotStep Ap0_0 cp0_0 p0) (p1 : Int) (r : Bool) (H : F_etchhouseref3_idleUse N p0 p1 = some r) (hE : HF w w.W E0) : Calls Tryz.prog 89 [(.slice Ap0_0 (p0).length cp0_0), (iv p1)].toArray w.W fun e W' => e = .returned (.bool r) ∧ HF w W' E0 := by
 unfold F_etchhouseref3_idleUse at H
 have leB := Bs.Le.refl w
 refine Tr.enter (n := 33) Tryz.func89 rfl rfl rfl hE ?_
 refine Tr.sr ?_
 refine Tr.asg rfl rfl ?_
 refine Tr.nil (Tr.normThen ?_)
 refine Tr.seq ?_
 refine Tr.sr ?_
 refine Tr.mv rfl rfl ?_
 refine Tr.va rfl (fun _ _ h1 h2 => run_add (h1.ev rfl) (h1.ev rfl)) ?_
 refine Tr.asg rfl rfl ?_
 refine Tr.nil (Tr.normThen ?_)
 refine Tr.block ?_
 refine Tr.loop (σ := Int) (fun m w s => F_etchhouseref3_idleUse_L1 p0 m s = some r) (fun s => [(0, (.slice Ap0_0 (p0).length cp0_0)), (5, (iv s))]) (fun s => []) N (w64 (p1 + 1)) H (.cons rfl (.cons rfl .nil)) .nil (fun _ _ h => noSome (h)) ?_
 intro w leL1 mL1 x123 hs
 have H := hs
 replace H : F_etchhouseref3_idleUse_L1 p0 (mL1 + 1) x123 = some r := H
 replace hp0_0 := hp0_0.leR leL1
 replace leB := leB.trans leL1
 rw [F_etchhouseref3_idleUse_L1.eq_2] at H
 show Tr _ _ (LF [(0, (.slice Ap0_0 (p0).length cp0_0)), (5, (iv x123))]) (LE []) _
 refine Tr.seq ?_
 refine Tr.sr ?_
 refine Tr.mv rfl rfl ?_
 refine Tr.mv rfl rfl ?_
 refine Tr.va rfl (fun _ _ h1 h2 => run_len un_23 (h1.ev rfl)) ?_
 refine Tr.va rfl (fun _ _ h1 h2 => run_lss (h1.ev rfl) (h1.ev rfl)) ?_
 refine Tr.nil (Tr.normThen ?_)
 refine Tr.cond rfl H (fun H => ?_) (fun H => ?_)
 ·refine Tr.skip (Tr.normThen ?_)
  refine Tr.seq ?_
  refine Tr.block ?_
  refine Tr.seq ?_
  refine Tr.sr ?_
  refine Tr.mv rfl rfl ?_
  refine Tr.mv rfl rfl ?_
  obtain ⟨x124, hx124, H⟩ := bnd H
  obtain ⟨hx1240, hx1241, hx1242⟩ := idx_some hx124
  obtain ⟨u125, hRu125, hoku125, hcu125⟩ := (hp0_0).el hx1242
  obtain ⟨⟨Au125_0, cu125_0⟩, ⟨Au125_1, cu125_1⟩⟩ := u125
  obtain ⟨hoku125_0, hoku125_1⟩ := TPlotStep_ok.1 hoku125
  replace hoku125_0 : Sl w.R w.W fl_TPoint Au125_0 cu125_0 x124.Points := hoku125_0
  replace hoku125_1 : Sl w.R w.W fl_TPlotStep Au125_1 cu125_1 x124.Steps := hoku125_1
  refine Tr.va rfl (fun _ _ h1 h2 => run_indexAddr el_23 (h1.ev rfl) hp0_0.form (h1.ev rfl) hx1240 hx1241) ?_
  refine Tr.va rfl (fun _ _ h1 h2 => run_fieldAddr fo_49_0 (h1.ev rfl)) ?_
  refine Tr.va rfl (fun _ _ h1 h2 => run_load1 ag_3 (h1.ev rfl) (CellsAt.drop (rdR hRu125 hcu125 h2) 0) rfl) ?_
  refine Tr.va rfl (fun _ _ h1 h2 => run_eql (h1.ev rfl) (h1.ev rfl)) ?_
  refine Tr.nil (Tr.normThen ?_)
  refine Tr.cond rfl H (fun H => ?_) (fun H => ?_)
  ·refine Tr.sr ?_
   refine Tr.asg rfl rfl ?_
   refine Tr.nil (Tr.normThen ?_)
   refine Tr.ret (Tr.retThen (Tr.retBlock (Tr.retThen (Tr.retThen (Tr.retBlock (Tr.retThen ?_))))))
   obtain rfl := Option.some.inj H
   exact Tr.out (m := [(.bool true)]) [] (res_tmp rfl res_nil) (fun W hW => ⟨rfl, hW.low leB⟩)
  ·refine Tr.skip (Tr.normThen ?_)
   refine Tr.sr ?_
   refine Tr.mv rfl rfl ?_
   refine Tr.mv rfl rfl ?_
   obtain ⟨x126, hx126, H⟩ := bnd H
   obtain ⟨hx1260, hx1261, hx1262⟩ := idx_some hx126
   obtain ⟨u127, hRu127, hoku127, hcu127⟩ := (hp0_0).el hx1262
   obtain ⟨⟨Au127_0, cu127_0⟩, ⟨Au127_1, cu127_1⟩⟩ := u127
   obtain ⟨hoku127_0, hoku127_1⟩ := TPlotStep_ok.1 hoku127
   replace hoku127_0 : Sl w.R w.W fl_TPoint Au127_0 cu127_0 x126.Points := hoku127_0
   replace hoku127_1 : Sl w.R w.W fl_TPlotStep Au127_1 cu127_1 x126.Steps := hoku127_1
   refine Tr.va rfl (fun _ _ h1 h2 => run_indexAddr el_23 (h1.ev rfl) hp0_0.form (h1.ev rfl) hx1260 hx1261) ?_
   refine Tr.va rfl (fun _ _ h1 h2 => run_loadN (cs := [(iv x126.Kind), (sv x126.Name), (iv x126.At.X), (iv x126.At.Y), (.slice Au127_0 (x126.Points).length cu127_0), (iv x126.NX), (iv x126.NY), (.slice Au127_1 (x126.Steps).length cu127_1)]) ag_49 sz_49 (h1.ev rfl) (CellsAt.take (rdR hRu127 hcu127 h2) 8) rfl) ?_
   obtain ⟨y128, hy128, H⟩ := bnd H
   refine Tr.call0 (r := (.bool y128)) (wn rfl) rfl Tryz.call112 (evl_cons rfl evl_nil) (fun W hW => F_etchhouseref3_draws1_ok x126 Au127_0 cu127_0 (hoku127_0.ext hW.extAll) Au127_1 cu127_1 (hoku127_1.ext hW.extAll) y128 hy128 (HF.start _)) ?_
   refine Tr.mv rfl rfl ?_
   obtain ⟨g131, hg131, H⟩ := bnd H
   refine Tr.mid0 7 [(0, (.slice Ap0_0 (p0).length cp0_0)), (5, (iv x123)), (32, (.bool g131))] [] ?_ ?_
   ·cases hg133 : y128
    ·rw [hg133] at hg131
     rw [if_neg (by decide)] at hg131
     have H := hg131
     obtain rfl := Option.some.inj H
     refine Tr.pass rfl rfl rfl rfl rfl (by decide) ?_
     refine Tr.pass rfl rfl rfl rfl rfl (by decide) ?_
     refine Tr.pass rfl rfl rfl rfl rfl (by decide) ?_
     refine Tr.pass rfl rfl rfl rfl rfl (by decide) ?_
     refine Tr.pass rfl rfl rfl rfl rfl (by decide) ?_
     refine Tr.pass rfl rfl rfl rfl rfl (by decide) ?_
     refine Tr.va rfl (fun _ _ h1 h2 => run_pickF (h1.ev rfl) (h1.ev rfl)) ?_
     exact Tr.nil (Tr.fin0 (.cons rfl (.cons rfl (.cons rfl .nil))) .nil)
    ·rw [hg133] at hg131
     rw [if_pos rfl] at hg131
     have H := hg131
     refine Tr.val (wg rfl rfl rfl) rfl (fun _ _ h1 h2 => run_move (h1.ev rfl)) ?_
     refine Tr.val (wg rfl rfl rfl) rfl (fun _ _ h1 h2 => run_move (h1.ev rfl)) ?_
     obtain ⟨x132, hx132, H⟩ := bnd H
     obtain ⟨hx1320, hx1321, hx1322⟩ := idx_some hx132
     obtain ⟨u133, hRu133, hoku133, hcu133⟩ := (hp0_0).el hx1322
     obtain ⟨⟨Au133_0, cu133_0⟩, ⟨Au133_1, cu133_1⟩⟩ := u133
     obtain ⟨hoku133_0, hoku133_1⟩ := TPlotStep_ok.1 hoku133
     replace hoku133_0 : Sl w.R w.W fl_TPoint Au133_0 cu133_0 x132.Points := hoku133_0
     replace hoku133_1 : Sl w.R w.W fl_TPlotStep Au133_1 cu133_1 x132.Steps := hoku133_1
     refine Tr.val (wg rfl rfl rfl) rfl (fun _ _ h1 h2 => run_indexAddr el_23 (h1.ev rfl) hp0_0.form (h1.ev rfl) hx1320 hx1321) ?_
     refine Tr.val (wg rfl rfl rfl) rfl (fun _ _ h1 h2 => run_fieldAddr fo_49_0 (h1.ev rfl)) ?_
     refine Tr.val (wg rfl rfl rfl) rfl (fun _ _ h1 h2 => run_load1 ag_3 (h1.ev rfl) (CellsAt.drop (rdR hRu133 hcu133 h2) 0) rfl) ?_
     refine Tr.val (wg rfl rfl rfl) rfl (fun _ _ h1 h2 => run_neq (h1.ev rfl) (h1.ev rfl)) ?_
     refine Tr.va rfl (fun _ _ h1 h2 => run_pickT (h1.ev rfl) (h1.ev rfl)) ?_
     obtain rfl := Option.some.inj H
     exact Tr.nil (Tr.fin0 (.cons rfl (.cons rfl (.cons rfl .nil))) .nil)
   ·show Tr _ _ (LF [(0, (.slice Ap0_0 (p0).length cp0_0)), (5, (iv x123)), (32, (.bool g131))]) (LE []) _
    refine Tr.nil (Tr.normThen ?_)
    refine Tr.cond rfl H (fun H => ?_) (fun H => ?_)
    ·refine Tr.sr ?_
     refine Tr.asg rfl rfl ?_
     refine Tr.nil (Tr.normThen ?_)
     refine Tr.ret (Tr.retBlock (Tr.retThen (Tr.retThen (Tr.retBlock (Tr.retThen ?_)))))
     obtain rfl := Option.some.inj H
     exact Tr.out (m := [(.bool false)]) [] (res_tmp rfl res_nil) (fun W hW => ⟨rfl, hW.low leB⟩)
    ·refine Tr.skip (Tr.normBlock (Tr.normThen ?_))
     refine Tr.region ?_
     refine Tr.mv rfl rfl ?_
     refine Tr.va rfl (fun _ _ h1 h2 => run_add (h1.ev rfl) (h1.ev rfl)) ?_
     refine Tr.asg rfl rfl ?_
     refine Tr.nil ?_
     exact Tr.backThen leL1 (w64 (x123 + 1)) H (.cons rfl (.cons rfl .nil)) .nil
 ·refine Tr.exit (Tr.exitThen (Tr.exitThen (Tr.exitBlock (Tr.normThen ?_))))
  refine Tr.sr ?_
  refine Tr.asg rfl rfl ?_
  refine Tr.nil (Tr.normThen ?_)
  refine Tr.ret ?_
  obtain rfl := Option.some.inj H
  exact Tr.out (m := [(.bool true)]) [] (res_tmp rfl res_nil) (fun W hW => ⟨rfl, hW.low leB⟩)

theorem F_etchhouseref3_idleMove_ok (N : Nat) {w : Bs} (p0 : (List TPlotStep)) (Ap0_0 : Option Addr) (cp0_0 : Nat) (hp0_0 : Sl w.R w.W fl_TPlotStep Ap0_0 cp0_0 p0) (p1 : Int) (r : Bool) (H : F_etchhouseref3_idleMove N p0 p1 = some r) (hE : HF w w.W E0) : Calls Tryz.prog 90 [(.slice Ap0_0 (p0).length cp0_0), (iv p1)].toArray w.W fun e W' => e = .returned (.bool r) ∧ HF w W' E0 := by
 unfold F_etchhouseref3_idleMove at H
 have leB := Bs.Le.refl w
 refine Tr.enter (n := 42) Tryz.func90 rfl rfl rfl hE ?_
 refine Tr.sr ?_
 refine Tr.asg rfl rfl ?_
 refine Tr.nil (Tr.normThen ?_)
 refine Tr.seq ?_
 refine Tr.sr ?_
 refine Tr.mv rfl rfl ?_
 refine Tr.va rfl (fun _ _ h1 h2 => run_add (h1.ev rfl) (h1.ev rfl)) ?_
 refine Tr.asg rfl rfl ?_
 refine Tr.nil (Tr.normThen ?_)
 refine Tr.block ?_
 refine Tr.loop (σ := Int) (fun m w s => F_etchhouseref3_idleMove_L1 p0 m s = some r) (fun s => [(0, (.slice Ap0_0 (p0).length cp0_0)), (5, (iv s))]) (fun s => []) N (w64 (p1 + 1)) H (.cons rfl (.cons rfl .nil)) .nil (fun _ _ h => noSome (h)) ?_
 intro w leL1 mL1 x131 hs
 have H := hs
 replace H : F_etchhouseref3_idleMove_L1 p0 (mL1 + 1) x131 = some r := H
 replace hp0_0 := hp0_0.leR leL1
 replace leB := leB.trans leL1
 rw [F_etchhouseref3_idleMove_L1.eq_2] at H
 show Tr _ _ (LF [(0, (.slice Ap0_0 (p0).length cp0_0)), (5, (iv x131))]) (LE []) _
 refine Tr.seq ?_
 refine Tr.sr ?_
 refine Tr.mv rfl rfl ?_
 refine Tr.mv rfl rfl ?_
 refine Tr.va rfl (fun _ _ h1 h2 => run_len un_23 (h1.ev rfl)) ?_
 refine Tr.va rfl (fun _ _ h1 h2 => run_lss (h1.ev rfl) (h1.ev rfl)) ?_
 refine Tr.nil (Tr.normThen ?_)
 refine Tr.cond rfl H (fun H => ?_) (fun H => ?_)
 ·refine Tr.skip (Tr.normThen ?_)
  refine Tr.seq ?_
  refine Tr.block ?_
  refine Tr.seq ?_
  refine Tr.sr ?_
  refine Tr.mv rfl rfl ?_
  refine Tr.mv rfl rfl ?_
  obtain ⟨x132, hx132, H⟩ := bnd H
  obtain ⟨hx1320, hx1321, hx1322⟩ := idx_some hx132
  obtain ⟨u133, hRu133, hoku133, hcu133⟩ := (hp0_0).el hx1322
  obtain ⟨⟨Au133_0, cu133_0⟩, ⟨Au133_1, cu133_1⟩⟩ := u133
  obtain ⟨hoku133_0, hoku133_1⟩ := TPlotStep_ok.1 hoku133
  replace hoku133_0 : Sl w.R w.W fl_TPoint Au133_0 cu133_0 x132.Points := hoku133_0
  replace hoku133_1 : Sl w.R w.W fl_TPlotStep Au133_1 cu133_1 x132.Steps := hoku133_1
  refine Tr.va rfl (fun _ _ h1 h2 => run_indexAddr el_23 (h1.ev rfl) hp0_0.form (h1.ev rfl) hx1320 hx1321) ?_
  refine Tr.va rfl (fun _ _ h1 h2 => run_fieldAddr fo_49_0 (h1.ev rfl)) ?_
  refine Tr.va rfl (fun _ _ h1 h2 => run_load1 ag_3 (h1.ev rfl) (CellsAt.drop (rdR hRu133 hcu133 h2) 0) rfl) ?_
  refine Tr.va rfl (fun _ _ h1 h2 => run_eql (h1.ev rfl) (h1.ev rfl)) ?_
  refine Tr.mv rfl rfl ?_
  obtain ⟨g136, hg136, H⟩ := bnd H
  refine Tr.mid0 7 [(0, (.slice Ap0_0 (p0).length cp0_0)), (5, (iv x131)), (27, (.bool g136))] [] ?_ ?_
  ·cases hg145 : (x132.Kind == 4)
   ·rw [hg145] at hg136
    rw [if_neg (by decide)] at hg136
    have H := hg136
    refine Tr.val (wg rfl rfl rfl) rfl (fun _ _ h1 h2 => run_move (h1.ev rfl)) ?_
    refine Tr.val (wg rfl rfl rfl) rfl (fun _ _ h1 h2 => run_move (h1.ev rfl)) ?_
    obtain ⟨x137, hx137, H⟩ := bnd H
    obtain ⟨hx1370, hx1371, hx1372⟩ := idx_some hx137
    obtain ⟨u138, hRu138, hoku138, hcu138⟩ := (hp0_0).el hx1372
    obtain ⟨⟨Au138_0, cu138_0⟩, ⟨Au138_1, cu138_1⟩⟩ := u138
    obtain ⟨hoku138_0, hoku138_1⟩ := TPlotStep_ok.1 hoku138
    replace hoku138_0 : Sl w.R w.W fl_TPoint Au138_0 cu138_0 x137.Points := hoku138_0
    replace hoku138_1 : Sl w.R w.W fl_TPlotStep Au138_1 cu138_1 x137.Steps := hoku138_1
    refine Tr.val (wg rfl rfl rfl) rfl (fun _ _ h1 h2 => run_indexAddr el_23 (h1.ev rfl) hp0_0.form (h1.ev rfl) hx1370 hx1371) ?_
    refine Tr.val (wg rfl rfl rfl) rfl (fun _ _ h1 h2 => run_fieldAddr fo_49_0 (h1.ev rfl)) ?_
    refine Tr.val (wg rfl rfl rfl) rfl (fun _ _ h1 h2 => run_load1 ag_3 (h1.ev rfl) (CellsAt.drop (rdR hRu138 hcu138 h2) 0) rfl) ?_
    refine Tr.val (wg rfl rfl rfl) rfl (fun _ _ h1 h2 => run_eql (h1.ev rfl) (h1.ev rfl)) ?_
    refine Tr.va rfl (fun _ _ h1 h2 => run_pickF (h1.ev rfl) (h1.ev rfl)) ?_
    obtain rfl := Option.some.inj H
    exact Tr.nil (Tr.fin0 (.cons rfl (.cons rfl (.cons rfl .nil))) .nil)
   ·rw [hg145] at hg136
    rw [if_pos rfl] at hg136
    have H := hg136
    obtain rfl := Option.some.inj H
    refine Tr.pass rfl rfl rfl rfl rfl (by decide) ?_
    refine Tr.pass rfl rfl rfl rfl rfl (by decide) ?_
    refine Tr.pass rfl rfl rfl rfl rfl (by decide) ?_
    refine Tr.pass rfl rfl rfl rfl rfl (by decide) ?_
    refine Tr.pass rfl rfl rfl rfl rfl (by decide) ?_
    refine Tr.pass rfl rfl rfl rfl rfl (by decide) ?_
    refine Tr.va rfl (fun _ _ h1 h2 => run_pickT (h1.ev rfl) (h1.ev rfl)) ?_
    exact Tr.nil (Tr.fin0 (.cons rfl (.cons rfl (.cons rfl .nil))) .nil)
  ·show Tr _ _ (LF [(0, (.slice Ap0_0 (p0).length cp0_0)), (5, (iv x131)), (27, (.bool g136))]) (LE []) _
   refine Tr.nil (Tr.normThen ?_)
   refine Tr.cond rfl H (fun H => ?_) (fun H => ?_)
   ·refine Tr.sr ?_
    refine Tr.asg rfl rfl ?_
    refine Tr.nil (Tr.normThen ?_)
    refine Tr.ret (Tr.retThen (Tr.retBlock (Tr.retThen (Tr.retThen (Tr.retBlock (Tr.retThen ?_))))))
    obtain rfl := Option.some.inj H
    exact Tr.out (m := [(.bool true)]) [] (res_tmp rfl res_nil) (fun W hW => ⟨rfl, hW.low leB⟩)
   ·refine Tr.skip (Tr.normThen ?_)
    refine Tr.sr ?_
    refine Tr.mv rfl rfl ?_
    refine Tr.mv rfl rfl ?_
    obtain ⟨x139, hx139, H⟩ := bnd H
    obtain ⟨hx1390, hx1391, hx1392⟩ := idx_some hx139
    obtain ⟨u140, hRu140, hoku140, hcu140⟩ := (hp0_0).el hx1392
    obtain ⟨⟨Au140_0, cu140_0⟩, ⟨Au140_1, cu140_1⟩⟩ := u140
    obtain ⟨hoku140_0, hoku140_1⟩ := TPlotStep_ok.1 hoku140
    replace hoku140_0 : Sl w.R w.W fl_TPoint Au140_0 cu140_0 x139.Points := hoku140_0
    replace hoku140_1 : Sl w.R w.W fl_TPlotStep Au140_1 cu140_1 x139.Steps := hoku140_1
    refine Tr.va rfl (fun _ _ h1 h2 => run_indexAddr el_23 (h1.ev rfl) hp0_0.form (h1.ev rfl) hx1390 hx1391) ?_
    refine Tr.va rfl (fun _ _ h1 h2 => run_fieldAddr fo_49_0 (h1.ev rfl)) ?_
    refine Tr.va rfl (fun _ _ h1 h2 => run_load1 ag_3 (h1.ev rfl) (CellsAt.drop (rdR hRu140 hcu140 h2) 0) rfl) ?_
    refine Tr.va rfl (fun _ _ h1 h2 => run_eql (h1.ev rfl) (h1.ev rfl)) ?_
    refine Tr.mv rfl rfl ?_
    obtain ⟨g143, hg143, H⟩ := bnd H
    refine Tr.mid0 7 [(0, (.slice Ap0_0 (p0).length cp0_0)), (5, (iv x131)), (41, (.bool g143))] [] ?_ ?_
    ·cases hg145 : (x139.Kind == 6)
     ·rw [hg145] at hg143
      rw [if_neg (by decide)] at hg143
      have H := hg143
      refine Tr.val (wg rfl rfl rfl) rfl (fun _ _ h1 h2 => run_move (h1.ev rfl)) ?_
      refine Tr.val (wg rfl rfl rfl) rfl (fun _ _ h1 h2 => run_move (h1.ev rfl)) ?_
      obtain ⟨x144, hx144, H⟩ := bnd H
      obtain ⟨hx1440, hx1441, hx1442⟩ := idx_some hx144
      obtain ⟨u145, hRu145, hoku145, hcu145⟩ := (hp0_0).el hx1442
      obtain ⟨⟨Au145_0, cu145_0⟩, ⟨Au145_1, cu145_1⟩⟩ := u145
      obtain ⟨hoku145_0, hoku145_1⟩ := TPlotStep_ok.1 hoku145
      replace hoku145_0 : Sl w.R w.W fl_TPoint Au145_0 cu145_0 x144.Points := hoku145_0
      replace hoku145_1 : Sl w.R w.W fl_TPlotStep Au145_1 cu145_1 x144.Steps := hoku145_1
      refine Tr.val (wg rfl rfl rfl) rfl (fun _ _ h1 h2 => run_indexAddr el_23 (h1.ev rfl) hp0_0.form (h1.ev rfl) hx1440 hx1441) ?_
      refine Tr.val (wg rfl rfl rfl) rfl (fun _ _ h1 h2 => run_fieldAddr fo_49_0 (h1.ev rfl)) ?_
      refine Tr.val (wg rfl rfl rfl) rfl (fun _ _ h1 h2 => run_load1 ag_3 (h1.ev rfl) (CellsAt.drop (rdR hRu145 hcu145 h2) 0) rfl) ?_
      refine Tr.val (wg rfl rfl rfl) rfl (fun _ _ h1 h2 => run_eql (h1.ev rfl) (h1.ev rfl)) ?_
      refine Tr.va rfl (fun _ _ h1 h2 => run_pickF (h1.ev rfl) (h1.ev rfl)) ?_
      obtain rfl := Option.some.inj H
      exact Tr.nil (Tr.fin0 (.cons rfl (.cons rfl (.cons rfl .nil))) .nil)
     ·rw [hg145] at hg143
      rw [if_pos rfl] at hg143
      have H := hg143
      obtain rfl := Option.some.inj H
      refine Tr.pass rfl rfl rfl rfl rfl (by decide) ?_
      refine Tr.pass rfl rfl rfl rfl rfl (by decide) ?_
      refine Tr.pass rfl rfl rfl rfl rfl (by decide) ?_
      refine Tr.pass rfl rfl rfl rfl rfl (by decide) ?_
      refine Tr.pass rfl rfl rfl rfl rfl (by decide) ?_
      refine Tr.pass rfl rfl rfl rfl rfl (by decide) ?_
      refine Tr.va rfl (fun _ _ h1 h2 => run_pickT (h1.ev rfl) (h1.ev rfl)) ?_
      exact Tr.nil (Tr.fin0 (.cons rfl (.cons rfl (.cons rfl .nil))) .nil)
    ·show Tr _ _ (LF [(0, (.slice Ap0_0 (p0).length cp0_0)), (5, (iv x131)), (41, (.bool g143))]) (LE []) _
     refine Tr.nil (Tr.normThen ?_)
     refine Tr.cond rfl H (fun H => ?_) (fun H => ?_)
     ·refine Tr.sr ?_
      refine Tr.asg rfl rfl ?_
      refine Tr.nil (Tr.normThen ?_)
      refine Tr.ret (Tr.retBlock (Tr.retThen (Tr.retThen (Tr.retBlock (Tr.retThen ?_)))))
      obtain rfl := Option.some.inj H
      exact Tr.out (m := [(.bool false)]) [] (res_tmp rfl res_nil) (fun W hW => ⟨rfl, hW.low leB⟩)
     ·refine Tr.skip (Tr.normBlock (Tr.normThen ?_))
      refine Tr.region ?_
      refine Tr.mv rfl rfl ?_
      refine Tr.va rfl (fun _ _ h1 h2 => run_add (h1.ev rfl) (h1.ev rfl)) ?_
      refine Tr.asg rfl rfl ?_
      refine Tr.nil ?_
      exact Tr.backThen leL1 (w64 (x131 + 1)) H (.cons rfl (.cons rfl .nil)) .nil
 ·refine Tr.exit (Tr.exitThen (Tr.exitThen (Tr.exitBlock (Tr.normThen ?_))))
  refine Tr.sr ?_
  refine Tr.asg rfl rfl ?_
  refine Tr.nil (Tr.normThen ?_)
  refine Tr.ret ?_
  obtain rfl := Option.some.inj H
  exact Tr.out (m := [(.bool true)]) [] (res_tmp rfl res_nil) (fun W hW => ⟨rfl, hW.low leB⟩)

end Go.Proofs.YtocjndhpgjccoaaGreatDoor
