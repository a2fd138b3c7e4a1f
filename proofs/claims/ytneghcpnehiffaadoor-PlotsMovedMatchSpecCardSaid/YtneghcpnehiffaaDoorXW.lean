/- The walks: each function computes its plain function. -/
import Derived.Test.YtneghcpnehiffaaDoorXWc
namespace Go.Proofs.YtneghcpnehiffaaDoor
open Go.RowKit
set_option maxRecDepth 100000
set_option maxHeartbeats 1000000
theorem F_etchhouseref3_TurnedPlot_ok (N : Nat) {w : Bs} (p0 : TPlot) (Ap0_0 : Option Addr) (cp0_0 : Nat) (hp0_0 : Sl w.R w.W fl_TPlotTool Ap0_0 cp0_0 p0.Tools) (Ap0_1 : Option Addr) (cp0_1 : Nat) (hp0_1 : Sl w.O w.W fl_TPlotStep Ap0_1 cp0_1 p0.Steps) (p1 : TTurn) (r : (TPlot × Int)) (H : F_etchhouseref3_TurnedPlot N p0 p1 = some r) (hE : HF w w.W (LEn [])) : Calls Tryd.prog 7 [(.agg #[(iv p0.Unit), (.slice Ap0_0 (p0.Tools).length cp0_0), (.slice Ap0_1 (p0.Steps).length cp0_1)]), (.agg #[(.bool p1.Flip), (iv p1.Quarters), (iv p1.At.X), (iv p1.At.Y)])].toArray w.W fun e W' => ∃ (w' : Bs) (u : (Option Addr × Nat) × (Option Addr × Nat)), w.Le w' ∧ e = .returned (.tuple #[(.agg #[(iv r.1.Unit), (.slice u.1.1 (r.1.Tools).length u.1.2), (.slice u.2.1 (r.1.Steps).length u.2.2)]), (iv r.2)]) ∧ (Sl w'.O w'.W fl_TPlotTool u.1.1 u.1.2 r.1.Tools ∧ Sl w'.O w'.W fl_TPlotStep u.2.1 u.2.2 r.1.Steps) ∧ HF w' W' (LEn []) := by
 unfold F_etchhouseref3_TurnedPlot at H
 have leB := Bs.Le.refl w
 refine Tr.enter (n := 162) Tryd.func7 rfl rfl rfl hE ?_
 refine Tr.sr ?_
 refine Tr.box 1 (cs := [(iv p0.Unit), (.slice Ap0_0 (p0.Tools).length cp0_0), (.slice Ap0_1 (p0.Steps).length cp0_1)]) (wn rfl) rfl rfl rfl fun b100 => ?_
 refine Tr.box 2 (cs := [(.bool p1.Flip), (iv p1.Quarters), (iv p1.At.X), (iv p1.At.Y)]) (wn rfl) rfl rfl rfl fun b101 => ?_
 refine Tr.alloc 3 (wn rfl) rfl ze_25 fun b102 => ?_
 refine Tr.asg rfl rfl ?_
 refine Tr.nil (Tr.normThen ?_)
 refine Tr.seq ?_
 refine Tr.sr ?_
 refine Tr.va rfl (fun _ _ h1 h2 => run_loadN (cs := [(iv p0.Unit), (.slice Ap0_0 (p0.Tools).length cp0_0), (.slice Ap0_1 (p0.Steps).length cp0_1)]) ag_25 sz_25 (h1.ev rfl) (CellsAt.take (rdb h2 (vs := [(iv p0.Unit), (.slice Ap0_0 (p0.Tools).length cp0_0), (.slice Ap0_1 (p0.Steps).length cp0_1)]) (k := 1) rfl 0) 3) rfl) ?_
 obtain ⟨y103, hy103, H⟩ := bnd H
 refine Tr.call0 (r := (iv y103)) (wn rfl) rfl Tryd.call18 (evl_cons rfl evl_nil) (fun W hW => F_etchhouseref3_CheckPlot_ok N p0 Ap0_0 cp0_0 (hp0_0.ext hW.extAll) Ap0_1 cp0_1 (hp0_1.rl.ext hW.extAll) y103 hy103 (HF.start _)) ?_
 refine Tr.asg rfl rfl ?_
 refine Tr.nil (Tr.normThen ?_)
 refine Tr.sr ?_
 refine Tr.mv rfl rfl ?_
 refine Tr.va rfl (fun _ _ h1 h2 => run_neq (h1.ev rfl) (h1.ev rfl)) ?_
 refine Tr.nil (Tr.normThen ?_)
 refine Tr.cond rfl H (fun H => ?_) (fun H => ?_)
 ·refine Tr.sr ?_
  refine Tr.build (vs := []) (cs := [(iv 0), (.slice none 0 0), (.slice none 0 0)]) (wn rfl) rfl evs_nil (by kernel_rfl) ?_
  refine Tr.mv rfl rfl ?_
  refine Tr.store 3 (cs := [(iv 0), (.slice none 0 0), (.slice none 0 0)]) [(iv 0), (.slice none 0 0), (.slice none 0 0)] (wn rfl) rfl rfl rfl rfl sz_25 rfl rfl rfl ?_
  refine Tr.asg rfl rfl ?_
  refine Tr.nil (Tr.normThen ?_)
  refine Tr.ret (Tr.retThen ?_)
  obtain rfl := Option.some.inj H
  exact Tr.out (m := [(.agg #[(iv 0), (.slice none 0 0), (.slice none 0 0)]), (iv y103)]) [3] (res_cell rfl rfl ag_25 sz_25 (res_tmp rfl res_nil)) (fun W hW => ⟨w, ((none, 0), (none, 0)), leB, rfl, ⟨(Sl.nil _ _ _), (Sl.nil _ _ _)⟩, hW.pick (ks := []) (by decide) pk_nil⟩)
 ·refine Tr.skip (Tr.normThen ?_)
  refine Tr.seq ?_
  refine Tr.sr ?_
  refine Tr.va rfl (fun _ _ h1 h2 => run_loadN (cs := [(.bool p1.Flip), (iv p1.Quarters), (iv p1.At.X), (iv p1.At.Y)]) ag_29 sz_29 (h1.ev rfl) (CellsAt.take (rdb h2 (vs := [(.bool p1.Flip), (iv p1.Quarters), (iv p1.At.X), (iv p1.At.Y)]) (k := 2) rfl 0) 4) rfl) ?_
  obtain ⟨y104, hy104, H⟩ := bnd H
  refine Tr.call0 (r := (iv y104)) (wn rfl) rfl Tryd.call28 (evl_cons rfl evl_nil) (fun W hW => F_etchhouseref1_CheckTurn_ok p1 y104 hy104 (HF.start _)) ?_
  refine Tr.asg rfl rfl ?_
  refine Tr.nil (Tr.normThen ?_)
  refine Tr.sr ?_
  refine Tr.mv rfl rfl ?_
  refine Tr.va rfl (fun _ _ h1 h2 => run_neq (h1.ev rfl) (h1.ev rfl)) ?_
  refine Tr.nil (Tr.normThen ?_)
  refine Tr.cond rfl H (fun H => ?_) (fun H => ?_)
  ·refine Tr.sr ?_
   refine Tr.build (vs := []) (cs := [(iv 0), (.slice none 0 0), (.slice none 0 0)]) (wn rfl) rfl evs_nil (by kernel_rfl) ?_
   refine Tr.mv rfl rfl ?_
   refine Tr.store 3 (cs := [(iv 0), (.slice none 0 0), (.slice none 0 0)]) [(iv 0), (.slice none 0 0), (.slice none 0 0)] (wn rfl) rfl rfl rfl rfl sz_25 rfl rfl rfl ?_
   refine Tr.asg rfl rfl ?_
   refine Tr.nil (Tr.normThen ?_)
   refine Tr.ret (Tr.retThen ?_)
   obtain rfl := Option.some.inj H
   exact Tr.out (m := [(.agg #[(iv 0), (.slice none 0 0), (.slice none 0 0)]), (iv y104)]) [3] (res_cell rfl rfl ag_25 sz_25 (res_tmp rfl res_nil)) (fun W hW => ⟨w, ((none, 0), (none, 0)), leB, rfl, ⟨(Sl.nil _ _ _), (Sl.nil _ _ _)⟩, hW.pick (ks := []) (by decide) pk_nil⟩)
  ·refine Tr.skip (Tr.normThen ?_)
   refine Tr.sr ?_
   refine Tr.va rfl (fun _ _ h1 h2 => run_fieldAddr fo_29_2 (h1.ev rfl)) ?_
   refine Tr.va rfl (fun _ _ h1 h2 => run_loadN (cs := [(iv p1.At.X), (iv p1.At.Y)]) ag_27 sz_27 (h1.ev rfl) (CellsAt.take (rdb h2 (vs := [(.bool p1.Flip), (iv p1.Quarters), (iv p1.At.X), (iv p1.At.Y)]) (k := 2) rfl 2) 2) rfl) ?_
   refine Tr.va rfl (fun _ _ h1 h2 => run_fieldAddr fo_25_0 (h1.ev rfl)) ?_
   refine Tr.va rfl (fun _ _ h1 h2 => run_load1 ag_3 (h1.ev rfl) (rdb h2 (vs := [(iv p0.Unit), (.slice Ap0_0 (p0.Tools).length cp0_0), (.slice Ap0_1 (p0.Steps).length cp0_1)]) (k := 1) rfl 0) rfl) ?_
   obtain ⟨y105, hy105, H⟩ := bnd H
   refine Tr.call0 (r := (.tuple #[(.agg #[(iv y105.1.X), (iv y105.1.Y)]), (.bool y105.2)])) (wn rfl) rfl Tryd.call20 (evl_cons rfl (evl_cons rfl evl_nil)) (fun W hW => F_etchhouseref3_inUnits_ok p1.At p0.Unit y105 hy105 (HF.start _)) ?_
   refine Tr.mv rfl rfl ?_
   refine Tr.va rfl (fun _ _ h1 h2 => run_extract (h1.ev rfl) rfl) ?_
   refine Tr.va rfl (fun _ _ h1 h2 => run_extract (h1.ev rfl) rfl) ?_
   refine Tr.alloc 4 (wn rfl) rfl ze_27 fun b106 => ?_
   refine Tr.store 4 (cs := [(iv y105.1.X), (iv y105.1.Y)]) [(iv y105.1.X), (iv y105.1.Y)] (wn rfl) rfl rfl rfl rfl sz_27 rfl rfl rfl ?_
   refine Tr.asg rfl rfl ?_
   refine Tr.nil (Tr.normThen ?_)
   refine Tr.seq ?_
   refine Tr.sr ?_
   refine Tr.mv rfl rfl ?_
   refine Tr.va rfl (fun _ _ h1 h2 => run_not (h1.ev rfl)) ?_
   refine Tr.nil (Tr.normThen ?_)
   refine Tr.cond rfl H (fun H => ?_) (fun H => ?_)
   ·refine Tr.sr ?_
    refine Tr.build (vs := []) (cs := [(iv 0), (.slice none 0 0), (.slice none 0 0)]) (wn rfl) rfl evs_nil (by kernel_rfl) ?_
    refine Tr.store 3 (cs := [(iv 0), (.slice none 0 0), (.slice none 0 0)]) [(iv 0), (.slice none 0 0), (.slice none 0 0)] (wn rfl) rfl rfl rfl rfl sz_25 rfl rfl rfl ?_
    refine Tr.asg rfl rfl ?_
    refine Tr.nil (Tr.normThen ?_)
    refine Tr.ret (Tr.retThen ?_)
    obtain rfl := Option.some.inj H
    exact Tr.out (m := [(.agg #[(iv 0), (.slice none 0 0), (.slice none 0 0)]), (iv 3)]) [3] (res_cell rfl rfl ag_25 sz_25 (res_tmp rfl res_nil)) (fun W hW => ⟨w, ((none, 0), (none, 0)), leB, rfl, ⟨(Sl.nil _ _ _), (Sl.nil _ _ _)⟩, hW.pick (ks := []) (by decide) pk_nil⟩)
   ·refine Tr.skip (Tr.normThen ?_)
    refine Tr.sr ?_
    refine Tr.va rfl (fun _ _ h1 h2 => run_fieldAddr fo_29_0 (h1.ev rfl)) ?_
    refine Tr.va rfl (fun _ _ h1 h2 => run_load1 ag_4 (h1.ev rfl) (rdb h2 (vs := [(.bool p1.Flip), (iv p1.Quarters), (iv p1.At.X), (iv p1.At.Y)]) (k := 2) rfl 0) rfl) ?_
    refine Tr.va rfl (fun _ _ h1 h2 => run_fieldAddr fo_29_1 (h1.ev rfl)) ?_
    refine Tr.va rfl (fun _ _ h1 h2 => run_load1 ag_3 (h1.ev rfl) (rdb h2 (vs := [(.bool p1.Flip), (iv p1.Quarters), (iv p1.At.X), (iv p1.At.Y)]) (k := 2) rfl 1) rfl) ?_
    refine Tr.va rfl (fun _ _ h1 h2 => run_loadN (cs := [(iv y105.1.X), (iv y105.1.Y)]) ag_27 sz_27 (h1.ev rfl) (CellsAt.take (rdb h2 (vs := [(iv y105.1.X), (iv y105.1.Y)]) (k := 4) rfl 0) 2) rfl) ?_
    refine Tr.build (vs := [(0, (.bool p1.Flip)), (1, (iv p1.Quarters)), (2, (.agg #[(iv y105.1.X), (iv y105.1.Y)]))]) (cs := [(.bool p1.Flip), (iv p1.Quarters), (iv y105.1.X), (iv y105.1.Y)]) (wn rfl) rfl (evs_cons rfl (evs_cons rfl (evs_cons rfl evs_nil))) (by kernel_rfl) ?_
    refine Tr.alloc 5 (wn rfl) rfl ze_29 fun b107 => ?_
    refine Tr.store 5 (cs := [(.bool p1.Flip), (iv p1.Quarters), (iv y105.1.X), (iv y105.1.Y)]) [(.bool p1.Flip), (iv p1.Quarters), (iv y105.1.X), (iv y105.1.Y)] (wn rfl) rfl rfl rfl rfl sz_29 rfl rfl rfl ?_
    refine Tr.nil (Tr.normThen ?_)
    refine Tr.sr ?_
    refine Tr.va rfl (fun _ _ h1 h2 => run_fieldAddr fo_29_0 (h1.ev rfl)) ?_
    refine Tr.va rfl (fun _ _ h1 h2 => run_load1 ag_4 (h1.ev rfl) (rdb h2 (vs := [(.bool p1.Flip), (iv p1.Quarters), (iv p1.At.X), (iv p1.At.Y)]) (k := 2) rfl 0) rfl) ?_
    refine Tr.va rfl (fun _ _ h1 h2 => run_fieldAddr fo_29_1 (h1.ev rfl)) ?_
    refine Tr.va rfl (fun _ _ h1 h2 => run_load1 ag_3 (h1.ev rfl) (rdb h2 (vs := [(.bool p1.Flip), (iv p1.Quarters), (iv p1.At.X), (iv p1.At.Y)]) (k := 2) rfl 1) rfl) ?_
    refine Tr.build (vs := [(0, (.bool p1.Flip)), (1, (iv p1.Quarters))]) (cs := [(.bool p1.Flip), (iv p1.Quarters), (iv 0), (iv 0)]) (wn rfl) rfl (evs_cons rfl (evs_cons rfl evs_nil)) (by kernel_rfl) ?_
    refine Tr.alloc 6 (wn rfl) rfl ze_29 fun b108 => ?_
    refine Tr.store 6 (cs := [(.bool p1.Flip), (iv p1.Quarters), (iv 0), (iv 0)]) [(.bool p1.Flip), (iv p1.Quarters), (iv 0), (iv 0)] (wn rfl) rfl rfl rfl rfl sz_29 rfl rfl rfl ?_
    refine Tr.nil (Tr.normThen ?_)
    refine Tr.sr ?_
    refine Tr.va rfl (fun _ _ h1 h2 => run_fieldAddr fo_25_0 (h1.ev rfl)) ?_
    refine Tr.va rfl (fun _ _ h1 h2 => run_load1 ag_3 (h1.ev rfl) (rdb h2 (vs := [(iv p0.Unit), (.slice Ap0_0 (p0.Tools).length cp0_0), (.slice Ap0_1 (p0.Steps).length cp0_1)]) (k := 1) rfl 0) rfl) ?_
    refine Tr.build (vs := [(0, (iv p0.Unit))]) (cs := [(iv p0.Unit), (.slice none 0 0), (.slice none 0 0)]) (wn rfl) rfl (evs_cons rfl evs_nil) (by kernel_rfl) ?_
    refine Tr.alloc 7 (wn rfl) rfl ze_25 fun b109 => ?_
    refine Tr.store 7 (cs := [(iv p0.Unit), (.slice none 0 0), (.slice none 0 0)]) [(iv p0.Unit), (.slice none 0 0), (.slice none 0 0)] (wn rfl) rfl rfl rfl rfl sz_25 rfl rfl rfl ?_
    refine Tr.nil (Tr.normThen ?_)
    refine Tr.seq ?_
    refine Tr.sr ?_
    refine Tr.asg rfl rfl ?_
    refine Tr.nil (Tr.normThen ?_)
    refine Tr.block ?_
    refine Tr.nilOwn 32 62 fl_TPlotTool ?_
    refine Tr.loop (σ := (List TPlotTool) × Int × (Option Addr) × Nat) (fun m w s => F_etchhouseref3_TurnedPlot_L3 N p0 p1 y105 m s.1 s.2.1 = some r ∧ SlF s.2.2.1 (s.1).length s.2.2.2) (fun s => [(2, (.pointer (some ⟨b100, 0, none⟩))), (4, (.pointer (some ⟨b102, 0, none⟩))), (10, (.pointer (some ⟨b107, 0, none⟩))), (11, (.pointer (some ⟨b108, 0, none⟩))), (12, (.pointer (some ⟨b109, 0, none⟩))), (13, (iv s.2.1))]) (fun s => [(1, bx b100 #[(iv p0.Unit), (.slice Ap0_0 (p0.Tools).length cp0_0), (.slice Ap0_1 (p0.Steps).length cp0_1)] 25), (3, bx b102 #[(iv 0), (.slice none 0 0), (.slice none 0 0)] 25), (5, bx b107 #[(.bool p1.Flip), (iv p1.Quarters), (iv y105.1.X), (iv y105.1.Y)] 29), (6, bx b108 #[(.bool p1.Flip), (iv p1.Quarters), (iv 0), (iv 0)] 29), (7, bx b109 #[(iv p0.Unit), (.slice s.2.2.1 (s.1).length s.2.2.2), (.slice none 0 0)] 25), (32, ow s.2.2.1 s.2.2.2 62 fl_TPlotTool s.1)]) N (([] : List TPlotTool), 0, none, 0) ⟨H, slf_nil⟩ (.cons rfl (.cons rfl (.cons rfl (.cons rfl (.cons rfl (.cons rfl .nil)))))) (.cons rfl (.cons rfl (.cons rfl (.cons rfl (.cons rfl (.cons rfl .nil)))))) (fun _ _ h => noSome (h.1)) ?_
    intro w leL3 mL3 s hs
    obtain ⟨l194, x195, Al194, cl194⟩ := s
    obtain ⟨H, hl194⟩ := hs
    replace H : F_etchhouseref3_TurnedPlot_L3 N p0 p1 y105 (mL3 + 1) l194 x195 = some r := H
    replace hp0_0 := hp0_0.leR leL3
    replace hp0_1 := hp0_1.le leL3
    replace leB := leB.trans leL3
    replace hl194 : SlF Al194 (l194).length cl194 := hl194
    rw [F_etchhouseref3_TurnedPlot_L3.eq_2] at H
    show Tr _ _ (LF [(2, (.pointer (some ⟨b100, 0, none⟩))), (4, (.pointer (some ⟨b102, 0, none⟩))), (10, (.pointer (some ⟨b107, 0, none⟩))), (11, (.pointer (some ⟨b108, 0, none⟩))), (12, (.pointer (some ⟨b109, 0, none⟩))), (13, (iv x195))]) (LE [(1, bx b100 #[(iv p0.Unit), (.slice Ap0_0 (p0.Tools).length cp0_0), (.slice Ap0_1 (p0.Steps).length cp0_1)] 25), (3, bx b102 #[(iv 0), (.slice none 0 0), (.slice none 0 0)] 25), (5, bx b107 #[(.bool p1.Flip), (iv p1.Quarters), (iv y105.1.X), (iv y105.1.Y)] 29), (6, bx b108 #[(.bool p1.Flip), (iv p1.Quarters), (iv 0), (iv 0)] 29), (7, bx b109 #[(iv p0.Unit), (.slice Al194 (l194).length cl194), (.slice none 0 0)] 25), (32, ow Al194 cl194 62 fl_TPlotTool l194)]) _
    refine Tr.seq ?_
    refine Tr.sr ?_
    refine Tr.mv rfl rfl ?_
    refine Tr.va rfl (fun _ _ h1 h2 => run_fieldAddr fo_25_1 (h1.ev rfl)) ?_
    refine Tr.va rfl (fun _ _ h1 h2 => run_load1 ag_22 (h1.ev rfl) (rdb h2 (vs := [(iv p0.Unit), (.slice Ap0_0 (p0.Tools).length cp0_0), (.slice Ap0_1 (p0.Steps).length cp0_1)]) (k := 1) rfl 1) rfl) ?_
    refine Tr.va rfl (fun _ _ h1 h2 => run_len un_22 (h1.ev rfl)) ?_
    refine Tr.va rfl (fun _ _ h1 h2 => run_lss (h1.ev rfl) (h1.ev rfl)) ?_
    refine Tr.nil (Tr.normThen ?_)
    refine Tr.cond rfl H (fun H => ?_) (fun H => ?_)
    ·refine Tr.skip (Tr.normThen ?_)
     refine Tr.seq ?_
     refine Tr.block ?_
     refine Tr.sr ?_
     refine Tr.va rfl (fun _ _ h1 h2 => run_fieldAddr fo_25_1 (h1.ev rfl)) ?_
     refine Tr.va rfl (fun _ _ h1 h2 => run_load1 ag_22 (h1.ev rfl) (rdb h2 (vs := [(iv p0.Unit), (.slice Ap0_0 (p0.Tools).length cp0_0), (.slice Ap0_1 (p0.Steps).length cp0_1)]) (k := 1) rfl 1) rfl) ?_
     refine Tr.mv rfl rfl ?_
     obtain ⟨x196, hx196, H⟩ := bnd H
     obtain ⟨hx1960, hx1961, hx1962⟩ := idx_some hx196
     obtain ⟨u197, hRu197, hoku197, hcu197⟩ := (hp0_0).el hx1962
     obtain ⟨Au197_0, cu197_0⟩ := u197
     have hoku197_0 := hoku197
     replace hoku197_0 : Sl w.R w.W fl_TRect Au197_0 cu197_0 x196.Rects := hoku197_0
     refine Tr.va rfl (fun _ _ h1 h2 => run_indexAddr el_22 (h1.ev rfl) hp0_0.form (h1.ev rfl) hx1960 hx1961) ?_
     refine Tr.va rfl (fun _ _ h1 h2 => run_fieldAddr fo_62_0 (h1.ev rfl)) ?_
     refine Tr.va rfl (fun _ _ h1 h2 => run_load1 ag_9 (h1.ev rfl) (CellsAt.drop (rdR hRu197 hcu197 h2) 0) rfl) ?_
     refine Tr.build (vs := [(0, (sv x196.Name))]) (cs := [(sv x196.Name), (.slice none 0 0)]) (wn rfl) rfl (evs_cons rfl evs_nil) (by kernel_rfl) ?_
     refine Tr.alloc 33 (wn rfl) rfl ze_62 fun b198 => ?_
     refine Tr.store 33 (cs := [(sv x196.Name), (.slice none 0 0)]) [(sv x196.Name), (.slice none 0 0)] (wn rfl) rfl rfl rfl rfl sz_62 rfl rfl rfl ?_
     refine Tr.nil (Tr.normThen ?_)
     refine Tr.seq ?_
     refine Tr.sr ?_
     refine Tr.asg rfl rfl ?_
     refine Tr.nil (Tr.normThen ?_)
     refine Tr.block ?_
     refine Tr.nilOwn 40 57 fl_TRect ?_
     refine Tr.loop (σ := (List TRect) × Int × (Option Addr) × Nat) (fun m w s => F_etchhouseref3_TurnedPlot_L4 N p0 p1 l194 x195 (F_etchhouseref3_TurnedPlot_L3 N p0 p1 y105 mL3) x196 m s.1 s.2.1 = some r ∧ SlF s.2.2.1 (s.1).length s.2.2.2) (fun s => [(2, (.pointer (some ⟨b100, 0, none⟩))), (4, (.pointer (some ⟨b102, 0, none⟩))), (10, (.pointer (some ⟨b107, 0, none⟩))), (11, (.pointer (some ⟨b108, 0, none⟩))), (12, (.pointer (some ⟨b109, 0, none⟩))), (13, (iv x195)), (14, (.pointer (some ⟨b198, 0, none⟩))), (15, (iv s.2.1))]) (fun s => [(1, bx b100 #[(iv p0.Unit), (.slice Ap0_0 (p0.Tools).length cp0_0), (.slice Ap0_1 (p0.Steps).length cp0_1)] 25), (3, bx b102 #[(iv 0), (.slice none 0 0), (.slice none 0 0)] 25), (5, bx b107 #[(.bool p1.Flip), (iv p1.Quarters), (iv y105.1.X), (iv y105.1.Y)] 29), (6, bx b108 #[(.bool p1.Flip), (iv p1.Quarters), (iv 0), (iv 0)] 29), (7, bx b109 #[(iv p0.Unit), (.slice Al194 (l194).length cl194), (.slice none 0 0)] 25), (32, ow Al194 cl194 62 fl_TPlotTool l194), (33, bx b198 #[(sv x196.Name), (.slice s.2.2.1 (s.1).length s.2.2.2)] 62), (40, ow s.2.2.1 s.2.2.2 57 fl_TRect s.1)]) N (([] : List TRect), 0, none, 0) ⟨H, slf_nil⟩ (.cons rfl (.cons rfl (.cons rfl (.cons rfl (.cons rfl (.cons rfl (.cons rfl (.cons rfl .nil)))))))) (.cons rfl (.cons rfl (.cons rfl (.cons rfl (.cons rfl (.cons rfl (.cons rfl (.cons rfl .nil)))))))) (fun _ _ h => noSome (h.1)) ?_
     intro w leL4 mL4 s hs
     obtain ⟨l221, x222, Al221, cl221⟩ := s
     obtain ⟨H, hl221⟩ := hs
     replace H : F_etchhouseref3_TurnedPlot_L4 N p0 p1 l194 x195 (F_etchhouseref3_TurnedPlot_L3 N p0 p1 y105 mL3) x196 (mL4 + 1) l221 x222 = some r := H
     replace hp0_0 := hp0_0.leR leL4
     replace hp0_1 := hp0_1.le leL4
     replace leB := leB.trans leL4
     replace leL3 := leL3.trans leL4
     replace hl221 : SlF Al221 (l221).length cl221 := hl221
     rw [F_etchhouseref3_TurnedPlot_L4.eq_2] at H
     show Tr _ _ (LF [(2, (.pointer (some ⟨b100, 0, none⟩))), (4, (.pointer (some ⟨b102, 0, none⟩))), (10, (.pointer (some ⟨b107, 0, none⟩))), (11, (.pointer (some ⟨b108, 0, none⟩))), (12, (.pointer (some ⟨b109, 0, none⟩))), (13, (iv x195)), (14, (.pointer (some ⟨b198, 0, none⟩))), (15, (iv x222))]) (LE [(1, bx b100 #[(iv p0.Unit), (.slice Ap0_0 (p0.Tools).length cp0_0), (.slice Ap0_1 (p0.Steps).length cp0_1)] 25), (3, bx b102 #[(iv 0), (.slice none 0 0), (.slice none 0 0)] 25), (5, bx b107 #[(.bool p1.Flip), (iv p1.Quarters), (iv y105.1.X), (iv y105.1.Y)] 29), (6, bx b108 #[(.bool p1.Flip), (iv p1.Quarters), (iv 0), (iv 0)] 29), (7, bx b109 #[(iv p0.Unit), (.slice Al194 (l194).length cl194), (.slice none 0 0)] 25), (32, ow Al194 cl194 62 fl_TPlotTool l194), (33, bx b198 #[(sv x196.Name), (.slice Al221 (l221).length cl221)] 62), (40, ow Al221 cl221 57 fl_TRect l221)]) _
     refine Tr.seq ?_
     refine Tr.sr ?_
     refine Tr.mv rfl rfl ?_
     refine Tr.va rfl (fun _ _ h1 h2 => run_fieldAddr fo_25_1 (h1.ev rfl)) ?_
     refine Tr.va rfl (fun _ _ h1 h2 => run_load1 ag_22 (h1.ev rfl) (rdb h2 (vs := [(iv p0.Unit), (.slice Ap0_0 (p0.Tools).length cp0_0), (.slice Ap0_1 (p0.Steps).length cp0_1)]) (k := 1) rfl 1) rfl) ?_
     refine Tr.mv rfl rfl ?_
     obtain ⟨x223, hx223, H⟩ := bnd H
     obtain ⟨hx2230, hx2231, hx2232⟩ := idx_some hx223
     obtain ⟨u224, hRu224, hoku224, hcu224⟩ := (hp0_0).el hx2232
     obtain ⟨Au224_0, cu224_0⟩ := u224
     have hoku224_0 := hoku224
     replace hoku224_0 : Sl w.R w.W fl_TRect Au224_0 cu224_0 x223.Rects := hoku224_0
     refine Tr.va rfl (fun _ _ h1 h2 => run_indexAddr el_22 (h1.ev rfl) hp0_0.form (h1.ev rfl) hx2230 hx2231) ?_
     refine Tr.va rfl (fun _ _ h1 h2 => run_fieldAddr fo_62_1 (h1.ev rfl)) ?_
     refine Tr.va rfl (fun _ _ h1 h2 => run_load1 ag_60 (h1.ev rfl) (CellsAt.drop (rdR hRu224 hcu224 h2) 1) rfl) ?_
     refine Tr.va rfl (fun _ _ h1 h2 => run_len un_60 (h1.ev rfl)) ?_
     refine Tr.va rfl (fun _ _ h1 h2 => run_lss (h1.ev rfl) (h1.ev rfl)) ?_
     refine Tr.nil (Tr.normThen ?_)
     refine Tr.cond rfl H (fun H => ?_) (fun H => ?_)
     ·refine Tr.skip (Tr.normThen ?_)
      refine Tr.seq ?_
      refine Tr.block ?_
      obtain ⟨x226, hx226, H⟩ := bnd H
      obtain ⟨hx2260, hx2261, hx2262⟩ := idx_some hx226
      obtain ⟨u227, hRu227, hoku227, hcu227⟩ := (hp0_0).el hx2262
      obtain ⟨Au227_0, cu227_0⟩ := u227
      obtain ⟨x228, hx228, H⟩ := bnd H
      obtain ⟨hx2280, hx2281, hx2282⟩ := idx_some hx228
      obtain ⟨y229, hy229, H⟩ := bnd H
      refine Tr.drawF 14 [(13, .makeFunc (.func 0) #[] #[.tmp 93])] [(13, ⟨94, 41, (.func (.func 0) #[] #[(.agg #[(iv y229.X0), (iv y229.Y0), (iv y229.X1), (iv y229.Y1)])]), fun b => .slice (some ⟨b, 0, none⟩) 1 1, fun b => bx b #[(iv y229.X0), (iv y229.Y0), (iv y229.X1), (iv y229.Y1)] 57⟩)] [(2, (.pointer (some ⟨b100, 0, none⟩))), (4, (.pointer (some ⟨b102, 0, none⟩))), (10, (.pointer (some ⟨b107, 0, none⟩))), (11, (.pointer (some ⟨b108, 0, none⟩))), (12, (.pointer (some ⟨b109, 0, none⟩))), (13, (iv x195)), (14, (.pointer (some ⟨b198, 0, none⟩))), (15, (iv x222)), (70, (iv x222)), (71, (.pointer (some ⟨b100, 1, none⟩))), (72, (.slice Ap0_0 (p0.Tools).length cp0_0)), (73, (iv x195)), (74, (.pointer (some ⟨adB Ap0_0, adO Ap0_0 + (x195).toNat * 2, none⟩))), (75, (.pointer (some ⟨adB Ap0_0, adO Ap0_0 + (x195).toNat * 2 + 1, none⟩))), (76, (.slice Au224_0 (x223.Rects).length cu224_0)), (77, (iv (x223.Rects.length : Int))), (78, (.bool (decide (x222 < (x223.Rects.length : Int))))), (81, (.pointer (some ⟨b198, 1, none⟩))), (82, (.slice Al221 (l221).length cl221)), (83, (.pointer (some ⟨b100, 1, none⟩))), (84, (.slice Ap0_0 (p0.Tools).length cp0_0)), (85, (iv x195)), (86, (.pointer (some ⟨adB Ap0_0, adO Ap0_0 + (x195).toNat * 2, none⟩))), (87, (.pointer (some ⟨adB Ap0_0, adO Ap0_0 + (x195).toNat * 2 + 1, none⟩))), (88, (.slice Au227_0 (x226.Rects).length cu227_0)), (89, (iv x222)), (90, (.pointer (some ⟨adB Au227_0, adO Au227_0 + (x222).toNat * 4, none⟩))), (91, (.agg #[(iv x228.X0), (iv x228.Y0), (iv x228.X1), (iv x228.Y1)])), (92, (.agg #[(.bool p1.Flip), (iv p1.Quarters), (iv 0), (iv 0)])), (93, (.agg #[(iv y229.X0), (iv y229.Y0), (iv y229.X1), (iv y229.Y1)])), (94, (.func (.func 0) #[] #[(.agg #[(iv y229.X0), (iv y229.Y0), (iv y229.X1), (iv y229.Y1)])]))] (by kernel_rfl) (by kernel_rfl) (by kernel_rfl) (by kernel_rfl) (by kernel_rfl) (by kernel_rfl) (by kernel_rfl) (fall_cons (fr_lit (vs := [(0, (.agg #[(iv y229.X0), (iv y229.Y0), (iv y229.X1), (iv y229.Y1)]))]) rfl rfl rfl (by kernel_rfl)) fall_nil) (fall_cons rfl fall_nil) (fall_cons rfl fall_nil) ?_ ?_
      ·refine Tq.va rfl (fun _ _ h1 h2 => run_fieldAddr fo_62_1 (h1.ev rfl)) ?_
       refine Tq.va rfl (fun _ _ h1 h2 => run_load1 ag_60 (h1.ev rfl) (rdb h2 (vs := [(sv x196.Name), (.slice Al221 (l221).length cl221)]) (k := 33) rfl 1) rfl) ?_
       refine Tq.va rfl (fun _ _ h1 h2 => run_fieldAddr fo_25_1 (h1.ev rfl)) ?_
       refine Tq.va rfl (fun _ _ h1 h2 => run_load1 ag_22 (h1.ev rfl) (rdb h2 (vs := [(iv p0.Unit), (.slice Ap0_0 (p0.Tools).length cp0_0), (.slice Ap0_1 (p0.Steps).length cp0_1)]) (k := 1) rfl 1) rfl) ?_
       refine Tq.mv rfl rfl ?_
       have hoku227_0 := hoku227
       replace hoku227_0 : Sl w.R w.W fl_TRect Au227_0 cu227_0 x226.Rects := hoku227_0
       refine Tq.va rfl (fun _ _ h1 h2 => run_indexAddr el_22 (h1.ev rfl) hp0_0.form (h1.ev rfl) hx2260 hx2261) ?_
       refine Tq.va rfl (fun _ _ h1 h2 => run_fieldAddr fo_62_1 (h1.ev rfl)) ?_
       refine Tq.va rfl (fun _ _ h1 h2 => run_load1 ag_60 (h1.ev rfl) (CellsAt.drop (rdR hRu227 hcu227 h2) 1) rfl) ?_
       refine Tq.mv rfl rfl ?_
       refine Tq.va rfl (fun _ _ h1 h2 => run_indexAddr el_60 (h1.ev rfl) hoku227_0.form (h1.ev rfl) hx2280 hx2281) ?_
       refine Tq.va rfl (fun _ _ h1 h2 => run_loadN (cs := [(iv x228.X0), (iv x228.Y0), (iv x228.X1), (iv x228.Y1)]) ag_57 sz_57 (h1.ev rfl) (CellsAt.take (rdF ef_TRect hoku227_0 hx2282 h2) 4) rfl) ?_
       refine Tq.va rfl (fun _ _ h1 h2 => run_loadN (cs := [(.bool p1.Flip), (iv p1.Quarters), (iv 0), (iv 0)]) ag_29 sz_29 (h1.ev rfl) (CellsAt.take (rdb h2 (vs := [(.bool p1.Flip), (iv p1.Quarters), (iv 0), (iv 0)]) (k := 6) rfl 0) 4) rfl) ?_
       refine Tq.call0 (r := (.agg #[(iv y229.X0), (iv y229.Y0), (iv y229.X1), (iv y229.Y1)])) (wn rfl) rfl Tryd.call29 (evl_cons rfl (evl_cons rfl evl_nil)) (fun W hW => F_etchhouseref1_TurnRect_ok N x228 (TTurn.mk p1.Flip p1.Quarters (TPoint.mk 0 0)) y229 hy229 (HF.start _)) ?_
       refine Tq.mkFunc (vs := [(.agg #[(iv y229.X0), (iv y229.Y0), (iv y229.X1), (iv y229.Y1)])]) (wn rfl) rfl (evl_cons rfl evl_nil) ?_
       exact Tq.fin (.cons rfl (.cons rfl (.cons rfl (.cons rfl (.cons rfl (.cons rfl (.cons rfl (.cons rfl (.cons rfl (.cons rfl (.cons rfl (.cons rfl (.cons rfl (.cons rfl (.cons rfl (.cons rfl (.cons rfl (.cons rfl (.cons rfl (.cons rfl (.cons rfl (.cons rfl (.cons rfl (.cons rfl (.cons rfl (.cons rfl (.cons rfl (.cons rfl (.cons rfl (.cons rfl (.cons rfl .nil)))))))))))))))))))))))))))))))
      ·intro bs225
       refine Tr.sel (lf := [(2, (.pointer (some ⟨b100, 0, none⟩))), (4, (.pointer (some ⟨b102, 0, none⟩))), (10, (.pointer (some ⟨b107, 0, none⟩))), (11, (.pointer (some ⟨b108, 0, none⟩))), (12, (.pointer (some ⟨b109, 0, none⟩))), (13, (iv x195)), (14, (.pointer (some ⟨b198, 0, none⟩))), (15, (iv x222)), (82, (.slice Al221 (l221).length cl221)), (94, (.slice (some ⟨(bs225 13), 0, none⟩) 1 1))]) (le := [(1, bx b100 #[(iv p0.Unit), (.slice Ap0_0 (p0.Tools).length cp0_0), (.slice Ap0_1 (p0.Steps).length cp0_1)] 25), (3, bx b102 #[(iv 0), (.slice none 0 0), (.slice none 0 0)] 25), (5, bx b107 #[(.bool p1.Flip), (iv p1.Quarters), (iv y105.1.X), (iv y105.1.Y)] 29), (6, bx b108 #[(.bool p1.Flip), (iv p1.Quarters), (iv 0), (iv 0)] 29), (7, bx b109 #[(iv p0.Unit), (.slice Al194 (l194).length cl194), (.slice none 0 0)] 25), (32, ow Al194 cl194 62 fl_TPlotTool l194), (33, bx b198 #[(sv x196.Name), (.slice Al221 (l221).length cl221)] 62), (40, ow Al221 cl221 57 fl_TRect l221), (41, bx (bs225 13) #[(iv y229.X0), (iv y229.Y0), (iv y229.X1), (iv y229.Y1)] 57)]) (.cons rfl (.cons rfl (.cons rfl (.cons rfl (.cons rfl (.cons rfl (.cons rfl (.cons rfl (.cons rfl (.cons rfl .nil)))))))))) (.cons rfl (.cons rfl (.cons rfl (.cons rfl (.cons rfl (.cons rfl (.cons rfl (.cons rfl (.cons rfl .nil))))))))) ?_
       obtain ⟨l230, hl230, H⟩ := bnd H
       refine Tr.append 40 (t := fl_TRect) (l := l221) (l2 := [y229]) (wn rfl) rfl rfl rfl rfl (fun W hW => ⟨[[(iv y229.X0), (iv y229.Y0), (iv y229.X1), (iv y229.Y1)]], (.cons ⟨(), trivial, rfl⟩ .nil), rdb hW (vs := [(iv y229.X0), (iv y229.Y0), (iv y229.X1), (iv y229.Y1)]) (k := 41) rfl 0⟩) un_60 sz_57 zl_57 (by decide) by_57 rfl hl230 fun Al230 cl230 hAl230 => ?_
       refine Tr.va rfl (fun _ _ h1 h2 => run_fieldAddr fo_62_1 (h1.ev rfl)) ?_
       refine Tr.store 33 (cs := [(.slice Al230 (l230).length cl230)]) [(sv x196.Name), (.slice Al230 (l230).length cl230)] (wn rfl) rfl rfl rfl rfl sz_60 rfl rfl rfl ?_
       refine Tr.nil (Tr.normBlock (Tr.normThen ?_))
       refine Tr.region ?_
       refine Tr.mv rfl rfl ?_
       refine Tr.va rfl (fun _ _ h1 h2 => run_add (h1.ev rfl) (h1.ev rfl)) ?_
       refine Tr.asg rfl rfl ?_
       refine Tr.nil ?_
       exact Tr.backThen leL4 (l230, (w64 (x222 + 1)), Al230, cl230) ⟨H, hAl230⟩ (.cons rfl (.cons rfl (.cons rfl (.cons rfl (.cons rfl (.cons rfl (.cons rfl (.cons rfl .nil)))))))) (.cons rfl (.cons rfl (.cons rfl (.cons rfl (.cons rfl (.cons rfl (.cons rfl (.cons rfl .nil))))))))
     ·refine Tr.exit (Tr.exitThen (Tr.exitThen (Tr.exitBlock (Tr.normThen ?_))))
      refine Tr.region ?_
      refine Tr.va rfl (fun _ _ h1 h2 => run_fieldAddr fo_25_1 (h1.ev rfl)) ?_
      refine Tr.va rfl (fun _ _ h1 h2 => run_load1 ag_22 (h1.ev rfl) (rdb h2 (vs := [(iv p0.Unit), (.slice Al194 (l194).length cl194), (.slice none 0 0)]) (k := 7) rfl 1) rfl) ?_
      refine Tr.va rfl (fun _ _ h1 h2 => run_loadN (cs := [(sv x196.Name), (.slice Al221 (l221).length cl221)]) ag_62 sz_62 (h1.ev rfl) (CellsAt.take (rdb h2 (vs := [(sv x196.Name), (.slice Al221 (l221).length cl221)]) (k := 33) rfl 0) 2) rfl) ?_
      refine Tr.freeze 40 rfl fun w le232 hz231 => ?_
      replace hp0_0 := hp0_0.leR le232
      replace hp0_1 := hp0_1.le le232
      replace hcu224 := le232.ext.cells hRu224 hcu224
      replace hRu224 := le232.r _ hRu224
      replace hoku224_0 := hoku224_0.leR le232
      replace leB := leB.trans le232
      replace leL3 := leL3.trans le232
      replace leL4 := leL4.trans le232
      refine Tr.buildSlice 42 (e := 62) (vs := [(0, (.agg #[(sv x196.Name), (.slice Al221 (l221).length cl221)]))]) (cs := [(sv x196.Name), (.slice Al221 (l221).length cl221)]) (wn rfl) rfl (evs_cons rfl evs_nil) (by kernel_rfl) fun b233 => ?_
      obtain ⟨l234, hl234, H⟩ := bnd H
      refine Tr.append 32 (t := fl_TPlotTool) (l := l194) (l2 := [(TPlotTool.mk x196.Name l221)]) (wn rfl) rfl rfl rfl rfl (fun W hW => ⟨[[(sv x196.Name), (.slice Al221 (l221).length cl221)]], (.cons ⟨(Al221, cl221), hz231, rfl⟩ .nil), rdb hW (vs := [(sv x196.Name), (.slice Al221 (l221).length cl221)]) (k := 42) rfl 0⟩) un_22 sz_62 zl_62 (by decide) by_62 rfl hl234 fun Al234 cl234 hAl234 => ?_
      refine Tr.va rfl (fun _ _ h1 h2 => run_fieldAddr fo_25_1 (h1.ev rfl)) ?_
      refine Tr.store 7 (cs := [(.slice Al234 (l234).length cl234)]) [(iv p0.Unit), (.slice Al234 (l234).length cl234), (.slice none 0 0)] (wn rfl) rfl rfl rfl rfl sz_22 rfl rfl rfl ?_
      refine Tr.nil (Tr.normBlock (Tr.normThen ?_))
      refine Tr.region ?_
      refine Tr.mv rfl rfl ?_
      refine Tr.va rfl (fun _ _ h1 h2 => run_add (h1.ev rfl) (h1.ev rfl)) ?_
      refine Tr.asg rfl rfl ?_
      refine Tr.nil ?_
      exact Tr.backThen leL3 (l234, (w64 (x195 + 1)), Al234, cl234) ⟨H, hAl234⟩ (.cons rfl (.cons rfl (.cons rfl (.cons rfl (.cons rfl (.cons rfl .nil)))))) (.cons rfl (.cons rfl (.cons rfl (.cons rfl (.cons rfl (.cons rfl .nil))))))
    ·refine Tr.exit (Tr.exitThen (Tr.exitThen (Tr.exitBlock (Tr.normThen ?_))))
     refine Tr.sr ?_
     refine Tr.va rfl (fun _ _ h1 h2 => run_fieldAddr fo_25_2 (h1.ev rfl)) ?_
     refine Tr.va rfl (fun _ _ h1 h2 => run_load1 ag_23 (h1.ev rfl) (rdb h2 (vs := [(iv p0.Unit), (.slice Ap0_0 (p0.Tools).length cp0_0), (.slice Ap0_1 (p0.Steps).length cp0_1)]) (k := 1) rfl 2) rfl) ?_
     refine Tr.build (vs := []) (cs := [(iv 0), (iv 0)]) (wn rfl) rfl evs_nil (by kernel_rfl) ?_
     obtain ⟨y235, hy235, H⟩ := bnd H
     refine Tr.callG [43] [emp] (U := (Option Addr × Nat × List (DE fl_TPlotStep))) (fun u => (.slice u.1 (y235).length u.2.1)) (fun O W u => (DC u.2.2 y235 ∧ SlF u.1 (y235).length u.2.1)) (fun u => [dq u.1 (y235).length u.2.1 46 27 ln_TPlotStep u.2.2]) rfl (pk_cons rfl pk_nil) (fun _ => rfl) (wn rfl) rfl Tryd.call30 (evl_cons rfl (evl_cons rfl evl_nil)) (fun W hW hp hE => F_etchhouseref3_flat_ok N p0.Steps Ap0_1 cp0_1 (hp0_1.extO (hW.extS hp)) (TPoint.mk 0 0) y235 hy235 hE) ?_
     intro w u le236 hu
     obtain ⟨Ay235_0, cy235_0, Dy235_0⟩ := u
     have gy235_0 := hu
     replace hp0_0 := hp0_0.leR le236
     replace hp0_1 := hp0_1.le le236
     replace leB := leB.trans le236
     replace leL3 := leL3.trans le236
     have hgy235_0 : (DC Dy235_0 y235 ∧ SlF Ay235_0 (y235).length cy235_0) := gy235_0 --@phi
     show Tr _ _ (uf _ 106 (.slice Ay235_0 (y235).length cy235_0)) (up _ 43 (dq Ay235_0 (y235).length cy235_0 46 27 ln_TPlotStep Dy235_0)) _
     refine Tr.asg rfl rfl ?_
     refine Tr.nil (Tr.normThen ?_)
     refine Tr.seq ?_
     refine Tr.sr ?_
     refine Tr.asg rfl rfl ?_
     refine Tr.nil (Tr.normThen ?_)
     refine Tr.block ?_
     refine Tr.loop (σ := (List TPlotStep) × Int × (Option Addr) × Nat × (List (DE fl_TPlotStep))) (fun m w s => F_etchhouseref3_TurnedPlot_L9 N p0 p1 y105 l194 m s.1 s.2.1 = some r ∧ (DC s.2.2.2.2 s.1 ∧ SlF s.2.2.1 (s.1).length s.2.2.2.1)) (fun s => [(4, (.pointer (some ⟨b102, 0, none⟩))), (10, (.pointer (some ⟨b107, 0, none⟩))), (12, (.pointer (some ⟨b109, 0, none⟩))), (16, (.slice s.2.2.1 (s.1).length s.2.2.2.1)), (17, (iv s.2.1))]) (fun s => [(3, bx b102 #[(iv 0), (.slice none 0 0), (.slice none 0 0)] 25), (5, bx b107 #[(.bool p1.Flip), (iv p1.Quarters), (iv y105.1.X), (iv y105.1.Y)] 29), (7, bx b109 #[(iv p0.Unit), (.slice Al194 (l194).length cl194), (.slice none 0 0)] 25), (32, ow Al194 cl194 62 fl_TPlotTool l194), (43, dq s.2.2.1 (s.1).length s.2.2.2.1 46 27 ln_TPlotStep s.2.2.2.2)]) N (y235, 0, Ay235_0, cy235_0, Dy235_0) ⟨H, ⟨hgy235_0.1, hgy235_0.2⟩⟩ (.cons rfl (.cons rfl (.cons rfl (.cons rfl (.cons rfl .nil))))) (.cons rfl (.cons rfl (.cons rfl (.cons rfl (.cons rfl .nil))))) (fun _ _ h => noSome (h.1)) ?_
     intro w leL9 mL9 s hs
     obtain ⟨m339, x340, Am339, cm339, msm339⟩ := s
     obtain ⟨H, hm339⟩ := hs
     replace H : F_etchhouseref3_TurnedPlot_L9 N p0 p1 y105 l194 (mL9 + 1) m339 x340 = some r := H
     replace leB := leB.trans leL9
     replace leL3 := leL3.trans leL9
     replace hm339 : DC msm339 m339 ∧ SlF Am339 (m339).length cm339 := hm339
     rw [F_etchhouseref3_TurnedPlot_L9.eq_2] at H
     show Tr _ _ (LF [(4, (.pointer (some ⟨b102, 0, none⟩))), (10, (.pointer (some ⟨b107, 0, none⟩))), (12, (.pointer (some ⟨b109, 0, none⟩))), (16, (.slice Am339 (m339).length cm339)), (17, (iv x340))]) (LE [(3, bx b102 #[(iv 0), (.slice none 0 0), (.slice none 0 0)] 25), (5, bx b107 #[(.bool p1.Flip), (iv p1.Quarters), (iv y105.1.X), (iv y105.1.Y)] 29), (7, bx b109 #[(iv p0.Unit), (.slice Al194 (l194).length cl194), (.slice none 0 0)] 25), (32, ow Al194 cl194 62 fl_TPlotTool l194), (43, dq Am339 (m339).length cm339 46 27 ln_TPlotStep msm339)]) _
     refine Tr.seq ?_
     refine Tr.sr ?_
     refine Tr.mv rfl rfl ?_
     refine Tr.mv rfl rfl ?_
     refine Tr.va rfl (fun _ _ h1 h2 => run_len un_23 (h1.ev rfl)) ?_
     refine Tr.va rfl (fun _ _ h1 h2 => run_lss (h1.ev rfl) (h1.ev rfl)) ?_
     refine Tr.nil (Tr.normThen ?_)
     refine Tr.cond rfl H (fun H => ?_) (fun H => ?_)
     ·refine Tr.skip (Tr.normThen ?_)
      refine Tr.seq ?_
      refine Tr.block ?_
      have leJ348 := Bs.Le.refl w
      refine Tr.cutJ (σ := (List TPlotStep) × (Option Addr) × Nat × (List (DE fl_TPlotStep))) (fun w s => F_etchhouseref3_TurnedPlot_J11 N p1 y105 x340 (F_etchhouseref3_TurnedPlot_L9 N p0 p1 y105 l194 mL9) s.1 = some r ∧ (DC s.2.2.2 s.1 ∧ SlF s.2.1 (s.1).length s.2.2.1)) (fun s => [(4, (.pointer (some ⟨b102, 0, none⟩))), (10, (.pointer (some ⟨b107, 0, none⟩))), (12, (.pointer (some ⟨b109, 0, none⟩))), (16, (.slice s.2.1 (s.1).length s.2.2.1)), (17, (iv x340))]) (fun s => [(3, bx b102 #[(iv 0), (.slice none 0 0), (.slice none 0 0)] 25), (5, bx b107 #[(.bool p1.Flip), (iv p1.Quarters), (iv y105.1.X), (iv y105.1.Y)] 29), (7, bx b109 #[(iv p0.Unit), (.slice Al194 (l194).length cl194), (.slice none 0 0)] 25), (32, ow Al194 cl194 62 fl_TPlotTool l194), (43, dq s.2.1 (s.1).length s.2.2.1 46 27 ln_TPlotStep s.2.2.2)]) ?_ ?_
      ·refine Tr.sr ?_
       refine Tr.mv rfl rfl ?_
       refine Tr.mv rfl rfl ?_
       obtain ⟨x382, hx382, H⟩ := bnd H
       obtain ⟨hx3820, hx3821, hx3822⟩ := idx_some hx382
       refine Tr.dqTake 43 72 73 (i := (x340).toNat) rfl rfl rfl hx3822 rfl hm339.1 fun u383 hoku383 hfu383 hdu383 => ?_
       obtain ⟨⟨Au383_0, cu383_0⟩, ⟨Au383_1, cu383_1⟩⟩ := u383
       have hoku383_1 : Sl w.O w.W fl_TPlotStep Au383_1 cu383_1 x382.Steps := hoku383
       replace hfu383 : SlF Au383_0 (x382.Points).length cu383_0 := hfu383
       replace hdu383 : DT msm339 m339 (x340).toNat ((Au383_0, cu383_0), (Au383_1, cu383_1)) x382 := hdu383
       show Tr _ _ _ (up (up (up _ 43 (ow Am339 cm339 46 (mix (flU ln_TPlotStep)) (mixL msm339 (x340).toNat (raw (flU ln_TPlotStep) [(iv x382.Kind), (sv x382.Name), (iv x382.At.X), (iv x382.At.Y), (.slice Au383_0 (x382.Points).length cu383_0), (iv x382.NX), (iv x382.NY), (.slice Au383_1 (x382.Steps).length cu383_1)] rfl rfl)))) 72 (ins 27 fl_TPoint ((List.set msm339 (x340).toNat ⟨((Au383_0, cu383_0), (Au383_1, cu383_1)), x382, false⟩).map (ne ln_TPlotStep)))) 73 (ow Au383_0 cu383_0 27 fl_TPoint x382.Points)) _
       refine Tr.va rfl (fun _ _ h1 h2 => run_indexAddr el_23 (h1.ev rfl) hm339.2 (h1.ev rfl) hx3820 hx3821) ?_
       refine Tr.va rfl (fun _ _ h1 h2 => run_loadN (cs := [(iv x382.Kind), (sv x382.Name), (iv x382.At.X), (iv x382.At.Y), (.slice Au383_0 (x382.Points).length cu383_0), (iv x382.NX), (iv x382.NY), (.slice Au383_1 (x382.Steps).length cu383_1)]) ag_46 sz_46 (h1.ev rfl) (CellsAt.take (rdm (cs := raw (flU ln_TPlotStep) [(iv x382.Kind), (sv x382.Name), (iv x382.At.X), (iv x382.At.Y), (.slice Au383_0 (x382.Points).length cu383_0), (iv x382.NX), (iv x382.NY), (.slice Au383_1 (x382.Steps).length cu383_1)] rfl rfl) h2 (κ := 43) rfl (hdu383.hi)) 8) rfl) ?_
       obtain ⟨y384, hy384, H⟩ := bnd H
       refine Tr.call0 (r := (.bool y384)) (wn rfl) rfl Tryd.call31 (evl_cons rfl evl_nil) (fun W hW => F_etchhouseref3_places_ok x382 Au383_0 cu383_0 (hW.slCall (k := 73) rfl) Au383_1 cu383_1 (hoku383_1.rl.ext hW.extAll) y384 hy384 (HF.start _)) ?_
       refine Tr.nil (Tr.normThen ?_)
       refine Tr.cond rfl H (fun H => ?_) (fun H => ?_)
       ·refine Tr.drawTail 9 (by kernel_rfl) (by kernel_rfl) ?_
        refine Tq.mv rfl rfl ?_
        refine Tq.mv rfl rfl ?_
        refine Tq.mv rfl rfl ?_
        refine Tq.mv rfl rfl ?_
        refine Tq.va rfl (fun _ _ h1 h2 => run_indexAddr el_23 (h1.ev rfl) hm339.2 (h1.ev rfl) hx3820 hx3821) ?_
        refine Tq.va rfl (fun _ _ h1 h2 => run_fieldAddr fo_46_2 (h1.ev rfl)) ?_
        refine Tq.va rfl (fun _ _ h1 h2 => run_loadN (cs := [(iv x382.At.X), (iv x382.At.Y)]) ag_27 sz_27 (h1.ev rfl) (CellsAt.take (CellsAt.drop (rdm (cs := raw (flU ln_TPlotStep) [(iv x382.Kind), (sv x382.Name), (iv x382.At.X), (iv x382.At.Y), (.slice Au383_0 (x382.Points).length cu383_0), (iv x382.NX), (iv x382.NY), (.slice Au383_1 (x382.Steps).length cu383_1)] rfl rfl) h2 (κ := 43) rfl (hdu383.hi)) 2) 2) rfl) ?_
        refine Tq.va rfl (fun _ _ h1 h2 => run_loadN (cs := [(.bool p1.Flip), (iv p1.Quarters), (iv y105.1.X), (iv y105.1.Y)]) ag_29 sz_29 (h1.ev rfl) (CellsAt.take (rdb h2 (vs := [(.bool p1.Flip), (iv p1.Quarters), (iv y105.1.X), (iv y105.1.Y)]) (k := 5) rfl 0) 4) rfl) ?_
        obtain ⟨y385, hy385, H⟩ := bnd H
        refine Tq.call0 (r := (.agg #[(iv y385.X), (iv y385.Y)])) (wn rfl) rfl Tryd.call32 (evl_cons rfl (evl_cons rfl evl_nil)) (fun W hW => F_etchhouseref1_TurnPoint_ok N x382.At (TTurn.mk p1.Flip p1.Quarters y105.1) y385 hy385 (HF.start _)) ?_
        refine Tq.nil ?_
        refine Tr.va rfl (fun _ _ h1 h2 => run_indexAddr el_23 (h1.ev rfl) hm339.2 (h1.ev rfl) hx3820 hx3821) ?_
        refine Tr.va rfl (fun _ _ h1 h2 => run_fieldAddr fo_46_2 (h1.ev rfl)) ?_
        refine Tr.storeMix 43 (raw (flU ln_TPlotStep) [(iv x382.Kind), (sv x382.Name), (iv y385.X), (iv y385.Y), (.slice Au383_0 (x382.Points).length cu383_0), (iv x382.NX), (iv x382.NY), (.slice Au383_1 (x382.Steps).length cu383_1)] rfl rfl) (cs := [(iv y385.X), (iv y385.Y)]) (fo := 2) (wn rfl) rfl rfl rfl rfl rfl (hdu383.hi) sz_27 rfl rfl rfl ?_
        refine Tr.nil ?_
        refine Tr.dqPut (L := ln_TPlotStep) 43 72 73 (u := ((Au383_0, cu383_0), (Au383_1, cu383_1))) (x' := (TPlotStep.mk x382.Kind x382.Name y385 x382.Points x382.NX x382.NY x382.Steps)) rfl rfl rfl rfl rfl rfl hdu383 hoku383_1 rfl rfl rfl hfu383 fun ms386 hmms386 => ?_
        have hnms386 : (List.set m339 (x340).toNat (TPlotStep.mk x382.Kind x382.Name y385 x382.Points x382.NX x382.NY x382.Steps)).length = (m339).length := List.length_set
        have hfms386 : SlF Am339 (List.set m339 (x340).toNat (TPlotStep.mk x382.Kind x382.Name y385 x382.Points x382.NX x382.NY x382.Steps)).length cm339 := by rw [hnms386]; exact hm339.2
        refine Tr.sel (lf := [(4, (.pointer (some ⟨b102, 0, none⟩))), (10, (.pointer (some ⟨b107, 0, none⟩))), (12, (.pointer (some ⟨b109, 0, none⟩))), (16, (.slice Am339 ((List.set m339 (x340).toNat (TPlotStep.mk x382.Kind x382.Name y385 x382.Points x382.NX x382.NY x382.Steps))).length cm339)), (17, (iv x340)), (107, (iv x340)), (108, (.slice Am339 ((List.set m339 (x340).toNat (TPlotStep.mk x382.Kind x382.Name y385 x382.Points x382.NX x382.NY x382.Steps))).length cm339)), (109, (iv (m339.length : Int))), (110, (.bool (decide (x340 < (m339.length : Int))))), (113, (.slice Am339 ((List.set m339 (x340).toNat (TPlotStep.mk x382.Kind x382.Name y385 x382.Points x382.NX x382.NY x382.Steps))).length cm339)), (114, (iv x340)), (117, (.bool y384)), (118, (.slice Am339 ((List.set m339 (x340).toNat (TPlotStep.mk x382.Kind x382.Name y385 x382.Points x382.NX x382.NY x382.Steps))).length cm339)), (119, (iv x340)), (120, (.slice Am339 ((List.set m339 (x340).toNat (TPlotStep.mk x382.Kind x382.Name y385 x382.Points x382.NX x382.NY x382.Steps))).length cm339)), (121, (iv x340)), (124, (.agg #[(iv x382.At.X), (iv x382.At.Y)])), (125, (.agg #[(.bool p1.Flip), (iv p1.Quarters), (iv y105.1.X), (iv y105.1.Y)])), (126, (.agg #[(iv y385.X), (iv y385.Y)]))]) (le := [(3, bx b102 #[(iv 0), (.slice none 0 0), (.slice none 0 0)] 25), (5, bx b107 #[(.bool p1.Flip), (iv p1.Quarters), (iv y105.1.X), (iv y105.1.Y)] 29), (7, bx b109 #[(iv p0.Unit), (.slice Al194 (l194).length cl194), (.slice none 0 0)] 25), (32, ow Al194 cl194 62 fl_TPlotTool l194), (43, dq Am339 ((List.set m339 (x340).toNat (TPlotStep.mk x382.Kind x382.Name y385 x382.Points x382.NX x382.NY x382.Steps))).length cm339 46 27 ln_TPlotStep ms386)]) (.cons rfl (.cons rfl (.cons rfl (.cons (slenV rfl (by rw [hnms386])) (.cons rfl (.cons rfl (.cons (slenV rfl (by rw [hnms386])) (.cons rfl (.cons rfl (.cons (slenV rfl (by rw [hnms386])) (.cons rfl (.cons rfl (.cons (slenV rfl (by rw [hnms386])) (.cons rfl (.cons (slenV rfl (by rw [hnms386])) (.cons rfl (.cons rfl (.cons rfl (.cons rfl .nil))))))))))))))))))) (.cons rfl (.cons rfl (.cons rfl (.cons rfl (.cons rfl .nil))))) ?_
        exact Tr.backThen leJ348 ((List.set m339 (x340).toNat (TPlotStep.mk x382.Kind x382.Name y385 x382.Points x382.NX x382.NY x382.Steps)), Am339, cm339, ms386) ⟨H, ⟨hmms386, hfms386⟩⟩ (.cons rfl (.cons rfl (.cons rfl (.cons rfl (.cons rfl .nil))))) (.cons rfl (.cons rfl (.cons rfl (.cons rfl (.cons rfl .nil)))))
       ·refine Tr.skip ?_
        refine Tr.dqPut (L := ln_TPlotStep) 43 72 73 (u := ((Au383_0, cu383_0), (Au383_1, cu383_1))) (x' := x382) rfl rfl rfl rfl rfl rfl hdu383 hoku383_1 rfl rfl rfl hfu383 fun ms387 hmms387 => ?_
        have hnms387 : (List.set m339 (x340).toNat x382).length = (m339).length := List.length_set
        have hfms387 : SlF Am339 (List.set m339 (x340).toNat x382).length cm339 := by rw [hnms387]; exact hm339.2
        refine Tr.sel (lf := [(4, (.pointer (some ⟨b102, 0, none⟩))), (10, (.pointer (some ⟨b107, 0, none⟩))), (12, (.pointer (some ⟨b109, 0, none⟩))), (16, (.slice Am339 ((List.set m339 (x340).toNat x382)).length cm339)), (17, (iv x340)), (107, (iv x340)), (108, (.slice Am339 ((List.set m339 (x340).toNat x382)).length cm339)), (109, (iv (m339.length : Int))), (110, (.bool (decide (x340 < (m339.length : Int))))), (113, (.slice Am339 ((List.set m339 (x340).toNat x382)).length cm339)), (114, (iv x340)), (117, (.bool y384))]) (le := [(3, bx b102 #[(iv 0), (.slice none 0 0), (.slice none 0 0)] 25), (5, bx b107 #[(.bool p1.Flip), (iv p1.Quarters), (iv y105.1.X), (iv y105.1.Y)] 29), (7, bx b109 #[(iv p0.Unit), (.slice Al194 (l194).length cl194), (.slice none 0 0)] 25), (32, ow Al194 cl194 62 fl_TPlotTool l194), (43, dq Am339 ((List.set m339 (x340).toNat x382)).length cm339 46 27 ln_TPlotStep ms387)]) (.cons rfl (.cons rfl (.cons rfl (.cons (slenV rfl (by rw [hnms387])) (.cons rfl (.cons rfl (.cons (slenV rfl (by rw [hnms387])) (.cons rfl (.cons rfl (.cons (slenV rfl (by rw [hnms387])) (.cons rfl (.cons rfl .nil)))))))))))) (.cons rfl (.cons rfl (.cons rfl (.cons rfl (.cons rfl .nil))))) ?_
        exact Tr.backThen leJ348 ((List.set m339 (x340).toNat x382), Am339, cm339, ms387) ⟨H, ⟨hmms387, hfms387⟩⟩ (.cons rfl (.cons rfl (.cons rfl (.cons rfl (.cons rfl .nil))))) (.cons rfl (.cons rfl (.cons rfl (.cons rfl (.cons rfl .nil)))))
      ·intro w s hlJ349 hs
       obtain ⟨m347, Am347, cm347, msm347⟩ := s
       obtain ⟨H, hm347⟩ := hs
       replace H : F_etchhouseref3_TurnedPlot_J11 N p1 y105 x340 (F_etchhouseref3_TurnedPlot_L9 N p0 p1 y105 l194 mL9) m347 = some r := H
       replace leB := leB.trans hlJ349
       replace leL3 := leL3.trans hlJ349
       replace leL9 := leL9.trans hlJ349
       replace hm347 : DC msm347 m347 ∧ SlF Am347 (m347).length cm347 := hm347
       unfold F_etchhouseref3_TurnedPlot_J11 at H
       show Tr _ _ (LF [(4, (.pointer (some ⟨b102, 0, none⟩))), (10, (.pointer (some ⟨b107, 0, none⟩))), (12, (.pointer (some ⟨b109, 0, none⟩))), (16, (.slice Am347 (m347).length cm347)), (17, (iv x340))]) (LE [(3, bx b102 #[(iv 0), (.slice none 0 0), (.slice none 0 0)] 25), (5, bx b107 #[(.bool p1.Flip), (iv p1.Quarters), (iv y105.1.X), (iv y105.1.Y)] 29), (7, bx b109 #[(iv p0.Unit), (.slice Al194 (l194).length cl194), (.slice none 0 0)] 25), (32, ow Al194 cl194 62 fl_TPlotTool l194), (43, dq Am347 (m347).length cm347 46 27 ln_TPlotStep msm347)]) _
       refine Tr.sr ?_
       refine Tr.asg rfl rfl ?_
       refine Tr.nil (Tr.normThen ?_)
       refine Tr.block ?_
       refine Tr.loop (σ := (List TPlotStep) × Int × (Option Addr) × Nat × (List (DE fl_TPlotStep))) (fun m w s => F_etchhouseref3_TurnedPlot_L10 N p1 y105 x340 (F_etchhouseref3_TurnedPlot_L9 N p0 p1 y105 l194 mL9) m s.1 s.2.1 = some r ∧ (DC s.2.2.2.2 s.1 ∧ SlF s.2.2.1 (s.1).length s.2.2.2.1)) (fun s => [(4, (.pointer (some ⟨b102, 0, none⟩))), (10, (.pointer (some ⟨b107, 0, none⟩))), (12, (.pointer (some ⟨b109, 0, none⟩))), (16, (.slice s.2.2.1 (s.1).length s.2.2.2.1)), (17, (iv x340)), (18, (iv s.2.1))]) (fun s => [(3, bx b102 #[(iv 0), (.slice none 0 0), (.slice none 0 0)] 25), (5, bx b107 #[(.bool p1.Flip), (iv p1.Quarters), (iv y105.1.X), (iv y105.1.Y)] 29), (7, bx b109 #[(iv p0.Unit), (.slice Al194 (l194).length cl194), (.slice none 0 0)] 25), (32, ow Al194 cl194 62 fl_TPlotTool l194), (43, dq s.2.2.1 (s.1).length s.2.2.2.1 46 27 ln_TPlotStep s.2.2.2.2)]) N (m347, 0, Am347, cm347, msm347) ⟨H, ⟨hm347.1, hm347.2⟩⟩ (.cons rfl (.cons rfl (.cons rfl (.cons rfl (.cons rfl (.cons rfl .nil)))))) (.cons rfl (.cons rfl (.cons rfl (.cons rfl (.cons rfl .nil))))) (fun _ _ h => noSome (h.1)) ?_
       intro w leL10 mL10 s hs
       obtain ⟨m372, x373, Am372, cm372, msm372⟩ := s
       obtain ⟨H, hm372⟩ := hs
       replace H : F_etchhouseref3_TurnedPlot_L10 N p1 y105 x340 (F_etchhouseref3_TurnedPlot_L9 N p0 p1 y105 l194 mL9) (mL10 + 1) m372 x373 = some r := H
       replace leB := leB.trans leL10
       replace leL3 := leL3.trans leL10
       replace leL9 := leL9.trans leL10
       replace hm372 : DC msm372 m372 ∧ SlF Am372 (m372).length cm372 := hm372
       rw [F_etchhouseref3_TurnedPlot_L10.eq_2] at H
       show Tr _ _ (LF [(4, (.pointer (some ⟨b102, 0, none⟩))), (10, (.pointer (some ⟨b107, 0, none⟩))), (12, (.pointer (some ⟨b109, 0, none⟩))), (16, (.slice Am372 (m372).length cm372)), (17, (iv x340)), (18, (iv x373))]) (LE [(3, bx b102 #[(iv 0), (.slice none 0 0), (.slice none 0 0)] 25), (5, bx b107 #[(.bool p1.Flip), (iv p1.Quarters), (iv y105.1.X), (iv y105.1.Y)] 29), (7, bx b109 #[(iv p0.Unit), (.slice Al194 (l194).length cl194), (.slice none 0 0)] 25), (32, ow Al194 cl194 62 fl_TPlotTool l194), (43, dq Am372 (m372).length cm372 46 27 ln_TPlotStep msm372)]) _
       refine Tr.seq ?_
       refine Tr.sr ?_
       refine Tr.mv rfl rfl ?_
       refine Tr.mv rfl rfl ?_
       refine Tr.mv rfl rfl ?_
       obtain ⟨x374, hx374, H⟩ := bnd H
       obtain ⟨hx3740, hx3741, hx3742⟩ := idx_some hx374
       refine Tr.dqTake 43 70 71 (i := (x340).toNat) rfl rfl rfl hx3742 rfl hm372.1 fun u375 hoku375 hfu375 hdu375 => ?_
       obtain ⟨⟨Au375_0, cu375_0⟩, ⟨Au375_1, cu375_1⟩⟩ := u375
       have hoku375_1 : Sl w.O w.W fl_TPlotStep Au375_1 cu375_1 x374.Steps := hoku375
       replace hfu375 : SlF Au375_0 (x374.Points).length cu375_0 := hfu375
       replace hdu375 : DT msm372 m372 (x340).toNat ((Au375_0, cu375_0), (Au375_1, cu375_1)) x374 := hdu375
       show Tr _ _ _ (up (up (up _ 43 (ow Am372 cm372 46 (mix (flU ln_TPlotStep)) (mixL msm372 (x340).toNat (raw (flU ln_TPlotStep) [(iv x374.Kind), (sv x374.Name), (iv x374.At.X), (iv x374.At.Y), (.slice Au375_0 (x374.Points).length cu375_0), (iv x374.NX), (iv x374.NY), (.slice Au375_1 (x374.Steps).length cu375_1)] rfl rfl)))) 70 (ins 27 fl_TPoint ((List.set msm372 (x340).toNat ⟨((Au375_0, cu375_0), (Au375_1, cu375_1)), x374, false⟩).map (ne ln_TPlotStep)))) 71 (ow Au375_0 cu375_0 27 fl_TPoint x374.Points)) _
       refine Tr.va rfl (fun _ _ h1 h2 => run_indexAddr el_23 (h1.ev rfl) hm372.2 (h1.ev rfl) hx3740 hx3741) ?_
       refine Tr.va rfl (fun _ _ h1 h2 => run_fieldAddr fo_46_3 (h1.ev rfl)) ?_
       refine Tr.va rfl (fun _ _ h1 h2 => run_load1 ag_44 (h1.ev rfl) (CellsAt.drop (rdm (cs := raw (flU ln_TPlotStep) [(iv x374.Kind), (sv x374.Name), (iv x374.At.X), (iv x374.At.Y), (.slice Au375_0 (x374.Points).length cu375_0), (iv x374.NX), (iv x374.NY), (.slice Au375_1 (x374.Steps).length cu375_1)] rfl rfl) h2 (κ := 43) rfl (hdu375.hi)) 4) rfl) ?_
       refine Tr.va rfl (fun _ _ h1 h2 => run_len un_44 (h1.ev rfl)) ?_
       refine Tr.va rfl (fun _ _ h1 h2 => run_lss (h1.ev rfl) (h1.ev rfl)) ?_
       refine Tr.nil (Tr.normThen ?_)
       refine Tr.cond rfl H (fun H => ?_) (fun H => ?_)
       ·refine Tr.skip (Tr.normThen ?_)
        refine Tr.seq ?_
        refine Tr.block ?_
        refine Tr.drawTail 16 (by kernel_rfl) (by kernel_rfl) ?_
        refine Tq.mv rfl rfl ?_
        refine Tq.mv rfl rfl ?_
        refine Tq.va rfl (fun _ _ h1 h2 => run_indexAddr el_23 (h1.ev rfl) hm372.2 (h1.ev rfl) hx3740 hx3741) ?_
        refine Tq.va rfl (fun _ _ h1 h2 => run_fieldAddr fo_46_3 (h1.ev rfl)) ?_
        refine Tq.va rfl (fun _ _ h1 h2 => run_load1 ag_44 (h1.ev rfl) (CellsAt.drop (rdm (cs := raw (flU ln_TPlotStep) [(iv x374.Kind), (sv x374.Name), (iv x374.At.X), (iv x374.At.Y), (.slice Au375_0 (x374.Points).length cu375_0), (iv x374.NX), (iv x374.NY), (.slice Au375_1 (x374.Steps).length cu375_1)] rfl rfl) h2 (κ := 43) rfl (hdu375.hi)) 4) rfl) ?_
        refine Tq.mv rfl rfl ?_
        refine Tq.mv rfl rfl ?_
        refine Tq.mv rfl rfl ?_
        refine Tq.va rfl (fun _ _ h1 h2 => run_indexAddr el_23 (h1.ev rfl) hm372.2 (h1.ev rfl) hx3740 hx3741) ?_
        refine Tq.va rfl (fun _ _ h1 h2 => run_fieldAddr fo_46_3 (h1.ev rfl)) ?_
        refine Tq.va rfl (fun _ _ h1 h2 => run_load1 ag_44 (h1.ev rfl) (CellsAt.drop (rdm (cs := raw (flU ln_TPlotStep) [(iv x374.Kind), (sv x374.Name), (iv x374.At.X), (iv x374.At.Y), (.slice Au375_0 (x374.Points).length cu375_0), (iv x374.NX), (iv x374.NY), (.slice Au375_1 (x374.Steps).length cu375_1)] rfl rfl) h2 (κ := 43) rfl (hdu375.hi)) 4) rfl) ?_
        refine Tq.mv rfl rfl ?_
        obtain ⟨x376, hx376, H⟩ := bnd H
        obtain ⟨hx3760, hx3761, hx3762⟩ := idx_some hx376
        refine Tq.va rfl (fun _ _ h1 h2 => run_indexAddr el_44 (h1.ev rfl) hfu375 (h1.ev rfl) hx3760 hx3761) ?_
        refine Tq.va rfl (fun _ _ h1 h2 => run_loadN (cs := [(iv x376.X), (iv x376.Y)]) ag_27 sz_27 (h1.ev rfl) (CellsAt.take (rdo ef_TPoint (k := 71) h2 rfl hx3762) 2) rfl) ?_
        refine Tq.va rfl (fun _ _ h1 h2 => run_loadN (cs := [(.bool p1.Flip), (iv p1.Quarters), (iv y105.1.X), (iv y105.1.Y)]) ag_29 sz_29 (h1.ev rfl) (CellsAt.take (rdb h2 (vs := [(.bool p1.Flip), (iv p1.Quarters), (iv y105.1.X), (iv y105.1.Y)]) (k := 5) rfl 0) 4) rfl) ?_
        obtain ⟨y377, hy377, H⟩ := bnd H
        refine Tq.call0 (r := (.agg #[(iv y377.X), (iv y377.Y)])) (wn rfl) rfl Tryd.call32 (evl_cons rfl (evl_cons rfl evl_nil)) (fun W hW => F_etchhouseref1_TurnPoint_ok N x376 (TTurn.mk p1.Flip p1.Quarters y105.1) y377 hy377 (HF.start _)) ?_
        refine Tq.nil ?_
        obtain ⟨x378, hx378, H⟩ := bnd H
        obtain ⟨hx3780, hx3781, hx3782⟩ := idx_some hx378
        refine Tr.va rfl (fun _ _ h1 h2 => run_indexAddr el_44 (h1.ev rfl) hfu375 (h1.ev rfl) hx3780 hx3781) ?_
        obtain ⟨l379, hl379, H⟩ := bnd H
        have hnl379 := sets_len hl379
        refine Tr.storeEl 71 (t := fl_TPoint) (l := x374.Points) (i := x373) (fo := 0) (cs := [(iv y377.X), (iv y377.Y)]) y377 (wn rfl) rfl rfl rfl rfl rfl hx3782 sz_27 rfl (fun u _ => ⟨u, trivial, rfl⟩) rfl hl379 ?_
        have hfl379 : SlF Au375_0 (l379).length cu375_0 := by rw [hnl379]; exact hfu375
        have hsl379 := hnl379.trans rfl
        refine Tr.sel (lf := [(4, (.pointer (some ⟨b102, 0, none⟩))), (10, (.pointer (some ⟨b107, 0, none⟩))), (12, (.pointer (some ⟨b109, 0, none⟩))), (16, (.slice Am372 (m372).length cm372)), (17, (iv x340)), (18, (iv x373)), (129, (iv x373)), (130, (.slice Am372 (m372).length cm372)), (131, (iv x340)), (132, (.pointer (some ⟨adB Am372, adO Am372 + (x340).toNat * 8, none⟩))), (133, (.pointer (some ⟨adB Am372, adO Am372 + (x340).toNat * 8 + 4, none⟩))), (134, (.slice Au375_0 (l379).length cu375_0)), (135, (iv (x374.Points.length : Int))), (136, (.bool (decide (x373 < (x374.Points.length : Int))))), (139, (.slice Am372 (m372).length cm372)), (140, (iv x340)), (141, (.pointer (some ⟨adB Am372, adO Am372 + (x340).toNat * 8, none⟩))), (142, (.pointer (some ⟨adB Am372, adO Am372 + (x340).toNat * 8 + 4, none⟩))), (143, (.slice Au375_0 (l379).length cu375_0)), (144, (iv x373)), (145, (.slice Am372 (m372).length cm372)), (146, (iv x340)), (147, (.pointer (some ⟨adB Am372, adO Am372 + (x340).toNat * 8, none⟩))), (148, (.pointer (some ⟨adB Am372, adO Am372 + (x340).toNat * 8 + 4, none⟩))), (149, (.slice Au375_0 (l379).length cu375_0)), (150, (iv x373)), (152, (.agg #[(iv x376.X), (iv x376.Y)])), (153, (.agg #[(.bool p1.Flip), (iv p1.Quarters), (iv y105.1.X), (iv y105.1.Y)])), (154, (.agg #[(iv y377.X), (iv y377.Y)]))]) (le := [(3, bx b102 #[(iv 0), (.slice none 0 0), (.slice none 0 0)] 25), (5, bx b107 #[(.bool p1.Flip), (iv p1.Quarters), (iv y105.1.X), (iv y105.1.Y)] 29), (7, bx b109 #[(iv p0.Unit), (.slice Al194 (l194).length cl194), (.slice none 0 0)] 25), (32, ow Al194 cl194 62 fl_TPlotTool l194), (43, ow Am372 cm372 46 (mix (flU ln_TPlotStep)) (mixL msm372 (x340).toNat (raw (flU ln_TPlotStep) [(iv x374.Kind), (sv x374.Name), (iv x374.At.X), (iv x374.At.Y), (.slice Au375_0 (l379).length cu375_0), (iv x374.NX), (iv x374.NY), (.slice Au375_1 (x374.Steps).length cu375_1)] rfl rfl))), (70, ins 27 fl_TPoint ((List.set msm372 (x340).toNat ⟨((Au375_0, cu375_0), (Au375_1, cu375_1)), x374, false⟩).map (ne ln_TPlotStep))), (71, ow Au375_0 cu375_0 27 fl_TPoint l379)]) (.cons rfl (.cons rfl (.cons rfl (.cons rfl (.cons rfl (.cons rfl (.cons rfl (.cons rfl (.cons rfl (.cons rfl (.cons rfl (.cons (slenV rfl (by rw [hnl379])) (.cons rfl (.cons rfl (.cons rfl (.cons rfl (.cons rfl (.cons rfl (.cons (slenV rfl (by rw [hnl379])) (.cons rfl (.cons rfl (.cons rfl (.cons rfl (.cons rfl (.cons (slenV rfl (by rw [hnl379])) (.cons rfl (.cons rfl (.cons rfl (.cons rfl .nil))))))))))))))))))))))))))))) (.cons rfl (.cons rfl (.cons rfl (.cons rfl (.cons (emix rfl (by rw [hnl379])) (.cons rfl (.cons rfl .nil))))))) ?_
        refine Tr.nil (Tr.normBlock (Tr.normThen ?_))
        refine Tr.region ?_
        refine Tr.mv rfl rfl ?_
        refine Tr.va rfl (fun _ _ h1 h2 => run_add (h1.ev rfl) (h1.ev rfl)) ?_
        refine Tr.asg rfl rfl ?_
        refine Tr.nil ?_
        refine Tr.dqPut (L := ln_TPlotStep) 43 70 71 (u := ((Au375_0, cu375_0), (Au375_1, cu375_1))) (x' := (TPlotStep.mk x374.Kind x374.Name x374.At l379 x374.NX x374.NY x374.Steps)) rfl rfl rfl rfl rfl rfl hdu375 hoku375_1 rfl rfl rfl hfl379 fun ms380 hmms380 => ?_
        have hnms380 : (List.set m372 (x340).toNat (TPlotStep.mk x374.Kind x374.Name x374.At l379 x374.NX x374.NY x374.Steps)).length = (m372).length := List.length_set
        have hfms380 : SlF Am372 (List.set m372 (x340).toNat (TPlotStep.mk x374.Kind x374.Name x374.At l379 x374.NX x374.NY x374.Steps)).length cm372 := by rw [hnms380]; exact hm372.2
        refine Tr.sel (lf := [(4, (.pointer (some ⟨b102, 0, none⟩))), (10, (.pointer (some ⟨b107, 0, none⟩))), (12, (.pointer (some ⟨b109, 0, none⟩))), (16, (.slice Am372 ((List.set m372 (x340).toNat (TPlotStep.mk x374.Kind x374.Name x374.At l379 x374.NX x374.NY x374.Steps))).length cm372)), (17, (iv x340)), (18, (iv (w64 (x373 + 1)))), (129, (iv x373)), (130, (.slice Am372 ((List.set m372 (x340).toNat (TPlotStep.mk x374.Kind x374.Name x374.At l379 x374.NX x374.NY x374.Steps))).length cm372)), (131, (iv x340)), (135, (iv (x374.Points.length : Int))), (136, (.bool (decide (x373 < (x374.Points.length : Int))))), (137, (iv x373)), (138, (iv (w64 (x373 + 1)))), (139, (.slice Am372 ((List.set m372 (x340).toNat (TPlotStep.mk x374.Kind x374.Name x374.At l379 x374.NX x374.NY x374.Steps))).length cm372)), (140, (iv x340)), (144, (iv x373)), (145, (.slice Am372 ((List.set m372 (x340).toNat (TPlotStep.mk x374.Kind x374.Name x374.At l379 x374.NX x374.NY x374.Steps))).length cm372)), (146, (iv x340)), (150, (iv x373)), (152, (.agg #[(iv x376.X), (iv x376.Y)])), (153, (.agg #[(.bool p1.Flip), (iv p1.Quarters), (iv y105.1.X), (iv y105.1.Y)])), (154, (.agg #[(iv y377.X), (iv y377.Y)]))]) (le := [(3, bx b102 #[(iv 0), (.slice none 0 0), (.slice none 0 0)] 25), (5, bx b107 #[(.bool p1.Flip), (iv p1.Quarters), (iv y105.1.X), (iv y105.1.Y)] 29), (7, bx b109 #[(iv p0.Unit), (.slice Al194 (l194).length cl194), (.slice none 0 0)] 25), (32, ow Al194 cl194 62 fl_TPlotTool l194), (43, dq Am372 ((List.set m372 (x340).toNat (TPlotStep.mk x374.Kind x374.Name x374.At l379 x374.NX x374.NY x374.Steps))).length cm372 46 27 ln_TPlotStep ms380)]) (.cons rfl (.cons rfl (.cons rfl (.cons (slenV rfl (by rw [hnms380])) (.cons rfl (.cons rfl (.cons rfl (.cons (slenV rfl (by rw [hnms380])) (.cons rfl (.cons rfl (.cons rfl (.cons rfl (.cons rfl (.cons (slenV rfl (by rw [hnms380])) (.cons rfl (.cons rfl (.cons (slenV rfl (by rw [hnms380])) (.cons rfl (.cons rfl (.cons rfl (.cons rfl (.cons rfl .nil)))))))))))))))))))))) (.cons rfl (.cons rfl (.cons rfl (.cons rfl (.cons rfl .nil))))) ?_
        exact Tr.backThen leL10 ((List.set m372 (x340).toNat (TPlotStep.mk x374.Kind x374.Name x374.At l379 x374.NX x374.NY x374.Steps)), (w64 (x373 + 1)), Am372, cm372, ms380) ⟨H, ⟨hmms380, hfms380⟩⟩ (.cons rfl (.cons rfl (.cons rfl (.cons rfl (.cons rfl (.cons rfl .nil)))))) (.cons rfl (.cons rfl (.cons rfl (.cons rfl (.cons rfl .nil)))))
       ·refine Tr.exit (Tr.exitThen (Tr.exitThen (Tr.exitBlock (Tr.normBlock (Tr.normThen ?_)))))
        refine Tr.region ?_
        refine Tr.mv rfl rfl ?_
        refine Tr.va rfl (fun _ _ h1 h2 => run_add (h1.ev rfl) (h1.ev rfl)) ?_
        refine Tr.asg rfl rfl ?_
        refine Tr.nil ?_
        refine Tr.dqPut (L := ln_TPlotStep) 43 70 71 (u := ((Au375_0, cu375_0), (Au375_1, cu375_1))) (x' := x374) rfl rfl rfl rfl rfl rfl hdu375 hoku375_1 rfl rfl rfl hfu375 fun ms381 hmms381 => ?_
        have hnms381 : (List.set m372 (x340).toNat x374).length = (m372).length := List.length_set
        have hfms381 : SlF Am372 (List.set m372 (x340).toNat x374).length cm372 := by rw [hnms381]; exact hm372.2
        refine Tr.sel (lf := [(4, (.pointer (some ⟨b102, 0, none⟩))), (10, (.pointer (some ⟨b107, 0, none⟩))), (12, (.pointer (some ⟨b109, 0, none⟩))), (16, (.slice Am372 ((List.set m372 (x340).toNat x374)).length cm372)), (17, (iv (w64 (x340 + 1)))), (18, (iv x373)), (111, (iv x340)), (112, (iv (w64 (x340 + 1)))), (129, (iv x373)), (130, (.slice Am372 ((List.set m372 (x340).toNat x374)).length cm372)), (131, (iv x340)), (135, (iv (x374.Points.length : Int))), (136, (.bool (decide (x373 < (x374.Points.length : Int)))))]) (le := [(3, bx b102 #[(iv 0), (.slice none 0 0), (.slice none 0 0)] 25), (5, bx b107 #[(.bool p1.Flip), (iv p1.Quarters), (iv y105.1.X), (iv y105.1.Y)] 29), (7, bx b109 #[(iv p0.Unit), (.slice Al194 (l194).length cl194), (.slice none 0 0)] 25), (32, ow Al194 cl194 62 fl_TPlotTool l194), (43, dq Am372 ((List.set m372 (x340).toNat x374)).length cm372 46 27 ln_TPlotStep ms381)]) (.cons rfl (.cons rfl (.cons rfl (.cons (slenV rfl (by rw [hnms381])) (.cons rfl (.cons rfl (.cons rfl (.cons rfl (.cons rfl (.cons (slenV rfl (by rw [hnms381])) (.cons rfl (.cons rfl (.cons rfl .nil))))))))))))) (.cons rfl (.cons rfl (.cons rfl (.cons rfl (.cons rfl .nil))))) ?_
        exact Tr.backThen leL9 ((List.set m372 (x340).toNat x374), (w64 (x340 + 1)), Am372, cm372, ms381) ⟨H, ⟨hmms381, hfms381⟩⟩ (.cons rfl (.cons rfl (.cons rfl (.cons rfl (.cons rfl .nil))))) (.cons rfl (.cons rfl (.cons rfl (.cons rfl (.cons rfl .nil)))))
     ·refine Tr.exit (Tr.exitThen (Tr.exitThen (Tr.exitBlock (Tr.normThen ?_))))
      refine Tr.sr ?_
      refine Tr.mv rfl rfl ?_
      refine Tr.va rfl (fun _ _ h1 h2 => run_fieldAddr fo_25_2 (h1.ev rfl)) ?_
      refine Tr.store 7 (cs := [(.slice Am339 (m339).length cm339)]) [(iv p0.Unit), (.slice Al194 (l194).length cl194), (.slice Am339 (m339).length cm339)] (wn rfl) rfl rfl rfl rfl sz_23 rfl rfl rfl ?_
      refine Tr.nil (Tr.normThen ?_)
      refine Tr.sr ?_
      refine Tr.va rfl (fun _ _ h1 h2 => run_loadN (cs := [(iv p0.Unit), (.slice Al194 (l194).length cl194), (.slice Am339 (m339).length cm339)]) ag_25 sz_25 (h1.ev rfl) (CellsAt.take (rdb h2 (vs := [(iv p0.Unit), (.slice Al194 (l194).length cl194), (.slice Am339 (m339).length cm339)]) (k := 7) rfl 0) 3) rfl) ?_
      refine Tr.freeze 32 rfl fun w le389 hz388 => ?_
      replace leB := leB.trans le389
      replace leL3 := leL3.trans le389
      replace leL9 := leL9.trans le389
      refine Tr.dqFreeze 43 rfl hm339.1 fun w le391 hz390 => ?_
      replace hz388 := hz388.le le391
      replace leB := leB.trans le391
      replace leL3 := leL3.trans le391
      replace leL9 := leL9.trans le391
      obtain ⟨y392, hy392, H⟩ := bnd H
      refine Tr.callG [] [] (U := (Option Addr × Nat) × (Option Addr × Nat)) (fun u => (.tuple #[(.agg #[(iv y392.1.Unit), (.slice u.1.1 (y392.1.Tools).length u.1.2), (.slice u.2.1 (y392.1.Steps).length u.2.2)]), (iv y392.2)])) (fun O W u => Sl O W fl_TPlotTool u.1.1 u.1.2 y392.1.Tools ∧ Sl O W fl_TPlotStep u.2.1 u.2.2 y392.1.Steps) (fun u => []) rfl pk_nil (fun _ => rfl) (wn rfl) rfl Tryd.call22 (evl_cons rfl evl_nil) (fun W hW hp hE => F_etchhouseref3_right_ok N (TPlot.mk p0.Unit l194 m339) Al194 cl194 (hz388.extO (hW.extS hp)) Am339 cm339 (hz390.extO (hW.extS hp)) y392 hy392 hE) ?_
      intro w u le393 hu
      obtain ⟨⟨Ay392_0, cy392_0⟩, ⟨Ay392_1, cy392_1⟩⟩ := u
      obtain ⟨gy392_0, gy392_1⟩ := hu
      replace hz388 := hz388.le le393
      replace hz390 := hz390.le le393
      replace leB := leB.trans le393
      replace leL3 := leL3.trans le393
      replace leL9 := leL9.trans le393
      have hgy392_0 : Sl w.O w.W fl_TPlotTool Ay392_0 cy392_0 y392.1.Tools := gy392_0 --@phi
      have hgy392_1 : Sl w.O w.W fl_TPlotStep Ay392_1 cy392_1 y392.1.Steps := gy392_1 --@phi
      show Tr _ _ (uf _ 159 (.tuple #[(.agg #[(iv y392.1.Unit), (.slice Ay392_0 (y392.1.Tools).length cy392_0), (.slice Ay392_1 (y392.1.Steps).length cy392_1)]), (iv y392.2)])) (_) _
      refine Tr.va rfl (fun _ _ h1 h2 => run_extract (h1.ev rfl) rfl) ?_
      refine Tr.va rfl (fun _ _ h1 h2 => run_extract (h1.ev rfl) rfl) ?_
      refine Tr.store 3 (cs := [(iv y392.1.Unit), (.slice Ay392_0 (y392.1.Tools).length cy392_0), (.slice Ay392_1 (y392.1.Steps).length cy392_1)]) [(iv y392.1.Unit), (.slice Ay392_0 (y392.1.Tools).length cy392_0), (.slice Ay392_1 (y392.1.Steps).length cy392_1)] (wn rfl) rfl rfl rfl rfl sz_25 rfl rfl rfl ?_
      refine Tr.asg rfl rfl ?_
      refine Tr.nil (Tr.normThen ?_)
      refine Tr.ret ?_
      obtain rfl := Option.some.inj H
      exact Tr.out (m := [(.agg #[(iv y392.1.Unit), (.slice Ay392_0 (y392.1.Tools).length cy392_0), (.slice Ay392_1 (y392.1.Steps).length cy392_1)]), (iv y392.2)]) [3] (res_cell rfl rfl ag_25 sz_25 (res_tmp rfl res_nil)) (fun W hW => ⟨w, ((Ay392_0, cy392_0), (Ay392_1, cy392_1)), leB, rfl, ⟨hgy392_0, hgy392_1⟩, hW.pick (ks := []) (by decide) pk_nil⟩)

theorem F_etchhouseref3_samePoints_ok (N : Nat) {w : Bs} (p0 : (List TPoint)) (Ap0_0 : Option Addr) (cp0_0 : Nat) (hp0_0 : Sl w.R w.W fl_TPoint Ap0_0 cp0_0 p0) (p1 : (List TPoint)) (Ap1_0 : Option Addr) (cp1_0 : Nat) (hp1_0 : Sl w.R w.W fl_TPoint Ap1_0 cp1_0 p1) (r : Bool) (H : F_etchhouseref3_samePoints N p0 p1 = some r) (hE : HF w w.W E0) : Calls Tryd.prog 57 [(.slice Ap0_0 (p0).length cp0_0), (.slice Ap1_0 (p1).length cp1_0)].toArray w.W fun e W' => e = .returned (.bool r) ∧ HF w W' E0 := by
 unfold F_etchhouseref3_samePoints at H
 have leB := Bs.Le.refl w
 refine Tr.enter (n := 26) Tryd.func57 rfl rfl rfl hE ?_
 refine Tr.sr ?_
 refine Tr.asg rfl rfl ?_
 refine Tr.nil (Tr.normThen ?_)
 refine Tr.seq ?_
 refine Tr.sr ?_
 refine Tr.mv rfl rfl ?_
 refine Tr.va rfl (fun _ _ h1 h2 => run_len un_44 (h1.ev rfl)) ?_
 refine Tr.mv rfl rfl ?_
 refine Tr.va rfl (fun _ _ h1 h2 => run_len un_44 (h1.ev rfl)) ?_
 refine Tr.va rfl (fun _ _ h1 h2 => run_neq (h1.ev rfl) (h1.ev rfl)) ?_
 refine Tr.nil (Tr.normThen ?_)
 refine Tr.cond rfl H (fun H => ?_) (fun H => ?_)
 ·refine Tr.sr ?_
  refine Tr.asg rfl rfl ?_
  refine Tr.nil (Tr.normThen ?_)
  refine Tr.ret (Tr.retThen ?_)
  obtain rfl := Option.some.inj H
  exact Tr.out (m := [(.bool false)]) [] (res_tmp rfl res_nil) (fun W hW => ⟨rfl, hW.low leB⟩)
 ·refine Tr.skip (Tr.normThen ?_)
  refine Tr.seq ?_
  refine Tr.sr ?_
  refine Tr.asg rfl rfl ?_
  refine Tr.nil (Tr.normThen ?_)
  refine Tr.block ?_
  refine Tr.loop (σ := Int) (fun m w s => F_etchhouseref3_samePoints_L1 p0 p1 m s = some r) (fun s => [(0, (.slice Ap0_0 (p0).length cp0_0)), (1, (.slice Ap1_0 (p1).length cp1_0)), (5, (iv s))]) (fun s => []) N 0 H (.cons rfl (.cons rfl (.cons rfl .nil))) .nil (fun _ _ h => noSome (h)) ?_
  intro w leL1 mL1 x107 hs
  have H := hs
  replace H : F_etchhouseref3_samePoints_L1 p0 p1 (mL1 + 1) x107 = some r := H
  replace hp0_0 := hp0_0.leR leL1
  replace hp1_0 := hp1_0.leR leL1
  replace leB := leB.trans leL1
  rw [F_etchhouseref3_samePoints_L1.eq_2] at H
  show Tr _ _ (LF [(0, (.slice Ap0_0 (p0).length cp0_0)), (1, (.slice Ap1_0 (p1).length cp1_0)), (5, (iv x107))]) (LE []) _
  refine Tr.seq ?_
  refine Tr.sr ?_
  refine Tr.mv rfl rfl ?_
  refine Tr.mv rfl rfl ?_
  refine Tr.va rfl (fun _ _ h1 h2 => run_len un_44 (h1.ev rfl)) ?_
  refine Tr.va rfl (fun _ _ h1 h2 => run_lss (h1.ev rfl) (h1.ev rfl)) ?_
  refine Tr.nil (Tr.normThen ?_)
  refine Tr.cond rfl H (fun H => ?_) (fun H => ?_)
  ·refine Tr.skip (Tr.normThen ?_)
   refine Tr.seq ?_
   refine Tr.block ?_
   refine Tr.seq ?_
   refine Tr.draw (by kernel_rfl) (by kernel_rfl) ?_
   refine Tq.mv rfl rfl ?_
   refine Tq.mv rfl rfl ?_
   obtain ⟨x108, hx108, H⟩ := bnd H
   obtain ⟨hx1080, hx1081, hx1082⟩ := idx_some hx108
   refine Tq.va rfl (fun _ _ h1 h2 => run_indexAddr el_44 (h1.ev rfl) hp0_0.form (h1.ev rfl) hx1080 hx1081) ?_
   refine Tq.va rfl (fun _ _ h1 h2 => run_loadN (cs := [(iv x108.X), (iv x108.Y)]) ag_27 sz_27 (h1.ev rfl) (CellsAt.take (rdF ef_TPoint hp0_0 hx1082 h2) 2) rfl) ?_
   refine Tq.mv rfl rfl ?_
   refine Tq.mv rfl rfl ?_
   obtain ⟨x109, hx109, H⟩ := bnd H
   obtain ⟨hx1090, hx1091, hx1092⟩ := idx_some hx109
   refine Tq.va rfl (fun _ _ h1 h2 => run_indexAddr el_44 (h1.ev rfl) hp1_0.form (h1.ev rfl) hx1090 hx1091) ?_
   refine Tq.va rfl (fun _ _ h1 h2 => run_loadN (cs := [(iv x109.X), (iv x109.Y)]) ag_27 sz_27 (h1.ev rfl) (CellsAt.take (rdF ef_TPoint hp1_0 hx1092 h2) 2) rfl) ?_
   refine Tq.va rfl (fun _ _ h1 h2 => run_neq_27 x108 x109 (h1.ev rfl) (h1.ev rfl)) ?_
   refine Tq.nil (Tr.normThen ?_)
   refine Tr.cond rfl H (fun H => ?_) (fun H => ?_)
   ·refine Tr.sr ?_
    refine Tr.asg rfl rfl ?_
    refine Tr.nil (Tr.normThen ?_)
    refine Tr.ret (Tr.retBlock (Tr.retThen (Tr.retThen (Tr.retBlock (Tr.retThen ?_)))))
    obtain rfl := Option.some.inj H
    exact Tr.out (m := [(.bool false)]) [] (res_tmp rfl res_nil) (fun W hW => ⟨rfl, hW.low leB⟩)
   ·refine Tr.skip (Tr.normBlock (Tr.normThen ?_))
    refine Tr.region ?_
    refine Tr.mv rfl rfl ?_
    refine Tr.va rfl (fun _ _ h1 h2 => run_add (h1.ev rfl) (h1.ev rfl)) ?_
    refine Tr.asg rfl rfl ?_
    refine Tr.nil ?_
    exact Tr.backThen leL1 (w64 (x107 + 1)) H (.cons rfl (.cons rfl (.cons rfl .nil))) .nil
  ·refine Tr.exit (Tr.exitThen (Tr.exitThen (Tr.exitBlock (Tr.normThen ?_))))
   refine Tr.sr ?_
   refine Tr.asg rfl rfl ?_
   refine Tr.nil (Tr.normThen ?_)
   refine Tr.ret ?_
   obtain rfl := Option.some.inj H
   exact Tr.out (m := [(.bool true)]) [] (res_tmp rfl res_nil) (fun W hW => ⟨rfl, hW.low leB⟩)

theorem F_etchhouseref3_sameSteps_b_ok (N : Nat) (rec : (List TPlotStep) → (List TPlotStep) → Option Bool) (hrec : ∀ {w : Bs} (p0 : (List TPlotStep)) (Ap0_0 : Option Addr) (cp0_0 : Nat) (hp0_0 : Sl w.R w.W fl_TPlotStep Ap0_0 cp0_0 p0) (p1 : (List TPlotStep)) (Ap1_0 : Option Addr) (cp1_0 : Nat) (hp1_0 : Sl w.R w.W fl_TPlotStep Ap1_0 cp1_0 p1) (r : Bool) (H : rec p0 p1 = some r) (hE : HF w w.W E0), Calls Tryd.prog 33 [(.slice Ap0_0 (p0).length cp0_0), (.slice Ap1_0 (p1).length cp1_0)].toArray w.W fun e W' => e = .returned (.bool r) ∧ HF w W' E0) {w : Bs} (p0 : (List TPlotStep)) (Ap0_0 : Option Addr) (cp0_0 : Nat) (hp0_0 : Sl w.R w.W fl_TPlotStep Ap0_0 cp0_0 p0) (p1 : (List TPlotStep)) (Ap1_0 : Option Addr) (cp1_0 : Nat) (hp1_0 : Sl w.R w.W fl_TPlotStep Ap1_0 cp1_0 p1) (r : Bool) (H : F_etchhouseref3_sameSteps_b N rec p0 p1 = some r) (hE : HF w w.W E0) : Calls Tryd.prog 33 [(.slice Ap0_0 (p0).length cp0_0), (.slice Ap1_0 (p1).length cp1_0)].toArray w.W fun e W' => e = .returned (.bool r) ∧ HF w W' E0 := by
 unfold F_etchhouseref3_sameSteps_b at H
 have leB := Bs.Le.refl w
 refine Tr.enter (n := 76) Tryd.func33 rfl rfl rfl hE ?_
 refine Tr.sr ?_
 refine Tr.asg rfl rfl ?_
 refine Tr.nil (Tr.normThen ?_)
 refine Tr.seq ?_
 refine Tr.sr ?_
 refine Tr.mv rfl rfl ?_
 refine Tr.va rfl (fun _ _ h1 h2 => run_len un_23 (h1.ev rfl)) ?_
 refine Tr.mv rfl rfl ?_
 refine Tr.va rfl (fun _ _ h1 h2 => run_len un_23 (h1.ev rfl)) ?_
 refine Tr.va rfl (fun _ _ h1 h2 => run_neq (h1.ev rfl) (h1.ev rfl)) ?_
 refine Tr.nil (Tr.normThen ?_)
 refine Tr.cond rfl H (fun H => ?_) (fun H => ?_)
 ·refine Tr.sr ?_
  refine Tr.asg rfl rfl ?_
  refine Tr.nil (Tr.normThen ?_)
  refine Tr.ret (Tr.retThen ?_)
  obtain rfl := Option.some.inj H
  exact Tr.out (m := [(.bool false)]) [] (res_tmp rfl res_nil) (fun W hW => ⟨rfl, hW.low leB⟩)
 ·refine Tr.skip (Tr.normThen ?_)
  refine Tr.seq ?_
  refine Tr.sr ?_
  refine Tr.asg rfl rfl ?_
  refine Tr.nil (Tr.normThen ?_)
  refine Tr.block ?_
  refine Tr.loop (σ := Int) (fun m w s => F_etchhouseref3_sameSteps_L1 N p0 p1 rec m s = some r) (fun s => [(0, (.slice Ap0_0 (p0).length cp0_0)), (1, (.slice Ap1_0 (p1).length cp1_0)), (5, (iv s))]) (fun s => []) N 0 H (.cons rfl (.cons rfl (.cons rfl .nil))) .nil (fun _ _ h => noSome (h)) ?_
  intro w leL1 mL1 x131 hs
  have H := hs
  replace H : F_etchhouseref3_sameSteps_L1 N p0 p1 rec (mL1 + 1) x131 = some r := H
  replace hp0_0 := hp0_0.leR leL1
  replace hp1_0 := hp1_0.leR leL1
  replace leB := leB.trans leL1
  rw [F_etchhouseref3_sameSteps_L1.eq_2] at H
  show Tr _ _ (LF [(0, (.slice Ap0_0 (p0).length cp0_0)), (1, (.slice Ap1_0 (p1).length cp1_0)), (5, (iv x131))]) (LE []) _
  refine Tr.seq ?_
  refine Tr.sr ?_
  refine Tr.mv rfl rfl ?_
  refine Tr.mv rfl rfl ?_
  refine Tr.va rfl (fun _ _ h1 h2 => run_len un_23 (h1.ev rfl)) ?_
  refine Tr.va rfl (fun _ _ h1 h2 => run_lss (h1.ev rfl) (h1.ev rfl)) ?_
  refine Tr.nil (Tr.normThen ?_)
  refine Tr.cond rfl H (fun H => ?_) (fun H => ?_)
  ·refine Tr.skip (Tr.normThen ?_)
   refine Tr.seq ?_
   refine Tr.block ?_
   refine Tr.seq ?_
   refine Tr.drawC 11 [] [10] (by kernel_rfl) (by kernel_rfl) fun sz132 hlosz132 hEsz132 => ?_
   refine Dr.quiet 0 [(19, (.slice Ap0_0 (p0).length cp0_0))] (by kernel_rfl) rfl rfl (by kernel_rfl) ?_ rfl rfl ?_
   ·refine Tq.mv rfl rfl ?_
    exact Tq.fin (.cons rfl .nil)
   refine Dr.quiet 1 [(20, (iv x131))] (by kernel_rfl) rfl rfl (by kernel_rfl) ?_ rfl rfl ?_
   ·refine Tq.mv rfl rfl ?_
    exact Tq.fin (.cons rfl .nil)
   obtain ⟨x133, hx133, H⟩ := bnd H
   obtain ⟨hx1330, hx1331, hx1332⟩ := idx_some hx133
   obtain ⟨u134, hRu134, hoku134, hcu134⟩ := (hp0_0).el hx1332
   obtain ⟨⟨Au134_0, cu134_0⟩, ⟨Au134_1, cu134_1⟩⟩ := u134
   obtain ⟨hoku134_0, hoku134_1⟩ := TPlotStep_ok.1 hoku134
   replace hoku134_0 : Sl w.R w.W fl_TPoint Au134_0 cu134_0 x133.Points := hoku134_0
   replace hoku134_1 : Sl w.R w.W fl_TPlotStep Au134_1 cu134_1 x133.Steps := hoku134_1
   refine Dr.quiet 2 [(21, (.pointer (some ⟨adB Ap0_0, adO Ap0_0 + (x131).toNat * 8, none⟩)))] (by kernel_rfl) rfl rfl (by kernel_rfl) ?_ rfl rfl ?_
   ·refine Tq.va rfl (fun _ _ h1 h2 => run_indexAddr el_23 (h1.ev rfl) hp0_0.form (h1.ev rfl) hx1330 hx1331) ?_
    exact Tq.fin (.cons rfl .nil)
   refine Dr.quiet 3 [(22, (.agg #[(iv x133.Kind), (sv x133.Name), (iv x133.At.X), (iv x133.At.Y), (.slice Au134_0 (x133.Points).length cu134_0), (iv x133.NX), (iv x133.NY), (.slice Au134_1 (x133.Steps).length cu134_1)]))] (by kernel_rfl) rfl rfl (by kernel_rfl) ?_ rfl rfl ?_
   ·refine Tq.va rfl (fun _ _ h1 h2 => run_loadN (cs := [(iv x133.Kind), (sv x133.Name), (iv x133.At.X), (iv x133.At.Y), (.slice Au134_0 (x133.Points).length cu134_0), (iv x133.NX), (iv x133.NY), (.slice Au134_1 (x133.Steps).length cu134_1)]) ag_46 sz_46 (h1.ev rfl) (CellsAt.take (rdR hRu134 hcu134 h2) 8) rfl) ?_
    exact Tq.fin (.cons rfl .nil)
   refine Dr.quietP 4 (by kernel_rfl) rfl (wn rfl) rfl (by kernel_rfl) (fun _ _ h1 => run_move (h1.ev rfl)) rfl ?_
   refine Dr.quietP 5 (by kernel_rfl) rfl (wn rfl) rfl (by kernel_rfl) (fun _ _ h1 => run_move (h1.ev rfl)) rfl ?_
   obtain ⟨x135, hx135, H⟩ := bnd H
   obtain ⟨hx1350, hx1351, hx1352⟩ := idx_some hx135
   obtain ⟨u136, hRu136, hoku136, hcu136⟩ := (hp1_0).el hx1352
   obtain ⟨⟨Au136_0, cu136_0⟩, ⟨Au136_1, cu136_1⟩⟩ := u136
   obtain ⟨hoku136_0, hoku136_1⟩ := TPlotStep_ok.1 hoku136
   replace hoku136_0 : Sl w.R w.W fl_TPoint Au136_0 cu136_0 x135.Points := hoku136_0
   replace hoku136_1 : Sl w.R w.W fl_TPlotStep Au136_1 cu136_1 x135.Steps := hoku136_1
   refine Dr.quietP 6 (by kernel_rfl) rfl (wn rfl) rfl (by kernel_rfl) (fun _ _ h1 => run_indexAddr el_23 (h1.ev rfl) hp1_0.form (h1.ev rfl) hx1350 hx1351) rfl ?_
   refine Dr.quietZ 7 [(26, (.agg #[(iv x135.Kind), (sv x135.Name), (iv x135.At.X), (iv x135.At.Y), (.slice Au136_0 (x135.Points).length cu136_0), (iv x135.NX), (iv x135.NY), (.slice Au136_1 (x135.Steps).length cu136_1)]))] [] true (by kernel_rfl) rfl rfl (by kernel_rfl) (fun W W' h2 hsW hk => HF.keepZ (le := []) (ks := []) (s0 := sz132) true h2 hk (fun _ => hlosz132) .nil (fun b hb => hb.elim (fun ⟨_, hp, _⟩ => nomatch hp) (fun hb => .inr ⟨rfl, hb.2, (fun _ h => nomatch h)⟩)) (fun _ h => nomatch h) rfl) ?_ rfl rfl ?_
   ·refine Tq.va rfl (fun _ _ h1 h2 => run_loadN (cs := [(iv x135.Kind), (sv x135.Name), (iv x135.At.X), (iv x135.At.Y), (.slice Au136_0 (x135.Points).length cu136_0), (iv x135.NX), (iv x135.NY), (.slice Au136_1 (x135.Steps).length cu136_1)]) ag_46 sz_46 (h1.ev rfl) (CellsAt.take (rdR hRu136 hcu136 h2) 8) rfl) ?_
    exact Tq.fin (.cons rfl .nil)
   refine Dr.cut (U := Nat × Nat) [8, 9] 1 (fun u => sz132 ≤ u.1 ∧ sz132 ≤ u.2) (fun u => [(0, (.slice Ap0_0 (p0).length cp0_0)), (1, (.slice Ap1_0 (p1).length cp1_0)), (5, (iv x131)), (6, (.pointer (some ⟨u.1, 0, none⟩))), (7, (.pointer (some ⟨u.2, 0, none⟩))), (13, (iv x131)), (14, (.slice Ap0_0 (p0).length cp0_0)), (15, (iv (p0.length : Int))), (16, (.bool (decide (x131 < (p0.length : Int))))), (19, (.slice Ap0_0 (p0).length cp0_0)), (20, (iv x131)), (21, (.pointer (some ⟨adB Ap0_0, adO Ap0_0 + (x131).toNat * 8, none⟩))), (22, (.agg #[(iv x133.Kind), (sv x133.Name), (iv x133.At.X), (iv x133.At.Y), (.slice Au134_0 (x133.Points).length cu134_0), (iv x133.NX), (iv x133.NY), (.slice Au134_1 (x133.Steps).length cu134_1)])), (23, (.slice Ap1_0 (p1).length cp1_0)), (24, (iv x131)), (25, (.pointer (some ⟨adB Ap1_0, adO Ap1_0 + (x131).toNat * 8, none⟩))), (26, (.agg #[(iv x135.Kind), (sv x135.Name), (iv x135.At.X), (iv x135.At.Y), (.slice Au136_0 (x135.Points).length cu136_0), (iv x135.NX), (iv x135.NY), (.slice Au136_1 (x135.Steps).length cu136_1)]))]) (fun u => [(5, bx u.1 #[(iv 0), (sv ⟨#[]⟩), (iv 0), (iv 0), (.slice none 0 0), (iv 0), (iv 0), (.slice none 0 0)] 46), (6, bx u.2 #[(iv 0), (sv ⟨#[]⟩), (iv 0), (iv 0), (.slice none 0 0), (iv 0), (iv 0), (.slice none 0 0)] 46)]) ?_ ?_
   ·intro hC
    refine Dr.pair 8 9 (by kernel_rfl) ?_ ?_
    ·refine St.alloc 8 5 rfl (wn rfl) rfl ze_46 fun b137 hb137 => ?_
     refine Dr.one 9 (by kernel_rfl) ?_
     refine St.alloc 9 6 rfl (wn rfl) rfl ze_46 fun b138 hb138 => ?_
     exact (hC ⟨b137, b138⟩ ⟨hb137, hb138⟩).use (by kernel_rfl) (.cons rfl (.cons rfl (.cons rfl (.cons rfl (.cons rfl (.cons rfl (.cons rfl (.cons rfl (.cons rfl (.cons rfl (.cons rfl (.cons rfl (.cons rfl (.cons rfl (.cons rfl (.cons rfl (.cons rfl .nil))))))))))))))))) (.cons rfl (.cons rfl .nil))
    ·refine St.alloc 9 6 rfl (wn rfl) rfl ze_46 fun b138 hb138 => ?_
     refine Dr.one 8 (by kernel_rfl) ?_
     refine St.alloc 8 5 rfl (wn rfl) rfl ze_46 fun b137 hb137 => ?_
     exact (hC ⟨b137, b138⟩ ⟨hb137, hb138⟩).use (by kernel_rfl) (.cons rfl (.cons rfl (.cons rfl (.cons rfl (.cons rfl (.cons rfl (.cons rfl (.cons rfl (.cons rfl (.cons rfl (.cons rfl (.cons rfl (.cons rfl (.cons rfl (.cons rfl (.cons rfl (.cons rfl .nil))))))))))))))))) (.cons rfl (.cons rfl .nil))
   intro u hu
   obtain ⟨b137, b138⟩ := u
   obtain ⟨hb137, hb138⟩ := hu
   replace hb137 : sz132 ≤ b137 := hb137
   replace hb138 : sz132 ≤ b138 := hb138
   show Dr _ _ _ _ _ _ _ _ _ (LF [(0, (.slice Ap0_0 (p0).length cp0_0)), (1, (.slice Ap1_0 (p1).length cp1_0)), (5, (iv x131)), (6, (.pointer (some ⟨b137, 0, none⟩))), (7, (.pointer (some ⟨b138, 0, none⟩))), (13, (iv x131)), (14, (.slice Ap0_0 (p0).length cp0_0)), (15, (iv (p0.length : Int))), (16, (.bool (decide (x131 < (p0.length : Int))))), (19, (.slice Ap0_0 (p0).length cp0_0)), (20, (iv x131)), (21, (.pointer (some ⟨adB Ap0_0, adO Ap0_0 + (x131).toNat * 8, none⟩))), (22, (.agg #[(iv x133.Kind), (sv x133.Name), (iv x133.At.X), (iv x133.At.Y), (.slice Au134_0 (x133.Points).length cu134_0), (iv x133.NX), (iv x133.NY), (.slice Au134_1 (x133.Steps).length cu134_1)])), (23, (.slice Ap1_0 (p1).length cp1_0)), (24, (iv x131)), (25, (.pointer (some ⟨adB Ap1_0, adO Ap1_0 + (x131).toNat * 8, none⟩))), (26, (.agg #[(iv x135.Kind), (sv x135.Name), (iv x135.At.X), (iv x135.At.Y), (.slice Au136_0 (x135.Points).length cu136_0), (iv x135.NX), (iv x135.NY), (.slice Au136_1 (x135.Steps).length cu136_1)]))]) (LE [(5, bx b137 #[(iv 0), (sv ⟨#[]⟩), (iv 0), (iv 0), (.slice none 0 0), (iv 0), (iv 0), (.slice none 0 0)] 46), (6, bx b138 #[(iv 0), (sv ⟨#[]⟩), (iv 0), (iv 0), (.slice none 0 0), (iv 0), (iv 0), (.slice none 0 0)] 46)])
   refine Dr.one 10 (by kernel_rfl) ?_
   refine St.store 10 5 (cs := [(iv x133.Kind), (sv x133.Name), (iv x133.At.X), (iv x133.At.Y), (.slice Au134_0 (x133.Points).length cu134_0), (iv x133.NX), (iv x133.NY), (.slice Au134_1 (x133.Steps).length cu134_1)]) [(iv x133.Kind), (sv x133.Name), (iv x133.At.X), (iv x133.At.Y), (.slice Au134_0 (x133.Points).length cu134_0), (iv x133.NX), (iv x133.NY), (.slice Au134_1 (x133.Steps).length cu134_1)] rfl (wn rfl) (.inr ⟨by simp, hb137⟩) rfl rfl rfl rfl sz_46 rfl rfl rfl ?_
   refine Dr.tail (by kernel_rfl) ?_
   refine Tr.store 6 (cs := [(iv x135.Kind), (sv x135.Name), (iv x135.At.X), (iv x135.At.Y), (.slice Au136_0 (x135.Points).length cu136_0), (iv x135.NX), (iv x135.NY), (.slice Au136_1 (x135.Steps).length cu136_1)]) [(iv x135.Kind), (sv x135.Name), (iv x135.At.X), (iv x135.At.Y), (.slice Au136_0 (x135.Points).length cu136_0), (iv x135.NX), (iv x135.NY), (.slice Au136_1 (x135.Steps).length cu136_1)] (wn rfl) rfl rfl rfl rfl sz_46 rfl rfl rfl ?_
   refine Tr.nil (Tr.normThen ?_)
   refine Tr.sr ?_
   refine Tr.va rfl (fun _ _ h1 h2 => run_fieldAddr fo_46_0 (h1.ev rfl)) ?_
   refine Tr.va rfl (fun _ _ h1 h2 => run_load1 ag_3 (h1.ev rfl) (rdb h2 (vs := [(iv x133.Kind), (sv x133.Name), (iv x133.At.X), (iv x133.At.Y), (.slice Au134_0 (x133.Points).length cu134_0), (iv x133.NX), (iv x133.NY), (.slice Au134_1 (x133.Steps).length cu134_1)]) (k := 5) rfl 0) rfl) ?_
   refine Tr.va rfl (fun _ _ h1 h2 => run_fieldAddr fo_46_0 (h1.ev rfl)) ?_
   refine Tr.va rfl (fun _ _ h1 h2 => run_load1 ag_3 (h1.ev rfl) (rdb h2 (vs := [(iv x135.Kind), (sv x135.Name), (iv x135.At.X), (iv x135.At.Y), (.slice Au136_0 (x135.Points).length cu136_0), (iv x135.NX), (iv x135.NY), (.slice Au136_1 (x135.Steps).length cu136_1)]) (k := 6) rfl 0) rfl) ?_
   refine Tr.va rfl (fun _ _ h1 h2 => run_neq (h1.ev rfl) (h1.ev rfl)) ?_
   refine Tr.mv rfl rfl ?_
   refine Tr.mid0 6 [(0, (.slice Ap0_0 (p0).length cp0_0)), (1, (.slice Ap1_0 (p1).length cp1_0)), (5, (iv x131)), (6, (.pointer (some ⟨b137, 0, none⟩))), (7, (.pointer (some ⟨b138, 0, none⟩))), (38, (.bool ((x133.Kind != x135.Kind) || (!sEq x133.Name x135.Name))))] [(5, bx b137 #[(iv x133.Kind), (sv x133.Name), (iv x133.At.X), (iv x133.At.Y), (.slice Au134_0 (x133.Points).length cu134_0), (iv x133.NX), (iv x133.NY), (.slice Au134_1 (x133.Steps).length cu134_1)] 46), (6, bx b138 #[(iv x135.Kind), (sv x135.Name), (iv x135.At.X), (iv x135.At.Y), (.slice Au136_0 (x135.Points).length cu136_0), (iv x135.NX), (iv x135.NY), (.slice Au136_1 (x135.Steps).length cu136_1)] 46)] ?_ ?_
   ·cases hg144 : (x133.Kind != x135.Kind)
    ·refine Tr.val (wg rfl rfl rfl) rfl (fun _ _ h1 h2 => run_fieldAddr fo_46_1 (h1.ev rfl)) ?_
     refine Tr.val (wg rfl rfl rfl) rfl (fun _ _ h1 h2 => run_load1 ag_9 (h1.ev rfl) (rdb h2 (vs := [(iv x133.Kind), (sv x133.Name), (iv x133.At.X), (iv x133.At.Y), (.slice Au134_0 (x133.Points).length cu134_0), (iv x133.NX), (iv x133.NY), (.slice Au134_1 (x133.Steps).length cu134_1)]) (k := 5) rfl 1) rfl) ?_
     refine Tr.val (wg rfl rfl rfl) rfl (fun _ _ h1 h2 => run_fieldAddr fo_46_1 (h1.ev rfl)) ?_
     refine Tr.val (wg rfl rfl rfl) rfl (fun _ _ h1 h2 => run_load1 ag_9 (h1.ev rfl) (rdb h2 (vs := [(iv x135.Kind), (sv x135.Name), (iv x135.At.X), (iv x135.At.Y), (.slice Au136_0 (x135.Points).length cu136_0), (iv x135.NX), (iv x135.NY), (.slice Au136_1 (x135.Steps).length cu136_1)]) (k := 6) rfl 1) rfl) ?_
     refine Tr.val (wg rfl rfl rfl) rfl (fun _ _ h1 h2 => run_neqS (h1.ev rfl) (h1.ev rfl)) ?_
     refine Tr.va rfl (fun _ _ h1 h2 => run_pickF (h1.ev rfl) (h1.ev rfl)) ?_
     exact Tr.nil (Tr.fin0 (.cons rfl (.cons rfl (.cons rfl (.cons rfl (.cons rfl (.cons rfl .nil)))))) (.cons rfl (.cons rfl .nil)))
    ·refine Tr.pass rfl rfl rfl rfl rfl (by decide) ?_
     refine Tr.pass rfl rfl rfl rfl rfl (by decide) ?_
     refine Tr.pass rfl rfl rfl rfl rfl (by decide) ?_
     refine Tr.pass rfl rfl rfl rfl rfl (by decide) ?_
     refine Tr.pass rfl rfl rfl rfl rfl (by decide) ?_
     refine Tr.va rfl (fun _ _ h1 h2 => run_pickT (h1.ev rfl) (h1.ev rfl)) ?_
     exact Tr.nil (Tr.fin0 (.cons rfl (.cons rfl (.cons rfl (.cons rfl (.cons rfl (.cons rfl .nil)))))) (.cons rfl (.cons rfl .nil)))
   ·show Tr _ _ (LF [(0, (.slice Ap0_0 (p0).length cp0_0)), (1, (.slice Ap1_0 (p1).length cp1_0)), (5, (iv x131)), (6, (.pointer (some ⟨b137, 0, none⟩))), (7, (.pointer (some ⟨b138, 0, none⟩))), (38, (.bool ((x133.Kind != x135.Kind) || (!sEq x133.Name x135.Name))))]) (LE [(5, bx b137 #[(iv x133.Kind), (sv x133.Name), (iv x133.At.X), (iv x133.At.Y), (.slice Au134_0 (x133.Points).length cu134_0), (iv x133.NX), (iv x133.NY), (.slice Au134_1 (x133.Steps).length cu134_1)] 46), (6, bx b138 #[(iv x135.Kind), (sv x135.Name), (iv x135.At.X), (iv x135.At.Y), (.slice Au136_0 (x135.Points).length cu136_0), (iv x135.NX), (iv x135.NY), (.slice Au136_1 (x135.Steps).length cu136_1)] 46)]) _
    refine Tr.mv rfl rfl ?_
    refine Tr.mid0 6 [(0, (.slice Ap0_0 (p0).length cp0_0)), (1, (.slice Ap1_0 (p1).length cp1_0)), (5, (iv x131)), (6, (.pointer (some ⟨b137, 0, none⟩))), (7, (.pointer (some ⟨b138, 0, none⟩))), (45, (.bool (((x133.Kind != x135.Kind) || (!sEq x133.Name x135.Name)) || (!(eqTPoint x133.At x135.At)))))] [(5, bx b137 #[(iv x133.Kind), (sv x133.Name), (iv x133.At.X), (iv x133.At.Y), (.slice Au134_0 (x133.Points).length cu134_0), (iv x133.NX), (iv x133.NY), (.slice Au134_1 (x133.Steps).length cu134_1)] 46), (6, bx b138 #[(iv x135.Kind), (sv x135.Name), (iv x135.At.X), (iv x135.At.Y), (.slice Au136_0 (x135.Points).length cu136_0), (iv x135.NX), (iv x135.NY), (.slice Au136_1 (x135.Steps).length cu136_1)] 46)] ?_ ?_
    ·cases hg144 : ((x133.Kind != x135.Kind) || (!sEq x133.Name x135.Name))
     ·refine Tr.val (wg rfl rfl rfl) rfl (fun _ _ h1 h2 => run_fieldAddr fo_46_2 (h1.ev rfl)) ?_
      refine Tr.val (wg rfl rfl rfl) rfl (fun _ _ h1 h2 => run_loadN (cs := [(iv x133.At.X), (iv x133.At.Y)]) ag_27 sz_27 (h1.ev rfl) (CellsAt.take (rdb h2 (vs := [(iv x133.Kind), (sv x133.Name), (iv x133.At.X), (iv x133.At.Y), (.slice Au134_0 (x133.Points).length cu134_0), (iv x133.NX), (iv x133.NY), (.slice Au134_1 (x133.Steps).length cu134_1)]) (k := 5) rfl 2) 2) rfl) ?_
      refine Tr.val (wg rfl rfl rfl) rfl (fun _ _ h1 h2 => run_fieldAddr fo_46_2 (h1.ev rfl)) ?_
      refine Tr.val (wg rfl rfl rfl) rfl (fun _ _ h1 h2 => run_loadN (cs := [(iv x135.At.X), (iv x135.At.Y)]) ag_27 sz_27 (h1.ev rfl) (CellsAt.take (rdb h2 (vs := [(iv x135.Kind), (sv x135.Name), (iv x135.At.X), (iv x135.At.Y), (.slice Au136_0 (x135.Points).length cu136_0), (iv x135.NX), (iv x135.NY), (.slice Au136_1 (x135.Steps).length cu136_1)]) (k := 6) rfl 2) 2) rfl) ?_
      refine Tr.val (wg rfl rfl rfl) rfl (fun _ _ h1 h2 => run_neq_27 x133.At x135.At (h1.ev rfl) (h1.ev rfl)) ?_
      refine Tr.va rfl (fun _ _ h1 h2 => run_pickF (h1.ev rfl) (h1.ev rfl)) ?_
      exact Tr.nil (Tr.fin0 (.cons rfl (.cons rfl (.cons rfl (.cons rfl (.cons rfl (.cons rfl .nil)))))) (.cons rfl (.cons rfl .nil)))
     ·refine Tr.pass rfl rfl rfl rfl rfl (by decide) ?_
      refine Tr.pass rfl rfl rfl rfl rfl (by decide) ?_
      refine Tr.pass rfl rfl rfl rfl rfl (by decide) ?_
      refine Tr.pass rfl rfl rfl rfl rfl (by decide) ?_
      refine Tr.pass rfl rfl rfl rfl rfl (by decide) ?_
      refine Tr.va rfl (fun _ _ h1 h2 => run_pickT (h1.ev rfl) (h1.ev rfl)) ?_
      exact Tr.nil (Tr.fin0 (.cons rfl (.cons rfl (.cons rfl (.cons rfl (.cons rfl (.cons rfl .nil)))))) (.cons rfl (.cons rfl .nil)))
    ·show Tr _ _ (LF [(0, (.slice Ap0_0 (p0).length cp0_0)), (1, (.slice Ap1_0 (p1).length cp1_0)), (5, (iv x131)), (6, (.pointer (some ⟨b137, 0, none⟩))), (7, (.pointer (some ⟨b138, 0, none⟩))), (45, (.bool (((x133.Kind != x135.Kind) || (!sEq x133.Name x135.Name)) || (!(eqTPoint x133.At x135.At)))))]) (LE [(5, bx b137 #[(iv x133.Kind), (sv x133.Name), (iv x133.At.X), (iv x133.At.Y), (.slice Au134_0 (x133.Points).length cu134_0), (iv x133.NX), (iv x133.NY), (.slice Au134_1 (x133.Steps).length cu134_1)] 46), (6, bx b138 #[(iv x135.Kind), (sv x135.Name), (iv x135.At.X), (iv x135.At.Y), (.slice Au136_0 (x135.Points).length cu136_0), (iv x135.NX), (iv x135.NY), (.slice Au136_1 (x135.Steps).length cu136_1)] 46)]) _
     refine Tr.mv rfl rfl ?_
     refine Tr.mid0 6 [(0, (.slice Ap0_0 (p0).length cp0_0)), (1, (.slice Ap1_0 (p1).length cp1_0)), (5, (iv x131)), (6, (.pointer (some ⟨b137, 0, none⟩))), (7, (.pointer (some ⟨b138, 0, none⟩))), (52, (.bool ((((x133.Kind != x135.Kind) || (!sEq x133.Name x135.Name)) || (!(eqTPoint x133.At x135.At))) || (x133.NX != x135.NX))))] [(5, bx b137 #[(iv x133.Kind), (sv x133.Name), (iv x133.At.X), (iv x133.At.Y), (.slice Au134_0 (x133.Points).length cu134_0), (iv x133.NX), (iv x133.NY), (.slice Au134_1 (x133.Steps).length cu134_1)] 46), (6, bx b138 #[(iv x135.Kind), (sv x135.Name), (iv x135.At.X), (iv x135.At.Y), (.slice Au136_0 (x135.Points).length cu136_0), (iv x135.NX), (iv x135.NY), (.slice Au136_1 (x135.Steps).length cu136_1)] 46)] ?_ ?_
     ·cases hg144 : (((x133.Kind != x135.Kind) || (!sEq x133.Name x135.Name)) || (!(eqTPoint x133.At x135.At)))
      ·refine Tr.val (wg rfl rfl rfl) rfl (fun _ _ h1 h2 => run_fieldAddr fo_46_4 (h1.ev rfl)) ?_
       refine Tr.val (wg rfl rfl rfl) rfl (fun _ _ h1 h2 => run_load1 ag_3 (h1.ev rfl) (rdb h2 (vs := [(iv x133.Kind), (sv x133.Name), (iv x133.At.X), (iv x133.At.Y), (.slice Au134_0 (x133.Points).length cu134_0), (iv x133.NX), (iv x133.NY), (.slice Au134_1 (x133.Steps).length cu134_1)]) (k := 5) rfl 5) rfl) ?_
       refine Tr.val (wg rfl rfl rfl) rfl (fun _ _ h1 h2 => run_fieldAddr fo_46_4 (h1.ev rfl)) ?_
       refine Tr.val (wg rfl rfl rfl) rfl (fun _ _ h1 h2 => run_load1 ag_3 (h1.ev rfl) (rdb h2 (vs := [(iv x135.Kind), (sv x135.Name), (iv x135.At.X), (iv x135.At.Y), (.slice Au136_0 (x135.Points).length cu136_0), (iv x135.NX), (iv x135.NY), (.slice Au136_1 (x135.Steps).length cu136_1)]) (k := 6) rfl 5) rfl) ?_
       refine Tr.val (wg rfl rfl rfl) rfl (fun _ _ h1 h2 => run_neq (h1.ev rfl) (h1.ev rfl)) ?_
       refine Tr.va rfl (fun _ _ h1 h2 => run_pickF (h1.ev rfl) (h1.ev rfl)) ?_
       exact Tr.nil (Tr.fin0 (.cons rfl (.cons rfl (.cons rfl (.cons rfl (.cons rfl (.cons rfl .nil)))))) (.cons rfl (.cons rfl .nil)))
      ·refine Tr.pass rfl rfl rfl rfl rfl (by decide) ?_
       refine Tr.pass rfl rfl rfl rfl rfl (by decide) ?_
       refine Tr.pass rfl rfl rfl rfl rfl (by decide) ?_
       refine Tr.pass rfl rfl rfl rfl rfl (by decide) ?_
       refine Tr.pass rfl rfl rfl rfl rfl (by decide) ?_
       refine Tr.va rfl (fun _ _ h1 h2 => run_pickT (h1.ev rfl) (h1.ev rfl)) ?_
       exact Tr.nil (Tr.fin0 (.cons rfl (.cons rfl (.cons rfl (.cons rfl (.cons rfl (.cons rfl .nil)))))) (.cons rfl (.cons rfl .nil)))
     ·show Tr _ _ (LF [(0, (.slice Ap0_0 (p0).length cp0_0)), (1, (.slice Ap1_0 (p1).length cp1_0)), (5, (iv x131)), (6, (.pointer (some ⟨b137, 0, none⟩))), (7, (.pointer (some ⟨b138, 0, none⟩))), (52, (.bool ((((x133.Kind != x135.Kind) || (!sEq x133.Name x135.Name)) || (!(eqTPoint x133.At x135.At))) || (x133.NX != x135.NX))))]) (LE [(5, bx b137 #[(iv x133.Kind), (sv x133.Name), (iv x133.At.X), (iv x133.At.Y), (.slice Au134_0 (x133.Points).length cu134_0), (iv x133.NX), (iv x133.NY), (.slice Au134_1 (x133.Steps).length cu134_1)] 46), (6, bx b138 #[(iv x135.Kind), (sv x135.Name), (iv x135.At.X), (iv x135.At.Y), (.slice Au136_0 (x135.Points).length cu136_0), (iv x135.NX), (iv x135.NY), (.slice Au136_1 (x135.Steps).length cu136_1)] 46)]) _
      refine Tr.mv rfl rfl ?_
      refine Tr.mid0 6 [(0, (.slice Ap0_0 (p0).length cp0_0)), (1, (.slice Ap1_0 (p1).length cp1_0)), (5, (iv x131)), (6, (.pointer (some ⟨b137, 0, none⟩))), (7, (.pointer (some ⟨b138, 0, none⟩))), (59, (.bool (((((x133.Kind != x135.Kind) || (!sEq x133.Name x135.Name)) || (!(eqTPoint x133.At x135.At))) || (x133.NX != x135.NX)) || (x133.NY != x135.NY))))] [(5, bx b137 #[(iv x133.Kind), (sv x133.Name), (iv x133.At.X), (iv x133.At.Y), (.slice Au134_0 (x133.Points).length cu134_0), (iv x133.NX), (iv x133.NY), (.slice Au134_1 (x133.Steps).length cu134_1)] 46), (6, bx b138 #[(iv x135.Kind), (sv x135.Name), (iv x135.At.X), (iv x135.At.Y), (.slice Au136_0 (x135.Points).length cu136_0), (iv x135.NX), (iv x135.NY), (.slice Au136_1 (x135.Steps).length cu136_1)] 46)] ?_ ?_
      ·cases hg144 : ((((x133.Kind != x135.Kind) || (!sEq x133.Name x135.Name)) || (!(eqTPoint x133.At x135.At))) || (x133.NX != x135.NX))
       ·refine Tr.val (wg rfl rfl rfl) rfl (fun _ _ h1 h2 => run_fieldAddr fo_46_5 (h1.ev rfl)) ?_
        refine Tr.val (wg rfl rfl rfl) rfl (fun _ _ h1 h2 => run_load1 ag_3 (h1.ev rfl) (rdb h2 (vs := [(iv x133.Kind), (sv x133.Name), (iv x133.At.X), (iv x133.At.Y), (.slice Au134_0 (x133.Points).length cu134_0), (iv x133.NX), (iv x133.NY), (.slice Au134_1 (x133.Steps).length cu134_1)]) (k := 5) rfl 6) rfl) ?_
        refine Tr.val (wg rfl rfl rfl) rfl (fun _ _ h1 h2 => run_fieldAddr fo_46_5 (h1.ev rfl)) ?_
        refine Tr.val (wg rfl rfl rfl) rfl (fun _ _ h1 h2 => run_load1 ag_3 (h1.ev rfl) (rdb h2 (vs := [(iv x135.Kind), (sv x135.Name), (iv x135.At.X), (iv x135.At.Y), (.slice Au136_0 (x135.Points).length cu136_0), (iv x135.NX), (iv x135.NY), (.slice Au136_1 (x135.Steps).length cu136_1)]) (k := 6) rfl 6) rfl) ?_
        refine Tr.val (wg rfl rfl rfl) rfl (fun _ _ h1 h2 => run_neq (h1.ev rfl) (h1.ev rfl)) ?_
        refine Tr.va rfl (fun _ _ h1 h2 => run_pickF (h1.ev rfl) (h1.ev rfl)) ?_
        exact Tr.nil (Tr.fin0 (.cons rfl (.cons rfl (.cons rfl (.cons rfl (.cons rfl (.cons rfl .nil)))))) (.cons rfl (.cons rfl .nil)))
       ·refine Tr.pass rfl rfl rfl rfl rfl (by decide) ?_
        refine Tr.pass rfl rfl rfl rfl rfl (by decide) ?_
        refine Tr.pass rfl rfl rfl rfl rfl (by decide) ?_
        refine Tr.pass rfl rfl rfl rfl rfl (by decide) ?_
        refine Tr.pass rfl rfl rfl rfl rfl (by decide) ?_
        refine Tr.va rfl (fun _ _ h1 h2 => run_pickT (h1.ev rfl) (h1.ev rfl)) ?_
        exact Tr.nil (Tr.fin0 (.cons rfl (.cons rfl (.cons rfl (.cons rfl (.cons rfl (.cons rfl .nil)))))) (.cons rfl (.cons rfl .nil)))
      ·show Tr _ _ (LF [(0, (.slice Ap0_0 (p0).length cp0_0)), (1, (.slice Ap1_0 (p1).length cp1_0)), (5, (iv x131)), (6, (.pointer (some ⟨b137, 0, none⟩))), (7, (.pointer (some ⟨b138, 0, none⟩))), (59, (.bool (((((x133.Kind != x135.Kind) || (!sEq x133.Name x135.Name)) || (!(eqTPoint x133.At x135.At))) || (x133.NX != x135.NX)) || (x133.NY != x135.NY))))]) (LE [(5, bx b137 #[(iv x133.Kind), (sv x133.Name), (iv x133.At.X), (iv x133.At.Y), (.slice Au134_0 (x133.Points).length cu134_0), (iv x133.NX), (iv x133.NY), (.slice Au134_1 (x133.Steps).length cu134_1)] 46), (6, bx b138 #[(iv x135.Kind), (sv x135.Name), (iv x135.At.X), (iv x135.At.Y), (.slice Au136_0 (x135.Points).length cu136_0), (iv x135.NX), (iv x135.NY), (.slice Au136_1 (x135.Steps).length cu136_1)] 46)]) _
       refine Tr.mv rfl rfl ?_
       obtain ⟨g140, hg140, H⟩ := bnd H
       refine Tr.mid0 7 [(0, (.slice Ap0_0 (p0).length cp0_0)), (1, (.slice Ap1_0 (p1).length cp1_0)), (5, (iv x131)), (6, (.pointer (some ⟨b137, 0, none⟩))), (7, (.pointer (some ⟨b138, 0, none⟩))), (67, (.bool g140))] [(5, bx b137 #[(iv x133.Kind), (sv x133.Name), (iv x133.At.X), (iv x133.At.Y), (.slice Au134_0 (x133.Points).length cu134_0), (iv x133.NX), (iv x133.NY), (.slice Au134_1 (x133.Steps).length cu134_1)] 46), (6, bx b138 #[(iv x135.Kind), (sv x135.Name), (iv x135.At.X), (iv x135.At.Y), (.slice Au136_0 (x135.Points).length cu136_0), (iv x135.NX), (iv x135.NY), (.slice Au136_1 (x135.Steps).length cu136_1)] 46)] ?_ ?_
       ·cases hg144 : (((((x133.Kind != x135.Kind) || (!sEq x133.Name x135.Name)) || (!(eqTPoint x133.At x135.At))) || (x133.NX != x135.NX)) || (x133.NY != x135.NY))
        ·rw [hg144] at hg140
         rw [if_neg (by decide)] at hg140
         have H := hg140
         refine Tr.val (wg rfl rfl rfl) rfl (fun _ _ h1 h2 => run_fieldAddr fo_46_3 (h1.ev rfl)) ?_
         refine Tr.val (wg rfl rfl rfl) rfl (fun _ _ h1 h2 => run_load1 ag_44 (h1.ev rfl) (rdb h2 (vs := [(iv x133.Kind), (sv x133.Name), (iv x133.At.X), (iv x133.At.Y), (.slice Au134_0 (x133.Points).length cu134_0), (iv x133.NX), (iv x133.NY), (.slice Au134_1 (x133.Steps).length cu134_1)]) (k := 5) rfl 4) rfl) ?_
         refine Tr.val (wg rfl rfl rfl) rfl (fun _ _ h1 h2 => run_fieldAddr fo_46_3 (h1.ev rfl)) ?_
         refine Tr.val (wg rfl rfl rfl) rfl (fun _ _ h1 h2 => run_load1 ag_44 (h1.ev rfl) (rdb h2 (vs := [(iv x135.Kind), (sv x135.Name), (iv x135.At.X), (iv x135.At.Y), (.slice Au136_0 (x135.Points).length cu136_0), (iv x135.NX), (iv x135.NY), (.slice Au136_1 (x135.Steps).length cu136_1)]) (k := 6) rfl 4) rfl) ?_
         obtain ⟨y141, hy141, H⟩ := bnd H
         refine Tr.call0 (r := (.bool y141)) (wg rfl rfl rfl) rfl Tryd.call57 (evl_cons rfl (evl_cons rfl evl_nil)) (fun W hW => F_etchhouseref3_samePoints_ok N x133.Points Au134_0 cu134_0 (hoku134_0.ext hW.extAll) x135.Points Au136_0 cu136_0 (hoku136_0.ext hW.extAll) y141 hy141 (HF.start _)) ?_
         refine Tr.val (wg rfl rfl rfl) rfl (fun _ _ h1 h2 => run_not (h1.ev rfl)) ?_
         refine Tr.va rfl (fun _ _ h1 h2 => run_pickF (h1.ev rfl) (h1.ev rfl)) ?_
         obtain rfl := Option.some.inj H
         exact Tr.nil (Tr.fin0 (.cons rfl (.cons rfl (.cons rfl (.cons rfl (.cons rfl (.cons rfl .nil)))))) (.cons rfl (.cons rfl .nil)))
        ·rw [hg144] at hg140
         rw [if_pos rfl] at hg140
         have H := hg140
         obtain rfl := Option.some.inj H
         refine Tr.pass rfl rfl rfl rfl rfl (by decide) ?_
         refine Tr.pass rfl rfl rfl rfl rfl (by decide) ?_
         refine Tr.pass rfl rfl rfl rfl rfl (by decide) ?_
         refine Tr.pass rfl rfl rfl rfl rfl (by decide) ?_
         refine Tr.pass rfl rfl rfl rfl rfl (by decide) ?_
         refine Tr.pass rfl rfl rfl rfl rfl (by decide) ?_
         refine Tr.va rfl (fun _ _ h1 h2 => run_pickT (h1.ev rfl) (h1.ev rfl)) ?_
         exact Tr.nil (Tr.fin0 (.cons rfl (.cons rfl (.cons rfl (.cons rfl (.cons rfl (.cons rfl .nil)))))) (.cons rfl (.cons rfl .nil)))
       ·show Tr _ _ (LF [(0, (.slice Ap0_0 (p0).length cp0_0)), (1, (.slice Ap1_0 (p1).length cp1_0)), (5, (iv x131)), (6, (.pointer (some ⟨b137, 0, none⟩))), (7, (.pointer (some ⟨b138, 0, none⟩))), (67, (.bool g140))]) (LE [(5, bx b137 #[(iv x133.Kind), (sv x133.Name), (iv x133.At.X), (iv x133.At.Y), (.slice Au134_0 (x133.Points).length cu134_0), (iv x133.NX), (iv x133.NY), (.slice Au134_1 (x133.Steps).length cu134_1)] 46), (6, bx b138 #[(iv x135.Kind), (sv x135.Name), (iv x135.At.X), (iv x135.At.Y), (.slice Au136_0 (x135.Points).length cu136_0), (iv x135.NX), (iv x135.NY), (.slice Au136_1 (x135.Steps).length cu136_1)] 46)]) _
        refine Tr.mv rfl rfl ?_
        obtain ⟨g143, hg143, H⟩ := bnd H
        refine Tr.mid0 7 [(0, (.slice Ap0_0 (p0).length cp0_0)), (1, (.slice Ap1_0 (p1).length cp1_0)), (5, (iv x131)), (75, (.bool g143))] [(5, bx b137 #[(iv x133.Kind), (sv x133.Name), (iv x133.At.X), (iv x133.At.Y), (.slice Au134_0 (x133.Points).length cu134_0), (iv x133.NX), (iv x133.NY), (.slice Au134_1 (x133.Steps).length cu134_1)] 46), (6, bx b138 #[(iv x135.Kind), (sv x135.Name), (iv x135.At.X), (iv x135.At.Y), (.slice Au136_0 (x135.Points).length cu136_0), (iv x135.NX), (iv x135.NY), (.slice Au136_1 (x135.Steps).length cu136_1)] 46)] ?_ ?_
        ·cases hg144 : g140
         ·rw [hg144] at hg143
          rw [if_neg (by decide)] at hg143
          have H := hg143
          refine Tr.val (wg rfl rfl rfl) rfl (fun _ _ h1 h2 => run_fieldAddr fo_46_6 (h1.ev rfl)) ?_
          refine Tr.val (wg rfl rfl rfl) rfl (fun _ _ h1 h2 => run_load1 ag_23 (h1.ev rfl) (rdb h2 (vs := [(iv x133.Kind), (sv x133.Name), (iv x133.At.X), (iv x133.At.Y), (.slice Au134_0 (x133.Points).length cu134_0), (iv x133.NX), (iv x133.NY), (.slice Au134_1 (x133.Steps).length cu134_1)]) (k := 5) rfl 7) rfl) ?_
          refine Tr.val (wg rfl rfl rfl) rfl (fun _ _ h1 h2 => run_fieldAddr fo_46_6 (h1.ev rfl)) ?_
          refine Tr.val (wg rfl rfl rfl) rfl (fun _ _ h1 h2 => run_load1 ag_23 (h1.ev rfl) (rdb h2 (vs := [(iv x135.Kind), (sv x135.Name), (iv x135.At.X), (iv x135.At.Y), (.slice Au136_0 (x135.Points).length cu136_0), (iv x135.NX), (iv x135.NY), (.slice Au136_1 (x135.Steps).length cu136_1)]) (k := 6) rfl 7) rfl) ?_
          obtain ⟨y144, hy144, H⟩ := bnd H
          refine Tr.call0 (r := (.bool y144)) (wg rfl rfl rfl) rfl Tryd.call33 (evl_cons rfl (evl_cons rfl evl_nil)) (fun W hW => hrec x133.Steps Au134_1 cu134_1 (hoku134_1.ext hW.extAll) x135.Steps Au136_1 cu136_1 (hoku136_1.ext hW.extAll) y144 hy144 (HF.start _)) ?_
          refine Tr.val (wg rfl rfl rfl) rfl (fun _ _ h1 h2 => run_not (h1.ev rfl)) ?_
          refine Tr.va rfl (fun _ _ h1 h2 => run_pickF (h1.ev rfl) (h1.ev rfl)) ?_
          obtain rfl := Option.some.inj H
          exact Tr.nil (Tr.fin0 (.cons rfl (.cons rfl (.cons rfl (.cons rfl .nil)))) (.cons rfl (.cons rfl .nil)))
         ·rw [hg144] at hg143
          rw [if_pos rfl] at hg143
          have H := hg143
          obtain rfl := Option.some.inj H
          refine Tr.pass rfl rfl rfl rfl rfl (by decide) ?_
          refine Tr.pass rfl rfl rfl rfl rfl (by decide) ?_
          refine Tr.pass rfl rfl rfl rfl rfl (by decide) ?_
          refine Tr.pass rfl rfl rfl rfl rfl (by decide) ?_
          refine Tr.pass rfl rfl rfl rfl rfl (by decide) ?_
          refine Tr.pass rfl rfl rfl rfl rfl (by decide) ?_
          refine Tr.va rfl (fun _ _ h1 h2 => run_pickT (h1.ev rfl) (h1.ev rfl)) ?_
          exact Tr.nil (Tr.fin0 (.cons rfl (.cons rfl (.cons rfl (.cons rfl .nil)))) (.cons rfl (.cons rfl .nil)))
        ·show Tr _ _ (LF [(0, (.slice Ap0_0 (p0).length cp0_0)), (1, (.slice Ap1_0 (p1).length cp1_0)), (5, (iv x131)), (75, (.bool g143))]) (LE [(5, bx b137 #[(iv x133.Kind), (sv x133.Name), (iv x133.At.X), (iv x133.At.Y), (.slice Au134_0 (x133.Points).length cu134_0), (iv x133.NX), (iv x133.NY), (.slice Au134_1 (x133.Steps).length cu134_1)] 46), (6, bx b138 #[(iv x135.Kind), (sv x135.Name), (iv x135.At.X), (iv x135.At.Y), (.slice Au136_0 (x135.Points).length cu136_0), (iv x135.NX), (iv x135.NY), (.slice Au136_1 (x135.Steps).length cu136_1)] 46)]) _
         refine Tr.nil (Tr.normThen ?_)
         refine Tr.cond rfl H (fun H => ?_) (fun H => ?_)
         ·refine Tr.sr ?_
          refine Tr.asg rfl rfl ?_
          refine Tr.nil (Tr.normThen ?_)
          refine Tr.ret (Tr.retBlock (Tr.retThen (Tr.retThen (Tr.retBlock (Tr.retThen ?_)))))
          obtain rfl := Option.some.inj H
          exact Tr.out (m := [(.bool false)]) [] (res_tmp rfl res_nil) (fun W hW => ⟨rfl, hW.low leB⟩)
         ·refine Tr.skip (Tr.normBlock (Tr.normThen ?_))
          refine Tr.region ?_
          refine Tr.mv rfl rfl ?_
          refine Tr.va rfl (fun _ _ h1 h2 => run_add (h1.ev rfl) (h1.ev rfl)) ?_
          refine Tr.asg rfl rfl ?_
          refine Tr.nil ?_
          exact Tr.backThen leL1 (w64 (x131 + 1)) H (.cons rfl (.cons rfl (.cons rfl .nil))) .nil
  ·refine Tr.exit (Tr.exitThen (Tr.exitThen (Tr.exitBlock (Tr.normThen ?_))))
   refine Tr.sr ?_
   refine Tr.asg rfl rfl ?_
   refine Tr.nil (Tr.normThen ?_)
   refine Tr.ret ?_
   obtain rfl := Option.some.inj H
   exact Tr.out (m := [(.bool true)]) [] (res_tmp rfl res_nil) (fun W hW => ⟨rfl, hW.low leB⟩)
theorem F_etchhouseref3_sameSteps_ok : ∀ (N : Nat) {w : Bs} (p0 : (List TPlotStep)) (Ap0_0 : Option Addr) (cp0_0 : Nat) (hp0_0 : Sl w.R w.W fl_TPlotStep Ap0_0 cp0_0 p0) (p1 : (List TPlotStep)) (Ap1_0 : Option Addr) (cp1_0 : Nat) (hp1_0 : Sl w.R w.W fl_TPlotStep Ap1_0 cp1_0 p1) (r : Bool) (H : F_etchhouseref3_sameSteps N p0 p1 = some r) (hE : HF w w.W E0), Calls Tryd.prog 33 [(.slice Ap0_0 (p0).length cp0_0), (.slice Ap1_0 (p1).length cp1_0)].toArray w.W fun e W' => e = .returned (.bool r) ∧ HF w W' E0
 | 0 => by intros; rename_i H _; cases H
 | N + 1 => F_etchhouseref3_sameSteps_b_ok N (F_etchhouseref3_sameSteps N) (F_etchhouseref3_sameSteps_ok N)

theorem F_etchhouseref1_SameRects_ok (N : Nat) {w : Bs} (p0 : (List TRect)) (Ap0_0 : Option Addr) (cp0_0 : Nat) (hp0_0 : Sl w.R w.W fl_TRect Ap0_0 cp0_0 p0) (p1 : (List TRect)) (Ap1_0 : Option Addr) (cp1_0 : Nat) (hp1_0 : Sl w.R w.W fl_TRect Ap1_0 cp1_0 p1) (r : Bool) (H : F_etchhouseref1_SameRects N p0 p1 = some r) (hE : HF w w.W E0) : Calls Tryd.prog 34 [(.slice Ap0_0 (p0).length cp0_0), (.slice Ap1_0 (p1).length cp1_0)].toArray w.W fun e W' => e = .returned (.bool r) ∧ HF w W' E0 := by
 unfold F_etchhouseref1_SameRects at H
 have leB := Bs.Le.refl w
 refine Tr.enter (n := 26) Tryd.func34 rfl rfl rfl hE ?_
 refine Tr.sr ?_
 refine Tr.asg rfl rfl ?_
 refine Tr.nil (Tr.normThen ?_)
 refine Tr.seq ?_
 refine Tr.sr ?_
 refine Tr.mv rfl rfl ?_
 refine Tr.va rfl (fun _ _ h1 h2 => run_len un_60 (h1.ev rfl)) ?_
 refine Tr.mv rfl rfl ?_
 refine Tr.va rfl (fun _ _ h1 h2 => run_len un_60 (h1.ev rfl)) ?_
 refine Tr.va rfl (fun _ _ h1 h2 => run_neq (h1.ev rfl) (h1.ev rfl)) ?_
 refine Tr.nil (Tr.normThen ?_)
 refine Tr.cond rfl H (fun H => ?_) (fun H => ?_)
 ·refine Tr.sr ?_
  refine Tr.asg rfl rfl ?_
  refine Tr.nil (Tr.normThen ?_)
  refine Tr.ret (Tr.retThen ?_)
  obtain rfl := Option.some.inj H
  exact Tr.out (m := [(.bool false)]) [] (res_tmp rfl res_nil) (fun W hW => ⟨rfl, hW.low leB⟩)
 ·refine Tr.skip (Tr.normThen ?_)
  refine Tr.seq ?_
  refine Tr.sr ?_
  refine Tr.asg rfl rfl ?_
  refine Tr.nil (Tr.normThen ?_)
  refine Tr.block ?_
  refine Tr.loop (σ := Int) (fun m w s => F_etchhouseref1_SameRects_L1 p0 p1 m s = some r) (fun s => [(0, (.slice Ap0_0 (p0).length cp0_0)), (1, (.slice Ap1_0 (p1).length cp1_0)), (5, (iv s))]) (fun s => []) N 0 H (.cons rfl (.cons rfl (.cons rfl .nil))) .nil (fun _ _ h => noSome (h)) ?_
  intro w leL1 mL1 x107 hs
  have H := hs
  replace H : F_etchhouseref1_SameRects_L1 p0 p1 (mL1 + 1) x107 = some r := H
  replace hp0_0 := hp0_0.leR leL1
  replace hp1_0 := hp1_0.leR leL1
  replace leB := leB.trans leL1
  rw [F_etchhouseref1_SameRects_L1.eq_2] at H
  show Tr _ _ (LF [(0, (.slice Ap0_0 (p0).length cp0_0)), (1, (.slice Ap1_0 (p1).length cp1_0)), (5, (iv x107))]) (LE []) _
  refine Tr.seq ?_
  refine Tr.sr ?_
  refine Tr.mv rfl rfl ?_
  refine Tr.mv rfl rfl ?_
  refine Tr.va rfl (fun _ _ h1 h2 => run_len un_60 (h1.ev rfl)) ?_
  refine Tr.va rfl (fun _ _ h1 h2 => run_lss (h1.ev rfl) (h1.ev rfl)) ?_
  refine Tr.nil (Tr.normThen ?_)
  refine Tr.cond rfl H (fun H => ?_) (fun H => ?_)
  ·refine Tr.skip (Tr.normThen ?_)
   refine Tr.seq ?_
   refine Tr.block ?_
   refine Tr.seq ?_
   refine Tr.draw (by kernel_rfl) (by kernel_rfl) ?_
   refine Tq.mv rfl rfl ?_
   refine Tq.mv rfl rfl ?_
   obtain ⟨x108, hx108, H⟩ := bnd H
   obtain ⟨hx1080, hx1081, hx1082⟩ := idx_some hx108
   refine Tq.va rfl (fun _ _ h1 h2 => run_indexAddr el_60 (h1.ev rfl) hp0_0.form (h1.ev rfl) hx1080 hx1081) ?_
   refine Tq.va rfl (fun _ _ h1 h2 => run_loadN (cs := [(iv x108.X0), (iv x108.Y0), (iv x108.X1), (iv x108.Y1)]) ag_57 sz_57 (h1.ev rfl) (CellsAt.take (rdF ef_TRect hp0_0 hx1082 h2) 4) rfl) ?_
   refine Tq.mv rfl rfl ?_
   refine Tq.mv rfl rfl ?_
   obtain ⟨x109, hx109, H⟩ := bnd H
   obtain ⟨hx1090, hx1091, hx1092⟩ := idx_some hx109
   refine Tq.va rfl (fun _ _ h1 h2 => run_indexAddr el_60 (h1.ev rfl) hp1_0.form (h1.ev rfl) hx1090 hx1091) ?_
   refine Tq.va rfl (fun _ _ h1 h2 => run_loadN (cs := [(iv x109.X0), (iv x109.Y0), (iv x109.X1), (iv x109.Y1)]) ag_57 sz_57 (h1.ev rfl) (CellsAt.take (rdF ef_TRect hp1_0 hx1092 h2) 4) rfl) ?_
   refine Tq.va rfl (fun _ _ h1 h2 => run_neq_57 x108 x109 (h1.ev rfl) (h1.ev rfl)) ?_
   refine Tq.nil (Tr.normThen ?_)
   refine Tr.cond rfl H (fun H => ?_) (fun H => ?_)
   ·refine Tr.sr ?_
    refine Tr.asg rfl rfl ?_
    refine Tr.nil (Tr.normThen ?_)
    refine Tr.ret (Tr.retBlock (Tr.retThen (Tr.retThen (Tr.retBlock (Tr.retThen ?_)))))
    obtain rfl := Option.some.inj H
    exact Tr.out (m := [(.bool false)]) [] (res_tmp rfl res_nil) (fun W hW => ⟨rfl, hW.low leB⟩)
   ·refine Tr.skip (Tr.normBlock (Tr.normThen ?_))
    refine Tr.region ?_
    refine Tr.mv rfl rfl ?_
    refine Tr.va rfl (fun _ _ h1 h2 => run_add (h1.ev rfl) (h1.ev rfl)) ?_
    refine Tr.asg rfl rfl ?_
    refine Tr.nil ?_
    exact Tr.backThen leL1 (w64 (x107 + 1)) H (.cons rfl (.cons rfl (.cons rfl .nil))) .nil
  ·refine Tr.exit (Tr.exitThen (Tr.exitThen (Tr.exitBlock (Tr.normThen ?_))))
   refine Tr.sr ?_
   refine Tr.asg rfl rfl ?_
   refine Tr.nil (Tr.normThen ?_)
   refine Tr.ret ?_
   obtain rfl := Option.some.inj H
   exact Tr.out (m := [(.bool true)]) [] (res_tmp rfl res_nil) (fun W hW => ⟨rfl, hW.low leB⟩)

theorem F_etchhouseref3_SamePlot_ok (N : Nat) {w : Bs} (p0 : TPlot) (Ap0_0 : Option Addr) (cp0_0 : Nat) (hp0_0 : Sl w.R w.W fl_TPlotTool Ap0_0 cp0_0 p0.Tools) (Ap0_1 : Option Addr) (cp0_1 : Nat) (hp0_1 : Sl w.R w.W fl_TPlotStep Ap0_1 cp0_1 p0.Steps) (p1 : TPlot) (Ap1_0 : Option Addr) (cp1_0 : Nat) (hp1_0 : Sl w.R w.W fl_TPlotTool Ap1_0 cp1_0 p1.Tools) (Ap1_1 : Option Addr) (cp1_1 : Nat) (hp1_1 : Sl w.R w.W fl_TPlotStep Ap1_1 cp1_1 p1.Steps) (r : Bool) (H : F_etchhouseref3_SamePlot N p0 p1 = some r) (hE : HF w w.W E0) : Calls Tryd.prog 8 [(.agg #[(iv p0.Unit), (.slice Ap0_0 (p0.Tools).length cp0_0), (.slice Ap0_1 (p0.Steps).length cp0_1)]), (.agg #[(iv p1.Unit), (.slice Ap1_0 (p1.Tools).length cp1_0), (.slice Ap1_1 (p1.Steps).length cp1_1)])].toArray w.W fun e W' => e = .returned (.bool r) ∧ HF w W' E0 := by
 unfold F_etchhouseref3_SamePlot at H
 have leB := Bs.Le.refl w
 refine Tr.enter (n := 64) Tryd.func8 rfl rfl rfl hE ?_
 refine Tr.sr ?_
 refine Tr.box 1 (cs := [(iv p0.Unit), (.slice Ap0_0 (p0.Tools).length cp0_0), (.slice Ap0_1 (p0.Steps).length cp0_1)]) (wn rfl) rfl rfl rfl fun b100 => ?_
 refine Tr.box 2 (cs := [(iv p1.Unit), (.slice Ap1_0 (p1.Tools).length cp1_0), (.slice Ap1_1 (p1.Steps).length cp1_1)]) (wn rfl) rfl rfl rfl fun b101 => ?_
 refine Tr.asg rfl rfl ?_
 refine Tr.nil (Tr.normThen ?_)
 refine Tr.seq ?_
 refine Tr.sr ?_
 refine Tr.va rfl (fun _ _ h1 h2 => run_fieldAddr fo_25_0 (h1.ev rfl)) ?_
 refine Tr.va rfl (fun _ _ h1 h2 => run_load1 ag_3 (h1.ev rfl) (rdb h2 (vs := [(iv p0.Unit), (.slice Ap0_0 (p0.Tools).length cp0_0), (.slice Ap0_1 (p0.Steps).length cp0_1)]) (k := 1) rfl 0) rfl) ?_
 refine Tr.va rfl (fun _ _ h1 h2 => run_fieldAddr fo_25_0 (h1.ev rfl)) ?_
 refine Tr.va rfl (fun _ _ h1 h2 => run_load1 ag_3 (h1.ev rfl) (rdb h2 (vs := [(iv p1.Unit), (.slice Ap1_0 (p1.Tools).length cp1_0), (.slice Ap1_1 (p1.Steps).length cp1_1)]) (k := 2) rfl 0) rfl) ?_
 refine Tr.va rfl (fun _ _ h1 h2 => run_neq (h1.ev rfl) (h1.ev rfl)) ?_
 refine Tr.mv rfl rfl ?_
 refine Tr.mid0 8 [(2, (.pointer (some ⟨b100, 0, none⟩))), (3, (.pointer (some ⟨b101, 0, none⟩))), (19, (.bool ((p0.Unit != p1.Unit) || ((p0.Tools.length : Int) != (p1.Tools.length : Int)))))] [(1, bx b100 #[(iv p0.Unit), (.slice Ap0_0 (p0.Tools).length cp0_0), (.slice Ap0_1 (p0.Steps).length cp0_1)] 25), (2, bx b101 #[(iv p1.Unit), (.slice Ap1_0 (p1.Tools).length cp1_0), (.slice Ap1_1 (p1.Steps).length cp1_1)] 25)] ?_ ?_
 ·cases hg153 : (p0.Unit != p1.Unit)
  ·refine Tr.val (wg rfl rfl rfl) rfl (fun _ _ h1 h2 => run_fieldAddr fo_25_1 (h1.ev rfl)) ?_
   refine Tr.val (wg rfl rfl rfl) rfl (fun _ _ h1 h2 => run_load1 ag_22 (h1.ev rfl) (rdb h2 (vs := [(iv p0.Unit), (.slice Ap0_0 (p0.Tools).length cp0_0), (.slice Ap0_1 (p0.Steps).length cp0_1)]) (k := 1) rfl 1) rfl) ?_
   refine Tr.val (wg rfl rfl rfl) rfl (fun _ _ h1 h2 => run_len un_22 (h1.ev rfl)) ?_
   refine Tr.val (wg rfl rfl rfl) rfl (fun _ _ h1 h2 => run_fieldAddr fo_25_1 (h1.ev rfl)) ?_
   refine Tr.val (wg rfl rfl rfl) rfl (fun _ _ h1 h2 => run_load1 ag_22 (h1.ev rfl) (rdb h2 (vs := [(iv p1.Unit), (.slice Ap1_0 (p1.Tools).length cp1_0), (.slice Ap1_1 (p1.Steps).length cp1_1)]) (k := 2) rfl 1) rfl) ?_
   refine Tr.val (wg rfl rfl rfl) rfl (fun _ _ h1 h2 => run_len un_22 (h1.ev rfl)) ?_
   refine Tr.val (wg rfl rfl rfl) rfl (fun _ _ h1 h2 => run_neq (h1.ev rfl) (h1.ev rfl)) ?_
   refine Tr.va rfl (fun _ _ h1 h2 => run_pickF (h1.ev rfl) (h1.ev rfl)) ?_
   exact Tr.nil (Tr.fin0 (.cons rfl (.cons rfl (.cons rfl .nil))) (.cons rfl (.cons rfl .nil)))
  ·refine Tr.pass rfl rfl rfl rfl rfl (by decide) ?_
   refine Tr.pass rfl rfl rfl rfl rfl (by decide) ?_
   refine Tr.pass rfl rfl rfl rfl rfl (by decide) ?_
   refine Tr.pass rfl rfl rfl rfl rfl (by decide) ?_
   refine Tr.pass rfl rfl rfl rfl rfl (by decide) ?_
   refine Tr.pass rfl rfl rfl rfl rfl (by decide) ?_
   refine Tr.pass rfl rfl rfl rfl rfl (by decide) ?_
   refine Tr.va rfl (fun _ _ h1 h2 => run_pickT (h1.ev rfl) (h1.ev rfl)) ?_
   exact Tr.nil (Tr.fin0 (.cons rfl (.cons rfl (.cons rfl .nil))) (.cons rfl (.cons rfl .nil)))
 ·show Tr _ _ (LF [(2, (.pointer (some ⟨b100, 0, none⟩))), (3, (.pointer (some ⟨b101, 0, none⟩))), (19, (.bool ((p0.Unit != p1.Unit) || ((p0.Tools.length : Int) != (p1.Tools.length : Int)))))]) (LE [(1, bx b100 #[(iv p0.Unit), (.slice Ap0_0 (p0.Tools).length cp0_0), (.slice Ap0_1 (p0.Steps).length cp0_1)] 25), (2, bx b101 #[(iv p1.Unit), (.slice Ap1_0 (p1.Tools).length cp1_0), (.slice Ap1_1 (p1.Steps).length cp1_1)] 25)]) _
  refine Tr.mv rfl rfl ?_
  obtain ⟨g103, hg103, H⟩ := bnd H
  refine Tr.mid0 7 [(2, (.pointer (some ⟨b100, 0, none⟩))), (3, (.pointer (some ⟨b101, 0, none⟩))), (27, (.bool g103))] [(1, bx b100 #[(iv p0.Unit), (.slice Ap0_0 (p0.Tools).length cp0_0), (.slice Ap0_1 (p0.Steps).length cp0_1)] 25), (2, bx b101 #[(iv p1.Unit), (.slice Ap1_0 (p1.Tools).length cp1_0), (.slice Ap1_1 (p1.Steps).length cp1_1)] 25)] ?_ ?_
  ·cases hg153 : ((p0.Unit != p1.Unit) || ((p0.Tools.length : Int) != (p1.Tools.length : Int)))
   ·rw [hg153] at hg103
    rw [if_neg (by decide)] at hg103
    have H := hg103
    refine Tr.val (wg rfl rfl rfl) rfl (fun _ _ h1 h2 => run_fieldAddr fo_25_2 (h1.ev rfl)) ?_
    refine Tr.val (wg rfl rfl rfl) rfl (fun _ _ h1 h2 => run_load1 ag_23 (h1.ev rfl) (rdb h2 (vs := [(iv p0.Unit), (.slice Ap0_0 (p0.Tools).length cp0_0), (.slice Ap0_1 (p0.Steps).length cp0_1)]) (k := 1) rfl 2) rfl) ?_
    refine Tr.val (wg rfl rfl rfl) rfl (fun _ _ h1 h2 => run_fieldAddr fo_25_2 (h1.ev rfl)) ?_
    refine Tr.val (wg rfl rfl rfl) rfl (fun _ _ h1 h2 => run_load1 ag_23 (h1.ev rfl) (rdb h2 (vs := [(iv p1.Unit), (.slice Ap1_0 (p1.Tools).length cp1_0), (.slice Ap1_1 (p1.Steps).length cp1_1)]) (k := 2) rfl 2) rfl) ?_
    obtain ⟨y104, hy104, H⟩ := bnd H
    refine Tr.call0 (r := (.bool y104)) (wg rfl rfl rfl) rfl Tryd.call33 (evl_cons rfl (evl_cons rfl evl_nil)) (fun W hW => F_etchhouseref3_sameSteps_ok N p0.Steps Ap0_1 cp0_1 (hp0_1.ext hW.extAll) p1.Steps Ap1_1 cp1_1 (hp1_1.ext hW.extAll) y104 hy104 (HF.start _)) ?_
    refine Tr.val (wg rfl rfl rfl) rfl (fun _ _ h1 h2 => run_not (h1.ev rfl)) ?_
    refine Tr.va rfl (fun _ _ h1 h2 => run_pickF (h1.ev rfl) (h1.ev rfl)) ?_
    obtain rfl := Option.some.inj H
    exact Tr.nil (Tr.fin0 (.cons rfl (.cons rfl (.cons rfl .nil))) (.cons rfl (.cons rfl .nil)))
   ·rw [hg153] at hg103
    rw [if_pos rfl] at hg103
    have H := hg103
    obtain rfl := Option.some.inj H
    refine Tr.pass rfl rfl rfl rfl rfl (by decide) ?_
    refine Tr.pass rfl rfl rfl rfl rfl (by decide) ?_
    refine Tr.pass rfl rfl rfl rfl rfl (by decide) ?_
    refine Tr.pass rfl rfl rfl rfl rfl (by decide) ?_
    refine Tr.pass rfl rfl rfl rfl rfl (by decide) ?_
    refine Tr.pass rfl rfl rfl rfl rfl (by decide) ?_
    refine Tr.va rfl (fun _ _ h1 h2 => run_pickT (h1.ev rfl) (h1.ev rfl)) ?_
    exact Tr.nil (Tr.fin0 (.cons rfl (.cons rfl (.cons rfl .nil))) (.cons rfl (.cons rfl .nil)))
  ·show Tr _ _ (LF [(2, (.pointer (some ⟨b100, 0, none⟩))), (3, (.pointer (some ⟨b101, 0, none⟩))), (27, (.bool g103))]) (LE [(1, bx b100 #[(iv p0.Unit), (.slice Ap0_0 (p0.Tools).length cp0_0), (.slice Ap0_1 (p0.Steps).length cp0_1)] 25), (2, bx b101 #[(iv p1.Unit), (.slice Ap1_0 (p1.Tools).length cp1_0), (.slice Ap1_1 (p1.Steps).length cp1_1)] 25)]) _
   refine Tr.nil (Tr.normThen ?_)
   refine Tr.cond rfl H (fun H => ?_) (fun H => ?_)
   ·refine Tr.sr ?_
    refine Tr.asg rfl rfl ?_
    refine Tr.nil (Tr.normThen ?_)
    refine Tr.ret (Tr.retThen ?_)
    obtain rfl := Option.some.inj H
    exact Tr.out (m := [(.bool false)]) [] (res_tmp rfl res_nil) (fun W hW => ⟨rfl, hW.low leB⟩)
   ·refine Tr.skip (Tr.normThen ?_)
    refine Tr.seq ?_
    refine Tr.sr ?_
    refine Tr.asg rfl rfl ?_
    refine Tr.nil (Tr.normThen ?_)
    refine Tr.block ?_
    refine Tr.loop (σ := Int) (fun m w s => F_etchhouseref3_SamePlot_L1 N p0 p1 m s = some r) (fun s => [(2, (.pointer (some ⟨b100, 0, none⟩))), (3, (.pointer (some ⟨b101, 0, none⟩))), (5, (iv s))]) (fun s => [(1, bx b100 #[(iv p0.Unit), (.slice Ap0_0 (p0.Tools).length cp0_0), (.slice Ap0_1 (p0.Steps).length cp0_1)] 25), (2, bx b101 #[(iv p1.Unit), (.slice Ap1_0 (p1.Tools).length cp1_0), (.slice Ap1_1 (p1.Steps).length cp1_1)] 25)]) N 0 H (.cons rfl (.cons rfl (.cons rfl .nil))) (.cons rfl (.cons rfl .nil)) (fun _ _ h => noSome (h)) ?_
    intro w leL1 mL1 x138 hs
    have H := hs
    replace H : F_etchhouseref3_SamePlot_L1 N p0 p1 (mL1 + 1) x138 = some r := H
    replace hp0_0 := hp0_0.leR leL1
    replace hp0_1 := hp0_1.leR leL1
    replace hp1_0 := hp1_0.leR leL1
    replace hp1_1 := hp1_1.leR leL1
    replace leB := leB.trans leL1
    rw [F_etchhouseref3_SamePlot_L1.eq_2] at H
    show Tr _ _ (LF [(2, (.pointer (some ⟨b100, 0, none⟩))), (3, (.pointer (some ⟨b101, 0, none⟩))), (5, (iv x138))]) (LE [(1, bx b100 #[(iv p0.Unit), (.slice Ap0_0 (p0.Tools).length cp0_0), (.slice Ap0_1 (p0.Steps).length cp0_1)] 25), (2, bx b101 #[(iv p1.Unit), (.slice Ap1_0 (p1.Tools).length cp1_0), (.slice Ap1_1 (p1.Steps).length cp1_1)] 25)]) _
    refine Tr.seq ?_
    refine Tr.sr ?_
    refine Tr.mv rfl rfl ?_
    refine Tr.va rfl (fun _ _ h1 h2 => run_fieldAddr fo_25_1 (h1.ev rfl)) ?_
    refine Tr.va rfl (fun _ _ h1 h2 => run_load1 ag_22 (h1.ev rfl) (rdb h2 (vs := [(iv p0.Unit), (.slice Ap0_0 (p0.Tools).length cp0_0), (.slice Ap0_1 (p0.Steps).length cp0_1)]) (k := 1) rfl 1) rfl) ?_
    refine Tr.va rfl (fun _ _ h1 h2 => run_len un_22 (h1.ev rfl)) ?_
    refine Tr.va rfl (fun _ _ h1 h2 => run_lss (h1.ev rfl) (h1.ev rfl)) ?_
    refine Tr.nil (Tr.normThen ?_)
    refine Tr.cond rfl H (fun H => ?_) (fun H => ?_)
    ·refine Tr.skip (Tr.normThen ?_)
     refine Tr.seq ?_
     refine Tr.block ?_
     refine Tr.seq ?_
     refine Tr.draw (by kernel_rfl) (by kernel_rfl) ?_
     refine Tq.va rfl (fun _ _ h1 h2 => run_fieldAddr fo_25_1 (h1.ev rfl)) ?_
     refine Tq.va rfl (fun _ _ h1 h2 => run_load1 ag_22 (h1.ev rfl) (rdb h2 (vs := [(iv p0.Unit), (.slice Ap0_0 (p0.Tools).length cp0_0), (.slice Ap0_1 (p0.Steps).length cp0_1)]) (k := 1) rfl 1) rfl) ?_
     refine Tq.mv rfl rfl ?_
     obtain ⟨x139, hx139, H⟩ := bnd H
     obtain ⟨hx1390, hx1391, hx1392⟩ := idx_some hx139
     obtain ⟨u140, hRu140, hoku140, hcu140⟩ := (hp0_0).el hx1392
     obtain ⟨Au140_0, cu140_0⟩ := u140
     have hoku140_0 := hoku140
     replace hoku140_0 : Sl w.R w.W fl_TRect Au140_0 cu140_0 x139.Rects := hoku140_0
     refine Tq.va rfl (fun _ _ h1 h2 => run_indexAddr el_22 (h1.ev rfl) hp0_0.form (h1.ev rfl) hx1390 hx1391) ?_
     refine Tq.va rfl (fun _ _ h1 h2 => run_fieldAddr fo_62_0 (h1.ev rfl)) ?_
     refine Tq.va rfl (fun _ _ h1 h2 => run_load1 ag_9 (h1.ev rfl) (CellsAt.drop (rdR hRu140 hcu140 h2) 0) rfl) ?_
     refine Tq.va rfl (fun _ _ h1 h2 => run_fieldAddr fo_25_1 (h1.ev rfl)) ?_
     refine Tq.va rfl (fun _ _ h1 h2 => run_load1 ag_22 (h1.ev rfl) (rdb h2 (vs := [(iv p1.Unit), (.slice Ap1_0 (p1.Tools).length cp1_0), (.slice Ap1_1 (p1.Steps).length cp1_1)]) (k := 2) rfl 1) rfl) ?_
     refine Tq.mv rfl rfl ?_
     obtain ⟨x141, hx141, H⟩ := bnd H
     obtain ⟨hx1410, hx1411, hx1412⟩ := idx_some hx141
     obtain ⟨u142, hRu142, hoku142, hcu142⟩ := (hp1_0).el hx1412
     obtain ⟨Au142_0, cu142_0⟩ := u142
     have hoku142_0 := hoku142
     replace hoku142_0 : Sl w.R w.W fl_TRect Au142_0 cu142_0 x141.Rects := hoku142_0
     refine Tq.va rfl (fun _ _ h1 h2 => run_indexAddr el_22 (h1.ev rfl) hp1_0.form (h1.ev rfl) hx1410 hx1411) ?_
     refine Tq.va rfl (fun _ _ h1 h2 => run_fieldAddr fo_62_0 (h1.ev rfl)) ?_
     refine Tq.va rfl (fun _ _ h1 h2 => run_load1 ag_9 (h1.ev rfl) (CellsAt.drop (rdR hRu142 hcu142 h2) 0) rfl) ?_
     refine Tq.va rfl (fun _ _ h1 h2 => run_neqS (h1.ev rfl) (h1.ev rfl)) ?_
     refine Tq.mv rfl rfl ?_
     obtain ⟨g148, hg148, H⟩ := bnd H
     refine Tq.mid 15 [(2, (.pointer (some ⟨b100, 0, none⟩))), (3, (.pointer (some ⟨b101, 0, none⟩))), (5, (iv x138)), (63, (.bool g148))] ?_ ?_
     ·cases hg153 : (!sEq x139.Name x141.Name)
      ·rw [hg153] at hg148
       rw [if_neg (by decide)] at hg148
       have H := hg148
       refine Tq.val (wg rfl rfl rfl) rfl (fun _ _ h1 h2 => run_fieldAddr fo_25_1 (h1.ev rfl)) ?_
       refine Tq.val (wg rfl rfl rfl) rfl (fun _ _ h1 h2 => run_load1 ag_22 (h1.ev rfl) (rdb h2 (vs := [(iv p0.Unit), (.slice Ap0_0 (p0.Tools).length cp0_0), (.slice Ap0_1 (p0.Steps).length cp0_1)]) (k := 1) rfl 1) rfl) ?_
       refine Tq.val (wg rfl rfl rfl) rfl (fun _ _ h1 h2 => run_move (h1.ev rfl)) ?_
       obtain ⟨x149, hx149, H⟩ := bnd H
       obtain ⟨hx1490, hx1491, hx1492⟩ := idx_some hx149
       obtain ⟨u150, hRu150, hoku150, hcu150⟩ := (hp0_0).el hx1492
       obtain ⟨Au150_0, cu150_0⟩ := u150
       have hoku150_0 := hoku150
       replace hoku150_0 : Sl w.R w.W fl_TRect Au150_0 cu150_0 x149.Rects := hoku150_0
       refine Tq.val (wg rfl rfl rfl) rfl (fun _ _ h1 h2 => run_indexAddr el_22 (h1.ev rfl) hp0_0.form (h1.ev rfl) hx1490 hx1491) ?_
       refine Tq.val (wg rfl rfl rfl) rfl (fun _ _ h1 h2 => run_fieldAddr fo_62_1 (h1.ev rfl)) ?_
       refine Tq.val (wg rfl rfl rfl) rfl (fun _ _ h1 h2 => run_load1 ag_60 (h1.ev rfl) (CellsAt.drop (rdR hRu150 hcu150 h2) 1) rfl) ?_
       refine Tq.val (wg rfl rfl rfl) rfl (fun _ _ h1 h2 => run_fieldAddr fo_25_1 (h1.ev rfl)) ?_
       refine Tq.val (wg rfl rfl rfl) rfl (fun _ _ h1 h2 => run_load1 ag_22 (h1.ev rfl) (rdb h2 (vs := [(iv p1.Unit), (.slice Ap1_0 (p1.Tools).length cp1_0), (.slice Ap1_1 (p1.Steps).length cp1_1)]) (k := 2) rfl 1) rfl) ?_
       refine Tq.val (wg rfl rfl rfl) rfl (fun _ _ h1 h2 => run_move (h1.ev rfl)) ?_
       obtain ⟨x151, hx151, H⟩ := bnd H
       obtain ⟨hx1510, hx1511, hx1512⟩ := idx_some hx151
       obtain ⟨u152, hRu152, hoku152, hcu152⟩ := (hp1_0).el hx1512
       obtain ⟨Au152_0, cu152_0⟩ := u152
       have hoku152_0 := hoku152
       replace hoku152_0 : Sl w.R w.W fl_TRect Au152_0 cu152_0 x151.Rects := hoku152_0
       refine Tq.val (wg rfl rfl rfl) rfl (fun _ _ h1 h2 => run_indexAddr el_22 (h1.ev rfl) hp1_0.form (h1.ev rfl) hx1510 hx1511) ?_
       refine Tq.val (wg rfl rfl rfl) rfl (fun _ _ h1 h2 => run_fieldAddr fo_62_1 (h1.ev rfl)) ?_
       refine Tq.val (wg rfl rfl rfl) rfl (fun _ _ h1 h2 => run_load1 ag_60 (h1.ev rfl) (CellsAt.drop (rdR hRu152 hcu152 h2) 1) rfl) ?_
       obtain ⟨y153, hy153, H⟩ := bnd H
       refine Tq.call0 (r := (.bool y153)) (wg rfl rfl rfl) rfl Tryd.call34 (evl_cons rfl (evl_cons rfl evl_nil)) (fun W hW => F_etchhouseref1_SameRects_ok N x149.Rects Au150_0 cu150_0 (hoku150_0.ext hW.extAll) x151.Rects Au152_0 cu152_0 (hoku152_0.ext hW.extAll) y153 hy153 (HF.start _)) ?_
       refine Tq.val (wg rfl rfl rfl) rfl (fun _ _ h1 h2 => run_not (h1.ev rfl)) ?_
       refine Tq.va rfl (fun _ _ h1 h2 => run_pickF (h1.ev rfl) (h1.ev rfl)) ?_
       obtain rfl := Option.some.inj H
       exact Tq.fin (.cons rfl (.cons rfl (.cons rfl (.cons rfl .nil))))
      ·rw [hg153] at hg148
       rw [if_pos rfl] at hg148
       have H := hg148
       obtain rfl := Option.some.inj H
       refine Tq.pass rfl rfl rfl rfl rfl (by decide) ?_
       refine Tq.pass rfl rfl rfl rfl rfl (by decide) ?_
       refine Tq.pass rfl rfl rfl rfl rfl (by decide) ?_
       refine Tq.pass rfl rfl rfl rfl rfl (by decide) ?_
       refine Tq.pass rfl rfl rfl rfl rfl (by decide) ?_
       refine Tq.pass rfl rfl rfl rfl rfl (by decide) ?_
       refine Tq.pass rfl rfl rfl rfl rfl (by decide) ?_
       refine Tq.pass rfl rfl rfl rfl rfl (by decide) ?_
       refine Tq.pass rfl rfl rfl rfl rfl (by decide) ?_
       refine Tq.pass rfl rfl rfl rfl rfl (by decide) ?_
       refine Tq.pass rfl rfl rfl rfl rfl (by decide) ?_
       refine Tq.pass rfl rfl rfl rfl rfl (by decide) ?_
       refine Tq.pass rfl rfl rfl rfl rfl (by decide) ?_
       refine Tq.pass rfl rfl rfl rfl rfl (by decide) ?_
       refine Tq.va rfl (fun _ _ h1 h2 => run_pickT (h1.ev rfl) (h1.ev rfl)) ?_
       exact Tq.fin (.cons rfl (.cons rfl (.cons rfl (.cons rfl .nil))))
     ·refine Tq.nil (Tr.normThen ?_)
      refine Tr.cond rfl H (fun H => ?_) (fun H => ?_)
      ·refine Tr.sr ?_
       refine Tr.asg rfl rfl ?_
       refine Tr.nil (Tr.normThen ?_)
       refine Tr.ret (Tr.retBlock (Tr.retThen (Tr.retThen (Tr.retBlock (Tr.retThen ?_)))))
       obtain rfl := Option.some.inj H
       exact Tr.out (m := [(.bool false)]) [] (res_tmp rfl res_nil) (fun W hW => ⟨rfl, hW.low leB⟩)
      ·refine Tr.skip (Tr.normBlock (Tr.normThen ?_))
       refine Tr.region ?_
       refine Tr.mv rfl rfl ?_
       refine Tr.va rfl (fun _ _ h1 h2 => run_add (h1.ev rfl) (h1.ev rfl)) ?_
       refine Tr.asg rfl rfl ?_
       refine Tr.nil ?_
       exact Tr.backThen leL1 (w64 (x138 + 1)) H (.cons rfl (.cons rfl (.cons rfl .nil))) (.cons rfl (.cons rfl .nil))
    ·refine Tr.exit (Tr.exitThen (Tr.exitThen (Tr.exitBlock (Tr.normThen ?_))))
     refine Tr.sr ?_
     refine Tr.asg rfl rfl ?_
     refine Tr.nil (Tr.normThen ?_)
     refine Tr.ret ?_
     obtain rfl := Option.some.inj H
     exact Tr.out (m := [(.bool true)]) [] (res_tmp rfl res_nil) (fun W hW => ⟨rfl, hW.low leB⟩)

theorem F_strconv_Itoa_ok {w : Bs} (p0 : Int) (r : ByteArray) (H : itoaS p0 = some r) (hE : HF w w.W E0) : Calls Tryd.prog 59 [(iv p0)].toArray w.W fun e W' => e = .returned (sv r) ∧ HF w W' E0 :=
 itoaS_rule (ρ := Tryd.itoa59_ren) Tryd.itoa59 H hE

end Go.Proofs.YtneghcpnehiffaaDoor
namespace Go.Proofs
open Go.Shelf
def Tryd.bld58_ren : Go.Shelf.Ren := ⟨fun | 166 => 58 | 240 => 71 | 276 => 83 | n => n, fun | 5 => 5 | 37 => 83 | 70 => 82 | 72 => 85 | 75 => 87 | 80 => 94 | 164 => 107 | n => n, fun n => n⟩
theorem Tryd.bld58 : Go.Proofs.Lays.n166 Tryd.prog Tryd.bld58_ren := {
 mixed := by kernel_rfl
 f166 := Tryd.func58.trans (congrArg some (by kernel_rfl))
 f240 := Tryd.func71.trans (congrArg some (by kernel_rfl))
 f276 := Tryd.func83.trans (congrArg some (by kernel_rfl))
 t0 := Tryd.underlying0
 a0 := Tryd.isAgg0
 z0 := Tryd.sizeOf0
 v0 := Tryd.zeroValue0
 t3 := Tryd.underlying3
 a3 := Tryd.isAgg3
 z3 := Tryd.sizeOf3
 v3 := Tryd.zeroValue3
 t4 := Tryd.underlying4
 a4 := Tryd.isAgg4
 z4 := Tryd.sizeOf4
 v4 := Tryd.zeroValue4
 t9 := Tryd.underlying9
 a9 := Tryd.isAgg9
 z9 := Tryd.sizeOf9
 v9 := Tryd.zeroValue9
 t20 := Tryd.underlying20
 a20 := Tryd.isAgg20
 z20 := Tryd.sizeOf20
 v20 := Tryd.zeroValue20
 t37 := Tryd.underlying83
 a37 := Tryd.isAgg83
 z37 := Tryd.sizeOf83
 v37 := Tryd.zeroValue83
 t70 := Tryd.underlying82
 a70 := Tryd.isAgg82
 z70 := Tryd.sizeOf82
 v70 := Tryd.zeroValue82
 t72 := Tryd.underlying85
 a72 := Tryd.isAgg85
 z72 := Tryd.sizeOf85
 v72 := Tryd.zeroValue85
 t75 := Tryd.underlying87
 a75 := Tryd.isAgg87
 z75 := Tryd.sizeOf87
 v75 := Tryd.zeroValue87
 t164 := Tryd.underlying107
 a164 := Tryd.isAgg107
 z164 := Tryd.sizeOf107
 v164 := Tryd.zeroValue107
}
end Go.Proofs
namespace Go.Proofs.YtneghcpnehiffaaDoor
open Go.RowKit
theorem bX58 : Builder.Extra Tryd.prog Tryd.bld58_ren where
 sizeBuilder := by kernel_rfl
 liesBuilder := by kernel_rfl
 t5 := Tryd.underlying5
 a5 := Tryd.isAgg5
 z5 := Tryd.sizeOf5
 v5 := Tryd.zeroValue5
 infoByte := by kernel_rfl
 cellsByte := by kernel_rfl
 sizeByte := by kernel_rfl
 neB5 := by decide
theorem F_strings_Builder_WriteString_ok {w : Bs} (p0 : ByteArray) (Ap0_0 : Option Addr) (cp0_0 : Nat) (bp0 : Nat) (p1 : ByteArray) (r : ByteArray) (H : sbW p0 p1 = some r) (hE : HF w w.W (LEn [sb 85 5 bp0 Ap0_0 cp0_0 p0])) : Calls Tryd.prog 58 [(.pointer (some ⟨bp0, 0, none⟩)), .string p1].toArray w.W fun e W' => ∃ u : (Option Addr × Nat), e = .returned (.tuple #[.int .i64 p1.size, .nilIface]) ∧ (True) ∧ HF w W' (LEn [sb 85 5 bp0 u.1 u.2 r]) :=
 sb_write (ρ := Tryd.bld58_ren) Tryd.bld58 bX58 H hE

theorem F_plot_points_ok {w : Bs} (p0 : (List TPoint)) (Ap0_0 : Option Addr) (cp0_0 : Nat) (hp0_0 : Sl w.R w.W fl_TPoint Ap0_0 cp0_0 p0) (r : ByteArray) (H : F_plot_points p0 = some r) (hE : HF w w.W E0) : Calls Tryd.prog 60 [(.slice Ap0_0 (p0).length cp0_0)].toArray w.W fun e W' => e = .returned (sv r) ∧ HF w W' E0 := by
 unfold F_plot_points at H
 have leB := Bs.Le.refl w
 refine Tr.enter (n := 25) Tryd.func60 rfl rfl rfl hE ?_
 refine Tr.sr ?_
 refine Tr.asg rfl rfl ?_
 refine Tr.nil (Tr.normThen ?_)
 refine Tr.sr ?_
 refine Tr.asg rfl rfl ?_
 refine Tr.nil (Tr.normThen ?_)
 refine Tr.seq ?_
 refine Tr.sr ?_
 refine Tr.mv rfl rfl ?_
 refine Tr.va rfl (fun _ _ h1 h2 => run_len un_44 (h1.ev rfl)) ?_
 refine Tr.mv rfl rfl ?_
 refine Tr.nil (Tr.normThen ?_)
 refine Tr.block ?_
 refine Tr.loop (σ := (List TPoint) × Nat × ByteArray) (fun m w s => m = s.1.length + 1 ∧ s.1 = List.drop s.2.1 p0 ∧ s.2.1 ≤ p0.length ∧ F_plot_points_L1 s.1 s.2.1 s.2.2 = some r) (fun s => [(3, (sv s.2.2)), (6, (.slice Ap0_0 (p0).length cp0_0)), (7, (iv (p0.length : Int))), (8, (iv (s.2.1 : Int)))]) (fun s => []) (p0.length + 1) (p0, 0, ByteArray.empty) ⟨rfl, rfl, Nat.zero_le _, H⟩ (.cons rfl (.cons rfl (.cons rfl (.cons rfl .nil)))) .nil (fun _ _ h => absurd h.1 (by simp)) ?_
 intro w leL1 m s hs
 obtain ⟨restL1, iL1, x122⟩ := s
 obtain ⟨hmL1, hdL1, hiL1, H⟩ := hs
 replace hdL1 : restL1 = List.drop iL1 p0 := hdL1
 replace H : F_plot_points_L1 restL1 iL1 x122 = some r := H
 replace hmL1 : m + 1 = restL1.length + 1 := hmL1
 replace hp0_0 := hp0_0.leR leL1
 replace leB := leB.trans leL1
 obtain rfl : m = restL1.length := by omega
 clear hmL1
 show Tr _ _ (LF [(3, (sv x122)), (6, (.slice Ap0_0 (p0).length cp0_0)), (7, (iv (p0.length : Int))), (8, (iv (iL1 : Int)))]) (LE []) _
 cases restL1 with
 | nil =>
  rw [F_plot_points_L1.eq_1] at H
  refine Tr.sr ?_
  refine Tr.va rfl (fun _ _ h1 h2 => run_lss (h1.ev rfl) (h1.ev rfl)) ?_
  refine Tr.nil (Tr.normThen ?_)
  refine Tr.seq ?_
  refine Tr.condF rfl (range_nil hdL1) ?_
  refine Tr.exit (Tr.exitThen (Tr.exitThen (Tr.exitBlock (Tr.normThen ?_))))
  refine Tr.sr ?_
  refine Tr.mv rfl rfl ?_
  refine Tr.asg rfl rfl ?_
  refine Tr.nil (Tr.normThen ?_)
  refine Tr.ret ?_
  obtain rfl := Option.some.inj H
  exact Tr.out (m := [(sv x122)]) [] (res_tmp rfl res_nil) (fun W hW => ⟨rfl, hW.low leB⟩)
 | cons xL1 restL1 =>
  rw [F_plot_points_L1.eq_2] at H
  refine Tr.sr ?_
  refine Tr.va rfl (fun _ _ h1 h2 => run_lss (h1.ev rfl) (h1.ev rfl)) ?_
  refine Tr.nil (Tr.normThen ?_)
  refine Tr.seq ?_
  refine Tr.condT rfl (range_on hdL1) ?_
  refine Tr.skip (Tr.normThen ?_)
  refine Tr.seq ?_
  refine Tr.block ?_
  refine Tr.sr ?_
  refine Tr.va rfl (fun _ _ h1 h2 => run_indexAddr el_44 (h1.ev rfl) hp0_0.form (h1.ev rfl) (Int.natCast_nonneg _) (range_lt hdL1)) ?_
  refine Tr.va rfl (fun _ _ h1 h2 => run_loadN (cs := [(iv xL1.X), (iv xL1.Y)]) ag_27 sz_27 (h1.ev rfl) (CellsAt.take (rdF ef_TPoint hp0_0 (range_at hdL1) h2) 2) rfl) ?_
  refine Tr.alloc 3 (wn rfl) rfl ze_27 fun b123 => ?_
  refine Tr.store 3 (cs := [(iv xL1.X), (iv xL1.Y)]) [(iv xL1.X), (iv xL1.Y)] (wn rfl) rfl rfl rfl rfl sz_27 rfl rfl rfl ?_
  refine Tr.nil (Tr.normThen ?_)
  refine Tr.draw (by kernel_rfl) (by kernel_rfl) ?_
  refine Tq.mv rfl rfl ?_
  refine Tq.va rfl (fun _ _ h1 h2 => run_fieldAddr fo_27_0 (h1.ev rfl)) ?_
  refine Tq.va rfl (fun _ _ h1 h2 => run_load1 ag_3 (h1.ev rfl) (rdb h2 (vs := [(iv xL1.X), (iv xL1.Y)]) (k := 3) rfl 0) rfl) ?_
  obtain ⟨y124, hy124, H⟩ := bnd H
  refine Tq.call0 (r := (sv y124)) (wn rfl) rfl Tryd.call59 (evl_cons rfl evl_nil) (fun W hW => F_strconv_Itoa_ok xL1.X y124 hy124 (HF.start _)) ?_
  obtain ⟨t125, ht125, H⟩ := bnd H
  refine Tq.va rfl (fun _ _ h1 h2 => run_catS (h1.ev rfl) (h1.ev rfl) ht125) ?_
  obtain ⟨t126, ht126, H⟩ := bnd H
  refine Tq.va rfl (fun _ _ h1 h2 => run_catS (h1.ev rfl) (h1.ev rfl) ht126) ?_
  refine Tq.va rfl (fun _ _ h1 h2 => run_fieldAddr fo_27_1 (h1.ev rfl)) ?_
  refine Tq.va rfl (fun _ _ h1 h2 => run_load1 ag_3 (h1.ev rfl) (rdb h2 (vs := [(iv xL1.X), (iv xL1.Y)]) (k := 3) rfl 1) rfl) ?_
  obtain ⟨y127, hy127, H⟩ := bnd H
  refine Tq.call0 (r := (sv y127)) (wn rfl) rfl Tryd.call59 (evl_cons rfl evl_nil) (fun W hW => F_strconv_Itoa_ok xL1.Y y127 hy127 (HF.start _)) ?_
  obtain ⟨t128, ht128, H⟩ := bnd H
  refine Tq.va rfl (fun _ _ h1 h2 => run_catS (h1.ev rfl) (h1.ev rfl) ht128) ?_
  obtain ⟨t129, ht129, H⟩ := bnd H
  refine Tq.va rfl (fun _ _ h1 h2 => run_catS (h1.ev rfl) (h1.ev rfl) ht129) ?_
  refine Tq.asg rfl rfl ?_
  refine Tq.nil (Tr.normBlock (Tr.normThen ?_))
  refine Tr.region ?_
  refine Tr.va rfl (fun _ _ h1 h2 => run_add (h1.ev rfl) (h1.ev rfl)) ?_
  refine Tr.mv rfl rfl ?_
  refine Tr.nil ?_
  exact Tr.backThen leL1 (restL1, (iL1 + 1), t129) ⟨rfl, range_tl hdL1, range_lt hdL1, H⟩ (.cons rfl (.cons rfl (.cons rfl (.cons (congrArg (fun z => some (Value.int .i64 z)) (range_up hdL1 hp0_0.form)) .nil)))) .nil

theorem F_plot_writeSteps_b_ok (N : Nat) (rec : ByteArray → (List TPlotStep) → Option ByteArray) (hrec : ∀ {w : Bs} (p0 : ByteArray) (Ap0_0 : Option Addr) (cp0_0 : Nat) (bp0 : Nat) (p1 : (List TPlotStep)) (Ap1_0 : Option Addr) (cp1_0 : Nat) (hp1_0 : Sl w.R w.W fl_TPlotStep Ap1_0 cp1_0 p1) (r : ByteArray) (H : rec p0 p1 = some r) (hE : HF w w.W (LEn [sb 85 5 bp0 Ap0_0 cp0_0 p0])), Calls Tryd.prog 61 [(.pointer (some ⟨bp0, 0, none⟩)), (.slice Ap1_0 (p1).length cp1_0)].toArray w.W fun e W' => ∃ u : (Option Addr × Nat), e = .returned (.tuple #[]) ∧ (True) ∧ HF w W' (LEn [sb 85 5 bp0 u.1 u.2 r])) {w : Bs} (p0 : ByteArray) (Ap0_0 : Option Addr) (cp0_0 : Nat) (bp0 : Nat) (p1 : (List TPlotStep)) (Ap1_0 : Option Addr) (cp1_0 : Nat) (hp1_0 : Sl w.R w.W fl_TPlotStep Ap1_0 cp1_0 p1) (r : ByteArray) (H : F_plot_writeSteps_b N rec p0 p1 = some r) (hE : HF w w.W (LEn [sb 85 5 bp0 Ap0_0 cp0_0 p0])) : Calls Tryd.prog 61 [(.pointer (some ⟨bp0, 0, none⟩)), (.slice Ap1_0 (p1).length cp1_0)].toArray w.W fun e W' => ∃ u : (Option Addr × Nat), e = .returned (.tuple #[]) ∧ (True) ∧ HF w W' (LEn [sb 85 5 bp0 u.1 u.2 r]) := by
 unfold F_plot_writeSteps_b at H
 have leB := Bs.Le.refl w
 refine Tr.enter (n := 91) Tryd.func61 rfl rfl rfl hE ?_
 refine Tr.sr ?_
 refine Tr.mv rfl rfl ?_
 refine Tr.va rfl (fun _ _ h1 h2 => run_len un_23 (h1.ev rfl)) ?_
 refine Tr.mv rfl rfl ?_
 refine Tr.nil (Tr.normThen ?_)
 refine Tr.block ?_
 refine Tr.loop (σ := (List TPlotStep) × Nat × ByteArray × (Option Addr) × Nat) (fun m w s => m = s.1.length + 1 ∧ s.1 = List.drop s.2.1 p1 ∧ s.2.1 ≤ p1.length ∧ F_plot_writeSteps_L1 rec s.1 s.2.1 s.2.2.1 = some r) (fun s => [(0, (.pointer (some ⟨bp0, 0, none⟩))), (6, (.slice Ap1_0 (p1).length cp1_0)), (7, (iv (p1.length : Int))), (8, (iv (s.2.1 : Int)))]) (fun s => [(0, sb 85 5 bp0 s.2.2.2.1 s.2.2.2.2 s.2.2.1)]) (p1.length + 1) (p1, 0, p0, Ap0_0, cp0_0) ⟨rfl, rfl, Nat.zero_le _, H⟩ (.cons rfl (.cons rfl (.cons rfl (.cons rfl .nil)))) (.cons rfl .nil) (fun _ _ h => absurd h.1 (by simp)) ?_
 intro w leL1 m s hs
 obtain ⟨restL1, iL1, m194, Am194, cm194⟩ := s
 obtain ⟨hmL1, hdL1, hiL1, H⟩ := hs
 replace hdL1 : restL1 = List.drop iL1 p1 := hdL1
 replace H : F_plot_writeSteps_L1 rec restL1 iL1 m194 = some r := H
 replace hmL1 : m + 1 = restL1.length + 1 := hmL1
 replace hp1_0 := hp1_0.leR leL1
 replace leB := leB.trans leL1
 obtain rfl : m = restL1.length := by omega
 clear hmL1
 show Tr _ _ (LF [(0, (.pointer (some ⟨bp0, 0, none⟩))), (6, (.slice Ap1_0 (p1).length cp1_0)), (7, (iv (p1.length : Int))), (8, (iv (iL1 : Int)))]) (LE [(0, sb 85 5 bp0 Am194 cm194 m194)]) _
 cases restL1 with
 | nil =>
  rw [F_plot_writeSteps_L1.eq_1] at H
  refine Tr.sr ?_
  refine Tr.va rfl (fun _ _ h1 h2 => run_lss (h1.ev rfl) (h1.ev rfl)) ?_
  refine Tr.nil (Tr.normThen ?_)
  refine Tr.seq ?_
  refine Tr.condF rfl (range_nil hdL1) ?_
  refine Tr.exit (Tr.exitThen (Tr.exitThen (Tr.exitBlock (Tr.offEnd ?_))))
  obtain rfl := Option.some.inj H
  exact Tr.out (m := []) [] res_nil (fun W hW => ⟨(Am194, cm194), rfl, trivial, HF.lowE leB (hW.pick (ks := [0]) (by decide) (pk_cons rfl pk_nil)) ⟨sb_any, trivial⟩⟩)
 | cons xL1 restL1 =>
  rw [F_plot_writeSteps_L1.eq_2] at H
  refine Tr.sr ?_
  refine Tr.va rfl (fun _ _ h1 h2 => run_lss (h1.ev rfl) (h1.ev rfl)) ?_
  refine Tr.nil (Tr.normThen ?_)
  refine Tr.seq ?_
  refine Tr.condT rfl (range_on hdL1) ?_
  refine Tr.skip (Tr.normThen ?_)
  refine Tr.seq ?_
  refine Tr.block ?_
  refine Tr.sr ?_
  obtain ⟨u195, hRu195, hoku195, hcu195⟩ := (hp1_0).el (range_at hdL1)
  obtain ⟨⟨Au195_0, cu195_0⟩, ⟨Au195_1, cu195_1⟩⟩ := u195
  obtain ⟨hoku195_0, hoku195_1⟩ := TPlotStep_ok.1 hoku195
  replace hoku195_0 : Sl w.R w.W fl_TPoint Au195_0 cu195_0 xL1.Points := hoku195_0
  replace hoku195_1 : Sl w.R w.W fl_TPlotStep Au195_1 cu195_1 xL1.Steps := hoku195_1
  refine Tr.va rfl (fun _ _ h1 h2 => run_indexAddr el_23 (h1.ev rfl) hp1_0.form (h1.ev rfl) (Int.natCast_nonneg _) (range_lt hdL1)) ?_
  refine Tr.va rfl (fun _ _ h1 h2 => run_loadN (cs := [(iv xL1.Kind), (sv xL1.Name), (iv xL1.At.X), (iv xL1.At.Y), (.slice Au195_0 (xL1.Points).length cu195_0), (iv xL1.NX), (iv xL1.NY), (.slice Au195_1 (xL1.Steps).length cu195_1)]) ag_46 sz_46 (h1.ev rfl) (CellsAt.take (rdR hRu195 hcu195 h2) 8) rfl) ?_
  refine Tr.alloc 11 (wn rfl) rfl ze_46 fun b196 => ?_
  refine Tr.store 11 (cs := [(iv xL1.Kind), (sv xL1.Name), (iv xL1.At.X), (iv xL1.At.Y), (.slice Au195_0 (xL1.Points).length cu195_0), (iv xL1.NX), (iv xL1.NY), (.slice Au195_1 (xL1.Steps).length cu195_1)]) [(iv xL1.Kind), (sv xL1.Name), (iv xL1.At.X), (iv xL1.At.Y), (.slice Au195_0 (xL1.Points).length cu195_0), (iv xL1.NX), (iv xL1.NY), (.slice Au195_1 (xL1.Steps).length cu195_1)] (wn rfl) rfl rfl rfl rfl sz_46 rfl rfl rfl ?_
  refine Tr.nil (Tr.normThen ?_)
  refine Tr.sr ?_
  refine Tr.va rfl (fun _ _ h1 h2 => run_fieldAddr fo_46_0 (h1.ev rfl)) ?_
  refine Tr.va rfl (fun _ _ h1 h2 => run_load1 ag_3 (h1.ev rfl) (rdb h2 (vs := [(iv xL1.Kind), (sv xL1.Name), (iv xL1.At.X), (iv xL1.At.Y), (.slice Au195_0 (xL1.Points).length cu195_0), (iv xL1.NX), (iv xL1.NY), (.slice Au195_1 (xL1.Steps).length cu195_1)]) (k := 11) rfl 0) rfl) ?_
  refine Tr.nil (Tr.normThen ?_)
  refine Tr.block ?_
  refine Tr.sr ?_
  refine Tr.va rfl (fun _ _ h1 h2 => run_eql (h1.ev rfl) (h1.ev rfl)) ?_
  refine Tr.asg rfl rfl ?_
  refine Tr.nil (Tr.normThen ?_)
  refine Tr.cond rfl H (fun H => ?_) (fun H => ?_)
  ·refine Tr.region ?_
   refine Tr.mv rfl rfl ?_
   obtain ⟨y197, hy197, H⟩ := bnd H
   refine Tr.callM [0] [sb 85 5 bp0 Am194 cm194 m194] (U := (Option Addr × Nat)) (fun u => (.tuple #[(iv (((⟨#[100, 97, 114, 107, 10]⟩) : ByteArray).size : Int)), .nilIface])) (fun u => True) (fun u => [sb 85 5 bp0 u.1 u.2 y197]) rfl (pk_cons rfl pk_nil) (fun _ => rfl) (wn rfl) rfl Tryd.call58 (evl_cons rfl (evl_cons rfl evl_nil)) (fun W hW hp hE => F_strings_Builder_WriteString_ok m194 Am194 cm194 bp0 (⟨#[100, 97, 114, 107, 10]⟩) y197 hy197 hE) ?_
   intro u hu
   obtain ⟨Ay197_0, cy197_0⟩ := u
   have gy197_0 := hu
   have hgy197_0 : True := gy197_0 --@phi
   show Tr _ _ (uf _ 17 (.tuple #[(iv (((⟨#[100, 97, 114, 107, 10]⟩) : ByteArray).size : Int)), .nilIface])) (up _ 0 (sb 85 5 bp0 Ay197_0 cy197_0 y197)) _
   refine Tr.nil (Tr.normBlock (Tr.normBlock (Tr.normThen ?_)))
   refine Tr.region ?_
   refine Tr.va rfl (fun _ _ h1 h2 => run_add (h1.ev rfl) (h1.ev rfl)) ?_
   refine Tr.mv rfl rfl ?_
   refine Tr.nil ?_
   exact Tr.backThen leL1 (restL1, (iL1 + 1), y197, Ay197_0, cy197_0) ⟨rfl, range_tl hdL1, range_lt hdL1, H⟩ (.cons rfl (.cons rfl (.cons rfl (.cons (congrArg (fun z => some (Value.int .i64 z)) (range_up hdL1 hp1_0.form)) .nil)))) (.cons rfl .nil)
  ·refine Tr.sr ?_
   refine Tr.va rfl (fun _ _ h1 h2 => run_eql (h1.ev rfl) (h1.ev rfl)) ?_
   refine Tr.asg rfl rfl ?_
   refine Tr.nil (Tr.normThen ?_)
   refine Tr.cond rfl H (fun H => ?_) (fun H => ?_)
   ·refine Tr.region ?_
    refine Tr.mv rfl rfl ?_
    obtain ⟨y199, hy199, H⟩ := bnd H
    refine Tr.callM [0] [sb 85 5 bp0 Am194 cm194 m194] (U := (Option Addr × Nat)) (fun u => (.tuple #[(iv (((⟨#[99, 108, 101, 97, 114, 10]⟩) : ByteArray).size : Int)), .nilIface])) (fun u => True) (fun u => [sb 85 5 bp0 u.1 u.2 y199]) rfl (pk_cons rfl pk_nil) (fun _ => rfl) (wn rfl) rfl Tryd.call58 (evl_cons rfl (evl_cons rfl evl_nil)) (fun W hW hp hE => F_strings_Builder_WriteString_ok m194 Am194 cm194 bp0 (⟨#[99, 108, 101, 97, 114, 10]⟩) y199 hy199 hE) ?_
    intro u hu
    obtain ⟨Ay199_0, cy199_0⟩ := u
    have gy199_0 := hu
    have hgy199_0 : True := gy199_0 --@phi
    show Tr _ _ (uf _ 21 (.tuple #[(iv (((⟨#[99, 108, 101, 97, 114, 10]⟩) : ByteArray).size : Int)), .nilIface])) (up _ 0 (sb 85 5 bp0 Ay199_0 cy199_0 y199)) _
    refine Tr.nil (Tr.normBlock (Tr.normBlock (Tr.normThen ?_)))
    refine Tr.region ?_
    refine Tr.va rfl (fun _ _ h1 h2 => run_add (h1.ev rfl) (h1.ev rfl)) ?_
    refine Tr.mv rfl rfl ?_
    refine Tr.nil ?_
    exact Tr.backThen leL1 (restL1, (iL1 + 1), y199, Ay199_0, cy199_0) ⟨rfl, range_tl hdL1, range_lt hdL1, H⟩ (.cons rfl (.cons rfl (.cons rfl (.cons (congrArg (fun z => some (Value.int .i64 z)) (range_up hdL1 hp1_0.form)) .nil)))) (.cons rfl .nil)
   ·refine Tr.sr ?_
    refine Tr.va rfl (fun _ _ h1 h2 => run_eql (h1.ev rfl) (h1.ev rfl)) ?_
    refine Tr.asg rfl rfl ?_
    refine Tr.nil (Tr.normThen ?_)
    refine Tr.cond rfl H (fun H => ?_) (fun H => ?_)
    ·refine Tr.region ?_
     refine Tr.mv rfl rfl ?_
     refine Tr.va rfl (fun _ _ h1 h2 => run_fieldAddr fo_46_1 (h1.ev rfl)) ?_
     refine Tr.va rfl (fun _ _ h1 h2 => run_load1 ag_9 (h1.ev rfl) (rdb h2 (vs := [(iv xL1.Kind), (sv xL1.Name), (iv xL1.At.X), (iv xL1.At.Y), (.slice Au195_0 (xL1.Points).length cu195_0), (iv xL1.NX), (iv xL1.NY), (.slice Au195_1 (xL1.Steps).length cu195_1)]) (k := 11) rfl 1) rfl) ?_
     obtain ⟨t201, ht201, H⟩ := bnd H
     refine Tr.va rfl (fun _ _ h1 h2 => run_catS (h1.ev rfl) (h1.ev rfl) ht201) ?_
     obtain ⟨t202, ht202, H⟩ := bnd H
     refine Tr.va rfl (fun _ _ h1 h2 => run_catS (h1.ev rfl) (h1.ev rfl) ht202) ?_
     obtain ⟨y203, hy203, H⟩ := bnd H
     refine Tr.callM [0] [sb 85 5 bp0 Am194 cm194 m194] (U := (Option Addr × Nat)) (fun u => (.tuple #[(iv ((t202 : ByteArray).size : Int)), .nilIface])) (fun u => True) (fun u => [sb 85 5 bp0 u.1 u.2 y203]) rfl (pk_cons rfl pk_nil) (fun _ => rfl) (wn rfl) rfl Tryd.call58 (evl_cons rfl (evl_cons rfl evl_nil)) (fun W hW hp hE => F_strings_Builder_WriteString_ok m194 Am194 cm194 bp0 t202 y203 hy203 hE) ?_
     intro u hu
     obtain ⟨Ay203_0, cy203_0⟩ := u
     have gy203_0 := hu
     have hgy203_0 : True := gy203_0 --@phi
     show Tr _ _ (uf _ 29 (.tuple #[(iv ((t202 : ByteArray).size : Int)), .nilIface])) (up _ 0 (sb 85 5 bp0 Ay203_0 cy203_0 y203)) _
     refine Tr.nil (Tr.normBlock (Tr.normBlock (Tr.normThen ?_)))
     refine Tr.region ?_
     refine Tr.va rfl (fun _ _ h1 h2 => run_add (h1.ev rfl) (h1.ev rfl)) ?_
     refine Tr.mv rfl rfl ?_
     refine Tr.nil ?_
     exact Tr.backThen leL1 (restL1, (iL1 + 1), y203, Ay203_0, cy203_0) ⟨rfl, range_tl hdL1, range_lt hdL1, H⟩ (.cons rfl (.cons rfl (.cons rfl (.cons (congrArg (fun z => some (Value.int .i64 z)) (range_up hdL1 hp1_0.form)) .nil)))) (.cons rfl .nil)
    ·refine Tr.sr ?_
     refine Tr.va rfl (fun _ _ h1 h2 => run_eql (h1.ev rfl) (h1.ev rfl)) ?_
     refine Tr.asg rfl rfl ?_
     refine Tr.nil (Tr.normThen ?_)
     refine Tr.cond rfl H (fun H => ?_) (fun H => ?_)
     ·refine Tr.region ?_
      refine Tr.mv rfl rfl ?_
      refine Tr.va rfl (fun _ _ h1 h2 => run_fieldAddr fo_46_2 (h1.ev rfl)) ?_
      refine Tr.va rfl (fun _ _ h1 h2 => run_loadN (cs := [(iv xL1.At.X), (iv xL1.At.Y)]) ag_27 sz_27 (h1.ev rfl) (CellsAt.take (rdb h2 (vs := [(iv xL1.Kind), (sv xL1.Name), (iv xL1.At.X), (iv xL1.At.Y), (.slice Au195_0 (xL1.Points).length cu195_0), (iv xL1.NX), (iv xL1.NY), (.slice Au195_1 (xL1.Steps).length cu195_1)]) (k := 11) rfl 2) 2) rfl) ?_
      refine Tr.buildSlice 12 (e := 27) (vs := [(0, (.agg #[(iv xL1.At.X), (iv xL1.At.Y)]))]) (cs := [(iv xL1.At.X), (iv xL1.At.Y)]) (wn rfl) rfl (evs_cons rfl evs_nil) (by kernel_rfl) fun b205 => ?_
      refine Tr.own 12 fl_TPoint [xL1.At] (css := [[(iv xL1.At.X), (iv xL1.At.Y)]]) rfl (.cons ⟨(), trivial, rfl⟩ .nil) rfl (by decide) (lit_max rfl) ?_
      obtain ⟨y206, hy206, H⟩ := bnd H
      refine Tr.call0 (r := (sv y206)) (wn rfl) rfl Tryd.call60 (evl_cons rfl evl_nil) (fun W hW => F_plot_points_ok [xL1.At] (some ⟨b205, 0, none⟩) 1 (hW.slCall (k := 12) rfl) y206 hy206 (HF.start _)) ?_
      obtain ⟨t207, ht207, H⟩ := bnd H
      refine Tr.va rfl (fun _ _ h1 h2 => run_catS (h1.ev rfl) (h1.ev rfl) ht207) ?_
      obtain ⟨t208, ht208, H⟩ := bnd H
      refine Tr.va rfl (fun _ _ h1 h2 => run_catS (h1.ev rfl) (h1.ev rfl) ht208) ?_
      obtain ⟨y209, hy209, H⟩ := bnd H
      refine Tr.callM [0] [sb 85 5 bp0 Am194 cm194 m194] (U := (Option Addr × Nat)) (fun u => (.tuple #[(iv ((t208 : ByteArray).size : Int)), .nilIface])) (fun u => True) (fun u => [sb 85 5 bp0 u.1 u.2 y209]) rfl (pk_cons rfl pk_nil) (fun _ => rfl) (wn rfl) rfl Tryd.call58 (evl_cons rfl (evl_cons rfl evl_nil)) (fun W hW hp hE => F_strings_Builder_WriteString_ok m194 Am194 cm194 bp0 t208 y209 hy209 hE) ?_
      intro u hu
      obtain ⟨Ay209_0, cy209_0⟩ := u
      have gy209_0 := hu
      have hgy209_0 : True := gy209_0 --@phi
      show Tr _ _ (uf _ 39 (.tuple #[(iv ((t208 : ByteArray).size : Int)), .nilIface])) (up _ 0 (sb 85 5 bp0 Ay209_0 cy209_0 y209)) _
      refine Tr.nil (Tr.normBlock (Tr.normBlock (Tr.normThen ?_)))
      refine Tr.region ?_
      refine Tr.va rfl (fun _ _ h1 h2 => run_add (h1.ev rfl) (h1.ev rfl)) ?_
      refine Tr.mv rfl rfl ?_
      refine Tr.nil ?_
      exact Tr.backThen leL1 (restL1, (iL1 + 1), y209, Ay209_0, cy209_0) ⟨rfl, range_tl hdL1, range_lt hdL1, H⟩ (.cons rfl (.cons rfl (.cons rfl (.cons (congrArg (fun z => some (Value.int .i64 z)) (range_up hdL1 hp1_0.form)) .nil)))) (.cons rfl .nil)
     ·refine Tr.sr ?_
      refine Tr.va rfl (fun _ _ h1 h2 => run_eql (h1.ev rfl) (h1.ev rfl)) ?_
      refine Tr.asg rfl rfl ?_
      refine Tr.nil (Tr.normThen ?_)
      refine Tr.cond rfl H (fun H => ?_) (fun H => ?_)
      ·refine Tr.region ?_
       refine Tr.mv rfl rfl ?_
       refine Tr.va rfl (fun _ _ h1 h2 => run_fieldAddr fo_46_2 (h1.ev rfl)) ?_
       refine Tr.va rfl (fun _ _ h1 h2 => run_loadN (cs := [(iv xL1.At.X), (iv xL1.At.Y)]) ag_27 sz_27 (h1.ev rfl) (CellsAt.take (rdb h2 (vs := [(iv xL1.Kind), (sv xL1.Name), (iv xL1.At.X), (iv xL1.At.Y), (.slice Au195_0 (xL1.Points).length cu195_0), (iv xL1.NX), (iv xL1.NY), (.slice Au195_1 (xL1.Steps).length cu195_1)]) (k := 11) rfl 2) 2) rfl) ?_
       refine Tr.buildSlice 13 (e := 27) (vs := [(0, (.agg #[(iv xL1.At.X), (iv xL1.At.Y)]))]) (cs := [(iv xL1.At.X), (iv xL1.At.Y)]) (wn rfl) rfl (evs_cons rfl evs_nil) (by kernel_rfl) fun b211 => ?_
       refine Tr.own 13 fl_TPoint [xL1.At] (css := [[(iv xL1.At.X), (iv xL1.At.Y)]]) rfl (.cons ⟨(), trivial, rfl⟩ .nil) rfl (by decide) (lit_max rfl) ?_
       obtain ⟨y212, hy212, H⟩ := bnd H
       refine Tr.call0 (r := (sv y212)) (wn rfl) rfl Tryd.call60 (evl_cons rfl evl_nil) (fun W hW => F_plot_points_ok [xL1.At] (some ⟨b211, 0, none⟩) 1 (hW.slCall (k := 13) rfl) y212 hy212 (HF.start _)) ?_
       obtain ⟨t213, ht213, H⟩ := bnd H
       refine Tr.va rfl (fun _ _ h1 h2 => run_catS (h1.ev rfl) (h1.ev rfl) ht213) ?_
       obtain ⟨t214, ht214, H⟩ := bnd H
       refine Tr.va rfl (fun _ _ h1 h2 => run_catS (h1.ev rfl) (h1.ev rfl) ht214) ?_
       obtain ⟨y215, hy215, H⟩ := bnd H
       refine Tr.callM [0] [sb 85 5 bp0 Am194 cm194 m194] (U := (Option Addr × Nat)) (fun u => (.tuple #[(iv ((t214 : ByteArray).size : Int)), .nilIface])) (fun u => True) (fun u => [sb 85 5 bp0 u.1 u.2 y215]) rfl (pk_cons rfl pk_nil) (fun _ => rfl) (wn rfl) rfl Tryd.call58 (evl_cons rfl (evl_cons rfl evl_nil)) (fun W hW hp hE => F_strings_Builder_WriteString_ok m194 Am194 cm194 bp0 t214 y215 hy215 hE) ?_
       intro u hu
       obtain ⟨Ay215_0, cy215_0⟩ := u
       have gy215_0 := hu
       have hgy215_0 : True := gy215_0 --@phi
       show Tr _ _ (uf _ 49 (.tuple #[(iv ((t214 : ByteArray).size : Int)), .nilIface])) (up _ 0 (sb 85 5 bp0 Ay215_0 cy215_0 y215)) _
       refine Tr.nil (Tr.normBlock (Tr.normBlock (Tr.normThen ?_)))
       refine Tr.region ?_
       refine Tr.va rfl (fun _ _ h1 h2 => run_add (h1.ev rfl) (h1.ev rfl)) ?_
       refine Tr.mv rfl rfl ?_
       refine Tr.nil ?_
       exact Tr.backThen leL1 (restL1, (iL1 + 1), y215, Ay215_0, cy215_0) ⟨rfl, range_tl hdL1, range_lt hdL1, H⟩ (.cons rfl (.cons rfl (.cons rfl (.cons (congrArg (fun z => some (Value.int .i64 z)) (range_up hdL1 hp1_0.form)) .nil)))) (.cons rfl .nil)
      ·refine Tr.sr ?_
       refine Tr.va rfl (fun _ _ h1 h2 => run_eql (h1.ev rfl) (h1.ev rfl)) ?_
       refine Tr.asg rfl rfl ?_
       refine Tr.nil (Tr.normThen ?_)
       refine Tr.cond rfl H (fun H => ?_) (fun H => ?_)
       ·refine Tr.region ?_
        refine Tr.mv rfl rfl ?_
        refine Tr.va rfl (fun _ _ h1 h2 => run_fieldAddr fo_46_2 (h1.ev rfl)) ?_
        refine Tr.va rfl (fun _ _ h1 h2 => run_loadN (cs := [(iv xL1.At.X), (iv xL1.At.Y)]) ag_27 sz_27 (h1.ev rfl) (CellsAt.take (rdb h2 (vs := [(iv xL1.Kind), (sv xL1.Name), (iv xL1.At.X), (iv xL1.At.Y), (.slice Au195_0 (xL1.Points).length cu195_0), (iv xL1.NX), (iv xL1.NY), (.slice Au195_1 (xL1.Steps).length cu195_1)]) (k := 11) rfl 2) 2) rfl) ?_
        refine Tr.buildSlice 14 (e := 27) (vs := [(0, (.agg #[(iv xL1.At.X), (iv xL1.At.Y)]))]) (cs := [(iv xL1.At.X), (iv xL1.At.Y)]) (wn rfl) rfl (evs_cons rfl evs_nil) (by kernel_rfl) fun b217 => ?_
        refine Tr.own 14 fl_TPoint [xL1.At] (css := [[(iv xL1.At.X), (iv xL1.At.Y)]]) rfl (.cons ⟨(), trivial, rfl⟩ .nil) rfl (by decide) (lit_max rfl) ?_
        obtain ⟨y218, hy218, H⟩ := bnd H
        refine Tr.call0 (r := (sv y218)) (wn rfl) rfl Tryd.call60 (evl_cons rfl evl_nil) (fun W hW => F_plot_points_ok [xL1.At] (some ⟨b217, 0, none⟩) 1 (hW.slCall (k := 14) rfl) y218 hy218 (HF.start _)) ?_
        obtain ⟨t219, ht219, H⟩ := bnd H
        refine Tr.va rfl (fun _ _ h1 h2 => run_catS (h1.ev rfl) (h1.ev rfl) ht219) ?_
        obtain ⟨t220, ht220, H⟩ := bnd H
        refine Tr.va rfl (fun _ _ h1 h2 => run_catS (h1.ev rfl) (h1.ev rfl) ht220) ?_
        obtain ⟨y221, hy221, H⟩ := bnd H
        refine Tr.callM [0] [sb 85 5 bp0 Am194 cm194 m194] (U := (Option Addr × Nat)) (fun u => (.tuple #[(iv ((t220 : ByteArray).size : Int)), .nilIface])) (fun u => True) (fun u => [sb 85 5 bp0 u.1 u.2 y221]) rfl (pk_cons rfl pk_nil) (fun _ => rfl) (wn rfl) rfl Tryd.call58 (evl_cons rfl (evl_cons rfl evl_nil)) (fun W hW hp hE => F_strings_Builder_WriteString_ok m194 Am194 cm194 bp0 t220 y221 hy221 hE) ?_
        intro u hu
        obtain ⟨Ay221_0, cy221_0⟩ := u
        have gy221_0 := hu
        have hgy221_0 : True := gy221_0 --@phi
        show Tr _ _ (uf _ 59 (.tuple #[(iv ((t220 : ByteArray).size : Int)), .nilIface])) (up _ 0 (sb 85 5 bp0 Ay221_0 cy221_0 y221)) _
        refine Tr.nil (Tr.normBlock (Tr.normBlock (Tr.normThen ?_)))
        refine Tr.region ?_
        refine Tr.va rfl (fun _ _ h1 h2 => run_add (h1.ev rfl) (h1.ev rfl)) ?_
        refine Tr.mv rfl rfl ?_
        refine Tr.nil ?_
        exact Tr.backThen leL1 (restL1, (iL1 + 1), y221, Ay221_0, cy221_0) ⟨rfl, range_tl hdL1, range_lt hdL1, H⟩ (.cons rfl (.cons rfl (.cons rfl (.cons (congrArg (fun z => some (Value.int .i64 z)) (range_up hdL1 hp1_0.form)) .nil)))) (.cons rfl .nil)
       ·refine Tr.sr ?_
        refine Tr.va rfl (fun _ _ h1 h2 => run_eql (h1.ev rfl) (h1.ev rfl)) ?_
        refine Tr.asg rfl rfl ?_
        refine Tr.nil (Tr.normThen ?_)
        refine Tr.cond rfl H (fun H => ?_) (fun H => ?_)
        ·refine Tr.region ?_
         refine Tr.mv rfl rfl ?_
         refine Tr.va rfl (fun _ _ h1 h2 => run_fieldAddr fo_46_3 (h1.ev rfl)) ?_
         refine Tr.va rfl (fun _ _ h1 h2 => run_load1 ag_44 (h1.ev rfl) (rdb h2 (vs := [(iv xL1.Kind), (sv xL1.Name), (iv xL1.At.X), (iv xL1.At.Y), (.slice Au195_0 (xL1.Points).length cu195_0), (iv xL1.NX), (iv xL1.NY), (.slice Au195_1 (xL1.Steps).length cu195_1)]) (k := 11) rfl 4) rfl) ?_
         obtain ⟨y223, hy223, H⟩ := bnd H
         refine Tr.call0 (r := (sv y223)) (wn rfl) rfl Tryd.call60 (evl_cons rfl evl_nil) (fun W hW => F_plot_points_ok xL1.Points Au195_0 cu195_0 (hoku195_0.ext hW.extAll) y223 hy223 (HF.start _)) ?_
         obtain ⟨t224, ht224, H⟩ := bnd H
         refine Tr.va rfl (fun _ _ h1 h2 => run_catS (h1.ev rfl) (h1.ev rfl) ht224) ?_
         obtain ⟨t225, ht225, H⟩ := bnd H
         refine Tr.va rfl (fun _ _ h1 h2 => run_catS (h1.ev rfl) (h1.ev rfl) ht225) ?_
         obtain ⟨y226, hy226, H⟩ := bnd H
         refine Tr.callM [0] [sb 85 5 bp0 Am194 cm194 m194] (U := (Option Addr × Nat)) (fun u => (.tuple #[(iv ((t225 : ByteArray).size : Int)), .nilIface])) (fun u => True) (fun u => [sb 85 5 bp0 u.1 u.2 y226]) rfl (pk_cons rfl pk_nil) (fun _ => rfl) (wn rfl) rfl Tryd.call58 (evl_cons rfl (evl_cons rfl evl_nil)) (fun W hW hp hE => F_strings_Builder_WriteString_ok m194 Am194 cm194 bp0 t225 y226 hy226 hE) ?_
         intro u hu
         obtain ⟨Ay226_0, cy226_0⟩ := u
         have gy226_0 := hu
         have hgy226_0 : True := gy226_0 --@phi
         show Tr _ _ (uf _ 68 (.tuple #[(iv ((t225 : ByteArray).size : Int)), .nilIface])) (up _ 0 (sb 85 5 bp0 Ay226_0 cy226_0 y226)) _
         refine Tr.nil (Tr.normBlock (Tr.normBlock (Tr.normThen ?_)))
         refine Tr.region ?_
         refine Tr.va rfl (fun _ _ h1 h2 => run_add (h1.ev rfl) (h1.ev rfl)) ?_
         refine Tr.mv rfl rfl ?_
         refine Tr.nil ?_
         exact Tr.backThen leL1 (restL1, (iL1 + 1), y226, Ay226_0, cy226_0) ⟨rfl, range_tl hdL1, range_lt hdL1, H⟩ (.cons rfl (.cons rfl (.cons rfl (.cons (congrArg (fun z => some (Value.int .i64 z)) (range_up hdL1 hp1_0.form)) .nil)))) (.cons rfl .nil)
        ·refine Tr.sr ?_
         refine Tr.va rfl (fun _ _ h1 h2 => run_eql (h1.ev rfl) (h1.ev rfl)) ?_
         refine Tr.asg rfl rfl ?_
         refine Tr.nil (Tr.normThen ?_)
         refine Tr.cond rfl H (fun H => ?_) (fun H => ?_)
         ·refine Tr.sr ?_
          refine Tr.mv rfl rfl ?_
          refine Tr.va rfl (fun _ _ h1 h2 => run_fieldAddr fo_46_4 (h1.ev rfl)) ?_
          refine Tr.va rfl (fun _ _ h1 h2 => run_load1 ag_3 (h1.ev rfl) (rdb h2 (vs := [(iv xL1.Kind), (sv xL1.Name), (iv xL1.At.X), (iv xL1.At.Y), (.slice Au195_0 (xL1.Points).length cu195_0), (iv xL1.NX), (iv xL1.NY), (.slice Au195_1 (xL1.Steps).length cu195_1)]) (k := 11) rfl 5) rfl) ?_
          refine Tr.va rfl (fun _ _ h1 h2 => run_fieldAddr fo_46_5 (h1.ev rfl)) ?_
          refine Tr.va rfl (fun _ _ h1 h2 => run_load1 ag_3 (h1.ev rfl) (rdb h2 (vs := [(iv xL1.Kind), (sv xL1.Name), (iv xL1.At.X), (iv xL1.At.Y), (.slice Au195_0 (xL1.Points).length cu195_0), (iv xL1.NX), (iv xL1.NY), (.slice Au195_1 (xL1.Steps).length cu195_1)]) (k := 11) rfl 6) rfl) ?_
          refine Tr.build (vs := [(0, (iv xL1.NX)), (1, (iv xL1.NY))]) (cs := [(iv xL1.NX), (iv xL1.NY)]) (wn rfl) rfl (evs_cons rfl (evs_cons rfl evs_nil)) (by kernel_rfl) ?_
          refine Tr.va rfl (fun _ _ h1 h2 => run_fieldAddr fo_46_2 (h1.ev rfl)) ?_
          refine Tr.va rfl (fun _ _ h1 h2 => run_loadN (cs := [(iv xL1.At.X), (iv xL1.At.Y)]) ag_27 sz_27 (h1.ev rfl) (CellsAt.take (rdb h2 (vs := [(iv xL1.Kind), (sv xL1.Name), (iv xL1.At.X), (iv xL1.At.Y), (.slice Au195_0 (xL1.Points).length cu195_0), (iv xL1.NX), (iv xL1.NY), (.slice Au195_1 (xL1.Steps).length cu195_1)]) (k := 11) rfl 2) 2) rfl) ?_
          refine Tr.buildSlice 15 (e := 27) (vs := [(0, (.agg #[(iv xL1.NX), (iv xL1.NY)])), (1, (.agg #[(iv xL1.At.X), (iv xL1.At.Y)]))]) (cs := [(iv xL1.NX), (iv xL1.NY), (iv xL1.At.X), (iv xL1.At.Y)]) (wn rfl) rfl (evs_cons rfl (evs_cons rfl evs_nil)) (by kernel_rfl) fun b228 => ?_
          refine Tr.own 15 fl_TPoint [(TPoint.mk xL1.NX xL1.NY), xL1.At] (css := [[(iv xL1.NX), (iv xL1.NY)], [(iv xL1.At.X), (iv xL1.At.Y)]]) rfl (.cons ⟨(), trivial, rfl⟩ (.cons ⟨(), trivial, rfl⟩ .nil)) rfl (by decide) (lit_max rfl) ?_
          obtain ⟨y229, hy229, H⟩ := bnd H
          refine Tr.call0 (r := (sv y229)) (wn rfl) rfl Tryd.call60 (evl_cons rfl evl_nil) (fun W hW => F_plot_points_ok [(TPoint.mk xL1.NX xL1.NY), xL1.At] (some ⟨b228, 0, none⟩) 2 (hW.slCall (k := 15) rfl) y229 hy229 (HF.start _)) ?_
          obtain ⟨t230, ht230, H⟩ := bnd H
          refine Tr.va rfl (fun _ _ h1 h2 => run_catS (h1.ev rfl) (h1.ev rfl) ht230) ?_
          obtain ⟨t231, ht231, H⟩ := bnd H
          refine Tr.va rfl (fun _ _ h1 h2 => run_catS (h1.ev rfl) (h1.ev rfl) ht231) ?_
          obtain ⟨y232, hy232, H⟩ := bnd H
          refine Tr.callM [0] [sb 85 5 bp0 Am194 cm194 m194] (U := (Option Addr × Nat)) (fun u => (.tuple #[(iv ((t231 : ByteArray).size : Int)), .nilIface])) (fun u => True) (fun u => [sb 85 5 bp0 u.1 u.2 y232]) rfl (pk_cons rfl pk_nil) (fun _ => rfl) (wn rfl) rfl Tryd.call58 (evl_cons rfl (evl_cons rfl evl_nil)) (fun W hW hp hE => F_strings_Builder_WriteString_ok m194 Am194 cm194 bp0 t231 y232 hy232 hE) ?_
          intro u hu
          obtain ⟨Ay232_0, cy232_0⟩ := u
          have gy232_0 := hu
          have hgy232_0 : True := gy232_0 --@phi
          show Tr _ _ (uf _ 83 (.tuple #[(iv ((t231 : ByteArray).size : Int)), .nilIface])) (up _ 0 (sb 85 5 bp0 Ay232_0 cy232_0 y232)) _
          refine Tr.nil (Tr.normThen ?_)
          refine Tr.sr ?_
          refine Tr.mv rfl rfl ?_
          refine Tr.va rfl (fun _ _ h1 h2 => run_fieldAddr fo_46_6 (h1.ev rfl)) ?_
          refine Tr.va rfl (fun _ _ h1 h2 => run_load1 ag_23 (h1.ev rfl) (rdb h2 (vs := [(iv xL1.Kind), (sv xL1.Name), (iv xL1.At.X), (iv xL1.At.Y), (.slice Au195_0 (xL1.Points).length cu195_0), (iv xL1.NX), (iv xL1.NY), (.slice Au195_1 (xL1.Steps).length cu195_1)]) (k := 11) rfl 7) rfl) ?_
          obtain ⟨y234, hy234, H⟩ := bnd H
          refine Tr.callM [0] [sb 85 5 bp0 Ay232_0 cy232_0 y232] (U := (Option Addr × Nat)) (fun u => (.tuple #[])) (fun u => True) (fun u => [sb 85 5 bp0 u.1 u.2 y234]) rfl (pk_cons rfl pk_nil) (fun _ => rfl) (wn rfl) rfl Tryd.call61 (evl_cons rfl (evl_cons rfl evl_nil)) (fun W hW hp hE => hrec y232 Ay232_0 cy232_0 bp0 xL1.Steps Au195_1 cu195_1 (hoku195_1.ext (hW.extS hp)) y234 hy234 hE) ?_
          intro u hu
          obtain ⟨Ay234_0, cy234_0⟩ := u
          have gy234_0 := hu
          have hgy234_0 : True := gy234_0 --@phi
          show Tr _ _ (uf _ 87 (.tuple #[])) (up _ 0 (sb 85 5 bp0 Ay234_0 cy234_0 y234)) _
          refine Tr.nil (Tr.normThen ?_)
          refine Tr.region ?_
          refine Tr.mv rfl rfl ?_
          obtain ⟨y236, hy236, H⟩ := bnd H
          refine Tr.callM [0] [sb 85 5 bp0 Ay234_0 cy234_0 y234] (U := (Option Addr × Nat)) (fun u => (.tuple #[(iv (((⟨#[100, 111, 110, 101, 10]⟩) : ByteArray).size : Int)), .nilIface])) (fun u => True) (fun u => [sb 85 5 bp0 u.1 u.2 y236]) rfl (pk_cons rfl pk_nil) (fun _ => rfl) (wn rfl) rfl Tryd.call58 (evl_cons rfl (evl_cons rfl evl_nil)) (fun W hW hp hE => F_strings_Builder_WriteString_ok y234 Ay234_0 cy234_0 bp0 (⟨#[100, 111, 110, 101, 10]⟩) y236 hy236 hE) ?_
          intro u hu
          obtain ⟨Ay236_0, cy236_0⟩ := u
          have gy236_0 := hu
          have hgy236_0 : True := gy236_0 --@phi
          show Tr _ _ (uf _ 89 (.tuple #[(iv (((⟨#[100, 111, 110, 101, 10]⟩) : ByteArray).size : Int)), .nilIface])) (up _ 0 (sb 85 5 bp0 Ay236_0 cy236_0 y236)) _
          refine Tr.nil (Tr.normBlock (Tr.normBlock (Tr.normThen ?_)))
          refine Tr.region ?_
          refine Tr.va rfl (fun _ _ h1 h2 => run_add (h1.ev rfl) (h1.ev rfl)) ?_
          refine Tr.mv rfl rfl ?_
          refine Tr.nil ?_
          exact Tr.backThen leL1 (restL1, (iL1 + 1), y236, Ay236_0, cy236_0) ⟨rfl, range_tl hdL1, range_lt hdL1, H⟩ (.cons rfl (.cons rfl (.cons rfl (.cons (congrArg (fun z => some (Value.int .i64 z)) (range_up hdL1 hp1_0.form)) .nil)))) (.cons rfl .nil)
         ·refine Tr.skip (Tr.normBlock (Tr.normBlock (Tr.normThen ?_)))
          refine Tr.region ?_
          refine Tr.va rfl (fun _ _ h1 h2 => run_add (h1.ev rfl) (h1.ev rfl)) ?_
          refine Tr.mv rfl rfl ?_
          refine Tr.nil ?_
          exact Tr.backThen leL1 (restL1, (iL1 + 1), m194, Am194, cm194) ⟨rfl, range_tl hdL1, range_lt hdL1, H⟩ (.cons rfl (.cons rfl (.cons rfl (.cons (congrArg (fun z => some (Value.int .i64 z)) (range_up hdL1 hp1_0.form)) .nil)))) (.cons rfl .nil)
theorem F_plot_writeSteps_ok : ∀ (N : Nat) {w : Bs} (p0 : ByteArray) (Ap0_0 : Option Addr) (cp0_0 : Nat) (bp0 : Nat) (p1 : (List TPlotStep)) (Ap1_0 : Option Addr) (cp1_0 : Nat) (hp1_0 : Sl w.R w.W fl_TPlotStep Ap1_0 cp1_0 p1) (r : ByteArray) (H : F_plot_writeSteps N p0 p1 = some r) (hE : HF w w.W (LEn [sb 85 5 bp0 Ap0_0 cp0_0 p0])), Calls Tryd.prog 61 [(.pointer (some ⟨bp0, 0, none⟩)), (.slice Ap1_0 (p1).length cp1_0)].toArray w.W fun e W' => ∃ u : (Option Addr × Nat), e = .returned (.tuple #[]) ∧ (True) ∧ HF w W' (LEn [sb 85 5 bp0 u.1 u.2 r])
 | 0 => by intros; rename_i H _; cases H
 | N + 1 => F_plot_writeSteps_b_ok N (F_plot_writeSteps N) (F_plot_writeSteps_ok N)

theorem F_strings_Builder_Len_ok {w : Bs} (p0 : ByteArray) (Ap0_0 : Option Addr) (cp0_0 : Nat) (bp0 : Nat) (r : (Int × ByteArray)) (H : sbL p0 = some r) (hE : HF w w.W (LEn [sb 85 5 bp0 Ap0_0 cp0_0 p0])) : Calls Tryd.prog 62 [(.pointer (some ⟨bp0, 0, none⟩))].toArray w.W fun e W' => ∃ u : (Option Addr × Nat), e = .returned (iv r.1) ∧ (True) ∧ HF w W' (LEn [sb 85 5 bp0 u.1 u.2 r.2]) :=
 sb_len (ρ := Tryd.bld62_ren) Tryd.bld62 H hE

end Go.Proofs.YtneghcpnehiffaaDoor
namespace Go.Proofs
open Go.Shelf
def Tryd.bld63_ren : Go.Shelf.Ren := ⟨fun | 169 => 63 | n => n, fun | 5 => 5 | 37 => 83 | 70 => 82 | 72 => 85 | 127 => 100 | n => n, fun n => n⟩
theorem Tryd.bld63 : Go.Proofs.Lays.n169 Tryd.prog Tryd.bld63_ren := {
 mixed := by kernel_rfl
 f169 := Tryd.func63.trans (congrArg some (by kernel_rfl))
 t0 := Tryd.underlying0
 a0 := Tryd.isAgg0
 z0 := Tryd.sizeOf0
 v0 := Tryd.zeroValue0
 t3 := Tryd.underlying3
 a3 := Tryd.isAgg3
 z3 := Tryd.sizeOf3
 v3 := Tryd.zeroValue3
 t9 := Tryd.underlying9
 a9 := Tryd.isAgg9
 z9 := Tryd.sizeOf9
 v9 := Tryd.zeroValue9
 t37 := Tryd.underlying83
 a37 := Tryd.isAgg83
 z37 := Tryd.sizeOf83
 v37 := Tryd.zeroValue83
 t70 := Tryd.underlying82
 a70 := Tryd.isAgg82
 z70 := Tryd.sizeOf82
 v70 := Tryd.zeroValue82
 t72 := Tryd.underlying85
 a72 := Tryd.isAgg85
 z72 := Tryd.sizeOf85
 v72 := Tryd.zeroValue85
 t127 := Tryd.underlying100
 a127 := Tryd.isAgg100
 z127 := Tryd.sizeOf100
 v127 := Tryd.zeroValue100
}
end Go.Proofs
namespace Go.Proofs.YtneghcpnehiffaaDoor
open Go.RowKit
theorem bX63 : Builder.Extra Tryd.prog Tryd.bld63_ren where
 sizeBuilder := by kernel_rfl
 liesBuilder := by kernel_rfl
 t5 := Tryd.underlying5
 a5 := Tryd.isAgg5
 z5 := Tryd.sizeOf5
 v5 := Tryd.zeroValue5
 infoByte := by kernel_rfl
 cellsByte := by kernel_rfl
 sizeByte := by kernel_rfl
 neB5 := by decide
theorem F_strings_Builder_String_ok {w : Bs} (p0 : ByteArray) (Ap0_0 : Option Addr) (cp0_0 : Nat) (bp0 : Nat) (r : (ByteArray × ByteArray)) (H : sbS p0 = some r) (hE : HF w w.W (LEn [sb 85 5 bp0 Ap0_0 cp0_0 p0])) : Calls Tryd.prog 63 [(.pointer (some ⟨bp0, 0, none⟩))].toArray w.W fun e W' => ∃ u : (Option Addr × Nat), e = .returned (sv r.1) ∧ (True) ∧ HF w W' (LEn [sb 85 5 bp0 u.1 u.2 r.2]) :=
 sb_string (ρ := Tryd.bld63_ren) Tryd.bld63 bX63 H hE

theorem F_plot_Text_ok (N : Nat) {w : Bs} (p0 : TPlot) (Ap0_0 : Option Addr) (cp0_0 : Nat) (hp0_0 : Sl w.R w.W fl_TPlotTool Ap0_0 cp0_0 p0.Tools) (Ap0_1 : Option Addr) (cp0_1 : Nat) (hp0_1 : Sl w.R w.W fl_TPlotStep Ap0_1 cp0_1 p0.Steps) (r : (ByteArray × Int)) (H : F_plot_Text N p0 = some r) (hE : HF w w.W E0) : Calls Tryd.prog 35 [(.agg #[(iv p0.Unit), (.slice Ap0_0 (p0.Tools).length cp0_0), (.slice Ap0_1 (p0.Steps).length cp0_1)])].toArray w.W fun e W' => e = .returned (.tuple #[(sv r.1), (iv r.2)]) ∧ HF w W' E0 := by
 unfold F_plot_Text at H
 have leB := Bs.Le.refl w
 refine Tr.enter (n := 61) Tryd.func35 rfl rfl rfl hE ?_
 refine Tr.sr ?_
 refine Tr.box 1 (cs := [(iv p0.Unit), (.slice Ap0_0 (p0.Tools).length cp0_0), (.slice Ap0_1 (p0.Steps).length cp0_1)]) (wn rfl) rfl rfl rfl fun b100 => ?_
 refine Tr.asg rfl rfl ?_
 refine Tr.asg rfl rfl ?_
 refine Tr.nil (Tr.normThen ?_)
 refine Tr.seq ?_
 refine Tr.sr ?_
 refine Tr.va rfl (fun _ _ h1 h2 => run_loadN (cs := [(iv p0.Unit), (.slice Ap0_0 (p0.Tools).length cp0_0), (.slice Ap0_1 (p0.Steps).length cp0_1)]) ag_25 sz_25 (h1.ev rfl) (CellsAt.take (rdb h2 (vs := [(iv p0.Unit), (.slice Ap0_0 (p0.Tools).length cp0_0), (.slice Ap0_1 (p0.Steps).length cp0_1)]) (k := 1) rfl 0) 3) rfl) ?_
 obtain ⟨y101, hy101, H⟩ := bnd H
 refine Tr.call0 (r := (iv y101)) (wn rfl) rfl Tryd.call10 (evl_cons rfl evl_nil) (fun W hW => F_plot_CheckPlot_ok N p0 Ap0_0 cp0_0 (hp0_0.ext hW.extAll) Ap0_1 cp0_1 (hp0_1.ext hW.extAll) y101 hy101 (HF.start _)) ?_
 refine Tr.asg rfl rfl ?_
 refine Tr.nil (Tr.normThen ?_)
 refine Tr.sr ?_
 refine Tr.mv rfl rfl ?_
 refine Tr.va rfl (fun _ _ h1 h2 => run_neq (h1.ev rfl) (h1.ev rfl)) ?_
 refine Tr.nil (Tr.normThen ?_)
 refine Tr.cond rfl H (fun H => ?_) (fun H => ?_)
 ·refine Tr.sr ?_
  refine Tr.mv rfl rfl ?_
  refine Tr.asg rfl rfl ?_
  refine Tr.asg rfl rfl ?_
  refine Tr.nil (Tr.normThen ?_)
  refine Tr.ret (Tr.retThen ?_)
  obtain rfl := Option.some.inj H
  exact Tr.out (m := [(sv ByteArray.empty), (iv y101)]) [] (res_tmp rfl (res_tmp rfl res_nil)) (fun W hW => ⟨rfl, hW.low leB⟩)
 ·refine Tr.skip (Tr.normThen ?_)
  refine Tr.sr ?_
  refine Tr.sbNew (e := 5) 2 (wn rfl) rfl zb_85 fun b102 => ?_
  refine Tr.nil (Tr.normThen ?_)
  refine Tr.sr ?_
  refine Tr.va rfl (fun _ _ h1 h2 => run_fieldAddr fo_25_0 (h1.ev rfl)) ?_
  refine Tr.va rfl (fun _ _ h1 h2 => run_load1 ag_3 (h1.ev rfl) (rdb h2 (vs := [(iv p0.Unit), (.slice Ap0_0 (p0.Tools).length cp0_0), (.slice Ap0_1 (p0.Steps).length cp0_1)]) (k := 1) rfl 0) rfl) ?_
  obtain ⟨y103, hy103, H⟩ := bnd H
  refine Tr.call0 (r := (sv y103)) (wn rfl) rfl Tryd.call59 (evl_cons rfl evl_nil) (fun W hW => F_strconv_Itoa_ok p0.Unit y103 hy103 (HF.start _)) ?_
  obtain ⟨t104, ht104, H⟩ := bnd H
  refine Tr.va rfl (fun _ _ h1 h2 => run_catS (h1.ev rfl) (h1.ev rfl) ht104) ?_
  obtain ⟨t105, ht105, H⟩ := bnd H
  refine Tr.va rfl (fun _ _ h1 h2 => run_catS (h1.ev rfl) (h1.ev rfl) ht105) ?_
  obtain ⟨y106, hy106, H⟩ := bnd H
  refine Tr.callM [2] [sb 85 5 b102 none 0 ByteArray.empty] (U := (Option Addr × Nat)) (fun u => (.tuple #[(iv ((t105 : ByteArray).size : Int)), .nilIface])) (fun u => True) (fun u => [sb 85 5 b102 u.1 u.2 y106]) rfl (pk_cons rfl pk_nil) (fun _ => rfl) (wn rfl) rfl Tryd.call58 (evl_cons rfl (evl_cons rfl evl_nil)) (fun W hW hp hE => F_strings_Builder_WriteString_ok ByteArray.empty none 0 b102 t105 y106 hy106 hE) ?_
  intro u hu
  obtain ⟨Ay106_0, cy106_0⟩ := u
  have gy106_0 := hu
  have hgy106_0 : True := gy106_0 --@phi
  show Tr _ _ (uf _ 20 (.tuple #[(iv ((t105 : ByteArray).size : Int)), .nilIface])) (up _ 2 (sb 85 5 b102 Ay106_0 cy106_0 y106)) _
  refine Tr.nil (Tr.normThen ?_)
  refine Tr.seq ?_
  refine Tr.sr ?_
  refine Tr.va rfl (fun _ _ h1 h2 => run_fieldAddr fo_25_1 (h1.ev rfl)) ?_
  refine Tr.va rfl (fun _ _ h1 h2 => run_load1 ag_22 (h1.ev rfl) (rdb h2 (vs := [(iv p0.Unit), (.slice Ap0_0 (p0.Tools).length cp0_0), (.slice Ap0_1 (p0.Steps).length cp0_1)]) (k := 1) rfl 1) rfl) ?_
  refine Tr.va rfl (fun _ _ h1 h2 => run_len un_22 (h1.ev rfl)) ?_
  refine Tr.mv rfl rfl ?_
  refine Tr.nil (Tr.normThen ?_)
  refine Tr.block ?_
  refine Tr.loop (σ := (List TPlotTool) × Nat × ByteArray × (Option Addr) × Nat) (fun m w s => m = s.1.length + 1 ∧ s.1 = List.drop s.2.1 p0.Tools ∧ s.2.1 ≤ p0.Tools.length ∧ F_plot_Text_L3 N p0 s.1 s.2.1 s.2.2.1 = some r) (fun s => [(1, (.pointer (some ⟨b100, 0, none⟩))), (5, (.pointer (some ⟨b102, 0, none⟩))), (22, (.slice Ap0_0 (p0.Tools).length cp0_0)), (23, (iv (p0.Tools.length : Int))), (24, (iv (s.2.1 : Int)))]) (fun s => [(1, bx b100 #[(iv p0.Unit), (.slice Ap0_0 (p0.Tools).length cp0_0), (.slice Ap0_1 (p0.Steps).length cp0_1)] 25), (2, sb 85 5 b102 s.2.2.2.1 s.2.2.2.2 s.2.2.1)]) (p0.Tools.length + 1) (p0.Tools, 0, y106, Ay106_0, cy106_0) ⟨rfl, rfl, Nat.zero_le _, H⟩ (.cons rfl (.cons rfl (.cons rfl (.cons rfl (.cons rfl .nil))))) (.cons rfl (.cons rfl .nil)) (fun _ _ h => absurd h.1 (by simp)) ?_
  intro w leL3 m s hs
  obtain ⟨restL3, iL3, m178, Am178, cm178⟩ := s
  obtain ⟨hmL3, hdL3, hiL3, H⟩ := hs
  replace hdL3 : restL3 = List.drop iL3 p0.Tools := hdL3
  replace H : F_plot_Text_L3 N p0 restL3 iL3 m178 = some r := H
  replace hmL3 : m + 1 = restL3.length + 1 := hmL3
  replace hp0_0 := hp0_0.leR leL3
  replace hp0_1 := hp0_1.leR leL3
  replace leB := leB.trans leL3
  obtain rfl : m = restL3.length := by omega
  clear hmL3
  show Tr _ _ (LF [(1, (.pointer (some ⟨b100, 0, none⟩))), (5, (.pointer (some ⟨b102, 0, none⟩))), (22, (.slice Ap0_0 (p0.Tools).length cp0_0)), (23, (iv (p0.Tools.length : Int))), (24, (iv (iL3 : Int)))]) (LE [(1, bx b100 #[(iv p0.Unit), (.slice Ap0_0 (p0.Tools).length cp0_0), (.slice Ap0_1 (p0.Steps).length cp0_1)] 25), (2, sb 85 5 b102 Am178 cm178 m178)]) _
  cases restL3 with
  | nil =>
   rw [F_plot_Text_L3.eq_1] at H
   refine Tr.sr ?_
   refine Tr.va rfl (fun _ _ h1 h2 => run_lss (h1.ev rfl) (h1.ev rfl)) ?_
   refine Tr.nil (Tr.normThen ?_)
   refine Tr.seq ?_
   refine Tr.condF rfl (range_nil hdL3) ?_
   refine Tr.exit (Tr.exitThen (Tr.exitThen (Tr.exitBlock (Tr.normThen ?_))))
   refine Tr.sr ?_
   refine Tr.va rfl (fun _ _ h1 h2 => run_fieldAddr fo_25_2 (h1.ev rfl)) ?_
   refine Tr.va rfl (fun _ _ h1 h2 => run_load1 ag_23 (h1.ev rfl) (rdb h2 (vs := [(iv p0.Unit), (.slice Ap0_0 (p0.Tools).length cp0_0), (.slice Ap0_1 (p0.Steps).length cp0_1)]) (k := 1) rfl 2) rfl) ?_
   obtain ⟨y179, hy179, H⟩ := bnd H
   refine Tr.callM [2] [sb 85 5 b102 Am178 cm178 m178] (U := (Option Addr × Nat)) (fun u => (.tuple #[])) (fun u => True) (fun u => [sb 85 5 b102 u.1 u.2 y179]) rfl (pk_cons rfl pk_nil) (fun _ => rfl) (wn rfl) rfl Tryd.call61 (evl_cons rfl (evl_cons rfl evl_nil)) (fun W hW hp hE => F_plot_writeSteps_ok N m178 Am178 cm178 b102 p0.Steps Ap0_1 cp0_1 (hp0_1.ext (hW.extS hp)) y179 hy179 hE) ?_
   intro u hu
   obtain ⟨Ay179_0, cy179_0⟩ := u
   have gy179_0 := hu
   have hgy179_0 : True := gy179_0 --@phi
   show Tr _ _ (uf _ 57 (.tuple #[])) (up _ 2 (sb 85 5 b102 Ay179_0 cy179_0 y179)) _
   refine Tr.nil (Tr.normThen ?_)
   refine Tr.seq ?_
   refine Tr.sr ?_
   obtain ⟨y181, hy181, H⟩ := bnd H
   refine Tr.callM [2] [sb 85 5 b102 Ay179_0 cy179_0 y179] (U := (Option Addr × Nat)) (fun u => (iv y181.1)) (fun u => True) (fun u => [sb 85 5 b102 u.1 u.2 y181.2]) rfl (pk_cons rfl pk_nil) (fun _ => rfl) (wn rfl) rfl Tryd.call62 (evl_cons rfl evl_nil) (fun W hW hp hE => F_strings_Builder_Len_ok y179 Ay179_0 cy179_0 b102 y181 hy181 hE) ?_
   intro u hu
   obtain ⟨Ay181_0, cy181_0⟩ := u
   have gy181_0 := hu
   have hgy181_0 : True := gy181_0 --@phi
   show Tr _ _ (uf _ 58 (iv y181.1)) (up _ 2 (sb 85 5 b102 Ay181_0 cy181_0 y181.2)) _
   refine Tr.va rfl (fun _ _ h1 h2 => run_gtr (h1.ev rfl) (h1.ev rfl)) ?_
   refine Tr.nil (Tr.normThen ?_)
   refine Tr.cond rfl H (fun H => ?_) (fun H => ?_)
   ·refine Tr.sr ?_
    refine Tr.asg rfl rfl ?_
    refine Tr.asg rfl rfl ?_
    refine Tr.nil (Tr.normThen ?_)
    refine Tr.ret (Tr.retThen ?_)
    obtain rfl := Option.some.inj H
    exact Tr.out (m := [(sv ByteArray.empty), (iv 2)]) [] (res_tmp rfl (res_tmp rfl res_nil)) (fun W hW => ⟨rfl, hW.low leB⟩)
   ·refine Tr.skip (Tr.normThen ?_)
    refine Tr.sr ?_
    obtain ⟨y183, hy183, H⟩ := bnd H
    refine Tr.callM [2] [sb 85 5 b102 Ay181_0 cy181_0 y181.2] (U := (Option Addr × Nat)) (fun u => (sv y183.1)) (fun u => True) (fun u => [sb 85 5 b102 u.1 u.2 y183.2]) rfl (pk_cons rfl pk_nil) (fun _ => rfl) (wn rfl) rfl Tryd.call63 (evl_cons rfl evl_nil) (fun W hW hp hE => F_strings_Builder_String_ok y181.2 Ay181_0 cy181_0 b102 y183 hy183 hE) ?_
    intro u hu
    obtain ⟨Ay183_0, cy183_0⟩ := u
    have gy183_0 := hu
    have hgy183_0 : True := gy183_0 --@phi
    show Tr _ _ (uf _ 60 (sv y183.1)) (up _ 2 (sb 85 5 b102 Ay183_0 cy183_0 y183.2)) _
    refine Tr.asg rfl rfl ?_
    refine Tr.asg rfl rfl ?_
    refine Tr.nil (Tr.normThen ?_)
    refine Tr.ret ?_
    obtain rfl := Option.some.inj H
    exact Tr.out (m := [(sv y183.1), (iv 0)]) [] (res_tmp rfl (res_tmp rfl res_nil)) (fun W hW => ⟨rfl, hW.low leB⟩)
  | cons xL3 restL3 =>
   rw [F_plot_Text_L3.eq_2] at H
   refine Tr.sr ?_
   refine Tr.va rfl (fun _ _ h1 h2 => run_lss (h1.ev rfl) (h1.ev rfl)) ?_
   refine Tr.nil (Tr.normThen ?_)
   refine Tr.seq ?_
   refine Tr.condT rfl (range_on hdL3) ?_
   refine Tr.skip (Tr.normThen ?_)
   refine Tr.seq ?_
   refine Tr.block ?_
   refine Tr.sr ?_
   obtain ⟨u185, hRu185, hoku185, hcu185⟩ := (hp0_0).el (range_at hdL3)
   obtain ⟨Au185_0, cu185_0⟩ := u185
   have hoku185_0 := hoku185
   replace hoku185_0 : Sl w.R w.W fl_TRect Au185_0 cu185_0 xL3.Rects := hoku185_0
   refine Tr.va rfl (fun _ _ h1 h2 => run_indexAddr el_22 (h1.ev rfl) hp0_0.form (h1.ev rfl) (Int.natCast_nonneg _) (range_lt hdL3)) ?_
   refine Tr.va rfl (fun _ _ h1 h2 => run_loadN (cs := [(sv xL3.Name), (.slice Au185_0 (xL3.Rects).length cu185_0)]) ag_62 sz_62 (h1.ev rfl) (CellsAt.take (rdR hRu185 hcu185 h2) 2) rfl) ?_
   refine Tr.alloc 17 (wn rfl) rfl ze_62 fun b186 => ?_
   refine Tr.store 17 (cs := [(sv xL3.Name), (.slice Au185_0 (xL3.Rects).length cu185_0)]) [(sv xL3.Name), (.slice Au185_0 (xL3.Rects).length cu185_0)] (wn rfl) rfl rfl rfl rfl sz_62 rfl rfl rfl ?_
   refine Tr.nil (Tr.normThen ?_)
   refine Tr.sr ?_
   refine Tr.va rfl (fun _ _ h1 h2 => run_fieldAddr fo_62_0 (h1.ev rfl)) ?_
   refine Tr.va rfl (fun _ _ h1 h2 => run_load1 ag_9 (h1.ev rfl) (rdb h2 (vs := [(sv xL3.Name), (.slice Au185_0 (xL3.Rects).length cu185_0)]) (k := 17) rfl 0) rfl) ?_
   obtain ⟨t187, ht187, H⟩ := bnd H
   refine Tr.va rfl (fun _ _ h1 h2 => run_catS (h1.ev rfl) (h1.ev rfl) ht187) ?_
   obtain ⟨y188, hy188, H⟩ := bnd H
   refine Tr.callM [2] [sb 85 5 b102 Am178 cm178 m178] (U := (Option Addr × Nat)) (fun u => (.tuple #[(iv ((t187 : ByteArray).size : Int)), .nilIface])) (fun u => True) (fun u => [sb 85 5 b102 u.1 u.2 y188]) rfl (pk_cons rfl pk_nil) (fun _ => rfl) (wn rfl) rfl Tryd.call58 (evl_cons rfl (evl_cons rfl evl_nil)) (fun W hW hp hE => F_strings_Builder_WriteString_ok m178 Am178 cm178 b102 t187 y188 hy188 hE) ?_
   intro u hu
   obtain ⟨Ay188_0, cy188_0⟩ := u
   have gy188_0 := hu
   have hgy188_0 : True := gy188_0 --@phi
   show Tr _ _ (uf _ 31 (.tuple #[(iv ((t187 : ByteArray).size : Int)), .nilIface])) (up _ 2 (sb 85 5 b102 Ay188_0 cy188_0 y188)) _
   refine Tr.nil (Tr.normThen ?_)
   refine Tr.seq ?_
   refine Tr.sr ?_
   refine Tr.va rfl (fun _ _ h1 h2 => run_fieldAddr fo_62_1 (h1.ev rfl)) ?_
   refine Tr.va rfl (fun _ _ h1 h2 => run_load1 ag_60 (h1.ev rfl) (rdb h2 (vs := [(sv xL3.Name), (.slice Au185_0 (xL3.Rects).length cu185_0)]) (k := 17) rfl 1) rfl) ?_
   refine Tr.va rfl (fun _ _ h1 h2 => run_len un_60 (h1.ev rfl)) ?_
   refine Tr.mv rfl rfl ?_
   refine Tr.nil (Tr.normThen ?_)
   refine Tr.block ?_
   refine Tr.loop (σ := (List TRect) × Nat × ByteArray × (Option Addr) × Nat) (fun m w s => m = s.1.length + 1 ∧ s.1 = List.drop s.2.1 xL3.Rects ∧ s.2.1 ≤ xL3.Rects.length ∧ F_plot_Text_L4 (F_plot_Text_L3 N p0 restL3 (iL3 + 1)) s.1 s.2.1 s.2.2.1 = some r) (fun s => [(1, (.pointer (some ⟨b100, 0, none⟩))), (5, (.pointer (some ⟨b102, 0, none⟩))), (22, (.slice Ap0_0 (p0.Tools).length cp0_0)), (23, (iv (p0.Tools.length : Int))), (24, (iv (iL3 : Int))), (33, (.slice Au185_0 (xL3.Rects).length cu185_0)), (34, (iv (xL3.Rects.length : Int))), (35, (iv (s.2.1 : Int)))]) (fun s => [(1, bx b100 #[(iv p0.Unit), (.slice Ap0_0 (p0.Tools).length cp0_0), (.slice Ap0_1 (p0.Steps).length cp0_1)] 25), (2, sb 85 5 b102 s.2.2.2.1 s.2.2.2.2 s.2.2.1)]) (xL3.Rects.length + 1) (xL3.Rects, 0, y188, Ay188_0, cy188_0) ⟨rfl, rfl, Nat.zero_le _, H⟩ (.cons rfl (.cons rfl (.cons rfl (.cons rfl (.cons rfl (.cons rfl (.cons rfl (.cons rfl .nil)))))))) (.cons rfl (.cons rfl .nil)) (fun _ _ h => absurd h.1 (by simp)) ?_
   intro w leL4 m s hs
   obtain ⟨restL4, iL4, m208, Am208, cm208⟩ := s
   obtain ⟨hmL4, hdL4, hiL4, H⟩ := hs
   replace hdL4 : restL4 = List.drop iL4 xL3.Rects := hdL4
   replace H : F_plot_Text_L4 (F_plot_Text_L3 N p0 restL3 (iL3 + 1)) restL4 iL4 m208 = some r := H
   replace hmL4 : m + 1 = restL4.length + 1 := hmL4
   replace hp0_0 := hp0_0.leR leL4
   replace hp0_1 := hp0_1.leR leL4
   replace hoku185_0 := hoku185_0.leR leL4
   replace leB := leB.trans leL4
   replace leL3 := leL3.trans leL4
   obtain rfl : m = restL4.length := by omega
   clear hmL4
   show Tr _ _ (LF [(1, (.pointer (some ⟨b100, 0, none⟩))), (5, (.pointer (some ⟨b102, 0, none⟩))), (22, (.slice Ap0_0 (p0.Tools).length cp0_0)), (23, (iv (p0.Tools.length : Int))), (24, (iv (iL3 : Int))), (33, (.slice Au185_0 (xL3.Rects).length cu185_0)), (34, (iv (xL3.Rects.length : Int))), (35, (iv (iL4 : Int)))]) (LE [(1, bx b100 #[(iv p0.Unit), (.slice Ap0_0 (p0.Tools).length cp0_0), (.slice Ap0_1 (p0.Steps).length cp0_1)] 25), (2, sb 85 5 b102 Am208 cm208 m208)]) _
   cases restL4 with
   | nil =>
    rw [F_plot_Text_L4.eq_1] at H
    refine Tr.sr ?_
    refine Tr.va rfl (fun _ _ h1 h2 => run_lss (h1.ev rfl) (h1.ev rfl)) ?_
    refine Tr.nil (Tr.normThen ?_)
    refine Tr.seq ?_
    refine Tr.condF rfl (range_nil hdL4) ?_
    refine Tr.exit (Tr.exitThen (Tr.exitThen (Tr.exitBlock (Tr.normThen ?_))))
    refine Tr.region ?_
    obtain ⟨y209, hy209, H⟩ := bnd H
    refine Tr.callM [2] [sb 85 5 b102 Am208 cm208 m208] (U := (Option Addr × Nat)) (fun u => (.tuple #[(iv (((⟨#[10]⟩) : ByteArray).size : Int)), .nilIface])) (fun u => True) (fun u => [sb 85 5 b102 u.1 u.2 y209]) rfl (pk_cons rfl pk_nil) (fun _ => rfl) (wn rfl) rfl Tryd.call58 (evl_cons rfl (evl_cons rfl evl_nil)) (fun W hW hp hE => F_strings_Builder_WriteString_ok m208 Am208 cm208 b102 (⟨#[10]⟩) y209 hy209 hE) ?_
    intro u hu
    obtain ⟨Ay209_0, cy209_0⟩ := u
    have gy209_0 := hu
    have hgy209_0 : True := gy209_0 --@phi
    show Tr _ _ (uf _ 53 (.tuple #[(iv (((⟨#[10]⟩) : ByteArray).size : Int)), .nilIface])) (up _ 2 (sb 85 5 b102 Ay209_0 cy209_0 y209)) _
    refine Tr.nil (Tr.normBlock (Tr.normThen ?_))
    refine Tr.region ?_
    refine Tr.va rfl (fun _ _ h1 h2 => run_add (h1.ev rfl) (h1.ev rfl)) ?_
    refine Tr.mv rfl rfl ?_
    refine Tr.nil ?_
    exact Tr.backThen leL3 (restL3, (iL3 + 1), y209, Ay209_0, cy209_0) ⟨rfl, range_tl hdL3, range_lt hdL3, H⟩ (.cons rfl (.cons rfl (.cons rfl (.cons rfl (.cons (congrArg (fun z => some (Value.int .i64 z)) (range_up hdL3 hp0_0.form)) .nil))))) (.cons rfl (.cons rfl .nil))
   | cons xL4 restL4 =>
    rw [F_plot_Text_L4.eq_2] at H
    refine Tr.sr ?_
    refine Tr.va rfl (fun _ _ h1 h2 => run_lss (h1.ev rfl) (h1.ev rfl)) ?_
    refine Tr.nil (Tr.normThen ?_)
    refine Tr.seq ?_
    refine Tr.condT rfl (range_on hdL4) ?_
    refine Tr.skip (Tr.normThen ?_)
    refine Tr.seq ?_
    refine Tr.block ?_
    refine Tr.sr ?_
    refine Tr.va rfl (fun _ _ h1 h2 => run_indexAddr el_60 (h1.ev rfl) hoku185_0.form (h1.ev rfl) (Int.natCast_nonneg _) (range_lt hdL4)) ?_
    refine Tr.va rfl (fun _ _ h1 h2 => run_loadN (cs := [(iv xL4.X0), (iv xL4.Y0), (iv xL4.X1), (iv xL4.Y1)]) ag_57 sz_57 (h1.ev rfl) (CellsAt.take (rdF ef_TRect hoku185_0 (range_at hdL4) h2) 4) rfl) ?_
    refine Tr.alloc 22 (wn rfl) rfl ze_57 fun b211 => ?_
    refine Tr.store 22 (cs := [(iv xL4.X0), (iv xL4.Y0), (iv xL4.X1), (iv xL4.Y1)]) [(iv xL4.X0), (iv xL4.Y0), (iv xL4.X1), (iv xL4.Y1)] (wn rfl) rfl rfl rfl rfl sz_57 rfl rfl rfl ?_
    refine Tr.nil (Tr.normThen ?_)
    refine Tr.region ?_
    refine Tr.va rfl (fun _ _ h1 h2 => run_fieldAddr fo_57_0 (h1.ev rfl)) ?_
    refine Tr.va rfl (fun _ _ h1 h2 => run_load1 ag_3 (h1.ev rfl) (rdb h2 (vs := [(iv xL4.X0), (iv xL4.Y0), (iv xL4.X1), (iv xL4.Y1)]) (k := 22) rfl 0) rfl) ?_
    refine Tr.va rfl (fun _ _ h1 h2 => run_fieldAddr fo_57_1 (h1.ev rfl)) ?_
    refine Tr.va rfl (fun _ _ h1 h2 => run_load1 ag_3 (h1.ev rfl) (rdb h2 (vs := [(iv xL4.X0), (iv xL4.Y0), (iv xL4.X1), (iv xL4.Y1)]) (k := 22) rfl 1) rfl) ?_
    refine Tr.build (vs := [(0, (iv xL4.X0)), (1, (iv xL4.Y0))]) (cs := [(iv xL4.X0), (iv xL4.Y0)]) (wn rfl) rfl (evs_cons rfl (evs_cons rfl evs_nil)) (by kernel_rfl) ?_
    refine Tr.va rfl (fun _ _ h1 h2 => run_fieldAddr fo_57_2 (h1.ev rfl)) ?_
    refine Tr.va rfl (fun _ _ h1 h2 => run_load1 ag_3 (h1.ev rfl) (rdb h2 (vs := [(iv xL4.X0), (iv xL4.Y0), (iv xL4.X1), (iv xL4.Y1)]) (k := 22) rfl 2) rfl) ?_
    refine Tr.va rfl (fun _ _ h1 h2 => run_fieldAddr fo_57_3 (h1.ev rfl)) ?_
    refine Tr.va rfl (fun _ _ h1 h2 => run_load1 ag_3 (h1.ev rfl) (rdb h2 (vs := [(iv xL4.X0), (iv xL4.Y0), (iv xL4.X1), (iv xL4.Y1)]) (k := 22) rfl 3) rfl) ?_
    refine Tr.build (vs := [(0, (iv xL4.X1)), (1, (iv xL4.Y1))]) (cs := [(iv xL4.X1), (iv xL4.Y1)]) (wn rfl) rfl (evs_cons rfl (evs_cons rfl evs_nil)) (by kernel_rfl) ?_
    refine Tr.buildSlice 23 (e := 27) (vs := [(0, (.agg #[(iv xL4.X0), (iv xL4.Y0)])), (1, (.agg #[(iv xL4.X1), (iv xL4.Y1)]))]) (cs := [(iv xL4.X0), (iv xL4.Y0), (iv xL4.X1), (iv xL4.Y1)]) (wn rfl) rfl (evs_cons rfl (evs_cons rfl evs_nil)) (by kernel_rfl) fun b212 => ?_
    refine Tr.own 23 fl_TPoint [(TPoint.mk xL4.X0 xL4.Y0), (TPoint.mk xL4.X1 xL4.Y1)] (css := [[(iv xL4.X0), (iv xL4.Y0)], [(iv xL4.X1), (iv xL4.Y1)]]) rfl (.cons ⟨(), trivial, rfl⟩ (.cons ⟨(), trivial, rfl⟩ .nil)) rfl (by decide) (lit_max rfl) ?_
    obtain ⟨y213, hy213, H⟩ := bnd H
    refine Tr.call0 (r := (sv y213)) (wn rfl) rfl Tryd.call60 (evl_cons rfl evl_nil) (fun W hW => F_plot_points_ok [(TPoint.mk xL4.X0 xL4.Y0), (TPoint.mk xL4.X1 xL4.Y1)] (some ⟨b212, 0, none⟩) 2 (hW.slCall (k := 23) rfl) y213 hy213 (HF.start _)) ?_
    obtain ⟨y214, hy214, H⟩ := bnd H
    refine Tr.callM [2] [sb 85 5 b102 Am208 cm208 m208] (U := (Option Addr × Nat)) (fun u => (.tuple #[(iv ((y213 : ByteArray).size : Int)), .nilIface])) (fun u => True) (fun u => [sb 85 5 b102 u.1 u.2 y214]) rfl (pk_cons rfl pk_nil) (fun _ => rfl) (wn rfl) rfl Tryd.call58 (evl_cons rfl (evl_cons rfl evl_nil)) (fun W hW hp hE => F_strings_Builder_WriteString_ok m208 Am208 cm208 b102 y213 y214 hy214 hE) ?_
    intro u hu
    obtain ⟨Ay214_0, cy214_0⟩ := u
    have gy214_0 := hu
    have hgy214_0 : True := gy214_0 --@phi
    show Tr _ _ (uf _ 51 (.tuple #[(iv ((y213 : ByteArray).size : Int)), .nilIface])) (up _ 2 (sb 85 5 b102 Ay214_0 cy214_0 y214)) _
    refine Tr.nil (Tr.normBlock (Tr.normThen ?_))
    refine Tr.region ?_
    refine Tr.va rfl (fun _ _ h1 h2 => run_add (h1.ev rfl) (h1.ev rfl)) ?_
    refine Tr.mv rfl rfl ?_
    refine Tr.nil ?_
    exact Tr.backThen leL4 (restL4, (iL4 + 1), y214, Ay214_0, cy214_0) ⟨rfl, range_tl hdL4, range_lt hdL4, H⟩ (.cons rfl (.cons rfl (.cons rfl (.cons rfl (.cons rfl (.cons rfl (.cons rfl (.cons (congrArg (fun z => some (Value.int .i64 z)) (range_up hdL4 hoku185_0.form)) .nil)))))))) (.cons rfl (.cons rfl .nil))

theorem F_etchhouselaw3_awake_ok (N : Nat) {w : Bs}  (r : Bool) (H : F_etchhouselaw3_awake N = some r) (hE : HF w w.W E0) : Calls Tryd.prog 9 [].toArray w.W fun e W' => e = .returned (.bool r) ∧ HF w W' E0 := by
 unfold F_etchhouselaw3_awake at H
 have leB := Bs.Le.refl w
 refine Tr.enter (n := 14) Tryd.func9 rfl rfl rfl hE ?_
 refine Tr.sr ?_
 refine Tr.asg rfl rfl ?_
 refine Tr.nil (Tr.normThen ?_)
 refine Tr.sr ?_
 refine Tr.build (vs := [(0, (iv 7))]) (cs := [(iv 7), (.slice none 0 0), (.slice none 0 0)]) (wn rfl) rfl (evs_cons rfl evs_nil) (by kernel_rfl) ?_
 obtain ⟨y100, hy100, H⟩ := bnd H
 refine Tr.call0 (r := (.tuple #[(sv y100.1), (iv y100.2)])) (wn rfl) rfl Tryd.call35 (evl_cons rfl evl_nil) (fun W hW => F_plot_Text_ok N (TPlot.mk 7 [] []) none 0 (Sl.nil _ _ _) none 0 (Sl.nil _ _ _) y100 hy100 (HF.start _)) ?_
 refine Tr.mv rfl rfl ?_
 refine Tr.va rfl (fun _ _ h1 h2 => run_extract (h1.ev rfl) rfl) ?_
 refine Tr.va rfl (fun _ _ h1 h2 => run_extract (h1.ev rfl) rfl) ?_
 refine Tr.asg rfl rfl ?_
 refine Tr.asg rfl rfl ?_
 refine Tr.nil (Tr.normThen ?_)
 refine Tr.sr ?_
 refine Tr.mv rfl rfl ?_
 refine Tr.va rfl (fun _ _ h1 h2 => run_eql (h1.ev rfl) (h1.ev rfl)) ?_
 refine Tr.mv rfl rfl ?_
 refine Tr.mid0 3 [(13, (.bool ((y100.2 == 0) && (sEq y100.1 (⟨#[117, 110, 105, 116, 32, 55, 10]⟩)))))] [] ?_ ?_
 ·cases hg100 : (y100.2 == 0)
  ·refine Tr.pass rfl rfl rfl rfl rfl (by decide) ?_
   refine Tr.pass rfl rfl rfl rfl rfl (by decide) ?_
   refine Tr.va rfl (fun _ _ h1 h2 => run_pickF (h1.ev rfl) (h1.ev rfl)) ?_
   exact Tr.nil (Tr.fin0 (.cons rfl .nil) .nil)
  ·refine Tr.val (wg rfl rfl rfl) rfl (fun _ _ h1 h2 => run_move (h1.ev rfl)) ?_
   refine Tr.val (wg rfl rfl rfl) rfl (fun _ _ h1 h2 => run_eqlS (h1.ev rfl) (h1.ev rfl)) ?_
   refine Tr.va rfl (fun _ _ h1 h2 => run_pickT (h1.ev rfl) (h1.ev rfl)) ?_
   exact Tr.nil (Tr.fin0 (.cons rfl .nil) .nil)
 ·show Tr _ _ (LF [(13, (.bool ((y100.2 == 0) && (sEq y100.1 (⟨#[117, 110, 105, 116, 32, 55, 10]⟩)))))]) (LE []) _
  refine Tr.asg rfl rfl ?_
  refine Tr.nil (Tr.normThen ?_)
  refine Tr.ret ?_
  obtain rfl := Option.some.inj H
  exact Tr.out (m := [(.bool ((y100.2 == 0) && (sEq y100.1 (⟨#[117, 110, 105, 116, 32, 55, 10]⟩))))]) [] (res_tmp rfl res_nil) (fun W hW => ⟨rfl, hW.low leB⟩)

theorem F_etchhouselaw3_PlotsMovedMatchSpec_ok (N : Nat) {w : Bs} (p0 : TPlot) (Ap0_0 : Option Addr) (cp0_0 : Nat) (hp0_0 : Sl w.O w.W fl_TPlotTool Ap0_0 cp0_0 p0.Tools) (Ap0_1 : Option Addr) (cp0_1 : Nat) (hp0_1 : Sl w.O w.W fl_TPlotStep Ap0_1 cp0_1 p0.Steps) (p1 : TPoint) (p2 : TTurn) (r : Bool) (H : F_etchhouselaw3_PlotsMovedMatchSpec N p0 p1 p2 = some r) (hE : HF w w.W E0) : Calls Tryd.prog 3 [(.agg #[(iv p0.Unit), (.slice Ap0_0 (p0.Tools).length cp0_0), (.slice Ap0_1 (p0.Steps).length cp0_1)]), (.agg #[(iv p1.X), (iv p1.Y)]), (.agg #[(.bool p2.Flip), (iv p2.Quarters), (iv p2.At.X), (iv p2.At.Y)])].toArray w.W fun e W' => e = .returned (.bool r) ∧ HF w W' E0 := by
 unfold F_etchhouselaw3_PlotsMovedMatchSpec at H
 have leB := Bs.Le.refl w
 refine Tr.enter (n := 60) Tryd.func3 rfl rfl rfl hE ?_
 refine Tr.sr ?_
 refine Tr.box 1 (cs := [(iv p0.Unit), (.slice Ap0_0 (p0.Tools).length cp0_0), (.slice Ap0_1 (p0.Steps).length cp0_1)]) (wn rfl) rfl rfl rfl fun b100 => ?_
 refine Tr.box 2 (cs := [(iv p1.X), (iv p1.Y)]) (wn rfl) rfl rfl rfl fun b101 => ?_
 refine Tr.box 3 (cs := [(.bool p2.Flip), (iv p2.Quarters), (iv p2.At.X), (iv p2.At.Y)]) (wn rfl) rfl rfl rfl fun b102 => ?_
 refine Tr.asg rfl rfl ?_
 refine Tr.nil (Tr.normThen ?_)
 refine Tr.sr ?_
 refine Tr.va rfl (fun _ _ h1 h2 => run_loadN (cs := [(iv p0.Unit), (.slice Ap0_0 (p0.Tools).length cp0_0), (.slice Ap0_1 (p0.Steps).length cp0_1)]) ag_25 sz_25 (h1.ev rfl) (CellsAt.take (rdb h2 (vs := [(iv p0.Unit), (.slice Ap0_0 (p0.Tools).length cp0_0), (.slice Ap0_1 (p0.Steps).length cp0_1)]) (k := 1) rfl 0) 3) rfl) ?_
 refine Tr.va rfl (fun _ _ h1 h2 => run_loadN (cs := [(iv p1.X), (iv p1.Y)]) ag_27 sz_27 (h1.ev rfl) (CellsAt.take (rdb h2 (vs := [(iv p1.X), (iv p1.Y)]) (k := 2) rfl 0) 2) rfl) ?_
 obtain ⟨y103, hy103, H⟩ := bnd H
 refine Tr.callG [] [] (U := (Option Addr × Nat) × (Option Addr × Nat)) (fun u => (.tuple #[(.agg #[(iv y103.1.Unit), (.slice u.1.1 (y103.1.Tools).length u.1.2), (.slice u.2.1 (y103.1.Steps).length u.2.2)]), (iv y103.2)])) (fun O W u => Sl O W fl_TPlotTool u.1.1 u.1.2 y103.1.Tools ∧ Sl O W fl_TPlotStep u.2.1 u.2.2 y103.1.Steps) (fun u => []) rfl pk_nil (fun _ => rfl) (wn rfl) rfl Tryd.call4 (evl_cons rfl (evl_cons rfl evl_nil)) (fun W hW hp hE => F_plot_Moved_ok N p0 Ap0_0 cp0_0 (hp0_0.extO (hW.extS hp)) Ap0_1 cp0_1 (hp0_1.extO (hW.extS hp)) p1 y103 hy103 hE) ?_
 intro w u le104 hu
 obtain ⟨⟨Ay103_0, cy103_0⟩, ⟨Ay103_1, cy103_1⟩⟩ := u
 obtain ⟨gy103_0, gy103_1⟩ := hu
 replace hp0_0 := hp0_0.le le104
 replace hp0_1 := hp0_1.le le104
 replace leB := leB.trans le104
 have hgy103_0 : Sl w.O w.W fl_TPlotTool Ay103_0 cy103_0 y103.1.Tools := gy103_0 --@phi
 have hgy103_1 : Sl w.O w.W fl_TPlotStep Ay103_1 cy103_1 y103.1.Steps := gy103_1 --@phi
 show Tr _ _ (uf _ 18 (.tuple #[(.agg #[(iv y103.1.Unit), (.slice Ay103_0 (y103.1.Tools).length cy103_0), (.slice Ay103_1 (y103.1.Steps).length cy103_1)]), (iv y103.2)])) (_) _
 refine Tr.mv rfl rfl ?_
 refine Tr.va rfl (fun _ _ h1 h2 => run_extract (h1.ev rfl) rfl) ?_
 refine Tr.va rfl (fun _ _ h1 h2 => run_extract (h1.ev rfl) rfl) ?_
 refine Tr.alloc 4 (wn rfl) rfl ze_25 fun b105 => ?_
 refine Tr.store 4 (cs := [(iv y103.1.Unit), (.slice Ay103_0 (y103.1.Tools).length cy103_0), (.slice Ay103_1 (y103.1.Steps).length cy103_1)]) [(iv y103.1.Unit), (.slice Ay103_0 (y103.1.Tools).length cy103_0), (.slice Ay103_1 (y103.1.Steps).length cy103_1)] (wn rfl) rfl rfl rfl rfl sz_25 rfl rfl rfl ?_
 refine Tr.asg rfl rfl ?_
 refine Tr.nil (Tr.normThen ?_)
 refine Tr.sr ?_
 refine Tr.va rfl (fun _ _ h1 h2 => run_loadN (cs := [(iv p0.Unit), (.slice Ap0_0 (p0.Tools).length cp0_0), (.slice Ap0_1 (p0.Steps).length cp0_1)]) ag_25 sz_25 (h1.ev rfl) (CellsAt.take (rdb h2 (vs := [(iv p0.Unit), (.slice Ap0_0 (p0.Tools).length cp0_0), (.slice Ap0_1 (p0.Steps).length cp0_1)]) (k := 1) rfl 0) 3) rfl) ?_
 refine Tr.va rfl (fun _ _ h1 h2 => run_loadN (cs := [(iv p1.X), (iv p1.Y)]) ag_27 sz_27 (h1.ev rfl) (CellsAt.take (rdb h2 (vs := [(iv p1.X), (iv p1.Y)]) (k := 2) rfl 0) 2) rfl) ?_
 obtain ⟨y106, hy106, H⟩ := bnd H
 refine Tr.callG [] [] (U := (Option Addr × Nat) × (Option Addr × Nat)) (fun u => (.tuple #[(.agg #[(iv y106.1.Unit), (.slice u.1.1 (y106.1.Tools).length u.1.2), (.slice u.2.1 (y106.1.Steps).length u.2.2)]), (iv y106.2)])) (fun O W u => Sl O W fl_TPlotTool u.1.1 u.1.2 y106.1.Tools ∧ Sl O W fl_TPlotStep u.2.1 u.2.2 y106.1.Steps) (fun u => []) rfl pk_nil (fun _ => rfl) (wn rfl) rfl Tryd.call5 (evl_cons rfl (evl_cons rfl evl_nil)) (fun W hW hp hE => F_etchhouseref3_Moved_ok N p0 Ap0_0 cp0_0 (hp0_0.extO (hW.extS hp)) Ap0_1 cp0_1 (hp0_1.extO (hW.extS hp)) p1 y106 hy106 hE) ?_
 intro w u le107 hu
 obtain ⟨⟨Ay106_0, cy106_0⟩, ⟨Ay106_1, cy106_1⟩⟩ := u
 obtain ⟨gy106_0, gy106_1⟩ := hu
 replace hp0_0 := hp0_0.le le107
 replace hp0_1 := hp0_1.le le107
 replace hgy103_0 := hgy103_0.le le107
 replace hgy103_1 := hgy103_1.le le107
 replace leB := leB.trans le107
 have hgy106_0 : Sl w.O w.W fl_TPlotTool Ay106_0 cy106_0 y106.1.Tools := gy106_0 --@phi
 have hgy106_1 : Sl w.O w.W fl_TPlotStep Ay106_1 cy106_1 y106.1.Steps := gy106_1 --@phi
 show Tr _ _ (uf _ 24 (.tuple #[(.agg #[(iv y106.1.Unit), (.slice Ay106_0 (y106.1.Tools).length cy106_0), (.slice Ay106_1 (y106.1.Steps).length cy106_1)]), (iv y106.2)])) (_) _
 refine Tr.mv rfl rfl ?_
 refine Tr.va rfl (fun _ _ h1 h2 => run_extract (h1.ev rfl) rfl) ?_
 refine Tr.va rfl (fun _ _ h1 h2 => run_extract (h1.ev rfl) rfl) ?_
 refine Tr.alloc 5 (wn rfl) rfl ze_25 fun b108 => ?_
 refine Tr.store 5 (cs := [(iv y106.1.Unit), (.slice Ay106_0 (y106.1.Tools).length cy106_0), (.slice Ay106_1 (y106.1.Steps).length cy106_1)]) [(iv y106.1.Unit), (.slice Ay106_0 (y106.1.Tools).length cy106_0), (.slice Ay106_1 (y106.1.Steps).length cy106_1)] (wn rfl) rfl rfl rfl rfl sz_25 rfl rfl rfl ?_
 refine Tr.asg rfl rfl ?_
 refine Tr.nil (Tr.normThen ?_)
 refine Tr.sr ?_
 refine Tr.va rfl (fun _ _ h1 h2 => run_loadN (cs := [(iv p0.Unit), (.slice Ap0_0 (p0.Tools).length cp0_0), (.slice Ap0_1 (p0.Steps).length cp0_1)]) ag_25 sz_25 (h1.ev rfl) (CellsAt.take (rdb h2 (vs := [(iv p0.Unit), (.slice Ap0_0 (p0.Tools).length cp0_0), (.slice Ap0_1 (p0.Steps).length cp0_1)]) (k := 1) rfl 0) 3) rfl) ?_
 refine Tr.va rfl (fun _ _ h1 h2 => run_loadN (cs := [(.bool p2.Flip), (iv p2.Quarters), (iv p2.At.X), (iv p2.At.Y)]) ag_29 sz_29 (h1.ev rfl) (CellsAt.take (rdb h2 (vs := [(.bool p2.Flip), (iv p2.Quarters), (iv p2.At.X), (iv p2.At.Y)]) (k := 3) rfl 0) 4) rfl) ?_
 obtain ⟨y109, hy109, H⟩ := bnd H
 refine Tr.callG [] [] (U := (Option Addr × Nat) × (Option Addr × Nat)) (fun u => (.tuple #[(.agg #[(iv y109.1.Unit), (.slice u.1.1 (y109.1.Tools).length u.1.2), (.slice u.2.1 (y109.1.Steps).length u.2.2)]), (iv y109.2)])) (fun O W u => Sl O W fl_TPlotTool u.1.1 u.1.2 y109.1.Tools ∧ Sl O W fl_TPlotStep u.2.1 u.2.2 y109.1.Steps) (fun u => []) rfl pk_nil (fun _ => rfl) (wn rfl) rfl Tryd.call6 (evl_cons rfl (evl_cons rfl evl_nil)) (fun W hW hp hE => F_plot_TurnedPlot_ok N p0 Ap0_0 cp0_0 (hp0_0.extO (hW.extS hp)) Ap0_1 cp0_1 (hp0_1.extO (hW.extS hp)) p2 y109 hy109 hE) ?_
 intro w u le110 hu
 obtain ⟨⟨Ay109_0, cy109_0⟩, ⟨Ay109_1, cy109_1⟩⟩ := u
 obtain ⟨gy109_0, gy109_1⟩ := hu
 replace hp0_0 := hp0_0.le le110
 replace hp0_1 := hp0_1.le le110
 replace hgy103_0 := hgy103_0.le le110
 replace hgy103_1 := hgy103_1.le le110
 replace hgy106_0 := hgy106_0.le le110
 replace hgy106_1 := hgy106_1.le le110
 replace leB := leB.trans le110
 have hgy109_0 : Sl w.O w.W fl_TPlotTool Ay109_0 cy109_0 y109.1.Tools := gy109_0 --@phi
 have hgy109_1 : Sl w.O w.W fl_TPlotStep Ay109_1 cy109_1 y109.1.Steps := gy109_1 --@phi
 show Tr _ _ (uf _ 30 (.tuple #[(.agg #[(iv y109.1.Unit), (.slice Ay109_0 (y109.1.Tools).length cy109_0), (.slice Ay109_1 (y109.1.Steps).length cy109_1)]), (iv y109.2)])) (_) _
 refine Tr.mv rfl rfl ?_
 refine Tr.va rfl (fun _ _ h1 h2 => run_extract (h1.ev rfl) rfl) ?_
 refine Tr.va rfl (fun _ _ h1 h2 => run_extract (h1.ev rfl) rfl) ?_
 refine Tr.alloc 6 (wn rfl) rfl ze_25 fun b111 => ?_
 refine Tr.store 6 (cs := [(iv y109.1.Unit), (.slice Ay109_0 (y109.1.Tools).length cy109_0), (.slice Ay109_1 (y109.1.Steps).length cy109_1)]) [(iv y109.1.Unit), (.slice Ay109_0 (y109.1.Tools).length cy109_0), (.slice Ay109_1 (y109.1.Steps).length cy109_1)] (wn rfl) rfl rfl rfl rfl sz_25 rfl rfl rfl ?_
 refine Tr.asg rfl rfl ?_
 refine Tr.nil (Tr.normThen ?_)
 refine Tr.sr ?_
 refine Tr.va rfl (fun _ _ h1 h2 => run_loadN (cs := [(iv p0.Unit), (.slice Ap0_0 (p0.Tools).length cp0_0), (.slice Ap0_1 (p0.Steps).length cp0_1)]) ag_25 sz_25 (h1.ev rfl) (CellsAt.take (rdb h2 (vs := [(iv p0.Unit), (.slice Ap0_0 (p0.Tools).length cp0_0), (.slice Ap0_1 (p0.Steps).length cp0_1)]) (k := 1) rfl 0) 3) rfl) ?_
 refine Tr.va rfl (fun _ _ h1 h2 => run_loadN (cs := [(.bool p2.Flip), (iv p2.Quarters), (iv p2.At.X), (iv p2.At.Y)]) ag_29 sz_29 (h1.ev rfl) (CellsAt.take (rdb h2 (vs := [(.bool p2.Flip), (iv p2.Quarters), (iv p2.At.X), (iv p2.At.Y)]) (k := 3) rfl 0) 4) rfl) ?_
 obtain ⟨y112, hy112, H⟩ := bnd H
 refine Tr.callG [] [] (U := (Option Addr × Nat) × (Option Addr × Nat)) (fun u => (.tuple #[(.agg #[(iv y112.1.Unit), (.slice u.1.1 (y112.1.Tools).length u.1.2), (.slice u.2.1 (y112.1.Steps).length u.2.2)]), (iv y112.2)])) (fun O W u => Sl O W fl_TPlotTool u.1.1 u.1.2 y112.1.Tools ∧ Sl O W fl_TPlotStep u.2.1 u.2.2 y112.1.Steps) (fun u => []) rfl pk_nil (fun _ => rfl) (wn rfl) rfl Tryd.call7 (evl_cons rfl (evl_cons rfl evl_nil)) (fun W hW hp hE => F_etchhouseref3_TurnedPlot_ok N p0 Ap0_0 cp0_0 (hp0_0.rl.ext (hW.extS hp)) Ap0_1 cp0_1 (hp0_1.extO (hW.extS hp)) p2 y112 hy112 hE) ?_
 intro w u le113 hu
 obtain ⟨⟨Ay112_0, cy112_0⟩, ⟨Ay112_1, cy112_1⟩⟩ := u
 obtain ⟨gy112_0, gy112_1⟩ := hu
 replace hp0_0 := hp0_0.le le113
 replace hp0_1 := hp0_1.le le113
 replace hgy103_0 := hgy103_0.le le113
 replace hgy103_1 := hgy103_1.le le113
 replace hgy106_0 := hgy106_0.le le113
 replace hgy106_1 := hgy106_1.le le113
 replace hgy109_0 := hgy109_0.le le113
 replace hgy109_1 := hgy109_1.le le113
 replace leB := leB.trans le113
 have hgy112_0 : Sl w.O w.W fl_TPlotTool Ay112_0 cy112_0 y112.1.Tools := gy112_0 --@phi
 have hgy112_1 : Sl w.O w.W fl_TPlotStep Ay112_1 cy112_1 y112.1.Steps := gy112_1 --@phi
 show Tr _ _ (uf _ 36 (.tuple #[(.agg #[(iv y112.1.Unit), (.slice Ay112_0 (y112.1.Tools).length cy112_0), (.slice Ay112_1 (y112.1.Steps).length cy112_1)]), (iv y112.2)])) (_) _
 refine Tr.mv rfl rfl ?_
 refine Tr.va rfl (fun _ _ h1 h2 => run_extract (h1.ev rfl) rfl) ?_
 refine Tr.va rfl (fun _ _ h1 h2 => run_extract (h1.ev rfl) rfl) ?_
 refine Tr.alloc 7 (wn rfl) rfl ze_25 fun b114 => ?_
 refine Tr.store 7 (cs := [(iv y112.1.Unit), (.slice Ay112_0 (y112.1.Tools).length cy112_0), (.slice Ay112_1 (y112.1.Steps).length cy112_1)]) [(iv y112.1.Unit), (.slice Ay112_0 (y112.1.Tools).length cy112_0), (.slice Ay112_1 (y112.1.Steps).length cy112_1)] (wn rfl) rfl rfl rfl rfl sz_25 rfl rfl rfl ?_
 refine Tr.asg rfl rfl ?_
 refine Tr.nil (Tr.normThen ?_)
 refine Tr.sr ?_
 refine Tr.va rfl (fun _ _ h1 h2 => run_loadN (cs := [(iv y103.1.Unit), (.slice Ay103_0 (y103.1.Tools).length cy103_0), (.slice Ay103_1 (y103.1.Steps).length cy103_1)]) ag_25 sz_25 (h1.ev rfl) (CellsAt.take (rdb h2 (vs := [(iv y103.1.Unit), (.slice Ay103_0 (y103.1.Tools).length cy103_0), (.slice Ay103_1 (y103.1.Steps).length cy103_1)]) (k := 4) rfl 0) 3) rfl) ?_
 refine Tr.va rfl (fun _ _ h1 h2 => run_loadN (cs := [(iv y106.1.Unit), (.slice Ay106_0 (y106.1.Tools).length cy106_0), (.slice Ay106_1 (y106.1.Steps).length cy106_1)]) ag_25 sz_25 (h1.ev rfl) (CellsAt.take (rdb h2 (vs := [(iv y106.1.Unit), (.slice Ay106_0 (y106.1.Tools).length cy106_0), (.slice Ay106_1 (y106.1.Steps).length cy106_1)]) (k := 5) rfl 0) 3) rfl) ?_
 obtain ⟨y115, hy115, H⟩ := bnd H
 refine Tr.call0 (r := (.bool y115)) (wn rfl) rfl Tryd.call8 (evl_cons rfl (evl_cons rfl evl_nil)) (fun W hW => F_etchhouseref3_SamePlot_ok N y103.1 Ay103_0 cy103_0 (hgy103_0.rl.ext hW.extAll) Ay103_1 cy103_1 (hgy103_1.rl.ext hW.extAll) y106.1 Ay106_0 cy106_0 (hgy106_0.rl.ext hW.extAll) Ay106_1 cy106_1 (hgy106_1.rl.ext hW.extAll) y115 hy115 (HF.start _)) ?_
 refine Tr.mv rfl rfl ?_
 refine Tr.mid0 4 [(11, (.pointer (some ⟨b111, 0, none⟩))), (12, (iv y109.2)), (13, (.pointer (some ⟨b114, 0, none⟩))), (14, (iv y112.2)), (46, (.bool (y115 && (y103.2 == y106.2))))] [(1, bx b100 #[(iv p0.Unit), (.slice Ap0_0 (p0.Tools).length cp0_0), (.slice Ap0_1 (p0.Steps).length cp0_1)] 25), (2, bx b101 #[(iv p1.X), (iv p1.Y)] 27), (3, bx b102 #[(.bool p2.Flip), (iv p2.Quarters), (iv p2.At.X), (iv p2.At.Y)] 29), (4, bx b105 #[(iv y103.1.Unit), (.slice Ay103_0 (y103.1.Tools).length cy103_0), (.slice Ay103_1 (y103.1.Steps).length cy103_1)] 25), (5, bx b108 #[(iv y106.1.Unit), (.slice Ay106_0 (y106.1.Tools).length cy106_0), (.slice Ay106_1 (y106.1.Steps).length cy106_1)] 25), (6, bx b111 #[(iv y109.1.Unit), (.slice Ay109_0 (y109.1.Tools).length cy109_0), (.slice Ay109_1 (y109.1.Steps).length cy109_1)] 25), (7, bx b114 #[(iv y112.1.Unit), (.slice Ay112_0 (y112.1.Tools).length cy112_0), (.slice Ay112_1 (y112.1.Steps).length cy112_1)] 25)] ?_ ?_
 ·cases hg121 : y115
  ·refine Tr.pass rfl rfl rfl rfl rfl (by decide) ?_
   refine Tr.pass rfl rfl rfl rfl rfl (by decide) ?_
   refine Tr.pass rfl rfl rfl rfl rfl (by decide) ?_
   refine Tr.va rfl (fun _ _ h1 h2 => run_pickF (h1.ev rfl) (h1.ev rfl)) ?_
   exact Tr.nil (Tr.fin0 (.cons rfl (.cons rfl (.cons rfl (.cons rfl (.cons rfl .nil))))) (.cons rfl (.cons rfl (.cons rfl (.cons rfl (.cons rfl (.cons rfl (.cons rfl .nil))))))))
  ·refine Tr.val (wg rfl rfl rfl) rfl (fun _ _ h1 h2 => run_move (h1.ev rfl)) ?_
   refine Tr.val (wg rfl rfl rfl) rfl (fun _ _ h1 h2 => run_move (h1.ev rfl)) ?_
   refine Tr.val (wg rfl rfl rfl) rfl (fun _ _ h1 h2 => run_eql (h1.ev rfl) (h1.ev rfl)) ?_
   refine Tr.va rfl (fun _ _ h1 h2 => run_pickT (h1.ev rfl) (h1.ev rfl)) ?_
   exact Tr.nil (Tr.fin0 (.cons rfl (.cons rfl (.cons rfl (.cons rfl (.cons rfl .nil))))) (.cons rfl (.cons rfl (.cons rfl (.cons rfl (.cons rfl (.cons rfl (.cons rfl .nil))))))))
 ·show Tr _ _ (LF [(11, (.pointer (some ⟨b111, 0, none⟩))), (12, (iv y109.2)), (13, (.pointer (some ⟨b114, 0, none⟩))), (14, (iv y112.2)), (46, (.bool (y115 && (y103.2 == y106.2))))]) (LE [(1, bx b100 #[(iv p0.Unit), (.slice Ap0_0 (p0.Tools).length cp0_0), (.slice Ap0_1 (p0.Steps).length cp0_1)] 25), (2, bx b101 #[(iv p1.X), (iv p1.Y)] 27), (3, bx b102 #[(.bool p2.Flip), (iv p2.Quarters), (iv p2.At.X), (iv p2.At.Y)] 29), (4, bx b105 #[(iv y103.1.Unit), (.slice Ay103_0 (y103.1.Tools).length cy103_0), (.slice Ay103_1 (y103.1.Steps).length cy103_1)] 25), (5, bx b108 #[(iv y106.1.Unit), (.slice Ay106_0 (y106.1.Tools).length cy106_0), (.slice Ay106_1 (y106.1.Steps).length cy106_1)] 25), (6, bx b111 #[(iv y109.1.Unit), (.slice Ay109_0 (y109.1.Tools).length cy109_0), (.slice Ay109_1 (y109.1.Steps).length cy109_1)] 25), (7, bx b114 #[(iv y112.1.Unit), (.slice Ay112_0 (y112.1.Tools).length cy112_0), (.slice Ay112_1 (y112.1.Steps).length cy112_1)] 25)]) _
  refine Tr.mv rfl rfl ?_
  obtain ⟨g117, hg117, H⟩ := bnd H
  refine Tr.mid0 4 [(12, (iv y109.2)), (14, (iv y112.2)), (51, (.bool g117))] [(1, bx b100 #[(iv p0.Unit), (.slice Ap0_0 (p0.Tools).length cp0_0), (.slice Ap0_1 (p0.Steps).length cp0_1)] 25), (2, bx b101 #[(iv p1.X), (iv p1.Y)] 27), (3, bx b102 #[(.bool p2.Flip), (iv p2.Quarters), (iv p2.At.X), (iv p2.At.Y)] 29), (4, bx b105 #[(iv y103.1.Unit), (.slice Ay103_0 (y103.1.Tools).length cy103_0), (.slice Ay103_1 (y103.1.Steps).length cy103_1)] 25), (5, bx b108 #[(iv y106.1.Unit), (.slice Ay106_0 (y106.1.Tools).length cy106_0), (.slice Ay106_1 (y106.1.Steps).length cy106_1)] 25), (6, bx b111 #[(iv y109.1.Unit), (.slice Ay109_0 (y109.1.Tools).length cy109_0), (.slice Ay109_1 (y109.1.Steps).length cy109_1)] 25), (7, bx b114 #[(iv y112.1.Unit), (.slice Ay112_0 (y112.1.Tools).length cy112_0), (.slice Ay112_1 (y112.1.Steps).length cy112_1)] 25)] ?_ ?_
  ·cases hg121 : (y115 && (y103.2 == y106.2))
   ·rw [hg121] at hg117
    rw [if_neg (by decide)] at hg117
    have H := hg117
    obtain rfl := Option.some.inj H
    refine Tr.pass rfl rfl rfl rfl rfl (by decide) ?_
    refine Tr.pass rfl rfl rfl rfl rfl (by decide) ?_
    refine Tr.pass rfl rfl rfl rfl rfl (by decide) ?_
    refine Tr.va rfl (fun _ _ h1 h2 => run_pickF (h1.ev rfl) (h1.ev rfl)) ?_
    exact Tr.nil (Tr.fin0 (.cons rfl (.cons rfl (.cons rfl .nil))) (.cons rfl (.cons rfl (.cons rfl (.cons rfl (.cons rfl (.cons rfl (.cons rfl .nil))))))))
   ·rw [hg121] at hg117
    rw [if_pos rfl] at hg117
    have H := hg117
    refine Tr.val (wg rfl rfl rfl) rfl (fun _ _ h1 h2 => run_loadN (cs := [(iv y109.1.Unit), (.slice Ay109_0 (y109.1.Tools).length cy109_0), (.slice Ay109_1 (y109.1.Steps).length cy109_1)]) ag_25 sz_25 (h1.ev rfl) (CellsAt.take (rdb h2 (vs := [(iv y109.1.Unit), (.slice Ay109_0 (y109.1.Tools).length cy109_0), (.slice Ay109_1 (y109.1.Steps).length cy109_1)]) (k := 6) rfl 0) 3) rfl) ?_
    refine Tr.val (wg rfl rfl rfl) rfl (fun _ _ h1 h2 => run_loadN (cs := [(iv y112.1.Unit), (.slice Ay112_0 (y112.1.Tools).length cy112_0), (.slice Ay112_1 (y112.1.Steps).length cy112_1)]) ag_25 sz_25 (h1.ev rfl) (CellsAt.take (rdb h2 (vs := [(iv y112.1.Unit), (.slice Ay112_0 (y112.1.Tools).length cy112_0), (.slice Ay112_1 (y112.1.Steps).length cy112_1)]) (k := 7) rfl 0) 3) rfl) ?_
    obtain ⟨y118, hy118, H⟩ := bnd H
    refine Tr.call0 (r := (.bool y118)) (wg rfl rfl rfl) rfl Tryd.call8 (evl_cons rfl (evl_cons rfl evl_nil)) (fun W hW => F_etchhouseref3_SamePlot_ok N y109.1 Ay109_0 cy109_0 (hgy109_0.rl.ext hW.extAll) Ay109_1 cy109_1 (hgy109_1.rl.ext hW.extAll) y112.1 Ay112_0 cy112_0 (hgy112_0.rl.ext hW.extAll) Ay112_1 cy112_1 (hgy112_1.rl.ext hW.extAll) y118 hy118 (HF.start _)) ?_
    refine Tr.va rfl (fun _ _ h1 h2 => run_pickT (h1.ev rfl) (h1.ev rfl)) ?_
    obtain rfl := Option.some.inj H
    exact Tr.nil (Tr.fin0 (.cons rfl (.cons rfl (.cons rfl .nil))) (.cons rfl (.cons rfl (.cons rfl (.cons rfl (.cons rfl (.cons rfl (.cons rfl .nil))))))))
  ·show Tr _ _ (LF [(12, (iv y109.2)), (14, (iv y112.2)), (51, (.bool g117))]) (LE [(1, bx b100 #[(iv p0.Unit), (.slice Ap0_0 (p0.Tools).length cp0_0), (.slice Ap0_1 (p0.Steps).length cp0_1)] 25), (2, bx b101 #[(iv p1.X), (iv p1.Y)] 27), (3, bx b102 #[(.bool p2.Flip), (iv p2.Quarters), (iv p2.At.X), (iv p2.At.Y)] 29), (4, bx b105 #[(iv y103.1.Unit), (.slice Ay103_0 (y103.1.Tools).length cy103_0), (.slice Ay103_1 (y103.1.Steps).length cy103_1)] 25), (5, bx b108 #[(iv y106.1.Unit), (.slice Ay106_0 (y106.1.Tools).length cy106_0), (.slice Ay106_1 (y106.1.Steps).length cy106_1)] 25), (6, bx b111 #[(iv y109.1.Unit), (.slice Ay109_0 (y109.1.Tools).length cy109_0), (.slice Ay109_1 (y109.1.Steps).length cy109_1)] 25), (7, bx b114 #[(iv y112.1.Unit), (.slice Ay112_0 (y112.1.Tools).length cy112_0), (.slice Ay112_1 (y112.1.Steps).length cy112_1)] 25)]) _
   refine Tr.mv rfl rfl ?_
   refine Tr.mid0 4 [(56, (.bool (g117 && (y109.2 == y112.2))))] [(1, bx b100 #[(iv p0.Unit), (.slice Ap0_0 (p0.Tools).length cp0_0), (.slice Ap0_1 (p0.Steps).length cp0_1)] 25), (2, bx b101 #[(iv p1.X), (iv p1.Y)] 27), (3, bx b102 #[(.bool p2.Flip), (iv p2.Quarters), (iv p2.At.X), (iv p2.At.Y)] 29), (4, bx b105 #[(iv y103.1.Unit), (.slice Ay103_0 (y103.1.Tools).length cy103_0), (.slice Ay103_1 (y103.1.Steps).length cy103_1)] 25), (5, bx b108 #[(iv y106.1.Unit), (.slice Ay106_0 (y106.1.Tools).length cy106_0), (.slice Ay106_1 (y106.1.Steps).length cy106_1)] 25), (6, bx b111 #[(iv y109.1.Unit), (.slice Ay109_0 (y109.1.Tools).length cy109_0), (.slice Ay109_1 (y109.1.Steps).length cy109_1)] 25), (7, bx b114 #[(iv y112.1.Unit), (.slice Ay112_0 (y112.1.Tools).length cy112_0), (.slice Ay112_1 (y112.1.Steps).length cy112_1)] 25)] ?_ ?_
   ·cases hg121 : g117
    ·refine Tr.pass rfl rfl rfl rfl rfl (by decide) ?_
     refine Tr.pass rfl rfl rfl rfl rfl (by decide) ?_
     refine Tr.pass rfl rfl rfl rfl rfl (by decide) ?_
     refine Tr.va rfl (fun _ _ h1 h2 => run_pickF (h1.ev rfl) (h1.ev rfl)) ?_
     exact Tr.nil (Tr.fin0 (.cons rfl .nil) (.cons rfl (.cons rfl (.cons rfl (.cons rfl (.cons rfl (.cons rfl (.cons rfl .nil))))))))
    ·refine Tr.val (wg rfl rfl rfl) rfl (fun _ _ h1 h2 => run_move (h1.ev rfl)) ?_
     refine Tr.val (wg rfl rfl rfl) rfl (fun _ _ h1 h2 => run_move (h1.ev rfl)) ?_
     refine Tr.val (wg rfl rfl rfl) rfl (fun _ _ h1 h2 => run_eql (h1.ev rfl) (h1.ev rfl)) ?_
     refine Tr.va rfl (fun _ _ h1 h2 => run_pickT (h1.ev rfl) (h1.ev rfl)) ?_
     exact Tr.nil (Tr.fin0 (.cons rfl .nil) (.cons rfl (.cons rfl (.cons rfl (.cons rfl (.cons rfl (.cons rfl (.cons rfl .nil))))))))
   ·show Tr _ _ (LF [(56, (.bool (g117 && (y109.2 == y112.2))))]) (LE [(1, bx b100 #[(iv p0.Unit), (.slice Ap0_0 (p0.Tools).length cp0_0), (.slice Ap0_1 (p0.Steps).length cp0_1)] 25), (2, bx b101 #[(iv p1.X), (iv p1.Y)] 27), (3, bx b102 #[(.bool p2.Flip), (iv p2.Quarters), (iv p2.At.X), (iv p2.At.Y)] 29), (4, bx b105 #[(iv y103.1.Unit), (.slice Ay103_0 (y103.1.Tools).length cy103_0), (.slice Ay103_1 (y103.1.Steps).length cy103_1)] 25), (5, bx b108 #[(iv y106.1.Unit), (.slice Ay106_0 (y106.1.Tools).length cy106_0), (.slice Ay106_1 (y106.1.Steps).length cy106_1)] 25), (6, bx b111 #[(iv y109.1.Unit), (.slice Ay109_0 (y109.1.Tools).length cy109_0), (.slice Ay109_1 (y109.1.Steps).length cy109_1)] 25), (7, bx b114 #[(iv y112.1.Unit), (.slice Ay112_0 (y112.1.Tools).length cy112_0), (.slice Ay112_1 (y112.1.Steps).length cy112_1)] 25)]) _
    refine Tr.mv rfl rfl ?_
    obtain ⟨g120, hg120, H⟩ := bnd H
    refine Tr.mid0 2 [(59, (.bool g120))] [(1, bx b100 #[(iv p0.Unit), (.slice Ap0_0 (p0.Tools).length cp0_0), (.slice Ap0_1 (p0.Steps).length cp0_1)] 25), (2, bx b101 #[(iv p1.X), (iv p1.Y)] 27), (3, bx b102 #[(.bool p2.Flip), (iv p2.Quarters), (iv p2.At.X), (iv p2.At.Y)] 29), (4, bx b105 #[(iv y103.1.Unit), (.slice Ay103_0 (y103.1.Tools).length cy103_0), (.slice Ay103_1 (y103.1.Steps).length cy103_1)] 25), (5, bx b108 #[(iv y106.1.Unit), (.slice Ay106_0 (y106.1.Tools).length cy106_0), (.slice Ay106_1 (y106.1.Steps).length cy106_1)] 25), (6, bx b111 #[(iv y109.1.Unit), (.slice Ay109_0 (y109.1.Tools).length cy109_0), (.slice Ay109_1 (y109.1.Steps).length cy109_1)] 25), (7, bx b114 #[(iv y112.1.Unit), (.slice Ay112_0 (y112.1.Tools).length cy112_0), (.slice Ay112_1 (y112.1.Steps).length cy112_1)] 25)] ?_ ?_
    ·cases hg121 : (g117 && (y109.2 == y112.2))
     ·rw [hg121] at hg120
      rw [if_neg (by decide)] at hg120
      have H := hg120
      obtain rfl := Option.some.inj H
      refine Tr.pass rfl rfl rfl rfl rfl (by decide) ?_
      refine Tr.va rfl (fun _ _ h1 h2 => run_pickF (h1.ev rfl) (h1.ev rfl)) ?_
      exact Tr.nil (Tr.fin0 (.cons rfl .nil) (.cons rfl (.cons rfl (.cons rfl (.cons rfl (.cons rfl (.cons rfl (.cons rfl .nil))))))))
     ·rw [hg121] at hg120
      rw [if_pos rfl] at hg120
      have H := hg120
      obtain ⟨y121, hy121, H⟩ := bnd H
      refine Tr.call0 (r := (.bool y121)) (wg rfl rfl rfl) rfl Tryd.call9 evl_nil (fun W hW => F_etchhouselaw3_awake_ok N y121 hy121 (HF.start _)) ?_
      refine Tr.va rfl (fun _ _ h1 h2 => run_pickT (h1.ev rfl) (h1.ev rfl)) ?_
      obtain rfl := Option.some.inj H
      exact Tr.nil (Tr.fin0 (.cons rfl .nil) (.cons rfl (.cons rfl (.cons rfl (.cons rfl (.cons rfl (.cons rfl (.cons rfl .nil))))))))
    ·show Tr _ _ (LF [(59, (.bool g120))]) (LE [(1, bx b100 #[(iv p0.Unit), (.slice Ap0_0 (p0.Tools).length cp0_0), (.slice Ap0_1 (p0.Steps).length cp0_1)] 25), (2, bx b101 #[(iv p1.X), (iv p1.Y)] 27), (3, bx b102 #[(.bool p2.Flip), (iv p2.Quarters), (iv p2.At.X), (iv p2.At.Y)] 29), (4, bx b105 #[(iv y103.1.Unit), (.slice Ay103_0 (y103.1.Tools).length cy103_0), (.slice Ay103_1 (y103.1.Steps).length cy103_1)] 25), (5, bx b108 #[(iv y106.1.Unit), (.slice Ay106_0 (y106.1.Tools).length cy106_0), (.slice Ay106_1 (y106.1.Steps).length cy106_1)] 25), (6, bx b111 #[(iv y109.1.Unit), (.slice Ay109_0 (y109.1.Tools).length cy109_0), (.slice Ay109_1 (y109.1.Steps).length cy109_1)] 25), (7, bx b114 #[(iv y112.1.Unit), (.slice Ay112_0 (y112.1.Tools).length cy112_0), (.slice Ay112_1 (y112.1.Steps).length cy112_1)] 25)]) _
     refine Tr.asg rfl rfl ?_
     refine Tr.nil (Tr.normThen ?_)
     refine Tr.ret ?_
     obtain rfl := Option.some.inj H
     exact Tr.out (m := [(.bool g120)]) [] (res_tmp rfl res_nil) (fun W hW => ⟨rfl, hW.low leB⟩)

end Go.Proofs.YtneghcpnehiffaaDoor
