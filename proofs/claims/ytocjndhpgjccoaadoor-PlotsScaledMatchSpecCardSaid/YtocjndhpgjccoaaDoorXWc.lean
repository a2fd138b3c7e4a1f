/- The walks: each function computes its plain function. -/
import Derived.Test.YtocjndhpgjccoaaDoorXWb
namespace Go.Proofs.YtocjndhpgjccoaaDoor
open Go.RowKit
set_option maxRecDepth 100000
set_option maxHeartbeats 1000000
theorem F_etchhouseref3_checkStep_ok (N : Nat) {w : Bs} (p0 : TPlot) (Ap0_0 : Option Addr) (cp0_0 : Nat) (hp0_0 : Sl w.R w.W fl_TPlotTool Ap0_0 cp0_0 p0.Tools) (Ap0_1 : Option Addr) (cp0_1 : Nat) (hp0_1 : Sl w.R w.W fl_TPlotStep Ap0_1 cp0_1 p0.Steps) (p1 : TPlotStep) (Ap1_0 : Option Addr) (cp1_0 : Nat) (hp1_0 : Sl w.R w.W fl_TPoint Ap1_0 cp1_0 p1.Points) (Ap1_1 : Option Addr) (cp1_1 : Nat) (hp1_1 : Sl w.R w.W fl_TPlotStep Ap1_1 cp1_1 p1.Steps) (p2 : Int) (r : Int) (H : F_etchhouseref3_checkStep N p0 p1 p2 = some r) (hE : HF w w.W E0) : Calls Tryd.prog 67 [(.agg #[(.int .i64 p0.Unit), (.slice Ap0_0 (p0.Tools).length cp0_0), (.slice Ap0_1 (p0.Steps).length cp0_1)]), (.agg #[(.int .i64 p1.Kind), (.string p1.Name), (.int .i64 p1.At.X), (.int .i64 p1.At.Y), (.slice Ap1_0 (p1.Points).length cp1_0), (.int .i64 p1.NX), (.int .i64 p1.NY), (.slice Ap1_1 (p1.Steps).length cp1_1)]), (.int .i64 p2)].toArray w.W fun e W' => e = .returned (.int .i64 r) ∧ HF w W' E0 := by
 unfold F_etchhouseref3_checkStep at H
 have leB := Bs.Le.refl w
 refine Tr.enter (n := 57) Tryd.func67 rfl rfl rfl hE ?_
 refine Tr.sr ?_
 refine Tr.box 1 (cs := [(.int .i64 p0.Unit), (.slice Ap0_0 (p0.Tools).length cp0_0), (.slice Ap0_1 (p0.Steps).length cp0_1)]) (wn rfl) rfl rfl rfl fun b100 => ?_
 refine Tr.box 2 (cs := [(.int .i64 p1.Kind), (.string p1.Name), (.int .i64 p1.At.X), (.int .i64 p1.At.Y), (.slice Ap1_0 (p1.Points).length cp1_0), (.int .i64 p1.NX), (.int .i64 p1.NY), (.slice Ap1_1 (p1.Steps).length cp1_1)]) (wn rfl) rfl rfl rfl fun b101 => ?_
 refine Tr.asg rfl rfl ?_
 refine Tr.nil (Tr.normThen ?_)
 refine Tr.seq ?_
 refine Tr.sr ?_
 refine Tr.va rfl (fun _ _ h1 h2 => run_fieldAddr fo_84_0 (h1.ev rfl)) ?_
 refine Tr.va rfl (fun _ _ h1 h2 => run_load1 ag_3 (h1.ev rfl) (rdb h2 (vs := [(.int .i64 p1.Kind), (.string p1.Name), (.int .i64 p1.At.X), (.int .i64 p1.At.Y), (.slice Ap1_0 (p1.Points).length cp1_0), (.int .i64 p1.NX), (.int .i64 p1.NY), (.slice Ap1_1 (p1.Steps).length cp1_1)]) (k := 2) rfl 0) rfl) ?_
 obtain ⟨y102, hy102, H⟩ := bnd H
 refine Tr.call0 (r := (.bool y102)) (wn rfl) rfl Tryd.call30 (evl_cons rfl (evl_cons rfl (evl_cons rfl evl_nil))) (fun W hW => F_etchhouseref3_within_ok p1.Kind 1 8 y102 hy102 (HF.start _)) ?_
 refine Tr.va rfl (fun _ _ h1 h2 => run_not (h1.ev rfl)) ?_
 refine Tr.nil (Tr.normThen ?_)
 refine Tr.cond rfl H (fun H => ?_) (fun H => ?_)
 ·refine Tr.sr ?_
  refine Tr.asg rfl rfl ?_
  refine Tr.nil (Tr.normThen ?_)
  refine Tr.ret (Tr.retThen ?_)
  obtain rfl := Option.some.inj H
  exact Tr.out (m := [(.int .i64 4)]) [] (res_tmp rfl res_nil) (fun W hW => ⟨rfl, hW.low leB⟩)
 ·refine Tr.skip (Tr.normThen ?_)
  refine Tr.seq ?_
  refine Tr.sr ?_
  refine Tr.va rfl (fun _ _ h1 h2 => run_loadN (cs := [(.int .i64 p1.Kind), (.string p1.Name), (.int .i64 p1.At.X), (.int .i64 p1.At.Y), (.slice Ap1_0 (p1.Points).length cp1_0), (.int .i64 p1.NX), (.int .i64 p1.NY), (.slice Ap1_1 (p1.Steps).length cp1_1)]) ag_84 sz_84 (h1.ev rfl) (CellsAt.take (rdb h2 (vs := [(.int .i64 p1.Kind), (.string p1.Name), (.int .i64 p1.At.X), (.int .i64 p1.At.Y), (.slice Ap1_0 (p1.Points).length cp1_0), (.int .i64 p1.NX), (.int .i64 p1.NY), (.slice Ap1_1 (p1.Steps).length cp1_1)]) (k := 2) rfl 0) 8) rfl) ?_
  obtain ⟨y103, hy103, H⟩ := bnd H
  refine Tr.call0 (r := (.bool y103)) (wn rfl) rfl Tryd.call92 (evl_cons rfl evl_nil) (fun W hW => F_etchhouseref3_fields_ok p1 Ap1_0 cp1_0 (hp1_0.ext hW.extAll) Ap1_1 cp1_1 (hp1_1.ext hW.extAll) y103 hy103 (HF.start _)) ?_
  refine Tr.va rfl (fun _ _ h1 h2 => run_not (h1.ev rfl)) ?_
  refine Tr.nil (Tr.normThen ?_)
  refine Tr.cond rfl H (fun H => ?_) (fun H => ?_)
  ·refine Tr.sr ?_
   refine Tr.asg rfl rfl ?_
   refine Tr.nil (Tr.normThen ?_)
   refine Tr.ret (Tr.retThen ?_)
   obtain rfl := Option.some.inj H
   exact Tr.out (m := [(.int .i64 3)]) [] (res_tmp rfl res_nil) (fun W hW => ⟨rfl, hW.low leB⟩)
  ·refine Tr.skip (Tr.normThen ?_)
   refine Tr.seq ?_
   refine Tr.sr ?_
   refine Tr.va rfl (fun _ _ h1 h2 => run_fieldAddr fo_84_0 (h1.ev rfl)) ?_
   refine Tr.va rfl (fun _ _ h1 h2 => run_load1 ag_3 (h1.ev rfl) (rdb h2 (vs := [(.int .i64 p1.Kind), (.string p1.Name), (.int .i64 p1.At.X), (.int .i64 p1.At.Y), (.slice Ap1_0 (p1.Points).length cp1_0), (.int .i64 p1.NX), (.int .i64 p1.NY), (.slice Ap1_1 (p1.Steps).length cp1_1)]) (k := 2) rfl 0) rfl) ?_
   refine Tr.va rfl (fun _ _ h1 h2 => run_eql (h1.ev rfl) (h1.ev rfl)) ?_
   refine Tr.mv rfl rfl ?_
   obtain ⟨g105, hg105, H⟩ := bnd H
   refine Tr.mid0 6 [(2, (.int .i64 p2)), (3, (.pointer (some ⟨b100, 0, none⟩))), (4, (.pointer (some ⟨b101, 0, none⟩))), (23, (.bool g105))] [(1, bx b100 #[(.int .i64 p0.Unit), (.slice Ap0_0 (p0.Tools).length cp0_0), (.slice Ap0_1 (p0.Steps).length cp0_1)] 25), (2, bx b101 #[(.int .i64 p1.Kind), (.string p1.Name), (.int .i64 p1.At.X), (.int .i64 p1.At.Y), (.slice Ap1_0 (p1.Points).length cp1_0), (.int .i64 p1.NX), (.int .i64 p1.NY), (.slice Ap1_1 (p1.Steps).length cp1_1)] 84)] ?_ ?_
   ·cases hg118 : (p1.Kind == 3)
    ·rw [hg118] at hg105
     rw [if_neg (by decide)] at hg105
     have H := hg105
     obtain rfl := Option.some.inj H
     refine Tr.pass rfl rfl rfl rfl rfl (by decide) ?_
     refine Tr.pass rfl rfl rfl rfl rfl (by decide) ?_
     refine Tr.pass rfl rfl rfl rfl rfl (by decide) ?_
     refine Tr.pass rfl rfl rfl rfl rfl (by decide) ?_
     refine Tr.pass rfl rfl rfl rfl rfl (by decide) ?_
     refine Tr.va rfl (fun _ _ h1 h2 => run_pickF (h1.ev rfl) (h1.ev rfl)) ?_
     exact Tr.nil (Tr.fin0 (.cons rfl (.cons rfl (.cons rfl (.cons rfl .nil)))) (.cons rfl (.cons rfl .nil)))
    ·rw [hg118] at hg105
     rw [if_pos rfl] at hg105
     have H := hg105
     refine Tr.val (wg rfl rfl rfl) rfl (fun _ _ h1 h2 => run_loadN (cs := [(.int .i64 p0.Unit), (.slice Ap0_0 (p0.Tools).length cp0_0), (.slice Ap0_1 (p0.Steps).length cp0_1)]) ag_25 sz_25 (h1.ev rfl) (CellsAt.take (rdb h2 (vs := [(.int .i64 p0.Unit), (.slice Ap0_0 (p0.Tools).length cp0_0), (.slice Ap0_1 (p0.Steps).length cp0_1)]) (k := 1) rfl 0) 3) rfl) ?_
     refine Tr.val (wg rfl rfl rfl) rfl (fun _ _ h1 h2 => run_fieldAddr fo_84_1 (h1.ev rfl)) ?_
     refine Tr.val (wg rfl rfl rfl) rfl (fun _ _ h1 h2 => run_load1 ag_9 (h1.ev rfl) (rdb h2 (vs := [(.int .i64 p1.Kind), (.string p1.Name), (.int .i64 p1.At.X), (.int .i64 p1.At.Y), (.slice Ap1_0 (p1.Points).length cp1_0), (.int .i64 p1.NX), (.int .i64 p1.NY), (.slice Ap1_1 (p1.Steps).length cp1_1)]) (k := 2) rfl 1) rfl) ?_
     obtain ⟨y106, hy106, H⟩ := bnd H
     refine Tr.call0 (r := (.int .i64 y106)) (wg rfl rfl rfl) rfl Tryd.call93 (evl_cons rfl (evl_cons rfl evl_nil)) (fun W hW => F_etchhouseref3_tool_ok N p0 Ap0_0 cp0_0 (hp0_0.ext hW.extAll) Ap0_1 cp0_1 (hp0_1.ext hW.extAll) p1.Name y106 hy106 (HF.start _)) ?_
     refine Tr.val (wg rfl rfl rfl) rfl (fun _ _ h1 h2 => run_lss (h1.ev rfl) (h1.ev rfl)) ?_
     refine Tr.va rfl (fun _ _ h1 h2 => run_pickT (h1.ev rfl) (h1.ev rfl)) ?_
     obtain rfl := Option.some.inj H
     exact Tr.nil (Tr.fin0 (.cons rfl (.cons rfl (.cons rfl (.cons rfl .nil)))) (.cons rfl (.cons rfl .nil)))
   ·show Tr _ _ (LF [(2, (.int .i64 p2)), (3, (.pointer (some ⟨b100, 0, none⟩))), (4, (.pointer (some ⟨b101, 0, none⟩))), (23, (.bool g105))]) (LE [(1, bx b100 #[(.int .i64 p0.Unit), (.slice Ap0_0 (p0.Tools).length cp0_0), (.slice Ap0_1 (p0.Steps).length cp0_1)] 25), (2, bx b101 #[(.int .i64 p1.Kind), (.string p1.Name), (.int .i64 p1.At.X), (.int .i64 p1.At.Y), (.slice Ap1_0 (p1.Points).length cp1_0), (.int .i64 p1.NX), (.int .i64 p1.NY), (.slice Ap1_1 (p1.Steps).length cp1_1)] 84)]) _
    refine Tr.nil (Tr.normThen ?_)
    refine Tr.cond rfl H (fun H => ?_) (fun H => ?_)
    ·refine Tr.sr ?_
     refine Tr.asg rfl rfl ?_
     refine Tr.nil (Tr.normThen ?_)
     refine Tr.ret (Tr.retThen ?_)
     obtain rfl := Option.some.inj H
     exact Tr.out (m := [(.int .i64 5)]) [] (res_tmp rfl res_nil) (fun W hW => ⟨rfl, hW.low leB⟩)
    ·refine Tr.skip (Tr.normThen ?_)
     refine Tr.seq ?_
     refine Tr.sr ?_
     refine Tr.va rfl (fun _ _ h1 h2 => run_fieldAddr fo_84_2 (h1.ev rfl)) ?_
     refine Tr.va rfl (fun _ _ h1 h2 => run_loadN (cs := [(.int .i64 p1.At.X), (.int .i64 p1.At.Y)]) ag_37 sz_37 (h1.ev rfl) (CellsAt.take (rdb h2 (vs := [(.int .i64 p1.Kind), (.string p1.Name), (.int .i64 p1.At.X), (.int .i64 p1.At.Y), (.slice Ap1_0 (p1.Points).length cp1_0), (.int .i64 p1.NX), (.int .i64 p1.NY), (.slice Ap1_1 (p1.Steps).length cp1_1)]) (k := 2) rfl 2) 2) rfl) ?_
     refine Tr.va rfl (fun _ _ h1 h2 => run_fieldAddr fo_25_0 (h1.ev rfl)) ?_
     refine Tr.va rfl (fun _ _ h1 h2 => run_load1 ag_3 (h1.ev rfl) (rdb h2 (vs := [(.int .i64 p0.Unit), (.slice Ap0_0 (p0.Tools).length cp0_0), (.slice Ap0_1 (p0.Steps).length cp0_1)]) (k := 1) rfl 0) rfl) ?_
     obtain ⟨y107, hy107, H⟩ := bnd H
     refine Tr.call0 (r := (.bool y107)) (wn rfl) rfl Tryd.call94 (evl_cons rfl (evl_cons rfl evl_nil)) (fun W hW => F_etchhouseref3_pointFits_ok p1.At p0.Unit y107 hy107 (HF.start _)) ?_
     refine Tr.va rfl (fun _ _ h1 h2 => run_not (h1.ev rfl)) ?_
     refine Tr.nil (Tr.normThen ?_)
     refine Tr.cond rfl H (fun H => ?_) (fun H => ?_)
     ·refine Tr.sr ?_
      refine Tr.asg rfl rfl ?_
      refine Tr.nil (Tr.normThen ?_)
      refine Tr.ret (Tr.retThen ?_)
      obtain rfl := Option.some.inj H
      exact Tr.out (m := [(.int .i64 1)]) [] (res_tmp rfl res_nil) (fun W hW => ⟨rfl, hW.low leB⟩)
     ·refine Tr.skip (Tr.normThen ?_)
      refine Tr.seq ?_
      refine Tr.sr ?_
      refine Tr.va rfl (fun _ _ h1 h2 => run_fieldAddr fo_84_0 (h1.ev rfl)) ?_
      refine Tr.va rfl (fun _ _ h1 h2 => run_load1 ag_3 (h1.ev rfl) (rdb h2 (vs := [(.int .i64 p1.Kind), (.string p1.Name), (.int .i64 p1.At.X), (.int .i64 p1.At.Y), (.slice Ap1_0 (p1.Points).length cp1_0), (.int .i64 p1.NX), (.int .i64 p1.NY), (.slice Ap1_1 (p1.Steps).length cp1_1)]) (k := 2) rfl 0) rfl) ?_
      refine Tr.va rfl (fun _ _ h1 h2 => run_eql (h1.ev rfl) (h1.ev rfl)) ?_
      refine Tr.nil (Tr.normThen ?_)
      refine Tr.cond rfl H (fun H => ?_) (fun H => ?_)
      ·refine Tr.sr ?_
       refine Tr.va rfl (fun _ _ h1 h2 => run_fieldAddr fo_84_3 (h1.ev rfl)) ?_
       refine Tr.va rfl (fun _ _ h1 h2 => run_load1 ag_82 (h1.ev rfl) (rdb h2 (vs := [(.int .i64 p1.Kind), (.string p1.Name), (.int .i64 p1.At.X), (.int .i64 p1.At.Y), (.slice Ap1_0 (p1.Points).length cp1_0), (.int .i64 p1.NX), (.int .i64 p1.NY), (.slice Ap1_1 (p1.Steps).length cp1_1)]) (k := 2) rfl 4) rfl) ?_
       refine Tr.va rfl (fun _ _ h1 h2 => run_fieldAddr fo_25_0 (h1.ev rfl)) ?_
       refine Tr.va rfl (fun _ _ h1 h2 => run_load1 ag_3 (h1.ev rfl) (rdb h2 (vs := [(.int .i64 p0.Unit), (.slice Ap0_0 (p0.Tools).length cp0_0), (.slice Ap0_1 (p0.Steps).length cp0_1)]) (k := 1) rfl 0) rfl) ?_
       obtain ⟨y108, hy108, H⟩ := bnd H
       refine Tr.call0 (r := (.int .i64 y108)) (wn rfl) rfl Tryd.call95 (evl_cons rfl (evl_cons rfl evl_nil)) (fun W hW => F_etchhouseref3_checkArea_ok N p1.Points Ap1_0 cp1_0 (hp1_0.ext hW.extAll) p0.Unit y108 hy108 (HF.start _)) ?_
       refine Tr.asg rfl rfl ?_
       refine Tr.nil (Tr.normThen ?_)
       refine Tr.ret (Tr.retThen ?_)
       obtain rfl := Option.some.inj H
       exact Tr.out (m := [(.int .i64 y108)]) [] (res_tmp rfl res_nil) (fun W hW => ⟨rfl, hW.low leB⟩)
      ·refine Tr.skip (Tr.normThen ?_)
       have leJ113 := Bs.Le.refl w
       refine Tr.cutJ (σ := Unit) (fun w _ => F_etchhouseref3_checkStep_J1 = some r) (fun _ => []) (fun _ => []) ?_ ?_
       ·refine Tr.sr ?_
        refine Tr.va rfl (fun _ _ h1 h2 => run_fieldAddr fo_84_0 (h1.ev rfl)) ?_
        refine Tr.va rfl (fun _ _ h1 h2 => run_load1 ag_3 (h1.ev rfl) (rdb h2 (vs := [(.int .i64 p1.Kind), (.string p1.Name), (.int .i64 p1.At.X), (.int .i64 p1.At.Y), (.slice Ap1_0 (p1.Points).length cp1_0), (.int .i64 p1.NX), (.int .i64 p1.NY), (.slice Ap1_1 (p1.Steps).length cp1_1)]) (k := 2) rfl 0) rfl) ?_
        refine Tr.va rfl (fun _ _ h1 h2 => run_eql (h1.ev rfl) (h1.ev rfl)) ?_
        refine Tr.nil (Tr.normThen ?_)
        refine Tr.cond rfl H (fun H => ?_) (fun H => ?_)
        ·refine Tr.seq ?_
         refine Tr.sr ?_
         refine Tr.va rfl (fun _ _ h1 h2 => run_fieldAddr fo_84_4 (h1.ev rfl)) ?_
         refine Tr.va rfl (fun _ _ h1 h2 => run_load1 ag_3 (h1.ev rfl) (rdb h2 (vs := [(.int .i64 p1.Kind), (.string p1.Name), (.int .i64 p1.At.X), (.int .i64 p1.At.Y), (.slice Ap1_0 (p1.Points).length cp1_0), (.int .i64 p1.NX), (.int .i64 p1.NY), (.slice Ap1_1 (p1.Steps).length cp1_1)]) (k := 2) rfl 5) rfl) ?_
         obtain ⟨y115, hy115, H⟩ := bnd H
         refine Tr.call0 (r := (.bool y115)) (wn rfl) rfl Tryd.call30 (evl_cons rfl (evl_cons rfl (evl_cons rfl evl_nil))) (fun W hW => F_etchhouseref3_within_ok p1.NX 1 100 y115 hy115 (HF.start _)) ?_
         refine Tr.va rfl (fun _ _ h1 h2 => run_not (h1.ev rfl)) ?_
         refine Tr.mv rfl rfl ?_
         obtain ⟨g117, hg117, H⟩ := bnd H
         refine Tr.mid0 5 [(2, (.int .i64 p2)), (4, (.pointer (some ⟨b101, 0, none⟩))), (50, (.bool g117))] [(1, bx b100 #[(.int .i64 p0.Unit), (.slice Ap0_0 (p0.Tools).length cp0_0), (.slice Ap0_1 (p0.Steps).length cp0_1)] 25), (2, bx b101 #[(.int .i64 p1.Kind), (.string p1.Name), (.int .i64 p1.At.X), (.int .i64 p1.At.Y), (.slice Ap1_0 (p1.Points).length cp1_0), (.int .i64 p1.NX), (.int .i64 p1.NY), (.slice Ap1_1 (p1.Steps).length cp1_1)] 84)] ?_ ?_
         ·cases hg118 : (!y115)
          ·rw [hg118] at hg117
           rw [if_neg (by decide)] at hg117
           have H := hg117
           refine Tr.val (wg rfl rfl rfl) rfl (fun _ _ h1 h2 => run_fieldAddr fo_84_5 (h1.ev rfl)) ?_
           refine Tr.val (wg rfl rfl rfl) rfl (fun _ _ h1 h2 => run_load1 ag_3 (h1.ev rfl) (rdb h2 (vs := [(.int .i64 p1.Kind), (.string p1.Name), (.int .i64 p1.At.X), (.int .i64 p1.At.Y), (.slice Ap1_0 (p1.Points).length cp1_0), (.int .i64 p1.NX), (.int .i64 p1.NY), (.slice Ap1_1 (p1.Steps).length cp1_1)]) (k := 2) rfl 6) rfl) ?_
           obtain ⟨y118, hy118, H⟩ := bnd H
           refine Tr.call0 (r := (.bool y118)) (wg rfl rfl rfl) rfl Tryd.call30 (evl_cons rfl (evl_cons rfl (evl_cons rfl evl_nil))) (fun W hW => F_etchhouseref3_within_ok p1.NY 1 100 y118 hy118 (HF.start _)) ?_
           refine Tr.val (wg rfl rfl rfl) rfl (fun _ _ h1 h2 => run_not (h1.ev rfl)) ?_
           refine Tr.va rfl (fun _ _ h1 h2 => run_pickF (h1.ev rfl) (h1.ev rfl)) ?_
           obtain rfl := Option.some.inj H
           exact Tr.nil (Tr.fin0 (.cons rfl (.cons rfl (.cons rfl .nil))) (.cons rfl (.cons rfl .nil)))
          ·rw [hg118] at hg117
           rw [if_pos rfl] at hg117
           have H := hg117
           obtain rfl := Option.some.inj H
           refine Tr.pass rfl rfl rfl rfl rfl (by decide) ?_
           refine Tr.pass rfl rfl rfl rfl rfl (by decide) ?_
           refine Tr.pass rfl rfl rfl rfl rfl (by decide) ?_
           refine Tr.pass rfl rfl rfl rfl rfl (by decide) ?_
           refine Tr.va rfl (fun _ _ h1 h2 => run_pickT (h1.ev rfl) (h1.ev rfl)) ?_
           exact Tr.nil (Tr.fin0 (.cons rfl (.cons rfl (.cons rfl .nil))) (.cons rfl (.cons rfl .nil)))
         ·show Tr _ _ (LF [(2, (.int .i64 p2)), (4, (.pointer (some ⟨b101, 0, none⟩))), (50, (.bool g117))]) (LE [(1, bx b100 #[(.int .i64 p0.Unit), (.slice Ap0_0 (p0.Tools).length cp0_0), (.slice Ap0_1 (p0.Steps).length cp0_1)] 25), (2, bx b101 #[(.int .i64 p1.Kind), (.string p1.Name), (.int .i64 p1.At.X), (.int .i64 p1.At.Y), (.slice Ap1_0 (p1.Points).length cp1_0), (.int .i64 p1.NX), (.int .i64 p1.NY), (.slice Ap1_1 (p1.Steps).length cp1_1)] 84)]) _
          refine Tr.nil (Tr.normThen ?_)
          refine Tr.cond rfl H (fun H => ?_) (fun H => ?_)
          ·refine Tr.sr ?_
           refine Tr.asg rfl rfl ?_
           refine Tr.nil (Tr.normThen ?_)
           refine Tr.ret (Tr.retThen (Tr.retThen ?_))
           obtain rfl := Option.some.inj H
           exact Tr.out (m := [(.int .i64 1)]) [] (res_tmp rfl res_nil) (fun W hW => ⟨rfl, hW.low leB⟩)
          ·refine Tr.skip (Tr.normThen ?_)
           refine Tr.seq ?_
           refine Tr.sr ?_
           refine Tr.va rfl (fun _ _ h1 h2 => run_fieldAddr fo_84_6 (h1.ev rfl)) ?_
           refine Tr.va rfl (fun _ _ h1 h2 => run_load1 ag_23 (h1.ev rfl) (rdb h2 (vs := [(.int .i64 p1.Kind), (.string p1.Name), (.int .i64 p1.At.X), (.int .i64 p1.At.Y), (.slice Ap1_0 (p1.Points).length cp1_0), (.int .i64 p1.NX), (.int .i64 p1.NY), (.slice Ap1_1 (p1.Steps).length cp1_1)]) (k := 2) rfl 7) rfl) ?_
           refine Tr.va rfl (fun _ _ h1 h2 => run_len un_23 (h1.ev rfl)) ?_
           refine Tr.va rfl (fun _ _ h1 h2 => run_eql (h1.ev rfl) (h1.ev rfl)) ?_
           refine Tr.nil (Tr.normThen ?_)
           refine Tr.cond rfl H (fun H => ?_) (fun H => ?_)
           ·refine Tr.sr ?_
            refine Tr.asg rfl rfl ?_
            refine Tr.nil (Tr.normThen ?_)
            refine Tr.ret (Tr.retThen (Tr.retThen ?_))
            obtain rfl := Option.some.inj H
            exact Tr.out (m := [(.int .i64 9)]) [] (res_tmp rfl res_nil) (fun W hW => ⟨rfl, hW.low leB⟩)
           ·refine Tr.skip (Tr.normThen ?_)
            refine Tr.sr ?_
            refine Tr.mv rfl rfl ?_
            refine Tr.va rfl (fun _ _ h1 h2 => run_geq (h1.ev rfl) (h1.ev rfl)) ?_
            refine Tr.nil (Tr.normThen ?_)
            refine Tr.cond rfl H (fun H => ?_) (fun H => ?_)
            ·refine Tr.sr ?_
             refine Tr.asg rfl rfl ?_
             refine Tr.nil (Tr.normThen ?_)
             refine Tr.ret (Tr.retThen ?_)
             obtain rfl := Option.some.inj H
             exact Tr.out (m := [(.int .i64 2)]) [] (res_tmp rfl res_nil) (fun W hW => ⟨rfl, hW.low leB⟩)
            ·refine Tr.skip ?_
             exact Tr.backThen leJ113 () H .nil .nil
        ·refine Tr.skip ?_
         exact Tr.backThen leJ113 () H .nil .nil
       ·intro w _ hlJ114 hs
        have H := hs
        replace H : F_etchhouseref3_checkStep_J1 = some r := H
        replace leB := leB.trans hlJ114
        unfold F_etchhouseref3_checkStep_J1 at H
        show Tr _ _ (LF []) (LE []) _
        refine Tr.sr ?_
        refine Tr.asg rfl rfl ?_
        refine Tr.nil (Tr.normThen ?_)
        refine Tr.ret ?_
        obtain rfl := Option.some.inj H
        exact Tr.out (m := [(.int .i64 0)]) [] (res_tmp rfl res_nil) (fun W hW => ⟨rfl, hW.low leB⟩)

theorem F_etchhouseref3_checkSteps_b_ok (N : Nat) (rec : TPlot → (List TPlotStep) → Int → Option Int) (hrec : ∀ {w : Bs} (p0 : TPlot) (Ap0_0 : Option Addr) (cp0_0 : Nat) (hp0_0 : Sl w.R w.W fl_TPlotTool Ap0_0 cp0_0 p0.Tools) (Ap0_1 : Option Addr) (cp0_1 : Nat) (hp0_1 : Sl w.R w.W fl_TPlotStep Ap0_1 cp0_1 p0.Steps) (p1 : (List TPlotStep)) (Ap1_0 : Option Addr) (cp1_0 : Nat) (hp1_0 : Sl w.R w.W fl_TPlotStep Ap1_0 cp1_0 p1) (p2 : Int) (r : Int) (H : rec p0 p1 p2 = some r) (hE : HF w w.W E0), Calls Tryd.prog 34 [(.agg #[(.int .i64 p0.Unit), (.slice Ap0_0 (p0.Tools).length cp0_0), (.slice Ap0_1 (p0.Steps).length cp0_1)]), (.slice Ap1_0 (p1).length cp1_0), (.int .i64 p2)].toArray w.W fun e W' => e = .returned (.int .i64 r) ∧ HF w W' E0) {w : Bs} (p0 : TPlot) (Ap0_0 : Option Addr) (cp0_0 : Nat) (hp0_0 : Sl w.R w.W fl_TPlotTool Ap0_0 cp0_0 p0.Tools) (Ap0_1 : Option Addr) (cp0_1 : Nat) (hp0_1 : Sl w.R w.W fl_TPlotStep Ap0_1 cp0_1 p0.Steps) (p1 : (List TPlotStep)) (Ap1_0 : Option Addr) (cp1_0 : Nat) (hp1_0 : Sl w.R w.W fl_TPlotStep Ap1_0 cp1_0 p1) (p2 : Int) (r : Int) (H : F_etchhouseref3_checkSteps_b N rec p0 p1 p2 = some r) (hE : HF w w.W E0) : Calls Tryd.prog 34 [(.agg #[(.int .i64 p0.Unit), (.slice Ap0_0 (p0.Tools).length cp0_0), (.slice Ap0_1 (p0.Steps).length cp0_1)]), (.slice Ap1_0 (p1).length cp1_0), (.int .i64 p2)].toArray w.W fun e W' => e = .returned (.int .i64 r) ∧ HF w W' E0 := by
 unfold F_etchhouseref3_checkSteps_b at H
 have leB := Bs.Le.refl w
 refine Tr.enter (n := 38) Tryd.func34 rfl rfl rfl hE ?_
 refine Tr.sr ?_
 refine Tr.box 1 (cs := [(.int .i64 p0.Unit), (.slice Ap0_0 (p0.Tools).length cp0_0), (.slice Ap0_1 (p0.Steps).length cp0_1)]) (wn rfl) rfl rfl rfl fun b100 => ?_
 refine Tr.asg rfl rfl ?_
 refine Tr.nil (Tr.normThen ?_)
 refine Tr.seq ?_
 refine Tr.sr ?_
 refine Tr.asg rfl rfl ?_
 refine Tr.nil (Tr.normThen ?_)
 refine Tr.block ?_
 refine Tr.loop (σ := Int) (fun m w s => F_etchhouseref3_checkSteps_L1 N p0 p1 p2 rec m s = some r) (fun s => [(1, (.slice Ap1_0 (p1).length cp1_0)), (2, (.int .i64 p2)), (3, (.pointer (some ⟨b100, 0, none⟩))), (7, (.int .i64 s))]) (fun s => [(1, bx b100 #[(.int .i64 p0.Unit), (.slice Ap0_0 (p0.Tools).length cp0_0), (.slice Ap0_1 (p0.Steps).length cp0_1)] 25)]) N 0 H (.cons rfl (.cons rfl (.cons rfl (.cons rfl .nil)))) (.cons rfl .nil) (fun _ _ h => noSome (h)) ?_
 intro w leF_etchhouseref3_checkSteps_L1 mF_etchhouseref3_checkSteps_L1 x116 hs
 have H := hs
 replace H : F_etchhouseref3_checkSteps_L1 N p0 p1 p2 rec (mF_etchhouseref3_checkSteps_L1 + 1) x116 = some r := H
 replace hp1_0 := hp1_0.leR leF_etchhouseref3_checkSteps_L1
 replace hp0_0 := hp0_0.leR leF_etchhouseref3_checkSteps_L1
 replace hp0_1 := hp0_1.leR leF_etchhouseref3_checkSteps_L1
 replace leB := leB.trans leF_etchhouseref3_checkSteps_L1
 rw [F_etchhouseref3_checkSteps_L1.eq_2] at H
 show Tr _ _ (LF [(1, (.slice Ap1_0 (p1).length cp1_0)), (2, (.int .i64 p2)), (3, (.pointer (some ⟨b100, 0, none⟩))), (7, (.int .i64 x116))]) (LE [(1, bx b100 #[(.int .i64 p0.Unit), (.slice Ap0_0 (p0.Tools).length cp0_0), (.slice Ap0_1 (p0.Steps).length cp0_1)] 25)]) _
 refine Tr.seq ?_
 refine Tr.sr ?_
 refine Tr.mv rfl rfl ?_
 refine Tr.mv rfl rfl ?_
 refine Tr.va rfl (fun _ _ h1 h2 => run_len un_23 (h1.ev rfl)) ?_
 refine Tr.va rfl (fun _ _ h1 h2 => run_lss (h1.ev rfl) (h1.ev rfl)) ?_
 refine Tr.nil (Tr.normThen ?_)
 refine Tr.cond rfl H (fun H => ?_) (fun H => ?_)
 ·refine Tr.skip (Tr.normThen ?_)
  refine Tr.seq ?_
  refine Tr.block ?_
  refine Tr.seq ?_
  refine Tr.seq ?_
  refine Tr.draw (by kernel_rfl) (by kernel_rfl) ?_
  refine Tq.va rfl (fun _ _ h1 h2 => run_loadN (cs := [(.int .i64 p0.Unit), (.slice Ap0_0 (p0.Tools).length cp0_0), (.slice Ap0_1 (p0.Steps).length cp0_1)]) ag_25 sz_25 (h1.ev rfl) (CellsAt.take (rdb h2 (vs := [(.int .i64 p0.Unit), (.slice Ap0_0 (p0.Tools).length cp0_0), (.slice Ap0_1 (p0.Steps).length cp0_1)]) (k := 1) rfl 0) 3) rfl) ?_
  refine Tq.mv rfl rfl ?_
  refine Tq.mv rfl rfl ?_
  obtain ⟨x117, hx117, H⟩ := bnd H
  obtain ⟨hx1170, hx1171, hx1172⟩ := idx_some hx117
  obtain ⟨u118, hRu118, hoku118, hcu118⟩ := (hp1_0).el hx1172
  obtain ⟨⟨Au118_0, cu118_0⟩, ⟨Au118_1, cu118_1⟩⟩ := u118
  obtain ⟨hoku118_0, hoku118_1⟩ := TPlotStep_ok.1 hoku118
  replace hoku118_0 : Sl w.R w.W fl_TPoint Au118_0 cu118_0 x117.Points := hoku118_0
  replace hoku118_1 : Sl w.R w.W fl_TPlotStep Au118_1 cu118_1 x117.Steps := hoku118_1
  refine Tq.va rfl (fun _ _ h1 h2 => run_indexAddr el_23 (h1.ev rfl) hp1_0.form (h1.ev rfl) hx1170 hx1171) ?_
  refine Tq.va rfl (fun _ _ h1 h2 => run_loadN (cs := [(.int .i64 x117.Kind), (.string x117.Name), (.int .i64 x117.At.X), (.int .i64 x117.At.Y), (.slice Au118_0 (x117.Points).length cu118_0), (.int .i64 x117.NX), (.int .i64 x117.NY), (.slice Au118_1 (x117.Steps).length cu118_1)]) ag_84 sz_84 (h1.ev rfl) (CellsAt.take (rdR hRu118 hcu118 h2) 8) rfl) ?_
  refine Tq.mv rfl rfl ?_
  obtain ⟨y119, hy119, H⟩ := bnd H
  refine Tq.call0 (r := (.int .i64 y119)) (wn rfl) rfl Tryd.call67 (evl_cons rfl (evl_cons rfl (evl_cons rfl evl_nil))) (fun W hW => F_etchhouseref3_checkStep_ok N p0 Ap0_0 cp0_0 (hp0_0.ext hW.extAll) Ap0_1 cp0_1 (hp0_1.ext hW.extAll) x117 Au118_0 cu118_0 (hoku118_0.ext hW.extAll) Au118_1 cu118_1 (hoku118_1.ext hW.extAll) p2 y119 hy119 (HF.start _)) ?_
  refine Tq.asg rfl rfl ?_
  refine Tq.nil (Tr.normThen ?_)
  refine Tr.sr ?_
  refine Tr.mv rfl rfl ?_
  refine Tr.va rfl (fun _ _ h1 h2 => run_neq (h1.ev rfl) (h1.ev rfl)) ?_
  refine Tr.nil (Tr.normThen ?_)
  refine Tr.cond rfl H (fun H => ?_) (fun H => ?_)
  ·refine Tr.sr ?_
   refine Tr.mv rfl rfl ?_
   refine Tr.asg rfl rfl ?_
   refine Tr.nil (Tr.normThen ?_)
   refine Tr.ret (Tr.retThen (Tr.retBlock (Tr.retThen (Tr.retThen (Tr.retBlock (Tr.retThen ?_))))))
   obtain rfl := Option.some.inj H
   exact Tr.out (m := [(.int .i64 y119)]) [] (res_tmp rfl res_nil) (fun W hW => ⟨rfl, hW.low leB⟩)
  ·refine Tr.skip (Tr.normThen ?_)
   refine Tr.seq ?_
   refine Tr.draw (by kernel_rfl) (by kernel_rfl) ?_
   refine Tq.va rfl (fun _ _ h1 h2 => run_loadN (cs := [(.int .i64 p0.Unit), (.slice Ap0_0 (p0.Tools).length cp0_0), (.slice Ap0_1 (p0.Steps).length cp0_1)]) ag_25 sz_25 (h1.ev rfl) (CellsAt.take (rdb h2 (vs := [(.int .i64 p0.Unit), (.slice Ap0_0 (p0.Tools).length cp0_0), (.slice Ap0_1 (p0.Steps).length cp0_1)]) (k := 1) rfl 0) 3) rfl) ?_
   refine Tq.mv rfl rfl ?_
   refine Tq.mv rfl rfl ?_
   obtain ⟨x120, hx120, H⟩ := bnd H
   obtain ⟨hx1200, hx1201, hx1202⟩ := idx_some hx120
   obtain ⟨u121, hRu121, hoku121, hcu121⟩ := (hp1_0).el hx1202
   obtain ⟨⟨Au121_0, cu121_0⟩, ⟨Au121_1, cu121_1⟩⟩ := u121
   obtain ⟨hoku121_0, hoku121_1⟩ := TPlotStep_ok.1 hoku121
   replace hoku121_0 : Sl w.R w.W fl_TPoint Au121_0 cu121_0 x120.Points := hoku121_0
   replace hoku121_1 : Sl w.R w.W fl_TPlotStep Au121_1 cu121_1 x120.Steps := hoku121_1
   refine Tq.va rfl (fun _ _ h1 h2 => run_indexAddr el_23 (h1.ev rfl) hp1_0.form (h1.ev rfl) hx1200 hx1201) ?_
   refine Tq.va rfl (fun _ _ h1 h2 => run_fieldAddr fo_84_6 (h1.ev rfl)) ?_
   refine Tq.va rfl (fun _ _ h1 h2 => run_load1 ag_23 (h1.ev rfl) (CellsAt.drop (rdR hRu121 hcu121 h2) 7) rfl) ?_
   refine Tq.mv rfl rfl ?_
   refine Tq.va rfl (fun _ _ h1 h2 => run_add (h1.ev rfl) (h1.ev rfl)) ?_
   obtain ⟨y122, hy122, H⟩ := bnd H
   refine Tq.call0 (r := (.int .i64 y122)) (wn rfl) rfl Tryd.call34 (evl_cons rfl (evl_cons rfl (evl_cons rfl evl_nil))) (fun W hW => hrec p0 Ap0_0 cp0_0 (hp0_0.ext hW.extAll) Ap0_1 cp0_1 (hp0_1.ext hW.extAll) x120.Steps Au121_1 cu121_1 (hoku121_1.ext hW.extAll) (w64 (p2 + 1)) y122 hy122 (HF.start _)) ?_
   refine Tq.asg rfl rfl ?_
   refine Tq.nil (Tr.normThen ?_)
   refine Tr.sr ?_
   refine Tr.mv rfl rfl ?_
   refine Tr.va rfl (fun _ _ h1 h2 => run_neq (h1.ev rfl) (h1.ev rfl)) ?_
   refine Tr.nil (Tr.normThen ?_)
   refine Tr.cond rfl H (fun H => ?_) (fun H => ?_)
   ·refine Tr.sr ?_
    refine Tr.mv rfl rfl ?_
    refine Tr.asg rfl rfl ?_
    refine Tr.nil (Tr.normThen ?_)
    refine Tr.ret (Tr.retBlock (Tr.retThen (Tr.retThen (Tr.retBlock (Tr.retThen ?_)))))
    obtain rfl := Option.some.inj H
    exact Tr.out (m := [(.int .i64 y122)]) [] (res_tmp rfl res_nil) (fun W hW => ⟨rfl, hW.low leB⟩)
   ·refine Tr.skip (Tr.normBlock (Tr.normThen ?_))
    refine Tr.region ?_
    refine Tr.mv rfl rfl ?_
    refine Tr.va rfl (fun _ _ h1 h2 => run_add (h1.ev rfl) (h1.ev rfl)) ?_
    refine Tr.asg rfl rfl ?_
    refine Tr.nil ?_
    exact Tr.backThen leF_etchhouseref3_checkSteps_L1 (w64 (x116 + 1)) H (.cons rfl (.cons rfl (.cons rfl (.cons rfl .nil)))) (.cons rfl .nil)
 ·refine Tr.exit (Tr.exitThen (Tr.exitThen (Tr.exitBlock (Tr.normThen ?_))))
  refine Tr.sr ?_
  refine Tr.asg rfl rfl ?_
  refine Tr.nil (Tr.normThen ?_)
  refine Tr.ret ?_
  obtain rfl := Option.some.inj H
  exact Tr.out (m := [(.int .i64 0)]) [] (res_tmp rfl res_nil) (fun W hW => ⟨rfl, hW.low leB⟩)
theorem F_etchhouseref3_checkSteps_ok : ∀ (N : Nat) {w : Bs} (p0 : TPlot) (Ap0_0 : Option Addr) (cp0_0 : Nat) (hp0_0 : Sl w.R w.W fl_TPlotTool Ap0_0 cp0_0 p0.Tools) (Ap0_1 : Option Addr) (cp0_1 : Nat) (hp0_1 : Sl w.R w.W fl_TPlotStep Ap0_1 cp0_1 p0.Steps) (p1 : (List TPlotStep)) (Ap1_0 : Option Addr) (cp1_0 : Nat) (hp1_0 : Sl w.R w.W fl_TPlotStep Ap1_0 cp1_0 p1) (p2 : Int) (r : Int) (H : F_etchhouseref3_checkSteps N p0 p1 p2 = some r) (hE : HF w w.W E0), Calls Tryd.prog 34 [(.agg #[(.int .i64 p0.Unit), (.slice Ap0_0 (p0.Tools).length cp0_0), (.slice Ap0_1 (p0.Steps).length cp0_1)]), (.slice Ap1_0 (p1).length cp1_0), (.int .i64 p2)].toArray w.W fun e W' => e = .returned (.int .i64 r) ∧ HF w W' E0
 | 0 => by intros; rename_i H _; cases H
 | N + 1 => F_etchhouseref3_checkSteps_b_ok N (F_etchhouseref3_checkSteps N) (F_etchhouseref3_checkSteps_ok N)

theorem F_etchhouseref3_CheckPlot_ok (N : Nat) {w : Bs} (p0 : TPlot) (Ap0_0 : Option Addr) (cp0_0 : Nat) (hp0_0 : Sl w.R w.W fl_TPlotTool Ap0_0 cp0_0 p0.Tools) (Ap0_1 : Option Addr) (cp0_1 : Nat) (hp0_1 : Sl w.R w.W fl_TPlotStep Ap0_1 cp0_1 p0.Steps) (r : Int) (H : F_etchhouseref3_CheckPlot N p0 = some r) (hE : HF w w.W E0) : Calls Tryd.prog 9 [(.agg #[(.int .i64 p0.Unit), (.slice Ap0_0 (p0.Tools).length cp0_0), (.slice Ap0_1 (p0.Steps).length cp0_1)])].toArray w.W fun e W' => e = .returned (.int .i64 r) ∧ HF w W' E0 := by
 unfold F_etchhouseref3_CheckPlot at H
 have leB := Bs.Le.refl w
 refine Tr.enter (n := 60) Tryd.func9 rfl rfl rfl hE ?_
 refine Tr.sr ?_
 refine Tr.box 1 (cs := [(.int .i64 p0.Unit), (.slice Ap0_0 (p0.Tools).length cp0_0), (.slice Ap0_1 (p0.Steps).length cp0_1)]) (wn rfl) rfl rfl rfl fun b100 => ?_
 refine Tr.asg rfl rfl ?_
 refine Tr.nil (Tr.normThen ?_)
 refine Tr.seq ?_
 refine Tr.sr ?_
 refine Tr.va rfl (fun _ _ h1 h2 => run_fieldAddr fo_25_0 (h1.ev rfl)) ?_
 refine Tr.va rfl (fun _ _ h1 h2 => run_load1 ag_3 (h1.ev rfl) (rdb h2 (vs := [(.int .i64 p0.Unit), (.slice Ap0_0 (p0.Tools).length cp0_0), (.slice Ap0_1 (p0.Steps).length cp0_1)]) (k := 1) rfl 0) rfl) ?_
 obtain ⟨y101, hy101, H⟩ := bnd H
 refine Tr.call0 (r := (.bool y101)) (wn rfl) rfl Tryd.call30 (evl_cons rfl (evl_cons rfl (evl_cons rfl evl_nil))) (fun W hW => F_etchhouseref3_within_ok p0.Unit 1 1000 y101 hy101 (HF.start _)) ?_
 refine Tr.va rfl (fun _ _ h1 h2 => run_not (h1.ev rfl)) ?_
 refine Tr.nil (Tr.normThen ?_)
 refine Tr.cond rfl H (fun H => ?_) (fun H => ?_)
 ·refine Tr.sr ?_
  refine Tr.asg rfl rfl ?_
  refine Tr.nil (Tr.normThen ?_)
  refine Tr.ret (Tr.retThen ?_)
  obtain rfl := Option.some.inj H
  exact Tr.out (m := [(.int .i64 1)]) [] (res_tmp rfl res_nil) (fun W hW => ⟨rfl, hW.low leB⟩)
 ·refine Tr.skip (Tr.normThen ?_)
  refine Tr.seq ?_
  refine Tr.sr ?_
  refine Tr.va rfl (fun _ _ h1 h2 => run_fieldAddr fo_25_1 (h1.ev rfl)) ?_
  refine Tr.va rfl (fun _ _ h1 h2 => run_load1 ag_22 (h1.ev rfl) (rdb h2 (vs := [(.int .i64 p0.Unit), (.slice Ap0_0 (p0.Tools).length cp0_0), (.slice Ap0_1 (p0.Steps).length cp0_1)]) (k := 1) rfl 1) rfl) ?_
  refine Tr.va rfl (fun _ _ h1 h2 => run_len un_22 (h1.ev rfl)) ?_
  refine Tr.va rfl (fun _ _ h1 h2 => run_gtr (h1.ev rfl) (h1.ev rfl)) ?_
  refine Tr.nil (Tr.normThen ?_)
  refine Tr.cond rfl H (fun H => ?_) (fun H => ?_)
  ·refine Tr.sr ?_
   refine Tr.asg rfl rfl ?_
   refine Tr.nil (Tr.normThen ?_)
   refine Tr.ret (Tr.retThen ?_)
   obtain rfl := Option.some.inj H
   exact Tr.out (m := [(.int .i64 2)]) [] (res_tmp rfl res_nil) (fun W hW => ⟨rfl, hW.low leB⟩)
  ·refine Tr.skip (Tr.normThen ?_)
   refine Tr.seq ?_
   refine Tr.sr ?_
   refine Tr.asg rfl rfl ?_
   refine Tr.nil (Tr.normThen ?_)
   refine Tr.block ?_
   refine Tr.loop (σ := Int) (fun m w s => F_etchhouseref3_CheckPlot_L1 N p0 m s = some r) (fun s => [(1, (.pointer (some ⟨b100, 0, none⟩))), (3, (.int .i64 s))]) (fun s => [(1, bx b100 #[(.int .i64 p0.Unit), (.slice Ap0_0 (p0.Tools).length cp0_0), (.slice Ap0_1 (p0.Steps).length cp0_1)] 25)]) N 0 H (.cons rfl (.cons rfl .nil)) (.cons rfl .nil) (fun _ _ h => noSome (h)) ?_
   intro w leF_etchhouseref3_CheckPlot_L1 mF_etchhouseref3_CheckPlot_L1 x125 hs
   have H := hs
   replace H : F_etchhouseref3_CheckPlot_L1 N p0 (mF_etchhouseref3_CheckPlot_L1 + 1) x125 = some r := H
   replace hp0_0 := hp0_0.leR leF_etchhouseref3_CheckPlot_L1
   replace hp0_1 := hp0_1.leR leF_etchhouseref3_CheckPlot_L1
   replace leB := leB.trans leF_etchhouseref3_CheckPlot_L1
   rw [F_etchhouseref3_CheckPlot_L1.eq_2] at H
   show Tr _ _ (LF [(1, (.pointer (some ⟨b100, 0, none⟩))), (3, (.int .i64 x125))]) (LE [(1, bx b100 #[(.int .i64 p0.Unit), (.slice Ap0_0 (p0.Tools).length cp0_0), (.slice Ap0_1 (p0.Steps).length cp0_1)] 25)]) _
   refine Tr.seq ?_
   refine Tr.sr ?_
   refine Tr.mv rfl rfl ?_
   refine Tr.va rfl (fun _ _ h1 h2 => run_fieldAddr fo_25_1 (h1.ev rfl)) ?_
   refine Tr.va rfl (fun _ _ h1 h2 => run_load1 ag_22 (h1.ev rfl) (rdb h2 (vs := [(.int .i64 p0.Unit), (.slice Ap0_0 (p0.Tools).length cp0_0), (.slice Ap0_1 (p0.Steps).length cp0_1)]) (k := 1) rfl 1) rfl) ?_
   refine Tr.va rfl (fun _ _ h1 h2 => run_len un_22 (h1.ev rfl)) ?_
   refine Tr.va rfl (fun _ _ h1 h2 => run_lss (h1.ev rfl) (h1.ev rfl)) ?_
   refine Tr.nil (Tr.normThen ?_)
   refine Tr.cond rfl H (fun H => ?_) (fun H => ?_)
   ·refine Tr.skip (Tr.normThen ?_)
    refine Tr.seq ?_
    refine Tr.block ?_
    refine Tr.sr ?_
    refine Tr.va rfl (fun _ _ h1 h2 => run_fieldAddr fo_25_1 (h1.ev rfl)) ?_
    refine Tr.va rfl (fun _ _ h1 h2 => run_load1 ag_22 (h1.ev rfl) (rdb h2 (vs := [(.int .i64 p0.Unit), (.slice Ap0_0 (p0.Tools).length cp0_0), (.slice Ap0_1 (p0.Steps).length cp0_1)]) (k := 1) rfl 1) rfl) ?_
    refine Tr.mv rfl rfl ?_
    obtain ⟨x126, hx126, H⟩ := bnd H
    obtain ⟨hx1260, hx1261, hx1262⟩ := idx_some hx126
    obtain ⟨u127, hRu127, hoku127, hcu127⟩ := (hp0_0).el hx1262
    obtain ⟨Au127_0, cu127_0⟩ := u127
    have hoku127_0 := hoku127
    replace hoku127_0 : Sl w.R w.W fl_TRect Au127_0 cu127_0 x126.Rects := hoku127_0
    refine Tr.va rfl (fun _ _ h1 h2 => run_indexAddr el_22 (h1.ev rfl) hp0_0.form (h1.ev rfl) hx1260 hx1261) ?_
    refine Tr.va rfl (fun _ _ h1 h2 => run_loadN (cs := [(.string x126.Name), (.slice Au127_0 (x126.Rects).length cu127_0)]) ag_55 sz_55 (h1.ev rfl) (CellsAt.take (rdR hRu127 hcu127 h2) 2) rfl) ?_
    refine Tr.alloc 4 (wn rfl) rfl ze_55 fun b128 => ?_
    refine Tr.store 4 (cs := [(.string x126.Name), (.slice Au127_0 (x126.Rects).length cu127_0)]) [(.string x126.Name), (.slice Au127_0 (x126.Rects).length cu127_0)] (wn rfl) rfl rfl rfl rfl sz_55 rfl rfl rfl ?_
    refine Tr.nil (Tr.normThen ?_)
    refine Tr.seq ?_
    refine Tr.sr ?_
    refine Tr.va rfl (fun _ _ h1 h2 => run_fieldAddr fo_55_0 (h1.ev rfl)) ?_
    refine Tr.va rfl (fun _ _ h1 h2 => run_load1 ag_9 (h1.ev rfl) (rdb h2 (vs := [(.string x126.Name), (.slice Au127_0 (x126.Rects).length cu127_0)]) (k := 4) rfl 0) rfl) ?_
    obtain ⟨y129, hy129, H⟩ := bnd H
    refine Tr.call0 (r := (.bool y129)) (wn rfl) rfl Tryd.call31 (evl_cons rfl evl_nil) (fun W hW => F_etchhouseref3_IsName_ok N x126.Name y129 hy129 (HF.start _)) ?_
    refine Tr.va rfl (fun _ _ h1 h2 => run_not (h1.ev rfl)) ?_
    refine Tr.nil (Tr.normThen ?_)
    refine Tr.cond rfl H (fun H => ?_) (fun H => ?_)
    ·refine Tr.sr ?_
     refine Tr.asg rfl rfl ?_
     refine Tr.nil (Tr.normThen ?_)
     refine Tr.ret (Tr.retThen (Tr.retBlock (Tr.retThen (Tr.retThen (Tr.retBlock (Tr.retThen ?_))))))
     obtain rfl := Option.some.inj H
     exact Tr.out (m := [(.int .i64 5)]) [] (res_tmp rfl res_nil) (fun W hW => ⟨rfl, hW.low leB⟩)
    ·refine Tr.skip (Tr.normThen ?_)
     refine Tr.seq ?_
     refine Tr.sr ?_
     refine Tr.va rfl (fun _ _ h1 h2 => run_fieldAddr fo_55_1 (h1.ev rfl)) ?_
     refine Tr.va rfl (fun _ _ h1 h2 => run_load1 ag_53 (h1.ev rfl) (rdb h2 (vs := [(.string x126.Name), (.slice Au127_0 (x126.Rects).length cu127_0)]) (k := 4) rfl 1) rfl) ?_
     refine Tr.va rfl (fun _ _ h1 h2 => run_fieldAddr fo_25_0 (h1.ev rfl)) ?_
     refine Tr.va rfl (fun _ _ h1 h2 => run_load1 ag_3 (h1.ev rfl) (rdb h2 (vs := [(.int .i64 p0.Unit), (.slice Ap0_0 (p0.Tools).length cp0_0), (.slice Ap0_1 (p0.Steps).length cp0_1)]) (k := 1) rfl 0) rfl) ?_
     obtain ⟨y130, hy130, H⟩ := bnd H
     refine Tr.call0 (r := (.int .i64 y130)) (wn rfl) rfl Tryd.call32 (evl_cons rfl (evl_cons rfl evl_nil)) (fun W hW => F_etchhouseref3_checkToolRects_ok N x126.Rects Au127_0 cu127_0 (hoku127_0.ext hW.extAll) p0.Unit y130 hy130 (HF.start _)) ?_
     refine Tr.asg rfl rfl ?_
     refine Tr.nil (Tr.normThen ?_)
     refine Tr.sr ?_
     refine Tr.mv rfl rfl ?_
     refine Tr.va rfl (fun _ _ h1 h2 => run_neq (h1.ev rfl) (h1.ev rfl)) ?_
     refine Tr.nil (Tr.normThen ?_)
     refine Tr.cond rfl H (fun H => ?_) (fun H => ?_)
     ·refine Tr.sr ?_
      refine Tr.mv rfl rfl ?_
      refine Tr.asg rfl rfl ?_
      refine Tr.nil (Tr.normThen ?_)
      refine Tr.ret (Tr.retThen (Tr.retBlock (Tr.retThen (Tr.retThen (Tr.retBlock (Tr.retThen ?_))))))
      obtain rfl := Option.some.inj H
      exact Tr.out (m := [(.int .i64 y130)]) [] (res_tmp rfl res_nil) (fun W hW => ⟨rfl, hW.low leB⟩)
     ·refine Tr.skip (Tr.normThen ?_)
      refine Tr.seq ?_
      refine Tr.draw (by kernel_rfl) (by kernel_rfl) ?_
      refine Tq.mv rfl rfl ?_
      refine Tq.va rfl (fun _ _ h1 h2 => run_gtr (h1.ev rfl) (h1.ev rfl)) ?_
      refine Tq.mv rfl rfl ?_
      obtain ⟨g133, hg133, H⟩ := bnd H
      refine Tq.mid 11 [(1, (.pointer (some ⟨b100, 0, none⟩))), (3, (.int .i64 x125)), (51, (.bool g133))] ?_ ?_
      ·cases hg135 : (decide (0 < x125))
       ·rw [hg135] at hg133
        rw [if_neg (by decide)] at hg133
        have H := hg133
        obtain rfl := Option.some.inj H
        refine Tq.pass rfl rfl rfl rfl rfl (by decide) ?_
        refine Tq.pass rfl rfl rfl rfl rfl (by decide) ?_
        refine Tq.pass rfl rfl rfl rfl rfl (by decide) ?_
        refine Tq.pass rfl rfl rfl rfl rfl (by decide) ?_
        refine Tq.pass rfl rfl rfl rfl rfl (by decide) ?_
        refine Tq.pass rfl rfl rfl rfl rfl (by decide) ?_
        refine Tq.pass rfl rfl rfl rfl rfl (by decide) ?_
        refine Tq.pass rfl rfl rfl rfl rfl (by decide) ?_
        refine Tq.pass rfl rfl rfl rfl rfl (by decide) ?_
        refine Tq.pass rfl rfl rfl rfl rfl (by decide) ?_
        refine Tq.va rfl (fun _ _ h1 h2 => run_pickF (h1.ev rfl) (h1.ev rfl)) ?_
        exact Tq.fin (.cons rfl (.cons rfl (.cons rfl .nil)))
       ·rw [hg135] at hg133
        rw [if_pos rfl] at hg133
        have H := hg133
        refine Tq.val (wg rfl rfl rfl) rfl (fun _ _ h1 h2 => run_fieldAddr fo_55_0 (h1.ev rfl)) ?_
        refine Tq.val (wg rfl rfl rfl) rfl (fun _ _ h1 h2 => run_load1 ag_9 (h1.ev rfl) (rdb h2 (vs := [(.string x126.Name), (.slice Au127_0 (x126.Rects).length cu127_0)]) (k := 4) rfl 0) rfl) ?_
        refine Tq.val (wg rfl rfl rfl) rfl (fun _ _ h1 h2 => run_fieldAddr fo_25_1 (h1.ev rfl)) ?_
        refine Tq.val (wg rfl rfl rfl) rfl (fun _ _ h1 h2 => run_load1 ag_22 (h1.ev rfl) (rdb h2 (vs := [(.int .i64 p0.Unit), (.slice Ap0_0 (p0.Tools).length cp0_0), (.slice Ap0_1 (p0.Steps).length cp0_1)]) (k := 1) rfl 1) rfl) ?_
        refine Tq.val (wg rfl rfl rfl) rfl (fun _ _ h1 h2 => run_move (h1.ev rfl)) ?_
        refine Tq.val (wg rfl rfl rfl) rfl (fun _ _ h1 h2 => run_sub (h1.ev rfl) (h1.ev rfl)) ?_
        obtain ⟨x134, hx134, H⟩ := bnd H
        obtain ⟨hx1340, hx1341, hx1342⟩ := idx_some hx134
        obtain ⟨u135, hRu135, hoku135, hcu135⟩ := (hp0_0).el hx1342
        obtain ⟨Au135_0, cu135_0⟩ := u135
        have hoku135_0 := hoku135
        replace hoku135_0 : Sl w.R w.W fl_TRect Au135_0 cu135_0 x134.Rects := hoku135_0
        refine Tq.val (wg rfl rfl rfl) rfl (fun _ _ h1 h2 => run_indexAddr el_22 (h1.ev rfl) hp0_0.form (h1.ev rfl) hx1340 hx1341) ?_
        refine Tq.val (wg rfl rfl rfl) rfl (fun _ _ h1 h2 => run_fieldAddr fo_55_0 (h1.ev rfl)) ?_
        refine Tq.val (wg rfl rfl rfl) rfl (fun _ _ h1 h2 => run_load1 ag_9 (h1.ev rfl) (CellsAt.drop (rdR hRu135 hcu135 h2) 0) rfl) ?_
        refine Tq.val (wg rfl rfl rfl) rfl (fun _ _ h1 h2 => run_leqS (h1.ev rfl) (h1.ev rfl)) ?_
        refine Tq.va rfl (fun _ _ h1 h2 => run_pickT (h1.ev rfl) (h1.ev rfl)) ?_
        obtain rfl := Option.some.inj H
        exact Tq.fin (.cons rfl (.cons rfl (.cons rfl .nil)))
      ·refine Tq.nil (Tr.normThen ?_)
       refine Tr.cond rfl H (fun H => ?_) (fun H => ?_)
       ·refine Tr.sr ?_
        refine Tr.asg rfl rfl ?_
        refine Tr.nil (Tr.normThen ?_)
        refine Tr.ret (Tr.retBlock (Tr.retThen (Tr.retThen (Tr.retBlock (Tr.retThen ?_)))))
        obtain rfl := Option.some.inj H
        exact Tr.out (m := [(.int .i64 8)]) [] (res_tmp rfl res_nil) (fun W hW => ⟨rfl, hW.low leB⟩)
       ·refine Tr.skip (Tr.normBlock (Tr.normThen ?_))
        refine Tr.region ?_
        refine Tr.mv rfl rfl ?_
        refine Tr.va rfl (fun _ _ h1 h2 => run_add (h1.ev rfl) (h1.ev rfl)) ?_
        refine Tr.asg rfl rfl ?_
        refine Tr.nil ?_
        exact Tr.backThen leF_etchhouseref3_CheckPlot_L1 (w64 (x125 + 1)) H (.cons rfl (.cons rfl .nil)) (.cons rfl .nil)
   ·refine Tr.exit (Tr.exitThen (Tr.exitThen (Tr.exitBlock (Tr.normThen ?_))))
    refine Tr.seq ?_
    refine Tr.sr ?_
    refine Tr.va rfl (fun _ _ h1 h2 => run_fieldAddr fo_25_2 (h1.ev rfl)) ?_
    refine Tr.va rfl (fun _ _ h1 h2 => run_load1 ag_23 (h1.ev rfl) (rdb h2 (vs := [(.int .i64 p0.Unit), (.slice Ap0_0 (p0.Tools).length cp0_0), (.slice Ap0_1 (p0.Steps).length cp0_1)]) (k := 1) rfl 2) rfl) ?_
    obtain ⟨y136, hy136, H⟩ := bnd H
    refine Tr.call0 (r := (.int .i64 y136)) (wn rfl) rfl Tryd.call33 (evl_cons rfl evl_nil) (fun W hW => F_etchhouseref3_count_ok N p0.Steps Ap0_1 cp0_1 (hp0_1.ext hW.extAll) y136 hy136 (HF.start _)) ?_
    refine Tr.va rfl (fun _ _ h1 h2 => run_gtr (h1.ev rfl) (h1.ev rfl)) ?_
    refine Tr.nil (Tr.normThen ?_)
    refine Tr.cond rfl H (fun H => ?_) (fun H => ?_)
    ·refine Tr.sr ?_
     refine Tr.asg rfl rfl ?_
     refine Tr.nil (Tr.normThen ?_)
     refine Tr.ret (Tr.retThen ?_)
     obtain rfl := Option.some.inj H
     exact Tr.out (m := [(.int .i64 2)]) [] (res_tmp rfl res_nil) (fun W hW => ⟨rfl, hW.low leB⟩)
    ·refine Tr.skip (Tr.normThen ?_)
     refine Tr.sr ?_
     refine Tr.va rfl (fun _ _ h1 h2 => run_loadN (cs := [(.int .i64 p0.Unit), (.slice Ap0_0 (p0.Tools).length cp0_0), (.slice Ap0_1 (p0.Steps).length cp0_1)]) ag_25 sz_25 (h1.ev rfl) (CellsAt.take (rdb h2 (vs := [(.int .i64 p0.Unit), (.slice Ap0_0 (p0.Tools).length cp0_0), (.slice Ap0_1 (p0.Steps).length cp0_1)]) (k := 1) rfl 0) 3) rfl) ?_
     refine Tr.va rfl (fun _ _ h1 h2 => run_fieldAddr fo_25_2 (h1.ev rfl)) ?_
     refine Tr.va rfl (fun _ _ h1 h2 => run_load1 ag_23 (h1.ev rfl) (rdb h2 (vs := [(.int .i64 p0.Unit), (.slice Ap0_0 (p0.Tools).length cp0_0), (.slice Ap0_1 (p0.Steps).length cp0_1)]) (k := 1) rfl 2) rfl) ?_
     obtain ⟨y137, hy137, H⟩ := bnd H
     refine Tr.call0 (r := (.int .i64 y137)) (wn rfl) rfl Tryd.call34 (evl_cons rfl (evl_cons rfl (evl_cons rfl evl_nil))) (fun W hW => F_etchhouseref3_checkSteps_ok N p0 Ap0_0 cp0_0 (hp0_0.ext hW.extAll) Ap0_1 cp0_1 (hp0_1.ext hW.extAll) p0.Steps Ap0_1 cp0_1 (hp0_1.ext hW.extAll) 0 y137 hy137 (HF.start _)) ?_
     refine Tr.asg rfl rfl ?_
     refine Tr.nil (Tr.normThen ?_)
     refine Tr.ret ?_
     obtain rfl := Option.some.inj H
     exact Tr.out (m := [(.int .i64 y137)]) [] (res_tmp rfl res_nil) (fun W hW => ⟨rfl, hW.low leB⟩)

theorem F_etchhouseref3_scale_ok {w : Bs} (p0 : Int) (p1 : Int) (p2 : Int) (r : (Int × Bool)) (H : F_etchhouseref3_scale p0 p1 p2 = some r) (hE : HF w w.W E0) : Calls Tryd.prog 99 [(.int .i64 p0), (.int .i64 p1), (.int .i64 p2)].toArray w.W fun e W' => e = .returned (.tuple #[(.int .i64 r.1), (.bool r.2)]) ∧ HF w W' E0 := by
 unfold F_etchhouseref3_scale at H
 have leB := Bs.Le.refl w
 refine Tr.enter (n := 19) Tryd.func99 rfl rfl rfl hE ?_
 refine Tr.sr ?_
 refine Tr.asg rfl rfl ?_
 refine Tr.asg rfl rfl ?_
 refine Tr.nil (Tr.normThen ?_)
 refine Tr.seq ?_
 refine Tr.draw (by kernel_rfl) (by kernel_rfl) ?_
 refine Tq.mv rfl rfl ?_
 refine Tq.mv rfl rfl ?_
 refine Tq.va rfl (fun _ _ h1 h2 => run_mul (h1.ev rfl) (h1.ev rfl)) ?_
 refine Tq.mv rfl rfl ?_
 obtain ⟨q100, hq100, H⟩ := bnd H
 refine Tq.va rfl (fun _ _ h1 h2 => run_dv (h1.ev rfl) (h1.ev rfl) hq100) ?_
 refine Tq.mv rfl rfl ?_
 refine Tq.mv rfl rfl ?_
 refine Tq.va rfl (fun _ _ h1 h2 => run_mul (h1.ev rfl) (h1.ev rfl)) ?_
 refine Tq.mv rfl rfl ?_
 obtain ⟨q101, hq101, H⟩ := bnd H
 refine Tq.va rfl (fun _ _ h1 h2 => run_md (h1.ev rfl) (h1.ev rfl) hq101) ?_
 refine Tq.va rfl (fun _ _ h1 h2 => run_eql (h1.ev rfl) (h1.ev rfl)) ?_
 refine Tq.asg rfl rfl ?_
 refine Tq.asg rfl rfl ?_
 refine Tq.nil (Tr.normThen ?_)
 refine Tr.ret ?_
 obtain rfl := Option.some.inj H
 exact Tr.out (m := [(.int .i64 q100), (.bool (q101 == 0))]) [] (res_tmp rfl (res_tmp rfl res_nil)) (fun W hW => ⟨rfl, hW.low leB⟩)

theorem F_etchhouseref3_scalePoint_ok {w : Bs} (p0 : TPoint) (p1 : Int) (p2 : Int) (r : (TPoint × Bool)) (H : F_etchhouseref3_scalePoint p0 p1 p2 = some r) (hE : HF w w.W E0) : Calls Tryd.prog 70 [(.agg #[(.int .i64 p0.X), (.int .i64 p0.Y)]), (.int .i64 p1), (.int .i64 p2)].toArray w.W fun e W' => e = .returned (.tuple #[(.agg #[(.int .i64 r.1.X), (.int .i64 r.1.Y)]), (.bool r.2)]) ∧ HF w W' E0 := by
 unfold F_etchhouseref3_scalePoint at H
 have leB := Bs.Le.refl w
 refine Tr.enter (n := 35) Tryd.func70 rfl rfl rfl hE ?_
 refine Tr.sr ?_
 refine Tr.box 1 (cs := [(.int .i64 p0.X), (.int .i64 p0.Y)]) (wn rfl) rfl rfl rfl fun b100 => ?_
 refine Tr.alloc 2 (wn rfl) rfl ze_37 fun b101 => ?_
 refine Tr.asg rfl rfl ?_
 refine Tr.nil (Tr.normThen ?_)
 refine Tr.sr ?_
 refine Tr.va rfl (fun _ _ h1 h2 => run_fieldAddr fo_37_0 (h1.ev rfl)) ?_
 refine Tr.va rfl (fun _ _ h1 h2 => run_load1 ag_3 (h1.ev rfl) (rdb h2 (vs := [(.int .i64 p0.X), (.int .i64 p0.Y)]) (k := 1) rfl 0) rfl) ?_
 refine Tr.mv rfl rfl ?_
 refine Tr.mv rfl rfl ?_
 obtain ⟨y102, hy102, H⟩ := bnd H
 refine Tr.call0 (r := (.tuple #[(.int .i64 y102.1), (.bool y102.2)])) (wn rfl) rfl Tryd.call99 (evl_cons rfl (evl_cons rfl (evl_cons rfl evl_nil))) (fun W hW => F_etchhouseref3_scale_ok p0.X p1 p2 y102 hy102 (HF.start _)) ?_
 refine Tr.mv rfl rfl ?_
 refine Tr.va rfl (fun _ _ h1 h2 => run_extract (h1.ev rfl) rfl) ?_
 refine Tr.va rfl (fun _ _ h1 h2 => run_extract (h1.ev rfl) rfl) ?_
 refine Tr.asg rfl rfl ?_
 refine Tr.asg rfl rfl ?_
 refine Tr.nil (Tr.normThen ?_)
 refine Tr.sr ?_
 refine Tr.va rfl (fun _ _ h1 h2 => run_fieldAddr fo_37_1 (h1.ev rfl)) ?_
 refine Tr.va rfl (fun _ _ h1 h2 => run_load1 ag_3 (h1.ev rfl) (rdb h2 (vs := [(.int .i64 p0.X), (.int .i64 p0.Y)]) (k := 1) rfl 1) rfl) ?_
 refine Tr.mv rfl rfl ?_
 refine Tr.mv rfl rfl ?_
 obtain ⟨y103, hy103, H⟩ := bnd H
 refine Tr.call0 (r := (.tuple #[(.int .i64 y103.1), (.bool y103.2)])) (wn rfl) rfl Tryd.call99 (evl_cons rfl (evl_cons rfl (evl_cons rfl evl_nil))) (fun W hW => F_etchhouseref3_scale_ok p0.Y p1 p2 y103 hy103 (HF.start _)) ?_
 refine Tr.mv rfl rfl ?_
 refine Tr.va rfl (fun _ _ h1 h2 => run_extract (h1.ev rfl) rfl) ?_
 refine Tr.va rfl (fun _ _ h1 h2 => run_extract (h1.ev rfl) rfl) ?_
 refine Tr.asg rfl rfl ?_
 refine Tr.asg rfl rfl ?_
 refine Tr.nil (Tr.normThen ?_)
 refine Tr.sr ?_
 refine Tr.mv rfl rfl ?_
 refine Tr.mv rfl rfl ?_
 refine Tr.build (vs := [(0, (.int .i64 y102.1)), (1, (.int .i64 y103.1))]) (cs := [(.int .i64 y102.1), (.int .i64 y103.1)]) (wn rfl) rfl (evs_cons rfl (evs_cons rfl evs_nil)) (by kernel_rfl) ?_
 refine Tr.mv rfl rfl ?_
 refine Tr.mv rfl rfl ?_
 refine Tr.mid0 2 [(6, (.pointer (some ⟨b101, 0, none⟩))), (30, (.agg #[(.int .i64 y102.1), (.int .i64 y103.1)])), (34, (.bool (y102.2 && y103.2)))] [(1, bx b100 #[(.int .i64 p0.X), (.int .i64 p0.Y)] 37), (2, bx b101 #[(.int .i64 0), (.int .i64 0)] 37)] ?_ ?_
 ·cases hg103 : y102.2
  ·refine Tr.pass rfl rfl rfl rfl rfl (by decide) ?_
   refine Tr.va rfl (fun _ _ h1 h2 => run_pickF (h1.ev rfl) (h1.ev rfl)) ?_
   exact Tr.nil (Tr.fin0 (.cons rfl (.cons rfl (.cons rfl .nil))) (.cons rfl (.cons rfl .nil)))
  ·refine Tr.val (wg rfl rfl rfl) rfl (fun _ _ h1 h2 => run_move (h1.ev rfl)) ?_
   refine Tr.va rfl (fun _ _ h1 h2 => run_pickT (h1.ev rfl) (h1.ev rfl)) ?_
   exact Tr.nil (Tr.fin0 (.cons rfl (.cons rfl (.cons rfl .nil))) (.cons rfl (.cons rfl .nil)))
 ·show Tr _ _ (LF [(6, (.pointer (some ⟨b101, 0, none⟩))), (30, (.agg #[(.int .i64 y102.1), (.int .i64 y103.1)])), (34, (.bool (y102.2 && y103.2)))]) (LE [(1, bx b100 #[(.int .i64 p0.X), (.int .i64 p0.Y)] 37), (2, bx b101 #[(.int .i64 0), (.int .i64 0)] 37)]) _
  refine Tr.store 2 (cs := [(.int .i64 y102.1), (.int .i64 y103.1)]) [(.int .i64 y102.1), (.int .i64 y103.1)] (wn rfl) rfl rfl rfl rfl sz_37 rfl rfl rfl ?_
  refine Tr.asg rfl rfl ?_
  refine Tr.nil (Tr.normThen ?_)
  refine Tr.ret ?_
  obtain rfl := Option.some.inj H
  exact Tr.out (m := [(.agg #[(.int .i64 y102.1), (.int .i64 y103.1)]), (.bool (y102.2 && y103.2))]) [2] (res_cell rfl rfl ag_37 sz_37 (res_tmp rfl res_nil)) (fun W hW => ⟨rfl, hW.low leB⟩)

theorem F_etchhouseref3_scaleSteps_b_ok (N : Nat) (rec : (List TPlotStep) → Int → Int → Option ((List TPlotStep) × Bool)) (hrec : ∀ {w : Bs} (p0 : (List TPlotStep)) (Ap0_0 : Option Addr) (cp0_0 : Nat) (hp0_0 : Sl w.R w.W fl_TPlotStep Ap0_0 cp0_0 p0) (p1 : Int) (p2 : Int) (r : ((List TPlotStep) × Bool)) (H : rec p0 p1 p2 = some r) (hE : HF w w.W (LEn [emp])), Calls Tryd.prog 71 [(.slice Ap0_0 (p0).length cp0_0), (.int .i64 p1), (.int .i64 p2)].toArray w.W fun e W' => ∃ (w' : Bs) (u : (Option Addr × Nat)), w.Le w' ∧ e = .returned (.tuple #[(.slice u.1 (r.1).length u.2), (.bool r.2)]) ∧ (SlF u.1 (r.1).length u.2) ∧ HF w' W' (LEn [ow u.1 u.2 84 fl_TPlotStep r.1])) {w : Bs} (p0 : (List TPlotStep)) (Ap0_0 : Option Addr) (cp0_0 : Nat) (hp0_0 : Sl w.R w.W fl_TPlotStep Ap0_0 cp0_0 p0) (p1 : Int) (p2 : Int) (r : ((List TPlotStep) × Bool)) (H : F_etchhouseref3_scaleSteps_b N rec p0 p1 p2 = some r) (hE : HF w w.W (LEn [emp])) : Calls Tryd.prog 71 [(.slice Ap0_0 (p0).length cp0_0), (.int .i64 p1), (.int .i64 p2)].toArray w.W fun e W' => ∃ (w' : Bs) (u : (Option Addr × Nat)), w.Le w' ∧ e = .returned (.tuple #[(.slice u.1 (r.1).length u.2), (.bool r.2)]) ∧ (SlF u.1 (r.1).length u.2) ∧ HF w' W' (LEn [ow u.1 u.2 84 fl_TPlotStep r.1]) := by
 unfold F_etchhouseref3_scaleSteps_b at H
 have leB := Bs.Le.refl w
 refine Tr.enter (n := 97) Tryd.func71 rfl rfl rfl hE ?_
 refine Tr.sr ?_
 refine Tr.asg rfl rfl ?_
 refine Tr.nilOwn 1 84 fl_TPlotStep ?_
 show Tr _ _ (uf _ 6 (.slice none (([] : List TPlotStep)).length 0)) _ _
 refine Tr.asg rfl rfl ?_
 refine Tr.nil (Tr.normThen ?_)
 refine Tr.sr ?_
 refine Tr.asg rfl rfl ?_
 refine Tr.nilOwn 2 84 fl_TPlotStep ?_
 show Tr _ _ (uf _ 8 (.slice none (([] : List TPlotStep)).length 0)) _ _
 refine Tr.nil (Tr.normThen ?_)
 refine Tr.sr ?_
 refine Tr.asg rfl rfl ?_
 refine Tr.nil (Tr.normThen ?_)
 refine Tr.seq ?_
 refine Tr.sr ?_
 refine Tr.asg rfl rfl ?_
 refine Tr.nil (Tr.normThen ?_)
 refine Tr.block ?_
 refine Tr.loop (σ := (List TPlotStep) × Bool × Int × (Option Addr) × Nat) (fun m w s => F_etchhouseref3_scaleSteps_L3 N p0 p1 p2 rec m s.1 s.2.1 s.2.2.1 = some r ∧ SlF s.2.2.2.1 (s.1).length s.2.2.2.2) (fun s => [(0, (.slice Ap0_0 (p0).length cp0_0)), (1, (.int .i64 p1)), (2, (.int .i64 p2)), (8, (.slice s.2.2.2.1 (s.1).length s.2.2.2.2)), (9, (.bool s.2.1)), (10, (.int .i64 s.2.2.1))]) (fun s => [(2, ow s.2.2.2.1 s.2.2.2.2 84 fl_TPlotStep s.1)]) N (([] : List TPlotStep), true, 0, none, 0) ⟨H, slf_nil⟩ (.cons rfl (.cons rfl (.cons rfl (.cons rfl (.cons rfl (.cons rfl .nil)))))) (.cons rfl .nil) (fun _ _ h => noSome (h.1)) ?_
 intro w leF_etchhouseref3_scaleSteps_L3 mF_etchhouseref3_scaleSteps_L3 s hs
 obtain ⟨l213, x214, x215, Al213, cl213⟩ := s
 obtain ⟨H, hl213⟩ := hs
 replace H : F_etchhouseref3_scaleSteps_L3 N p0 p1 p2 rec (mF_etchhouseref3_scaleSteps_L3 + 1) l213 x214 x215 = some r := H
 replace hp0_0 := hp0_0.leR leF_etchhouseref3_scaleSteps_L3
 replace leB := leB.trans leF_etchhouseref3_scaleSteps_L3
 replace hl213 : SlF Al213 (l213).length cl213 := hl213
 rw [F_etchhouseref3_scaleSteps_L3.eq_2] at H
 show Tr _ _ (LF [(0, (.slice Ap0_0 (p0).length cp0_0)), (1, (.int .i64 p1)), (2, (.int .i64 p2)), (8, (.slice Al213 (l213).length cl213)), (9, (.bool x214)), (10, (.int .i64 x215))]) (LE [(2, ow Al213 cl213 84 fl_TPlotStep l213)]) _
 refine Tr.seq ?_
 refine Tr.sr ?_
 refine Tr.mv rfl rfl ?_
 refine Tr.mv rfl rfl ?_
 refine Tr.va rfl (fun _ _ h1 h2 => run_len un_23 (h1.ev rfl)) ?_
 refine Tr.va rfl (fun _ _ h1 h2 => run_lss (h1.ev rfl) (h1.ev rfl)) ?_
 refine Tr.nil (Tr.normThen ?_)
 refine Tr.cond rfl H (fun H => ?_) (fun H => ?_)
 ·refine Tr.skip (Tr.normThen ?_)
  refine Tr.seq ?_
  refine Tr.block ?_
  refine Tr.sr ?_
  refine Tr.mv rfl rfl ?_
  refine Tr.mv rfl rfl ?_
  obtain ⟨x216, hx216, H⟩ := bnd H
  obtain ⟨hx2160, hx2161, hx2162⟩ := idx_some hx216
  obtain ⟨u217, hRu217, hoku217, hcu217⟩ := (hp0_0).el hx2162
  obtain ⟨⟨Au217_0, cu217_0⟩, ⟨Au217_1, cu217_1⟩⟩ := u217
  obtain ⟨hoku217_0, hoku217_1⟩ := TPlotStep_ok.1 hoku217
  replace hoku217_0 : Sl w.R w.W fl_TPoint Au217_0 cu217_0 x216.Points := hoku217_0
  replace hoku217_1 : Sl w.R w.W fl_TPlotStep Au217_1 cu217_1 x216.Steps := hoku217_1
  refine Tr.va rfl (fun _ _ h1 h2 => run_indexAddr el_23 (h1.ev rfl) hp0_0.form (h1.ev rfl) hx2160 hx2161) ?_
  refine Tr.va rfl (fun _ _ h1 h2 => run_loadN (cs := [(.int .i64 x216.Kind), (.string x216.Name), (.int .i64 x216.At.X), (.int .i64 x216.At.Y), (.slice Au217_0 (x216.Points).length cu217_0), (.int .i64 x216.NX), (.int .i64 x216.NY), (.slice Au217_1 (x216.Steps).length cu217_1)]) ag_84 sz_84 (h1.ev rfl) (CellsAt.take (rdR hRu217 hcu217 h2) 8) rfl) ?_
  refine Tr.alloc 33 (wn rfl) rfl ze_84 fun b218 => ?_
  refine Tr.store 33 (cs := [(.int .i64 x216.Kind), (.string x216.Name), (.int .i64 x216.At.X), (.int .i64 x216.At.Y), (.slice Au217_0 (x216.Points).length cu217_0), (.int .i64 x216.NX), (.int .i64 x216.NY), (.slice Au217_1 (x216.Steps).length cu217_1)]) [(.int .i64 x216.Kind), (.string x216.Name), (.int .i64 x216.At.X), (.int .i64 x216.At.Y), (.slice Au217_0 (x216.Points).length cu217_0), (.int .i64 x216.NX), (.int .i64 x216.NY), (.slice Au217_1 (x216.Steps).length cu217_1)] (wn rfl) rfl rfl rfl rfl sz_84 rfl rfl rfl ?_
  refine Tr.nil (Tr.normThen ?_)
  refine Tr.sr ?_
  refine Tr.va rfl (fun _ _ h1 h2 => run_fieldAddr fo_84_2 (h1.ev rfl)) ?_
  refine Tr.va rfl (fun _ _ h1 h2 => run_loadN (cs := [(.int .i64 x216.At.X), (.int .i64 x216.At.Y)]) ag_37 sz_37 (h1.ev rfl) (CellsAt.take (rdb h2 (vs := [(.int .i64 x216.Kind), (.string x216.Name), (.int .i64 x216.At.X), (.int .i64 x216.At.Y), (.slice Au217_0 (x216.Points).length cu217_0), (.int .i64 x216.NX), (.int .i64 x216.NY), (.slice Au217_1 (x216.Steps).length cu217_1)]) (k := 33) rfl 2) 2) rfl) ?_
  refine Tr.mv rfl rfl ?_
  refine Tr.mv rfl rfl ?_
  obtain ⟨y219, hy219, H⟩ := bnd H
  refine Tr.call0 (r := (.tuple #[(.agg #[(.int .i64 y219.1.X), (.int .i64 y219.1.Y)]), (.bool y219.2)])) (wn rfl) rfl Tryd.call70 (evl_cons rfl (evl_cons rfl (evl_cons rfl evl_nil))) (fun W hW => F_etchhouseref3_scalePoint_ok x216.At p1 p2 y219 hy219 (HF.start _)) ?_
  refine Tr.mv rfl rfl ?_
  refine Tr.va rfl (fun _ _ h1 h2 => run_extract (h1.ev rfl) rfl) ?_
  refine Tr.va rfl (fun _ _ h1 h2 => run_extract (h1.ev rfl) rfl) ?_
  refine Tr.alloc 34 (wn rfl) rfl ze_37 fun b220 => ?_
  refine Tr.store 34 (cs := [(.int .i64 y219.1.X), (.int .i64 y219.1.Y)]) [(.int .i64 y219.1.X), (.int .i64 y219.1.Y)] (wn rfl) rfl rfl rfl rfl sz_37 rfl rfl rfl ?_
  refine Tr.asg rfl rfl ?_
  refine Tr.nil (Tr.normThen ?_)
  refine Tr.sr ?_
  refine Tr.va rfl (fun _ _ h1 h2 => run_fieldAddr fo_84_6 (h1.ev rfl)) ?_
  refine Tr.va rfl (fun _ _ h1 h2 => run_load1 ag_23 (h1.ev rfl) (rdb h2 (vs := [(.int .i64 x216.Kind), (.string x216.Name), (.int .i64 x216.At.X), (.int .i64 x216.At.Y), (.slice Au217_0 (x216.Points).length cu217_0), (.int .i64 x216.NX), (.int .i64 x216.NY), (.slice Au217_1 (x216.Steps).length cu217_1)]) (k := 33) rfl 7) rfl) ?_
  refine Tr.mv rfl rfl ?_
  refine Tr.mv rfl rfl ?_
  obtain ⟨y221, hy221, H⟩ := bnd H
  refine Tr.callG [35] [emp] (U := (Option Addr × Nat)) (fun u => (.tuple #[(.slice u.1 (y221.1).length u.2), (.bool y221.2)])) (fun O W u => SlF u.1 (y221.1).length u.2) (fun u => [ow u.1 u.2 84 fl_TPlotStep y221.1]) rfl (pk_cons rfl pk_nil) (fun _ => rfl) (wn rfl) rfl Tryd.call71 (evl_cons rfl (evl_cons rfl (evl_cons rfl evl_nil))) (fun W hW hp hE => hrec x216.Steps Au217_1 cu217_1 (hoku217_1.ext (hW.extS hp)) p1 p2 y221 hy221 hE) ?_
  intro w u le222 hu
  obtain ⟨Ay221_0, cy221_0⟩ := u
  have gy221_0 := hu
  replace hp0_0 := hp0_0.leR le222
  replace hcu217 := le222.ext.cells hRu217 hcu217
  replace hRu217 := le222.r _ hRu217
  replace hoku217_0 := hoku217_0.leR le222
  replace hoku217_1 := hoku217_1.leR le222
  replace leB := leB.trans le222
  replace leF_etchhouseref3_scaleSteps_L3 := leF_etchhouseref3_scaleSteps_L3.trans le222
  have hgy221_0 : SlF Ay221_0 (y221.1).length cy221_0 := gy221_0 --@phi
  show Tr _ _ (uf _ 42 (.tuple #[(.slice Ay221_0 (y221.1).length cy221_0), (.bool y221.2)])) (up _ 35 (ow Ay221_0 cy221_0 84 fl_TPlotStep y221.1)) _
  refine Tr.mv rfl rfl ?_
  refine Tr.va rfl (fun _ _ h1 h2 => run_extract (h1.ev rfl) rfl) ?_
  refine Tr.va rfl (fun _ _ h1 h2 => run_extract (h1.ev rfl) rfl) ?_
  refine Tr.asg rfl rfl ?_
  refine Tr.asg rfl rfl ?_
  refine Tr.nil (Tr.normThen ?_)
  refine Tr.sr ?_
  refine Tr.mv rfl rfl ?_
  refine Tr.mv rfl rfl ?_
  refine Tr.mid0 2 [(0, (.slice Ap0_0 (p0).length cp0_0)), (1, (.int .i64 p1)), (2, (.int .i64 p2)), (8, (.slice Al213 (l213).length cl213)), (10, (.int .i64 x215)), (11, (.pointer (some ⟨b218, 0, none⟩))), (12, (.pointer (some ⟨b220, 0, none⟩))), (14, (.slice Ay221_0 (y221.1).length cy221_0)), (15, (.bool y221.2)), (48, (.bool (x214 && y219.2)))] [(2, ow Al213 cl213 84 fl_TPlotStep l213), (33, bx b218 #[(.int .i64 x216.Kind), (.string x216.Name), (.int .i64 x216.At.X), (.int .i64 x216.At.Y), (.slice Au217_0 (x216.Points).length cu217_0), (.int .i64 x216.NX), (.int .i64 x216.NY), (.slice Au217_1 (x216.Steps).length cu217_1)] 84), (34, bx b220 #[(.int .i64 y219.1.X), (.int .i64 y219.1.Y)] 37), (35, ow Ay221_0 cy221_0 84 fl_TPlotStep y221.1)] ?_ ?_
  ·cases hg267 : x214
   ·refine Tr.pass rfl rfl rfl rfl rfl (by decide) ?_
    refine Tr.va rfl (fun _ _ h1 h2 => run_pickF (h1.ev rfl) (h1.ev rfl)) ?_
    exact Tr.nil (Tr.fin0 (.cons rfl (.cons rfl (.cons rfl (.cons rfl (.cons rfl (.cons rfl (.cons rfl (.cons rfl (.cons rfl (.cons rfl .nil)))))))))) (.cons rfl (.cons rfl (.cons rfl (.cons rfl .nil)))))
   ·refine Tr.val (wg rfl rfl rfl) rfl (fun _ _ h1 h2 => run_move (h1.ev rfl)) ?_
    refine Tr.va rfl (fun _ _ h1 h2 => run_pickT (h1.ev rfl) (h1.ev rfl)) ?_
    exact Tr.nil (Tr.fin0 (.cons rfl (.cons rfl (.cons rfl (.cons rfl (.cons rfl (.cons rfl (.cons rfl (.cons rfl (.cons rfl (.cons rfl .nil)))))))))) (.cons rfl (.cons rfl (.cons rfl (.cons rfl .nil)))))
  ·show Tr _ _ (LF [(0, (.slice Ap0_0 (p0).length cp0_0)), (1, (.int .i64 p1)), (2, (.int .i64 p2)), (8, (.slice Al213 (l213).length cl213)), (10, (.int .i64 x215)), (11, (.pointer (some ⟨b218, 0, none⟩))), (12, (.pointer (some ⟨b220, 0, none⟩))), (14, (.slice Ay221_0 (y221.1).length cy221_0)), (15, (.bool y221.2)), (48, (.bool (x214 && y219.2)))]) (LE [(2, ow Al213 cl213 84 fl_TPlotStep l213), (33, bx b218 #[(.int .i64 x216.Kind), (.string x216.Name), (.int .i64 x216.At.X), (.int .i64 x216.At.Y), (.slice Au217_0 (x216.Points).length cu217_0), (.int .i64 x216.NX), (.int .i64 x216.NY), (.slice Au217_1 (x216.Steps).length cu217_1)] 84), (34, bx b220 #[(.int .i64 y219.1.X), (.int .i64 y219.1.Y)] 37), (35, ow Ay221_0 cy221_0 84 fl_TPlotStep y221.1)]) _
   refine Tr.mv rfl rfl ?_
   refine Tr.mid0 2 [(0, (.slice Ap0_0 (p0).length cp0_0)), (1, (.int .i64 p1)), (2, (.int .i64 p2)), (8, (.slice Al213 (l213).length cl213)), (10, (.int .i64 x215)), (11, (.pointer (some ⟨b218, 0, none⟩))), (12, (.pointer (some ⟨b220, 0, none⟩))), (14, (.slice Ay221_0 (y221.1).length cy221_0)), (51, (.bool ((x214 && y219.2) && y221.2)))] [(2, ow Al213 cl213 84 fl_TPlotStep l213), (33, bx b218 #[(.int .i64 x216.Kind), (.string x216.Name), (.int .i64 x216.At.X), (.int .i64 x216.At.Y), (.slice Au217_0 (x216.Points).length cu217_0), (.int .i64 x216.NX), (.int .i64 x216.NY), (.slice Au217_1 (x216.Steps).length cu217_1)] 84), (34, bx b220 #[(.int .i64 y219.1.X), (.int .i64 y219.1.Y)] 37), (35, ow Ay221_0 cy221_0 84 fl_TPlotStep y221.1)] ?_ ?_
   ·cases hg267 : (x214 && y219.2)
    ·refine Tr.pass rfl rfl rfl rfl rfl (by decide) ?_
     refine Tr.va rfl (fun _ _ h1 h2 => run_pickF (h1.ev rfl) (h1.ev rfl)) ?_
     exact Tr.nil (Tr.fin0 (.cons rfl (.cons rfl (.cons rfl (.cons rfl (.cons rfl (.cons rfl (.cons rfl (.cons rfl (.cons rfl .nil))))))))) (.cons rfl (.cons rfl (.cons rfl (.cons rfl .nil)))))
    ·refine Tr.val (wg rfl rfl rfl) rfl (fun _ _ h1 h2 => run_move (h1.ev rfl)) ?_
     refine Tr.va rfl (fun _ _ h1 h2 => run_pickT (h1.ev rfl) (h1.ev rfl)) ?_
     exact Tr.nil (Tr.fin0 (.cons rfl (.cons rfl (.cons rfl (.cons rfl (.cons rfl (.cons rfl (.cons rfl (.cons rfl (.cons rfl .nil))))))))) (.cons rfl (.cons rfl (.cons rfl (.cons rfl .nil)))))
   ·show Tr _ _ (LF [(0, (.slice Ap0_0 (p0).length cp0_0)), (1, (.int .i64 p1)), (2, (.int .i64 p2)), (8, (.slice Al213 (l213).length cl213)), (10, (.int .i64 x215)), (11, (.pointer (some ⟨b218, 0, none⟩))), (12, (.pointer (some ⟨b220, 0, none⟩))), (14, (.slice Ay221_0 (y221.1).length cy221_0)), (51, (.bool ((x214 && y219.2) && y221.2)))]) (LE [(2, ow Al213 cl213 84 fl_TPlotStep l213), (33, bx b218 #[(.int .i64 x216.Kind), (.string x216.Name), (.int .i64 x216.At.X), (.int .i64 x216.At.Y), (.slice Au217_0 (x216.Points).length cu217_0), (.int .i64 x216.NX), (.int .i64 x216.NY), (.slice Au217_1 (x216.Steps).length cu217_1)] 84), (34, bx b220 #[(.int .i64 y219.1.X), (.int .i64 y219.1.Y)] 37), (35, ow Ay221_0 cy221_0 84 fl_TPlotStep y221.1)]) _
    refine Tr.asg rfl rfl ?_
    refine Tr.nil (Tr.normThen ?_)
    refine Tr.sr ?_
    refine Tr.va rfl (fun _ _ h1 h2 => run_loadN (cs := [(.int .i64 y219.1.X), (.int .i64 y219.1.Y)]) ag_37 sz_37 (h1.ev rfl) (CellsAt.take (rdb h2 (vs := [(.int .i64 y219.1.X), (.int .i64 y219.1.Y)]) (k := 34) rfl 0) 2) rfl) ?_
    refine Tr.mv rfl rfl ?_
    refine Tr.va rfl (fun _ _ h1 h2 => run_fieldAddr fo_84_2 (h1.ev rfl)) ?_
    refine Tr.store 33 (cs := [(.int .i64 y219.1.X), (.int .i64 y219.1.Y)]) [(.int .i64 x216.Kind), (.string x216.Name), (.int .i64 y219.1.X), (.int .i64 y219.1.Y), (.slice Au217_0 (x216.Points).length cu217_0), (.int .i64 x216.NX), (.int .i64 x216.NY), (.slice Au217_1 (x216.Steps).length cu217_1)] (wn rfl) rfl rfl rfl rfl sz_37 rfl rfl rfl ?_
    refine Tr.va rfl (fun _ _ h1 h2 => run_fieldAddr fo_84_6 (h1.ev rfl)) ?_
    refine Tr.store 33 (cs := [(.slice Ay221_0 (y221.1).length cy221_0)]) [(.int .i64 x216.Kind), (.string x216.Name), (.int .i64 y219.1.X), (.int .i64 y219.1.Y), (.slice Au217_0 (x216.Points).length cu217_0), (.int .i64 x216.NX), (.int .i64 x216.NY), (.slice Ay221_0 (y221.1).length cy221_0)] (wn rfl) rfl rfl rfl rfl sz_23 rfl rfl rfl ?_
    refine Tr.va rfl (fun _ _ h1 h2 => run_fieldAddr fo_84_3 (h1.ev rfl)) ?_
    refine Tr.store 33 (cs := [(.slice none 0 0)]) [(.int .i64 x216.Kind), (.string x216.Name), (.int .i64 y219.1.X), (.int .i64 y219.1.Y), (.slice none 0 0), (.int .i64 x216.NX), (.int .i64 x216.NY), (.slice Ay221_0 (y221.1).length cy221_0)] (wn rfl) rfl rfl rfl rfl sz_82 rfl rfl rfl ?_
    refine Tr.nil (Tr.normThen ?_)
    refine Tr.seq ?_
    refine Tr.sr ?_
    refine Tr.asg rfl rfl ?_
    refine Tr.nil (Tr.normThen ?_)
    refine Tr.block ?_
    refine Tr.nilOwn 44 37 fl_TPoint ?_
    refine Tr.loop (σ := (List TPoint) × Bool × Int × (Option Addr) × Nat) (fun m w s => F_etchhouseref3_scaleSteps_L4 p0 p1 p2 l213 x215 (F_etchhouseref3_scaleSteps_L3 N p0 p1 p2 rec mF_etchhouseref3_scaleSteps_L3) x216 y219 y221 m s.1 s.2.1 s.2.2.1 = some r ∧ SlF s.2.2.2.1 (s.1).length s.2.2.2.2) (fun s => [(0, (.slice Ap0_0 (p0).length cp0_0)), (1, (.int .i64 p1)), (2, (.int .i64 p2)), (8, (.slice Al213 (l213).length cl213)), (9, (.bool s.2.1)), (10, (.int .i64 x215)), (11, (.pointer (some ⟨b218, 0, none⟩))), (16, (.int .i64 s.2.2.1))]) (fun s => [(2, ow Al213 cl213 84 fl_TPlotStep l213), (33, bx b218 #[(.int .i64 x216.Kind), (.string x216.Name), (.int .i64 y219.1.X), (.int .i64 y219.1.Y), (.slice s.2.2.2.1 (s.1).length s.2.2.2.2), (.int .i64 x216.NX), (.int .i64 x216.NY), (.slice Ay221_0 (y221.1).length cy221_0)] 84), (35, ow Ay221_0 cy221_0 84 fl_TPlotStep y221.1), (44, ow s.2.2.2.1 s.2.2.2.2 37 fl_TPoint s.1)]) N (([] : List TPoint), ((x214 && y219.2) && y221.2), 0, none, 0) ⟨H, slf_nil⟩ (.cons rfl (.cons rfl (.cons rfl (.cons rfl (.cons rfl (.cons rfl (.cons rfl (.cons rfl .nil)))))))) (.cons rfl (.cons rfl (.cons rfl (.cons rfl .nil)))) (fun _ _ h => noSome (h.1)) ?_
    intro w leF_etchhouseref3_scaleSteps_L4 mF_etchhouseref3_scaleSteps_L4 s hs
    obtain ⟨l250, x251, x252, Al250, cl250⟩ := s
    obtain ⟨H, hl250⟩ := hs
    replace H : F_etchhouseref3_scaleSteps_L4 p0 p1 p2 l213 x215 (F_etchhouseref3_scaleSteps_L3 N p0 p1 p2 rec mF_etchhouseref3_scaleSteps_L3) x216 y219 y221 (mF_etchhouseref3_scaleSteps_L4 + 1) l250 x251 x252 = some r := H
    replace hp0_0 := hp0_0.leR leF_etchhouseref3_scaleSteps_L4
    replace leB := leB.trans leF_etchhouseref3_scaleSteps_L4
    replace leF_etchhouseref3_scaleSteps_L3 := leF_etchhouseref3_scaleSteps_L3.trans leF_etchhouseref3_scaleSteps_L4
    replace hl250 : SlF Al250 (l250).length cl250 := hl250
    rw [F_etchhouseref3_scaleSteps_L4.eq_2] at H
    show Tr _ _ (LF [(0, (.slice Ap0_0 (p0).length cp0_0)), (1, (.int .i64 p1)), (2, (.int .i64 p2)), (8, (.slice Al213 (l213).length cl213)), (9, (.bool x251)), (10, (.int .i64 x215)), (11, (.pointer (some ⟨b218, 0, none⟩))), (16, (.int .i64 x252))]) (LE [(2, ow Al213 cl213 84 fl_TPlotStep l213), (33, bx b218 #[(.int .i64 x216.Kind), (.string x216.Name), (.int .i64 y219.1.X), (.int .i64 y219.1.Y), (.slice Al250 (l250).length cl250), (.int .i64 x216.NX), (.int .i64 x216.NY), (.slice Ay221_0 (y221.1).length cy221_0)] 84), (35, ow Ay221_0 cy221_0 84 fl_TPlotStep y221.1), (44, ow Al250 cl250 37 fl_TPoint l250)]) _
    refine Tr.seq ?_
    refine Tr.sr ?_
    refine Tr.mv rfl rfl ?_
    refine Tr.mv rfl rfl ?_
    refine Tr.mv rfl rfl ?_
    obtain ⟨x253, hx253, H⟩ := bnd H
    obtain ⟨hx2530, hx2531, hx2532⟩ := idx_some hx253
    obtain ⟨u254, hRu254, hoku254, hcu254⟩ := (hp0_0).el hx2532
    obtain ⟨⟨Au254_0, cu254_0⟩, ⟨Au254_1, cu254_1⟩⟩ := u254
    obtain ⟨hoku254_0, hoku254_1⟩ := TPlotStep_ok.1 hoku254
    replace hoku254_0 : Sl w.R w.W fl_TPoint Au254_0 cu254_0 x253.Points := hoku254_0
    replace hoku254_1 : Sl w.R w.W fl_TPlotStep Au254_1 cu254_1 x253.Steps := hoku254_1
    refine Tr.va rfl (fun _ _ h1 h2 => run_indexAddr el_23 (h1.ev rfl) hp0_0.form (h1.ev rfl) hx2530 hx2531) ?_
    refine Tr.va rfl (fun _ _ h1 h2 => run_fieldAddr fo_84_3 (h1.ev rfl)) ?_
    refine Tr.va rfl (fun _ _ h1 h2 => run_load1 ag_82 (h1.ev rfl) (CellsAt.drop (rdR hRu254 hcu254 h2) 4) rfl) ?_
    refine Tr.va rfl (fun _ _ h1 h2 => run_len un_82 (h1.ev rfl)) ?_
    refine Tr.va rfl (fun _ _ h1 h2 => run_lss (h1.ev rfl) (h1.ev rfl)) ?_
    refine Tr.nil (Tr.normThen ?_)
    refine Tr.cond rfl H (fun H => ?_) (fun H => ?_)
    ·refine Tr.skip (Tr.normThen ?_)
     refine Tr.seq ?_
     refine Tr.block ?_
     refine Tr.sr ?_
     refine Tr.mv rfl rfl ?_
     refine Tr.mv rfl rfl ?_
     obtain ⟨x255, hx255, H⟩ := bnd H
     obtain ⟨hx2550, hx2551, hx2552⟩ := idx_some hx255
     obtain ⟨u256, hRu256, hoku256, hcu256⟩ := (hp0_0).el hx2552
     obtain ⟨⟨Au256_0, cu256_0⟩, ⟨Au256_1, cu256_1⟩⟩ := u256
     obtain ⟨hoku256_0, hoku256_1⟩ := TPlotStep_ok.1 hoku256
     replace hoku256_0 : Sl w.R w.W fl_TPoint Au256_0 cu256_0 x255.Points := hoku256_0
     replace hoku256_1 : Sl w.R w.W fl_TPlotStep Au256_1 cu256_1 x255.Steps := hoku256_1
     refine Tr.va rfl (fun _ _ h1 h2 => run_indexAddr el_23 (h1.ev rfl) hp0_0.form (h1.ev rfl) hx2550 hx2551) ?_
     refine Tr.va rfl (fun _ _ h1 h2 => run_fieldAddr fo_84_3 (h1.ev rfl)) ?_
     refine Tr.va rfl (fun _ _ h1 h2 => run_load1 ag_82 (h1.ev rfl) (CellsAt.drop (rdR hRu256 hcu256 h2) 4) rfl) ?_
     refine Tr.mv rfl rfl ?_
     obtain ⟨x257, hx257, H⟩ := bnd H
     obtain ⟨hx2570, hx2571, hx2572⟩ := idx_some hx257
     refine Tr.va rfl (fun _ _ h1 h2 => run_indexAddr el_82 (h1.ev rfl) hoku256_0.form (h1.ev rfl) hx2570 hx2571) ?_
     refine Tr.va rfl (fun _ _ h1 h2 => run_loadN (cs := [(.int .i64 x257.X), (.int .i64 x257.Y)]) ag_37 sz_37 (h1.ev rfl) (CellsAt.take (rdF ef_TPoint hoku256_0 hx2572 h2) 2) rfl) ?_
     refine Tr.mv rfl rfl ?_
     refine Tr.mv rfl rfl ?_
     obtain ⟨y258, hy258, H⟩ := bnd H
     refine Tr.call0 (r := (.tuple #[(.agg #[(.int .i64 y258.1.X), (.int .i64 y258.1.Y)]), (.bool y258.2)])) (wn rfl) rfl Tryd.call70 (evl_cons rfl (evl_cons rfl (evl_cons rfl evl_nil))) (fun W hW => F_etchhouseref3_scalePoint_ok x257 p1 p2 y258 hy258 (HF.start _)) ?_
     refine Tr.mv rfl rfl ?_
     refine Tr.va rfl (fun _ _ h1 h2 => run_extract (h1.ev rfl) rfl) ?_
     refine Tr.va rfl (fun _ _ h1 h2 => run_extract (h1.ev rfl) rfl) ?_
     refine Tr.alloc 45 (wn rfl) rfl ze_37 fun b259 => ?_
     refine Tr.store 45 (cs := [(.int .i64 y258.1.X), (.int .i64 y258.1.Y)]) [(.int .i64 y258.1.X), (.int .i64 y258.1.Y)] (wn rfl) rfl rfl rfl rfl sz_37 rfl rfl rfl ?_
     refine Tr.asg rfl rfl ?_
     refine Tr.nil (Tr.normThen ?_)
     refine Tr.sr ?_
     refine Tr.mv rfl rfl ?_
     refine Tr.mv rfl rfl ?_
     refine Tr.mid0 2 [(0, (.slice Ap0_0 (p0).length cp0_0)), (1, (.int .i64 p1)), (2, (.int .i64 p2)), (8, (.slice Al213 (l213).length cl213)), (10, (.int .i64 x215)), (11, (.pointer (some ⟨b218, 0, none⟩))), (16, (.int .i64 x252)), (17, (.pointer (some ⟨b259, 0, none⟩))), (84, (.bool (x251 && y258.2)))] [(2, ow Al213 cl213 84 fl_TPlotStep l213), (33, bx b218 #[(.int .i64 x216.Kind), (.string x216.Name), (.int .i64 y219.1.X), (.int .i64 y219.1.Y), (.slice Al250 (l250).length cl250), (.int .i64 x216.NX), (.int .i64 x216.NY), (.slice Ay221_0 (y221.1).length cy221_0)] 84), (35, ow Ay221_0 cy221_0 84 fl_TPlotStep y221.1), (44, ow Al250 cl250 37 fl_TPoint l250), (45, bx b259 #[(.int .i64 y258.1.X), (.int .i64 y258.1.Y)] 37)] ?_ ?_
     ·cases hg261 : x251
      ·refine Tr.pass rfl rfl rfl rfl rfl (by decide) ?_
       refine Tr.va rfl (fun _ _ h1 h2 => run_pickF (h1.ev rfl) (h1.ev rfl)) ?_
       exact Tr.nil (Tr.fin0 (.cons rfl (.cons rfl (.cons rfl (.cons rfl (.cons rfl (.cons rfl (.cons rfl (.cons rfl (.cons rfl .nil))))))))) (.cons rfl (.cons rfl (.cons rfl (.cons rfl (.cons rfl .nil))))))
      ·refine Tr.val (wg rfl rfl rfl) rfl (fun _ _ h1 h2 => run_move (h1.ev rfl)) ?_
       refine Tr.va rfl (fun _ _ h1 h2 => run_pickT (h1.ev rfl) (h1.ev rfl)) ?_
       exact Tr.nil (Tr.fin0 (.cons rfl (.cons rfl (.cons rfl (.cons rfl (.cons rfl (.cons rfl (.cons rfl (.cons rfl (.cons rfl .nil))))))))) (.cons rfl (.cons rfl (.cons rfl (.cons rfl (.cons rfl .nil))))))
     ·show Tr _ _ (LF [(0, (.slice Ap0_0 (p0).length cp0_0)), (1, (.int .i64 p1)), (2, (.int .i64 p2)), (8, (.slice Al213 (l213).length cl213)), (10, (.int .i64 x215)), (11, (.pointer (some ⟨b218, 0, none⟩))), (16, (.int .i64 x252)), (17, (.pointer (some ⟨b259, 0, none⟩))), (84, (.bool (x251 && y258.2)))]) (LE [(2, ow Al213 cl213 84 fl_TPlotStep l213), (33, bx b218 #[(.int .i64 x216.Kind), (.string x216.Name), (.int .i64 y219.1.X), (.int .i64 y219.1.Y), (.slice Al250 (l250).length cl250), (.int .i64 x216.NX), (.int .i64 x216.NY), (.slice Ay221_0 (y221.1).length cy221_0)] 84), (35, ow Ay221_0 cy221_0 84 fl_TPlotStep y221.1), (44, ow Al250 cl250 37 fl_TPoint l250), (45, bx b259 #[(.int .i64 y258.1.X), (.int .i64 y258.1.Y)] 37)]) _
      refine Tr.asg rfl rfl ?_
      refine Tr.nil (Tr.normThen ?_)
      refine Tr.region ?_
      refine Tr.va rfl (fun _ _ h1 h2 => run_fieldAddr fo_84_3 (h1.ev rfl)) ?_
      refine Tr.va rfl (fun _ _ h1 h2 => run_load1 ag_82 (h1.ev rfl) (rdb h2 (vs := [(.int .i64 x216.Kind), (.string x216.Name), (.int .i64 y219.1.X), (.int .i64 y219.1.Y), (.slice Al250 (l250).length cl250), (.int .i64 x216.NX), (.int .i64 x216.NY), (.slice Ay221_0 (y221.1).length cy221_0)]) (k := 33) rfl 4) rfl) ?_
      refine Tr.va rfl (fun _ _ h1 h2 => run_loadN (cs := [(.int .i64 y258.1.X), (.int .i64 y258.1.Y)]) ag_37 sz_37 (h1.ev rfl) (CellsAt.take (rdb h2 (vs := [(.int .i64 y258.1.X), (.int .i64 y258.1.Y)]) (k := 45) rfl 0) 2) rfl) ?_
      refine Tr.buildSlice 46 (e := 37) (vs := [(0, (.agg #[(.int .i64 y258.1.X), (.int .i64 y258.1.Y)]))]) (cs := [(.int .i64 y258.1.X), (.int .i64 y258.1.Y)]) (wn rfl) rfl (evs_cons rfl evs_nil) (by kernel_rfl) fun b260 => ?_
      obtain ⟨l261, hl261, H⟩ := bnd H
      refine Tr.append 44 (t := fl_TPoint) (l := l250) (l2 := [y258.1]) (wn rfl) rfl rfl rfl rfl (fun W hW => ⟨[[(.int .i64 y258.1.X), (.int .i64 y258.1.Y)]], (.cons ⟨(), trivial, rfl⟩ .nil), rdb hW (vs := [(.int .i64 y258.1.X), (.int .i64 y258.1.Y)]) (k := 46) rfl 0⟩) un_82 sz_37 zl_37 (by decide) by_37 rfl hl261 fun Al261 cl261 hAl261 => ?_
      refine Tr.va rfl (fun _ _ h1 h2 => run_fieldAddr fo_84_3 (h1.ev rfl)) ?_
      refine Tr.store 33 (cs := [(.slice Al261 (l261).length cl261)]) [(.int .i64 x216.Kind), (.string x216.Name), (.int .i64 y219.1.X), (.int .i64 y219.1.Y), (.slice Al261 (l261).length cl261), (.int .i64 x216.NX), (.int .i64 x216.NY), (.slice Ay221_0 (y221.1).length cy221_0)] (wn rfl) rfl rfl rfl rfl sz_82 rfl rfl rfl ?_
      refine Tr.nil (Tr.normBlock (Tr.normThen ?_))
      refine Tr.region ?_
      refine Tr.mv rfl rfl ?_
      refine Tr.va rfl (fun _ _ h1 h2 => run_add (h1.ev rfl) (h1.ev rfl)) ?_
      refine Tr.asg rfl rfl ?_
      refine Tr.nil ?_
      exact Tr.backThen leF_etchhouseref3_scaleSteps_L4 (l261, (x251 && y258.2), (w64 (x252 + 1)), Al261, cl261) ⟨H, hAl261⟩ (.cons rfl (.cons rfl (.cons rfl (.cons rfl (.cons rfl (.cons rfl (.cons rfl (.cons rfl .nil)))))))) (.cons rfl (.cons rfl (.cons rfl (.cons rfl .nil))))
    ·refine Tr.exit (Tr.exitThen (Tr.exitThen (Tr.exitBlock (Tr.normThen ?_))))
     refine Tr.region ?_
     refine Tr.mv rfl rfl ?_
     refine Tr.va rfl (fun _ _ h1 h2 => run_loadN (cs := [(.int .i64 x216.Kind), (.string x216.Name), (.int .i64 y219.1.X), (.int .i64 y219.1.Y), (.slice Al250 (l250).length cl250), (.int .i64 x216.NX), (.int .i64 x216.NY), (.slice Ay221_0 (y221.1).length cy221_0)]) ag_84 sz_84 (h1.ev rfl) (CellsAt.take (rdb h2 (vs := [(.int .i64 x216.Kind), (.string x216.Name), (.int .i64 y219.1.X), (.int .i64 y219.1.Y), (.slice Al250 (l250).length cl250), (.int .i64 x216.NX), (.int .i64 x216.NY), (.slice Ay221_0 (y221.1).length cy221_0)]) (k := 33) rfl 0) 8) rfl) ?_
     refine Tr.freeze 44 rfl fun w le263 hz262 => ?_
     replace hp0_0 := hp0_0.leR le263
     replace hcu254 := le263.ext.cells hRu254 hcu254
     replace hRu254 := le263.r _ hRu254
     replace hoku254_0 := hoku254_0.leR le263
     replace hoku254_1 := hoku254_1.leR le263
     replace leB := leB.trans le263
     replace leF_etchhouseref3_scaleSteps_L3 := leF_etchhouseref3_scaleSteps_L3.trans le263
     replace leF_etchhouseref3_scaleSteps_L4 := leF_etchhouseref3_scaleSteps_L4.trans le263
     refine Tr.freeze 35 rfl fun w le265 hz264 => ?_
     replace hp0_0 := hp0_0.leR le265
     replace hz262 := hz262.le le265
     replace hcu254 := le265.ext.cells hRu254 hcu254
     replace hRu254 := le265.r _ hRu254
     replace hoku254_0 := hoku254_0.leR le265
     replace hoku254_1 := hoku254_1.leR le265
     replace leB := leB.trans le265
     replace leF_etchhouseref3_scaleSteps_L3 := leF_etchhouseref3_scaleSteps_L3.trans le265
     replace leF_etchhouseref3_scaleSteps_L4 := leF_etchhouseref3_scaleSteps_L4.trans le265
     refine Tr.buildSlice 47 (e := 84) (vs := [(0, (.agg #[(.int .i64 x216.Kind), (.string x216.Name), (.int .i64 y219.1.X), (.int .i64 y219.1.Y), (.slice Al250 (l250).length cl250), (.int .i64 x216.NX), (.int .i64 x216.NY), (.slice Ay221_0 (y221.1).length cy221_0)]))]) (cs := [(.int .i64 x216.Kind), (.string x216.Name), (.int .i64 y219.1.X), (.int .i64 y219.1.Y), (.slice Al250 (l250).length cl250), (.int .i64 x216.NX), (.int .i64 x216.NY), (.slice Ay221_0 (y221.1).length cy221_0)]) (wn rfl) rfl (evs_cons rfl evs_nil) (by kernel_rfl) fun b266 => ?_
     obtain ⟨l267, hl267, H⟩ := bnd H
     refine Tr.append 2 (t := fl_TPlotStep) (l := l213) (l2 := [(TPlotStep.mk x216.Kind x216.Name y219.1 l250 x216.NX x216.NY y221.1)]) (wn rfl) rfl rfl rfl rfl (fun W hW => ⟨[[(.int .i64 x216.Kind), (.string x216.Name), (.int .i64 y219.1.X), (.int .i64 y219.1.Y), (.slice Al250 (l250).length cl250), (.int .i64 x216.NX), (.int .i64 x216.NY), (.slice Ay221_0 (y221.1).length cy221_0)]], (.cons ⟨((Al250, cl250), (Ay221_0, cy221_0)), (TPlotStep_ok.2 ⟨hz262, hz264⟩), rfl⟩ .nil), rdb hW (vs := [(.int .i64 x216.Kind), (.string x216.Name), (.int .i64 y219.1.X), (.int .i64 y219.1.Y), (.slice Al250 (l250).length cl250), (.int .i64 x216.NX), (.int .i64 x216.NY), (.slice Ay221_0 (y221.1).length cy221_0)]) (k := 47) rfl 0⟩) un_23 sz_84 zl_84 (by decide) by_84 rfl hl267 fun Al267 cl267 hAl267 => ?_
     refine Tr.asg rfl rfl ?_
     refine Tr.nil (Tr.normBlock (Tr.normThen ?_))
     refine Tr.region ?_
     refine Tr.mv rfl rfl ?_
     refine Tr.va rfl (fun _ _ h1 h2 => run_add (h1.ev rfl) (h1.ev rfl)) ?_
     refine Tr.asg rfl rfl ?_
     refine Tr.nil ?_
     exact Tr.backThen leF_etchhouseref3_scaleSteps_L3 (l267, x251, (w64 (x215 + 1)), Al267, cl267) ⟨H, hAl267⟩ (.cons rfl (.cons rfl (.cons rfl (.cons rfl (.cons rfl (.cons rfl .nil)))))) (.cons rfl .nil)
 ·refine Tr.exit (Tr.exitThen (Tr.exitThen (Tr.exitBlock (Tr.normThen ?_))))
  refine Tr.sr ?_
  refine Tr.mv rfl rfl ?_
  refine Tr.mv rfl rfl ?_
  refine Tr.asg rfl rfl ?_
  refine Tr.asg rfl rfl ?_
  refine Tr.nil (Tr.normThen ?_)
  refine Tr.ret ?_
  obtain rfl := Option.some.inj H
  exact Tr.out (m := [(.slice Al213 (l213).length cl213), (.bool x214)]) [] (res_tmp rfl (res_tmp rfl res_nil)) (fun W hW => ⟨w, (Al213, cl213), leB, rfl, hl213, hW.pick (ks := [2]) (by decide) (pk_cons rfl pk_nil)⟩)
theorem F_etchhouseref3_scaleSteps_ok : ∀ (N : Nat) {w : Bs} (p0 : (List TPlotStep)) (Ap0_0 : Option Addr) (cp0_0 : Nat) (hp0_0 : Sl w.R w.W fl_TPlotStep Ap0_0 cp0_0 p0) (p1 : Int) (p2 : Int) (r : ((List TPlotStep) × Bool)) (H : F_etchhouseref3_scaleSteps N p0 p1 p2 = some r) (hE : HF w w.W (LEn [emp])), Calls Tryd.prog 71 [(.slice Ap0_0 (p0).length cp0_0), (.int .i64 p1), (.int .i64 p2)].toArray w.W fun e W' => ∃ (w' : Bs) (u : (Option Addr × Nat)), w.Le w' ∧ e = .returned (.tuple #[(.slice u.1 (r.1).length u.2), (.bool r.2)]) ∧ (SlF u.1 (r.1).length u.2) ∧ HF w' W' (LEn [ow u.1 u.2 84 fl_TPlotStep r.1])
 | 0 => by intros; rename_i H _; cases H
 | N + 1 => F_etchhouseref3_scaleSteps_b_ok N (F_etchhouseref3_scaleSteps N) (F_etchhouseref3_scaleSteps_ok N)

theorem F_etchhouseref3_scaled_ok (N : Nat) {w : Bs} (p0 : TPlot) (Ap0_0 : Option Addr) (cp0_0 : Nat) (hp0_0 : Sl w.R w.W fl_TPlotTool Ap0_0 cp0_0 p0.Tools) (Ap0_1 : Option Addr) (cp0_1 : Nat) (hp0_1 : Sl w.R w.W fl_TPlotStep Ap0_1 cp0_1 p0.Steps) (p1 : Int) (r : (TPlot × Bool)) (H : F_etchhouseref3_scaled N p0 p1 = some r) (hE : HF w w.W (LEn [emp, emp])) : Calls Tryd.prog 37 [(.agg #[(.int .i64 p0.Unit), (.slice Ap0_0 (p0.Tools).length cp0_0), (.slice Ap0_1 (p0.Steps).length cp0_1)]), (.int .i64 p1)].toArray w.W fun e W' => ∃ (w' : Bs) (u : (Option Addr × Nat) × (Option Addr × Nat)), w.Le w' ∧ e = .returned (.tuple #[(.agg #[(.int .i64 r.1.Unit), (.slice u.1.1 (r.1.Tools).length u.1.2), (.slice u.2.1 (r.1.Steps).length u.2.2)]), (.bool r.2)]) ∧ (SlF u.1.1 (r.1.Tools).length u.1.2 ∧ SlF u.2.1 (r.1.Steps).length u.2.2) ∧ HF w' W' (LEn [ow u.1.1 u.1.2 55 fl_TPlotTool r.1.Tools, ow u.2.1 u.2.2 84 fl_TPlotStep r.1.Steps]) := by
 unfold F_etchhouseref3_scaled at H
 have leB := Bs.Le.refl w
 refine Tr.enter (n := 121) Tryd.func37 rfl rfl rfl hE ?_
 refine Tr.sr ?_
 refine Tr.box 1 (cs := [(.int .i64 p0.Unit), (.slice Ap0_0 (p0.Tools).length cp0_0), (.slice Ap0_1 (p0.Steps).length cp0_1)]) (wn rfl) rfl rfl rfl fun b100 => ?_
 refine Tr.alloc 2 (wn rfl) rfl ze_25 fun b101 => ?_
 refine Tr.asg rfl rfl ?_
 refine Tr.nil (Tr.normThen ?_)
 refine Tr.sr ?_
 refine Tr.mv rfl rfl ?_
 refine Tr.build (vs := [(0, (.int .i64 p1))]) (cs := [(.int .i64 p1), (.slice none 0 0), (.slice none 0 0)]) (wn rfl) rfl (evs_cons rfl evs_nil) (by kernel_rfl) ?_
 refine Tr.alloc 3 (wn rfl) rfl ze_25 fun b102 => ?_
 refine Tr.store 3 (cs := [(.int .i64 p1), (.slice none 0 0), (.slice none 0 0)]) [(.int .i64 p1), (.slice none 0 0), (.slice none 0 0)] (wn rfl) rfl rfl rfl rfl sz_25 rfl rfl rfl ?_
 refine Tr.nil (Tr.normThen ?_)
 refine Tr.sr ?_
 refine Tr.asg rfl rfl ?_
 refine Tr.nil (Tr.normThen ?_)
 refine Tr.seq ?_
 refine Tr.sr ?_
 refine Tr.asg rfl rfl ?_
 refine Tr.nil (Tr.normThen ?_)
 refine Tr.block ?_
 refine Tr.nilOwn 46 55 fl_TPlotTool ?_
 refine Tr.loop (σ := (List TPlotTool) × Bool × Int × (Option Addr) × Nat) (fun m w s => F_etchhouseref3_scaled_L3 N p0 p1 m s.1 s.2.1 s.2.2.1 = some r ∧ SlF s.2.2.2.1 (s.1).length s.2.2.2.2) (fun s => [(1, (.int .i64 p1)), (2, (.pointer (some ⟨b100, 0, none⟩))), (4, (.pointer (some ⟨b101, 0, none⟩))), (6, (.pointer (some ⟨b102, 0, none⟩))), (7, (.bool s.2.1)), (8, (.int .i64 s.2.2.1))]) (fun s => [(1, bx b100 #[(.int .i64 p0.Unit), (.slice Ap0_0 (p0.Tools).length cp0_0), (.slice Ap0_1 (p0.Steps).length cp0_1)] 25), (2, bx b101 #[(.int .i64 0), (.slice none 0 0), (.slice none 0 0)] 25), (3, bx b102 #[(.int .i64 p1), (.slice s.2.2.2.1 (s.1).length s.2.2.2.2), (.slice none 0 0)] 25), (46, ow s.2.2.2.1 s.2.2.2.2 55 fl_TPlotTool s.1)]) N (([] : List TPlotTool), true, 0, none, 0) ⟨H, slf_nil⟩ (.cons rfl (.cons rfl (.cons rfl (.cons rfl (.cons rfl (.cons rfl .nil)))))) (.cons rfl (.cons rfl (.cons rfl (.cons rfl .nil)))) (fun _ _ h => noSome (h.1)) ?_
 intro w leF_etchhouseref3_scaled_L3 mF_etchhouseref3_scaled_L3 s hs
 obtain ⟨l222, x223, x224, Al222, cl222⟩ := s
 obtain ⟨H, hl222⟩ := hs
 replace H : F_etchhouseref3_scaled_L3 N p0 p1 (mF_etchhouseref3_scaled_L3 + 1) l222 x223 x224 = some r := H
 replace hp0_0 := hp0_0.leR leF_etchhouseref3_scaled_L3
 replace hp0_1 := hp0_1.leR leF_etchhouseref3_scaled_L3
 replace leB := leB.trans leF_etchhouseref3_scaled_L3
 replace hl222 : SlF Al222 (l222).length cl222 := hl222
 rw [F_etchhouseref3_scaled_L3.eq_2] at H
 show Tr _ _ (LF [(1, (.int .i64 p1)), (2, (.pointer (some ⟨b100, 0, none⟩))), (4, (.pointer (some ⟨b101, 0, none⟩))), (6, (.pointer (some ⟨b102, 0, none⟩))), (7, (.bool x223)), (8, (.int .i64 x224))]) (LE [(1, bx b100 #[(.int .i64 p0.Unit), (.slice Ap0_0 (p0.Tools).length cp0_0), (.slice Ap0_1 (p0.Steps).length cp0_1)] 25), (2, bx b101 #[(.int .i64 0), (.slice none 0 0), (.slice none 0 0)] 25), (3, bx b102 #[(.int .i64 p1), (.slice Al222 (l222).length cl222), (.slice none 0 0)] 25), (46, ow Al222 cl222 55 fl_TPlotTool l222)]) _
 refine Tr.seq ?_
 refine Tr.sr ?_
 refine Tr.mv rfl rfl ?_
 refine Tr.va rfl (fun _ _ h1 h2 => run_fieldAddr fo_25_1 (h1.ev rfl)) ?_
 refine Tr.va rfl (fun _ _ h1 h2 => run_load1 ag_22 (h1.ev rfl) (rdb h2 (vs := [(.int .i64 p0.Unit), (.slice Ap0_0 (p0.Tools).length cp0_0), (.slice Ap0_1 (p0.Steps).length cp0_1)]) (k := 1) rfl 1) rfl) ?_
 refine Tr.va rfl (fun _ _ h1 h2 => run_len un_22 (h1.ev rfl)) ?_
 refine Tr.va rfl (fun _ _ h1 h2 => run_lss (h1.ev rfl) (h1.ev rfl)) ?_
 refine Tr.nil (Tr.normThen ?_)
 refine Tr.cond rfl H (fun H => ?_) (fun H => ?_)
 ·refine Tr.skip (Tr.normThen ?_)
  refine Tr.seq ?_
  refine Tr.block ?_
  refine Tr.sr ?_
  refine Tr.va rfl (fun _ _ h1 h2 => run_fieldAddr fo_25_1 (h1.ev rfl)) ?_
  refine Tr.va rfl (fun _ _ h1 h2 => run_load1 ag_22 (h1.ev rfl) (rdb h2 (vs := [(.int .i64 p0.Unit), (.slice Ap0_0 (p0.Tools).length cp0_0), (.slice Ap0_1 (p0.Steps).length cp0_1)]) (k := 1) rfl 1) rfl) ?_
  refine Tr.mv rfl rfl ?_
  obtain ⟨x225, hx225, H⟩ := bnd H
  obtain ⟨hx2250, hx2251, hx2252⟩ := idx_some hx225
  obtain ⟨u226, hRu226, hoku226, hcu226⟩ := (hp0_0).el hx2252
  obtain ⟨Au226_0, cu226_0⟩ := u226
  have hoku226_0 := hoku226
  replace hoku226_0 : Sl w.R w.W fl_TRect Au226_0 cu226_0 x225.Rects := hoku226_0
  refine Tr.va rfl (fun _ _ h1 h2 => run_indexAddr el_22 (h1.ev rfl) hp0_0.form (h1.ev rfl) hx2250 hx2251) ?_
  refine Tr.va rfl (fun _ _ h1 h2 => run_fieldAddr fo_55_0 (h1.ev rfl)) ?_
  refine Tr.va rfl (fun _ _ h1 h2 => run_load1 ag_9 (h1.ev rfl) (CellsAt.drop (rdR hRu226 hcu226 h2) 0) rfl) ?_
  refine Tr.build (vs := [(0, (.string x225.Name))]) (cs := [(.string x225.Name), (.slice none 0 0)]) (wn rfl) rfl (evs_cons rfl evs_nil) (by kernel_rfl) ?_
  refine Tr.alloc 47 (wn rfl) rfl ze_55 fun b227 => ?_
  refine Tr.store 47 (cs := [(.string x225.Name), (.slice none 0 0)]) [(.string x225.Name), (.slice none 0 0)] (wn rfl) rfl rfl rfl rfl sz_55 rfl rfl rfl ?_
  refine Tr.nil (Tr.normThen ?_)
  refine Tr.seq ?_
  refine Tr.sr ?_
  refine Tr.asg rfl rfl ?_
  refine Tr.nil (Tr.normThen ?_)
  refine Tr.block ?_
  refine Tr.nilOwn 60 57 fl_TRect ?_
  refine Tr.loop (σ := (List TRect) × Bool × Int × (Option Addr) × Nat) (fun m w s => F_etchhouseref3_scaled_L4 p0 p1 l222 x224 (F_etchhouseref3_scaled_L3 N p0 p1 mF_etchhouseref3_scaled_L3) x225 m s.1 s.2.1 s.2.2.1 = some r ∧ SlF s.2.2.2.1 (s.1).length s.2.2.2.2) (fun s => [(1, (.int .i64 p1)), (2, (.pointer (some ⟨b100, 0, none⟩))), (4, (.pointer (some ⟨b101, 0, none⟩))), (6, (.pointer (some ⟨b102, 0, none⟩))), (7, (.bool s.2.1)), (8, (.int .i64 x224)), (9, (.pointer (some ⟨b227, 0, none⟩))), (10, (.int .i64 s.2.2.1))]) (fun s => [(1, bx b100 #[(.int .i64 p0.Unit), (.slice Ap0_0 (p0.Tools).length cp0_0), (.slice Ap0_1 (p0.Steps).length cp0_1)] 25), (2, bx b101 #[(.int .i64 0), (.slice none 0 0), (.slice none 0 0)] 25), (3, bx b102 #[(.int .i64 p1), (.slice Al222 (l222).length cl222), (.slice none 0 0)] 25), (46, ow Al222 cl222 55 fl_TPlotTool l222), (47, bx b227 #[(.string x225.Name), (.slice s.2.2.2.1 (s.1).length s.2.2.2.2)] 55), (60, ow s.2.2.2.1 s.2.2.2.2 57 fl_TRect s.1)]) N (([] : List TRect), x223, 0, none, 0) ⟨H, slf_nil⟩ (.cons rfl (.cons rfl (.cons rfl (.cons rfl (.cons rfl (.cons rfl (.cons rfl (.cons rfl .nil)))))))) (.cons rfl (.cons rfl (.cons rfl (.cons rfl (.cons rfl (.cons rfl .nil)))))) (fun _ _ h => noSome (h.1)) ?_
  intro w leF_etchhouseref3_scaled_L4 mF_etchhouseref3_scaled_L4 s hs
  obtain ⟨l261, x262, x263, Al261, cl261⟩ := s
  obtain ⟨H, hl261⟩ := hs
  replace H : F_etchhouseref3_scaled_L4 p0 p1 l222 x224 (F_etchhouseref3_scaled_L3 N p0 p1 mF_etchhouseref3_scaled_L3) x225 (mF_etchhouseref3_scaled_L4 + 1) l261 x262 x263 = some r := H
  replace hp0_0 := hp0_0.leR leF_etchhouseref3_scaled_L4
  replace hp0_1 := hp0_1.leR leF_etchhouseref3_scaled_L4
  replace leB := leB.trans leF_etchhouseref3_scaled_L4
  replace leF_etchhouseref3_scaled_L3 := leF_etchhouseref3_scaled_L3.trans leF_etchhouseref3_scaled_L4
  replace hl261 : SlF Al261 (l261).length cl261 := hl261
  rw [F_etchhouseref3_scaled_L4.eq_2] at H
  show Tr _ _ (LF [(1, (.int .i64 p1)), (2, (.pointer (some ⟨b100, 0, none⟩))), (4, (.pointer (some ⟨b101, 0, none⟩))), (6, (.pointer (some ⟨b102, 0, none⟩))), (7, (.bool x262)), (8, (.int .i64 x224)), (9, (.pointer (some ⟨b227, 0, none⟩))), (10, (.int .i64 x263))]) (LE [(1, bx b100 #[(.int .i64 p0.Unit), (.slice Ap0_0 (p0.Tools).length cp0_0), (.slice Ap0_1 (p0.Steps).length cp0_1)] 25), (2, bx b101 #[(.int .i64 0), (.slice none 0 0), (.slice none 0 0)] 25), (3, bx b102 #[(.int .i64 p1), (.slice Al222 (l222).length cl222), (.slice none 0 0)] 25), (46, ow Al222 cl222 55 fl_TPlotTool l222), (47, bx b227 #[(.string x225.Name), (.slice Al261 (l261).length cl261)] 55), (60, ow Al261 cl261 57 fl_TRect l261)]) _
  refine Tr.seq ?_
  refine Tr.sr ?_
  refine Tr.mv rfl rfl ?_
  refine Tr.va rfl (fun _ _ h1 h2 => run_fieldAddr fo_25_1 (h1.ev rfl)) ?_
  refine Tr.va rfl (fun _ _ h1 h2 => run_load1 ag_22 (h1.ev rfl) (rdb h2 (vs := [(.int .i64 p0.Unit), (.slice Ap0_0 (p0.Tools).length cp0_0), (.slice Ap0_1 (p0.Steps).length cp0_1)]) (k := 1) rfl 1) rfl) ?_
  refine Tr.mv rfl rfl ?_
  obtain ⟨x264, hx264, H⟩ := bnd H
  obtain ⟨hx2640, hx2641, hx2642⟩ := idx_some hx264
  obtain ⟨u265, hRu265, hoku265, hcu265⟩ := (hp0_0).el hx2642
  obtain ⟨Au265_0, cu265_0⟩ := u265
  have hoku265_0 := hoku265
  replace hoku265_0 : Sl w.R w.W fl_TRect Au265_0 cu265_0 x264.Rects := hoku265_0
  refine Tr.va rfl (fun _ _ h1 h2 => run_indexAddr el_22 (h1.ev rfl) hp0_0.form (h1.ev rfl) hx2640 hx2641) ?_
  refine Tr.va rfl (fun _ _ h1 h2 => run_fieldAddr fo_55_1 (h1.ev rfl)) ?_
  refine Tr.va rfl (fun _ _ h1 h2 => run_load1 ag_53 (h1.ev rfl) (CellsAt.drop (rdR hRu265 hcu265 h2) 1) rfl) ?_
  refine Tr.va rfl (fun _ _ h1 h2 => run_len un_53 (h1.ev rfl)) ?_
  refine Tr.va rfl (fun _ _ h1 h2 => run_lss (h1.ev rfl) (h1.ev rfl)) ?_
  refine Tr.nil (Tr.normThen ?_)
  refine Tr.cond rfl H (fun H => ?_) (fun H => ?_)
  ·refine Tr.skip (Tr.normThen ?_)
   refine Tr.seq ?_
   refine Tr.block ?_
   refine Tr.sr ?_
   refine Tr.va rfl (fun _ _ h1 h2 => run_fieldAddr fo_25_1 (h1.ev rfl)) ?_
   refine Tr.va rfl (fun _ _ h1 h2 => run_load1 ag_22 (h1.ev rfl) (rdb h2 (vs := [(.int .i64 p0.Unit), (.slice Ap0_0 (p0.Tools).length cp0_0), (.slice Ap0_1 (p0.Steps).length cp0_1)]) (k := 1) rfl 1) rfl) ?_
   refine Tr.mv rfl rfl ?_
   obtain ⟨x266, hx266, H⟩ := bnd H
   obtain ⟨hx2660, hx2661, hx2662⟩ := idx_some hx266
   obtain ⟨u267, hRu267, hoku267, hcu267⟩ := (hp0_0).el hx2662
   obtain ⟨Au267_0, cu267_0⟩ := u267
   have hoku267_0 := hoku267
   replace hoku267_0 : Sl w.R w.W fl_TRect Au267_0 cu267_0 x266.Rects := hoku267_0
   refine Tr.va rfl (fun _ _ h1 h2 => run_indexAddr el_22 (h1.ev rfl) hp0_0.form (h1.ev rfl) hx2660 hx2661) ?_
   refine Tr.va rfl (fun _ _ h1 h2 => run_fieldAddr fo_55_1 (h1.ev rfl)) ?_
   refine Tr.va rfl (fun _ _ h1 h2 => run_load1 ag_53 (h1.ev rfl) (CellsAt.drop (rdR hRu267 hcu267 h2) 1) rfl) ?_
   refine Tr.mv rfl rfl ?_
   obtain ⟨x268, hx268, H⟩ := bnd H
   obtain ⟨hx2680, hx2681, hx2682⟩ := idx_some hx268
   refine Tr.va rfl (fun _ _ h1 h2 => run_indexAddr el_53 (h1.ev rfl) hoku267_0.form (h1.ev rfl) hx2680 hx2681) ?_
   refine Tr.va rfl (fun _ _ h1 h2 => run_loadN (cs := [(.int .i64 x268.X0), (.int .i64 x268.Y0), (.int .i64 x268.X1), (.int .i64 x268.Y1)]) ag_57 sz_57 (h1.ev rfl) (CellsAt.take (rdF ef_TRect hoku267_0 hx2682 h2) 4) rfl) ?_
   refine Tr.alloc 61 (wn rfl) rfl ze_57 fun b269 => ?_
   refine Tr.store 61 (cs := [(.int .i64 x268.X0), (.int .i64 x268.Y0), (.int .i64 x268.X1), (.int .i64 x268.Y1)]) [(.int .i64 x268.X0), (.int .i64 x268.Y0), (.int .i64 x268.X1), (.int .i64 x268.Y1)] (wn rfl) rfl rfl rfl rfl sz_57 rfl rfl rfl ?_
   refine Tr.nil (Tr.normThen ?_)
   refine Tr.sr ?_
   refine Tr.va rfl (fun _ _ h1 h2 => run_fieldAddr fo_57_0 (h1.ev rfl)) ?_
   refine Tr.va rfl (fun _ _ h1 h2 => run_load1 ag_3 (h1.ev rfl) (rdb h2 (vs := [(.int .i64 x268.X0), (.int .i64 x268.Y0), (.int .i64 x268.X1), (.int .i64 x268.Y1)]) (k := 61) rfl 0) rfl) ?_
   refine Tr.va rfl (fun _ _ h1 h2 => run_fieldAddr fo_57_1 (h1.ev rfl)) ?_
   refine Tr.va rfl (fun _ _ h1 h2 => run_load1 ag_3 (h1.ev rfl) (rdb h2 (vs := [(.int .i64 x268.X0), (.int .i64 x268.Y0), (.int .i64 x268.X1), (.int .i64 x268.Y1)]) (k := 61) rfl 1) rfl) ?_
   refine Tr.build (vs := [(0, (.int .i64 x268.X0)), (1, (.int .i64 x268.Y0))]) (cs := [(.int .i64 x268.X0), (.int .i64 x268.Y0)]) (wn rfl) rfl (evs_cons rfl (evs_cons rfl evs_nil)) (by kernel_rfl) ?_
   refine Tr.va rfl (fun _ _ h1 h2 => run_fieldAddr fo_25_0 (h1.ev rfl)) ?_
   refine Tr.va rfl (fun _ _ h1 h2 => run_load1 ag_3 (h1.ev rfl) (rdb h2 (vs := [(.int .i64 p0.Unit), (.slice Ap0_0 (p0.Tools).length cp0_0), (.slice Ap0_1 (p0.Steps).length cp0_1)]) (k := 1) rfl 0) rfl) ?_
   refine Tr.mv rfl rfl ?_
   obtain ⟨y270, hy270, H⟩ := bnd H
   refine Tr.call0 (r := (.tuple #[(.agg #[(.int .i64 y270.1.X), (.int .i64 y270.1.Y)]), (.bool y270.2)])) (wn rfl) rfl Tryd.call70 (evl_cons rfl (evl_cons rfl (evl_cons rfl evl_nil))) (fun W hW => F_etchhouseref3_scalePoint_ok (TPoint.mk x268.X0 x268.Y0) p0.Unit p1 y270 hy270 (HF.start _)) ?_
   refine Tr.mv rfl rfl ?_
   refine Tr.va rfl (fun _ _ h1 h2 => run_extract (h1.ev rfl) rfl) ?_
   refine Tr.va rfl (fun _ _ h1 h2 => run_extract (h1.ev rfl) rfl) ?_
   refine Tr.alloc 62 (wn rfl) rfl ze_37 fun b271 => ?_
   refine Tr.store 62 (cs := [(.int .i64 y270.1.X), (.int .i64 y270.1.Y)]) [(.int .i64 y270.1.X), (.int .i64 y270.1.Y)] (wn rfl) rfl rfl rfl rfl sz_37 rfl rfl rfl ?_
   refine Tr.asg rfl rfl ?_
   refine Tr.nil (Tr.normThen ?_)
   refine Tr.sr ?_
   refine Tr.va rfl (fun _ _ h1 h2 => run_fieldAddr fo_57_2 (h1.ev rfl)) ?_
   refine Tr.va rfl (fun _ _ h1 h2 => run_load1 ag_3 (h1.ev rfl) (rdb h2 (vs := [(.int .i64 x268.X0), (.int .i64 x268.Y0), (.int .i64 x268.X1), (.int .i64 x268.Y1)]) (k := 61) rfl 2) rfl) ?_
   refine Tr.va rfl (fun _ _ h1 h2 => run_fieldAddr fo_57_3 (h1.ev rfl)) ?_
   refine Tr.va rfl (fun _ _ h1 h2 => run_load1 ag_3 (h1.ev rfl) (rdb h2 (vs := [(.int .i64 x268.X0), (.int .i64 x268.Y0), (.int .i64 x268.X1), (.int .i64 x268.Y1)]) (k := 61) rfl 3) rfl) ?_
   refine Tr.build (vs := [(0, (.int .i64 x268.X1)), (1, (.int .i64 x268.Y1))]) (cs := [(.int .i64 x268.X1), (.int .i64 x268.Y1)]) (wn rfl) rfl (evs_cons rfl (evs_cons rfl evs_nil)) (by kernel_rfl) ?_
   refine Tr.va rfl (fun _ _ h1 h2 => run_fieldAddr fo_25_0 (h1.ev rfl)) ?_
   refine Tr.va rfl (fun _ _ h1 h2 => run_load1 ag_3 (h1.ev rfl) (rdb h2 (vs := [(.int .i64 p0.Unit), (.slice Ap0_0 (p0.Tools).length cp0_0), (.slice Ap0_1 (p0.Steps).length cp0_1)]) (k := 1) rfl 0) rfl) ?_
   refine Tr.mv rfl rfl ?_
   obtain ⟨y272, hy272, H⟩ := bnd H
   refine Tr.call0 (r := (.tuple #[(.agg #[(.int .i64 y272.1.X), (.int .i64 y272.1.Y)]), (.bool y272.2)])) (wn rfl) rfl Tryd.call70 (evl_cons rfl (evl_cons rfl (evl_cons rfl evl_nil))) (fun W hW => F_etchhouseref3_scalePoint_ok (TPoint.mk x268.X1 x268.Y1) p0.Unit p1 y272 hy272 (HF.start _)) ?_
   refine Tr.mv rfl rfl ?_
   refine Tr.va rfl (fun _ _ h1 h2 => run_extract (h1.ev rfl) rfl) ?_
   refine Tr.va rfl (fun _ _ h1 h2 => run_extract (h1.ev rfl) rfl) ?_
   refine Tr.alloc 63 (wn rfl) rfl ze_37 fun b273 => ?_
   refine Tr.store 63 (cs := [(.int .i64 y272.1.X), (.int .i64 y272.1.Y)]) [(.int .i64 y272.1.X), (.int .i64 y272.1.Y)] (wn rfl) rfl rfl rfl rfl sz_37 rfl rfl rfl ?_
   refine Tr.asg rfl rfl ?_
   refine Tr.nil (Tr.normThen ?_)
   refine Tr.sr ?_
   refine Tr.mv rfl rfl ?_
   refine Tr.mv rfl rfl ?_
   refine Tr.mid0 2 [(1, (.int .i64 p1)), (2, (.pointer (some ⟨b100, 0, none⟩))), (4, (.pointer (some ⟨b101, 0, none⟩))), (6, (.pointer (some ⟨b102, 0, none⟩))), (8, (.int .i64 x224)), (9, (.pointer (some ⟨b227, 0, none⟩))), (10, (.int .i64 x263)), (12, (.pointer (some ⟨b271, 0, none⟩))), (14, (.pointer (some ⟨b273, 0, none⟩))), (15, (.bool y272.2)), (81, (.bool (x262 && y270.2)))] [(1, bx b100 #[(.int .i64 p0.Unit), (.slice Ap0_0 (p0.Tools).length cp0_0), (.slice Ap0_1 (p0.Steps).length cp0_1)] 25), (2, bx b101 #[(.int .i64 0), (.slice none 0 0), (.slice none 0 0)] 25), (3, bx b102 #[(.int .i64 p1), (.slice Al222 (l222).length cl222), (.slice none 0 0)] 25), (46, ow Al222 cl222 55 fl_TPlotTool l222), (47, bx b227 #[(.string x225.Name), (.slice Al261 (l261).length cl261)] 55), (60, ow Al261 cl261 57 fl_TRect l261), (61, bx b269 #[(.int .i64 x268.X0), (.int .i64 x268.Y0), (.int .i64 x268.X1), (.int .i64 x268.Y1)] 57), (62, bx b271 #[(.int .i64 y270.1.X), (.int .i64 y270.1.Y)] 37), (63, bx b273 #[(.int .i64 y272.1.X), (.int .i64 y272.1.Y)] 37)] ?_ ?_
   ·cases hg275 : x262
    ·refine Tr.pass rfl rfl rfl rfl rfl (by decide) ?_
     refine Tr.va rfl (fun _ _ h1 h2 => run_pickF (h1.ev rfl) (h1.ev rfl)) ?_
     exact Tr.nil (Tr.fin0 (.cons rfl (.cons rfl (.cons rfl (.cons rfl (.cons rfl (.cons rfl (.cons rfl (.cons rfl (.cons rfl (.cons rfl (.cons rfl .nil))))))))))) (.cons rfl (.cons rfl (.cons rfl (.cons rfl (.cons rfl (.cons rfl (.cons rfl (.cons rfl (.cons rfl .nil))))))))))
    ·refine Tr.val (wg rfl rfl rfl) rfl (fun _ _ h1 h2 => run_move (h1.ev rfl)) ?_
     refine Tr.va rfl (fun _ _ h1 h2 => run_pickT (h1.ev rfl) (h1.ev rfl)) ?_
     exact Tr.nil (Tr.fin0 (.cons rfl (.cons rfl (.cons rfl (.cons rfl (.cons rfl (.cons rfl (.cons rfl (.cons rfl (.cons rfl (.cons rfl (.cons rfl .nil))))))))))) (.cons rfl (.cons rfl (.cons rfl (.cons rfl (.cons rfl (.cons rfl (.cons rfl (.cons rfl (.cons rfl .nil))))))))))
   ·show Tr _ _ (LF [(1, (.int .i64 p1)), (2, (.pointer (some ⟨b100, 0, none⟩))), (4, (.pointer (some ⟨b101, 0, none⟩))), (6, (.pointer (some ⟨b102, 0, none⟩))), (8, (.int .i64 x224)), (9, (.pointer (some ⟨b227, 0, none⟩))), (10, (.int .i64 x263)), (12, (.pointer (some ⟨b271, 0, none⟩))), (14, (.pointer (some ⟨b273, 0, none⟩))), (15, (.bool y272.2)), (81, (.bool (x262 && y270.2)))]) (LE [(1, bx b100 #[(.int .i64 p0.Unit), (.slice Ap0_0 (p0.Tools).length cp0_0), (.slice Ap0_1 (p0.Steps).length cp0_1)] 25), (2, bx b101 #[(.int .i64 0), (.slice none 0 0), (.slice none 0 0)] 25), (3, bx b102 #[(.int .i64 p1), (.slice Al222 (l222).length cl222), (.slice none 0 0)] 25), (46, ow Al222 cl222 55 fl_TPlotTool l222), (47, bx b227 #[(.string x225.Name), (.slice Al261 (l261).length cl261)] 55), (60, ow Al261 cl261 57 fl_TRect l261), (61, bx b269 #[(.int .i64 x268.X0), (.int .i64 x268.Y0), (.int .i64 x268.X1), (.int .i64 x268.Y1)] 57), (62, bx b271 #[(.int .i64 y270.1.X), (.int .i64 y270.1.Y)] 37), (63, bx b273 #[(.int .i64 y272.1.X), (.int .i64 y272.1.Y)] 37)]) _
    refine Tr.mv rfl rfl ?_
    refine Tr.mid0 2 [(1, (.int .i64 p1)), (2, (.pointer (some ⟨b100, 0, none⟩))), (4, (.pointer (some ⟨b101, 0, none⟩))), (6, (.pointer (some ⟨b102, 0, none⟩))), (8, (.int .i64 x224)), (9, (.pointer (some ⟨b227, 0, none⟩))), (10, (.int .i64 x263)), (12, (.pointer (some ⟨b271, 0, none⟩))), (14, (.pointer (some ⟨b273, 0, none⟩))), (84, (.bool ((x262 && y270.2) && y272.2)))] [(1, bx b100 #[(.int .i64 p0.Unit), (.slice Ap0_0 (p0.Tools).length cp0_0), (.slice Ap0_1 (p0.Steps).length cp0_1)] 25), (2, bx b101 #[(.int .i64 0), (.slice none 0 0), (.slice none 0 0)] 25), (3, bx b102 #[(.int .i64 p1), (.slice Al222 (l222).length cl222), (.slice none 0 0)] 25), (46, ow Al222 cl222 55 fl_TPlotTool l222), (47, bx b227 #[(.string x225.Name), (.slice Al261 (l261).length cl261)] 55), (60, ow Al261 cl261 57 fl_TRect l261), (61, bx b269 #[(.int .i64 x268.X0), (.int .i64 x268.Y0), (.int .i64 x268.X1), (.int .i64 x268.Y1)] 57), (62, bx b271 #[(.int .i64 y270.1.X), (.int .i64 y270.1.Y)] 37), (63, bx b273 #[(.int .i64 y272.1.X), (.int .i64 y272.1.Y)] 37)] ?_ ?_
    ·cases hg275 : (x262 && y270.2)
     ·refine Tr.pass rfl rfl rfl rfl rfl (by decide) ?_
      refine Tr.va rfl (fun _ _ h1 h2 => run_pickF (h1.ev rfl) (h1.ev rfl)) ?_
      exact Tr.nil (Tr.fin0 (.cons rfl (.cons rfl (.cons rfl (.cons rfl (.cons rfl (.cons rfl (.cons rfl (.cons rfl (.cons rfl (.cons rfl .nil)))))))))) (.cons rfl (.cons rfl (.cons rfl (.cons rfl (.cons rfl (.cons rfl (.cons rfl (.cons rfl (.cons rfl .nil))))))))))
     ·refine Tr.val (wg rfl rfl rfl) rfl (fun _ _ h1 h2 => run_move (h1.ev rfl)) ?_
      refine Tr.va rfl (fun _ _ h1 h2 => run_pickT (h1.ev rfl) (h1.ev rfl)) ?_
      exact Tr.nil (Tr.fin0 (.cons rfl (.cons rfl (.cons rfl (.cons rfl (.cons rfl (.cons rfl (.cons rfl (.cons rfl (.cons rfl (.cons rfl .nil)))))))))) (.cons rfl (.cons rfl (.cons rfl (.cons rfl (.cons rfl (.cons rfl (.cons rfl (.cons rfl (.cons rfl .nil))))))))))
    ·show Tr _ _ (LF [(1, (.int .i64 p1)), (2, (.pointer (some ⟨b100, 0, none⟩))), (4, (.pointer (some ⟨b101, 0, none⟩))), (6, (.pointer (some ⟨b102, 0, none⟩))), (8, (.int .i64 x224)), (9, (.pointer (some ⟨b227, 0, none⟩))), (10, (.int .i64 x263)), (12, (.pointer (some ⟨b271, 0, none⟩))), (14, (.pointer (some ⟨b273, 0, none⟩))), (84, (.bool ((x262 && y270.2) && y272.2)))]) (LE [(1, bx b100 #[(.int .i64 p0.Unit), (.slice Ap0_0 (p0.Tools).length cp0_0), (.slice Ap0_1 (p0.Steps).length cp0_1)] 25), (2, bx b101 #[(.int .i64 0), (.slice none 0 0), (.slice none 0 0)] 25), (3, bx b102 #[(.int .i64 p1), (.slice Al222 (l222).length cl222), (.slice none 0 0)] 25), (46, ow Al222 cl222 55 fl_TPlotTool l222), (47, bx b227 #[(.string x225.Name), (.slice Al261 (l261).length cl261)] 55), (60, ow Al261 cl261 57 fl_TRect l261), (61, bx b269 #[(.int .i64 x268.X0), (.int .i64 x268.Y0), (.int .i64 x268.X1), (.int .i64 x268.Y1)] 57), (62, bx b271 #[(.int .i64 y270.1.X), (.int .i64 y270.1.Y)] 37), (63, bx b273 #[(.int .i64 y272.1.X), (.int .i64 y272.1.Y)] 37)]) _
     refine Tr.asg rfl rfl ?_
     refine Tr.nil (Tr.normThen ?_)
     refine Tr.region ?_
     refine Tr.va rfl (fun _ _ h1 h2 => run_fieldAddr fo_55_1 (h1.ev rfl)) ?_
     refine Tr.va rfl (fun _ _ h1 h2 => run_load1 ag_53 (h1.ev rfl) (rdb h2 (vs := [(.string x225.Name), (.slice Al261 (l261).length cl261)]) (k := 47) rfl 1) rfl) ?_
     refine Tr.va rfl (fun _ _ h1 h2 => run_fieldAddr fo_37_0 (h1.ev rfl)) ?_
     refine Tr.va rfl (fun _ _ h1 h2 => run_load1 ag_3 (h1.ev rfl) (rdb h2 (vs := [(.int .i64 y270.1.X), (.int .i64 y270.1.Y)]) (k := 62) rfl 0) rfl) ?_
     refine Tr.va rfl (fun _ _ h1 h2 => run_fieldAddr fo_37_1 (h1.ev rfl)) ?_
     refine Tr.va rfl (fun _ _ h1 h2 => run_load1 ag_3 (h1.ev rfl) (rdb h2 (vs := [(.int .i64 y270.1.X), (.int .i64 y270.1.Y)]) (k := 62) rfl 1) rfl) ?_
     refine Tr.va rfl (fun _ _ h1 h2 => run_fieldAddr fo_37_0 (h1.ev rfl)) ?_
     refine Tr.va rfl (fun _ _ h1 h2 => run_load1 ag_3 (h1.ev rfl) (rdb h2 (vs := [(.int .i64 y272.1.X), (.int .i64 y272.1.Y)]) (k := 63) rfl 0) rfl) ?_
     refine Tr.va rfl (fun _ _ h1 h2 => run_fieldAddr fo_37_1 (h1.ev rfl)) ?_
     refine Tr.va rfl (fun _ _ h1 h2 => run_load1 ag_3 (h1.ev rfl) (rdb h2 (vs := [(.int .i64 y272.1.X), (.int .i64 y272.1.Y)]) (k := 63) rfl 1) rfl) ?_
     refine Tr.build (vs := [(0, (.int .i64 y270.1.X)), (1, (.int .i64 y270.1.Y)), (2, (.int .i64 y272.1.X)), (3, (.int .i64 y272.1.Y))]) (cs := [(.int .i64 y270.1.X), (.int .i64 y270.1.Y), (.int .i64 y272.1.X), (.int .i64 y272.1.Y)]) (wn rfl) rfl (evs_cons rfl (evs_cons rfl (evs_cons rfl (evs_cons rfl evs_nil)))) (by kernel_rfl) ?_
     refine Tr.buildSlice 64 (e := 57) (vs := [(0, (.agg #[(.int .i64 y270.1.X), (.int .i64 y270.1.Y), (.int .i64 y272.1.X), (.int .i64 y272.1.Y)]))]) (cs := [(.int .i64 y270.1.X), (.int .i64 y270.1.Y), (.int .i64 y272.1.X), (.int .i64 y272.1.Y)]) (wn rfl) rfl (evs_cons rfl evs_nil) (by kernel_rfl) fun b274 => ?_
     obtain ⟨l275, hl275, H⟩ := bnd H
     refine Tr.append 60 (t := fl_TRect) (l := l261) (l2 := [(TRect.mk y270.1.X y270.1.Y y272.1.X y272.1.Y)]) (wn rfl) rfl rfl rfl rfl (fun W hW => ⟨[[(.int .i64 y270.1.X), (.int .i64 y270.1.Y), (.int .i64 y272.1.X), (.int .i64 y272.1.Y)]], (.cons ⟨(), trivial, rfl⟩ .nil), rdb hW (vs := [(.int .i64 y270.1.X), (.int .i64 y270.1.Y), (.int .i64 y272.1.X), (.int .i64 y272.1.Y)]) (k := 64) rfl 0⟩) un_53 sz_57 zl_57 (by decide) by_57 rfl hl275 fun Al275 cl275 hAl275 => ?_
     refine Tr.va rfl (fun _ _ h1 h2 => run_fieldAddr fo_55_1 (h1.ev rfl)) ?_
     refine Tr.store 47 (cs := [(.slice Al275 (l275).length cl275)]) [(.string x225.Name), (.slice Al275 (l275).length cl275)] (wn rfl) rfl rfl rfl rfl sz_53 rfl rfl rfl ?_
     refine Tr.nil (Tr.normBlock (Tr.normThen ?_))
     refine Tr.region ?_
     refine Tr.mv rfl rfl ?_
     refine Tr.va rfl (fun _ _ h1 h2 => run_add (h1.ev rfl) (h1.ev rfl)) ?_
     refine Tr.asg rfl rfl ?_
     refine Tr.nil ?_
     exact Tr.backThen leF_etchhouseref3_scaled_L4 (l275, ((x262 && y270.2) && y272.2), (w64 (x263 + 1)), Al275, cl275) ⟨H, hAl275⟩ (.cons rfl (.cons rfl (.cons rfl (.cons rfl (.cons rfl (.cons rfl (.cons rfl (.cons rfl .nil)))))))) (.cons rfl (.cons rfl (.cons rfl (.cons rfl (.cons rfl (.cons rfl .nil))))))
  ·refine Tr.exit (Tr.exitThen (Tr.exitThen (Tr.exitBlock (Tr.normThen ?_))))
   refine Tr.region ?_
   refine Tr.va rfl (fun _ _ h1 h2 => run_fieldAddr fo_25_1 (h1.ev rfl)) ?_
   refine Tr.va rfl (fun _ _ h1 h2 => run_load1 ag_22 (h1.ev rfl) (rdb h2 (vs := [(.int .i64 p1), (.slice Al222 (l222).length cl222), (.slice none 0 0)]) (k := 3) rfl 1) rfl) ?_
   refine Tr.va rfl (fun _ _ h1 h2 => run_loadN (cs := [(.string x225.Name), (.slice Al261 (l261).length cl261)]) ag_55 sz_55 (h1.ev rfl) (CellsAt.take (rdb h2 (vs := [(.string x225.Name), (.slice Al261 (l261).length cl261)]) (k := 47) rfl 0) 2) rfl) ?_
   refine Tr.freeze 60 rfl fun w le277 hz276 => ?_
   replace hp0_0 := hp0_0.leR le277
   replace hp0_1 := hp0_1.leR le277
   replace hcu265 := le277.ext.cells hRu265 hcu265
   replace hRu265 := le277.r _ hRu265
   replace hoku265_0 := hoku265_0.leR le277
   replace leB := leB.trans le277
   replace leF_etchhouseref3_scaled_L3 := leF_etchhouseref3_scaled_L3.trans le277
   replace leF_etchhouseref3_scaled_L4 := leF_etchhouseref3_scaled_L4.trans le277
   refine Tr.buildSlice 65 (e := 55) (vs := [(0, (.agg #[(.string x225.Name), (.slice Al261 (l261).length cl261)]))]) (cs := [(.string x225.Name), (.slice Al261 (l261).length cl261)]) (wn rfl) rfl (evs_cons rfl evs_nil) (by kernel_rfl) fun b278 => ?_
   obtain ⟨l279, hl279, H⟩ := bnd H
   refine Tr.append 46 (t := fl_TPlotTool) (l := l222) (l2 := [(TPlotTool.mk x225.Name l261)]) (wn rfl) rfl rfl rfl rfl (fun W hW => ⟨[[(.string x225.Name), (.slice Al261 (l261).length cl261)]], (.cons ⟨(Al261, cl261), hz276, rfl⟩ .nil), rdb hW (vs := [(.string x225.Name), (.slice Al261 (l261).length cl261)]) (k := 65) rfl 0⟩) un_22 sz_55 zl_55 (by decide) by_55 rfl hl279 fun Al279 cl279 hAl279 => ?_
   refine Tr.va rfl (fun _ _ h1 h2 => run_fieldAddr fo_25_1 (h1.ev rfl)) ?_
   refine Tr.store 3 (cs := [(.slice Al279 (l279).length cl279)]) [(.int .i64 p1), (.slice Al279 (l279).length cl279), (.slice none 0 0)] (wn rfl) rfl rfl rfl rfl sz_22 rfl rfl rfl ?_
   refine Tr.nil (Tr.normBlock (Tr.normThen ?_))
   refine Tr.region ?_
   refine Tr.mv rfl rfl ?_
   refine Tr.va rfl (fun _ _ h1 h2 => run_add (h1.ev rfl) (h1.ev rfl)) ?_
   refine Tr.asg rfl rfl ?_
   refine Tr.nil ?_
   exact Tr.backThen leF_etchhouseref3_scaled_L3 (l279, x262, (w64 (x224 + 1)), Al279, cl279) ⟨H, hAl279⟩ (.cons rfl (.cons rfl (.cons rfl (.cons rfl (.cons rfl (.cons rfl .nil)))))) (.cons rfl (.cons rfl (.cons rfl (.cons rfl .nil))))
 ·refine Tr.exit (Tr.exitThen (Tr.exitThen (Tr.exitBlock (Tr.normThen ?_))))
  refine Tr.sr ?_
  refine Tr.va rfl (fun _ _ h1 h2 => run_fieldAddr fo_25_2 (h1.ev rfl)) ?_
  refine Tr.va rfl (fun _ _ h1 h2 => run_load1 ag_23 (h1.ev rfl) (rdb h2 (vs := [(.int .i64 p0.Unit), (.slice Ap0_0 (p0.Tools).length cp0_0), (.slice Ap0_1 (p0.Steps).length cp0_1)]) (k := 1) rfl 2) rfl) ?_
  refine Tr.va rfl (fun _ _ h1 h2 => run_fieldAddr fo_25_0 (h1.ev rfl)) ?_
  refine Tr.va rfl (fun _ _ h1 h2 => run_load1 ag_3 (h1.ev rfl) (rdb h2 (vs := [(.int .i64 p0.Unit), (.slice Ap0_0 (p0.Tools).length cp0_0), (.slice Ap0_1 (p0.Steps).length cp0_1)]) (k := 1) rfl 0) rfl) ?_
  refine Tr.mv rfl rfl ?_
  obtain ⟨y280, hy280, H⟩ := bnd H
  refine Tr.callG [66] [emp] (U := (Option Addr × Nat)) (fun u => (.tuple #[(.slice u.1 (y280.1).length u.2), (.bool y280.2)])) (fun O W u => SlF u.1 (y280.1).length u.2) (fun u => [ow u.1 u.2 84 fl_TPlotStep y280.1]) rfl (pk_cons rfl pk_nil) (fun _ => rfl) (wn rfl) rfl Tryd.call71 (evl_cons rfl (evl_cons rfl (evl_cons rfl evl_nil))) (fun W hW hp hE => F_etchhouseref3_scaleSteps_ok N p0.Steps Ap0_1 cp0_1 (hp0_1.ext (hW.extS hp)) p0.Unit p1 y280 hy280 hE) ?_
  intro w u le281 hu
  obtain ⟨Ay280_0, cy280_0⟩ := u
  have gy280_0 := hu
  replace hp0_0 := hp0_0.leR le281
  replace hp0_1 := hp0_1.leR le281
  replace leB := leB.trans le281
  replace leF_etchhouseref3_scaled_L3 := leF_etchhouseref3_scaled_L3.trans le281
  have hgy280_0 : SlF Ay280_0 (y280.1).length cy280_0 := gy280_0 --@phi
  show Tr _ _ (uf _ 111 (.tuple #[(.slice Ay280_0 (y280.1).length cy280_0), (.bool y280.2)])) (up _ 66 (ow Ay280_0 cy280_0 84 fl_TPlotStep y280.1)) _
  refine Tr.mv rfl rfl ?_
  refine Tr.va rfl (fun _ _ h1 h2 => run_extract (h1.ev rfl) rfl) ?_
  refine Tr.va rfl (fun _ _ h1 h2 => run_extract (h1.ev rfl) rfl) ?_
  refine Tr.asg rfl rfl ?_
  refine Tr.asg rfl rfl ?_
  refine Tr.nil (Tr.normThen ?_)
  refine Tr.sr ?_
  refine Tr.mv rfl rfl ?_
  refine Tr.va rfl (fun _ _ h1 h2 => run_fieldAddr fo_25_2 (h1.ev rfl)) ?_
  refine Tr.store 3 (cs := [(.slice Ay280_0 (y280.1).length cy280_0)]) [(.int .i64 p1), (.slice Al222 (l222).length cl222), (.slice Ay280_0 (y280.1).length cy280_0)] (wn rfl) rfl rfl rfl rfl sz_23 rfl rfl rfl ?_
  refine Tr.nil (Tr.normThen ?_)
  refine Tr.sr ?_
  refine Tr.va rfl (fun _ _ h1 h2 => run_loadN (cs := [(.int .i64 p1), (.slice Al222 (l222).length cl222), (.slice Ay280_0 (y280.1).length cy280_0)]) ag_25 sz_25 (h1.ev rfl) (CellsAt.take (rdb h2 (vs := [(.int .i64 p1), (.slice Al222 (l222).length cl222), (.slice Ay280_0 (y280.1).length cy280_0)]) (k := 3) rfl 0) 3) rfl) ?_
  refine Tr.mv rfl rfl ?_
  refine Tr.mv rfl rfl ?_
  refine Tr.mid0 2 [(4, (.pointer (some ⟨b101, 0, none⟩))), (116, (.agg #[(.int .i64 p1), (.slice Al222 (l222).length cl222), (.slice Ay280_0 (y280.1).length cy280_0)])), (120, (.bool (x223 && y280.2)))] [(1, bx b100 #[(.int .i64 p0.Unit), (.slice Ap0_0 (p0.Tools).length cp0_0), (.slice Ap0_1 (p0.Steps).length cp0_1)] 25), (2, bx b101 #[(.int .i64 0), (.slice none 0 0), (.slice none 0 0)] 25), (3, bx b102 #[(.int .i64 p1), (.slice Al222 (l222).length cl222), (.slice Ay280_0 (y280.1).length cy280_0)] 25), (46, ow Al222 cl222 55 fl_TPlotTool l222), (66, ow Ay280_0 cy280_0 84 fl_TPlotStep y280.1)] ?_ ?_
  ·cases hg281 : x223
   ·refine Tr.pass rfl rfl rfl rfl rfl (by decide) ?_
    refine Tr.va rfl (fun _ _ h1 h2 => run_pickF (h1.ev rfl) (h1.ev rfl)) ?_
    exact Tr.nil (Tr.fin0 (.cons rfl (.cons rfl (.cons rfl .nil))) (.cons rfl (.cons rfl (.cons rfl (.cons rfl (.cons rfl .nil))))))
   ·refine Tr.val (wg rfl rfl rfl) rfl (fun _ _ h1 h2 => run_move (h1.ev rfl)) ?_
    refine Tr.va rfl (fun _ _ h1 h2 => run_pickT (h1.ev rfl) (h1.ev rfl)) ?_
    exact Tr.nil (Tr.fin0 (.cons rfl (.cons rfl (.cons rfl .nil))) (.cons rfl (.cons rfl (.cons rfl (.cons rfl (.cons rfl .nil))))))
  ·show Tr _ _ (LF [(4, (.pointer (some ⟨b101, 0, none⟩))), (116, (.agg #[(.int .i64 p1), (.slice Al222 (l222).length cl222), (.slice Ay280_0 (y280.1).length cy280_0)])), (120, (.bool (x223 && y280.2)))]) (LE [(1, bx b100 #[(.int .i64 p0.Unit), (.slice Ap0_0 (p0.Tools).length cp0_0), (.slice Ap0_1 (p0.Steps).length cp0_1)] 25), (2, bx b101 #[(.int .i64 0), (.slice none 0 0), (.slice none 0 0)] 25), (3, bx b102 #[(.int .i64 p1), (.slice Al222 (l222).length cl222), (.slice Ay280_0 (y280.1).length cy280_0)] 25), (46, ow Al222 cl222 55 fl_TPlotTool l222), (66, ow Ay280_0 cy280_0 84 fl_TPlotStep y280.1)]) _
   refine Tr.store 2 (cs := [(.int .i64 p1), (.slice Al222 (l222).length cl222), (.slice Ay280_0 (y280.1).length cy280_0)]) [(.int .i64 p1), (.slice Al222 (l222).length cl222), (.slice Ay280_0 (y280.1).length cy280_0)] (wn rfl) rfl rfl rfl rfl sz_25 rfl rfl rfl ?_
   refine Tr.asg rfl rfl ?_
   refine Tr.nil (Tr.normThen ?_)
   refine Tr.ret ?_
   obtain rfl := Option.some.inj H
   exact Tr.out (m := [(.agg #[(.int .i64 p1), (.slice Al222 (l222).length cl222), (.slice Ay280_0 (y280.1).length cy280_0)]), (.bool (x223 && y280.2))]) [2] (res_cell rfl rfl ag_25 sz_25 (res_tmp rfl res_nil)) (fun W hW => ⟨w, ((Al222, cl222), (Ay280_0, cy280_0)), leB, rfl, ⟨hl222, hgy280_0⟩, hW.pick (ks := [46, 66]) (by decide) (pk_cons rfl (pk_cons rfl pk_nil))⟩)

theorem F_etchhouseref3_Scaled_ok (N : Nat) {w : Bs} (p0 : TPlot) (Ap0_0 : Option Addr) (cp0_0 : Nat) (hp0_0 : Sl w.R w.W fl_TPlotTool Ap0_0 cp0_0 p0.Tools) (Ap0_1 : Option Addr) (cp0_1 : Nat) (hp0_1 : Sl w.R w.W fl_TPlotStep Ap0_1 cp0_1 p0.Steps) (p1 : Int) (r : (TPlot × Bool × Int)) (H : F_etchhouseref3_Scaled N p0 p1 = some r) (hE : HF w w.W (LEn [emp, emp])) : Calls Tryd.prog 12 [(.agg #[(.int .i64 p0.Unit), (.slice Ap0_0 (p0.Tools).length cp0_0), (.slice Ap0_1 (p0.Steps).length cp0_1)]), (.int .i64 p1)].toArray w.W fun e W' => ∃ (w' : Bs) (u : (Option Addr × Nat) × (Option Addr × Nat)), w.Le w' ∧ e = .returned (.tuple #[(.agg #[(.int .i64 r.1.Unit), (.slice u.1.1 (r.1.Tools).length u.1.2), (.slice u.2.1 (r.1.Steps).length u.2.2)]), (.bool r.2.1), (.int .i64 r.2.2)]) ∧ (SlF u.1.1 (r.1.Tools).length u.1.2 ∧ SlF u.2.1 (r.1.Steps).length u.2.2) ∧ HF w' W' (LEn [ow u.1.1 u.1.2 55 fl_TPlotTool r.1.Tools, ow u.2.1 u.2.2 84 fl_TPlotStep r.1.Steps]) := by
 unfold F_etchhouseref3_Scaled at H
 have leB := Bs.Le.refl w
 refine Tr.enter (n := 37) Tryd.func12 rfl rfl rfl hE ?_
 refine Tr.sr ?_
 refine Tr.box 1 (cs := [(.int .i64 p0.Unit), (.slice Ap0_0 (p0.Tools).length cp0_0), (.slice Ap0_1 (p0.Steps).length cp0_1)]) (wn rfl) rfl rfl rfl fun b100 => ?_
 refine Tr.alloc 2 (wn rfl) rfl ze_25 fun b101 => ?_
 refine Tr.asg rfl rfl ?_
 refine Tr.asg rfl rfl ?_
 refine Tr.nil (Tr.normThen ?_)
 refine Tr.seq ?_
 refine Tr.sr ?_
 refine Tr.va rfl (fun _ _ h1 h2 => run_loadN (cs := [(.int .i64 p0.Unit), (.slice Ap0_0 (p0.Tools).length cp0_0), (.slice Ap0_1 (p0.Steps).length cp0_1)]) ag_25 sz_25 (h1.ev rfl) (CellsAt.take (rdb h2 (vs := [(.int .i64 p0.Unit), (.slice Ap0_0 (p0.Tools).length cp0_0), (.slice Ap0_1 (p0.Steps).length cp0_1)]) (k := 1) rfl 0) 3) rfl) ?_
 obtain ⟨y102, hy102, H⟩ := bnd H
 refine Tr.call0 (r := (.int .i64 y102)) (wn rfl) rfl Tryd.call9 (evl_cons rfl evl_nil) (fun W hW => F_etchhouseref3_CheckPlot_ok N p0 Ap0_0 cp0_0 (hp0_0.ext hW.extAll) Ap0_1 cp0_1 (hp0_1.ext hW.extAll) y102 hy102 (HF.start _)) ?_
 refine Tr.asg rfl rfl ?_
 refine Tr.nil (Tr.normThen ?_)
 refine Tr.sr ?_
 refine Tr.mv rfl rfl ?_
 refine Tr.va rfl (fun _ _ h1 h2 => run_neq (h1.ev rfl) (h1.ev rfl)) ?_
 refine Tr.nil (Tr.normThen ?_)
 refine Tr.cond rfl H (fun H => ?_) (fun H => ?_)
 ·refine Tr.sr ?_
  refine Tr.build (vs := []) (cs := [(.int .i64 0), (.slice none 0 0), (.slice none 0 0)]) (wn rfl) rfl evs_nil (by kernel_rfl) ?_
  refine Tr.mv rfl rfl ?_
  refine Tr.store 2 (cs := [(.int .i64 0), (.slice none 0 0), (.slice none 0 0)]) [(.int .i64 0), (.slice none 0 0), (.slice none 0 0)] (wn rfl) rfl rfl rfl rfl sz_25 rfl rfl rfl ?_
  refine Tr.asg rfl rfl ?_
  refine Tr.asg rfl rfl ?_
  refine Tr.nil (Tr.normThen ?_)
  refine Tr.ret (Tr.retThen ?_)
  obtain rfl := Option.some.inj H
  refine Tr.nilOwn 3 55 fl_TPlotTool ?_
  refine Tr.nilOwn 4 84 fl_TPlotStep ?_
  exact Tr.out (m := [(.agg #[(.int .i64 0), (.slice none 0 0), (.slice none 0 0)]), (.bool false), (.int .i64 y102)]) [2] (res_cell rfl rfl ag_25 sz_25 (res_tmp rfl (res_tmp rfl res_nil))) (fun W hW => ⟨w, ((none, 0), (none, 0)), leB, rfl, ⟨slf_nil, slf_nil⟩, hW.pick (ks := [3, 4]) (by decide) (pk_cons rfl (pk_cons rfl pk_nil))⟩)
 ·refine Tr.skip (Tr.normThen ?_)
  refine Tr.seq ?_
  refine Tr.sr ?_
  refine Tr.mv rfl rfl ?_
  obtain ⟨y103, hy103, H⟩ := bnd H
  refine Tr.call0 (r := (.bool y103)) (wn rfl) rfl Tryd.call30 (evl_cons rfl (evl_cons rfl (evl_cons rfl evl_nil))) (fun W hW => F_etchhouseref3_within_ok p1 1 1000 y103 hy103 (HF.start _)) ?_
  refine Tr.va rfl (fun _ _ h1 h2 => run_not (h1.ev rfl)) ?_
  refine Tr.nil (Tr.normThen ?_)
  refine Tr.cond rfl H (fun H => ?_) (fun H => ?_)
  ·refine Tr.sr ?_
   refine Tr.build (vs := []) (cs := [(.int .i64 0), (.slice none 0 0), (.slice none 0 0)]) (wn rfl) rfl evs_nil (by kernel_rfl) ?_
   refine Tr.store 2 (cs := [(.int .i64 0), (.slice none 0 0), (.slice none 0 0)]) [(.int .i64 0), (.slice none 0 0), (.slice none 0 0)] (wn rfl) rfl rfl rfl rfl sz_25 rfl rfl rfl ?_
   refine Tr.asg rfl rfl ?_
   refine Tr.asg rfl rfl ?_
   refine Tr.nil (Tr.normThen ?_)
   refine Tr.ret (Tr.retThen ?_)
   obtain rfl := Option.some.inj H
   refine Tr.nilOwn 5 55 fl_TPlotTool ?_
   refine Tr.nilOwn 6 84 fl_TPlotStep ?_
   exact Tr.out (m := [(.agg #[(.int .i64 0), (.slice none 0 0), (.slice none 0 0)]), (.bool false), (.int .i64 1)]) [2] (res_cell rfl rfl ag_25 sz_25 (res_tmp rfl (res_tmp rfl res_nil))) (fun W hW => ⟨w, ((none, 0), (none, 0)), leB, rfl, ⟨slf_nil, slf_nil⟩, hW.pick (ks := [5, 6]) (by decide) (pk_cons rfl (pk_cons rfl pk_nil))⟩)
  ·refine Tr.skip (Tr.normThen ?_)
   refine Tr.sr ?_
   refine Tr.va rfl (fun _ _ h1 h2 => run_loadN (cs := [(.int .i64 p0.Unit), (.slice Ap0_0 (p0.Tools).length cp0_0), (.slice Ap0_1 (p0.Steps).length cp0_1)]) ag_25 sz_25 (h1.ev rfl) (CellsAt.take (rdb h2 (vs := [(.int .i64 p0.Unit), (.slice Ap0_0 (p0.Tools).length cp0_0), (.slice Ap0_1 (p0.Steps).length cp0_1)]) (k := 1) rfl 0) 3) rfl) ?_
   refine Tr.mv rfl rfl ?_
   obtain ⟨y104, hy104, H⟩ := bnd H
   refine Tr.callG [7, 8] [emp, emp] (U := (Option Addr × Nat) × (Option Addr × Nat)) (fun u => (.tuple #[(.agg #[(.int .i64 y104.1.Unit), (.slice u.1.1 (y104.1.Tools).length u.1.2), (.slice u.2.1 (y104.1.Steps).length u.2.2)]), (.bool y104.2)])) (fun O W u => SlF u.1.1 (y104.1.Tools).length u.1.2 ∧ SlF u.2.1 (y104.1.Steps).length u.2.2) (fun u => [ow u.1.1 u.1.2 55 fl_TPlotTool y104.1.Tools, ow u.2.1 u.2.2 84 fl_TPlotStep y104.1.Steps]) rfl (pk_cons rfl (pk_cons rfl pk_nil)) (fun _ => rfl) (wn rfl) rfl Tryd.call37 (evl_cons rfl (evl_cons rfl evl_nil)) (fun W hW hp hE => F_etchhouseref3_scaled_ok N p0 Ap0_0 cp0_0 (hp0_0.ext (hW.extS hp)) Ap0_1 cp0_1 (hp0_1.ext (hW.extS hp)) p1 y104 hy104 hE) ?_
   intro w u le105 hu
   obtain ⟨⟨Ay104_0, cy104_0⟩, ⟨Ay104_1, cy104_1⟩⟩ := u
   obtain ⟨gy104_0, gy104_1⟩ := hu
   replace hp0_0 := hp0_0.leR le105
   replace hp0_1 := hp0_1.leR le105
   replace leB := leB.trans le105
   have hgy104_0 : SlF Ay104_0 (y104.1.Tools).length cy104_0 := gy104_0 --@phi
   have hgy104_1 : SlF Ay104_1 (y104.1.Steps).length cy104_1 := gy104_1 --@phi
   show Tr _ _ (uf _ 24 (.tuple #[(.agg #[(.int .i64 y104.1.Unit), (.slice Ay104_0 (y104.1.Tools).length cy104_0), (.slice Ay104_1 (y104.1.Steps).length cy104_1)]), (.bool y104.2)])) (up (up _ 8 (ow Ay104_1 cy104_1 84 fl_TPlotStep y104.1.Steps)) 7 (ow Ay104_0 cy104_0 55 fl_TPlotTool y104.1.Tools)) _
   refine Tr.mv rfl rfl ?_
   refine Tr.va rfl (fun _ _ h1 h2 => run_extract (h1.ev rfl) rfl) ?_
   refine Tr.va rfl (fun _ _ h1 h2 => run_extract (h1.ev rfl) rfl) ?_
   refine Tr.alloc 9 (wn rfl) rfl ze_25 fun b106 => ?_
   refine Tr.store 9 (cs := [(.int .i64 y104.1.Unit), (.slice Ay104_0 (y104.1.Tools).length cy104_0), (.slice Ay104_1 (y104.1.Steps).length cy104_1)]) [(.int .i64 y104.1.Unit), (.slice Ay104_0 (y104.1.Tools).length cy104_0), (.slice Ay104_1 (y104.1.Steps).length cy104_1)] (wn rfl) rfl rfl rfl rfl sz_25 rfl rfl rfl ?_
   refine Tr.asg rfl rfl ?_
   refine Tr.nil (Tr.normThen ?_)
   refine Tr.seq ?_
   refine Tr.sr ?_
   refine Tr.mv rfl rfl ?_
   refine Tr.va rfl (fun _ _ h1 h2 => run_not (h1.ev rfl)) ?_
   refine Tr.nil (Tr.normThen ?_)
   refine Tr.cond rfl H (fun H => ?_) (fun H => ?_)
   ·refine Tr.sr ?_
    refine Tr.build (vs := []) (cs := [(.int .i64 0), (.slice none 0 0), (.slice none 0 0)]) (wn rfl) rfl evs_nil (by kernel_rfl) ?_
    refine Tr.store 2 (cs := [(.int .i64 0), (.slice none 0 0), (.slice none 0 0)]) [(.int .i64 0), (.slice none 0 0), (.slice none 0 0)] (wn rfl) rfl rfl rfl rfl sz_25 rfl rfl rfl ?_
    refine Tr.asg rfl rfl ?_
    refine Tr.asg rfl rfl ?_
    refine Tr.nil (Tr.normThen ?_)
    refine Tr.ret (Tr.retThen ?_)
    obtain rfl := Option.some.inj H
    refine Tr.nilOwn 10 55 fl_TPlotTool ?_
    refine Tr.nilOwn 11 84 fl_TPlotStep ?_
    exact Tr.out (m := [(.agg #[(.int .i64 0), (.slice none 0 0), (.slice none 0 0)]), (.bool false), (.int .i64 0)]) [2] (res_cell rfl rfl ag_25 sz_25 (res_tmp rfl (res_tmp rfl res_nil))) (fun W hW => ⟨w, ((none, 0), (none, 0)), leB, rfl, ⟨slf_nil, slf_nil⟩, hW.pick (ks := [10, 11]) (by decide) (pk_cons rfl (pk_cons rfl pk_nil))⟩)
   ·refine Tr.skip (Tr.normThen ?_)
    refine Tr.seq ?_
    refine Tr.sr ?_
    refine Tr.va rfl (fun _ _ h1 h2 => run_loadN (cs := [(.int .i64 y104.1.Unit), (.slice Ay104_0 (y104.1.Tools).length cy104_0), (.slice Ay104_1 (y104.1.Steps).length cy104_1)]) ag_25 sz_25 (h1.ev rfl) (CellsAt.take (rdb h2 (vs := [(.int .i64 y104.1.Unit), (.slice Ay104_0 (y104.1.Tools).length cy104_0), (.slice Ay104_1 (y104.1.Steps).length cy104_1)]) (k := 9) rfl 0) 3) rfl) ?_
    obtain ⟨y107, hy107, H⟩ := bnd H
    refine Tr.call0 (r := (.int .i64 y107)) (wn rfl) rfl Tryd.call9 (evl_cons rfl evl_nil) (fun W hW => F_etchhouseref3_CheckPlot_ok N y104.1 Ay104_0 cy104_0 (hW.slCall (k := 7) rfl) Ay104_1 cy104_1 (hW.slCall (k := 8) rfl) y107 hy107 (HF.start _)) ?_
    refine Tr.asg rfl rfl ?_
    refine Tr.nil (Tr.normThen ?_)
    refine Tr.sr ?_
    refine Tr.mv rfl rfl ?_
    refine Tr.va rfl (fun _ _ h1 h2 => run_neq (h1.ev rfl) (h1.ev rfl)) ?_
    refine Tr.nil (Tr.normThen ?_)
    refine Tr.cond rfl H (fun H => ?_) (fun H => ?_)
    ·refine Tr.sr ?_
     refine Tr.build (vs := []) (cs := [(.int .i64 0), (.slice none 0 0), (.slice none 0 0)]) (wn rfl) rfl evs_nil (by kernel_rfl) ?_
     refine Tr.mv rfl rfl ?_
     refine Tr.store 2 (cs := [(.int .i64 0), (.slice none 0 0), (.slice none 0 0)]) [(.int .i64 0), (.slice none 0 0), (.slice none 0 0)] (wn rfl) rfl rfl rfl rfl sz_25 rfl rfl rfl ?_
     refine Tr.asg rfl rfl ?_
     refine Tr.asg rfl rfl ?_
     refine Tr.nil (Tr.normThen ?_)
     refine Tr.ret (Tr.retThen ?_)
     obtain rfl := Option.some.inj H
     refine Tr.nilOwn 12 55 fl_TPlotTool ?_
     refine Tr.nilOwn 13 84 fl_TPlotStep ?_
     exact Tr.out (m := [(.agg #[(.int .i64 0), (.slice none 0 0), (.slice none 0 0)]), (.bool false), (.int .i64 y107)]) [2] (res_cell rfl rfl ag_25 sz_25 (res_tmp rfl (res_tmp rfl res_nil))) (fun W hW => ⟨w, ((none, 0), (none, 0)), leB, rfl, ⟨slf_nil, slf_nil⟩, hW.pick (ks := [12, 13]) (by decide) (pk_cons rfl (pk_cons rfl pk_nil))⟩)
    ·refine Tr.skip (Tr.normThen ?_)
     refine Tr.sr ?_
     refine Tr.va rfl (fun _ _ h1 h2 => run_loadN (cs := [(.int .i64 y104.1.Unit), (.slice Ay104_0 (y104.1.Tools).length cy104_0), (.slice Ay104_1 (y104.1.Steps).length cy104_1)]) ag_25 sz_25 (h1.ev rfl) (CellsAt.take (rdb h2 (vs := [(.int .i64 y104.1.Unit), (.slice Ay104_0 (y104.1.Tools).length cy104_0), (.slice Ay104_1 (y104.1.Steps).length cy104_1)]) (k := 9) rfl 0) 3) rfl) ?_
     refine Tr.store 2 (cs := [(.int .i64 y104.1.Unit), (.slice Ay104_0 (y104.1.Tools).length cy104_0), (.slice Ay104_1 (y104.1.Steps).length cy104_1)]) [(.int .i64 y104.1.Unit), (.slice Ay104_0 (y104.1.Tools).length cy104_0), (.slice Ay104_1 (y104.1.Steps).length cy104_1)] (wn rfl) rfl rfl rfl rfl sz_25 rfl rfl rfl ?_
     refine Tr.asg rfl rfl ?_
     refine Tr.asg rfl rfl ?_
     refine Tr.nil (Tr.normThen ?_)
     refine Tr.ret ?_
     obtain rfl := Option.some.inj H
     exact Tr.out (m := [(.agg #[(.int .i64 y104.1.Unit), (.slice Ay104_0 (y104.1.Tools).length cy104_0), (.slice Ay104_1 (y104.1.Steps).length cy104_1)]), (.bool true), (.int .i64 0)]) [2] (res_cell rfl rfl ag_25 sz_25 (res_tmp rfl (res_tmp rfl res_nil))) (fun W hW => ⟨w, ((Ay104_0, cy104_0), (Ay104_1, cy104_1)), leB, rfl, ⟨hgy104_0, hgy104_1⟩, hW.pick (ks := [7, 8]) (by decide) (pk_cons rfl (pk_cons rfl pk_nil))⟩)

theorem F_etchhouseref3_samePoints_ok (N : Nat) {w : Bs} (p0 : (List TPoint)) (Ap0_0 : Option Addr) (cp0_0 : Nat) (hp0_0 : Sl w.R w.W fl_TPoint Ap0_0 cp0_0 p0) (p1 : (List TPoint)) (Ap1_0 : Option Addr) (cp1_0 : Nat) (hp1_0 : Sl w.R w.W fl_TPoint Ap1_0 cp1_0 p1) (r : Bool) (H : F_etchhouseref3_samePoints N p0 p1 = some r) (hE : HF w w.W E0) : Calls Tryd.prog 72 [(.slice Ap0_0 (p0).length cp0_0), (.slice Ap1_0 (p1).length cp1_0)].toArray w.W fun e W' => e = .returned (.bool r) ∧ HF w W' E0 := by
 unfold F_etchhouseref3_samePoints at H
 have leB := Bs.Le.refl w
 refine Tr.enter (n := 26) Tryd.func72 rfl rfl rfl hE ?_
 refine Tr.sr ?_
 refine Tr.asg rfl rfl ?_
 refine Tr.nil (Tr.normThen ?_)
 refine Tr.seq ?_
 refine Tr.sr ?_
 refine Tr.mv rfl rfl ?_
 refine Tr.va rfl (fun _ _ h1 h2 => run_len un_82 (h1.ev rfl)) ?_
 refine Tr.mv rfl rfl ?_
 refine Tr.va rfl (fun _ _ h1 h2 => run_len un_82 (h1.ev rfl)) ?_
 refine Tr.va rfl (fun _ _ h1 h2 => run_neq (h1.ev rfl) (h1.ev rfl)) ?_
 refine Tr.nil (Tr.normThen ?_)
 refine Tr.cond rfl H (fun H => ?_) (fun H => ?_)
 ·refine Tr.sr ?_
  refine Tr.asg rfl rfl ?_
  refine Tr.nil (Tr.normThen ?_)
  refine Tr.ret (Tr.retThen ?_)
  obtain rfl := Option.some.inj H
  exact Tr.out (m := [(.bool false)]) [] (res_tmp rfl res_nil) (fun W hW => ⟨rfl, hW.low leB⟩)
 ·refine Tr.skip (Tr.normThen ?_)
  refine Tr.seq ?_
  refine Tr.sr ?_
  refine Tr.asg rfl rfl ?_
  refine Tr.nil (Tr.normThen ?_)
  refine Tr.block ?_
  refine Tr.loop (σ := Int) (fun m w s => F_etchhouseref3_samePoints_L1 p0 p1 m s = some r) (fun s => [(0, (.slice Ap0_0 (p0).length cp0_0)), (1, (.slice Ap1_0 (p1).length cp1_0)), (5, (.int .i64 s))]) (fun s => []) N 0 H (.cons rfl (.cons rfl (.cons rfl .nil))) .nil (fun _ _ h => noSome (h)) ?_
  intro w leF_etchhouseref3_samePoints_L1 mF_etchhouseref3_samePoints_L1 x107 hs
  have H := hs
  replace H : F_etchhouseref3_samePoints_L1 p0 p1 (mF_etchhouseref3_samePoints_L1 + 1) x107 = some r := H
  replace hp0_0 := hp0_0.leR leF_etchhouseref3_samePoints_L1
  replace hp1_0 := hp1_0.leR leF_etchhouseref3_samePoints_L1
  replace leB := leB.trans leF_etchhouseref3_samePoints_L1
  rw [F_etchhouseref3_samePoints_L1.eq_2] at H
  show Tr _ _ (LF [(0, (.slice Ap0_0 (p0).length cp0_0)), (1, (.slice Ap1_0 (p1).length cp1_0)), (5, (.int .i64 x107))]) (LE []) _
  refine Tr.seq ?_
  refine Tr.sr ?_
  refine Tr.mv rfl rfl ?_
  refine Tr.mv rfl rfl ?_
  refine Tr.va rfl (fun _ _ h1 h2 => run_len un_82 (h1.ev rfl)) ?_
  refine Tr.va rfl (fun _ _ h1 h2 => run_lss (h1.ev rfl) (h1.ev rfl)) ?_
  refine Tr.nil (Tr.normThen ?_)
  refine Tr.cond rfl H (fun H => ?_) (fun H => ?_)
  ·refine Tr.skip (Tr.normThen ?_)
   refine Tr.seq ?_
   refine Tr.block ?_
   refine Tr.seq ?_
   refine Tr.draw (by kernel_rfl) (by kernel_rfl) ?_
   refine Tq.mv rfl rfl ?_
   refine Tq.mv rfl rfl ?_
   obtain ⟨x108, hx108, H⟩ := bnd H
   obtain ⟨hx1080, hx1081, hx1082⟩ := idx_some hx108
   refine Tq.va rfl (fun _ _ h1 h2 => run_indexAddr el_82 (h1.ev rfl) hp0_0.form (h1.ev rfl) hx1080 hx1081) ?_
   refine Tq.va rfl (fun _ _ h1 h2 => run_loadN (cs := [(.int .i64 x108.X), (.int .i64 x108.Y)]) ag_37 sz_37 (h1.ev rfl) (CellsAt.take (rdF ef_TPoint hp0_0 hx1082 h2) 2) rfl) ?_
   refine Tq.mv rfl rfl ?_
   refine Tq.mv rfl rfl ?_
   obtain ⟨x109, hx109, H⟩ := bnd H
   obtain ⟨hx1090, hx1091, hx1092⟩ := idx_some hx109
   refine Tq.va rfl (fun _ _ h1 h2 => run_indexAddr el_82 (h1.ev rfl) hp1_0.form (h1.ev rfl) hx1090 hx1091) ?_
   refine Tq.va rfl (fun _ _ h1 h2 => run_loadN (cs := [(.int .i64 x109.X), (.int .i64 x109.Y)]) ag_37 sz_37 (h1.ev rfl) (CellsAt.take (rdF ef_TPoint hp1_0 hx1092 h2) 2) rfl) ?_
   refine Tq.va rfl (fun _ _ h1 h2 => run_neq_37 x108 x109 (h1.ev rfl) (h1.ev rfl)) ?_
   refine Tq.nil (Tr.normThen ?_)
   refine Tr.cond rfl H (fun H => ?_) (fun H => ?_)
   ·refine Tr.sr ?_
    refine Tr.asg rfl rfl ?_
    refine Tr.nil (Tr.normThen ?_)
    refine Tr.ret (Tr.retBlock (Tr.retThen (Tr.retThen (Tr.retBlock (Tr.retThen ?_)))))
    obtain rfl := Option.some.inj H
    exact Tr.out (m := [(.bool false)]) [] (res_tmp rfl res_nil) (fun W hW => ⟨rfl, hW.low leB⟩)
   ·refine Tr.skip (Tr.normBlock (Tr.normThen ?_))
    refine Tr.region ?_
    refine Tr.mv rfl rfl ?_
    refine Tr.va rfl (fun _ _ h1 h2 => run_add (h1.ev rfl) (h1.ev rfl)) ?_
    refine Tr.asg rfl rfl ?_
    refine Tr.nil ?_
    exact Tr.backThen leF_etchhouseref3_samePoints_L1 (w64 (x107 + 1)) H (.cons rfl (.cons rfl (.cons rfl .nil))) .nil
  ·refine Tr.exit (Tr.exitThen (Tr.exitThen (Tr.exitBlock (Tr.normThen ?_))))
   refine Tr.sr ?_
   refine Tr.asg rfl rfl ?_
   refine Tr.nil (Tr.normThen ?_)
   refine Tr.ret ?_
   obtain rfl := Option.some.inj H
   exact Tr.out (m := [(.bool true)]) [] (res_tmp rfl res_nil) (fun W hW => ⟨rfl, hW.low leB⟩)

theorem F_etchhouseref3_sameSteps_b_ok (N : Nat) (rec : (List TPlotStep) → (List TPlotStep) → Option Bool) (hrec : ∀ {w : Bs} (p0 : (List TPlotStep)) (Ap0_0 : Option Addr) (cp0_0 : Nat) (hp0_0 : Sl w.R w.W fl_TPlotStep Ap0_0 cp0_0 p0) (p1 : (List TPlotStep)) (Ap1_0 : Option Addr) (cp1_0 : Nat) (hp1_0 : Sl w.R w.W fl_TPlotStep Ap1_0 cp1_0 p1) (r : Bool) (H : rec p0 p1 = some r) (hE : HF w w.W E0), Calls Tryd.prog 38 [(.slice Ap0_0 (p0).length cp0_0), (.slice Ap1_0 (p1).length cp1_0)].toArray w.W fun e W' => e = .returned (.bool r) ∧ HF w W' E0) {w : Bs} (p0 : (List TPlotStep)) (Ap0_0 : Option Addr) (cp0_0 : Nat) (hp0_0 : Sl w.R w.W fl_TPlotStep Ap0_0 cp0_0 p0) (p1 : (List TPlotStep)) (Ap1_0 : Option Addr) (cp1_0 : Nat) (hp1_0 : Sl w.R w.W fl_TPlotStep Ap1_0 cp1_0 p1) (r : Bool) (H : F_etchhouseref3_sameSteps_b N rec p0 p1 = some r) (hE : HF w w.W E0) : Calls Tryd.prog 38 [(.slice Ap0_0 (p0).length cp0_0), (.slice Ap1_0 (p1).length cp1_0)].toArray w.W fun e W' => e = .returned (.bool r) ∧ HF w W' E0 := by
 unfold F_etchhouseref3_sameSteps_b at H
 have leB := Bs.Le.refl w
 refine Tr.enter (n := 76) Tryd.func38 rfl rfl rfl hE ?_
 refine Tr.sr ?_
 refine Tr.asg rfl rfl ?_
 refine Tr.nil (Tr.normThen ?_)
 refine Tr.seq ?_
 refine Tr.sr ?_
 refine Tr.mv rfl rfl ?_
 refine Tr.va rfl (fun _ _ h1 h2 => run_len un_23 (h1.ev rfl)) ?_
 refine Tr.mv rfl rfl ?_
 refine Tr.va rfl (fun _ _ h1 h2 => run_len un_23 (h1.ev rfl)) ?_
 refine Tr.va rfl (fun _ _ h1 h2 => run_neq (h1.ev rfl) (h1.ev rfl)) ?_
 refine Tr.nil (Tr.normThen ?_)
 refine Tr.cond rfl H (fun H => ?_) (fun H => ?_)
 ·refine Tr.sr ?_
  refine Tr.asg rfl rfl ?_
  refine Tr.nil (Tr.normThen ?_)
  refine Tr.ret (Tr.retThen ?_)
  obtain rfl := Option.some.inj H
  exact Tr.out (m := [(.bool false)]) [] (res_tmp rfl res_nil) (fun W hW => ⟨rfl, hW.low leB⟩)
 ·refine Tr.skip (Tr.normThen ?_)
  refine Tr.seq ?_
  refine Tr.sr ?_
  refine Tr.asg rfl rfl ?_
  refine Tr.nil (Tr.normThen ?_)
  refine Tr.block ?_
  refine Tr.loop (σ := Int) (fun m w s => F_etchhouseref3_sameSteps_L1 N p0 p1 rec m s = some r) (fun s => [(0, (.slice Ap0_0 (p0).length cp0_0)), (1, (.slice Ap1_0 (p1).length cp1_0)), (5, (.int .i64 s))]) (fun s => []) N 0 H (.cons rfl (.cons rfl (.cons rfl .nil))) .nil (fun _ _ h => noSome (h)) ?_
  intro w leF_etchhouseref3_sameSteps_L1 mF_etchhouseref3_sameSteps_L1 x131 hs
  have H := hs
  replace H : F_etchhouseref3_sameSteps_L1 N p0 p1 rec (mF_etchhouseref3_sameSteps_L1 + 1) x131 = some r := H
  replace hp0_0 := hp0_0.leR leF_etchhouseref3_sameSteps_L1
  replace hp1_0 := hp1_0.leR leF_etchhouseref3_sameSteps_L1
  replace leB := leB.trans leF_etchhouseref3_sameSteps_L1
  rw [F_etchhouseref3_sameSteps_L1.eq_2] at H
  show Tr _ _ (LF [(0, (.slice Ap0_0 (p0).length cp0_0)), (1, (.slice Ap1_0 (p1).length cp1_0)), (5, (.int .i64 x131))]) (LE []) _
  refine Tr.seq ?_
  refine Tr.sr ?_
  refine Tr.mv rfl rfl ?_
  refine Tr.mv rfl rfl ?_
  refine Tr.va rfl (fun _ _ h1 h2 => run_len un_23 (h1.ev rfl)) ?_
  refine Tr.va rfl (fun _ _ h1 h2 => run_lss (h1.ev rfl) (h1.ev rfl)) ?_
  refine Tr.nil (Tr.normThen ?_)
  refine Tr.cond rfl H (fun H => ?_) (fun H => ?_)
  ·refine Tr.skip (Tr.normThen ?_)
   refine Tr.seq ?_
   refine Tr.block ?_
   refine Tr.seq ?_
   refine Tr.drawC 11 [] [10] (by kernel_rfl) (by kernel_rfl) fun sz132 hlosz132 hEsz132 => ?_
   refine Dr.quiet 0 [(19, (.slice Ap0_0 (p0).length cp0_0))] (by kernel_rfl) rfl rfl (by kernel_rfl) ?_ rfl rfl ?_
   ·refine Tq.mv rfl rfl ?_
    exact Tq.fin (.cons rfl .nil)
   refine Dr.quiet 1 [(20, (.int .i64 x131))] (by kernel_rfl) rfl rfl (by kernel_rfl) ?_ rfl rfl ?_
   ·refine Tq.mv rfl rfl ?_
    exact Tq.fin (.cons rfl .nil)
   obtain ⟨x133, hx133, H⟩ := bnd H
   obtain ⟨hx1330, hx1331, hx1332⟩ := idx_some hx133
   obtain ⟨u134, hRu134, hoku134, hcu134⟩ := (hp0_0).el hx1332
   obtain ⟨⟨Au134_0, cu134_0⟩, ⟨Au134_1, cu134_1⟩⟩ := u134
   obtain ⟨hoku134_0, hoku134_1⟩ := TPlotStep_ok.1 hoku134
   refine Dr.quiet 2 [(21, (.pointer (some ⟨adB Ap0_0, adO Ap0_0 + (x131).toNat * 8, none⟩)))] (by kernel_rfl) rfl rfl (by kernel_rfl) ?_ rfl rfl ?_
   ·replace hoku134_0 : Sl w.R w.W fl_TPoint Au134_0 cu134_0 x133.Points := hoku134_0
    replace hoku134_1 : Sl w.R w.W fl_TPlotStep Au134_1 cu134_1 x133.Steps := hoku134_1
    refine Tq.va rfl (fun _ _ h1 h2 => run_indexAddr el_23 (h1.ev rfl) hp0_0.form (h1.ev rfl) hx1330 hx1331) ?_
    exact Tq.fin (.cons rfl .nil)
   refine Dr.quiet 3 [(22, (.agg #[(.int .i64 x133.Kind), (.string x133.Name), (.int .i64 x133.At.X), (.int .i64 x133.At.Y), (.slice Au134_0 (x133.Points).length cu134_0), (.int .i64 x133.NX), (.int .i64 x133.NY), (.slice Au134_1 (x133.Steps).length cu134_1)]))] (by kernel_rfl) rfl rfl (by kernel_rfl) ?_ rfl rfl ?_
   ·refine Tq.va rfl (fun _ _ h1 h2 => run_loadN (cs := [(.int .i64 x133.Kind), (.string x133.Name), (.int .i64 x133.At.X), (.int .i64 x133.At.Y), (.slice Au134_0 (x133.Points).length cu134_0), (.int .i64 x133.NX), (.int .i64 x133.NY), (.slice Au134_1 (x133.Steps).length cu134_1)]) ag_84 sz_84 (h1.ev rfl) (CellsAt.take (rdR hRu134 hcu134 h2) 8) rfl) ?_
    exact Tq.fin (.cons rfl .nil)
   refine Dr.quietP 4 (by kernel_rfl) rfl (wn rfl) rfl (by kernel_rfl) (fun _ _ h1 => run_move (h1.ev rfl)) rfl ?_
   refine Dr.quietP 5 (by kernel_rfl) rfl (wn rfl) rfl (by kernel_rfl) (fun _ _ h1 => run_move (h1.ev rfl)) rfl ?_
   obtain ⟨x135, hx135, H⟩ := bnd H
   obtain ⟨hx1350, hx1351, hx1352⟩ := idx_some hx135
   obtain ⟨u136, hRu136, hoku136, hcu136⟩ := (hp1_0).el hx1352
   obtain ⟨⟨Au136_0, cu136_0⟩, ⟨Au136_1, cu136_1⟩⟩ := u136
   obtain ⟨hoku136_0, hoku136_1⟩ := TPlotStep_ok.1 hoku136
   refine Dr.quietZ 6 [(25, (.pointer (some ⟨adB Ap1_0, adO Ap1_0 + (x131).toNat * 8, none⟩)))] [] true (by kernel_rfl) rfl rfl (by kernel_rfl) (fun W W' h2 hsW hk => HF.keepZ (le := []) (ks := []) (s0 := sz132) true h2 hk (fun _ => hlosz132) .nil (fun b hb => hb.elim (fun ⟨_, hp, _⟩ => nomatch hp) (fun hb => .inr ⟨rfl, hb.2, (fun _ h => nomatch h)⟩)) (fun _ h => nomatch h) rfl) ?_ rfl rfl ?_
   ·replace hoku136_0 : Sl w.R w.W fl_TPoint Au136_0 cu136_0 x135.Points := hoku136_0
    replace hoku136_1 : Sl w.R w.W fl_TPlotStep Au136_1 cu136_1 x135.Steps := hoku136_1
    refine Tq.va rfl (fun _ _ h1 h2 => run_indexAddr el_23 (h1.ev rfl) hp1_0.form (h1.ev rfl) hx1350 hx1351) ?_
    exact Tq.fin (.cons rfl .nil)
   refine Dr.quietZ 7 [(26, (.agg #[(.int .i64 x135.Kind), (.string x135.Name), (.int .i64 x135.At.X), (.int .i64 x135.At.Y), (.slice Au136_0 (x135.Points).length cu136_0), (.int .i64 x135.NX), (.int .i64 x135.NY), (.slice Au136_1 (x135.Steps).length cu136_1)]))] [] true (by kernel_rfl) rfl rfl (by kernel_rfl) (fun W W' h2 hsW hk => HF.keepZ (le := []) (ks := []) (s0 := sz132) true h2 hk (fun _ => hlosz132) .nil (fun b hb => hb.elim (fun ⟨_, hp, _⟩ => nomatch hp) (fun hb => .inr ⟨rfl, hb.2, (fun _ h => nomatch h)⟩)) (fun _ h => nomatch h) rfl) ?_ rfl rfl ?_
   ·refine Tq.va rfl (fun _ _ h1 h2 => run_loadN (cs := [(.int .i64 x135.Kind), (.string x135.Name), (.int .i64 x135.At.X), (.int .i64 x135.At.Y), (.slice Au136_0 (x135.Points).length cu136_0), (.int .i64 x135.NX), (.int .i64 x135.NY), (.slice Au136_1 (x135.Steps).length cu136_1)]) ag_84 sz_84 (h1.ev rfl) (CellsAt.take (rdR hRu136 hcu136 h2) 8) rfl) ?_
    exact Tq.fin (.cons rfl .nil)
   refine Dr.cut (U := Nat × Nat) [8, 9] 1 (fun u => sz132 ≤ u.1 ∧ sz132 ≤ u.2) (fun u => [(0, (.slice Ap0_0 (p0).length cp0_0)), (1, (.slice Ap1_0 (p1).length cp1_0)), (5, (.int .i64 x131)), (6, (.pointer (some ⟨u.1, 0, none⟩))), (7, (.pointer (some ⟨u.2, 0, none⟩))), (13, (.int .i64 x131)), (14, (.slice Ap0_0 (p0).length cp0_0)), (15, (.int .i64 (p0.length : Int))), (16, (.bool (decide (x131 < (p0.length : Int))))), (19, (.slice Ap0_0 (p0).length cp0_0)), (20, (.int .i64 x131)), (21, (.pointer (some ⟨adB Ap0_0, adO Ap0_0 + (x131).toNat * 8, none⟩))), (22, (.agg #[(.int .i64 x133.Kind), (.string x133.Name), (.int .i64 x133.At.X), (.int .i64 x133.At.Y), (.slice Au134_0 (x133.Points).length cu134_0), (.int .i64 x133.NX), (.int .i64 x133.NY), (.slice Au134_1 (x133.Steps).length cu134_1)])), (23, (.slice Ap1_0 (p1).length cp1_0)), (24, (.int .i64 x131)), (25, (.pointer (some ⟨adB Ap1_0, adO Ap1_0 + (x131).toNat * 8, none⟩))), (26, (.agg #[(.int .i64 x135.Kind), (.string x135.Name), (.int .i64 x135.At.X), (.int .i64 x135.At.Y), (.slice Au136_0 (x135.Points).length cu136_0), (.int .i64 x135.NX), (.int .i64 x135.NY), (.slice Au136_1 (x135.Steps).length cu136_1)]))]) (fun u => [(5, bx u.1 #[(.int .i64 0), (.string ⟨#[]⟩), (.int .i64 0), (.int .i64 0), (.slice none 0 0), (.int .i64 0), (.int .i64 0), (.slice none 0 0)] 84), (6, bx u.2 #[(.int .i64 0), (.string ⟨#[]⟩), (.int .i64 0), (.int .i64 0), (.slice none 0 0), (.int .i64 0), (.int .i64 0), (.slice none 0 0)] 84)]) ?_ ?_
   ·intro hC
    refine Dr.pair 8 9 (by kernel_rfl) ?_ ?_
    ·refine St.alloc 8 5 rfl (wn rfl) rfl ze_84 fun b137 hb137 => ?_
     refine Dr.one 9 (by kernel_rfl) ?_
     refine St.alloc 9 6 rfl (wn rfl) rfl ze_84 fun b138 hb138 => ?_
     exact (hC ⟨b137, b138⟩ ⟨hb137, hb138⟩).use (by kernel_rfl) (.cons rfl (.cons rfl (.cons rfl (.cons rfl (.cons rfl (.cons rfl (.cons rfl (.cons rfl (.cons rfl (.cons rfl (.cons rfl (.cons rfl (.cons rfl (.cons rfl (.cons rfl (.cons rfl (.cons rfl .nil))))))))))))))))) (.cons rfl (.cons rfl .nil))
    ·refine St.alloc 9 6 rfl (wn rfl) rfl ze_84 fun b138 hb138 => ?_
     refine Dr.one 8 (by kernel_rfl) ?_
     refine St.alloc 8 5 rfl (wn rfl) rfl ze_84 fun b137 hb137 => ?_
     exact (hC ⟨b137, b138⟩ ⟨hb137, hb138⟩).use (by kernel_rfl) (.cons rfl (.cons rfl (.cons rfl (.cons rfl (.cons rfl (.cons rfl (.cons rfl (.cons rfl (.cons rfl (.cons rfl (.cons rfl (.cons rfl (.cons rfl (.cons rfl (.cons rfl (.cons rfl (.cons rfl .nil))))))))))))))))) (.cons rfl (.cons rfl .nil))
   intro u hu
   obtain ⟨b137, b138⟩ := u
   obtain ⟨hb137, hb138⟩ := hu
   replace hb137 : sz132 ≤ b137 := hb137
   replace hb138 : sz132 ≤ b138 := hb138
   show Dr _ _ _ _ _ _ _ _ _ (LF [(0, (.slice Ap0_0 (p0).length cp0_0)), (1, (.slice Ap1_0 (p1).length cp1_0)), (5, (.int .i64 x131)), (6, (.pointer (some ⟨b137, 0, none⟩))), (7, (.pointer (some ⟨b138, 0, none⟩))), (13, (.int .i64 x131)), (14, (.slice Ap0_0 (p0).length cp0_0)), (15, (.int .i64 (p0.length : Int))), (16, (.bool (decide (x131 < (p0.length : Int))))), (19, (.slice Ap0_0 (p0).length cp0_0)), (20, (.int .i64 x131)), (21, (.pointer (some ⟨adB Ap0_0, adO Ap0_0 + (x131).toNat * 8, none⟩))), (22, (.agg #[(.int .i64 x133.Kind), (.string x133.Name), (.int .i64 x133.At.X), (.int .i64 x133.At.Y), (.slice Au134_0 (x133.Points).length cu134_0), (.int .i64 x133.NX), (.int .i64 x133.NY), (.slice Au134_1 (x133.Steps).length cu134_1)])), (23, (.slice Ap1_0 (p1).length cp1_0)), (24, (.int .i64 x131)), (25, (.pointer (some ⟨adB Ap1_0, adO Ap1_0 + (x131).toNat * 8, none⟩))), (26, (.agg #[(.int .i64 x135.Kind), (.string x135.Name), (.int .i64 x135.At.X), (.int .i64 x135.At.Y), (.slice Au136_0 (x135.Points).length cu136_0), (.int .i64 x135.NX), (.int .i64 x135.NY), (.slice Au136_1 (x135.Steps).length cu136_1)]))]) (LE [(5, bx b137 #[(.int .i64 0), (.string ⟨#[]⟩), (.int .i64 0), (.int .i64 0), (.slice none 0 0), (.int .i64 0), (.int .i64 0), (.slice none 0 0)] 84), (6, bx b138 #[(.int .i64 0), (.string ⟨#[]⟩), (.int .i64 0), (.int .i64 0), (.slice none 0 0), (.int .i64 0), (.int .i64 0), (.slice none 0 0)] 84)])
   refine Dr.one 10 (by kernel_rfl) ?_
   refine St.store 10 5 (cs := [(.int .i64 x133.Kind), (.string x133.Name), (.int .i64 x133.At.X), (.int .i64 x133.At.Y), (.slice Au134_0 (x133.Points).length cu134_0), (.int .i64 x133.NX), (.int .i64 x133.NY), (.slice Au134_1 (x133.Steps).length cu134_1)]) [(.int .i64 x133.Kind), (.string x133.Name), (.int .i64 x133.At.X), (.int .i64 x133.At.Y), (.slice Au134_0 (x133.Points).length cu134_0), (.int .i64 x133.NX), (.int .i64 x133.NY), (.slice Au134_1 (x133.Steps).length cu134_1)] rfl (wn rfl) (.inr ⟨by simp, hb137⟩) rfl rfl rfl rfl sz_84 rfl rfl rfl ?_
   refine Dr.tail (by kernel_rfl) ?_
   refine Tr.store 6 (cs := [(.int .i64 x135.Kind), (.string x135.Name), (.int .i64 x135.At.X), (.int .i64 x135.At.Y), (.slice Au136_0 (x135.Points).length cu136_0), (.int .i64 x135.NX), (.int .i64 x135.NY), (.slice Au136_1 (x135.Steps).length cu136_1)]) [(.int .i64 x135.Kind), (.string x135.Name), (.int .i64 x135.At.X), (.int .i64 x135.At.Y), (.slice Au136_0 (x135.Points).length cu136_0), (.int .i64 x135.NX), (.int .i64 x135.NY), (.slice Au136_1 (x135.Steps).length cu136_1)] (wn rfl) rfl rfl rfl rfl sz_84 rfl rfl rfl ?_
   refine Tr.nil (Tr.normThen ?_)
   refine Tr.sr ?_
   refine Tr.va rfl (fun _ _ h1 h2 => run_fieldAddr fo_84_0 (h1.ev rfl)) ?_
   refine Tr.va rfl (fun _ _ h1 h2 => run_load1 ag_3 (h1.ev rfl) (rdb h2 (vs := [(.int .i64 x133.Kind), (.string x133.Name), (.int .i64 x133.At.X), (.int .i64 x133.At.Y), (.slice Au134_0 (x133.Points).length cu134_0), (.int .i64 x133.NX), (.int .i64 x133.NY), (.slice Au134_1 (x133.Steps).length cu134_1)]) (k := 5) rfl 0) rfl) ?_
   refine Tr.va rfl (fun _ _ h1 h2 => run_fieldAddr fo_84_0 (h1.ev rfl)) ?_
   refine Tr.va rfl (fun _ _ h1 h2 => run_load1 ag_3 (h1.ev rfl) (rdb h2 (vs := [(.int .i64 x135.Kind), (.string x135.Name), (.int .i64 x135.At.X), (.int .i64 x135.At.Y), (.slice Au136_0 (x135.Points).length cu136_0), (.int .i64 x135.NX), (.int .i64 x135.NY), (.slice Au136_1 (x135.Steps).length cu136_1)]) (k := 6) rfl 0) rfl) ?_
   refine Tr.va rfl (fun _ _ h1 h2 => run_neq (h1.ev rfl) (h1.ev rfl)) ?_
   refine Tr.mv rfl rfl ?_
   refine Tr.mid0 6 [(0, (.slice Ap0_0 (p0).length cp0_0)), (1, (.slice Ap1_0 (p1).length cp1_0)), (5, (.int .i64 x131)), (6, (.pointer (some ⟨b137, 0, none⟩))), (7, (.pointer (some ⟨b138, 0, none⟩))), (38, (.bool ((x133.Kind != x135.Kind) || (!sEq x133.Name x135.Name))))] [(5, bx b137 #[(.int .i64 x133.Kind), (.string x133.Name), (.int .i64 x133.At.X), (.int .i64 x133.At.Y), (.slice Au134_0 (x133.Points).length cu134_0), (.int .i64 x133.NX), (.int .i64 x133.NY), (.slice Au134_1 (x133.Steps).length cu134_1)] 84), (6, bx b138 #[(.int .i64 x135.Kind), (.string x135.Name), (.int .i64 x135.At.X), (.int .i64 x135.At.Y), (.slice Au136_0 (x135.Points).length cu136_0), (.int .i64 x135.NX), (.int .i64 x135.NY), (.slice Au136_1 (x135.Steps).length cu136_1)] 84)] ?_ ?_
   ·cases hg144 : (x133.Kind != x135.Kind)
    ·refine Tr.val (wg rfl rfl rfl) rfl (fun _ _ h1 h2 => run_fieldAddr fo_84_1 (h1.ev rfl)) ?_
     refine Tr.val (wg rfl rfl rfl) rfl (fun _ _ h1 h2 => run_load1 ag_9 (h1.ev rfl) (rdb h2 (vs := [(.int .i64 x133.Kind), (.string x133.Name), (.int .i64 x133.At.X), (.int .i64 x133.At.Y), (.slice Au134_0 (x133.Points).length cu134_0), (.int .i64 x133.NX), (.int .i64 x133.NY), (.slice Au134_1 (x133.Steps).length cu134_1)]) (k := 5) rfl 1) rfl) ?_
     refine Tr.val (wg rfl rfl rfl) rfl (fun _ _ h1 h2 => run_fieldAddr fo_84_1 (h1.ev rfl)) ?_
     refine Tr.val (wg rfl rfl rfl) rfl (fun _ _ h1 h2 => run_load1 ag_9 (h1.ev rfl) (rdb h2 (vs := [(.int .i64 x135.Kind), (.string x135.Name), (.int .i64 x135.At.X), (.int .i64 x135.At.Y), (.slice Au136_0 (x135.Points).length cu136_0), (.int .i64 x135.NX), (.int .i64 x135.NY), (.slice Au136_1 (x135.Steps).length cu136_1)]) (k := 6) rfl 1) rfl) ?_
     refine Tr.val (wg rfl rfl rfl) rfl (fun _ _ h1 h2 => run_neqS (h1.ev rfl) (h1.ev rfl)) ?_
     refine Tr.va rfl (fun _ _ h1 h2 => run_pickF (h1.ev rfl) (h1.ev rfl)) ?_
     exact Tr.nil (Tr.fin0 (.cons rfl (.cons rfl (.cons rfl (.cons rfl (.cons rfl (.cons rfl .nil)))))) (.cons rfl (.cons rfl .nil)))
    ·refine Tr.pass rfl rfl rfl rfl rfl (by decide) ?_
     refine Tr.pass rfl rfl rfl rfl rfl (by decide) ?_
     refine Tr.pass rfl rfl rfl rfl rfl (by decide) ?_
     refine Tr.pass rfl rfl rfl rfl rfl (by decide) ?_
     refine Tr.pass rfl rfl rfl rfl rfl (by decide) ?_
     refine Tr.va rfl (fun _ _ h1 h2 => run_pickT (h1.ev rfl) (h1.ev rfl)) ?_
     exact Tr.nil (Tr.fin0 (.cons rfl (.cons rfl (.cons rfl (.cons rfl (.cons rfl (.cons rfl .nil)))))) (.cons rfl (.cons rfl .nil)))
   ·show Tr _ _ (LF [(0, (.slice Ap0_0 (p0).length cp0_0)), (1, (.slice Ap1_0 (p1).length cp1_0)), (5, (.int .i64 x131)), (6, (.pointer (some ⟨b137, 0, none⟩))), (7, (.pointer (some ⟨b138, 0, none⟩))), (38, (.bool ((x133.Kind != x135.Kind) || (!sEq x133.Name x135.Name))))]) (LE [(5, bx b137 #[(.int .i64 x133.Kind), (.string x133.Name), (.int .i64 x133.At.X), (.int .i64 x133.At.Y), (.slice Au134_0 (x133.Points).length cu134_0), (.int .i64 x133.NX), (.int .i64 x133.NY), (.slice Au134_1 (x133.Steps).length cu134_1)] 84), (6, bx b138 #[(.int .i64 x135.Kind), (.string x135.Name), (.int .i64 x135.At.X), (.int .i64 x135.At.Y), (.slice Au136_0 (x135.Points).length cu136_0), (.int .i64 x135.NX), (.int .i64 x135.NY), (.slice Au136_1 (x135.Steps).length cu136_1)] 84)]) _
    refine Tr.mv rfl rfl ?_
    refine Tr.mid0 6 [(0, (.slice Ap0_0 (p0).length cp0_0)), (1, (.slice Ap1_0 (p1).length cp1_0)), (5, (.int .i64 x131)), (6, (.pointer (some ⟨b137, 0, none⟩))), (7, (.pointer (some ⟨b138, 0, none⟩))), (45, (.bool (((x133.Kind != x135.Kind) || (!sEq x133.Name x135.Name)) || (!(eqTPoint x133.At x135.At)))))] [(5, bx b137 #[(.int .i64 x133.Kind), (.string x133.Name), (.int .i64 x133.At.X), (.int .i64 x133.At.Y), (.slice Au134_0 (x133.Points).length cu134_0), (.int .i64 x133.NX), (.int .i64 x133.NY), (.slice Au134_1 (x133.Steps).length cu134_1)] 84), (6, bx b138 #[(.int .i64 x135.Kind), (.string x135.Name), (.int .i64 x135.At.X), (.int .i64 x135.At.Y), (.slice Au136_0 (x135.Points).length cu136_0), (.int .i64 x135.NX), (.int .i64 x135.NY), (.slice Au136_1 (x135.Steps).length cu136_1)] 84)] ?_ ?_
    ·cases hg144 : ((x133.Kind != x135.Kind) || (!sEq x133.Name x135.Name))
     ·refine Tr.val (wg rfl rfl rfl) rfl (fun _ _ h1 h2 => run_fieldAddr fo_84_2 (h1.ev rfl)) ?_
      refine Tr.val (wg rfl rfl rfl) rfl (fun _ _ h1 h2 => run_loadN (cs := [(.int .i64 x133.At.X), (.int .i64 x133.At.Y)]) ag_37 sz_37 (h1.ev rfl) (CellsAt.take (rdb h2 (vs := [(.int .i64 x133.Kind), (.string x133.Name), (.int .i64 x133.At.X), (.int .i64 x133.At.Y), (.slice Au134_0 (x133.Points).length cu134_0), (.int .i64 x133.NX), (.int .i64 x133.NY), (.slice Au134_1 (x133.Steps).length cu134_1)]) (k := 5) rfl 2) 2) rfl) ?_
      refine Tr.val (wg rfl rfl rfl) rfl (fun _ _ h1 h2 => run_fieldAddr fo_84_2 (h1.ev rfl)) ?_
      refine Tr.val (wg rfl rfl rfl) rfl (fun _ _ h1 h2 => run_loadN (cs := [(.int .i64 x135.At.X), (.int .i64 x135.At.Y)]) ag_37 sz_37 (h1.ev rfl) (CellsAt.take (rdb h2 (vs := [(.int .i64 x135.Kind), (.string x135.Name), (.int .i64 x135.At.X), (.int .i64 x135.At.Y), (.slice Au136_0 (x135.Points).length cu136_0), (.int .i64 x135.NX), (.int .i64 x135.NY), (.slice Au136_1 (x135.Steps).length cu136_1)]) (k := 6) rfl 2) 2) rfl) ?_
      refine Tr.val (wg rfl rfl rfl) rfl (fun _ _ h1 h2 => run_neq_37 x133.At x135.At (h1.ev rfl) (h1.ev rfl)) ?_
      refine Tr.va rfl (fun _ _ h1 h2 => run_pickF (h1.ev rfl) (h1.ev rfl)) ?_
      exact Tr.nil (Tr.fin0 (.cons rfl (.cons rfl (.cons rfl (.cons rfl (.cons rfl (.cons rfl .nil)))))) (.cons rfl (.cons rfl .nil)))
     ·refine Tr.pass rfl rfl rfl rfl rfl (by decide) ?_
      refine Tr.pass rfl rfl rfl rfl rfl (by decide) ?_
      refine Tr.pass rfl rfl rfl rfl rfl (by decide) ?_
      refine Tr.pass rfl rfl rfl rfl rfl (by decide) ?_
      refine Tr.pass rfl rfl rfl rfl rfl (by decide) ?_
      refine Tr.va rfl (fun _ _ h1 h2 => run_pickT (h1.ev rfl) (h1.ev rfl)) ?_
      exact Tr.nil (Tr.fin0 (.cons rfl (.cons rfl (.cons rfl (.cons rfl (.cons rfl (.cons rfl .nil)))))) (.cons rfl (.cons rfl .nil)))
    ·show Tr _ _ (LF [(0, (.slice Ap0_0 (p0).length cp0_0)), (1, (.slice Ap1_0 (p1).length cp1_0)), (5, (.int .i64 x131)), (6, (.pointer (some ⟨b137, 0, none⟩))), (7, (.pointer (some ⟨b138, 0, none⟩))), (45, (.bool (((x133.Kind != x135.Kind) || (!sEq x133.Name x135.Name)) || (!(eqTPoint x133.At x135.At)))))]) (LE [(5, bx b137 #[(.int .i64 x133.Kind), (.string x133.Name), (.int .i64 x133.At.X), (.int .i64 x133.At.Y), (.slice Au134_0 (x133.Points).length cu134_0), (.int .i64 x133.NX), (.int .i64 x133.NY), (.slice Au134_1 (x133.Steps).length cu134_1)] 84), (6, bx b138 #[(.int .i64 x135.Kind), (.string x135.Name), (.int .i64 x135.At.X), (.int .i64 x135.At.Y), (.slice Au136_0 (x135.Points).length cu136_0), (.int .i64 x135.NX), (.int .i64 x135.NY), (.slice Au136_1 (x135.Steps).length cu136_1)] 84)]) _
     refine Tr.mv rfl rfl ?_
     refine Tr.mid0 6 [(0, (.slice Ap0_0 (p0).length cp0_0)), (1, (.slice Ap1_0 (p1).length cp1_0)), (5, (.int .i64 x131)), (6, (.pointer (some ⟨b137, 0, none⟩))), (7, (.pointer (some ⟨b138, 0, none⟩))), (52, (.bool ((((x133.Kind != x135.Kind) || (!sEq x133.Name x135.Name)) || (!(eqTPoint x133.At x135.At))) || (x133.NX != x135.NX))))] [(5, bx b137 #[(.int .i64 x133.Kind), (.string x133.Name), (.int .i64 x133.At.X), (.int .i64 x133.At.Y), (.slice Au134_0 (x133.Points).length cu134_0), (.int .i64 x133.NX), (.int .i64 x133.NY), (.slice Au134_1 (x133.Steps).length cu134_1)] 84), (6, bx b138 #[(.int .i64 x135.Kind), (.string x135.Name), (.int .i64 x135.At.X), (.int .i64 x135.At.Y), (.slice Au136_0 (x135.Points).length cu136_0), (.int .i64 x135.NX), (.int .i64 x135.NY), (.slice Au136_1 (x135.Steps).length cu136_1)] 84)] ?_ ?_
     ·cases hg144 : (((x133.Kind != x135.Kind) || (!sEq x133.Name x135.Name)) || (!(eqTPoint x133.At x135.At)))
      ·refine Tr.val (wg rfl rfl rfl) rfl (fun _ _ h1 h2 => run_fieldAddr fo_84_4 (h1.ev rfl)) ?_
       refine Tr.val (wg rfl rfl rfl) rfl (fun _ _ h1 h2 => run_load1 ag_3 (h1.ev rfl) (rdb h2 (vs := [(.int .i64 x133.Kind), (.string x133.Name), (.int .i64 x133.At.X), (.int .i64 x133.At.Y), (.slice Au134_0 (x133.Points).length cu134_0), (.int .i64 x133.NX), (.int .i64 x133.NY), (.slice Au134_1 (x133.Steps).length cu134_1)]) (k := 5) rfl 5) rfl) ?_
       refine Tr.val (wg rfl rfl rfl) rfl (fun _ _ h1 h2 => run_fieldAddr fo_84_4 (h1.ev rfl)) ?_
       refine Tr.val (wg rfl rfl rfl) rfl (fun _ _ h1 h2 => run_load1 ag_3 (h1.ev rfl) (rdb h2 (vs := [(.int .i64 x135.Kind), (.string x135.Name), (.int .i64 x135.At.X), (.int .i64 x135.At.Y), (.slice Au136_0 (x135.Points).length cu136_0), (.int .i64 x135.NX), (.int .i64 x135.NY), (.slice Au136_1 (x135.Steps).length cu136_1)]) (k := 6) rfl 5) rfl) ?_
       refine Tr.val (wg rfl rfl rfl) rfl (fun _ _ h1 h2 => run_neq (h1.ev rfl) (h1.ev rfl)) ?_
       refine Tr.va rfl (fun _ _ h1 h2 => run_pickF (h1.ev rfl) (h1.ev rfl)) ?_
       exact Tr.nil (Tr.fin0 (.cons rfl (.cons rfl (.cons rfl (.cons rfl (.cons rfl (.cons rfl .nil)))))) (.cons rfl (.cons rfl .nil)))
      ·refine Tr.pass rfl rfl rfl rfl rfl (by decide) ?_
       refine Tr.pass rfl rfl rfl rfl rfl (by decide) ?_
       refine Tr.pass rfl rfl rfl rfl rfl (by decide) ?_
       refine Tr.pass rfl rfl rfl rfl rfl (by decide) ?_
       refine Tr.pass rfl rfl rfl rfl rfl (by decide) ?_
       refine Tr.va rfl (fun _ _ h1 h2 => run_pickT (h1.ev rfl) (h1.ev rfl)) ?_
       exact Tr.nil (Tr.fin0 (.cons rfl (.cons rfl (.cons rfl (.cons rfl (.cons rfl (.cons rfl .nil)))))) (.cons rfl (.cons rfl .nil)))
     ·show Tr _ _ (LF [(0, (.slice Ap0_0 (p0).length cp0_0)), (1, (.slice Ap1_0 (p1).length cp1_0)), (5, (.int .i64 x131)), (6, (.pointer (some ⟨b137, 0, none⟩))), (7, (.pointer (some ⟨b138, 0, none⟩))), (52, (.bool ((((x133.Kind != x135.Kind) || (!sEq x133.Name x135.Name)) || (!(eqTPoint x133.At x135.At))) || (x133.NX != x135.NX))))]) (LE [(5, bx b137 #[(.int .i64 x133.Kind), (.string x133.Name), (.int .i64 x133.At.X), (.int .i64 x133.At.Y), (.slice Au134_0 (x133.Points).length cu134_0), (.int .i64 x133.NX), (.int .i64 x133.NY), (.slice Au134_1 (x133.Steps).length cu134_1)] 84), (6, bx b138 #[(.int .i64 x135.Kind), (.string x135.Name), (.int .i64 x135.At.X), (.int .i64 x135.At.Y), (.slice Au136_0 (x135.Points).length cu136_0), (.int .i64 x135.NX), (.int .i64 x135.NY), (.slice Au136_1 (x135.Steps).length cu136_1)] 84)]) _
      refine Tr.mv rfl rfl ?_
      refine Tr.mid0 6 [(0, (.slice Ap0_0 (p0).length cp0_0)), (1, (.slice Ap1_0 (p1).length cp1_0)), (5, (.int .i64 x131)), (6, (.pointer (some ⟨b137, 0, none⟩))), (7, (.pointer (some ⟨b138, 0, none⟩))), (59, (.bool (((((x133.Kind != x135.Kind) || (!sEq x133.Name x135.Name)) || (!(eqTPoint x133.At x135.At))) || (x133.NX != x135.NX)) || (x133.NY != x135.NY))))] [(5, bx b137 #[(.int .i64 x133.Kind), (.string x133.Name), (.int .i64 x133.At.X), (.int .i64 x133.At.Y), (.slice Au134_0 (x133.Points).length cu134_0), (.int .i64 x133.NX), (.int .i64 x133.NY), (.slice Au134_1 (x133.Steps).length cu134_1)] 84), (6, bx b138 #[(.int .i64 x135.Kind), (.string x135.Name), (.int .i64 x135.At.X), (.int .i64 x135.At.Y), (.slice Au136_0 (x135.Points).length cu136_0), (.int .i64 x135.NX), (.int .i64 x135.NY), (.slice Au136_1 (x135.Steps).length cu136_1)] 84)] ?_ ?_
      ·cases hg144 : ((((x133.Kind != x135.Kind) || (!sEq x133.Name x135.Name)) || (!(eqTPoint x133.At x135.At))) || (x133.NX != x135.NX))
       ·refine Tr.val (wg rfl rfl rfl) rfl (fun _ _ h1 h2 => run_fieldAddr fo_84_5 (h1.ev rfl)) ?_
        refine Tr.val (wg rfl rfl rfl) rfl (fun _ _ h1 h2 => run_load1 ag_3 (h1.ev rfl) (rdb h2 (vs := [(.int .i64 x133.Kind), (.string x133.Name), (.int .i64 x133.At.X), (.int .i64 x133.At.Y), (.slice Au134_0 (x133.Points).length cu134_0), (.int .i64 x133.NX), (.int .i64 x133.NY), (.slice Au134_1 (x133.Steps).length cu134_1)]) (k := 5) rfl 6) rfl) ?_
        refine Tr.val (wg rfl rfl rfl) rfl (fun _ _ h1 h2 => run_fieldAddr fo_84_5 (h1.ev rfl)) ?_
        refine Tr.val (wg rfl rfl rfl) rfl (fun _ _ h1 h2 => run_load1 ag_3 (h1.ev rfl) (rdb h2 (vs := [(.int .i64 x135.Kind), (.string x135.Name), (.int .i64 x135.At.X), (.int .i64 x135.At.Y), (.slice Au136_0 (x135.Points).length cu136_0), (.int .i64 x135.NX), (.int .i64 x135.NY), (.slice Au136_1 (x135.Steps).length cu136_1)]) (k := 6) rfl 6) rfl) ?_
        refine Tr.val (wg rfl rfl rfl) rfl (fun _ _ h1 h2 => run_neq (h1.ev rfl) (h1.ev rfl)) ?_
        refine Tr.va rfl (fun _ _ h1 h2 => run_pickF (h1.ev rfl) (h1.ev rfl)) ?_
        exact Tr.nil (Tr.fin0 (.cons rfl (.cons rfl (.cons rfl (.cons rfl (.cons rfl (.cons rfl .nil)))))) (.cons rfl (.cons rfl .nil)))
       ·refine Tr.pass rfl rfl rfl rfl rfl (by decide) ?_
        refine Tr.pass rfl rfl rfl rfl rfl (by decide) ?_
        refine Tr.pass rfl rfl rfl rfl rfl (by decide) ?_
        refine Tr.pass rfl rfl rfl rfl rfl (by decide) ?_
        refine Tr.pass rfl rfl rfl rfl rfl (by decide) ?_
        refine Tr.va rfl (fun _ _ h1 h2 => run_pickT (h1.ev rfl) (h1.ev rfl)) ?_
        exact Tr.nil (Tr.fin0 (.cons rfl (.cons rfl (.cons rfl (.cons rfl (.cons rfl (.cons rfl .nil)))))) (.cons rfl (.cons rfl .nil)))
      ·show Tr _ _ (LF [(0, (.slice Ap0_0 (p0).length cp0_0)), (1, (.slice Ap1_0 (p1).length cp1_0)), (5, (.int .i64 x131)), (6, (.pointer (some ⟨b137, 0, none⟩))), (7, (.pointer (some ⟨b138, 0, none⟩))), (59, (.bool (((((x133.Kind != x135.Kind) || (!sEq x133.Name x135.Name)) || (!(eqTPoint x133.At x135.At))) || (x133.NX != x135.NX)) || (x133.NY != x135.NY))))]) (LE [(5, bx b137 #[(.int .i64 x133.Kind), (.string x133.Name), (.int .i64 x133.At.X), (.int .i64 x133.At.Y), (.slice Au134_0 (x133.Points).length cu134_0), (.int .i64 x133.NX), (.int .i64 x133.NY), (.slice Au134_1 (x133.Steps).length cu134_1)] 84), (6, bx b138 #[(.int .i64 x135.Kind), (.string x135.Name), (.int .i64 x135.At.X), (.int .i64 x135.At.Y), (.slice Au136_0 (x135.Points).length cu136_0), (.int .i64 x135.NX), (.int .i64 x135.NY), (.slice Au136_1 (x135.Steps).length cu136_1)] 84)]) _
       refine Tr.mv rfl rfl ?_
       obtain ⟨g140, hg140, H⟩ := bnd H
       refine Tr.mid0 7 [(0, (.slice Ap0_0 (p0).length cp0_0)), (1, (.slice Ap1_0 (p1).length cp1_0)), (5, (.int .i64 x131)), (6, (.pointer (some ⟨b137, 0, none⟩))), (7, (.pointer (some ⟨b138, 0, none⟩))), (67, (.bool g140))] [(5, bx b137 #[(.int .i64 x133.Kind), (.string x133.Name), (.int .i64 x133.At.X), (.int .i64 x133.At.Y), (.slice Au134_0 (x133.Points).length cu134_0), (.int .i64 x133.NX), (.int .i64 x133.NY), (.slice Au134_1 (x133.Steps).length cu134_1)] 84), (6, bx b138 #[(.int .i64 x135.Kind), (.string x135.Name), (.int .i64 x135.At.X), (.int .i64 x135.At.Y), (.slice Au136_0 (x135.Points).length cu136_0), (.int .i64 x135.NX), (.int .i64 x135.NY), (.slice Au136_1 (x135.Steps).length cu136_1)] 84)] ?_ ?_
       ·cases hg144 : (((((x133.Kind != x135.Kind) || (!sEq x133.Name x135.Name)) || (!(eqTPoint x133.At x135.At))) || (x133.NX != x135.NX)) || (x133.NY != x135.NY))
        ·rw [hg144] at hg140
         rw [if_neg (by decide)] at hg140
         have H := hg140
         refine Tr.val (wg rfl rfl rfl) rfl (fun _ _ h1 h2 => run_fieldAddr fo_84_3 (h1.ev rfl)) ?_
         refine Tr.val (wg rfl rfl rfl) rfl (fun _ _ h1 h2 => run_load1 ag_82 (h1.ev rfl) (rdb h2 (vs := [(.int .i64 x133.Kind), (.string x133.Name), (.int .i64 x133.At.X), (.int .i64 x133.At.Y), (.slice Au134_0 (x133.Points).length cu134_0), (.int .i64 x133.NX), (.int .i64 x133.NY), (.slice Au134_1 (x133.Steps).length cu134_1)]) (k := 5) rfl 4) rfl) ?_
         refine Tr.val (wg rfl rfl rfl) rfl (fun _ _ h1 h2 => run_fieldAddr fo_84_3 (h1.ev rfl)) ?_
         refine Tr.val (wg rfl rfl rfl) rfl (fun _ _ h1 h2 => run_load1 ag_82 (h1.ev rfl) (rdb h2 (vs := [(.int .i64 x135.Kind), (.string x135.Name), (.int .i64 x135.At.X), (.int .i64 x135.At.Y), (.slice Au136_0 (x135.Points).length cu136_0), (.int .i64 x135.NX), (.int .i64 x135.NY), (.slice Au136_1 (x135.Steps).length cu136_1)]) (k := 6) rfl 4) rfl) ?_
         obtain ⟨y141, hy141, H⟩ := bnd H
         refine Tr.call0 (r := (.bool y141)) (wg rfl rfl rfl) rfl Tryd.call72 (evl_cons rfl (evl_cons rfl evl_nil)) (fun W hW => F_etchhouseref3_samePoints_ok N x133.Points Au134_0 cu134_0 (hoku134_0.ext hW.extAll) x135.Points Au136_0 cu136_0 (hoku136_0.ext hW.extAll) y141 hy141 (HF.start _)) ?_
         refine Tr.val (wg rfl rfl rfl) rfl (fun _ _ h1 h2 => run_not (h1.ev rfl)) ?_
         refine Tr.va rfl (fun _ _ h1 h2 => run_pickF (h1.ev rfl) (h1.ev rfl)) ?_
         obtain rfl := Option.some.inj H
         exact Tr.nil (Tr.fin0 (.cons rfl (.cons rfl (.cons rfl (.cons rfl (.cons rfl (.cons rfl .nil)))))) (.cons rfl (.cons rfl .nil)))
        ·rw [hg144] at hg140
         rw [if_pos rfl] at hg140
         have H := hg140
         obtain rfl := Option.some.inj H
         refine Tr.pass rfl rfl rfl rfl rfl (by decide) ?_
         refine Tr.pass rfl rfl rfl rfl rfl (by decide) ?_
         refine Tr.pass rfl rfl rfl rfl rfl (by decide) ?_
         refine Tr.pass rfl rfl rfl rfl rfl (by decide) ?_
         refine Tr.pass rfl rfl rfl rfl rfl (by decide) ?_
         refine Tr.pass rfl rfl rfl rfl rfl (by decide) ?_
         refine Tr.va rfl (fun _ _ h1 h2 => run_pickT (h1.ev rfl) (h1.ev rfl)) ?_
         exact Tr.nil (Tr.fin0 (.cons rfl (.cons rfl (.cons rfl (.cons rfl (.cons rfl (.cons rfl .nil)))))) (.cons rfl (.cons rfl .nil)))
       ·show Tr _ _ (LF [(0, (.slice Ap0_0 (p0).length cp0_0)), (1, (.slice Ap1_0 (p1).length cp1_0)), (5, (.int .i64 x131)), (6, (.pointer (some ⟨b137, 0, none⟩))), (7, (.pointer (some ⟨b138, 0, none⟩))), (67, (.bool g140))]) (LE [(5, bx b137 #[(.int .i64 x133.Kind), (.string x133.Name), (.int .i64 x133.At.X), (.int .i64 x133.At.Y), (.slice Au134_0 (x133.Points).length cu134_0), (.int .i64 x133.NX), (.int .i64 x133.NY), (.slice Au134_1 (x133.Steps).length cu134_1)] 84), (6, bx b138 #[(.int .i64 x135.Kind), (.string x135.Name), (.int .i64 x135.At.X), (.int .i64 x135.At.Y), (.slice Au136_0 (x135.Points).length cu136_0), (.int .i64 x135.NX), (.int .i64 x135.NY), (.slice Au136_1 (x135.Steps).length cu136_1)] 84)]) _
        refine Tr.mv rfl rfl ?_
        obtain ⟨g143, hg143, H⟩ := bnd H
        refine Tr.mid0 7 [(0, (.slice Ap0_0 (p0).length cp0_0)), (1, (.slice Ap1_0 (p1).length cp1_0)), (5, (.int .i64 x131)), (75, (.bool g143))] [(5, bx b137 #[(.int .i64 x133.Kind), (.string x133.Name), (.int .i64 x133.At.X), (.int .i64 x133.At.Y), (.slice Au134_0 (x133.Points).length cu134_0), (.int .i64 x133.NX), (.int .i64 x133.NY), (.slice Au134_1 (x133.Steps).length cu134_1)] 84), (6, bx b138 #[(.int .i64 x135.Kind), (.string x135.Name), (.int .i64 x135.At.X), (.int .i64 x135.At.Y), (.slice Au136_0 (x135.Points).length cu136_0), (.int .i64 x135.NX), (.int .i64 x135.NY), (.slice Au136_1 (x135.Steps).length cu136_1)] 84)] ?_ ?_
        ·cases hg144 : g140
         ·rw [hg144] at hg143
          rw [if_neg (by decide)] at hg143
          have H := hg143
          refine Tr.val (wg rfl rfl rfl) rfl (fun _ _ h1 h2 => run_fieldAddr fo_84_6 (h1.ev rfl)) ?_
          refine Tr.val (wg rfl rfl rfl) rfl (fun _ _ h1 h2 => run_load1 ag_23 (h1.ev rfl) (rdb h2 (vs := [(.int .i64 x133.Kind), (.string x133.Name), (.int .i64 x133.At.X), (.int .i64 x133.At.Y), (.slice Au134_0 (x133.Points).length cu134_0), (.int .i64 x133.NX), (.int .i64 x133.NY), (.slice Au134_1 (x133.Steps).length cu134_1)]) (k := 5) rfl 7) rfl) ?_
          refine Tr.val (wg rfl rfl rfl) rfl (fun _ _ h1 h2 => run_fieldAddr fo_84_6 (h1.ev rfl)) ?_
          refine Tr.val (wg rfl rfl rfl) rfl (fun _ _ h1 h2 => run_load1 ag_23 (h1.ev rfl) (rdb h2 (vs := [(.int .i64 x135.Kind), (.string x135.Name), (.int .i64 x135.At.X), (.int .i64 x135.At.Y), (.slice Au136_0 (x135.Points).length cu136_0), (.int .i64 x135.NX), (.int .i64 x135.NY), (.slice Au136_1 (x135.Steps).length cu136_1)]) (k := 6) rfl 7) rfl) ?_
          obtain ⟨y144, hy144, H⟩ := bnd H
          refine Tr.call0 (r := (.bool y144)) (wg rfl rfl rfl) rfl Tryd.call38 (evl_cons rfl (evl_cons rfl evl_nil)) (fun W hW => hrec x133.Steps Au134_1 cu134_1 (hoku134_1.ext hW.extAll) x135.Steps Au136_1 cu136_1 (hoku136_1.ext hW.extAll) y144 hy144 (HF.start _)) ?_
          refine Tr.val (wg rfl rfl rfl) rfl (fun _ _ h1 h2 => run_not (h1.ev rfl)) ?_
          refine Tr.va rfl (fun _ _ h1 h2 => run_pickF (h1.ev rfl) (h1.ev rfl)) ?_
          obtain rfl := Option.some.inj H
          exact Tr.nil (Tr.fin0 (.cons rfl (.cons rfl (.cons rfl (.cons rfl .nil)))) (.cons rfl (.cons rfl .nil)))
         ·rw [hg144] at hg143
          rw [if_pos rfl] at hg143
          have H := hg143
          obtain rfl := Option.some.inj H
          refine Tr.pass rfl rfl rfl rfl rfl (by decide) ?_
          refine Tr.pass rfl rfl rfl rfl rfl (by decide) ?_
          refine Tr.pass rfl rfl rfl rfl rfl (by decide) ?_
          refine Tr.pass rfl rfl rfl rfl rfl (by decide) ?_
          refine Tr.pass rfl rfl rfl rfl rfl (by decide) ?_
          refine Tr.pass rfl rfl rfl rfl rfl (by decide) ?_
          refine Tr.va rfl (fun _ _ h1 h2 => run_pickT (h1.ev rfl) (h1.ev rfl)) ?_
          exact Tr.nil (Tr.fin0 (.cons rfl (.cons rfl (.cons rfl (.cons rfl .nil)))) (.cons rfl (.cons rfl .nil)))
        ·show Tr _ _ (LF [(0, (.slice Ap0_0 (p0).length cp0_0)), (1, (.slice Ap1_0 (p1).length cp1_0)), (5, (.int .i64 x131)), (75, (.bool g143))]) (LE [(5, bx b137 #[(.int .i64 x133.Kind), (.string x133.Name), (.int .i64 x133.At.X), (.int .i64 x133.At.Y), (.slice Au134_0 (x133.Points).length cu134_0), (.int .i64 x133.NX), (.int .i64 x133.NY), (.slice Au134_1 (x133.Steps).length cu134_1)] 84), (6, bx b138 #[(.int .i64 x135.Kind), (.string x135.Name), (.int .i64 x135.At.X), (.int .i64 x135.At.Y), (.slice Au136_0 (x135.Points).length cu136_0), (.int .i64 x135.NX), (.int .i64 x135.NY), (.slice Au136_1 (x135.Steps).length cu136_1)] 84)]) _
         refine Tr.nil (Tr.normThen ?_)
         refine Tr.cond rfl H (fun H => ?_) (fun H => ?_)
         ·refine Tr.sr ?_
          refine Tr.asg rfl rfl ?_
          refine Tr.nil (Tr.normThen ?_)
          refine Tr.ret (Tr.retBlock (Tr.retThen (Tr.retThen (Tr.retBlock (Tr.retThen ?_)))))
          obtain rfl := Option.some.inj H
          exact Tr.out (m := [(.bool false)]) [] (res_tmp rfl res_nil) (fun W hW => ⟨rfl, hW.low leB⟩)
         ·refine Tr.skip (Tr.normBlock (Tr.normThen ?_))
          refine Tr.region ?_
          refine Tr.mv rfl rfl ?_
          refine Tr.va rfl (fun _ _ h1 h2 => run_add (h1.ev rfl) (h1.ev rfl)) ?_
          refine Tr.asg rfl rfl ?_
          refine Tr.nil ?_
          exact Tr.backThen leF_etchhouseref3_sameSteps_L1 (w64 (x131 + 1)) H (.cons rfl (.cons rfl (.cons rfl .nil))) .nil
  ·refine Tr.exit (Tr.exitThen (Tr.exitThen (Tr.exitBlock (Tr.normThen ?_))))
   refine Tr.sr ?_
   refine Tr.asg rfl rfl ?_
   refine Tr.nil (Tr.normThen ?_)
   refine Tr.ret ?_
   obtain rfl := Option.some.inj H
   exact Tr.out (m := [(.bool true)]) [] (res_tmp rfl res_nil) (fun W hW => ⟨rfl, hW.low leB⟩)
theorem F_etchhouseref3_sameSteps_ok : ∀ (N : Nat) {w : Bs} (p0 : (List TPlotStep)) (Ap0_0 : Option Addr) (cp0_0 : Nat) (hp0_0 : Sl w.R w.W fl_TPlotStep Ap0_0 cp0_0 p0) (p1 : (List TPlotStep)) (Ap1_0 : Option Addr) (cp1_0 : Nat) (hp1_0 : Sl w.R w.W fl_TPlotStep Ap1_0 cp1_0 p1) (r : Bool) (H : F_etchhouseref3_sameSteps N p0 p1 = some r) (hE : HF w w.W E0), Calls Tryd.prog 38 [(.slice Ap0_0 (p0).length cp0_0), (.slice Ap1_0 (p1).length cp1_0)].toArray w.W fun e W' => e = .returned (.bool r) ∧ HF w W' E0
 | 0 => by intros; rename_i H _; cases H
 | N + 1 => F_etchhouseref3_sameSteps_b_ok N (F_etchhouseref3_sameSteps N) (F_etchhouseref3_sameSteps_ok N)

theorem F_etchhouseref1_SameRects_ok (N : Nat) {w : Bs} (p0 : (List TRect)) (Ap0_0 : Option Addr) (cp0_0 : Nat) (hp0_0 : Sl w.R w.W fl_TRect Ap0_0 cp0_0 p0) (p1 : (List TRect)) (Ap1_0 : Option Addr) (cp1_0 : Nat) (hp1_0 : Sl w.R w.W fl_TRect Ap1_0 cp1_0 p1) (r : Bool) (H : F_etchhouseref1_SameRects N p0 p1 = some r) (hE : HF w w.W E0) : Calls Tryd.prog 39 [(.slice Ap0_0 (p0).length cp0_0), (.slice Ap1_0 (p1).length cp1_0)].toArray w.W fun e W' => e = .returned (.bool r) ∧ HF w W' E0 := by
 unfold F_etchhouseref1_SameRects at H
 have leB := Bs.Le.refl w
 refine Tr.enter (n := 26) Tryd.func39 rfl rfl rfl hE ?_
 refine Tr.sr ?_
 refine Tr.asg rfl rfl ?_
 refine Tr.nil (Tr.normThen ?_)
 refine Tr.seq ?_
 refine Tr.sr ?_
 refine Tr.mv rfl rfl ?_
 refine Tr.va rfl (fun _ _ h1 h2 => run_len un_53 (h1.ev rfl)) ?_
 refine Tr.mv rfl rfl ?_
 refine Tr.va rfl (fun _ _ h1 h2 => run_len un_53 (h1.ev rfl)) ?_
 refine Tr.va rfl (fun _ _ h1 h2 => run_neq (h1.ev rfl) (h1.ev rfl)) ?_
 refine Tr.nil (Tr.normThen ?_)
 refine Tr.cond rfl H (fun H => ?_) (fun H => ?_)
 ·refine Tr.sr ?_
  refine Tr.asg rfl rfl ?_
  refine Tr.nil (Tr.normThen ?_)
  refine Tr.ret (Tr.retThen ?_)
  obtain rfl := Option.some.inj H
  exact Tr.out (m := [(.bool false)]) [] (res_tmp rfl res_nil) (fun W hW => ⟨rfl, hW.low leB⟩)
 ·refine Tr.skip (Tr.normThen ?_)
  refine Tr.seq ?_
  refine Tr.sr ?_
  refine Tr.asg rfl rfl ?_
  refine Tr.nil (Tr.normThen ?_)
  refine Tr.block ?_
  refine Tr.loop (σ := Int) (fun m w s => F_etchhouseref1_SameRects_L1 p0 p1 m s = some r) (fun s => [(0, (.slice Ap0_0 (p0).length cp0_0)), (1, (.slice Ap1_0 (p1).length cp1_0)), (5, (.int .i64 s))]) (fun s => []) N 0 H (.cons rfl (.cons rfl (.cons rfl .nil))) .nil (fun _ _ h => noSome (h)) ?_
  intro w leF_etchhouseref1_SameRects_L1 mF_etchhouseref1_SameRects_L1 x107 hs
  have H := hs
  replace H : F_etchhouseref1_SameRects_L1 p0 p1 (mF_etchhouseref1_SameRects_L1 + 1) x107 = some r := H
  replace hp0_0 := hp0_0.leR leF_etchhouseref1_SameRects_L1
  replace hp1_0 := hp1_0.leR leF_etchhouseref1_SameRects_L1
  replace leB := leB.trans leF_etchhouseref1_SameRects_L1
  rw [F_etchhouseref1_SameRects_L1.eq_2] at H
  show Tr _ _ (LF [(0, (.slice Ap0_0 (p0).length cp0_0)), (1, (.slice Ap1_0 (p1).length cp1_0)), (5, (.int .i64 x107))]) (LE []) _
  refine Tr.seq ?_
  refine Tr.sr ?_
  refine Tr.mv rfl rfl ?_
  refine Tr.mv rfl rfl ?_
  refine Tr.va rfl (fun _ _ h1 h2 => run_len un_53 (h1.ev rfl)) ?_
  refine Tr.va rfl (fun _ _ h1 h2 => run_lss (h1.ev rfl) (h1.ev rfl)) ?_
  refine Tr.nil (Tr.normThen ?_)
  refine Tr.cond rfl H (fun H => ?_) (fun H => ?_)
  ·refine Tr.skip (Tr.normThen ?_)
   refine Tr.seq ?_
   refine Tr.block ?_
   refine Tr.seq ?_
   refine Tr.draw (by kernel_rfl) (by kernel_rfl) ?_
   refine Tq.mv rfl rfl ?_
   refine Tq.mv rfl rfl ?_
   obtain ⟨x108, hx108, H⟩ := bnd H
   obtain ⟨hx1080, hx1081, hx1082⟩ := idx_some hx108
   refine Tq.va rfl (fun _ _ h1 h2 => run_indexAddr el_53 (h1.ev rfl) hp0_0.form (h1.ev rfl) hx1080 hx1081) ?_
   refine Tq.va rfl (fun _ _ h1 h2 => run_loadN (cs := [(.int .i64 x108.X0), (.int .i64 x108.Y0), (.int .i64 x108.X1), (.int .i64 x108.Y1)]) ag_57 sz_57 (h1.ev rfl) (CellsAt.take (rdF ef_TRect hp0_0 hx1082 h2) 4) rfl) ?_
   refine Tq.mv rfl rfl ?_
   refine Tq.mv rfl rfl ?_
   obtain ⟨x109, hx109, H⟩ := bnd H
   obtain ⟨hx1090, hx1091, hx1092⟩ := idx_some hx109
   refine Tq.va rfl (fun _ _ h1 h2 => run_indexAddr el_53 (h1.ev rfl) hp1_0.form (h1.ev rfl) hx1090 hx1091) ?_
   refine Tq.va rfl (fun _ _ h1 h2 => run_loadN (cs := [(.int .i64 x109.X0), (.int .i64 x109.Y0), (.int .i64 x109.X1), (.int .i64 x109.Y1)]) ag_57 sz_57 (h1.ev rfl) (CellsAt.take (rdF ef_TRect hp1_0 hx1092 h2) 4) rfl) ?_
   refine Tq.va rfl (fun _ _ h1 h2 => run_neq_57 x108 x109 (h1.ev rfl) (h1.ev rfl)) ?_
   refine Tq.nil (Tr.normThen ?_)
   refine Tr.cond rfl H (fun H => ?_) (fun H => ?_)
   ·refine Tr.sr ?_
    refine Tr.asg rfl rfl ?_
    refine Tr.nil (Tr.normThen ?_)
    refine Tr.ret (Tr.retBlock (Tr.retThen (Tr.retThen (Tr.retBlock (Tr.retThen ?_)))))
    obtain rfl := Option.some.inj H
    exact Tr.out (m := [(.bool false)]) [] (res_tmp rfl res_nil) (fun W hW => ⟨rfl, hW.low leB⟩)
   ·refine Tr.skip (Tr.normBlock (Tr.normThen ?_))
    refine Tr.region ?_
    refine Tr.mv rfl rfl ?_
    refine Tr.va rfl (fun _ _ h1 h2 => run_add (h1.ev rfl) (h1.ev rfl)) ?_
    refine Tr.asg rfl rfl ?_
    refine Tr.nil ?_
    exact Tr.backThen leF_etchhouseref1_SameRects_L1 (w64 (x107 + 1)) H (.cons rfl (.cons rfl (.cons rfl .nil))) .nil
  ·refine Tr.exit (Tr.exitThen (Tr.exitThen (Tr.exitBlock (Tr.normThen ?_))))
   refine Tr.sr ?_
   refine Tr.asg rfl rfl ?_
   refine Tr.nil (Tr.normThen ?_)
   refine Tr.ret ?_
   obtain rfl := Option.some.inj H
   exact Tr.out (m := [(.bool true)]) [] (res_tmp rfl res_nil) (fun W hW => ⟨rfl, hW.low leB⟩)

theorem F_etchhouseref3_SamePlot_ok (N : Nat) {w : Bs} (p0 : TPlot) (Ap0_0 : Option Addr) (cp0_0 : Nat) (hp0_0 : Sl w.R w.W fl_TPlotTool Ap0_0 cp0_0 p0.Tools) (Ap0_1 : Option Addr) (cp0_1 : Nat) (hp0_1 : Sl w.R w.W fl_TPlotStep Ap0_1 cp0_1 p0.Steps) (p1 : TPlot) (Ap1_0 : Option Addr) (cp1_0 : Nat) (hp1_0 : Sl w.R w.W fl_TPlotTool Ap1_0 cp1_0 p1.Tools) (Ap1_1 : Option Addr) (cp1_1 : Nat) (hp1_1 : Sl w.R w.W fl_TPlotStep Ap1_1 cp1_1 p1.Steps) (r : Bool) (H : F_etchhouseref3_SamePlot N p0 p1 = some r) (hE : HF w w.W E0) : Calls Tryd.prog 13 [(.agg #[(.int .i64 p0.Unit), (.slice Ap0_0 (p0.Tools).length cp0_0), (.slice Ap0_1 (p0.Steps).length cp0_1)]), (.agg #[(.int .i64 p1.Unit), (.slice Ap1_0 (p1.Tools).length cp1_0), (.slice Ap1_1 (p1.Steps).length cp1_1)])].toArray w.W fun e W' => e = .returned (.bool r) ∧ HF w W' E0 := by
 unfold F_etchhouseref3_SamePlot at H
 have leB := Bs.Le.refl w
 refine Tr.enter (n := 64) Tryd.func13 rfl rfl rfl hE ?_
 refine Tr.sr ?_
 refine Tr.box 1 (cs := [(.int .i64 p0.Unit), (.slice Ap0_0 (p0.Tools).length cp0_0), (.slice Ap0_1 (p0.Steps).length cp0_1)]) (wn rfl) rfl rfl rfl fun b100 => ?_
 refine Tr.box 2 (cs := [(.int .i64 p1.Unit), (.slice Ap1_0 (p1.Tools).length cp1_0), (.slice Ap1_1 (p1.Steps).length cp1_1)]) (wn rfl) rfl rfl rfl fun b101 => ?_
 refine Tr.asg rfl rfl ?_
 refine Tr.nil (Tr.normThen ?_)
 refine Tr.seq ?_
 refine Tr.sr ?_
 refine Tr.va rfl (fun _ _ h1 h2 => run_fieldAddr fo_25_0 (h1.ev rfl)) ?_
 refine Tr.va rfl (fun _ _ h1 h2 => run_load1 ag_3 (h1.ev rfl) (rdb h2 (vs := [(.int .i64 p0.Unit), (.slice Ap0_0 (p0.Tools).length cp0_0), (.slice Ap0_1 (p0.Steps).length cp0_1)]) (k := 1) rfl 0) rfl) ?_
 refine Tr.va rfl (fun _ _ h1 h2 => run_fieldAddr fo_25_0 (h1.ev rfl)) ?_
 refine Tr.va rfl (fun _ _ h1 h2 => run_load1 ag_3 (h1.ev rfl) (rdb h2 (vs := [(.int .i64 p1.Unit), (.slice Ap1_0 (p1.Tools).length cp1_0), (.slice Ap1_1 (p1.Steps).length cp1_1)]) (k := 2) rfl 0) rfl) ?_
 refine Tr.va rfl (fun _ _ h1 h2 => run_neq (h1.ev rfl) (h1.ev rfl)) ?_
 refine Tr.mv rfl rfl ?_
 refine Tr.mid0 8 [(2, (.pointer (some ⟨b100, 0, none⟩))), (3, (.pointer (some ⟨b101, 0, none⟩))), (19, (.bool ((p0.Unit != p1.Unit) || ((p0.Tools.length : Int) != (p1.Tools.length : Int)))))] [(1, bx b100 #[(.int .i64 p0.Unit), (.slice Ap0_0 (p0.Tools).length cp0_0), (.slice Ap0_1 (p0.Steps).length cp0_1)] 25), (2, bx b101 #[(.int .i64 p1.Unit), (.slice Ap1_0 (p1.Tools).length cp1_0), (.slice Ap1_1 (p1.Steps).length cp1_1)] 25)] ?_ ?_
 ·cases hg153 : (p0.Unit != p1.Unit)
  ·refine Tr.val (wg rfl rfl rfl) rfl (fun _ _ h1 h2 => run_fieldAddr fo_25_1 (h1.ev rfl)) ?_
   refine Tr.val (wg rfl rfl rfl) rfl (fun _ _ h1 h2 => run_load1 ag_22 (h1.ev rfl) (rdb h2 (vs := [(.int .i64 p0.Unit), (.slice Ap0_0 (p0.Tools).length cp0_0), (.slice Ap0_1 (p0.Steps).length cp0_1)]) (k := 1) rfl 1) rfl) ?_
   refine Tr.val (wg rfl rfl rfl) rfl (fun _ _ h1 h2 => run_len un_22 (h1.ev rfl)) ?_
   refine Tr.val (wg rfl rfl rfl) rfl (fun _ _ h1 h2 => run_fieldAddr fo_25_1 (h1.ev rfl)) ?_
   refine Tr.val (wg rfl rfl rfl) rfl (fun _ _ h1 h2 => run_load1 ag_22 (h1.ev rfl) (rdb h2 (vs := [(.int .i64 p1.Unit), (.slice Ap1_0 (p1.Tools).length cp1_0), (.slice Ap1_1 (p1.Steps).length cp1_1)]) (k := 2) rfl 1) rfl) ?_
   refine Tr.val (wg rfl rfl rfl) rfl (fun _ _ h1 h2 => run_len un_22 (h1.ev rfl)) ?_
   refine Tr.val (wg rfl rfl rfl) rfl (fun _ _ h1 h2 => run_neq (h1.ev rfl) (h1.ev rfl)) ?_
   refine Tr.va rfl (fun _ _ h1 h2 => run_pickF (h1.ev rfl) (h1.ev rfl)) ?_
   exact Tr.nil (Tr.fin0 (.cons rfl (.cons rfl (.cons rfl .nil))) (.cons rfl (.cons rfl .nil)))
  ·refine Tr.pass rfl rfl rfl rfl rfl (by decide) ?_
   refine Tr.pass rfl rfl rfl rfl rfl (by decide) ?_
   refine Tr.pass rfl rfl rfl rfl rfl (by decide) ?_
   refine Tr.pass rfl rfl rfl rfl rfl (by decide) ?_
   refine Tr.pass rfl rfl rfl rfl rfl (by decide) ?_
   refine Tr.pass rfl rfl rfl rfl rfl (by decide) ?_
   refine Tr.pass rfl rfl rfl rfl rfl (by decide) ?_
   refine Tr.va rfl (fun _ _ h1 h2 => run_pickT (h1.ev rfl) (h1.ev rfl)) ?_
   exact Tr.nil (Tr.fin0 (.cons rfl (.cons rfl (.cons rfl .nil))) (.cons rfl (.cons rfl .nil)))
 ·show Tr _ _ (LF [(2, (.pointer (some ⟨b100, 0, none⟩))), (3, (.pointer (some ⟨b101, 0, none⟩))), (19, (.bool ((p0.Unit != p1.Unit) || ((p0.Tools.length : Int) != (p1.Tools.length : Int)))))]) (LE [(1, bx b100 #[(.int .i64 p0.Unit), (.slice Ap0_0 (p0.Tools).length cp0_0), (.slice Ap0_1 (p0.Steps).length cp0_1)] 25), (2, bx b101 #[(.int .i64 p1.Unit), (.slice Ap1_0 (p1.Tools).length cp1_0), (.slice Ap1_1 (p1.Steps).length cp1_1)] 25)]) _
  refine Tr.mv rfl rfl ?_
  obtain ⟨g103, hg103, H⟩ := bnd H
  refine Tr.mid0 7 [(2, (.pointer (some ⟨b100, 0, none⟩))), (3, (.pointer (some ⟨b101, 0, none⟩))), (27, (.bool g103))] [(1, bx b100 #[(.int .i64 p0.Unit), (.slice Ap0_0 (p0.Tools).length cp0_0), (.slice Ap0_1 (p0.Steps).length cp0_1)] 25), (2, bx b101 #[(.int .i64 p1.Unit), (.slice Ap1_0 (p1.Tools).length cp1_0), (.slice Ap1_1 (p1.Steps).length cp1_1)] 25)] ?_ ?_
  ·cases hg153 : ((p0.Unit != p1.Unit) || ((p0.Tools.length : Int) != (p1.Tools.length : Int)))
   ·rw [hg153] at hg103
    rw [if_neg (by decide)] at hg103
    have H := hg103
    refine Tr.val (wg rfl rfl rfl) rfl (fun _ _ h1 h2 => run_fieldAddr fo_25_2 (h1.ev rfl)) ?_
    refine Tr.val (wg rfl rfl rfl) rfl (fun _ _ h1 h2 => run_load1 ag_23 (h1.ev rfl) (rdb h2 (vs := [(.int .i64 p0.Unit), (.slice Ap0_0 (p0.Tools).length cp0_0), (.slice Ap0_1 (p0.Steps).length cp0_1)]) (k := 1) rfl 2) rfl) ?_
    refine Tr.val (wg rfl rfl rfl) rfl (fun _ _ h1 h2 => run_fieldAddr fo_25_2 (h1.ev rfl)) ?_
    refine Tr.val (wg rfl rfl rfl) rfl (fun _ _ h1 h2 => run_load1 ag_23 (h1.ev rfl) (rdb h2 (vs := [(.int .i64 p1.Unit), (.slice Ap1_0 (p1.Tools).length cp1_0), (.slice Ap1_1 (p1.Steps).length cp1_1)]) (k := 2) rfl 2) rfl) ?_
    obtain ⟨y104, hy104, H⟩ := bnd H
    refine Tr.call0 (r := (.bool y104)) (wg rfl rfl rfl) rfl Tryd.call38 (evl_cons rfl (evl_cons rfl evl_nil)) (fun W hW => F_etchhouseref3_sameSteps_ok N p0.Steps Ap0_1 cp0_1 (hp0_1.ext hW.extAll) p1.Steps Ap1_1 cp1_1 (hp1_1.ext hW.extAll) y104 hy104 (HF.start _)) ?_
    refine Tr.val (wg rfl rfl rfl) rfl (fun _ _ h1 h2 => run_not (h1.ev rfl)) ?_
    refine Tr.va rfl (fun _ _ h1 h2 => run_pickF (h1.ev rfl) (h1.ev rfl)) ?_
    obtain rfl := Option.some.inj H
    exact Tr.nil (Tr.fin0 (.cons rfl (.cons rfl (.cons rfl .nil))) (.cons rfl (.cons rfl .nil)))
   ·rw [hg153] at hg103
    rw [if_pos rfl] at hg103
    have H := hg103
    obtain rfl := Option.some.inj H
    refine Tr.pass rfl rfl rfl rfl rfl (by decide) ?_
    refine Tr.pass rfl rfl rfl rfl rfl (by decide) ?_
    refine Tr.pass rfl rfl rfl rfl rfl (by decide) ?_
    refine Tr.pass rfl rfl rfl rfl rfl (by decide) ?_
    refine Tr.pass rfl rfl rfl rfl rfl (by decide) ?_
    refine Tr.pass rfl rfl rfl rfl rfl (by decide) ?_
    refine Tr.va rfl (fun _ _ h1 h2 => run_pickT (h1.ev rfl) (h1.ev rfl)) ?_
    exact Tr.nil (Tr.fin0 (.cons rfl (.cons rfl (.cons rfl .nil))) (.cons rfl (.cons rfl .nil)))
  ·show Tr _ _ (LF [(2, (.pointer (some ⟨b100, 0, none⟩))), (3, (.pointer (some ⟨b101, 0, none⟩))), (27, (.bool g103))]) (LE [(1, bx b100 #[(.int .i64 p0.Unit), (.slice Ap0_0 (p0.Tools).length cp0_0), (.slice Ap0_1 (p0.Steps).length cp0_1)] 25), (2, bx b101 #[(.int .i64 p1.Unit), (.slice Ap1_0 (p1.Tools).length cp1_0), (.slice Ap1_1 (p1.Steps).length cp1_1)] 25)]) _
   refine Tr.nil (Tr.normThen ?_)
   refine Tr.cond rfl H (fun H => ?_) (fun H => ?_)
   ·refine Tr.sr ?_
    refine Tr.asg rfl rfl ?_
    refine Tr.nil (Tr.normThen ?_)
    refine Tr.ret (Tr.retThen ?_)
    obtain rfl := Option.some.inj H
    exact Tr.out (m := [(.bool false)]) [] (res_tmp rfl res_nil) (fun W hW => ⟨rfl, hW.low leB⟩)
   ·refine Tr.skip (Tr.normThen ?_)
    refine Tr.seq ?_
    refine Tr.sr ?_
    refine Tr.asg rfl rfl ?_
    refine Tr.nil (Tr.normThen ?_)
    refine Tr.block ?_
    refine Tr.loop (σ := Int) (fun m w s => F_etchhouseref3_SamePlot_L1 N p0 p1 m s = some r) (fun s => [(2, (.pointer (some ⟨b100, 0, none⟩))), (3, (.pointer (some ⟨b101, 0, none⟩))), (5, (.int .i64 s))]) (fun s => [(1, bx b100 #[(.int .i64 p0.Unit), (.slice Ap0_0 (p0.Tools).length cp0_0), (.slice Ap0_1 (p0.Steps).length cp0_1)] 25), (2, bx b101 #[(.int .i64 p1.Unit), (.slice Ap1_0 (p1.Tools).length cp1_0), (.slice Ap1_1 (p1.Steps).length cp1_1)] 25)]) N 0 H (.cons rfl (.cons rfl (.cons rfl .nil))) (.cons rfl (.cons rfl .nil)) (fun _ _ h => noSome (h)) ?_
    intro w leF_etchhouseref3_SamePlot_L1 mF_etchhouseref3_SamePlot_L1 x138 hs
    have H := hs
    replace H : F_etchhouseref3_SamePlot_L1 N p0 p1 (mF_etchhouseref3_SamePlot_L1 + 1) x138 = some r := H
    replace hp0_0 := hp0_0.leR leF_etchhouseref3_SamePlot_L1
    replace hp0_1 := hp0_1.leR leF_etchhouseref3_SamePlot_L1
    replace hp1_0 := hp1_0.leR leF_etchhouseref3_SamePlot_L1
    replace hp1_1 := hp1_1.leR leF_etchhouseref3_SamePlot_L1
    replace leB := leB.trans leF_etchhouseref3_SamePlot_L1
    rw [F_etchhouseref3_SamePlot_L1.eq_2] at H
    show Tr _ _ (LF [(2, (.pointer (some ⟨b100, 0, none⟩))), (3, (.pointer (some ⟨b101, 0, none⟩))), (5, (.int .i64 x138))]) (LE [(1, bx b100 #[(.int .i64 p0.Unit), (.slice Ap0_0 (p0.Tools).length cp0_0), (.slice Ap0_1 (p0.Steps).length cp0_1)] 25), (2, bx b101 #[(.int .i64 p1.Unit), (.slice Ap1_0 (p1.Tools).length cp1_0), (.slice Ap1_1 (p1.Steps).length cp1_1)] 25)]) _
    refine Tr.seq ?_
    refine Tr.sr ?_
    refine Tr.mv rfl rfl ?_
    refine Tr.va rfl (fun _ _ h1 h2 => run_fieldAddr fo_25_1 (h1.ev rfl)) ?_
    refine Tr.va rfl (fun _ _ h1 h2 => run_load1 ag_22 (h1.ev rfl) (rdb h2 (vs := [(.int .i64 p0.Unit), (.slice Ap0_0 (p0.Tools).length cp0_0), (.slice Ap0_1 (p0.Steps).length cp0_1)]) (k := 1) rfl 1) rfl) ?_
    refine Tr.va rfl (fun _ _ h1 h2 => run_len un_22 (h1.ev rfl)) ?_
    refine Tr.va rfl (fun _ _ h1 h2 => run_lss (h1.ev rfl) (h1.ev rfl)) ?_
    refine Tr.nil (Tr.normThen ?_)
    refine Tr.cond rfl H (fun H => ?_) (fun H => ?_)
    ·refine Tr.skip (Tr.normThen ?_)
     refine Tr.seq ?_
     refine Tr.block ?_
     refine Tr.seq ?_
     refine Tr.draw (by kernel_rfl) (by kernel_rfl) ?_
     refine Tq.va rfl (fun _ _ h1 h2 => run_fieldAddr fo_25_1 (h1.ev rfl)) ?_
     refine Tq.va rfl (fun _ _ h1 h2 => run_load1 ag_22 (h1.ev rfl) (rdb h2 (vs := [(.int .i64 p0.Unit), (.slice Ap0_0 (p0.Tools).length cp0_0), (.slice Ap0_1 (p0.Steps).length cp0_1)]) (k := 1) rfl 1) rfl) ?_
     refine Tq.mv rfl rfl ?_
     obtain ⟨x139, hx139, H⟩ := bnd H
     obtain ⟨hx1390, hx1391, hx1392⟩ := idx_some hx139
     obtain ⟨u140, hRu140, hoku140, hcu140⟩ := (hp0_0).el hx1392
     obtain ⟨Au140_0, cu140_0⟩ := u140
     have hoku140_0 := hoku140
     replace hoku140_0 : Sl w.R w.W fl_TRect Au140_0 cu140_0 x139.Rects := hoku140_0
     refine Tq.va rfl (fun _ _ h1 h2 => run_indexAddr el_22 (h1.ev rfl) hp0_0.form (h1.ev rfl) hx1390 hx1391) ?_
     refine Tq.va rfl (fun _ _ h1 h2 => run_fieldAddr fo_55_0 (h1.ev rfl)) ?_
     refine Tq.va rfl (fun _ _ h1 h2 => run_load1 ag_9 (h1.ev rfl) (CellsAt.drop (rdR hRu140 hcu140 h2) 0) rfl) ?_
     refine Tq.va rfl (fun _ _ h1 h2 => run_fieldAddr fo_25_1 (h1.ev rfl)) ?_
     refine Tq.va rfl (fun _ _ h1 h2 => run_load1 ag_22 (h1.ev rfl) (rdb h2 (vs := [(.int .i64 p1.Unit), (.slice Ap1_0 (p1.Tools).length cp1_0), (.slice Ap1_1 (p1.Steps).length cp1_1)]) (k := 2) rfl 1) rfl) ?_
     refine Tq.mv rfl rfl ?_
     obtain ⟨x141, hx141, H⟩ := bnd H
     obtain ⟨hx1410, hx1411, hx1412⟩ := idx_some hx141
     obtain ⟨u142, hRu142, hoku142, hcu142⟩ := (hp1_0).el hx1412
     obtain ⟨Au142_0, cu142_0⟩ := u142
     have hoku142_0 := hoku142
     replace hoku142_0 : Sl w.R w.W fl_TRect Au142_0 cu142_0 x141.Rects := hoku142_0
     refine Tq.va rfl (fun _ _ h1 h2 => run_indexAddr el_22 (h1.ev rfl) hp1_0.form (h1.ev rfl) hx1410 hx1411) ?_
     refine Tq.va rfl (fun _ _ h1 h2 => run_fieldAddr fo_55_0 (h1.ev rfl)) ?_
     refine Tq.va rfl (fun _ _ h1 h2 => run_load1 ag_9 (h1.ev rfl) (CellsAt.drop (rdR hRu142 hcu142 h2) 0) rfl) ?_
     refine Tq.va rfl (fun _ _ h1 h2 => run_neqS (h1.ev rfl) (h1.ev rfl)) ?_
     refine Tq.mv rfl rfl ?_
     obtain ⟨g148, hg148, H⟩ := bnd H
     refine Tq.mid 15 [(2, (.pointer (some ⟨b100, 0, none⟩))), (3, (.pointer (some ⟨b101, 0, none⟩))), (5, (.int .i64 x138)), (63, (.bool g148))] ?_ ?_
     ·cases hg153 : (!sEq x139.Name x141.Name)
      ·rw [hg153] at hg148
       rw [if_neg (by decide)] at hg148
       have H := hg148
       refine Tq.val (wg rfl rfl rfl) rfl (fun _ _ h1 h2 => run_fieldAddr fo_25_1 (h1.ev rfl)) ?_
       refine Tq.val (wg rfl rfl rfl) rfl (fun _ _ h1 h2 => run_load1 ag_22 (h1.ev rfl) (rdb h2 (vs := [(.int .i64 p0.Unit), (.slice Ap0_0 (p0.Tools).length cp0_0), (.slice Ap0_1 (p0.Steps).length cp0_1)]) (k := 1) rfl 1) rfl) ?_
       refine Tq.val (wg rfl rfl rfl) rfl (fun _ _ h1 h2 => run_move (h1.ev rfl)) ?_
       obtain ⟨x149, hx149, H⟩ := bnd H
       obtain ⟨hx1490, hx1491, hx1492⟩ := idx_some hx149
       obtain ⟨u150, hRu150, hoku150, hcu150⟩ := (hp0_0).el hx1492
       obtain ⟨Au150_0, cu150_0⟩ := u150
       have hoku150_0 := hoku150
       replace hoku150_0 : Sl w.R w.W fl_TRect Au150_0 cu150_0 x149.Rects := hoku150_0
       refine Tq.val (wg rfl rfl rfl) rfl (fun _ _ h1 h2 => run_indexAddr el_22 (h1.ev rfl) hp0_0.form (h1.ev rfl) hx1490 hx1491) ?_
       refine Tq.val (wg rfl rfl rfl) rfl (fun _ _ h1 h2 => run_fieldAddr fo_55_1 (h1.ev rfl)) ?_
       refine Tq.val (wg rfl rfl rfl) rfl (fun _ _ h1 h2 => run_load1 ag_53 (h1.ev rfl) (CellsAt.drop (rdR hRu150 hcu150 h2) 1) rfl) ?_
       refine Tq.val (wg rfl rfl rfl) rfl (fun _ _ h1 h2 => run_fieldAddr fo_25_1 (h1.ev rfl)) ?_
       refine Tq.val (wg rfl rfl rfl) rfl (fun _ _ h1 h2 => run_load1 ag_22 (h1.ev rfl) (rdb h2 (vs := [(.int .i64 p1.Unit), (.slice Ap1_0 (p1.Tools).length cp1_0), (.slice Ap1_1 (p1.Steps).length cp1_1)]) (k := 2) rfl 1) rfl) ?_
       refine Tq.val (wg rfl rfl rfl) rfl (fun _ _ h1 h2 => run_move (h1.ev rfl)) ?_
       obtain ⟨x151, hx151, H⟩ := bnd H
       obtain ⟨hx1510, hx1511, hx1512⟩ := idx_some hx151
       obtain ⟨u152, hRu152, hoku152, hcu152⟩ := (hp1_0).el hx1512
       obtain ⟨Au152_0, cu152_0⟩ := u152
       have hoku152_0 := hoku152
       replace hoku152_0 : Sl w.R w.W fl_TRect Au152_0 cu152_0 x151.Rects := hoku152_0
       refine Tq.val (wg rfl rfl rfl) rfl (fun _ _ h1 h2 => run_indexAddr el_22 (h1.ev rfl) hp1_0.form (h1.ev rfl) hx1510 hx1511) ?_
       refine Tq.val (wg rfl rfl rfl) rfl (fun _ _ h1 h2 => run_fieldAddr fo_55_1 (h1.ev rfl)) ?_
       refine Tq.val (wg rfl rfl rfl) rfl (fun _ _ h1 h2 => run_load1 ag_53 (h1.ev rfl) (CellsAt.drop (rdR hRu152 hcu152 h2) 1) rfl) ?_
       obtain ⟨y153, hy153, H⟩ := bnd H
       refine Tq.call0 (r := (.bool y153)) (wg rfl rfl rfl) rfl Tryd.call39 (evl_cons rfl (evl_cons rfl evl_nil)) (fun W hW => F_etchhouseref1_SameRects_ok N x149.Rects Au150_0 cu150_0 (hoku150_0.ext hW.extAll) x151.Rects Au152_0 cu152_0 (hoku152_0.ext hW.extAll) y153 hy153 (HF.start _)) ?_
       refine Tq.val (wg rfl rfl rfl) rfl (fun _ _ h1 h2 => run_not (h1.ev rfl)) ?_
       refine Tq.va rfl (fun _ _ h1 h2 => run_pickF (h1.ev rfl) (h1.ev rfl)) ?_
       obtain rfl := Option.some.inj H
       exact Tq.fin (.cons rfl (.cons rfl (.cons rfl (.cons rfl .nil))))
      ·rw [hg153] at hg148
       rw [if_pos rfl] at hg148
       have H := hg148
       obtain rfl := Option.some.inj H
       refine Tq.pass rfl rfl rfl rfl rfl (by decide) ?_
       refine Tq.pass rfl rfl rfl rfl rfl (by decide) ?_
       refine Tq.pass rfl rfl rfl rfl rfl (by decide) ?_
       refine Tq.pass rfl rfl rfl rfl rfl (by decide) ?_
       refine Tq.pass rfl rfl rfl rfl rfl (by decide) ?_
       refine Tq.pass rfl rfl rfl rfl rfl (by decide) ?_
       refine Tq.pass rfl rfl rfl rfl rfl (by decide) ?_
       refine Tq.pass rfl rfl rfl rfl rfl (by decide) ?_
       refine Tq.pass rfl rfl rfl rfl rfl (by decide) ?_
       refine Tq.pass rfl rfl rfl rfl rfl (by decide) ?_
       refine Tq.pass rfl rfl rfl rfl rfl (by decide) ?_
       refine Tq.pass rfl rfl rfl rfl rfl (by decide) ?_
       refine Tq.pass rfl rfl rfl rfl rfl (by decide) ?_
       refine Tq.pass rfl rfl rfl rfl rfl (by decide) ?_
       refine Tq.va rfl (fun _ _ h1 h2 => run_pickT (h1.ev rfl) (h1.ev rfl)) ?_
       exact Tq.fin (.cons rfl (.cons rfl (.cons rfl (.cons rfl .nil))))
     ·refine Tq.nil (Tr.normThen ?_)
      refine Tr.cond rfl H (fun H => ?_) (fun H => ?_)
      ·refine Tr.sr ?_
       refine Tr.asg rfl rfl ?_
       refine Tr.nil (Tr.normThen ?_)
       refine Tr.ret (Tr.retBlock (Tr.retThen (Tr.retThen (Tr.retBlock (Tr.retThen ?_)))))
       obtain rfl := Option.some.inj H
       exact Tr.out (m := [(.bool false)]) [] (res_tmp rfl res_nil) (fun W hW => ⟨rfl, hW.low leB⟩)
      ·refine Tr.skip (Tr.normBlock (Tr.normThen ?_))
       refine Tr.region ?_
       refine Tr.mv rfl rfl ?_
       refine Tr.va rfl (fun _ _ h1 h2 => run_add (h1.ev rfl) (h1.ev rfl)) ?_
       refine Tr.asg rfl rfl ?_
       refine Tr.nil ?_
       exact Tr.backThen leF_etchhouseref3_SamePlot_L1 (w64 (x138 + 1)) H (.cons rfl (.cons rfl (.cons rfl .nil))) (.cons rfl (.cons rfl .nil))
    ·refine Tr.exit (Tr.exitThen (Tr.exitThen (Tr.exitBlock (Tr.normThen ?_))))
     refine Tr.sr ?_
     refine Tr.asg rfl rfl ?_
     refine Tr.nil (Tr.normThen ?_)
     refine Tr.ret ?_
     obtain rfl := Option.some.inj H
     exact Tr.out (m := [(.bool true)]) [] (res_tmp rfl res_nil) (fun W hW => ⟨rfl, hW.low leB⟩)

theorem F_strconv_Itoa_ok {w : Bs} (p0 : Int) (r : ByteArray) (H : itoaS p0 = some r) (hE : HF w w.W E0) : Calls Tryd.prog 19 [(.int .i64 p0)].toArray w.W fun e W' => e = .returned (.string r) ∧ HF w W' E0 :=
 itoaS_rule (ρ := Tryd.itoa19_ren) Tryd.itoa19 H hE

end Go.Proofs.YtocjndhpgjccoaaDoor
namespace Go.Proofs
open Go.Shelf
def Tryd.bld18_ren : Go.Shelf.Ren := ⟨fun | 166 => 18 | 240 => 60 | 276 => 84 | n => n, fun | 5 => 5 | 37 => 45 | 70 => 44 | 72 => 47 | 75 => 49 | 80 => 61 | 164 => 112 | n => n, fun n => n⟩
theorem Tryd.bld18 : Go.Proofs.Lays.n166 Tryd.prog Tryd.bld18_ren := {
 mixed := by kernel_rfl
 f166 := Tryd.func18.trans (congrArg some (by kernel_rfl))
 f240 := Tryd.func60.trans (congrArg some (by kernel_rfl))
 f276 := Tryd.func84.trans (congrArg some (by kernel_rfl))
 t0 := Tryd.underlying0
 a0 := Tryd.isAgg0
 z0 := Tryd.sizeOf0
 v0 := Tryd.zeroValue0
 t3 := Tryd.underlying3
 a3 := Tryd.isAgg3
 z3 := Tryd.sizeOf3
 v3 := Tryd.zeroValue3
 t4 := Tryd.underlying4
 a4 := Tryd.isAgg4
 z4 := Tryd.sizeOf4
 v4 := Tryd.zeroValue4
 t9 := Tryd.underlying9
 a9 := Tryd.isAgg9
 z9 := Tryd.sizeOf9
 v9 := Tryd.zeroValue9
 t20 := Tryd.underlying20
 a20 := Tryd.isAgg20
 z20 := Tryd.sizeOf20
 v20 := Tryd.zeroValue20
 t37 := Tryd.underlying45
 a37 := Tryd.isAgg45
 z37 := Tryd.sizeOf45
 v37 := Tryd.zeroValue45
 t70 := Tryd.underlying44
 a70 := Tryd.isAgg44
 z70 := Tryd.sizeOf44
 v70 := Tryd.zeroValue44
 t72 := Tryd.underlying47
 a72 := Tryd.isAgg47
 z72 := Tryd.sizeOf47
 v72 := Tryd.zeroValue47
 t75 := Tryd.underlying49
 a75 := Tryd.isAgg49
 z75 := Tryd.sizeOf49
 v75 := Tryd.zeroValue49
 t164 := Tryd.underlying112
 a164 := Tryd.isAgg112
 z164 := Tryd.sizeOf112
 v164 := Tryd.zeroValue112
}
end Go.Proofs
namespace Go.Proofs.YtocjndhpgjccoaaDoor
open Go.RowKit
theorem bX18 : Builder.Extra Tryd.prog Tryd.bld18_ren where
 sizeBuilder := by kernel_rfl
 liesBuilder := by kernel_rfl
 t5 := Tryd.underlying5
 a5 := Tryd.isAgg5
 z5 := Tryd.sizeOf5
 v5 := Tryd.zeroValue5
 infoByte := by kernel_rfl
 cellsByte := by kernel_rfl
 sizeByte := by kernel_rfl
 neB5 := by decide
theorem F_strings_Builder_WriteString_ok {w : Bs} (p0 : ByteArray) (Ap0_0 : Option Addr) (cp0_0 : Nat) (bp0 : Nat) (p1 : ByteArray) (r : ByteArray) (H : sbW p0 p1 = some r) (hE : HF w w.W (LEn [sb 47 5 bp0 Ap0_0 cp0_0 p0])) : Calls Tryd.prog 18 [(.pointer (some ⟨bp0, 0, none⟩)), .string p1].toArray w.W fun e W' => ∃ u : (Option Addr × Nat), e = .returned (.tuple #[.int .i64 p1.size, .nilIface]) ∧ (True) ∧ HF w W' (LEn [sb 47 5 bp0 u.1 u.2 r]) :=
 sb_write (ρ := Tryd.bld18_ren) Tryd.bld18 bX18 H hE

theorem F_plot_points_ok {w : Bs} (p0 : (List TPoint)) (Ap0_0 : Option Addr) (cp0_0 : Nat) (hp0_0 : Sl w.R w.W fl_TPoint Ap0_0 cp0_0 p0) (r : ByteArray) (H : F_plot_points p0 = some r) (hE : HF w w.W E0) : Calls Tryd.prog 20 [(.slice Ap0_0 (p0).length cp0_0)].toArray w.W fun e W' => e = .returned (.string r) ∧ HF w W' E0 := by
 unfold F_plot_points at H
 have leB := Bs.Le.refl w
 refine Tr.enter (n := 25) Tryd.func20 rfl rfl rfl hE ?_
 refine Tr.sr ?_
 refine Tr.asg rfl rfl ?_
 refine Tr.nil (Tr.normThen ?_)
 refine Tr.sr ?_
 refine Tr.asg rfl rfl ?_
 refine Tr.nil (Tr.normThen ?_)
 refine Tr.seq ?_
 refine Tr.sr ?_
 refine Tr.mv rfl rfl ?_
 refine Tr.va rfl (fun _ _ h1 h2 => run_len un_82 (h1.ev rfl)) ?_
 refine Tr.mv rfl rfl ?_
 refine Tr.nil (Tr.normThen ?_)
 refine Tr.block ?_
 refine Tr.loop (σ := (List TPoint) × Nat × ByteArray) (fun m w s => m = s.1.length + 1 ∧ s.1 = List.drop s.2.1 p0 ∧ s.2.1 ≤ p0.length ∧ F_plot_points_L1 s.1 s.2.1 s.2.2 = some r) (fun s => [(3, (.string s.2.2)), (6, (.slice Ap0_0 (p0).length cp0_0)), (7, (.int .i64 (p0.length : Int))), (8, (.int .i64 (s.2.1 : Int)))]) (fun s => []) (p0.length + 1) (p0, 0, ByteArray.empty) ⟨rfl, rfl, Nat.zero_le _, H⟩ (.cons rfl (.cons rfl (.cons rfl (.cons rfl .nil)))) .nil (fun _ _ h => absurd h.1 (by simp)) ?_
 intro w leF_plot_points_L1 m s hs
 obtain ⟨restF_plot_points_L1, iF_plot_points_L1, x122⟩ := s
 obtain ⟨hmF_plot_points_L1, hdF_plot_points_L1, hiF_plot_points_L1, H⟩ := hs
 replace hdF_plot_points_L1 : restF_plot_points_L1 = List.drop iF_plot_points_L1 p0 := hdF_plot_points_L1
 replace H : F_plot_points_L1 restF_plot_points_L1 iF_plot_points_L1 x122 = some r := H
 replace hmF_plot_points_L1 : m + 1 = restF_plot_points_L1.length + 1 := hmF_plot_points_L1
 replace hp0_0 := hp0_0.leR leF_plot_points_L1
 replace leB := leB.trans leF_plot_points_L1
 obtain rfl : m = restF_plot_points_L1.length := by omega
 clear hmF_plot_points_L1
 show Tr _ _ (LF [(3, (.string x122)), (6, (.slice Ap0_0 (p0).length cp0_0)), (7, (.int .i64 (p0.length : Int))), (8, (.int .i64 (iF_plot_points_L1 : Int)))]) (LE []) _
 cases restF_plot_points_L1 with
 | nil =>
  rw [F_plot_points_L1.eq_1] at H
  refine Tr.sr ?_
  refine Tr.va rfl (fun _ _ h1 h2 => run_lss (h1.ev rfl) (h1.ev rfl)) ?_
  refine Tr.nil (Tr.normThen ?_)
  refine Tr.seq ?_
  refine Tr.condF rfl (range_nil hdF_plot_points_L1) ?_
  refine Tr.exit (Tr.exitThen (Tr.exitThen (Tr.exitBlock (Tr.normThen ?_))))
  refine Tr.sr ?_
  refine Tr.mv rfl rfl ?_
  refine Tr.asg rfl rfl ?_
  refine Tr.nil (Tr.normThen ?_)
  refine Tr.ret ?_
  obtain rfl := Option.some.inj H
  exact Tr.out (m := [(.string x122)]) [] (res_tmp rfl res_nil) (fun W hW => ⟨rfl, hW.low leB⟩)
 | cons xF_plot_points_L1 restF_plot_points_L1 =>
  rw [F_plot_points_L1.eq_2] at H
  refine Tr.sr ?_
  refine Tr.va rfl (fun _ _ h1 h2 => run_lss (h1.ev rfl) (h1.ev rfl)) ?_
  refine Tr.nil (Tr.normThen ?_)
  refine Tr.seq ?_
  refine Tr.condT rfl (range_on hdF_plot_points_L1) ?_
  refine Tr.skip (Tr.normThen ?_)
  refine Tr.seq ?_
  refine Tr.block ?_
  refine Tr.sr ?_
  refine Tr.va rfl (fun _ _ h1 h2 => run_indexAddr el_82 (h1.ev rfl) hp0_0.form (h1.ev rfl) (Int.natCast_nonneg _) (range_lt hdF_plot_points_L1)) ?_
  refine Tr.va rfl (fun _ _ h1 h2 => run_loadN (cs := [(.int .i64 xF_plot_points_L1.X), (.int .i64 xF_plot_points_L1.Y)]) ag_37 sz_37 (h1.ev rfl) (CellsAt.take (rdF ef_TPoint hp0_0 (range_at hdF_plot_points_L1) h2) 2) rfl) ?_
  refine Tr.alloc 3 (wn rfl) rfl ze_37 fun b123 => ?_
  refine Tr.store 3 (cs := [(.int .i64 xF_plot_points_L1.X), (.int .i64 xF_plot_points_L1.Y)]) [(.int .i64 xF_plot_points_L1.X), (.int .i64 xF_plot_points_L1.Y)] (wn rfl) rfl rfl rfl rfl sz_37 rfl rfl rfl ?_
  refine Tr.nil (Tr.normThen ?_)
  refine Tr.draw (by kernel_rfl) (by kernel_rfl) ?_
  refine Tq.mv rfl rfl ?_
  refine Tq.va rfl (fun _ _ h1 h2 => run_fieldAddr fo_37_0 (h1.ev rfl)) ?_
  refine Tq.va rfl (fun _ _ h1 h2 => run_load1 ag_3 (h1.ev rfl) (rdb h2 (vs := [(.int .i64 xF_plot_points_L1.X), (.int .i64 xF_plot_points_L1.Y)]) (k := 3) rfl 0) rfl) ?_
  obtain ⟨y124, hy124, H⟩ := bnd H
  refine Tq.call0 (r := (.string y124)) (wn rfl) rfl Tryd.call19 (evl_cons rfl evl_nil) (fun W hW => F_strconv_Itoa_ok xF_plot_points_L1.X y124 hy124 (HF.start _)) ?_
  obtain ⟨t125, ht125, H⟩ := bnd H
  refine Tq.va rfl (fun _ _ h1 h2 => run_catS (h1.ev rfl) (h1.ev rfl) ht125) ?_
  obtain ⟨t126, ht126, H⟩ := bnd H
  refine Tq.va rfl (fun _ _ h1 h2 => run_catS (h1.ev rfl) (h1.ev rfl) ht126) ?_
  refine Tq.va rfl (fun _ _ h1 h2 => run_fieldAddr fo_37_1 (h1.ev rfl)) ?_
  refine Tq.va rfl (fun _ _ h1 h2 => run_load1 ag_3 (h1.ev rfl) (rdb h2 (vs := [(.int .i64 xF_plot_points_L1.X), (.int .i64 xF_plot_points_L1.Y)]) (k := 3) rfl 1) rfl) ?_
  obtain ⟨y127, hy127, H⟩ := bnd H
  refine Tq.call0 (r := (.string y127)) (wn rfl) rfl Tryd.call19 (evl_cons rfl evl_nil) (fun W hW => F_strconv_Itoa_ok xF_plot_points_L1.Y y127 hy127 (HF.start _)) ?_
  obtain ⟨t128, ht128, H⟩ := bnd H
  refine Tq.va rfl (fun _ _ h1 h2 => run_catS (h1.ev rfl) (h1.ev rfl) ht128) ?_
  obtain ⟨t129, ht129, H⟩ := bnd H
  refine Tq.va rfl (fun _ _ h1 h2 => run_catS (h1.ev rfl) (h1.ev rfl) ht129) ?_
  refine Tq.asg rfl rfl ?_
  refine Tq.nil (Tr.normBlock (Tr.normThen ?_))
  refine Tr.region ?_
  refine Tr.va rfl (fun _ _ h1 h2 => run_add (h1.ev rfl) (h1.ev rfl)) ?_
  refine Tr.mv rfl rfl ?_
  refine Tr.nil ?_
  exact Tr.backThen leF_plot_points_L1 (restF_plot_points_L1, (iF_plot_points_L1 + 1), t129) ⟨rfl, range_tl hdF_plot_points_L1, range_lt hdF_plot_points_L1, H⟩ (.cons rfl (.cons rfl (.cons rfl (.cons (congrArg (fun z => some (Value.int .i64 z)) (range_up hdF_plot_points_L1 hp0_0.form)) .nil)))) .nil

end Go.Proofs.YtocjndhpgjccoaaDoor
