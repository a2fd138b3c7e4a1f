/- The walks: each function computes its plain function. -/
import Derived.Test.YtcjeebkoafonpaaGreatDoorXWc
namespace Go.Proofs.YtcjeebkoafonpaaGreatDoor
open Go.RowKit
set_option maxRecDepth 100000
set_option maxHeartbeats 1000000
theorem F_plot_machine__draw_ok (N : Nat) {w : Bs} (p0 : TMachine) (Ap0_0 : Option Addr) (cp0_0 : Nat) (hp0_0 : Sl w.R w.W fl_TPlotTool Ap0_0 cp0_0 p0.p.Tools) (Ap0_1 : Option Addr) (cp0_1 : Nat) (hp0_1 : Sl w.R w.W fl_TPlotStep Ap0_1 cp0_1 p0.p.Steps) (Ap0_2 : Option Addr) (cp0_2 : Nat) (hp0_2 : Sl w.R w.W fl_LTBand Ap0_2 cp0_2 p0.tools) (Ap0_3 : Option Addr) (cp0_3 : Nat) (bp0 : Nat) (p1 : (List TBand)) (Ap1_0 : Option Addr) (cp1_0 : Nat) (hp1_0 : Sl w.O w.W fl_TBand Ap1_0 cp1_0 p1) (r : (Int × (List TBand))) (H : F_plot_machine__draw N p0 p1 = some r) (hE : HF w w.W (LEn [bx bp0 #[(iv p0.p.Unit), (.slice Ap0_0 (p0.p.Tools).length cp0_0), (.slice Ap0_1 (p0.p.Steps).length cp0_1), (.slice Ap0_2 (p0.tools).length cp0_2), (.slice Ap0_3 (p0.image).length cp0_3), (.bool p0.clear), (iv p0.tool), (iv p0.place.X), (iv p0.place.Y), (.bool p0.placed), (iv p0.off), (iv p0.on)] 95, ow Ap0_3 cp0_3 98 fl_TBand p0.image])) : Calls Tryz.prog 212 [(.pointer (some ⟨bp0, 0, none⟩)), (.slice Ap1_0 (p1).length cp1_0)].toArray w.W fun e W' => ∃ (w' : Bs) (u : (Option Addr × Nat)), w.Le w' ∧ e = .returned (iv r.1) ∧ (SlF u.1 (r.2).length u.2) ∧ HF w' W' (LEn [bx bp0 #[(iv p0.p.Unit), (.slice Ap0_0 (p0.p.Tools).length cp0_0), (.slice Ap0_1 (p0.p.Steps).length cp0_1), (.slice Ap0_2 (p0.tools).length cp0_2), (.slice u.1 (r.2).length u.2), (.bool p0.clear), (iv p0.tool), (iv p0.place.X), (iv p0.place.Y), (.bool p0.placed), (iv p0.off), (iv p0.on)] 95, ow u.1 u.2 98 fl_TBand r.2]) := by
 unfold F_plot_machine__draw at H
 have hfhp0_3 := (hE.sl (k := 1) rfl).form
 have leB := Bs.Le.refl w
 refine Tr.enter (n := 38) Tryz.func212 rfl rfl rfl hE ?_
 refine Tr.sr ?_
 refine Tr.asg rfl rfl ?_
 refine Tr.nil (Tr.normThen ?_)
 have leJ110 := Bs.Le.refl w
 refine Tr.cutJ (σ := (List TBand) × (Option Addr) × Nat) (fun w s => F_plot_machine__draw_J1 s.1 = some r ∧ SlF s.2.1 (s.1).length s.2.2) (fun s => [(0, (.pointer (some ⟨bp0, 0, none⟩)))]) (fun s => [(0, bx bp0 #[(iv p0.p.Unit), (.slice Ap0_0 (p0.p.Tools).length cp0_0), (.slice Ap0_1 (p0.p.Steps).length cp0_1), (.slice Ap0_2 (p0.tools).length cp0_2), (.slice s.2.1 (s.1).length s.2.2), (.bool p0.clear), (iv p0.tool), (iv p0.place.X), (iv p0.place.Y), (.bool p0.placed), (iv p0.off), (iv p0.on)] 95), (4, ow s.2.1 s.2.2 98 fl_TBand s.1)]) ?_ ?_
 ·refine Tr.block ?_
  refine Tr.sr ?_
  refine Tr.mv rfl rfl ?_
  obtain ⟨y113, hy113, H⟩ := bnd H
  refine Tr.call0 (r := (.bool y113)) (wn rfl) rfl Tryz.call222 (evl_cons rfl evl_nil) (fun W hW => F_shape_Set__Fits_ok p1 Ap1_0 cp1_0 (hp1_0.rl.ext hW.extAll) y113 hy113 (HF.start _)) ?_
  refine Tr.v1 rfl run_not rfl ?_
  refine Tr.asg rfl rfl ?_
  refine Tr.nil (Tr.normThen ?_)
  refine Tr.cond rfl H (fun H => ?_) (fun H => ?_)
  ·refine Tr.sr ?_
   refine Tr.asg rfl rfl ?_
   refine Tr.nil (Tr.normThen ?_)
   refine Tr.ret (Tr.retBlock (Tr.retThen ?_))
   obtain rfl := Option.some.inj H
   exact Tr.out (m := [(iv 1)]) [] (res_tmp rfl res_nil) (fun W hW => ⟨w, (Ap0_3, cp0_3), leB, rfl, hfhp0_3, hW.pick (ks := [0, 1]) (by decide) (pk_cons rfl (pk_cons rfl pk_nil))⟩)
  ·refine Tr.sr ?_
   refine Tr.mv rfl rfl ?_
   refine Tr.v1 rfl run_nilCheck rfl ?_
   refine Tr.v1 rfl (run_fieldAddr fo_95_3) rfl ?_
   refine Tr.va rfl (fun _ _ h1 h2 => run_load1 ag_4 (h1.ev rfl) (rdb h2 (vs := [(iv p0.p.Unit), (.slice Ap0_0 (p0.p.Tools).length cp0_0), (.slice Ap0_1 (p0.p.Steps).length cp0_1), (.slice Ap0_2 (p0.tools).length cp0_2), (.slice Ap0_3 (p0.image).length cp0_3), (.bool p0.clear), (iv p0.tool), (iv p0.place.X), (iv p0.place.Y), (.bool p0.placed), (iv p0.off), (iv p0.on)]) (k := 0) rfl 5) rfl) ?_
   refine Tr.asg rfl rfl ?_
   refine Tr.nil (Tr.normThen ?_)
   refine Tr.cond rfl H (fun H => ?_) (fun H => ?_)
   ·refine Tr.region ?_
    refine Tr.mv rfl rfl ?_
    refine Tr.mv rfl rfl ?_
    refine Tr.v1 rfl run_nilCheck rfl ?_
    refine Tr.v1 rfl (run_fieldAddr fo_95_2) rfl ?_
    refine Tr.va rfl (fun _ _ h1 h2 => run_load1 ag_62 (h1.ev rfl) (rdb h2 (vs := [(iv p0.p.Unit), (.slice Ap0_0 (p0.p.Tools).length cp0_0), (.slice Ap0_1 (p0.p.Steps).length cp0_1), (.slice Ap0_2 (p0.tools).length cp0_2), (.slice Ap0_3 (p0.image).length cp0_3), (.bool p0.clear), (iv p0.tool), (iv p0.place.X), (iv p0.place.Y), (.bool p0.placed), (iv p0.off), (iv p0.on)]) (k := 0) rfl 4) rfl) ?_
    refine Tr.mv rfl rfl ?_
    refine Tr.freeze 1 rfl fun w le115 hz114 => ?_
    replace hp0_0 := hp0_0.leR le115
    replace hp0_1 := hp0_1.leR le115
    replace hp0_2 := hp0_2.leR le115
    replace hp1_0 := hp1_0.le le115
    replace leB := leB.trans le115
    replace leJ110 := leJ110.trans le115
    obtain ⟨y116, hy116, H⟩ := bnd H
    refine Tr.callG [5] [emp] (U := (Option Addr × Nat)) (fun u => (.slice u.1 (y116).length u.2)) (fun O W u => SlF u.1 (y116).length u.2) (fun u => [ow u.1 u.2 98 fl_TBand y116]) rfl (pk_cons rfl pk_nil) (fun _ => rfl) (wn rfl) rfl Tryz.call223 (evl_cons rfl (evl_cons rfl evl_nil)) (fun W hW hp hE => F_shape_Set__Less_ok N p0.image Ap0_3 cp0_3 (hz114.extO (hW.extS hp)) p1 Ap1_0 cp1_0 (hp1_0.extO (hW.extS hp)) y116 hy116 hE) ?_
    intro w u le117 hu
    obtain ⟨Ay116_0, cy116_0⟩ := u
    have gy116_0 := hu
    replace hp0_0 := hp0_0.leR le117
    replace hp0_1 := hp0_1.leR le117
    replace hp0_2 := hp0_2.leR le117
    replace hz114 := hz114.le le117
    replace hp1_0 := hp1_0.le le117
    replace leB := leB.trans le117
    replace leJ110 := leJ110.trans le117
    have hgy116_0 : SlF Ay116_0 (y116).length cy116_0 := gy116_0 --@phi
    show Tr _ _ (uf _ 29 (.slice Ay116_0 (y116).length cy116_0)) (up _ 5 (ow Ay116_0 cy116_0 98 fl_TBand y116)) _
    refine Tr.v1 rfl run_nilCheck rfl ?_
    refine Tr.v1 rfl (run_fieldAddr fo_95_2) rfl ?_
    refine Tr.store 0 (cs := [(.slice Ay116_0 (y116).length cy116_0)]) [(iv p0.p.Unit), (.slice Ap0_0 (p0.p.Tools).length cp0_0), (.slice Ap0_1 (p0.p.Steps).length cp0_1), (.slice Ap0_2 (p0.tools).length cp0_2), (.slice Ay116_0 (y116).length cy116_0), (.bool p0.clear), (iv p0.tool), (iv p0.place.X), (iv p0.place.Y), (.bool p0.placed), (iv p0.off), (iv p0.on)] (wn rfl) rfl rfl rfl rfl sz_62 rfl rfl rfl ?_
    refine Tr.nil (Tr.normBlock ?_)
    refine Tr.ren 5 4 rfl rfl rfl ?_
    exact Tr.backThen leJ110 (y116, Ay116_0, cy116_0) ⟨H, hgy116_0⟩ (.r rfl) (.r rfl)
   ·refine Tr.region ?_
    refine Tr.mv rfl rfl ?_
    refine Tr.mv rfl rfl ?_
    refine Tr.v1 rfl run_nilCheck rfl ?_
    refine Tr.v1 rfl (run_fieldAddr fo_95_2) rfl ?_
    refine Tr.va rfl (fun _ _ h1 h2 => run_load1 ag_62 (h1.ev rfl) (rdb h2 (vs := [(iv p0.p.Unit), (.slice Ap0_0 (p0.p.Tools).length cp0_0), (.slice Ap0_1 (p0.p.Steps).length cp0_1), (.slice Ap0_2 (p0.tools).length cp0_2), (.slice Ap0_3 (p0.image).length cp0_3), (.bool p0.clear), (iv p0.tool), (iv p0.place.X), (iv p0.place.Y), (.bool p0.placed), (iv p0.off), (iv p0.on)]) (k := 0) rfl 4) rfl) ?_
    refine Tr.mv rfl rfl ?_
    refine Tr.freeze 1 rfl fun w le119 hz118 => ?_
    replace hp0_0 := hp0_0.leR le119
    replace hp0_1 := hp0_1.leR le119
    replace hp0_2 := hp0_2.leR le119
    replace hp1_0 := hp1_0.le le119
    replace leB := leB.trans le119
    replace leJ110 := leJ110.trans le119
    obtain ⟨y120, hy120, H⟩ := bnd H
    refine Tr.callG [6] [emp] (U := (Option Addr × Nat)) (fun u => (.slice u.1 (y120).length u.2)) (fun O W u => SlF u.1 (y120).length u.2) (fun u => [ow u.1 u.2 98 fl_TBand y120]) rfl (pk_cons rfl pk_nil) (fun _ => rfl) (wn rfl) rfl Tryz.call224 (evl_cons rfl (evl_cons rfl evl_nil)) (fun W hW hp hE => F_shape_Set__Or_ok N p0.image Ap0_3 cp0_3 (hz118.extO (hW.extS hp)) p1 Ap1_0 cp1_0 (hp1_0.extO (hW.extS hp)) y120 hy120 hE) ?_
    intro w u le121 hu
    obtain ⟨Ay120_0, cy120_0⟩ := u
    have gy120_0 := hu
    replace hp0_0 := hp0_0.leR le121
    replace hp0_1 := hp0_1.leR le121
    replace hp0_2 := hp0_2.leR le121
    replace hz118 := hz118.le le121
    replace hp1_0 := hp1_0.le le121
    replace leB := leB.trans le121
    replace leJ110 := leJ110.trans le121
    have hgy120_0 : SlF Ay120_0 (y120).length cy120_0 := gy120_0 --@phi
    show Tr _ _ (uf _ 11 (.slice Ay120_0 (y120).length cy120_0)) (up _ 6 (ow Ay120_0 cy120_0 98 fl_TBand y120)) _
    refine Tr.v1 rfl run_nilCheck rfl ?_
    refine Tr.v1 rfl (run_fieldAddr fo_95_2) rfl ?_
    refine Tr.store 0 (cs := [(.slice Ay120_0 (y120).length cy120_0)]) [(iv p0.p.Unit), (.slice Ap0_0 (p0.p.Tools).length cp0_0), (.slice Ap0_1 (p0.p.Steps).length cp0_1), (.slice Ap0_2 (p0.tools).length cp0_2), (.slice Ay120_0 (y120).length cy120_0), (.bool p0.clear), (iv p0.tool), (iv p0.place.X), (iv p0.place.Y), (.bool p0.placed), (iv p0.off), (iv p0.on)] (wn rfl) rfl rfl rfl rfl sz_62 rfl rfl rfl ?_
    refine Tr.nil (Tr.normBlock ?_)
    refine Tr.ren 6 4 rfl rfl rfl ?_
    exact Tr.backThen leJ110 (y120, Ay120_0, cy120_0) ⟨H, hgy120_0⟩ (.r rfl) (.r rfl)
 ·intro w s hlJ111 hs
  obtain ⟨l109, Al109, cl109⟩ := s
  obtain ⟨H, hl109⟩ := hs
  replace H : F_plot_machine__draw_J1 l109 = some r := H
  replace hp0_0 := hp0_0.leR hlJ111
  replace hp0_1 := hp0_1.leR hlJ111
  replace hp0_2 := hp0_2.leR hlJ111
  replace leB := leB.trans hlJ111
  replace hl109 : SlF Al109 (l109).length cl109 := hl109
  unfold F_plot_machine__draw_J1 at H
  show Tr _ _ (LF [(0, (.pointer (some ⟨bp0, 0, none⟩)))]) (LE [(0, bx bp0 #[(iv p0.p.Unit), (.slice Ap0_0 (p0.p.Tools).length cp0_0), (.slice Ap0_1 (p0.p.Steps).length cp0_1), (.slice Ap0_2 (p0.tools).length cp0_2), (.slice Al109 (l109).length cl109), (.bool p0.clear), (iv p0.tool), (iv p0.place.X), (iv p0.place.Y), (.bool p0.placed), (iv p0.off), (iv p0.on)] 95), (4, ow Al109 cl109 98 fl_TBand l109)]) _
  refine Tr.seq ?_
  refine Tr.sr ?_
  refine Tr.mv rfl rfl ?_
  refine Tr.v1 rfl run_nilCheck rfl ?_
  refine Tr.v1 rfl (run_fieldAddr fo_95_2) rfl ?_
  refine Tr.va rfl (fun _ _ h1 h2 => run_load1 ag_62 (h1.ev rfl) (rdb h2 (vs := [(iv p0.p.Unit), (.slice Ap0_0 (p0.p.Tools).length cp0_0), (.slice Ap0_1 (p0.p.Steps).length cp0_1), (.slice Ap0_2 (p0.tools).length cp0_2), (.slice Al109 (l109).length cl109), (.bool p0.clear), (iv p0.tool), (iv p0.place.X), (iv p0.place.Y), (.bool p0.placed), (iv p0.off), (iv p0.on)]) (k := 0) rfl 4) rfl) ?_
  obtain ⟨y112, hy112, H⟩ := bnd H
  refine Tr.call0 (r := (iv y112)) (wn rfl) rfl Tryz.call215 (evl_cons rfl evl_nil) (fun W hW => F_shape_Set__Many_ok l109 Al109 cl109 (hW.slCall (k := 4) rfl) y112 hy112 (HF.start _)) ?_
  refine Tr.v2 rfl run_gtr rfl rfl ?_
  refine Tr.nil (Tr.normThen ?_)
  refine Tr.cond rfl H (fun H => ?_) (fun H => ?_)
  ·refine Tr.sr ?_
   refine Tr.asg rfl rfl ?_
   refine Tr.nil (Tr.normThen ?_)
   refine Tr.ret (Tr.retThen ?_)
   obtain rfl := Option.some.inj H
   exact Tr.out (m := [(iv 2)]) [] (res_tmp rfl res_nil) (fun W hW => ⟨w, (Al109, cl109), leB, rfl, hl109, hW.pick (ks := [0, 4]) (by decide) (pk_cons rfl (pk_cons rfl pk_nil))⟩)
  ·refine Tr.skip (Tr.normThen ?_)
   refine Tr.sr ?_
   refine Tr.asg rfl rfl ?_
   refine Tr.nil (Tr.normThen ?_)
   refine Tr.ret ?_
   obtain rfl := Option.some.inj H
   exact Tr.out (m := [(iv 0)]) [] (res_tmp rfl res_nil) (fun W hW => ⟨w, (Al109, cl109), leB, rfl, hl109, hW.pick (ks := [0, 4]) (by decide) (pk_cons rfl (pk_cons rfl pk_nil))⟩)

theorem F_shape_Around_1_ok {w : Bs} (p0 : TRect) (p1 : TRect) (r : Int) (H : F_shape_Around_1 p0 p1 = some r) (hE : HF w w.W E0) : Calls Tryz.prog 226 [(.agg #[(iv p0.X0), (iv p0.Y0), (iv p0.X1), (iv p0.Y1)]), (.agg #[(iv p1.X0), (iv p1.Y0), (iv p1.X1), (iv p1.Y1)])].toArray w.W fun e W' => e = .returned (iv r) ∧ HF w W' E0 := by
 unfold F_shape_Around_1 at H
 have leB := Bs.Le.refl w
 refine Tr.enter (n := 10) Tryz.func226 rfl rfl rfl hE ?_
 refine Tr.sr ?_
 refine Tr.box 1 (cs := [(iv p0.X0), (iv p0.Y0), (iv p0.X1), (iv p0.Y1)]) (wn rfl) rfl rfl rfl fun b100 => ?_
 refine Tr.box 2 (cs := [(iv p1.X0), (iv p1.Y0), (iv p1.X1), (iv p1.Y1)]) (wn rfl) rfl rfl rfl fun b101 => ?_
 refine Tr.asg rfl rfl ?_
 refine Tr.nil (Tr.normThen ?_)
 refine Tr.sr ?_
 refine Tr.v1 rfl (run_fieldAddr fo_38_0) rfl ?_
 refine Tr.va rfl (fun _ _ h1 h2 => run_load1 ag_3 (h1.ev rfl) (rdb h2 (vs := [(iv p0.X0), (iv p0.Y0), (iv p0.X1), (iv p0.Y1)]) (k := 1) rfl 0) rfl) ?_
 refine Tr.v1 rfl (run_fieldAddr fo_38_0) rfl ?_
 refine Tr.va rfl (fun _ _ h1 h2 => run_load1 ag_3 (h1.ev rfl) (rdb h2 (vs := [(iv p1.X0), (iv p1.Y0), (iv p1.X1), (iv p1.Y1)]) (k := 2) rfl 0) rfl) ?_
 refine Tr.v2 rfl run_sub rfl rfl ?_
 refine Tr.asg rfl rfl ?_
 refine Tr.nil (Tr.normThen ?_)
 refine Tr.ret ?_
 obtain rfl := Option.some.inj H
 exact Tr.out (m := [(iv (w64 (p0.X0 - p1.X0)))]) [] (res_tmp rfl res_nil) (fun W hW => ⟨rfl, hW.low leB⟩)

theorem F_shape_Around_ok (N : Nat) {w : Bs} (p0 : (List (List TPoint))) (Ap0_0 : Option Addr) (cp0_0 : Nat) (hp0_0 : Sl w.R w.W fl_LTPoint Ap0_0 cp0_0 p0) (r : (List TBand)) (H : F_shape_Around N p0 = some r) (hE : HF w w.W (LEn [emp])) : Calls Tryz.prog 214 [(.slice Ap0_0 (p0).length cp0_0)].toArray w.W fun e W' => ∃ (w' : Bs) (u : (Option Addr × Nat)), w.Le w' ∧ e = .returned (.slice u.1 (r).length u.2) ∧ (SlF u.1 (r).length u.2) ∧ HF w' W' (LEn [ow u.1 u.2 98 fl_TBand r]) := by
 unfold F_shape_Around at H
 have leB := Bs.Le.refl w
 refine Tr.enter (n := 138) Tryz.func214 rfl rfl rfl hE ?_
 refine Tr.sr ?_
 refine Tr.asg rfl rfl ?_
 refine Tr.nilOwn 1 98 fl_TBand ?_
 show Tr _ _ (uf _ 2 (.slice none (([] : List TBand)).length 0)) _ _
 refine Tr.nil (Tr.normThen ?_)
 refine Tr.sr ?_
 refine Tr.asg rfl rfl ?_
 refine Tr.nilOwn 2 3 fl_i64 ?_
 show Tr _ _ (uf _ 3 (.slice none (([] : List Int)).length 0)) _ _
 refine Tr.nil (Tr.normThen ?_)
 refine Tr.sr ?_
 refine Tr.asg rfl rfl ?_
 refine Tr.nilOwn 3 38 fl_TRect ?_
 show Tr _ _ (uf _ 4 (.slice none (([] : List TRect)).length 0)) _ _
 refine Tr.nil (Tr.normThen ?_)
 refine Tr.seq ?_
 refine Tr.sr ?_
 refine Tr.mv rfl rfl ?_
 refine Tr.v1 rfl (run_len un_39) rfl ?_
 refine Tr.mv rfl rfl ?_
 refine Tr.nil (Tr.normThen ?_)
 refine Tr.block ?_
 refine Tr.loop (σ := (List (List TPoint)) × Nat × (List Int) × (List TRect) × (Option Addr) × Nat × (Option Addr) × Nat) (fun m w s => m = s.1.length + 1 ∧ s.1 = List.drop s.2.1 p0 ∧ s.2.1 ≤ p0.length ∧ F_shape_Around_L3 N s.1 s.2.1 s.2.2.1 s.2.2.2.1 = some r ∧ SlF s.2.2.2.2.1 (s.2.2.1).length s.2.2.2.2.2.1 ∧ SlF s.2.2.2.2.2.2.1 (s.2.2.2.1).length s.2.2.2.2.2.2.2) (fun s => [(3, (.slice s.2.2.2.2.1 (s.2.2.1).length s.2.2.2.2.2.1)), (4, (.slice s.2.2.2.2.2.2.1 (s.2.2.2.1).length s.2.2.2.2.2.2.2)), (16, (.slice Ap0_0 (p0).length cp0_0)), (17, (iv (p0.length : Int))), (18, (iv (s.2.1 : Int)))]) (fun s => [(2, ow s.2.2.2.2.1 s.2.2.2.2.2.1 3 fl_i64 s.2.2.1), (3, ow s.2.2.2.2.2.2.1 s.2.2.2.2.2.2.2 38 fl_TRect s.2.2.2.1)]) (p0.length + 1) (p0, 0, ([] : List Int), ([] : List TRect), none, 0, none, 0) ⟨rfl, rfl, Nat.zero_le _, H, slf_nil, slf_nil⟩ (.r rfl) (.r rfl) (fun _ _ h => absurd h.1 (by simp)) ?_
 intro w leL3 m s hs
 obtain ⟨restL3, iL3, l187, l188, Al187, cl187, Al188, cl188⟩ := s
 obtain ⟨hmL3, hdL3, hiL3, H, hl187, hl188⟩ := hs
 replace hdL3 : restL3 = List.drop iL3 p0 := hdL3
 replace H : F_shape_Around_L3 N restL3 iL3 l187 l188 = some r := H
 replace hmL3 : m + 1 = restL3.length + 1 := hmL3
 replace hp0_0 := hp0_0.leR leL3
 replace leB := leB.trans leL3
 replace hl187 : SlF Al187 (l187).length cl187 := hl187
 replace hl188 : SlF Al188 (l188).length cl188 := hl188
 obtain rfl : m = restL3.length := by omega
 clear hmL3
 show Tr _ _ (LF [(3, (.slice Al187 (l187).length cl187)), (4, (.slice Al188 (l188).length cl188)), (16, (.slice Ap0_0 (p0).length cp0_0)), (17, (iv (p0.length : Int))), (18, (iv (iL3 : Int)))]) (LE [(2, ow Al187 cl187 3 fl_i64 l187), (3, ow Al188 cl188 38 fl_TRect l188)]) _
 cases restL3 with
 | nil =>
  rw [F_shape_Around_L3.eq_1] at H
  refine Tr.sr ?_
  refine Tr.v2 rfl run_lss rfl rfl ?_
  refine Tr.nil (Tr.normThen ?_)
  refine Tr.seq ?_
  refine Tr.condF rfl (range_nil hdL3) ?_
  refine Tr.exit (Tr.exitThen (Tr.exitThen (Tr.exitBlock (Tr.normThen ?_))))
  refine Tr.sr ?_
  refine Tr.mv rfl rfl ?_
  obtain ⟨y189, hy189, H⟩ := bnd H
  refine Tr.callM [2] [ow Al187 cl187 3 fl_i64 l187] (U := Unit) (fun u => (.tuple #[])) (fun u => (y189).length = (l187).length) (fun u => [ow Al187 cl187 3 fl_i64 y189]) rfl (pk_cons rfl pk_nil) (fun _ => rfl) (wn rfl) rfl Tryz.call62 (evl_cons rfl evl_nil) (fun W hW hp hE => F_slices_Sort_int_ok l187 Al187 cl187 y189 hy189 hE) ?_
  intro u hu
  have gky189_0 := hu
  have hgky189_0 : (y189).length = (l187).length := gky189_0 --@phi
  have hfky189_0 : SlF Al187 (y189).length cl187 := by rw [hgky189_0]; exact hl187
  show Tr _ _ (uf _ 66 (.tuple #[])) (up _ 2 (ow Al187 cl187 3 fl_i64 y189)) _
  refine Tr.sel (lf := [(3, (.slice Al187 (y189).length cl187)), (4, (.slice Al188 (l188).length cl188)), (16, (.slice Ap0_0 (p0).length cp0_0)), (17, (iv (p0.length : Int))), (18, (iv (iL3 : Int))), (19, (.bool (decide ((iL3 : Int) < (p0.length : Int))))), (65, (.slice Al187 (y189).length cl187)), (66, (.tuple #[]))]) (le := [(2, ow Al187 cl187 3 fl_i64 y189), (3, ow Al188 cl188 38 fl_TRect l188)]) (.cons (slenV rfl (by rw [hgky189_0])) (.cons rfl (.cons rfl (.cons rfl (.cons rfl (.cons rfl (.cons (slenV rfl (by rw [hgky189_0])) (.r rfl)))))))) (.r rfl) ?_
  refine Tr.nil (Tr.normThen ?_)
  refine Tr.sr ?_
  refine Tr.mv rfl rfl ?_
  obtain ⟨y191, hy191, H⟩ := bnd H
  refine Tr.callM [2] [ow Al187 cl187 3 fl_i64 y189] (U := (Option Addr × Nat)) (fun u => (.slice u.1 (y191).length u.2)) (fun u => SlF u.1 (y191).length u.2) (fun u => [ow u.1 u.2 3 fl_i64 y191]) rfl (pk_cons rfl pk_nil) (fun _ => rfl) (wn rfl) rfl Tryz.call63 (evl_cons rfl evl_nil) (fun W hW hp hE => F_slices_Compact_int_ok y189 Al187 cl187 y191 hy191 hE) ?_
  intro u hu
  obtain ⟨Ay191_0, cy191_0⟩ := u
  have gy191_0 := hu
  have hgy191_0 : SlF Ay191_0 (y191).length cy191_0 := gy191_0 --@phi
  show Tr _ _ (uf _ 68 (.slice Ay191_0 (y191).length cy191_0)) (up _ 2 (ow Ay191_0 cy191_0 3 fl_i64 y191)) _
  refine Tr.asg rfl rfl ?_
  refine Tr.nil (Tr.normThen ?_)
  refine Tr.sr ?_
  refine Tr.mv rfl rfl ?_
  obtain ⟨y193, hy193, H⟩ := bnd H
  refine Tr.callM [3] [ow Al188 cl188 38 fl_TRect l188] (U := Unit) (fun u => (.tuple #[])) (fun u => (y193).length = (l188).length) (fun u => [ow Al188 cl188 38 fl_TRect y193]) rfl (pk_cons rfl pk_nil) (fun _ => rfl) (wn rfl) rfl Tryz.call60 (evl_cons rfl (evl_cons rfl evl_nil)) (fun W hW hp hE => F_slices_SortFunc_TRect_ok l188 Al188 cl188 (fun z0 z1 => F_shape_Around_1 z0 z1) 226 [] Tryz.call226 (fun w' he z0 z1 y hy => F_shape_Around_1_ok z0 z1 y hy (HF.start _)) y193 hy193 hE) ?_
  intro u hu
  have gky193_0 := hu
  have hgky193_0 : (y193).length = (l188).length := gky193_0 --@phi
  have hfky193_0 : SlF Al188 (y193).length cl188 := by rw [hgky193_0]; exact hl188
  show Tr _ _ (uf _ 70 (.tuple #[])) (up _ 3 (ow Al188 cl188 38 fl_TRect y193)) _
  refine Tr.sel (lf := [(3, (.slice Ay191_0 (y191).length cy191_0)), (4, (.slice Al188 (y193).length cl188)), (16, (.slice Ap0_0 (p0).length cp0_0)), (17, (iv (p0.length : Int))), (18, (iv (iL3 : Int))), (19, (.bool (decide ((iL3 : Int) < (p0.length : Int))))), (66, (.tuple #[])), (68, (.slice Ay191_0 (y191).length cy191_0)), (69, (.slice Al188 (y193).length cl188)), (70, (.tuple #[]))]) (le := [(2, ow Ay191_0 cy191_0 3 fl_i64 y191), (3, ow Al188 cl188 38 fl_TRect y193)]) (.cons rfl (.cons (slenV rfl (by rw [hgky193_0])) (.cons rfl (.cons rfl (.cons rfl (.cons rfl (.cons rfl (.cons rfl (.cons (slenV rfl (by rw [hgky193_0])) (.r rfl)))))))))) (.r rfl) ?_
  refine Tr.nil (Tr.normThen ?_)
  refine Tr.sr ?_
  refine Tr.asg rfl rfl ?_
  refine Tr.nilOwn 28 98 fl_TBand ?_
  show Tr _ _ (uf _ 10 (.slice none (([] : List TBand)).length 0)) _ _
  refine Tr.nil (Tr.normThen ?_)
  refine Tr.seq ?_
  refine Tr.sr ?_
  refine Tr.asg rfl rfl ?_
  refine Tr.nil (Tr.normThen ?_)
  refine Tr.block ?_
  refine Tr.loop (σ := (List TBand) × Int × (Option Addr) × Nat) (fun m w s => F_shape_Around_L6 y191 y193 m s.1 s.2.1 = some r ∧ SlF s.2.2.1 (s.1).length s.2.2.2) (fun s => [(3, (.slice Ay191_0 (y191).length cy191_0)), (4, (.slice Al188 (y193).length cl188)), (10, (.slice s.2.2.1 (s.1).length s.2.2.2)), (11, (iv s.2.1))]) (fun s => [(2, ow Ay191_0 cy191_0 3 fl_i64 y191), (3, ow Al188 cl188 38 fl_TRect y193), (28, ow s.2.2.1 s.2.2.2 98 fl_TBand s.1)]) N (([] : List TBand), 0, none, 0) ⟨H, slf_nil⟩ (.r rfl) (.r rfl) (fun _ _ h => noSome (h.1)) ?_
  intro w leL6 mL6 s hs
  obtain ⟨l297, x298, Al297, cl297⟩ := s
  obtain ⟨H, hl297⟩ := hs
  replace H : F_shape_Around_L6 y191 y193 (mL6 + 1) l297 x298 = some r := H
  replace leB := leB.trans leL6
  replace leL3 := leL3.trans leL6
  replace hl297 : SlF Al297 (l297).length cl297 := hl297
  rw [F_shape_Around_L6.eq_2] at H
  show Tr _ _ (LF [(3, (.slice Ay191_0 (y191).length cy191_0)), (4, (.slice Al188 (y193).length cl188)), (10, (.slice Al297 (l297).length cl297)), (11, (iv x298))]) (LE [(2, ow Ay191_0 cy191_0 3 fl_i64 y191), (3, ow Al188 cl188 38 fl_TRect y193), (28, ow Al297 cl297 98 fl_TBand l297)]) _
  refine Tr.seq ?_
  refine Tr.sr ?_
  refine Tr.mv rfl rfl ?_
  refine Tr.v2 rfl run_add rfl rfl ?_
  refine Tr.mv rfl rfl ?_
  refine Tr.v1 rfl (run_len un_96) rfl ?_
  refine Tr.v2 rfl run_lss rfl rfl ?_
  refine Tr.nil (Tr.normThen ?_)
  refine Tr.cond rfl H (fun H => ?_) (fun H => ?_)
  ·refine Tr.skip (Tr.normThen ?_)
   refine Tr.seq ?_
   refine Tr.block ?_
   refine Tr.sr ?_
   refine Tr.asg rfl rfl ?_
   refine Tr.nilOwn 43 3 fl_i64 ?_
   show Tr _ _ (uf _ 12 (.slice none (([] : List Int)).length 0)) _ _
   refine Tr.nil (Tr.normThen ?_)
   refine Tr.seq ?_
   refine Tr.sr ?_
   refine Tr.mv rfl rfl ?_
   refine Tr.v1 rfl (run_len un_22) rfl ?_
   refine Tr.mv rfl rfl ?_
   refine Tr.nil (Tr.normThen ?_)
   refine Tr.block ?_
   refine Tr.loop (σ := (List TRect) × Nat × (List Int) × (Option Addr) × Nat) (fun m w s => m = s.1.length + 1 ∧ s.1 = List.drop s.2.1 y193 ∧ s.2.1 ≤ y193.length ∧ F_shape_Around_L7 y191 l297 x298 (F_shape_Around_L6 y191 y193 mL6) s.1 s.2.1 s.2.2.1 = some r ∧ SlF s.2.2.2.1 (s.2.2.1).length s.2.2.2.2) (fun s => [(3, (.slice Ay191_0 (y191).length cy191_0)), (4, (.slice Al188 (y193).length cl188)), (10, (.slice Al297 (l297).length cl297)), (11, (iv x298)), (12, (.slice s.2.2.2.1 (s.2.2.1).length s.2.2.2.2)), (78, (.slice Al188 (y193).length cl188)), (79, (iv (y193.length : Int))), (80, (iv (s.2.1 : Int)))]) (fun s => [(2, ow Ay191_0 cy191_0 3 fl_i64 y191), (3, ow Al188 cl188 38 fl_TRect y193), (28, ow Al297 cl297 98 fl_TBand l297), (43, ow s.2.2.2.1 s.2.2.2.2 3 fl_i64 s.2.2.1)]) (y193.length + 1) (y193, 0, ([] : List Int), none, 0) ⟨rfl, rfl, Nat.zero_le _, H, slf_nil⟩ (.r rfl) (.r rfl) (fun _ _ h => absurd h.1 (by simp)) ?_
   intro w leL7 m s hs
   obtain ⟨restL7, iL7, l329, Al329, cl329⟩ := s
   obtain ⟨hmL7, hdL7, hiL7, H, hl329⟩ := hs
   replace hdL7 : restL7 = List.drop iL7 y193 := hdL7
   replace H : F_shape_Around_L7 y191 l297 x298 (F_shape_Around_L6 y191 y193 mL6) restL7 iL7 l329 = some r := H
   replace hmL7 : m + 1 = restL7.length + 1 := hmL7
   replace leB := leB.trans leL7
   replace leL3 := leL3.trans leL7
   replace leL6 := leL6.trans leL7
   replace hl329 : SlF Al329 (l329).length cl329 := hl329
   obtain rfl : m = restL7.length := by omega
   clear hmL7
   show Tr _ _ (LF [(3, (.slice Ay191_0 (y191).length cy191_0)), (4, (.slice Al188 (y193).length cl188)), (10, (.slice Al297 (l297).length cl297)), (11, (iv x298)), (12, (.slice Al329 (l329).length cl329)), (78, (.slice Al188 (y193).length cl188)), (79, (iv (y193.length : Int))), (80, (iv (iL7 : Int)))]) (LE [(2, ow Ay191_0 cy191_0 3 fl_i64 y191), (3, ow Al188 cl188 38 fl_TRect y193), (28, ow Al297 cl297 98 fl_TBand l297), (43, ow Al329 cl329 3 fl_i64 l329)]) _
   cases restL7 with
   | nil =>
    rw [F_shape_Around_L7.eq_1] at H
    refine Tr.sr ?_
    refine Tr.v2 rfl run_lss rfl rfl ?_
    refine Tr.nil (Tr.normThen ?_)
    refine Tr.seq ?_
    refine Tr.condF rfl (range_nil hdL7) ?_
    refine Tr.exit (Tr.exitThen (Tr.exitThen (Tr.exitBlock (Tr.normThen ?_))))
    refine Tr.drawTail 12 (by kernel_rfl) (by kernel_rfl) ?_
    refine Tq.mv rfl rfl ?_
    refine Tq.mv rfl rfl ?_
    refine Tq.mv rfl rfl ?_
    obtain ⟨x330, hx330, H⟩ := bnd H
    obtain ⟨hx3300, hx3301, hx3302⟩ := idx_some hx330
    refine Tq.va rfl (fun _ _ h1 h2 => run_indexAddr el_96 (h1.ev rfl) hgy191_0 (h1.ev rfl) hx3300 hx3301) ?_
    refine Tq.va rfl (fun _ _ h1 h2 => run_load1 ag_3 (h1.ev rfl) (rdo ef_i64 (k := 2) h2 rfl hx3302) rfl) ?_
    refine Tq.mv rfl rfl ?_
    refine Tq.mv rfl rfl ?_
    refine Tq.v2 rfl run_add rfl rfl ?_
    obtain ⟨x331, hx331, H⟩ := bnd H
    obtain ⟨hx3310, hx3311, hx3312⟩ := idx_some hx331
    refine Tq.va rfl (fun _ _ h1 h2 => run_indexAddr el_96 (h1.ev rfl) hgy191_0 (h1.ev rfl) hx3310 hx3311) ?_
    refine Tq.va rfl (fun _ _ h1 h2 => run_load1 ag_3 (h1.ev rfl) (rdo ef_i64 (k := 2) h2 rfl hx3312) rfl) ?_
    refine Tq.mv rfl rfl ?_
    refine Tq.build (vs := [(0, (iv x330)), (1, (iv x331)), (2, (.slice Al329 (l329).length cl329))]) (cs := [(iv x330), (iv x331), (.slice Al329 (l329).length cl329)]) (wn rfl) rfl (evs_cons rfl (evs_cons rfl (evs_cons rfl evs_nil))) (by kernel_rfl) ?_
    refine Tq.nil ?_
    refine Tr.freeze 43 rfl fun w le333 hz332 => ?_
    replace leB := leB.trans le333
    replace leL3 := leL3.trans le333
    replace leL6 := leL6.trans le333
    replace leL7 := leL7.trans le333
    obtain ⟨y334, hy334, H⟩ := bnd H
    refine Tr.callG [28] [ow Al297 cl297 98 fl_TBand l297] (U := (Option Addr × Nat)) (fun u => (.slice u.1 (y334).length u.2)) (fun O W u => SlF u.1 (y334).length u.2) (fun u => [ow u.1 u.2 98 fl_TBand y334]) rfl (pk_cons rfl pk_nil) (fun _ => rfl) (wn rfl) rfl Tryz.call66 (evl_cons rfl (evl_cons rfl evl_nil)) (fun W hW hp hE => F_shape_Set__push_ok l297 Al297 cl297 (TBand.mk x330 x331 l329) Al329 cl329 (hz332.extO (hW.extS hp)) y334 hy334 hE) ?_
    intro w u le335 hu
    obtain ⟨Ay334_0, cy334_0⟩ := u
    have gy334_0 := hu
    replace hz332 := hz332.le le335
    replace leB := leB.trans le335
    replace leL3 := leL3.trans le335
    replace leL6 := leL6.trans le335
    replace leL7 := leL7.trans le335
    have hgy334_0 : SlF Ay334_0 (y334).length cy334_0 := gy334_0 --@phi
    show Tr _ _ (uf _ 136 (.slice Ay334_0 (y334).length cy334_0)) (up _ 28 (ow Ay334_0 cy334_0 98 fl_TBand y334)) _
    refine Tr.asg rfl rfl ?_
    refine Tr.nil (Tr.normBlock (Tr.normThen ?_))
    refine Tr.region ?_
    refine Tr.mv rfl rfl ?_
    refine Tr.v2 rfl run_add rfl rfl ?_
    refine Tr.asg rfl rfl ?_
    refine Tr.nil ?_
    exact Tr.backThen leL6 (y334, (w64 (x298 + 1)), Ay334_0, cy334_0) ⟨H, hgy334_0⟩ (.r rfl) (.r rfl)
   | cons xL7 restL7 =>
    rw [F_shape_Around_L7.eq_2] at H
    refine Tr.sr ?_
    refine Tr.v2 rfl run_lss rfl rfl ?_
    refine Tr.nil (Tr.normThen ?_)
    refine Tr.seq ?_
    refine Tr.condT rfl (range_on hdL7) ?_
    refine Tr.skip (Tr.normThen ?_)
    refine Tr.seq ?_
    refine Tr.block ?_
    refine Tr.sr ?_
    refine Tr.va rfl (fun _ _ h1 h2 => run_indexAddr el_22 (h1.ev rfl) hfky193_0 (h1.ev rfl) (Int.natCast_nonneg _) (range_lt hdL7)) ?_
    refine Tr.va rfl (fun _ _ h1 h2 => run_loadN (cs := [(iv xL7.X0), (iv xL7.Y0), (iv xL7.X1), (iv xL7.Y1)]) ag_38 sz_38 (h1.ev rfl) (CellsAt.take (rdo ef_TRect (k := 3) h2 rfl (range_at hdL7)) 4) rfl) ?_
    refine Tr.alloc 48 (wn rfl) rfl ze_38 fun b336 => ?_
    refine Tr.store 48 (cs := [(iv xL7.X0), (iv xL7.Y0), (iv xL7.X1), (iv xL7.Y1)]) [(iv xL7.X0), (iv xL7.Y0), (iv xL7.X1), (iv xL7.Y1)] (wn rfl) rfl rfl rfl rfl sz_38 rfl rfl rfl ?_
    refine Tr.nil (Tr.normThen ?_)
    refine Tr.seq ?_
    refine Tr.seq ?_
    refine Tr.draw (by kernel_rfl) (by kernel_rfl) ?_
    refine Tq.v1 rfl (run_fieldAddr fo_38_1) rfl ?_
    refine Tq.va rfl (fun _ _ h1 h2 => run_load1 ag_3 (h1.ev rfl) (rdb h2 (vs := [(iv xL7.X0), (iv xL7.Y0), (iv xL7.X1), (iv xL7.Y1)]) (k := 48) rfl 1) rfl) ?_
    refine Tq.mv rfl rfl ?_
    refine Tq.mv rfl rfl ?_
    obtain ⟨x337, hx337, H⟩ := bnd H
    obtain ⟨hx3370, hx3371, hx3372⟩ := idx_some hx337
    refine Tq.va rfl (fun _ _ h1 h2 => run_indexAddr el_96 (h1.ev rfl) hgy191_0 (h1.ev rfl) hx3370 hx3371) ?_
    refine Tq.va rfl (fun _ _ h1 h2 => run_load1 ag_3 (h1.ev rfl) (rdo ef_i64 (k := 2) h2 rfl hx3372) rfl) ?_
    refine Tq.v2 rfl run_gtr rfl rfl ?_
    refine Tq.mv rfl rfl ?_
    obtain ⟨g339, hg339, H⟩ := bnd H
    refine Tq.mid 8 [(3, (.slice Ay191_0 (y191).length cy191_0)), (4, (.slice Al188 (y193).length cl188)), (10, (.slice Al297 (l297).length cl297)), (11, (iv x298)), (12, (.slice Al329 (l329).length cl329)), (14, (.pointer (some ⟨b336, 0, none⟩))), (78, (.slice Al188 (y193).length cl188)), (79, (iv (y193.length : Int))), (80, (iv (iL7 : Int))), (99, (.bool g339))] ?_ ?_
    ·cases hg346 : (decide (x337 < xL7.Y0))
     ·rw [hg346] at hg339
      rw [if_neg (by decide)] at hg339
      have H := hg339
      refine Tq.w1 (wg rfl rfl rfl) rfl (run_fieldAddr fo_38_3) rfl ?_
      refine Tq.val (wg rfl rfl rfl) rfl (fun _ _ h1 h2 => run_load1 ag_3 (h1.ev rfl) (rdb h2 (vs := [(iv xL7.X0), (iv xL7.Y0), (iv xL7.X1), (iv xL7.Y1)]) (k := 48) rfl 3) rfl) ?_
      refine Tq.w1 (wg rfl rfl rfl) rfl run_move rfl ?_
      refine Tq.w1 (wg rfl rfl rfl) rfl run_move rfl ?_
      obtain ⟨x340, hx340, H⟩ := bnd H
      obtain ⟨hx3400, hx3401, hx3402⟩ := idx_some hx340
      refine Tq.val (wg rfl rfl rfl) rfl (fun _ _ h1 h2 => run_indexAddr el_96 (h1.ev rfl) hgy191_0 (h1.ev rfl) hx3400 hx3401) ?_
      refine Tq.val (wg rfl rfl rfl) rfl (fun _ _ h1 h2 => run_load1 ag_3 (h1.ev rfl) (rdo ef_i64 (k := 2) h2 rfl hx3402) rfl) ?_
      refine Tq.w2 (wg rfl rfl rfl) rfl run_leq rfl rfl ?_
      refine Tq.v2 rfl run_pickF rfl rfl ?_
      obtain rfl := Option.some.inj H
      exact Tq.fin (.r rfl)
     ·rw [hg346] at hg339
      rw [if_pos rfl] at hg339
      have H := hg339
      obtain rfl := Option.some.inj H
      refine Tq.ps ?_
      refine Tq.ps ?_
      refine Tq.ps ?_
      refine Tq.ps ?_
      refine Tq.ps ?_
      refine Tq.ps ?_
      refine Tq.ps ?_
      refine Tq.v2 rfl run_pickT rfl rfl ?_
      exact Tq.fin (.r rfl)
    ·refine Tq.nil (Tr.normThen ?_)
     refine Tr.cond rfl H (fun H => ?_) (fun H => ?_)
     ·refine Tr.exit (Tr.exitThen (Tr.exitBlock (Tr.normThen ?_)))
      refine Tr.region ?_
      refine Tr.v2 rfl run_add rfl rfl ?_
      refine Tr.mv rfl rfl ?_
      refine Tr.nil ?_
      exact Tr.backThen leL7 (restL7, (iL7 + 1), l329, Al329, cl329) ⟨rfl, range_tl hdL7, range_lt hdL7, H, hl329⟩ (.cons rfl (.cons rfl (.cons rfl (.cons rfl (.cons rfl (.cons rfl (.cons rfl (.cons (congrArg (fun z => some (Value.int .i64 z)) (range_up hdL7 hfky193_0)) .nil)))))))) (.r rfl)
     ·refine Tr.skip (Tr.normThen ?_)
      refine Tr.sr ?_
      refine Tr.mv rfl rfl ?_
      refine Tr.v1 rfl (run_len un_96) rfl ?_
      refine Tr.asg rfl rfl ?_
      refine Tr.nil (Tr.normThen ?_)
      refine Tr.seq ?_
      refine Tr.draw (by kernel_rfl) (by kernel_rfl) ?_
      refine Tq.mv rfl rfl ?_
      refine Tq.v2 rfl run_gtr rfl rfl ?_
      refine Tq.mv rfl rfl ?_
      obtain ⟨g342, hg342, H⟩ := bnd H
      refine Tq.mid 9 [(3, (.slice Ay191_0 (y191).length cy191_0)), (4, (.slice Al188 (y193).length cl188)), (10, (.slice Al297 (l297).length cl297)), (11, (iv x298)), (12, (.slice Al329 (l329).length cl329)), (14, (.pointer (some ⟨b336, 0, none⟩))), (15, (iv (l329.length : Int))), (78, (.slice Al188 (y193).length cl188)), (79, (iv (y193.length : Int))), (80, (iv (iL7 : Int))), (113, (.bool g342))] ?_ ?_
      ·cases hg346 : (decide (0 < (l329.length : Int)))
       ·rw [hg346] at hg342
        rw [if_neg (by decide)] at hg342
        have H := hg342
        obtain rfl := Option.some.inj H
        refine Tq.ps ?_
        refine Tq.ps ?_
        refine Tq.ps ?_
        refine Tq.ps ?_
        refine Tq.ps ?_
        refine Tq.ps ?_
        refine Tq.ps ?_
        refine Tq.ps ?_
        refine Tq.v2 rfl run_pickF rfl rfl ?_
        exact Tq.fin (.r rfl)
       ·rw [hg346] at hg342
        rw [if_pos rfl] at hg342
        have H := hg342
        refine Tq.w1 (wg rfl rfl rfl) rfl run_move rfl ?_
        refine Tq.w1 (wg rfl rfl rfl) rfl run_move rfl ?_
        refine Tq.w2 (wg rfl rfl rfl) rfl run_sub rfl rfl ?_
        obtain ⟨x343, hx343, H⟩ := bnd H
        obtain ⟨hx3430, hx3431, hx3432⟩ := idx_some hx343
        refine Tq.val (wg rfl rfl rfl) rfl (fun _ _ h1 h2 => run_indexAddr el_96 (h1.ev rfl) hl329 (h1.ev rfl) hx3430 hx3431) ?_
        refine Tq.val (wg rfl rfl rfl) rfl (fun _ _ h1 h2 => run_load1 ag_3 (h1.ev rfl) (rdo ef_i64 (k := 43) h2 rfl hx3432) rfl) ?_
        refine Tq.w1 (wg rfl rfl rfl) rfl (run_fieldAddr fo_38_0) rfl ?_
        refine Tq.val (wg rfl rfl rfl) rfl (fun _ _ h1 h2 => run_load1 ag_3 (h1.ev rfl) (rdb h2 (vs := [(iv xL7.X0), (iv xL7.Y0), (iv xL7.X1), (iv xL7.Y1)]) (k := 48) rfl 0) rfl) ?_
        refine Tq.w2 (wg rfl rfl rfl) rfl run_eql rfl rfl ?_
        refine Tq.v2 rfl run_pickT rfl rfl ?_
        obtain rfl := Option.some.inj H
        exact Tq.fin (.r rfl)
      ·refine Tq.nil (Tr.normThen ?_)
       refine Tr.cond rfl H (fun H => ?_) (fun H => ?_)
       ·refine Tr.region ?_
        refine Tr.mv rfl rfl ?_
        refine Tr.mv rfl rfl ?_
        refine Tr.v2 rfl run_sub rfl rfl ?_
        obtain ⟨l344, hl344, H⟩ := bnd H
        refine Tr.va rfl (fun _ _ h1 h2 => run_pre el_96 (h1.ev rfl) hl329 (h1.ev rfl) hl344) ?_
        refine Tr.asg rfl rfl ?_
        refine Tr.nil (Tr.normBlock (Tr.normThen ?_))
        refine Tr.region ?_
        refine Tr.v2 rfl run_add rfl rfl ?_
        refine Tr.mv rfl rfl ?_
        refine Tr.nil ?_
        refine Tr.shrinkP 43 hl344 rfl ?_
        exact Tr.backThen leL7 (restL7, (iL7 + 1), l344, Al329, cl329) ⟨rfl, range_tl hdL7, range_lt hdL7, H, (pre_form hl329 hl344)⟩ (.cons rfl (.cons rfl (.cons rfl (.cons rfl (.cons rfl (.cons rfl (.cons rfl (.cons (congrArg (fun z => some (Value.int .i64 z)) (range_up hdL7 hfky193_0)) .nil)))))))) (.r rfl)
       ·refine Tr.region ?_
        refine Tr.mv rfl rfl ?_
        refine Tr.v1 rfl (run_fieldAddr fo_38_0) rfl ?_
        refine Tr.va rfl (fun _ _ h1 h2 => run_load1 ag_3 (h1.ev rfl) (rdb h2 (vs := [(iv xL7.X0), (iv xL7.Y0), (iv xL7.X1), (iv xL7.Y1)]) (k := 48) rfl 0) rfl) ?_
        refine Tr.buildSlice 49 (e := 3) (vs := [(0, (iv xL7.X0))]) (cs := [(iv xL7.X0)]) (wn rfl) rfl (evs_cons rfl evs_nil) (by kernel_rfl) fun b345 => ?_
        obtain ⟨l346, hl346, H⟩ := bnd H
        refine Tr.append 43 (t := fl_i64) (l := l329) (l2 := [xL7.X0]) (wn rfl) rfl rfl rfl rfl (fun W hW => ⟨[[(iv xL7.X0)]], (.cons ⟨(), trivial, rfl⟩ .nil), rdb hW (vs := [(iv xL7.X0)]) (k := 49) rfl 0⟩) un_96 sz_3 zl_3 (by decide) by_3 rfl hl346 fun Al346 cl346 hAl346 => ?_
        refine Tr.asg rfl rfl ?_
        refine Tr.nil (Tr.normBlock (Tr.normThen ?_))
        refine Tr.region ?_
        refine Tr.v2 rfl run_add rfl rfl ?_
        refine Tr.mv rfl rfl ?_
        refine Tr.nil ?_
        exact Tr.backThen leL7 (restL7, (iL7 + 1), l346, Al346, cl346) ⟨rfl, range_tl hdL7, range_lt hdL7, H, hAl346⟩ (.cons rfl (.cons rfl (.cons rfl (.cons rfl (.cons rfl (.cons rfl (.cons rfl (.cons (congrArg (fun z => some (Value.int .i64 z)) (range_up hdL7 hfky193_0)) .nil)))))))) (.r rfl)
  ·refine Tr.exit (Tr.exitThen (Tr.exitThen (Tr.exitBlock (Tr.normThen ?_))))
   refine Tr.sr ?_
   refine Tr.mv rfl rfl ?_
   refine Tr.asg rfl rfl ?_
   refine Tr.nil (Tr.normThen ?_)
   refine Tr.ret ?_
   obtain rfl := Option.some.inj H
   exact Tr.out (m := [(.slice Al297 (l297).length cl297)]) [] (res_tmp rfl res_nil) (fun W hW => ⟨w, (Al297, cl297), leB, rfl, hl297, hW.pick (ks := [28]) (by decide) (pk_cons rfl pk_nil)⟩)
 | cons xL3 restL3 =>
  rw [F_shape_Around_L3.eq_2] at H
  refine Tr.sr ?_
  refine Tr.v2 rfl run_lss rfl rfl ?_
  refine Tr.nil (Tr.normThen ?_)
  refine Tr.seq ?_
  refine Tr.condT rfl (range_on hdL3) ?_
  refine Tr.skip (Tr.normThen ?_)
  refine Tr.seq ?_
  refine Tr.block ?_
  refine Tr.sr ?_
  obtain ⟨u347, hRu347, hoku347, hcu347⟩ := (hp0_0).el (range_at hdL3)
  obtain ⟨Au347_0, cu347_0⟩ := u347
  have hoku347_0 := hoku347
  replace hoku347_0 : Sl w.R w.W fl_TPoint Au347_0 cu347_0 xL3 := hoku347_0
  refine Tr.va rfl (fun _ _ h1 h2 => run_indexAddr el_39 (h1.ev rfl) hp0_0.form (h1.ev rfl) (Int.natCast_nonneg _) (range_lt hdL3)) ?_
  refine Tr.va rfl (fun _ _ h1 h2 => run_load1 ag_43 (h1.ev rfl) (rdR hRu347 hcu347 h2) rfl) ?_
  refine Tr.asg rfl rfl ?_
  refine Tr.nil (Tr.normThen ?_)
  refine Tr.sr ?_
  refine Tr.mv rfl rfl ?_
  refine Tr.v1 rfl (run_len un_43) rfl ?_
  refine Tr.mv rfl rfl ?_
  refine Tr.nil (Tr.normThen ?_)
  refine Tr.block ?_
  refine Tr.loop (σ := (List TPoint) × Nat × (List Int) × (List TRect) × (Option Addr) × Nat × (Option Addr) × Nat) (fun m w s => m = s.1.length + 1 ∧ s.1 = List.drop s.2.1 xL3 ∧ s.2.1 ≤ xL3.length ∧ F_shape_Around_L8 (F_shape_Around_L3 N restL3 (iL3 + 1)) xL3 s.1 s.2.1 s.2.2.1 s.2.2.2.1 = some r ∧ SlF s.2.2.2.2.1 (s.2.2.1).length s.2.2.2.2.2.1 ∧ SlF s.2.2.2.2.2.2.1 (s.2.2.2.1).length s.2.2.2.2.2.2.2) (fun s => [(3, (.slice s.2.2.2.2.1 (s.2.2.1).length s.2.2.2.2.2.1)), (4, (.slice s.2.2.2.2.2.2.1 (s.2.2.2.1).length s.2.2.2.2.2.2.2)), (6, (.slice Au347_0 (xL3).length cu347_0)), (16, (.slice Ap0_0 (p0).length cp0_0)), (17, (iv (p0.length : Int))), (18, (iv (iL3 : Int))), (22, (.slice Au347_0 (xL3).length cu347_0)), (23, (iv (xL3.length : Int))), (24, (iv (s.2.1 : Int)))]) (fun s => [(2, ow s.2.2.2.2.1 s.2.2.2.2.2.1 3 fl_i64 s.2.2.1), (3, ow s.2.2.2.2.2.2.1 s.2.2.2.2.2.2.2 38 fl_TRect s.2.2.2.1)]) (xL3.length + 1) (xL3, 0, l187, l188, Al187, cl187, Al188, cl188) ⟨rfl, rfl, Nat.zero_le _, H, hl187, hl188⟩ (.r rfl) (.r rfl) (fun _ _ h => absurd h.1 (by simp)) ?_
  intro w leL8 m s hs
  obtain ⟨restL8, iL8, l375, l376, Al375, cl375, Al376, cl376⟩ := s
  obtain ⟨hmL8, hdL8, hiL8, H, hl375, hl376⟩ := hs
  replace hdL8 : restL8 = List.drop iL8 xL3 := hdL8
  replace H : F_shape_Around_L8 (F_shape_Around_L3 N restL3 (iL3 + 1)) xL3 restL8 iL8 l375 l376 = some r := H
  replace hmL8 : m + 1 = restL8.length + 1 := hmL8
  replace hoku347_0 := hoku347_0.leR leL8
  replace hp0_0 := hp0_0.leR leL8
  replace leB := leB.trans leL8
  replace leL3 := leL3.trans leL8
  replace hl375 : SlF Al375 (l375).length cl375 := hl375
  replace hl376 : SlF Al376 (l376).length cl376 := hl376
  obtain rfl : m = restL8.length := by omega
  clear hmL8
  show Tr _ _ (LF [(3, (.slice Al375 (l375).length cl375)), (4, (.slice Al376 (l376).length cl376)), (6, (.slice Au347_0 (xL3).length cu347_0)), (16, (.slice Ap0_0 (p0).length cp0_0)), (17, (iv (p0.length : Int))), (18, (iv (iL3 : Int))), (22, (.slice Au347_0 (xL3).length cu347_0)), (23, (iv (xL3.length : Int))), (24, (iv (iL8 : Int)))]) (LE [(2, ow Al375 cl375 3 fl_i64 l375), (3, ow Al376 cl376 38 fl_TRect l376)]) _
  cases restL8 with
  | nil =>
   rw [F_shape_Around_L8.eq_1] at H
   refine Tr.sr ?_
   refine Tr.v2 rfl run_lss rfl rfl ?_
   refine Tr.nil (Tr.normThen ?_)
   refine Tr.seq ?_
   refine Tr.condF rfl (range_nil hdL8) ?_
   refine Tr.exit (Tr.exitThen (Tr.exitThen (Tr.exitBlock (Tr.normBlock (Tr.normThen ?_)))))
   refine Tr.region ?_
   refine Tr.v2 rfl run_add rfl rfl ?_
   refine Tr.mv rfl rfl ?_
   refine Tr.nil ?_
   exact Tr.backThen leL3 (restL3, (iL3 + 1), l375, l376, Al375, cl375, Al376, cl376) ⟨rfl, range_tl hdL3, range_lt hdL3, H, hl375, hl376⟩ (.cons rfl (.cons rfl (.cons rfl (.cons rfl (.cons (congrArg (fun z => some (Value.int .i64 z)) (range_up hdL3 hp0_0.form)) .nil))))) (.r rfl)
  | cons xL8 restL8 =>
   rw [F_shape_Around_L8.eq_2] at H
   refine Tr.sr ?_
   refine Tr.v2 rfl run_lss rfl rfl ?_
   refine Tr.nil (Tr.normThen ?_)
   refine Tr.seq ?_
   refine Tr.condT rfl (range_on hdL8) ?_
   refine Tr.skip (Tr.normThen ?_)
   refine Tr.seq ?_
   refine Tr.block ?_
   refine Tr.sr ?_
   refine Tr.mv rfl rfl ?_
   refine Tr.va rfl (fun _ _ h1 h2 => run_indexAddr el_43 (h1.ev rfl) hoku347_0.form (h1.ev rfl) (Int.natCast_nonneg _) (range_lt hdL8)) ?_
   refine Tr.va rfl (fun _ _ h1 h2 => run_loadN (cs := [(iv xL8.X), (iv xL8.Y)]) ag_47 sz_47 (h1.ev rfl) (CellsAt.take (rdF ef_TPoint hoku347_0 (range_at hdL8) h2) 2) rfl) ?_
   refine Tr.alloc 58 (wn rfl) rfl ze_47 fun b377 => ?_
   refine Tr.asg rfl rfl ?_
   refine Tr.store 58 (cs := [(iv xL8.X), (iv xL8.Y)]) [(iv xL8.X), (iv xL8.Y)] (wn rfl) rfl rfl rfl rfl sz_47 rfl rfl rfl ?_
   refine Tr.nil (Tr.normThen ?_)
   refine Tr.sr ?_
   refine Tr.mv rfl rfl ?_
   refine Tr.mv rfl rfl ?_
   refine Tr.v2 rfl run_add rfl rfl ?_
   refine Tr.mv rfl rfl ?_
   refine Tr.v1 rfl (run_len un_43) rfl ?_
   obtain ⟨q378, hq378, H⟩ := bnd H
   refine Tr.va rfl (fun _ _ h1 h2 => run_md (h1.ev rfl) (h1.ev rfl) hq378) ?_
   obtain ⟨x379, hx379, H⟩ := bnd H
   obtain ⟨hx3790, hx3791, hx3792⟩ := idx_some hx379
   refine Tr.va rfl (fun _ _ h1 h2 => run_indexAddr el_43 (h1.ev rfl) hoku347_0.form (h1.ev rfl) hx3790 hx3791) ?_
   refine Tr.va rfl (fun _ _ h1 h2 => run_loadN (cs := [(iv x379.X), (iv x379.Y)]) ag_47 sz_47 (h1.ev rfl) (CellsAt.take (rdF ef_TPoint hoku347_0 hx3792 h2) 2) rfl) ?_
   refine Tr.alloc 59 (wn rfl) rfl ze_47 fun b380 => ?_
   refine Tr.store 59 (cs := [(iv x379.X), (iv x379.Y)]) [(iv x379.X), (iv x379.Y)] (wn rfl) rfl rfl rfl rfl sz_47 rfl rfl rfl ?_
   refine Tr.nil (Tr.normThen ?_)
   refine Tr.sr ?_
   refine Tr.mv rfl rfl ?_
   refine Tr.v1 rfl (run_fieldAddr fo_47_1) rfl ?_
   refine Tr.va rfl (fun _ _ h1 h2 => run_load1 ag_3 (h1.ev rfl) (rdb h2 (vs := [(iv xL8.X), (iv xL8.Y)]) (k := 58) rfl 1) rfl) ?_
   refine Tr.buildSlice 60 (e := 3) (vs := [(0, (iv xL8.Y))]) (cs := [(iv xL8.Y)]) (wn rfl) rfl (evs_cons rfl evs_nil) (by kernel_rfl) fun b381 => ?_
   obtain ⟨l382, hl382, H⟩ := bnd H
   refine Tr.append 2 (t := fl_i64) (l := l375) (l2 := [xL8.Y]) (wn rfl) rfl rfl rfl rfl (fun W hW => ⟨[[(iv xL8.Y)]], (.cons ⟨(), trivial, rfl⟩ .nil), rdb hW (vs := [(iv xL8.Y)]) (k := 60) rfl 0⟩) un_96 sz_3 zl_3 (by decide) by_3 rfl hl382 fun Al382 cl382 hAl382 => ?_
   refine Tr.asg rfl rfl ?_
   refine Tr.nil (Tr.normThen ?_)
   refine Tr.sr ?_
   refine Tr.v1 rfl (run_fieldAddr fo_47_0) rfl ?_
   refine Tr.va rfl (fun _ _ h1 h2 => run_load1 ag_3 (h1.ev rfl) (rdb h2 (vs := [(iv xL8.X), (iv xL8.Y)]) (k := 58) rfl 0) rfl) ?_
   refine Tr.v1 rfl (run_fieldAddr fo_47_0) rfl ?_
   refine Tr.va rfl (fun _ _ h1 h2 => run_load1 ag_3 (h1.ev rfl) (rdb h2 (vs := [(iv x379.X), (iv x379.Y)]) (k := 59) rfl 0) rfl) ?_
   refine Tr.v2 rfl run_eql rfl rfl ?_
   refine Tr.nil (Tr.normThen ?_)
   refine Tr.cond rfl H (fun H => ?_) (fun H => ?_)
   ·refine Tr.region ?_
    refine Tr.mv rfl rfl ?_
    refine Tr.v1 rfl (run_fieldAddr fo_47_0) rfl ?_
    refine Tr.va rfl (fun _ _ h1 h2 => run_load1 ag_3 (h1.ev rfl) (rdb h2 (vs := [(iv xL8.X), (iv xL8.Y)]) (k := 58) rfl 0) rfl) ?_
    refine Tr.v1 rfl (run_fieldAddr fo_47_1) rfl ?_
    refine Tr.va rfl (fun _ _ h1 h2 => run_load1 ag_3 (h1.ev rfl) (rdb h2 (vs := [(iv xL8.X), (iv xL8.Y)]) (k := 58) rfl 1) rfl) ?_
    refine Tr.v1 rfl (run_fieldAddr fo_47_1) rfl ?_
    refine Tr.va rfl (fun _ _ h1 h2 => run_load1 ag_3 (h1.ev rfl) (rdb h2 (vs := [(iv x379.X), (iv x379.Y)]) (k := 59) rfl 1) rfl) ?_
    refine Tr.va rfl (fun _ _ h1 h2 => run_min (h1.ev rfl) (h1.ev rfl) _) ?_
    refine Tr.v1 rfl (run_fieldAddr fo_47_1) rfl ?_
    refine Tr.va rfl (fun _ _ h1 h2 => run_load1 ag_3 (h1.ev rfl) (rdb h2 (vs := [(iv xL8.X), (iv xL8.Y)]) (k := 58) rfl 1) rfl) ?_
    refine Tr.v1 rfl (run_fieldAddr fo_47_1) rfl ?_
    refine Tr.va rfl (fun _ _ h1 h2 => run_load1 ag_3 (h1.ev rfl) (rdb h2 (vs := [(iv x379.X), (iv x379.Y)]) (k := 59) rfl 1) rfl) ?_
    refine Tr.va rfl (fun _ _ h1 h2 => run_max (h1.ev rfl) (h1.ev rfl) _) ?_
    refine Tr.build (vs := [(0, (iv xL8.X)), (1, (iv (min xL8.Y x379.Y))), (3, (iv (max xL8.Y x379.Y)))]) (cs := [(iv xL8.X), (iv (min xL8.Y x379.Y)), (iv 0), (iv (max xL8.Y x379.Y))]) (wn rfl) rfl (evs_cons rfl (evs_cons rfl (evs_cons rfl evs_nil))) (by kernel_rfl) ?_
    refine Tr.buildSlice 61 (e := 38) (vs := [(0, (.agg #[(iv xL8.X), (iv (min xL8.Y x379.Y)), (iv 0), (iv (max xL8.Y x379.Y))]))]) (cs := [(iv xL8.X), (iv (min xL8.Y x379.Y)), (iv 0), (iv (max xL8.Y x379.Y))]) (wn rfl) rfl (evs_cons rfl evs_nil) (by kernel_rfl) fun b383 => ?_
    obtain ⟨l384, hl384, H⟩ := bnd H
    refine Tr.append 3 (t := fl_TRect) (l := l376) (l2 := [(TRect.mk xL8.X (min xL8.Y x379.Y) 0 (max xL8.Y x379.Y))]) (wn rfl) rfl rfl rfl rfl (fun W hW => ⟨[[(iv xL8.X), (iv (min xL8.Y x379.Y)), (iv 0), (iv (max xL8.Y x379.Y))]], (.cons ⟨(), trivial, rfl⟩ .nil), rdb hW (vs := [(iv xL8.X), (iv (min xL8.Y x379.Y)), (iv 0), (iv (max xL8.Y x379.Y))]) (k := 61) rfl 0⟩) un_22 sz_38 zl_38 (by decide) by_38 rfl hl384 fun Al384 cl384 hAl384 => ?_
    refine Tr.asg rfl rfl ?_
    refine Tr.nil (Tr.normBlock (Tr.normThen ?_))
    refine Tr.region ?_
    refine Tr.v2 rfl run_add rfl rfl ?_
    refine Tr.mv rfl rfl ?_
    refine Tr.nil ?_
    exact Tr.backThen leL8 (restL8, (iL8 + 1), l382, l384, Al382, cl382, Al384, cl384) ⟨rfl, range_tl hdL8, range_lt hdL8, H, hAl382, hAl384⟩ (.cons rfl (.cons rfl (.cons rfl (.cons rfl (.cons rfl (.cons rfl (.cons rfl (.cons rfl (.cons (congrArg (fun z => some (Value.int .i64 z)) (range_up hdL8 hoku347_0.form)) .nil))))))))) (.r rfl)
   ·refine Tr.skip (Tr.normBlock (Tr.normThen ?_))
    refine Tr.region ?_
    refine Tr.v2 rfl run_add rfl rfl ?_
    refine Tr.mv rfl rfl ?_
    refine Tr.nil ?_
    exact Tr.backThen leL8 (restL8, (iL8 + 1), l382, l376, Al382, cl382, Al376, cl376) ⟨rfl, range_tl hdL8, range_lt hdL8, H, hAl382, hl376⟩ (.cons rfl (.cons rfl (.cons rfl (.cons rfl (.cons rfl (.cons rfl (.cons rfl (.cons rfl (.cons (congrArg (fun z => some (Value.int .i64 z)) (range_up hdL8 hoku347_0.form)) .nil))))))))) (.r rfl)

theorem F_plot_machine__area_1_ok {w : Bs} (p0 : TPoint) (r : Bool) (H : F_plot_machine__area_1 p0 = some r) (hE : HF w w.W E0) : Calls Tryz.prog 216 [(.agg #[(iv p0.X), (iv p0.Y)])].toArray w.W fun e W' => e = .returned (.bool r) ∧ HF w W' E0 := by
 unfold F_plot_machine__area_1 at H
 have leB := Bs.Le.refl w
 refine Tr.enter (n := 6) Tryz.func216 rfl rfl rfl hE ?_
 refine Tr.sr ?_
 refine Tr.box 1 (cs := [(iv p0.X), (iv p0.Y)]) (wn rfl) rfl rfl rfl fun b100 => ?_
 refine Tr.asg rfl rfl ?_
 refine Tr.nil (Tr.normThen ?_)
 refine Tr.sr ?_
 refine Tr.va rfl (fun _ _ h1 h2 => run_loadN (cs := [(iv p0.X), (iv p0.Y)]) ag_47 sz_47 (h1.ev rfl) (CellsAt.take (rdb h2 (vs := [(iv p0.X), (iv p0.Y)]) (k := 1) rfl 0) 2) rfl) ?_
 obtain ⟨y101, hy101, H⟩ := bnd H
 refine Tr.call0 (r := (.bool y101)) (wn rfl) rfl Tryz.call210 (evl_cons rfl evl_nil) (fun W hW => F_shape_IsPoint_ok p0 y101 hy101 (HF.start _)) ?_
 refine Tr.v1 rfl run_not rfl ?_
 refine Tr.asg rfl rfl ?_
 refine Tr.nil (Tr.normThen ?_)
 refine Tr.ret ?_
 obtain rfl := Option.some.inj H
 exact Tr.out (m := [(.bool (!y101))]) [] (res_tmp rfl res_nil) (fun W hW => ⟨rfl, hW.low leB⟩)

theorem F_plot_machine__area_ok (N : Nat) {w : Bs} (p0 : TMachine) (Ap0_0 : Option Addr) (cp0_0 : Nat) (hp0_0 : Sl w.R w.W fl_TPlotTool Ap0_0 cp0_0 p0.p.Tools) (Ap0_1 : Option Addr) (cp0_1 : Nat) (hp0_1 : Sl w.R w.W fl_TPlotStep Ap0_1 cp0_1 p0.p.Steps) (Ap0_2 : Option Addr) (cp0_2 : Nat) (hp0_2 : Sl w.R w.W fl_LTBand Ap0_2 cp0_2 p0.tools) (Ap0_3 : Option Addr) (cp0_3 : Nat) (bp0 : Nat) (p1 : (List TPoint)) (Ap1_0 : Option Addr) (cp1_0 : Nat) (hp1_0 : Sl w.R w.W fl_TPoint Ap1_0 cp1_0 p1) (p2 : TPoint) (r : (Int × (List TBand))) (H : F_plot_machine__area N p0 p1 p2 = some r) (hE : HF w w.W (LEn [bx bp0 #[(iv p0.p.Unit), (.slice Ap0_0 (p0.p.Tools).length cp0_0), (.slice Ap0_1 (p0.p.Steps).length cp0_1), (.slice Ap0_2 (p0.tools).length cp0_2), (.slice Ap0_3 (p0.image).length cp0_3), (.bool p0.clear), (iv p0.tool), (iv p0.place.X), (iv p0.place.Y), (.bool p0.placed), (iv p0.off), (iv p0.on)] 95, ow Ap0_3 cp0_3 98 fl_TBand p0.image])) : Calls Tryz.prog 189 [(.pointer (some ⟨bp0, 0, none⟩)), (.slice Ap1_0 (p1).length cp1_0), (.agg #[(iv p2.X), (iv p2.Y)])].toArray w.W fun e W' => ∃ (w' : Bs) (u : (Option Addr × Nat)), w.Le w' ∧ e = .returned (iv r.1) ∧ (SlF u.1 (r.2).length u.2) ∧ HF w' W' (LEn [bx bp0 #[(iv p0.p.Unit), (.slice Ap0_0 (p0.p.Tools).length cp0_0), (.slice Ap0_1 (p0.p.Steps).length cp0_1), (.slice Ap0_2 (p0.tools).length cp0_2), (.slice u.1 (r.2).length u.2), (.bool p0.clear), (iv p0.tool), (iv p0.place.X), (iv p0.place.Y), (.bool p0.placed), (iv p0.off), (iv p0.on)] 95, ow u.1 u.2 98 fl_TBand r.2]) := by
 unfold F_plot_machine__area at H
 have hfhp0_3 := (hE.sl (k := 1) rfl).form
 have leB := Bs.Le.refl w
 refine Tr.enter (n := 36) Tryz.func189 rfl rfl rfl hE ?_
 refine Tr.sr ?_
 refine Tr.box 2 (cs := [(iv p2.X), (iv p2.Y)]) (wn rfl) rfl rfl rfl fun b100 => ?_
 refine Tr.asg rfl rfl ?_
 refine Tr.nil (Tr.normThen ?_)
 refine Tr.sr ?_
 refine Tr.asg rfl rfl ?_
 refine Tr.nilOwn 3 47 fl_TPoint ?_
 show Tr _ _ (uf _ 7 (.slice none (([] : List TPoint)).length 0)) _ _
 refine Tr.nil (Tr.normThen ?_)
 refine Tr.seq ?_
 refine Tr.sr ?_
 refine Tr.mv rfl rfl ?_
 refine Tr.v1 rfl (run_len un_43) rfl ?_
 refine Tr.mv rfl rfl ?_
 refine Tr.nil (Tr.normThen ?_)
 refine Tr.block ?_
 refine Tr.loop (σ := (List TPoint) × Nat × (List TPoint) × (Option Addr) × Nat) (fun m w s => m = s.1.length + 1 ∧ s.1 = List.drop s.2.1 p1 ∧ s.2.1 ≤ p1.length ∧ F_plot_machine__area_L1 N p0 p2 s.1 s.2.1 s.2.2.1 = some r ∧ SlF s.2.2.2.1 (s.2.2.1).length s.2.2.2.2) (fun s => [(0, (.pointer (some ⟨bp0, 0, none⟩))), (5, (.pointer (some ⟨b100, 0, none⟩))), (7, (.slice s.2.2.2.1 (s.2.2.1).length s.2.2.2.2)), (11, (.slice Ap1_0 (p1).length cp1_0)), (12, (iv (p1.length : Int))), (13, (iv (s.2.1 : Int)))]) (fun s => [(0, bx bp0 #[(iv p0.p.Unit), (.slice Ap0_0 (p0.p.Tools).length cp0_0), (.slice Ap0_1 (p0.p.Steps).length cp0_1), (.slice Ap0_2 (p0.tools).length cp0_2), (.slice Ap0_3 (p0.image).length cp0_3), (.bool p0.clear), (iv p0.tool), (iv p0.place.X), (iv p0.place.Y), (.bool p0.placed), (iv p0.off), (iv p0.on)] 95), (1, ow Ap0_3 cp0_3 98 fl_TBand p0.image), (2, bx b100 #[(iv p2.X), (iv p2.Y)] 47), (3, ow s.2.2.2.1 s.2.2.2.2 47 fl_TPoint s.2.2.1)]) (p1.length + 1) (p1, 0, ([] : List TPoint), none, 0) ⟨rfl, rfl, Nat.zero_le _, H, slf_nil⟩ (.r rfl) (.r rfl) (fun _ _ h => absurd h.1 (by simp)) ?_
 intro w leL1 m s hs
 obtain ⟨restL1, iL1, l117, Al117, cl117⟩ := s
 obtain ⟨hmL1, hdL1, hiL1, H, hl117⟩ := hs
 replace hdL1 : restL1 = List.drop iL1 p1 := hdL1
 replace H : F_plot_machine__area_L1 N p0 p2 restL1 iL1 l117 = some r := H
 replace hmL1 : m + 1 = restL1.length + 1 := hmL1
 replace hp0_0 := hp0_0.leR leL1
 replace hp0_1 := hp0_1.leR leL1
 replace hp0_2 := hp0_2.leR leL1
 replace hp1_0 := hp1_0.leR leL1
 replace leB := leB.trans leL1
 replace hl117 : SlF Al117 (l117).length cl117 := hl117
 obtain rfl : m = restL1.length := by omega
 clear hmL1
 show Tr _ _ (LF [(0, (.pointer (some ⟨bp0, 0, none⟩))), (5, (.pointer (some ⟨b100, 0, none⟩))), (7, (.slice Al117 (l117).length cl117)), (11, (.slice Ap1_0 (p1).length cp1_0)), (12, (iv (p1.length : Int))), (13, (iv (iL1 : Int)))]) (LE [(0, bx bp0 #[(iv p0.p.Unit), (.slice Ap0_0 (p0.p.Tools).length cp0_0), (.slice Ap0_1 (p0.p.Steps).length cp0_1), (.slice Ap0_2 (p0.tools).length cp0_2), (.slice Ap0_3 (p0.image).length cp0_3), (.bool p0.clear), (iv p0.tool), (iv p0.place.X), (iv p0.place.Y), (.bool p0.placed), (iv p0.off), (iv p0.on)] 95), (1, ow Ap0_3 cp0_3 98 fl_TBand p0.image), (2, bx b100 #[(iv p2.X), (iv p2.Y)] 47), (3, ow Al117 cl117 47 fl_TPoint l117)]) _
 cases restL1 with
 | nil =>
  rw [F_plot_machine__area_L1.eq_1] at H
  refine Tr.sr ?_
  refine Tr.v2 rfl run_lss rfl rfl ?_
  refine Tr.nil (Tr.normThen ?_)
  refine Tr.seq ?_
  refine Tr.condF rfl (range_nil hdL1) ?_
  refine Tr.exit (Tr.exitThen (Tr.exitThen (Tr.exitBlock (Tr.normThen ?_))))
  refine Tr.sr ?_
  refine Tr.mv rfl rfl ?_
  refine Tr.freeze 3 rfl fun w le119 hz118 => ?_
  replace hp0_0 := hp0_0.leR le119
  replace hp0_1 := hp0_1.leR le119
  replace hp0_2 := hp0_2.leR le119
  replace hp1_0 := hp1_0.leR le119
  replace leB := leB.trans le119
  replace leL1 := leL1.trans le119
  refine Tr.buildSlice 8 (e := 43) (vs := [(0, (.slice Al117 (l117).length cl117))]) (cs := [(.slice Al117 (l117).length cl117)]) (wn rfl) rfl (evs_cons rfl evs_nil) (by kernel_rfl) fun b120 => ?_
  refine Tr.own 8 fl_LTPoint [l117] (css := [[(.slice Al117 (l117).length cl117)]]) rfl (.cons ⟨(Al117, cl117), hz118, rfl⟩ .nil) rfl (by decide) (lit_max rfl) ?_
  obtain ⟨y121, hy121, H⟩ := bnd H
  refine Tr.callG [9] [emp] (U := (Option Addr × Nat)) (fun u => (.slice u.1 (y121).length u.2)) (fun O W u => SlF u.1 (y121).length u.2) (fun u => [ow u.1 u.2 98 fl_TBand y121]) rfl (pk_cons rfl pk_nil) (fun _ => rfl) (wn rfl) rfl Tryz.call214 (evl_cons rfl evl_nil) (fun W hW hp hE => F_shape_Around_ok N [l117] (some ⟨b120, 0, none⟩) 1 (hW.slS (k := 8) rfl hp rfl) y121 hy121 hE) ?_
  intro w u le122 hu
  obtain ⟨Ay121_0, cy121_0⟩ := u
  have gy121_0 := hu
  replace hp0_0 := hp0_0.leR le122
  replace hp0_1 := hp0_1.leR le122
  replace hp0_2 := hp0_2.leR le122
  replace hz118 := hz118.le le122
  replace hp1_0 := hp1_0.leR le122
  replace leB := leB.trans le122
  replace leL1 := leL1.trans le122
  have hgy121_0 : SlF Ay121_0 (y121).length cy121_0 := gy121_0 --@phi
  show Tr _ _ (uf _ 27 (.slice Ay121_0 (y121).length cy121_0)) (up _ 9 (ow Ay121_0 cy121_0 98 fl_TBand y121)) _
  refine Tr.asg rfl rfl ?_
  refine Tr.nil (Tr.normThen ?_)
  refine Tr.seq ?_
  refine Tr.sr ?_
  refine Tr.mv rfl rfl ?_
  obtain ⟨y123, hy123, H⟩ := bnd H
  refine Tr.call0 (r := (iv y123)) (wn rfl) rfl Tryz.call215 (evl_cons rfl evl_nil) (fun W hW => F_shape_Set__Many_ok y121 Ay121_0 cy121_0 (hW.slCall (k := 9) rfl) y123 hy123 (HF.start _)) ?_
  refine Tr.v2 rfl run_gtr rfl rfl ?_
  refine Tr.nil (Tr.normThen ?_)
  refine Tr.cond rfl H (fun H => ?_) (fun H => ?_)
  ·refine Tr.sr ?_
   refine Tr.asg rfl rfl ?_
   refine Tr.nil (Tr.normThen ?_)
   refine Tr.ret (Tr.retThen ?_)
   obtain rfl := Option.some.inj H
   exact Tr.out (m := [(iv 2)]) [] (res_tmp rfl res_nil) (fun W hW => ⟨w, (Ap0_3, cp0_3), leB, rfl, hfhp0_3, hW.pick (ks := [0, 1]) (by decide) (pk_cons rfl (pk_cons rfl pk_nil))⟩)
  ·refine Tr.skip (Tr.normThen ?_)
   refine Tr.seq ?_
   refine Tr.sr ?_
   refine Tr.mv rfl rfl ?_
   obtain ⟨y124, hy124, H⟩ := bnd H
   refine Tr.call0 (r := (.bool y124)) (wn rfl) rfl Tryz.call137 (evl_cons rfl (evl_cons rfl evl_nil)) (fun W hW => F_slices_ContainsFunc_Point_ok l117 Al117 cl117 (hz118.rl.ext hW.extAll) (fun z0 => F_plot_machine__area_1 z0) 216 [] Tryz.call216 (fun w' he z0 y hy => F_plot_machine__area_1_ok z0 y hy (HF.start _)) y124 hy124 (HF.start _)) ?_
   refine Tr.nil (Tr.normThen ?_)
   refine Tr.cond rfl H (fun H => ?_) (fun H => ?_)
   ·refine Tr.sr ?_
    refine Tr.asg rfl rfl ?_
    refine Tr.nil (Tr.normThen ?_)
    refine Tr.ret (Tr.retThen ?_)
    obtain rfl := Option.some.inj H
    exact Tr.out (m := [(iv 1)]) [] (res_tmp rfl res_nil) (fun W hW => ⟨w, (Ap0_3, cp0_3), leB, rfl, hfhp0_3, hW.pick (ks := [0, 1]) (by decide) (pk_cons rfl (pk_cons rfl pk_nil))⟩)
   ·refine Tr.skip (Tr.normThen ?_)
    refine Tr.sr ?_
    refine Tr.mv rfl rfl ?_
    refine Tr.mv rfl rfl ?_
    refine Tr.freeze 9 rfl fun w le126 hz125 => ?_
    replace hp0_0 := hp0_0.leR le126
    replace hp0_1 := hp0_1.leR le126
    replace hp0_2 := hp0_2.leR le126
    replace hz118 := hz118.le le126
    replace hp1_0 := hp1_0.leR le126
    replace leB := leB.trans le126
    replace leL1 := leL1.trans le126
    obtain ⟨y127, hy127, H⟩ := bnd H
    refine Tr.callG [0, 1] [bx bp0 #[(iv p0.p.Unit), (.slice Ap0_0 (p0.p.Tools).length cp0_0), (.slice Ap0_1 (p0.p.Steps).length cp0_1), (.slice Ap0_2 (p0.tools).length cp0_2), (.slice Ap0_3 (p0.image).length cp0_3), (.bool p0.clear), (iv p0.tool), (iv p0.place.X), (iv p0.place.Y), (.bool p0.placed), (iv p0.off), (iv p0.on)] 95, ow Ap0_3 cp0_3 98 fl_TBand p0.image] (U := (Option Addr × Nat)) (fun u => (iv y127.1)) (fun O W u => SlF u.1 (y127.2).length u.2) (fun u => [bx bp0 #[(iv p0.p.Unit), (.slice Ap0_0 (p0.p.Tools).length cp0_0), (.slice Ap0_1 (p0.p.Steps).length cp0_1), (.slice Ap0_2 (p0.tools).length cp0_2), (.slice u.1 (y127.2).length u.2), (.bool p0.clear), (iv p0.tool), (iv p0.place.X), (iv p0.place.Y), (.bool p0.placed), (iv p0.off), (iv p0.on)] 95, ow u.1 u.2 98 fl_TBand y127.2]) rfl (pk_cons rfl (pk_cons rfl pk_nil)) (fun _ => rfl) (wn rfl) rfl Tryz.call212 (evl_cons rfl (evl_cons rfl evl_nil)) (fun W hW hp hE => F_plot_machine__draw_ok N p0 Ap0_0 cp0_0 (hp0_0.ext (hW.extS hp)) Ap0_1 cp0_1 (hp0_1.ext (hW.extS hp)) Ap0_2 cp0_2 (hp0_2.ext (hW.extS hp)) Ap0_3 cp0_3 bp0 y121 Ay121_0 cy121_0 (hz125.extO (hW.extS hp)) y127 hy127 hE) ?_
    intro w u le128 hu
    obtain ⟨Ay127_0, cy127_0⟩ := u
    have gy127_0 := hu
    replace hp0_0 := hp0_0.leR le128
    replace hp0_1 := hp0_1.leR le128
    replace hp0_2 := hp0_2.leR le128
    replace hz118 := hz118.le le128
    replace hp1_0 := hp1_0.leR le128
    replace hz125 := hz125.le le128
    replace leB := leB.trans le128
    replace leL1 := leL1.trans le128
    have hgy127_0 : SlF Ay127_0 (y127.2).length cy127_0 := gy127_0 --@phi
    show Tr _ _ (uf _ 35 (iv y127.1)) (up (up _ 1 (ow Ay127_0 cy127_0 98 fl_TBand y127.2)) 0 (bx bp0 #[(iv p0.p.Unit), (.slice Ap0_0 (p0.p.Tools).length cp0_0), (.slice Ap0_1 (p0.p.Steps).length cp0_1), (.slice Ap0_2 (p0.tools).length cp0_2), (.slice Ay127_0 (y127.2).length cy127_0), (.bool p0.clear), (iv p0.tool), (iv p0.place.X), (iv p0.place.Y), (.bool p0.placed), (iv p0.off), (iv p0.on)] 95)) _
    refine Tr.asg rfl rfl ?_
    refine Tr.nil (Tr.normThen ?_)
    refine Tr.ret ?_
    obtain rfl := Option.some.inj H
    exact Tr.out (m := [(iv y127.1)]) [] (res_tmp rfl res_nil) (fun W hW => ⟨w, (Ay127_0, cy127_0), leB, rfl, hgy127_0, hW.pick (ks := [0, 1]) (by decide) (pk_cons rfl (pk_cons rfl pk_nil))⟩)
 | cons xL1 restL1 =>
  rw [F_plot_machine__area_L1.eq_2] at H
  refine Tr.sr ?_
  refine Tr.v2 rfl run_lss rfl rfl ?_
  refine Tr.nil (Tr.normThen ?_)
  refine Tr.seq ?_
  refine Tr.condT rfl (range_on hdL1) ?_
  refine Tr.skip (Tr.normThen ?_)
  refine Tr.seq ?_
  refine Tr.block ?_
  refine Tr.sr ?_
  refine Tr.va rfl (fun _ _ h1 h2 => run_indexAddr el_43 (h1.ev rfl) hp1_0.form (h1.ev rfl) (Int.natCast_nonneg _) (range_lt hdL1)) ?_
  refine Tr.va rfl (fun _ _ h1 h2 => run_loadN (cs := [(iv xL1.X), (iv xL1.Y)]) ag_47 sz_47 (h1.ev rfl) (CellsAt.take (rdF ef_TPoint hp1_0 (range_at hdL1) h2) 2) rfl) ?_
  refine Tr.alloc 10 (wn rfl) rfl ze_47 fun b129 => ?_
  refine Tr.store 10 (cs := [(iv xL1.X), (iv xL1.Y)]) [(iv xL1.X), (iv xL1.Y)] (wn rfl) rfl rfl rfl rfl sz_47 rfl rfl rfl ?_
  refine Tr.nil (Tr.normThen ?_)
  refine Tr.region ?_
  refine Tr.mv rfl rfl ?_
  refine Tr.mv rfl rfl ?_
  refine Tr.va rfl (fun _ _ h1 h2 => run_loadN (cs := [(iv xL1.X), (iv xL1.Y)]) ag_47 sz_47 (h1.ev rfl) (CellsAt.take (rdb h2 (vs := [(iv xL1.X), (iv xL1.Y)]) (k := 10) rfl 0) 2) rfl) ?_
  refine Tr.va rfl (fun _ _ h1 h2 => run_loadN (cs := [(iv p2.X), (iv p2.Y)]) ag_47 sz_47 (h1.ev rfl) (CellsAt.take (rdb h2 (vs := [(iv p2.X), (iv p2.Y)]) (k := 2) rfl 0) 2) rfl) ?_
  obtain ⟨y130, hy130, H⟩ := bnd H
  refine Tr.call0 (r := (.agg #[(iv y130.X), (iv y130.Y)])) (wn rfl) rfl Tryz.call185 (evl_cons rfl (evl_cons rfl (evl_cons rfl evl_nil))) (fun W hW => F_plot_machine__moved_ok p0 Ap0_0 cp0_0 (hp0_0.ext hW.extAll) Ap0_1 cp0_1 (hp0_1.ext hW.extAll) Ap0_2 cp0_2 (hp0_2.ext hW.extAll) Ap0_3 cp0_3 (hW.slCall (k := 1) rfl) bp0 (hW.capR (k := 0) rfl) (hW.capC (k := 0) rfl) xL1 p2 y130 hy130 (HF.start _)) ?_
  refine Tr.buildSlice 11 (e := 47) (vs := [(0, (.agg #[(iv y130.X), (iv y130.Y)]))]) (cs := [(iv y130.X), (iv y130.Y)]) (wn rfl) rfl (evs_cons rfl evs_nil) (by kernel_rfl) fun b131 => ?_
  obtain ⟨l132, hl132, H⟩ := bnd H
  refine Tr.append 3 (t := fl_TPoint) (l := l117) (l2 := [y130]) (wn rfl) rfl rfl rfl rfl (fun W hW => ⟨[[(iv y130.X), (iv y130.Y)]], (.cons ⟨(), trivial, rfl⟩ .nil), rdb hW (vs := [(iv y130.X), (iv y130.Y)]) (k := 11) rfl 0⟩) un_43 sz_47 zl_47 (by decide) by_47 rfl hl132 fun Al132 cl132 hAl132 => ?_
  refine Tr.asg rfl rfl ?_
  refine Tr.nil (Tr.normBlock (Tr.normThen ?_))
  refine Tr.region ?_
  refine Tr.v2 rfl run_add rfl rfl ?_
  refine Tr.mv rfl rfl ?_
  refine Tr.nil ?_
  exact Tr.backThen leL1 (restL1, (iL1 + 1), l132, Al132, cl132) ⟨rfl, range_tl hdL1, range_lt hdL1, H, hAl132⟩ (.cons rfl (.cons rfl (.cons rfl (.cons rfl (.cons rfl (.cons (congrArg (fun z => some (Value.int .i64 z)) (range_up hdL1 hp1_0.form)) .nil)))))) (.r rfl)

theorem F_plot_machine__step_ok (rec : TMachine → (List TPlotStep) → TPoint → Option (Int × Bool × (List TBand))) (hrec : ∀ {w : Bs} (p0 : TMachine) (Ap0_0 : Option Addr) (cp0_0 : Nat) (hp0_0 : Sl w.R w.W fl_TPlotTool Ap0_0 cp0_0 p0.p.Tools) (Ap0_1 : Option Addr) (cp0_1 : Nat) (hp0_1 : Sl w.R w.W fl_TPlotStep Ap0_1 cp0_1 p0.p.Steps) (Ap0_2 : Option Addr) (cp0_2 : Nat) (hp0_2 : Sl w.R w.W fl_LTBand Ap0_2 cp0_2 p0.tools) (Ap0_3 : Option Addr) (cp0_3 : Nat) (bp0 : Nat) (p1 : (List TPlotStep)) (Ap1_0 : Option Addr) (cp1_0 : Nat) (hp1_0 : Sl w.R w.W fl_TPlotStep Ap1_0 cp1_0 p1) (p2 : TPoint) (r : (Int × Bool × (List TBand))) (H : rec p0 p1 p2 = some r) (hE : HF w w.W (LEn [bx bp0 #[(iv p0.p.Unit), (.slice Ap0_0 (p0.p.Tools).length cp0_0), (.slice Ap0_1 (p0.p.Steps).length cp0_1), (.slice Ap0_2 (p0.tools).length cp0_2), (.slice Ap0_3 (p0.image).length cp0_3), (.bool p0.clear), (iv p0.tool), (iv p0.place.X), (iv p0.place.Y), (.bool p0.placed), (iv p0.off), (iv p0.on)] 95, ow Ap0_3 cp0_3 98 fl_TBand p0.image])), Calls Tryz.prog 94 [(.pointer (some ⟨bp0, 0, none⟩)), (.slice Ap1_0 (p1).length cp1_0), (.agg #[(iv p2.X), (iv p2.Y)])].toArray w.W fun e W' => ∃ (w' : Bs) (u : (Option Addr × Nat)), w.Le w' ∧ e = .returned (iv r.1) ∧ (SlF u.1 (r.2.2).length u.2) ∧ HF w' W' (LEn [bx bp0 #[(iv p0.p.Unit), (.slice Ap0_0 (p0.p.Tools).length cp0_0), (.slice Ap0_1 (p0.p.Steps).length cp0_1), (.slice Ap0_2 (p0.tools).length cp0_2), (.slice u.1 (r.2.2).length u.2), (.bool r.2.1), (iv p0.tool), (iv p0.place.X), (iv p0.place.Y), (.bool p0.placed), (iv p0.off), (iv p0.on)] 95, ow u.1 u.2 98 fl_TBand r.2.2])) (N : Nat) {w : Bs} (p0 : TMachine) (Ap0_0 : Option Addr) (cp0_0 : Nat) (hp0_0 : Sl w.R w.W fl_TPlotTool Ap0_0 cp0_0 p0.p.Tools) (Ap0_1 : Option Addr) (cp0_1 : Nat) (hp0_1 : Sl w.R w.W fl_TPlotStep Ap0_1 cp0_1 p0.p.Steps) (Ap0_2 : Option Addr) (cp0_2 : Nat) (hp0_2 : Sl w.R w.W fl_LTBand Ap0_2 cp0_2 p0.tools) (Ap0_3 : Option Addr) (cp0_3 : Nat) (bp0 : Nat) (p1 : TPlotStep) (Ap1_0 : Option Addr) (cp1_0 : Nat) (hp1_0 : Sl w.R w.W fl_TPoint Ap1_0 cp1_0 p1.Points) (Ap1_1 : Option Addr) (cp1_1 : Nat) (hp1_1 : Sl w.R w.W fl_TPlotStep Ap1_1 cp1_1 p1.Steps) (p2 : TPoint) (r : (Int × Bool × (List TBand))) (H : F_plot_machine__step rec N p0 p1 p2 = some r) (hE : HF w w.W (LEn [bx bp0 #[(iv p0.p.Unit), (.slice Ap0_0 (p0.p.Tools).length cp0_0), (.slice Ap0_1 (p0.p.Steps).length cp0_1), (.slice Ap0_2 (p0.tools).length cp0_2), (.slice Ap0_3 (p0.image).length cp0_3), (.bool p0.clear), (iv p0.tool), (iv p0.place.X), (iv p0.place.Y), (.bool p0.placed), (iv p0.off), (iv p0.on)] 95, ow Ap0_3 cp0_3 98 fl_TBand p0.image])) : Calls Tryz.prog 132 [(.pointer (some ⟨bp0, 0, none⟩)), (.agg #[(iv p1.Kind), (sv p1.Name), (iv p1.At.X), (iv p1.At.Y), (.slice Ap1_0 (p1.Points).length cp1_0), (iv p1.NX), (iv p1.NY), (.slice Ap1_1 (p1.Steps).length cp1_1)]), (.agg #[(iv p2.X), (iv p2.Y)])].toArray w.W fun e W' => ∃ (w' : Bs) (u : (Option Addr × Nat)), w.Le w' ∧ e = .returned (iv r.1) ∧ (SlF u.1 (r.2.2).length u.2) ∧ HF w' W' (LEn [bx bp0 #[(iv p0.p.Unit), (.slice Ap0_0 (p0.p.Tools).length cp0_0), (.slice Ap0_1 (p0.p.Steps).length cp0_1), (.slice Ap0_2 (p0.tools).length cp0_2), (.slice u.1 (r.2.2).length u.2), (.bool r.2.1), (iv p0.tool), (iv p0.place.X), (iv p0.place.Y), (.bool p0.placed), (iv p0.off), (iv p0.on)] 95, ow u.1 u.2 98 fl_TBand r.2.2]) := by
 unfold F_plot_machine__step at H
 have hfhp0_3 := (hE.sl (k := 1) rfl).form
 have leB := Bs.Le.refl w
 refine Tr.enter (n := 116) Tryz.func132 rfl rfl rfl hE ?_
 refine Tr.sr ?_
 refine Tr.box 2 (cs := [(iv p1.Kind), (sv p1.Name), (iv p1.At.X), (iv p1.At.Y), (.slice Ap1_0 (p1.Points).length cp1_0), (iv p1.NX), (iv p1.NY), (.slice Ap1_1 (p1.Steps).length cp1_1)]) (wn rfl) rfl rfl rfl fun b100 => ?_
 refine Tr.box 3 (cs := [(iv p2.X), (iv p2.Y)]) (wn rfl) rfl rfl rfl fun b101 => ?_
 refine Tr.asg rfl rfl ?_
 refine Tr.nil (Tr.normThen ?_)
 refine Tr.sr ?_
 refine Tr.mv rfl rfl ?_
 refine Tr.v1 rfl (run_fieldAddr fo_53_2) rfl ?_
 refine Tr.va rfl (fun _ _ h1 h2 => run_loadN (cs := [(iv p1.At.X), (iv p1.At.Y)]) ag_47 sz_47 (h1.ev rfl) (CellsAt.take (rdb h2 (vs := [(iv p1.Kind), (sv p1.Name), (iv p1.At.X), (iv p1.At.Y), (.slice Ap1_0 (p1.Points).length cp1_0), (iv p1.NX), (iv p1.NY), (.slice Ap1_1 (p1.Steps).length cp1_1)]) (k := 2) rfl 2) 2) rfl) ?_
 refine Tr.va rfl (fun _ _ h1 h2 => run_loadN (cs := [(iv p2.X), (iv p2.Y)]) ag_47 sz_47 (h1.ev rfl) (CellsAt.take (rdb h2 (vs := [(iv p2.X), (iv p2.Y)]) (k := 3) rfl 0) 2) rfl) ?_
 obtain ⟨y102, hy102, H⟩ := bnd H
 refine Tr.call0 (r := (.agg #[(iv y102.X), (iv y102.Y)])) (wn rfl) rfl Tryz.call185 (evl_cons rfl (evl_cons rfl (evl_cons rfl evl_nil))) (fun W hW => F_plot_machine__moved_ok p0 Ap0_0 cp0_0 (hp0_0.ext hW.extAll) Ap0_1 cp0_1 (hp0_1.ext hW.extAll) Ap0_2 cp0_2 (hp0_2.ext hW.extAll) Ap0_3 cp0_3 (hW.slCall (k := 1) rfl) bp0 (hW.capR (k := 0) rfl) (hW.capC (k := 0) rfl) p1.At p2 y102 hy102 (HF.start _)) ?_
 refine Tr.alloc 4 (wn rfl) rfl ze_47 fun b103 => ?_
 refine Tr.store 4 (cs := [(iv y102.X), (iv y102.Y)]) [(iv y102.X), (iv y102.Y)] (wn rfl) rfl rfl rfl rfl sz_47 rfl rfl rfl ?_
 refine Tr.nil (Tr.normThen ?_)
 have leJ110 := Bs.Le.refl w
 refine Tr.cutJ (σ := Bool) (fun w s => F_plot_machine__step_J2 p0 s = some r) (fun s => []) (fun s => [(0, bx bp0 #[(iv p0.p.Unit), (.slice Ap0_0 (p0.p.Tools).length cp0_0), (.slice Ap0_1 (p0.p.Steps).length cp0_1), (.slice Ap0_2 (p0.tools).length cp0_2), (.slice Ap0_3 (p0.image).length cp0_3), (.bool s), (iv p0.tool), (iv p0.place.X), (iv p0.place.Y), (.bool p0.placed), (iv p0.off), (iv p0.on)] 95), (1, ow Ap0_3 cp0_3 98 fl_TBand p0.image)]) ?_ ?_
 ·refine Tr.sr ?_
  refine Tr.v1 rfl (run_fieldAddr fo_53_0) rfl ?_
  refine Tr.va rfl (fun _ _ h1 h2 => run_load1 ag_3 (h1.ev rfl) (rdb h2 (vs := [(iv p1.Kind), (sv p1.Name), (iv p1.At.X), (iv p1.At.Y), (.slice Ap1_0 (p1.Points).length cp1_0), (iv p1.NX), (iv p1.NY), (.slice Ap1_1 (p1.Steps).length cp1_1)]) (k := 2) rfl 0) rfl) ?_
  refine Tr.nil (Tr.normThen ?_)
  refine Tr.block ?_
  have leJ113 := Bs.Le.refl w
  refine Tr.cutJ (σ := Bool) (fun w s => F_plot_machine__step_J3 N p0 p1 p2 s = some r) (fun s => [(0, (.pointer (some ⟨bp0, 0, none⟩))), (4, (.pointer (some ⟨b100, 0, none⟩))), (5, (.pointer (some ⟨b101, 0, none⟩))), (7, (.pointer (some ⟨b103, 0, none⟩))), (18, (iv p1.Kind)), (19, (.bool s))]) (fun s => [(0, bx bp0 #[(iv p0.p.Unit), (.slice Ap0_0 (p0.p.Tools).length cp0_0), (.slice Ap0_1 (p0.p.Steps).length cp0_1), (.slice Ap0_2 (p0.tools).length cp0_2), (.slice Ap0_3 (p0.image).length cp0_3), (.bool p0.clear), (iv p0.tool), (iv p0.place.X), (iv p0.place.Y), (.bool p0.placed), (iv p0.off), (iv p0.on)] 95), (1, ow Ap0_3 cp0_3 98 fl_TBand p0.image), (2, bx b100 #[(iv p1.Kind), (sv p1.Name), (iv p1.At.X), (iv p1.At.Y), (.slice Ap1_0 (p1.Points).length cp1_0), (iv p1.NX), (iv p1.NY), (.slice Ap1_1 (p1.Steps).length cp1_1)] 53), (3, bx b101 #[(iv p2.X), (iv p2.Y)] 47), (4, bx b103 #[(iv y102.X), (iv y102.Y)] 47)]) ?_ ?_
  ·refine Tr.sr ?_
   refine Tr.v2 rfl run_eql rfl rfl ?_
   refine Tr.asg rfl rfl ?_
   refine Tr.nil (Tr.normThen ?_)
   refine Tr.cond rfl H (fun H => ?_) (fun H => ?_)
   ·refine Tr.skip ?_
    exact Tr.backThen leJ113 (p1.Kind == 1) H (.r rfl) (.r rfl)
   ·refine Tr.region ?_
    refine Tr.v2 rfl run_eql rfl rfl ?_
    refine Tr.asg rfl rfl ?_
    refine Tr.nil ?_
    exact Tr.backThen leJ113 (p1.Kind == 2) H (.r rfl) (.r rfl)
  ·intro w x112 hlJ114 hs
   have H := hs
   replace H : F_plot_machine__step_J3 N p0 p1 p2 x112 = some r := H
   replace hp0_0 := hp0_0.leR hlJ114
   replace hp0_1 := hp0_1.leR hlJ114
   replace hp0_2 := hp0_2.leR hlJ114
   replace hp1_0 := hp1_0.leR hlJ114
   replace hp1_1 := hp1_1.leR hlJ114
   replace leB := leB.trans hlJ114
   replace leJ110 := leJ110.trans hlJ114
   unfold F_plot_machine__step_J3 at H
   show Tr _ _ (LF [(0, (.pointer (some ⟨bp0, 0, none⟩))), (4, (.pointer (some ⟨b100, 0, none⟩))), (5, (.pointer (some ⟨b101, 0, none⟩))), (7, (.pointer (some ⟨b103, 0, none⟩))), (18, (iv p1.Kind)), (19, (.bool x112))]) (LE [(0, bx bp0 #[(iv p0.p.Unit), (.slice Ap0_0 (p0.p.Tools).length cp0_0), (.slice Ap0_1 (p0.p.Steps).length cp0_1), (.slice Ap0_2 (p0.tools).length cp0_2), (.slice Ap0_3 (p0.image).length cp0_3), (.bool p0.clear), (iv p0.tool), (iv p0.place.X), (iv p0.place.Y), (.bool p0.placed), (iv p0.off), (iv p0.on)] 95), (1, ow Ap0_3 cp0_3 98 fl_TBand p0.image), (2, bx b100 #[(iv p1.Kind), (sv p1.Name), (iv p1.At.X), (iv p1.At.Y), (.slice Ap1_0 (p1.Points).length cp1_0), (iv p1.NX), (iv p1.NY), (.slice Ap1_1 (p1.Steps).length cp1_1)] 53), (3, bx b101 #[(iv p2.X), (iv p2.Y)] 47), (4, bx b103 #[(iv y102.X), (iv y102.Y)] 47)]) _
   refine Tr.cond rfl H (fun H => ?_) (fun H => ?_)
   ·refine Tr.region ?_
    refine Tr.mv rfl rfl ?_
    refine Tr.v1 rfl (run_fieldAddr fo_53_0) rfl ?_
    refine Tr.va rfl (fun _ _ h1 h2 => run_load1 ag_3 (h1.ev rfl) (rdb h2 (vs := [(iv p1.Kind), (sv p1.Name), (iv p1.At.X), (iv p1.At.Y), (.slice Ap1_0 (p1.Points).length cp1_0), (iv p1.NX), (iv p1.NY), (.slice Ap1_1 (p1.Steps).length cp1_1)]) (k := 2) rfl 0) rfl) ?_
    refine Tr.v2 rfl run_eql rfl rfl ?_
    refine Tr.v1 rfl run_nilCheck rfl ?_
    refine Tr.v1 rfl (run_fieldAddr fo_95_3) rfl ?_
    refine Tr.store 0 (cs := [(.bool (p1.Kind == 2))]) [(iv p0.p.Unit), (.slice Ap0_0 (p0.p.Tools).length cp0_0), (.slice Ap0_1 (p0.p.Steps).length cp0_1), (.slice Ap0_2 (p0.tools).length cp0_2), (.slice Ap0_3 (p0.image).length cp0_3), (.bool (p1.Kind == 2)), (iv p0.tool), (iv p0.place.X), (iv p0.place.Y), (.bool p0.placed), (iv p0.off), (iv p0.on)] (wn rfl) rfl rfl rfl rfl sz_4 rfl rfl rfl ?_
    refine Tr.nil (Tr.normBlock ?_)
    exact Tr.backThen leJ110 (p1.Kind == 2) H .nil (.r rfl)
   ·refine Tr.sr ?_
    refine Tr.v2 rfl run_eql rfl rfl ?_
    refine Tr.asg rfl rfl ?_
    refine Tr.nil (Tr.normThen ?_)
    refine Tr.cond rfl H (fun H => ?_) (fun H => ?_)
    ·cases H
    ·refine Tr.sr ?_
     refine Tr.v2 rfl run_eql rfl rfl ?_
     refine Tr.asg rfl rfl ?_
     refine Tr.nil (Tr.normThen ?_)
     refine Tr.cond rfl H (fun H => ?_) (fun H => ?_)
     ·refine Tr.seq ?_
      cases H
     ·refine Tr.sr ?_
      refine Tr.v2 rfl run_eql rfl rfl ?_
      refine Tr.asg rfl rfl ?_
      refine Tr.nil (Tr.normThen ?_)
      refine Tr.cond rfl H (fun H => ?_) (fun H => ?_)
      ·refine Tr.seq ?_
       cases H
      ·refine Tr.sr ?_
       refine Tr.v2 rfl run_eql rfl rfl ?_
       refine Tr.asg rfl rfl ?_
       refine Tr.nil (Tr.normThen ?_)
       refine Tr.cond rfl H (fun H => ?_) (fun H => ?_)
       ·refine Tr.seq ?_
        cases H
       ·refine Tr.sr ?_
        refine Tr.v2 rfl run_eql rfl rfl ?_
        refine Tr.asg rfl rfl ?_
        refine Tr.nil (Tr.normThen ?_)
        refine Tr.cond rfl H (fun H => ?_) (fun H => ?_)
        ·refine Tr.sr ?_
         refine Tr.mv rfl rfl ?_
         refine Tr.v1 rfl (run_fieldAddr fo_53_3) rfl ?_
         refine Tr.va rfl (fun _ _ h1 h2 => run_load1 ag_43 (h1.ev rfl) (rdb h2 (vs := [(iv p1.Kind), (sv p1.Name), (iv p1.At.X), (iv p1.At.Y), (.slice Ap1_0 (p1.Points).length cp1_0), (iv p1.NX), (iv p1.NY), (.slice Ap1_1 (p1.Steps).length cp1_1)]) (k := 2) rfl 4) rfl) ?_
         refine Tr.va rfl (fun _ _ h1 h2 => run_loadN (cs := [(iv p2.X), (iv p2.Y)]) ag_47 sz_47 (h1.ev rfl) (CellsAt.take (rdb h2 (vs := [(iv p2.X), (iv p2.Y)]) (k := 3) rfl 0) 2) rfl) ?_
         obtain ⟨y115, hy115, H⟩ := bnd H
         refine Tr.callG [0, 1] [bx bp0 #[(iv p0.p.Unit), (.slice Ap0_0 (p0.p.Tools).length cp0_0), (.slice Ap0_1 (p0.p.Steps).length cp0_1), (.slice Ap0_2 (p0.tools).length cp0_2), (.slice Ap0_3 (p0.image).length cp0_3), (.bool p0.clear), (iv p0.tool), (iv p0.place.X), (iv p0.place.Y), (.bool p0.placed), (iv p0.off), (iv p0.on)] 95, ow Ap0_3 cp0_3 98 fl_TBand p0.image] (U := (Option Addr × Nat)) (fun u => (iv y115.1)) (fun O W u => SlF u.1 (y115.2).length u.2) (fun u => [bx bp0 #[(iv p0.p.Unit), (.slice Ap0_0 (p0.p.Tools).length cp0_0), (.slice Ap0_1 (p0.p.Steps).length cp0_1), (.slice Ap0_2 (p0.tools).length cp0_2), (.slice u.1 (y115.2).length u.2), (.bool p0.clear), (iv p0.tool), (iv p0.place.X), (iv p0.place.Y), (.bool p0.placed), (iv p0.off), (iv p0.on)] 95, ow u.1 u.2 98 fl_TBand y115.2]) rfl (pk_cons rfl (pk_cons rfl pk_nil)) (fun _ => rfl) (wn rfl) rfl Tryz.call189 (evl_cons rfl (evl_cons rfl (evl_cons rfl evl_nil))) (fun W hW hp hE => F_plot_machine__area_ok N p0 Ap0_0 cp0_0 (hp0_0.ext (hW.extS hp)) Ap0_1 cp0_1 (hp0_1.ext (hW.extS hp)) Ap0_2 cp0_2 (hp0_2.ext (hW.extS hp)) Ap0_3 cp0_3 bp0 p1.Points Ap1_0 cp1_0 (hp1_0.ext (hW.extS hp)) p2 y115 hy115 hE) ?_
         intro w u le116 hu
         obtain ⟨Ay115_0, cy115_0⟩ := u
         have gy115_0 := hu
         replace hp0_0 := hp0_0.leR le116
         replace hp0_1 := hp0_1.leR le116
         replace hp0_2 := hp0_2.leR le116
         replace hp1_0 := hp1_0.leR le116
         replace hp1_1 := hp1_1.leR le116
         replace leB := leB.trans le116
         replace leJ110 := leJ110.trans le116
         have hgy115_0 : SlF Ay115_0 (y115.2).length cy115_0 := gy115_0 --@phi
         show Tr _ _ (uf _ 64 (iv y115.1)) (up (up _ 1 (ow Ay115_0 cy115_0 98 fl_TBand y115.2)) 0 (bx bp0 #[(iv p0.p.Unit), (.slice Ap0_0 (p0.p.Tools).length cp0_0), (.slice Ap0_1 (p0.p.Steps).length cp0_1), (.slice Ap0_2 (p0.tools).length cp0_2), (.slice Ay115_0 (y115.2).length cy115_0), (.bool p0.clear), (iv p0.tool), (iv p0.place.X), (iv p0.place.Y), (.bool p0.placed), (iv p0.off), (iv p0.on)] 95)) _
         refine Tr.asg rfl rfl ?_
         refine Tr.nil (Tr.normThen ?_)
         refine Tr.ret (Tr.retBlock (Tr.retThen ?_))
         obtain rfl := Option.some.inj H
         exact Tr.out (m := [(iv y115.1)]) [] (res_tmp rfl res_nil) (fun W hW => ⟨w, (Ay115_0, cy115_0), leB, rfl, hgy115_0, hW.pick (ks := [0, 1]) (by decide) (pk_cons rfl (pk_cons rfl pk_nil))⟩)
        ·refine Tr.sr ?_
         refine Tr.v2 rfl run_eql rfl rfl ?_
         refine Tr.asg rfl rfl ?_
         refine Tr.nil (Tr.normThen ?_)
         refine Tr.cond rfl H (fun H => ?_) (fun H => ?_)
         ·refine Tr.seq ?_
          cases H
         ·refine Tr.skip (Tr.normBlock ?_)
          exact Tr.backThen leJ110 p0.clear H .nil (.r rfl)
 ·intro w x109 hlJ111 hs
  have H := hs
  replace H : F_plot_machine__step_J2 p0 x109 = some r := H
  replace hp0_0 := hp0_0.leR hlJ111
  replace hp0_1 := hp0_1.leR hlJ111
  replace hp0_2 := hp0_2.leR hlJ111
  replace leB := leB.trans hlJ111
  unfold F_plot_machine__step_J2 at H
  show Tr _ _ (LF []) (LE [(0, bx bp0 #[(iv p0.p.Unit), (.slice Ap0_0 (p0.p.Tools).length cp0_0), (.slice Ap0_1 (p0.p.Steps).length cp0_1), (.slice Ap0_2 (p0.tools).length cp0_2), (.slice Ap0_3 (p0.image).length cp0_3), (.bool x109), (iv p0.tool), (iv p0.place.X), (iv p0.place.Y), (.bool p0.placed), (iv p0.off), (iv p0.on)] 95), (1, ow Ap0_3 cp0_3 98 fl_TBand p0.image)]) _
  refine Tr.sr ?_
  refine Tr.asg rfl rfl ?_
  refine Tr.nil (Tr.normThen ?_)
  refine Tr.ret ?_
  obtain rfl := Option.some.inj H
  exact Tr.out (m := [(iv 0)]) [] (res_tmp rfl res_nil) (fun W hW => ⟨w, (Ap0_3, cp0_3), leB, rfl, hfhp0_3, hW.pick (ks := [0, 1]) (by decide) (pk_cons rfl (pk_cons rfl pk_nil))⟩)
theorem F_plot_machine__run_b_ok (N : Nat) (rec : TMachine → (List TPlotStep) → TPoint → Option (Int × Bool × (List TBand))) (hrec : ∀ {w : Bs} (p0 : TMachine) (Ap0_0 : Option Addr) (cp0_0 : Nat) (hp0_0 : Sl w.R w.W fl_TPlotTool Ap0_0 cp0_0 p0.p.Tools) (Ap0_1 : Option Addr) (cp0_1 : Nat) (hp0_1 : Sl w.R w.W fl_TPlotStep Ap0_1 cp0_1 p0.p.Steps) (Ap0_2 : Option Addr) (cp0_2 : Nat) (hp0_2 : Sl w.R w.W fl_LTBand Ap0_2 cp0_2 p0.tools) (Ap0_3 : Option Addr) (cp0_3 : Nat) (bp0 : Nat) (p1 : (List TPlotStep)) (Ap1_0 : Option Addr) (cp1_0 : Nat) (hp1_0 : Sl w.R w.W fl_TPlotStep Ap1_0 cp1_0 p1) (p2 : TPoint) (r : (Int × Bool × (List TBand))) (H : rec p0 p1 p2 = some r) (hE : HF w w.W (LEn [bx bp0 #[(iv p0.p.Unit), (.slice Ap0_0 (p0.p.Tools).length cp0_0), (.slice Ap0_1 (p0.p.Steps).length cp0_1), (.slice Ap0_2 (p0.tools).length cp0_2), (.slice Ap0_3 (p0.image).length cp0_3), (.bool p0.clear), (iv p0.tool), (iv p0.place.X), (iv p0.place.Y), (.bool p0.placed), (iv p0.off), (iv p0.on)] 95, ow Ap0_3 cp0_3 98 fl_TBand p0.image])), Calls Tryz.prog 94 [(.pointer (some ⟨bp0, 0, none⟩)), (.slice Ap1_0 (p1).length cp1_0), (.agg #[(iv p2.X), (iv p2.Y)])].toArray w.W fun e W' => ∃ (w' : Bs) (u : (Option Addr × Nat)), w.Le w' ∧ e = .returned (iv r.1) ∧ (SlF u.1 (r.2.2).length u.2) ∧ HF w' W' (LEn [bx bp0 #[(iv p0.p.Unit), (.slice Ap0_0 (p0.p.Tools).length cp0_0), (.slice Ap0_1 (p0.p.Steps).length cp0_1), (.slice Ap0_2 (p0.tools).length cp0_2), (.slice u.1 (r.2.2).length u.2), (.bool r.2.1), (iv p0.tool), (iv p0.place.X), (iv p0.place.Y), (.bool p0.placed), (iv p0.off), (iv p0.on)] 95, ow u.1 u.2 98 fl_TBand r.2.2])) {w : Bs} (p0 : TMachine) (Ap0_0 : Option Addr) (cp0_0 : Nat) (hp0_0 : Sl w.R w.W fl_TPlotTool Ap0_0 cp0_0 p0.p.Tools) (Ap0_1 : Option Addr) (cp0_1 : Nat) (hp0_1 : Sl w.R w.W fl_TPlotStep Ap0_1 cp0_1 p0.p.Steps) (Ap0_2 : Option Addr) (cp0_2 : Nat) (hp0_2 : Sl w.R w.W fl_LTBand Ap0_2 cp0_2 p0.tools) (Ap0_3 : Option Addr) (cp0_3 : Nat) (bp0 : Nat) (p1 : (List TPlotStep)) (Ap1_0 : Option Addr) (cp1_0 : Nat) (hp1_0 : Sl w.R w.W fl_TPlotStep Ap1_0 cp1_0 p1) (p2 : TPoint) (r : (Int × Bool × (List TBand))) (H : F_plot_machine__run_b N rec p0 p1 p2 = some r) (hE : HF w w.W (LEn [bx bp0 #[(iv p0.p.Unit), (.slice Ap0_0 (p0.p.Tools).length cp0_0), (.slice Ap0_1 (p0.p.Steps).length cp0_1), (.slice Ap0_2 (p0.tools).length cp0_2), (.slice Ap0_3 (p0.image).length cp0_3), (.bool p0.clear), (iv p0.tool), (iv p0.place.X), (iv p0.place.Y), (.bool p0.placed), (iv p0.off), (iv p0.on)] 95, ow Ap0_3 cp0_3 98 fl_TBand p0.image])) : Calls Tryz.prog 94 [(.pointer (some ⟨bp0, 0, none⟩)), (.slice Ap1_0 (p1).length cp1_0), (.agg #[(iv p2.X), (iv p2.Y)])].toArray w.W fun e W' => ∃ (w' : Bs) (u : (Option Addr × Nat)), w.Le w' ∧ e = .returned (iv r.1) ∧ (SlF u.1 (r.2.2).length u.2) ∧ HF w' W' (LEn [bx bp0 #[(iv p0.p.Unit), (.slice Ap0_0 (p0.p.Tools).length cp0_0), (.slice Ap0_1 (p0.p.Steps).length cp0_1), (.slice Ap0_2 (p0.tools).length cp0_2), (.slice u.1 (r.2.2).length u.2), (.bool r.2.1), (iv p0.tool), (iv p0.place.X), (iv p0.place.Y), (.bool p0.placed), (iv p0.off), (iv p0.on)] 95, ow u.1 u.2 98 fl_TBand r.2.2]) := by
 unfold F_plot_machine__run_b at H
 have hfhp0_3 := (hE.sl (k := 1) rfl).form
 have leB := Bs.Le.refl w
 refine Tr.enter (n := 24) Tryz.func94 rfl rfl rfl hE ?_
 refine Tr.sr ?_
 refine Tr.box 2 (cs := [(iv p2.X), (iv p2.Y)]) (wn rfl) rfl rfl rfl fun b100 => ?_
 refine Tr.asg rfl rfl ?_
 refine Tr.nil (Tr.normThen ?_)
 refine Tr.seq ?_
 refine Tr.sr ?_
 refine Tr.mv rfl rfl ?_
 refine Tr.v1 rfl (run_len un_24) rfl ?_
 refine Tr.mv rfl rfl ?_
 refine Tr.nil (Tr.normThen ?_)
 refine Tr.block ?_
 refine Tr.loop (σ := (List TPlotStep) × Nat × (List TBand) × Bool × (Option Addr) × Nat) (fun m w s => m = s.1.length + 1 ∧ s.1 = List.drop s.2.1 p1 ∧ s.2.1 ≤ p1.length ∧ F_plot_machine__run_L1 N p0 p2 rec s.1 s.2.1 s.2.2.1 s.2.2.2.1 = some r ∧ SlF s.2.2.2.2.1 (s.2.2.1).length s.2.2.2.2.2) (fun s => [(0, (.pointer (some ⟨bp0, 0, none⟩))), (5, (.pointer (some ⟨b100, 0, none⟩))), (10, (.slice Ap1_0 (p1).length cp1_0)), (11, (iv (p1.length : Int))), (12, (iv (s.2.1 : Int)))]) (fun s => [(0, bx bp0 #[(iv p0.p.Unit), (.slice Ap0_0 (p0.p.Tools).length cp0_0), (.slice Ap0_1 (p0.p.Steps).length cp0_1), (.slice Ap0_2 (p0.tools).length cp0_2), (.slice s.2.2.2.2.1 (s.2.2.1).length s.2.2.2.2.2), (.bool s.2.2.2.1), (iv p0.tool), (iv p0.place.X), (iv p0.place.Y), (.bool p0.placed), (iv p0.off), (iv p0.on)] 95), (1, ow s.2.2.2.2.1 s.2.2.2.2.2 98 fl_TBand s.2.2.1), (2, bx b100 #[(iv p2.X), (iv p2.Y)] 47)]) (p1.length + 1) (p1, 0, p0.image, p0.clear, Ap0_3, cp0_3) ⟨rfl, rfl, Nat.zero_le _, H, hfhp0_3⟩ (.r rfl) (.r rfl) (fun _ _ h => absurd h.1 (by simp)) ?_
 intro w leL1 m s hs
 obtain ⟨restL1, iL1, l120, x121, Al120, cl120⟩ := s
 obtain ⟨hmL1, hdL1, hiL1, H, hl120⟩ := hs
 replace hdL1 : restL1 = List.drop iL1 p1 := hdL1
 replace H : F_plot_machine__run_L1 N p0 p2 rec restL1 iL1 l120 x121 = some r := H
 replace hmL1 : m + 1 = restL1.length + 1 := hmL1
 replace hp0_0 := hp0_0.leR leL1
 replace hp0_1 := hp0_1.leR leL1
 replace hp0_2 := hp0_2.leR leL1
 replace hp1_0 := hp1_0.leR leL1
 replace leB := leB.trans leL1
 replace hl120 : SlF Al120 (l120).length cl120 := hl120
 obtain rfl : m = restL1.length := by omega
 clear hmL1
 show Tr _ _ (LF [(0, (.pointer (some ⟨bp0, 0, none⟩))), (5, (.pointer (some ⟨b100, 0, none⟩))), (10, (.slice Ap1_0 (p1).length cp1_0)), (11, (iv (p1.length : Int))), (12, (iv (iL1 : Int)))]) (LE [(0, bx bp0 #[(iv p0.p.Unit), (.slice Ap0_0 (p0.p.Tools).length cp0_0), (.slice Ap0_1 (p0.p.Steps).length cp0_1), (.slice Ap0_2 (p0.tools).length cp0_2), (.slice Al120 (l120).length cl120), (.bool x121), (iv p0.tool), (iv p0.place.X), (iv p0.place.Y), (.bool p0.placed), (iv p0.off), (iv p0.on)] 95), (1, ow Al120 cl120 98 fl_TBand l120), (2, bx b100 #[(iv p2.X), (iv p2.Y)] 47)]) _
 cases restL1 with
 | nil =>
  rw [F_plot_machine__run_L1.eq_1] at H
  refine Tr.sr ?_
  refine Tr.v2 rfl run_lss rfl rfl ?_
  refine Tr.nil (Tr.normThen ?_)
  refine Tr.seq ?_
  refine Tr.condF rfl (range_nil hdL1) ?_
  refine Tr.exit (Tr.exitThen (Tr.exitThen (Tr.exitBlock (Tr.normThen ?_))))
  refine Tr.sr ?_
  refine Tr.asg rfl rfl ?_
  refine Tr.nil (Tr.normThen ?_)
  refine Tr.ret ?_
  obtain rfl := Option.some.inj H
  exact Tr.out (m := [(iv 0)]) [] (res_tmp rfl res_nil) (fun W hW => ⟨w, (Al120, cl120), leB, rfl, hl120, hW.pick (ks := [0, 1]) (by decide) (pk_cons rfl (pk_cons rfl pk_nil))⟩)
 | cons xL1 restL1 =>
  rw [F_plot_machine__run_L1.eq_2] at H
  refine Tr.sr ?_
  refine Tr.v2 rfl run_lss rfl rfl ?_
  refine Tr.nil (Tr.normThen ?_)
  refine Tr.seq ?_
  refine Tr.condT rfl (range_on hdL1) ?_
  refine Tr.skip (Tr.normThen ?_)
  refine Tr.seq ?_
  refine Tr.block ?_
  refine Tr.sr ?_
  obtain ⟨u122, hRu122, hoku122, hcu122⟩ := (hp1_0).el (range_at hdL1)
  obtain ⟨⟨Au122_0, cu122_0⟩, ⟨Au122_1, cu122_1⟩⟩ := u122
  obtain ⟨hoku122_0, hoku122_1⟩ := TPlotStep_ok.1 hoku122
  replace hoku122_0 : Sl w.R w.W fl_TPoint Au122_0 cu122_0 xL1.Points := hoku122_0
  replace hoku122_1 : Sl w.R w.W fl_TPlotStep Au122_1 cu122_1 xL1.Steps := hoku122_1
  refine Tr.va rfl (fun _ _ h1 h2 => run_indexAddr el_24 (h1.ev rfl) hp1_0.form (h1.ev rfl) (Int.natCast_nonneg _) (range_lt hdL1)) ?_
  refine Tr.va rfl (fun _ _ h1 h2 => run_loadN (cs := [(iv xL1.Kind), (sv xL1.Name), (iv xL1.At.X), (iv xL1.At.Y), (.slice Au122_0 (xL1.Points).length cu122_0), (iv xL1.NX), (iv xL1.NY), (.slice Au122_1 (xL1.Steps).length cu122_1)]) ag_53 sz_53 (h1.ev rfl) (CellsAt.take (rdR hRu122 hcu122 h2) 8) rfl) ?_
  refine Tr.alloc 5 (wn rfl) rfl ze_53 fun b123 => ?_
  refine Tr.store 5 (cs := [(iv xL1.Kind), (sv xL1.Name), (iv xL1.At.X), (iv xL1.At.Y), (.slice Au122_0 (xL1.Points).length cu122_0), (iv xL1.NX), (iv xL1.NY), (.slice Au122_1 (xL1.Steps).length cu122_1)]) [(iv xL1.Kind), (sv xL1.Name), (iv xL1.At.X), (iv xL1.At.Y), (.slice Au122_0 (xL1.Points).length cu122_0), (iv xL1.NX), (iv xL1.NY), (.slice Au122_1 (xL1.Steps).length cu122_1)] (wn rfl) rfl rfl rfl rfl sz_53 rfl rfl rfl ?_
  refine Tr.nil (Tr.normThen ?_)
  refine Tr.sr ?_
  refine Tr.mv rfl rfl ?_
  refine Tr.va rfl (fun _ _ h1 h2 => run_loadN (cs := [(iv xL1.Kind), (sv xL1.Name), (iv xL1.At.X), (iv xL1.At.Y), (.slice Au122_0 (xL1.Points).length cu122_0), (iv xL1.NX), (iv xL1.NY), (.slice Au122_1 (xL1.Steps).length cu122_1)]) ag_53 sz_53 (h1.ev rfl) (CellsAt.take (rdb h2 (vs := [(iv xL1.Kind), (sv xL1.Name), (iv xL1.At.X), (iv xL1.At.Y), (.slice Au122_0 (xL1.Points).length cu122_0), (iv xL1.NX), (iv xL1.NY), (.slice Au122_1 (xL1.Steps).length cu122_1)]) (k := 5) rfl 0) 8) rfl) ?_
  refine Tr.va rfl (fun _ _ h1 h2 => run_loadN (cs := [(iv p2.X), (iv p2.Y)]) ag_47 sz_47 (h1.ev rfl) (CellsAt.take (rdb h2 (vs := [(iv p2.X), (iv p2.Y)]) (k := 2) rfl 0) 2) rfl) ?_
  obtain ⟨y124, hy124, H⟩ := bnd H
  refine Tr.callG [0, 1] [bx bp0 #[(iv p0.p.Unit), (.slice Ap0_0 (p0.p.Tools).length cp0_0), (.slice Ap0_1 (p0.p.Steps).length cp0_1), (.slice Ap0_2 (p0.tools).length cp0_2), (.slice Al120 (l120).length cl120), (.bool x121), (iv p0.tool), (iv p0.place.X), (iv p0.place.Y), (.bool p0.placed), (iv p0.off), (iv p0.on)] 95, ow Al120 cl120 98 fl_TBand l120] (U := (Option Addr × Nat)) (fun u => (iv y124.1)) (fun O W u => SlF u.1 (y124.2.2).length u.2) (fun u => [bx bp0 #[(iv p0.p.Unit), (.slice Ap0_0 (p0.p.Tools).length cp0_0), (.slice Ap0_1 (p0.p.Steps).length cp0_1), (.slice Ap0_2 (p0.tools).length cp0_2), (.slice u.1 (y124.2.2).length u.2), (.bool y124.2.1), (iv p0.tool), (iv p0.place.X), (iv p0.place.Y), (.bool p0.placed), (iv p0.off), (iv p0.on)] 95, ow u.1 u.2 98 fl_TBand y124.2.2]) rfl (pk_cons rfl (pk_cons rfl pk_nil)) (fun _ => rfl) (wn rfl) rfl Tryz.call132 (evl_cons rfl (evl_cons rfl (evl_cons rfl evl_nil))) (fun W hW hp hE => F_plot_machine__step_ok rec hrec N (TMachine.mk p0.p p0.tools l120 x121 p0.tool p0.place p0.placed p0.off p0.on) Ap0_0 cp0_0 (hp0_0.ext (hW.extS hp)) Ap0_1 cp0_1 (hp0_1.ext (hW.extS hp)) Ap0_2 cp0_2 (hp0_2.ext (hW.extS hp)) Al120 cl120 bp0 xL1 Au122_0 cu122_0 (hoku122_0.ext (hW.extS hp)) Au122_1 cu122_1 (hoku122_1.ext (hW.extS hp)) p2 y124 hy124 hE) ?_
  intro w u le125 hu
  obtain ⟨Ay124_0, cy124_0⟩ := u
  have gy124_0 := hu
  replace hp0_0 := hp0_0.leR le125
  replace hp0_1 := hp0_1.leR le125
  replace hp0_2 := hp0_2.leR le125
  replace hp1_0 := hp1_0.leR le125
  replace hcu122 := le125.ext.cells hRu122 hcu122
  replace hRu122 := le125.r _ hRu122
  replace hoku122_0 := hoku122_0.leR le125
  replace hoku122_1 := hoku122_1.leR le125
  replace leB := leB.trans le125
  replace leL1 := leL1.trans le125
  have hgy124_0 : SlF Ay124_0 (y124.2.2).length cy124_0 := gy124_0 --@phi
  show Tr _ _ (uf _ 19 (iv y124.1)) (up (up _ 1 (ow Ay124_0 cy124_0 98 fl_TBand y124.2.2)) 0 (bx bp0 #[(iv p0.p.Unit), (.slice Ap0_0 (p0.p.Tools).length cp0_0), (.slice Ap0_1 (p0.p.Steps).length cp0_1), (.slice Ap0_2 (p0.tools).length cp0_2), (.slice Ay124_0 (y124.2.2).length cy124_0), (.bool y124.2.1), (iv p0.tool), (iv p0.place.X), (iv p0.place.Y), (.bool p0.placed), (iv p0.off), (iv p0.on)] 95)) _
  refine Tr.asg rfl rfl ?_
  refine Tr.nil (Tr.normThen ?_)
  refine Tr.sr ?_
  refine Tr.mv rfl rfl ?_
  refine Tr.v2 rfl run_neq rfl rfl ?_
  refine Tr.nil (Tr.normThen ?_)
  refine Tr.cond rfl H (fun H => ?_) (fun H => ?_)
  ·refine Tr.sr ?_
   refine Tr.mv rfl rfl ?_
   refine Tr.asg rfl rfl ?_
   refine Tr.nil (Tr.normThen ?_)
   refine Tr.ret (Tr.retBlock (Tr.retThen (Tr.retThen (Tr.retBlock (Tr.retThen ?_)))))
   obtain rfl := Option.some.inj H
   exact Tr.out (m := [(iv y124.1)]) [] (res_tmp rfl res_nil) (fun W hW => ⟨w, (Ay124_0, cy124_0), leB, rfl, hgy124_0, hW.pick (ks := [0, 1]) (by decide) (pk_cons rfl (pk_cons rfl pk_nil))⟩)
  ·refine Tr.skip (Tr.normBlock (Tr.normThen ?_))
   refine Tr.region ?_
   refine Tr.v2 rfl run_add rfl rfl ?_
   refine Tr.mv rfl rfl ?_
   refine Tr.nil ?_
   exact Tr.backThen leL1 (restL1, (iL1 + 1), y124.2.2, y124.2.1, Ay124_0, cy124_0) ⟨rfl, range_tl hdL1, range_lt hdL1, H, hgy124_0⟩ (.cons rfl (.cons rfl (.cons rfl (.cons rfl (.cons (congrArg (fun z => some (Value.int .i64 z)) (range_up hdL1 hp1_0.form)) .nil))))) (.r rfl)
theorem F_plot_machine__run_ok : ∀ (N : Nat) {w : Bs} (p0 : TMachine) (Ap0_0 : Option Addr) (cp0_0 : Nat) (hp0_0 : Sl w.R w.W fl_TPlotTool Ap0_0 cp0_0 p0.p.Tools) (Ap0_1 : Option Addr) (cp0_1 : Nat) (hp0_1 : Sl w.R w.W fl_TPlotStep Ap0_1 cp0_1 p0.p.Steps) (Ap0_2 : Option Addr) (cp0_2 : Nat) (hp0_2 : Sl w.R w.W fl_LTBand Ap0_2 cp0_2 p0.tools) (Ap0_3 : Option Addr) (cp0_3 : Nat) (bp0 : Nat) (p1 : (List TPlotStep)) (Ap1_0 : Option Addr) (cp1_0 : Nat) (hp1_0 : Sl w.R w.W fl_TPlotStep Ap1_0 cp1_0 p1) (p2 : TPoint) (r : (Int × Bool × (List TBand))) (H : F_plot_machine__run N p0 p1 p2 = some r) (hE : HF w w.W (LEn [bx bp0 #[(iv p0.p.Unit), (.slice Ap0_0 (p0.p.Tools).length cp0_0), (.slice Ap0_1 (p0.p.Steps).length cp0_1), (.slice Ap0_2 (p0.tools).length cp0_2), (.slice Ap0_3 (p0.image).length cp0_3), (.bool p0.clear), (iv p0.tool), (iv p0.place.X), (iv p0.place.Y), (.bool p0.placed), (iv p0.off), (iv p0.on)] 95, ow Ap0_3 cp0_3 98 fl_TBand p0.image])), Calls Tryz.prog 94 [(.pointer (some ⟨bp0, 0, none⟩)), (.slice Ap1_0 (p1).length cp1_0), (.agg #[(iv p2.X), (iv p2.Y)])].toArray w.W fun e W' => ∃ (w' : Bs) (u : (Option Addr × Nat)), w.Le w' ∧ e = .returned (iv r.1) ∧ (SlF u.1 (r.2.2).length u.2) ∧ HF w' W' (LEn [bx bp0 #[(iv p0.p.Unit), (.slice Ap0_0 (p0.p.Tools).length cp0_0), (.slice Ap0_1 (p0.p.Steps).length cp0_1), (.slice Ap0_2 (p0.tools).length cp0_2), (.slice u.1 (r.2.2).length u.2), (.bool r.2.1), (iv p0.tool), (iv p0.place.X), (iv p0.place.Y), (.bool p0.placed), (iv p0.off), (iv p0.on)] 95, ow u.1 u.2 98 fl_TBand r.2.2])
 | 0 => by intros; rename_i H _; cases H
 | N + 1 => F_plot_machine__run_b_ok N (F_plot_machine__run N) (F_plot_machine__run_ok N)

theorem F_plot_drawn_ok (N : Nat) {w : Bs} (p0 : TPlot) (Ap0_0 : Option Addr) (cp0_0 : Nat) (hp0_0 : Sl w.O w.W fl_TPlotTool Ap0_0 cp0_0 p0.Tools) (Ap0_1 : Option Addr) (cp0_1 : Nat) (hp0_1 : Sl w.O w.W fl_TPlotStep Ap0_1 cp0_1 p0.Steps) (r : (TMachine × Int)) (H : F_plot_drawn N p0 = some r) (hE : HF w w.W (LEn [emp, emp, emp])) : Calls Tryz.prog 46 [(.agg #[(iv p0.Unit), (.slice Ap0_0 (p0.Tools).length cp0_0), (.slice Ap0_1 (p0.Steps).length cp0_1)])].toArray w.W fun e W' => ∃ (w' : Bs) (u : (Option Addr × Nat) × (Option Addr × Nat) × (Option Addr × Nat) × (Option Addr × Nat) × (Option Addr × Nat)), w.Le w' ∧ e = .returned (.tuple #[(.pointer (some ⟨u.2.2.2.2.2, 0, none⟩)), (iv r.2)]) ∧ (Sl w'.O w'.W fl_TPlotTool u.1.1 u.1.2 r.1.p.Tools ∧ Sl w'.O w'.W fl_TPlotStep u.2.1.1 u.2.1.2 r.1.p.Steps ∧ SlF u.2.2.1.1 (r.1.tools).length u.2.2.1.2 ∧ SlF u.2.2.2.1.1 (r.1.image).length u.2.2.2.1.2 ∧ True) ∧ HF w' W' (LEn [ow u.2.2.1.1 u.2.2.1.2 62 fl_LTBand r.1.tools, ow u.2.2.2.1.1 u.2.2.2.1.2 98 fl_TBand r.1.image, bx u.2.2.2.2.2 #[(iv r.1.p.Unit), (.slice u.1.1 (r.1.p.Tools).length u.1.2), (.slice u.2.1.1 (r.1.p.Steps).length u.2.1.2), (.slice u.2.2.1.1 (r.1.tools).length u.2.2.1.2), (.slice u.2.2.2.1.1 (r.1.image).length u.2.2.2.1.2), (.bool r.1.clear), (iv r.1.tool), (iv r.1.place.X), (iv r.1.place.Y), (.bool r.1.placed), (iv r.1.off), (iv r.1.on)] 95]) := by
 unfold F_plot_drawn at H
 have leB := Bs.Le.refl w
 refine Tr.enter (n := 13) Tryz.func46 rfl rfl rfl hE ?_
 refine Tr.sr ?_
 refine Tr.box 1 (cs := [(iv p0.Unit), (.slice Ap0_0 (p0.Tools).length cp0_0), (.slice Ap0_1 (p0.Steps).length cp0_1)]) (wn rfl) rfl rfl rfl fun b100 => ?_
 refine Tr.asg rfl rfl ?_
 refine Tr.asg rfl rfl ?_
 refine Tr.nil (Tr.normThen ?_)
 refine Tr.sr ?_
 refine Tr.va rfl (fun _ _ h1 h2 => run_loadN (cs := [(iv p0.Unit), (.slice Ap0_0 (p0.Tools).length cp0_0), (.slice Ap0_1 (p0.Steps).length cp0_1)]) ag_26 sz_26 (h1.ev rfl) (CellsAt.take (rdb h2 (vs := [(iv p0.Unit), (.slice Ap0_0 (p0.Tools).length cp0_0), (.slice Ap0_1 (p0.Steps).length cp0_1)]) (k := 1) rfl 0) 3) rfl) ?_
 obtain ⟨y101, hy101, H⟩ := bnd H
 refine Tr.callG [2, 3, 4] [emp, emp, emp] (U := (Option Addr × Nat) × (Option Addr × Nat) × (Option Addr × Nat) × (Option Addr × Nat) × (Option Addr × Nat)) (fun u => (.pointer (some ⟨u.2.2.2.2.2, 0, none⟩))) (fun O W u => Sl O W fl_TPlotTool u.1.1 u.1.2 y101.p.Tools ∧ Sl O W fl_TPlotStep u.2.1.1 u.2.1.2 y101.p.Steps ∧ SlF u.2.2.1.1 (y101.tools).length u.2.2.1.2 ∧ SlF u.2.2.2.1.1 (y101.image).length u.2.2.2.1.2 ∧ True) (fun u => [ow u.2.2.1.1 u.2.2.1.2 62 fl_LTBand y101.tools, ow u.2.2.2.1.1 u.2.2.2.1.2 98 fl_TBand y101.image, bx u.2.2.2.2.2 #[(iv y101.p.Unit), (.slice u.1.1 (y101.p.Tools).length u.1.2), (.slice u.2.1.1 (y101.p.Steps).length u.2.1.2), (.slice u.2.2.1.1 (y101.tools).length u.2.2.1.2), (.slice u.2.2.2.1.1 (y101.image).length u.2.2.2.1.2), (.bool y101.clear), (iv y101.tool), (iv y101.place.X), (iv y101.place.Y), (.bool y101.placed), (iv y101.off), (iv y101.on)] 95]) rfl (pk_cons rfl (pk_cons rfl (pk_cons rfl pk_nil))) (fun _ => rfl) (wn rfl) rfl Tryz.call93 (evl_cons rfl evl_nil) (fun W hW hp hE => F_plot_newMachine_ok p0 Ap0_0 cp0_0 (hp0_0.extO (hW.extS hp)) Ap0_1 cp0_1 (hp0_1.extO (hW.extS hp)) y101 hy101 hE) ?_
 intro w u le102 hu
 obtain ⟨⟨Ay101_0, cy101_0⟩, ⟨Ay101_1, cy101_1⟩, ⟨Ay101_2, cy101_2⟩, ⟨Ay101_3, cy101_3⟩, ⟨Ay101_4, cy101_4⟩⟩ := u
 obtain ⟨gy101_0, gy101_1, gy101_2, gy101_3, gy101_4⟩ := hu
 replace hp0_0 := hp0_0.le le102
 replace hp0_1 := hp0_1.le le102
 replace leB := leB.trans le102
 have hgy101_0 : Sl w.O w.W fl_TPlotTool Ay101_0 cy101_0 y101.p.Tools := gy101_0 --@phi
 have hgy101_1 : Sl w.O w.W fl_TPlotStep Ay101_1 cy101_1 y101.p.Steps := gy101_1 --@phi
 have hgy101_2 : SlF Ay101_2 (y101.tools).length cy101_2 := gy101_2 --@phi
 have hgy101_3 : SlF Ay101_3 (y101.image).length cy101_3 := gy101_3 --@phi
 have hgy101_4 : True := gy101_4 --@phi
 show Tr _ _ (uf _ 6 (.pointer (some ⟨cy101_4, 0, none⟩))) (up (up (up _ 4 (bx cy101_4 #[(iv y101.p.Unit), (.slice Ay101_0 (y101.p.Tools).length cy101_0), (.slice Ay101_1 (y101.p.Steps).length cy101_1), (.slice Ay101_2 (y101.tools).length cy101_2), (.slice Ay101_3 (y101.image).length cy101_3), (.bool y101.clear), (iv y101.tool), (iv y101.place.X), (iv y101.place.Y), (.bool y101.placed), (iv y101.off), (iv y101.on)] 95)) 3 (ow Ay101_3 cy101_3 98 fl_TBand y101.image)) 2 (ow Ay101_2 cy101_2 62 fl_LTBand y101.tools)) _
 refine Tr.asg rfl rfl ?_
 refine Tr.nil (Tr.normThen ?_)
 refine Tr.sr ?_
 refine Tr.mv rfl rfl ?_
 refine Tr.mv rfl rfl ?_
 refine Tr.v1 rfl (run_fieldAddr fo_26_2) rfl ?_
 refine Tr.va rfl (fun _ _ h1 h2 => run_load1 ag_24 (h1.ev rfl) (rdb h2 (vs := [(iv p0.Unit), (.slice Ap0_0 (p0.Tools).length cp0_0), (.slice Ap0_1 (p0.Steps).length cp0_1)]) (k := 1) rfl 2) rfl) ?_
 refine Tr.build (vs := []) (cs := [(iv 0), (iv 0)]) (wn rfl) rfl evs_nil (by kernel_rfl) ?_
 obtain ⟨y103, hy103, H⟩ := bnd H
 refine Tr.callG [4, 3] [bx cy101_4 #[(iv y101.p.Unit), (.slice Ay101_0 (y101.p.Tools).length cy101_0), (.slice Ay101_1 (y101.p.Steps).length cy101_1), (.slice Ay101_2 (y101.tools).length cy101_2), (.slice Ay101_3 (y101.image).length cy101_3), (.bool y101.clear), (iv y101.tool), (iv y101.place.X), (iv y101.place.Y), (.bool y101.placed), (iv y101.off), (iv y101.on)] 95, ow Ay101_3 cy101_3 98 fl_TBand y101.image] (U := (Option Addr × Nat)) (fun u => (iv y103.1)) (fun O W u => SlF u.1 (y103.2.2).length u.2) (fun u => [bx cy101_4 #[(iv y101.p.Unit), (.slice Ay101_0 (y101.p.Tools).length cy101_0), (.slice Ay101_1 (y101.p.Steps).length cy101_1), (.slice Ay101_2 (y101.tools).length cy101_2), (.slice u.1 (y103.2.2).length u.2), (.bool y103.2.1), (iv y101.tool), (iv y101.place.X), (iv y101.place.Y), (.bool y101.placed), (iv y101.off), (iv y101.on)] 95, ow u.1 u.2 98 fl_TBand y103.2.2]) rfl (pk_cons rfl (pk_cons rfl pk_nil)) (fun _ => rfl) (wn rfl) rfl Tryz.call94 (evl_cons rfl (evl_cons rfl (evl_cons rfl evl_nil))) (fun W hW hp hE => F_plot_machine__run_ok N y101 Ay101_0 cy101_0 (hgy101_0.rl.ext (hW.extS hp)) Ay101_1 cy101_1 (hgy101_1.rl.ext (hW.extS hp)) Ay101_2 cy101_2 (hW.slS (k := 2) rfl hp rfl) Ay101_3 cy101_3 cy101_4 p0.Steps Ap0_1 cp0_1 (hp0_1.rl.ext (hW.extS hp)) (TPoint.mk 0 0) y103 hy103 hE) ?_
 intro w u le104 hu
 obtain ⟨Ay103_0, cy103_0⟩ := u
 have gy103_0 := hu
 replace hp0_0 := hp0_0.le le104
 replace hp0_1 := hp0_1.le le104
 replace hgy101_0 := hgy101_0.le le104
 replace hgy101_1 := hgy101_1.le le104
 replace leB := leB.trans le104
 have hgy103_0 : SlF Ay103_0 (y103.2.2).length cy103_0 := gy103_0 --@phi
 show Tr _ _ (uf _ 12 (iv y103.1)) (up (up _ 3 (ow Ay103_0 cy103_0 98 fl_TBand y103.2.2)) 4 (bx cy101_4 #[(iv y101.p.Unit), (.slice Ay101_0 (y101.p.Tools).length cy101_0), (.slice Ay101_1 (y101.p.Steps).length cy101_1), (.slice Ay101_2 (y101.tools).length cy101_2), (.slice Ay103_0 (y103.2.2).length cy103_0), (.bool y103.2.1), (iv y101.tool), (iv y101.place.X), (iv y101.place.Y), (.bool y101.placed), (iv y101.off), (iv y101.on)] 95)) _
 refine Tr.asg rfl rfl ?_
 refine Tr.asg rfl rfl ?_
 refine Tr.nil (Tr.normThen ?_)
 refine Tr.ret ?_
 obtain rfl := Option.some.inj H
 exact Tr.out (m := [(.pointer (some ⟨cy101_4, 0, none⟩)), (iv y103.1)]) [] (res_tmp rfl (res_tmp rfl res_nil)) (fun W hW => ⟨w, ((Ay101_0, cy101_0), (Ay101_1, cy101_1), (Ay101_2, cy101_2), (Ay103_0, cy103_0), (none, cy101_4)), leB, rfl, ⟨hgy101_0, hgy101_1, hgy101_2, hgy103_0, trivial⟩, hW.pick (ks := [2, 3, 4]) (by decide) (pk_cons rfl (pk_cons rfl (pk_cons rfl pk_nil)))⟩)

theorem F_plot_ImageOf_ok (N : Nat) {w : Bs} (p0 : TPlot) (Ap0_0 : Option Addr) (cp0_0 : Nat) (hp0_0 : Sl w.O w.W fl_TPlotTool Ap0_0 cp0_0 p0.Tools) (Ap0_1 : Option Addr) (cp0_1 : Nat) (hp0_1 : Sl w.O w.W fl_TPlotStep Ap0_1 cp0_1 p0.Steps) (r : ((List TBand) × Int)) (H : F_plot_ImageOf N p0 = some r) (hE : HF w w.W (LEn [emp])) : Calls Tryz.prog 24 [(.agg #[(iv p0.Unit), (.slice Ap0_0 (p0.Tools).length cp0_0), (.slice Ap0_1 (p0.Steps).length cp0_1)])].toArray w.W fun e W' => ∃ (w' : Bs) (u : (Option Addr × Nat)), w.Le w' ∧ e = .returned (.tuple #[(.slice u.1 (r.1).length u.2), (iv r.2)]) ∧ (SlF u.1 (r.1).length u.2) ∧ HF w' W' (LEn [ow u.1 u.2 98 fl_TBand r.1]) := by
 unfold F_plot_ImageOf at H
 have leB := Bs.Le.refl w
 refine Tr.enter (n := 24) Tryz.func24 rfl rfl rfl hE ?_
 refine Tr.sr ?_
 refine Tr.box 1 (cs := [(iv p0.Unit), (.slice Ap0_0 (p0.Tools).length cp0_0), (.slice Ap0_1 (p0.Steps).length cp0_1)]) (wn rfl) rfl rfl rfl fun b100 => ?_
 refine Tr.asg rfl rfl ?_
 refine Tr.nilOwn 2 98 fl_TBand ?_
 show Tr _ _ (uf _ 2 (.slice none (([] : List TBand)).length 0)) _ _
 refine Tr.asg rfl rfl ?_
 refine Tr.nil (Tr.normThen ?_)
 refine Tr.seq ?_
 refine Tr.sr ?_
 refine Tr.va rfl (fun _ _ h1 h2 => run_loadN (cs := [(iv p0.Unit), (.slice Ap0_0 (p0.Tools).length cp0_0), (.slice Ap0_1 (p0.Steps).length cp0_1)]) ag_26 sz_26 (h1.ev rfl) (CellsAt.take (rdb h2 (vs := [(iv p0.Unit), (.slice Ap0_0 (p0.Tools).length cp0_0), (.slice Ap0_1 (p0.Steps).length cp0_1)]) (k := 1) rfl 0) 3) rfl) ?_
 obtain ⟨y101, hy101, H⟩ := bnd H
 refine Tr.call0 (r := (iv y101)) (wn rfl) rfl Tryz.call26 (evl_cons rfl evl_nil) (fun W hW => F_plot_CheckPlot_ok N p0 Ap0_0 cp0_0 (hp0_0.rl.ext hW.extAll) Ap0_1 cp0_1 (hp0_1.rl.ext hW.extAll) y101 hy101 (HF.start _)) ?_
 refine Tr.asg rfl rfl ?_
 refine Tr.nil (Tr.normThen ?_)
 refine Tr.sr ?_
 refine Tr.mv rfl rfl ?_
 refine Tr.v2 rfl run_neq rfl rfl ?_
 refine Tr.nil (Tr.normThen ?_)
 refine Tr.cond rfl H (fun H => ?_) (fun H => ?_)
 ·refine Tr.sr ?_
  refine Tr.mv rfl rfl ?_
  refine Tr.asg rfl rfl ?_
  refine Tr.nilOwn 3 98 fl_TBand ?_
  show Tr _ _ (uf _ 2 (.slice none (([] : List TBand)).length 0)) _ _
  refine Tr.asg rfl rfl ?_
  refine Tr.nil (Tr.normThen ?_)
  refine Tr.ret (Tr.retThen ?_)
  obtain rfl := Option.some.inj H
  exact Tr.out (m := [(.slice none (([] : List TBand)).length 0), (iv y101)]) [] (res_tmp rfl (res_tmp rfl res_nil)) (fun W hW => ⟨w, (none, 0), leB, rfl, slf_nil, hW.pick (ks := [3]) (by decide) (pk_cons rfl pk_nil)⟩)
 ·refine Tr.skip (Tr.normThen ?_)
  refine Tr.sr ?_
  refine Tr.va rfl (fun _ _ h1 h2 => run_loadN (cs := [(iv p0.Unit), (.slice Ap0_0 (p0.Tools).length cp0_0), (.slice Ap0_1 (p0.Steps).length cp0_1)]) ag_26 sz_26 (h1.ev rfl) (CellsAt.take (rdb h2 (vs := [(iv p0.Unit), (.slice Ap0_0 (p0.Tools).length cp0_0), (.slice Ap0_1 (p0.Steps).length cp0_1)]) (k := 1) rfl 0) 3) rfl) ?_
  obtain ⟨y102, hy102, H⟩ := bnd H
  refine Tr.callG [4, 5, 6] [emp, emp, emp] (U := (Option Addr × Nat) × (Option Addr × Nat) × (Option Addr × Nat) × (Option Addr × Nat) × (Option Addr × Nat)) (fun u => (.tuple #[(.pointer (some ⟨u.2.2.2.2.2, 0, none⟩)), (iv y102.2)])) (fun O W u => Sl O W fl_TPlotTool u.1.1 u.1.2 y102.1.p.Tools ∧ Sl O W fl_TPlotStep u.2.1.1 u.2.1.2 y102.1.p.Steps ∧ SlF u.2.2.1.1 (y102.1.tools).length u.2.2.1.2 ∧ SlF u.2.2.2.1.1 (y102.1.image).length u.2.2.2.1.2 ∧ True) (fun u => [ow u.2.2.1.1 u.2.2.1.2 62 fl_LTBand y102.1.tools, ow u.2.2.2.1.1 u.2.2.2.1.2 98 fl_TBand y102.1.image, bx u.2.2.2.2.2 #[(iv y102.1.p.Unit), (.slice u.1.1 (y102.1.p.Tools).length u.1.2), (.slice u.2.1.1 (y102.1.p.Steps).length u.2.1.2), (.slice u.2.2.1.1 (y102.1.tools).length u.2.2.1.2), (.slice u.2.2.2.1.1 (y102.1.image).length u.2.2.2.1.2), (.bool y102.1.clear), (iv y102.1.tool), (iv y102.1.place.X), (iv y102.1.place.Y), (.bool y102.1.placed), (iv y102.1.off), (iv y102.1.on)] 95]) rfl (pk_cons rfl (pk_cons rfl (pk_cons rfl pk_nil))) (fun _ => rfl) (wn rfl) rfl Tryz.call46 (evl_cons rfl evl_nil) (fun W hW hp hE => F_plot_drawn_ok N p0 Ap0_0 cp0_0 (hp0_0.extO (hW.extS hp)) Ap0_1 cp0_1 (hp0_1.extO (hW.extS hp)) y102 hy102 hE) ?_
  intro w u le103 hu
  obtain ⟨⟨Ay102_0, cy102_0⟩, ⟨Ay102_1, cy102_1⟩, ⟨Ay102_2, cy102_2⟩, ⟨Ay102_3, cy102_3⟩, ⟨Ay102_4, cy102_4⟩⟩ := u
  obtain ⟨gy102_0, gy102_1, gy102_2, gy102_3, gy102_4⟩ := hu
  replace hp0_0 := hp0_0.le le103
  replace hp0_1 := hp0_1.le le103
  replace leB := leB.trans le103
  have hgy102_0 : Sl w.O w.W fl_TPlotTool Ay102_0 cy102_0 y102.1.p.Tools := gy102_0 --@phi
  have hgy102_1 : Sl w.O w.W fl_TPlotStep Ay102_1 cy102_1 y102.1.p.Steps := gy102_1 --@phi
  have hgy102_2 : SlF Ay102_2 (y102.1.tools).length cy102_2 := gy102_2 --@phi
  have hgy102_3 : SlF Ay102_3 (y102.1.image).length cy102_3 := gy102_3 --@phi
  have hgy102_4 : True := gy102_4 --@phi
  show Tr _ _ (uf _ 14 (.tuple #[(.pointer (some ⟨cy102_4, 0, none⟩)), (iv y102.2)])) (up (up (up _ 6 (bx cy102_4 #[(iv y102.1.p.Unit), (.slice Ay102_0 (y102.1.p.Tools).length cy102_0), (.slice Ay102_1 (y102.1.p.Steps).length cy102_1), (.slice Ay102_2 (y102.1.tools).length cy102_2), (.slice Ay102_3 (y102.1.image).length cy102_3), (.bool y102.1.clear), (iv y102.1.tool), (iv y102.1.place.X), (iv y102.1.place.Y), (.bool y102.1.placed), (iv y102.1.off), (iv y102.1.on)] 95)) 5 (ow Ay102_3 cy102_3 98 fl_TBand y102.1.image)) 4 (ow Ay102_2 cy102_2 62 fl_LTBand y102.1.tools)) _
  refine Tr.mv rfl rfl ?_
  refine Tr.va rfl (fun _ _ h1 h2 => run_extract (h1.ev rfl) rfl) ?_
  refine Tr.va rfl (fun _ _ h1 h2 => run_extract (h1.ev rfl) rfl) ?_
  refine Tr.asg rfl rfl ?_
  refine Tr.asg rfl rfl ?_
  refine Tr.nil (Tr.normThen ?_)
  refine Tr.seq ?_
  refine Tr.sr ?_
  refine Tr.mv rfl rfl ?_
  refine Tr.v2 rfl run_neq rfl rfl ?_
  refine Tr.nil (Tr.normThen ?_)
  refine Tr.cond rfl H (fun H => ?_) (fun H => ?_)
  ·refine Tr.sr ?_
   refine Tr.mv rfl rfl ?_
   refine Tr.asg rfl rfl ?_
   refine Tr.nilOwn 7 98 fl_TBand ?_
   show Tr _ _ (uf _ 2 (.slice none (([] : List TBand)).length 0)) _ _
   refine Tr.asg rfl rfl ?_
   refine Tr.nil (Tr.normThen ?_)
   refine Tr.ret (Tr.retThen ?_)
   obtain rfl := Option.some.inj H
   exact Tr.out (m := [(.slice none (([] : List TBand)).length 0), (iv y102.2)]) [] (res_tmp rfl (res_tmp rfl res_nil)) (fun W hW => ⟨w, (none, 0), leB, rfl, slf_nil, hW.pick (ks := [7]) (by decide) (pk_cons rfl pk_nil)⟩)
  ·refine Tr.skip (Tr.normThen ?_)
   refine Tr.sr ?_
   refine Tr.mv rfl rfl ?_
   refine Tr.v1 rfl run_nilCheck rfl ?_
   refine Tr.v1 rfl (run_fieldAddr fo_95_2) rfl ?_
   refine Tr.va rfl (fun _ _ h1 h2 => run_load1 ag_62 (h1.ev rfl) (rdb h2 (vs := [(iv y102.1.p.Unit), (.slice Ay102_0 (y102.1.p.Tools).length cy102_0), (.slice Ay102_1 (y102.1.p.Steps).length cy102_1), (.slice Ay102_2 (y102.1.tools).length cy102_2), (.slice Ay102_3 (y102.1.image).length cy102_3), (.bool y102.1.clear), (iv y102.1.tool), (iv y102.1.place.X), (iv y102.1.place.Y), (.bool y102.1.placed), (iv y102.1.off), (iv y102.1.on)]) (k := 6) rfl 4) rfl) ?_
   refine Tr.asg rfl rfl ?_
   refine Tr.asg rfl rfl ?_
   refine Tr.nil (Tr.normThen ?_)
   refine Tr.ret ?_
   obtain rfl := Option.some.inj H
   exact Tr.out (m := [(.slice Ay102_3 (y102.1.image).length cy102_3), (iv 0)]) [] (res_tmp rfl (res_tmp rfl res_nil)) (fun W hW => ⟨w, (Ay102_3, cy102_3), leB, rfl, hgy102_3, hW.pick (ks := [5]) (by decide) (pk_cons rfl pk_nil)⟩)

theorem F_plot_Image_ok (N : Nat) {w : Bs} (p0 : TPlot) (Ap0_0 : Option Addr) (cp0_0 : Nat) (hp0_0 : Sl w.O w.W fl_TPlotTool Ap0_0 cp0_0 p0.Tools) (Ap0_1 : Option Addr) (cp0_1 : Nat) (hp0_1 : Sl w.O w.W fl_TPlotStep Ap0_1 cp0_1 p0.Steps) (r : ((List TRect) × Int)) (H : F_plot_Image N p0 = some r) (hE : HF w w.W (LEn [emp])) : Calls Tryz.prog 9 [(.agg #[(iv p0.Unit), (.slice Ap0_0 (p0.Tools).length cp0_0), (.slice Ap0_1 (p0.Steps).length cp0_1)])].toArray w.W fun e W' => ∃ u : (Option Addr × Nat), e = .returned (.tuple #[(.slice u.1 (r.1).length u.2), (iv r.2)]) ∧ (SlF u.1 (r.1).length u.2) ∧ HF w W' (LEn [ow u.1 u.2 38 fl_TRect r.1]) := by
 unfold F_plot_Image at H
 have leB := Bs.Le.refl w
 refine Tr.enter (n := 14) Tryz.func9 rfl rfl rfl hE ?_
 refine Tr.sr ?_
 refine Tr.box 1 (cs := [(iv p0.Unit), (.slice Ap0_0 (p0.Tools).length cp0_0), (.slice Ap0_1 (p0.Steps).length cp0_1)]) (wn rfl) rfl rfl rfl fun b100 => ?_
 refine Tr.asg rfl rfl ?_
 refine Tr.nilOwn 2 38 fl_TRect ?_
 show Tr _ _ (uf _ 2 (.slice none (([] : List TRect)).length 0)) _ _
 refine Tr.asg rfl rfl ?_
 refine Tr.nil (Tr.normThen ?_)
 refine Tr.sr ?_
 refine Tr.va rfl (fun _ _ h1 h2 => run_loadN (cs := [(iv p0.Unit), (.slice Ap0_0 (p0.Tools).length cp0_0), (.slice Ap0_1 (p0.Steps).length cp0_1)]) ag_26 sz_26 (h1.ev rfl) (CellsAt.take (rdb h2 (vs := [(iv p0.Unit), (.slice Ap0_0 (p0.Tools).length cp0_0), (.slice Ap0_1 (p0.Steps).length cp0_1)]) (k := 1) rfl 0) 3) rfl) ?_
 obtain ⟨y101, hy101, H⟩ := bnd H
 refine Tr.callG [3] [emp] (U := (Option Addr × Nat)) (fun u => (.tuple #[(.slice u.1 (y101.1).length u.2), (iv y101.2)])) (fun O W u => SlF u.1 (y101.1).length u.2) (fun u => [ow u.1 u.2 98 fl_TBand y101.1]) rfl (pk_cons rfl pk_nil) (fun _ => rfl) (wn rfl) rfl Tryz.call24 (evl_cons rfl evl_nil) (fun W hW hp hE => F_plot_ImageOf_ok N p0 Ap0_0 cp0_0 (hp0_0.extO (hW.extS hp)) Ap0_1 cp0_1 (hp0_1.extO (hW.extS hp)) y101 hy101 hE) ?_
 intro w u le102 hu
 obtain ⟨Ay101_0, cy101_0⟩ := u
 have gy101_0 := hu
 replace hp0_0 := hp0_0.le le102
 replace hp0_1 := hp0_1.le le102
 replace leB := leB.trans le102
 have hgy101_0 : SlF Ay101_0 (y101.1).length cy101_0 := gy101_0 --@phi
 show Tr _ _ (uf _ 8 (.tuple #[(.slice Ay101_0 (y101.1).length cy101_0), (iv y101.2)])) (up _ 3 (ow Ay101_0 cy101_0 98 fl_TBand y101.1)) _
 refine Tr.mv rfl rfl ?_
 refine Tr.va rfl (fun _ _ h1 h2 => run_extract (h1.ev rfl) rfl) ?_
 refine Tr.va rfl (fun _ _ h1 h2 => run_extract (h1.ev rfl) rfl) ?_
 refine Tr.asg rfl rfl ?_
 refine Tr.asg rfl rfl ?_
 refine Tr.nil (Tr.normThen ?_)
 refine Tr.sr ?_
 refine Tr.mv rfl rfl ?_
 obtain ⟨y103, hy103, H⟩ := bnd H
 refine Tr.callM [4] [emp] (U := (Option Addr × Nat)) (fun u => (.slice u.1 (y103).length u.2)) (fun u => SlF u.1 (y103).length u.2) (fun u => [ow u.1 u.2 38 fl_TRect y103]) rfl (pk_cons rfl pk_nil) (fun _ => rfl) (wn rfl) rfl Tryz.call25 (evl_cons rfl evl_nil) (fun W hW hp hE => F_shape_Set__Rects_ok N y101.1 Ay101_0 cy101_0 (hW.slS (k := 3) rfl hp rfl) y103 hy103 hE) ?_
 intro u hu
 obtain ⟨Ay103_0, cy103_0⟩ := u
 have gy103_0 := hu
 have hgy103_0 : SlF Ay103_0 (y103).length cy103_0 := gy103_0 --@phi
 show Tr _ _ (uf _ 12 (.slice Ay103_0 (y103).length cy103_0)) (up _ 4 (ow Ay103_0 cy103_0 38 fl_TRect y103)) _
 refine Tr.mv rfl rfl ?_
 refine Tr.asg rfl rfl ?_
 refine Tr.asg rfl rfl ?_
 refine Tr.nil (Tr.normThen ?_)
 refine Tr.ret ?_
 obtain rfl := Option.some.inj H
 exact Tr.out (m := [(.slice Ay103_0 (y103).length cy103_0), (iv y101.2)]) [] (res_tmp rfl (res_tmp rfl res_nil)) (fun W hW => ⟨(Ay103_0, cy103_0), rfl, hgy103_0, HF.lowE leB (hW.pick (ks := [4]) (by decide) (pk_cons rfl pk_nil)) ⟨ow_any _ _ _ _ tr_TRect, trivial⟩⟩)

theorem F_plot_Short_1_ok {w : Bs} (p0 : Int) (r : Int) (H : F_plot_Short_1 p0 = some r) (hE : HF w w.W E0) : Calls Tryz.prog 28 [(iv p0)].toArray w.W fun e W' => e = .returned (iv r) ∧ HF w W' E0 := by
 unfold F_plot_Short_1 at H
 have leB := Bs.Le.refl w
 refine Tr.enter (n := 4) Tryz.func28 rfl rfl rfl hE ?_
 refine Tr.sr ?_
 refine Tr.asg rfl rfl ?_
 refine Tr.nil (Tr.normThen ?_)
 refine Tr.sr ?_
 refine Tr.mv rfl rfl ?_
 refine Tr.asg rfl rfl ?_
 refine Tr.nil (Tr.normThen ?_)
 refine Tr.ret ?_
 obtain rfl := Option.some.inj H
 exact Tr.out (m := [(iv p0)]) [] (res_tmp rfl res_nil) (fun W hW => ⟨rfl, hW.low leB⟩)

theorem F_slices_Clone_PlotTool_ok {w : Bs} (p0 : (List TPlotTool)) (Ap0_0 : Option Addr) (cp0_0 : Nat) (hp0_0 : Sl w.O w.W fl_TPlotTool Ap0_0 cp0_0 p0) (r : (List TPlotTool)) (H : F_slices_Clone_PlotTool p0 = some r) (hE : HF w w.W (LEn [emp])) : Calls Tryz.prog 99 [(.slice Ap0_0 (p0).length cp0_0)].toArray w.W fun e W' => ∃ (w' : Bs) (u : (Option Addr × Nat)), w.Le w' ∧ e = .returned (.slice u.1 (r).length u.2) ∧ (SlF u.1 (r).length u.2) ∧ HF w' W' (LEn [ow u.1 u.2 58 fl_TPlotTool r]) := by
 unfold F_slices_Clone_PlotTool at H
 have leB := Bs.Le.refl w
 refine Tr.enter (n := 8) Tryz.func99 rfl rfl rfl hE ?_
 refine Tr.sr ?_
 refine Tr.asg rfl rfl ?_
 refine Tr.nilOwn 1 58 fl_TPlotTool ?_
 show Tr _ _ (uf _ 2 (.slice none (([] : List TPlotTool)).length 0)) _ _
 refine Tr.nil (Tr.normThen ?_)
 refine Tr.seq ?_
 refine Tr.sr ?_
 refine Tr.mv rfl rfl ?_
 refine Tr.v2 rfl (run_eqlNil un_23) rfl rfl ?_
 refine Tr.nil (Tr.normThen ?_)
 cases Ap0_0 with
 | none =>
  have hl0 := slf_none hp0_0.form
  replace H : (some ([] : List TPlotTool)) = some r := by simpa [apd, hl0] using H
  refine Tr.condT rfl rfl ?_
  refine Tr.sr ?_
  refine Tr.asg rfl rfl ?_
  refine Tr.nilOwn 2 58 fl_TPlotTool ?_
  show Tr _ _ (uf _ 2 (.slice none (([] : List TPlotTool)).length 0)) _ _
  refine Tr.nil (Tr.normThen ?_)
  refine Tr.ret (Tr.retThen ?_)
  obtain rfl := Option.some.inj H
  exact Tr.out (m := [(.slice none (([] : List TPlotTool)).length 0)]) [] (res_tmp rfl res_nil) (fun W hW => ⟨w, (none, 0), leB, rfl, slf_nil, hW.pick (ks := [2]) (by decide) (pk_cons rfl pk_nil)⟩)
 | some a102 =>
  refine Tr.condF rfl rfl ?_
  refine Tr.skip (Tr.normThen ?_)
  refine Tr.sr ?_
  refine Tr.buildSlice 3 (e := 58) (vs := []) (cs := []) (wn rfl) rfl evs_nil (by kernel_rfl) fun b100 => ?_
  refine Tr.mv rfl rfl ?_
  refine Tr.own 3 fl_TPlotTool ([] : List TPlotTool) (css := []) rfl .nil rfl (by decide) (lit_max rfl) ?_
  obtain ⟨l101, hl101, H⟩ := bnd H
  refine Tr.appendS 3 (t := fl_TPlotTool) (l := ([] : List TPlotTool)) (l2 := p0) (wn rfl) rfl rfl rfl rfl (apO hp0_0) un_23 sz_58 zl_58 (by decide) by_58 rfl hl101 fun Al101 cl101 hAl101 => ?_
  refine Tr.asg rfl rfl ?_
  refine Tr.nil (Tr.normThen ?_)
  refine Tr.ret ?_
  obtain rfl := Option.some.inj H
  exact Tr.out (m := [(.slice Al101 (l101).length cl101)]) [] (res_tmp rfl res_nil) (fun W hW => ⟨w, (Al101, cl101), leB, rfl, hAl101, hW.pick (ks := [3]) (by decide) (pk_cons rfl pk_nil)⟩)

theorem F_slices_Clone_PlotStep_ok {w : Bs} (p0 : (List TPlotStep)) (Ap0_0 : Option Addr) (cp0_0 : Nat) (hp0_0 : Sl w.O w.W fl_TPlotStep Ap0_0 cp0_0 p0) (r : (List TPlotStep)) (H : F_slices_Clone_PlotStep p0 = some r) (hE : HF w w.W (LEn [emp])) : Calls Tryz.prog 100 [(.slice Ap0_0 (p0).length cp0_0)].toArray w.W fun e W' => ∃ (w' : Bs) (u : (Option Addr × Nat)), w.Le w' ∧ e = .returned (.slice u.1 (r).length u.2) ∧ (SlF u.1 (r).length u.2) ∧ HF w' W' (LEn [ow u.1 u.2 53 fl_TPlotStep r]) := by
 unfold F_slices_Clone_PlotStep at H
 have leB := Bs.Le.refl w
 refine Tr.enter (n := 8) Tryz.func100 rfl rfl rfl hE ?_
 refine Tr.sr ?_
 refine Tr.asg rfl rfl ?_
 refine Tr.nilOwn 1 53 fl_TPlotStep ?_
 show Tr _ _ (uf _ 2 (.slice none (([] : List TPlotStep)).length 0)) _ _
 refine Tr.nil (Tr.normThen ?_)
 refine Tr.seq ?_
 refine Tr.sr ?_
 refine Tr.mv rfl rfl ?_
 refine Tr.v2 rfl (run_eqlNil un_24) rfl rfl ?_
 refine Tr.nil (Tr.normThen ?_)
 cases Ap0_0 with
 | none =>
  have hl0 := slf_none hp0_0.form
  replace H : (some ([] : List TPlotStep)) = some r := by simpa [apd, hl0] using H
  refine Tr.condT rfl rfl ?_
  refine Tr.sr ?_
  refine Tr.asg rfl rfl ?_
  refine Tr.nilOwn 2 53 fl_TPlotStep ?_
  show Tr _ _ (uf _ 2 (.slice none (([] : List TPlotStep)).length 0)) _ _
  refine Tr.nil (Tr.normThen ?_)
  refine Tr.ret (Tr.retThen ?_)
  obtain rfl := Option.some.inj H
  exact Tr.out (m := [(.slice none (([] : List TPlotStep)).length 0)]) [] (res_tmp rfl res_nil) (fun W hW => ⟨w, (none, 0), leB, rfl, slf_nil, hW.pick (ks := [2]) (by decide) (pk_cons rfl pk_nil)⟩)
 | some a102 =>
  refine Tr.condF rfl rfl ?_
  refine Tr.skip (Tr.normThen ?_)
  refine Tr.sr ?_
  refine Tr.buildSlice 3 (e := 53) (vs := []) (cs := []) (wn rfl) rfl evs_nil (by kernel_rfl) fun b100 => ?_
  refine Tr.mv rfl rfl ?_
  refine Tr.own 3 fl_TPlotStep ([] : List TPlotStep) (css := []) rfl .nil rfl (by decide) (lit_max rfl) ?_
  obtain ⟨l101, hl101, H⟩ := bnd H
  refine Tr.appendS 3 (t := fl_TPlotStep) (l := ([] : List TPlotStep)) (l2 := p0) (wn rfl) rfl rfl rfl rfl (apO hp0_0) un_24 sz_53 zl_53 (by decide) by_53 rfl hl101 fun Al101 cl101 hAl101 => ?_
  refine Tr.asg rfl rfl ?_
  refine Tr.nil (Tr.normThen ?_)
  refine Tr.ret ?_
  obtain rfl := Option.some.inj H
  exact Tr.out (m := [(.slice Al101 (l101).length cl101)]) [] (res_tmp rfl res_nil) (fun W hW => ⟨w, (Al101, cl101), leB, rfl, hAl101, hW.pick (ks := [3]) (by decide) (pk_cons rfl pk_nil)⟩)

theorem F_slices_Clone_Point_ok {w : Bs} (p0 : (List TPoint)) (Ap0_0 : Option Addr) (cp0_0 : Nat) (hp0_0 : Sl w.R w.W fl_TPoint Ap0_0 cp0_0 p0) (r : (List TPoint)) (H : F_slices_Clone_Point p0 = some r) (hE : HF w w.W (LEn [emp])) : Calls Tryz.prog 101 [(.slice Ap0_0 (p0).length cp0_0)].toArray w.W fun e W' => ∃ u : (Option Addr × Nat), e = .returned (.slice u.1 (r).length u.2) ∧ (SlF u.1 (r).length u.2) ∧ HF w W' (LEn [ow u.1 u.2 47 fl_TPoint r]) := by
 unfold F_slices_Clone_Point at H
 have leB := Bs.Le.refl w
 refine Tr.enter (n := 8) Tryz.func101 rfl rfl rfl hE ?_
 refine Tr.sr ?_
 refine Tr.asg rfl rfl ?_
 refine Tr.nilOwn 1 47 fl_TPoint ?_
 show Tr _ _ (uf _ 2 (.slice none (([] : List TPoint)).length 0)) _ _
 refine Tr.nil (Tr.normThen ?_)
 refine Tr.seq ?_
 refine Tr.sr ?_
 refine Tr.mv rfl rfl ?_
 refine Tr.v2 rfl (run_eqlNil un_43) rfl rfl ?_
 refine Tr.nil (Tr.normThen ?_)
 cases Ap0_0 with
 | none =>
  have hl0 := slf_none hp0_0.form
  replace H : (some ([] : List TPoint)) = some r := by simpa [apd, hl0] using H
  refine Tr.condT rfl rfl ?_
  refine Tr.sr ?_
  refine Tr.asg rfl rfl ?_
  refine Tr.nilOwn 2 47 fl_TPoint ?_
  show Tr _ _ (uf _ 2 (.slice none (([] : List TPoint)).length 0)) _ _
  refine Tr.nil (Tr.normThen ?_)
  refine Tr.ret (Tr.retThen ?_)
  obtain rfl := Option.some.inj H
  exact Tr.out (m := [(.slice none (([] : List TPoint)).length 0)]) [] (res_tmp rfl res_nil) (fun W hW => ⟨(none, 0), rfl, slf_nil, HF.lowE leB (hW.pick (ks := [2]) (by decide) (pk_cons rfl pk_nil)) ⟨ow_any _ _ _ _ tr_TPoint, trivial⟩⟩)
 | some a102 =>
  refine Tr.condF rfl rfl ?_
  refine Tr.skip (Tr.normThen ?_)
  refine Tr.sr ?_
  refine Tr.buildSlice 3 (e := 47) (vs := []) (cs := []) (wn rfl) rfl evs_nil (by kernel_rfl) fun b100 => ?_
  refine Tr.mv rfl rfl ?_
  refine Tr.own 3 fl_TPoint ([] : List TPoint) (css := []) rfl .nil rfl (by decide) (lit_max rfl) ?_
  obtain ⟨l101, hl101, H⟩ := bnd H
  refine Tr.appendS 3 (t := fl_TPoint) (l := ([] : List TPoint)) (l2 := p0) (wn rfl) rfl rfl rfl rfl (apT tr_TPoint (fun W hW => (Sl.inB hp0_0 hW))) un_43 sz_47 zl_47 (by decide) by_47 rfl hl101 fun Al101 cl101 hAl101 => ?_
  refine Tr.asg rfl rfl ?_
  refine Tr.nil (Tr.normThen ?_)
  refine Tr.ret ?_
  obtain rfl := Option.some.inj H
  exact Tr.out (m := [(.slice Al101 (l101).length cl101)]) [] (res_tmp rfl res_nil) (fun W hW => ⟨(Al101, cl101), rfl, hAl101, HF.lowE leB (hW.pick (ks := [3]) (by decide) (pk_cons rfl pk_nil)) ⟨ow_any _ _ _ _ tr_TPoint, trivial⟩⟩)

theorem F_slices_Index_int_ok {w : Bs} (p0 : (List Int)) (Ap0_0 : Option Addr) (cp0_0 : Nat) (hp0_0 : Sl w.R w.W fl_i64 Ap0_0 cp0_0 p0) (p1 : Int) (r : Int) (H : F_slices_Index_int p0 p1 = some r) (hE : HF w w.W E0) : Calls Tryz.prog 193 [(.slice Ap0_0 (p0).length cp0_0), (iv p1)].toArray w.W fun e W' => e = .returned (iv r) ∧ HF w W' E0 := by
 unfold F_slices_Index_int at H
 have leB := Bs.Le.refl w
 refine Tr.enter (n := 19) Tryz.func193 rfl rfl rfl hE ?_
 refine Tr.sr ?_
 refine Tr.asg rfl rfl ?_
 refine Tr.nil (Tr.normThen ?_)
 refine Tr.seq ?_
 refine Tr.sr ?_
 refine Tr.mv rfl rfl ?_
 refine Tr.v1 rfl (run_len un_96) rfl ?_
 refine Tr.mv rfl rfl ?_
 refine Tr.nil (Tr.normThen ?_)
 refine Tr.block ?_
 refine Tr.loop (σ := (List Int) × Nat) (fun m w s => m = s.1.length + 1 ∧ s.1 = List.drop s.2 p0 ∧ s.2 ≤ p0.length ∧ F_slices_Index_int_L1 p1 s.1 s.2 = some r) (fun s => [(0, (.slice Ap0_0 (p0).length cp0_0)), (1, (iv p1)), (7, (iv (p0.length : Int))), (8, (iv (s.2 : Int)))]) (fun s => []) (p0.length + 1) (p0, 0) ⟨rfl, rfl, Nat.zero_le _, H⟩ (.r rfl) .nil (fun _ _ h => absurd h.1 (by simp)) ?_
 intro w leL1 m s hs
 obtain ⟨restL1, iL1⟩ := s
 obtain ⟨hmL1, hdL1, hiL1, H⟩ := hs
 replace hdL1 : restL1 = List.drop iL1 p0 := hdL1
 replace H : F_slices_Index_int_L1 p1 restL1 iL1 = some r := H
 replace hmL1 : m + 1 = restL1.length + 1 := hmL1
 replace hp0_0 := hp0_0.leR leL1
 replace leB := leB.trans leL1
 obtain rfl : m = restL1.length := by omega
 clear hmL1
 show Tr _ _ (LF [(0, (.slice Ap0_0 (p0).length cp0_0)), (1, (iv p1)), (7, (iv (p0.length : Int))), (8, (iv (iL1 : Int)))]) (LE []) _
 cases restL1 with
 | nil =>
  rw [F_slices_Index_int_L1.eq_1] at H
  refine Tr.sr ?_
  refine Tr.v2 rfl run_lss rfl rfl ?_
  refine Tr.nil (Tr.normThen ?_)
  refine Tr.seq ?_
  refine Tr.condF rfl (range_nil hdL1) ?_
  refine Tr.exit (Tr.exitThen (Tr.exitThen (Tr.exitBlock (Tr.normThen ?_))))
  refine Tr.sr ?_
  refine Tr.asg rfl rfl ?_
  refine Tr.nil (Tr.normThen ?_)
  refine Tr.ret ?_
  obtain rfl := Option.some.inj H
  exact Tr.out (m := [(iv (-1))]) [] (res_tmp rfl res_nil) (fun W hW => ⟨rfl, hW.low leB⟩)
 | cons xL1 restL1 =>
  rw [F_slices_Index_int_L1.eq_2] at H
  refine Tr.sr ?_
  refine Tr.v2 rfl run_lss rfl rfl ?_
  refine Tr.nil (Tr.normThen ?_)
  refine Tr.seq ?_
  refine Tr.condT rfl (range_on hdL1) ?_
  refine Tr.skip (Tr.normThen ?_)
  refine Tr.seq ?_
  refine Tr.block ?_
  refine Tr.sr ?_
  refine Tr.mv rfl rfl ?_
  refine Tr.asg rfl rfl ?_
  refine Tr.nil (Tr.normThen ?_)
  refine Tr.sr ?_
  refine Tr.mv rfl rfl ?_
  refine Tr.mv rfl rfl ?_
  refine Tr.mv rfl rfl ?_
  refine Tr.va rfl (fun _ _ h1 h2 => run_indexAddr el_96 (h1.ev rfl) hp0_0.form (h1.ev rfl) (Int.natCast_nonneg _) (range_lt hdL1)) ?_
  refine Tr.va rfl (fun _ _ h1 h2 => run_load1 ag_3 (h1.ev rfl) (rdF ef_i64 hp0_0 (range_at hdL1) h2) rfl) ?_
  refine Tr.v2 rfl run_eql rfl rfl ?_
  refine Tr.nil (Tr.normThen ?_)
  refine Tr.cond rfl H (fun H => ?_) (fun H => ?_)
  ·refine Tr.sr ?_
   refine Tr.mv rfl rfl ?_
   refine Tr.asg rfl rfl ?_
   refine Tr.nil (Tr.normThen ?_)
   refine Tr.ret (Tr.retBlock (Tr.retThen (Tr.retThen (Tr.retBlock (Tr.retThen ?_)))))
   obtain rfl := Option.some.inj H
   exact Tr.out (m := [(iv (iL1 : Int))]) [] (res_tmp rfl res_nil) (fun W hW => ⟨rfl, hW.low leB⟩)
  ·refine Tr.skip (Tr.normBlock (Tr.normThen ?_))
   refine Tr.region ?_
   refine Tr.v2 rfl run_add rfl rfl ?_
   refine Tr.mv rfl rfl ?_
   refine Tr.nil ?_
   exact Tr.backThen leL1 (restL1, (iL1 + 1)) ⟨rfl, range_tl hdL1, range_lt hdL1, H⟩ (.cons rfl (.cons rfl (.cons rfl (.cons (congrArg (fun z => some (Value.int .i64 z)) (range_up hdL1 hp0_0.form)) .nil)))) .nil

theorem F_slices_Contains_int_ok {w : Bs} (p0 : (List Int)) (Ap0_0 : Option Addr) (cp0_0 : Nat) (hp0_0 : Sl w.R w.W fl_i64 Ap0_0 cp0_0 p0) (p1 : Int) (r : Bool) (H : F_slices_Contains_int p0 p1 = some r) (hE : HF w w.W E0) : Calls Tryz.prog 140 [(.slice Ap0_0 (p0).length cp0_0), (iv p1)].toArray w.W fun e W' => e = .returned (.bool r) ∧ HF w W' E0 := by
 unfold F_slices_Contains_int at H
 have leB := Bs.Le.refl w
 refine Tr.enter (n := 9) Tryz.func140 rfl rfl rfl hE ?_
 refine Tr.sr ?_
 refine Tr.asg rfl rfl ?_
 refine Tr.nil (Tr.normThen ?_)
 refine Tr.sr ?_
 refine Tr.mv rfl rfl ?_
 refine Tr.mv rfl rfl ?_
 obtain ⟨y100, hy100, H⟩ := bnd H
 refine Tr.call0 (r := (iv y100)) (wn rfl) rfl Tryz.call193 (evl_cons rfl (evl_cons rfl evl_nil)) (fun W hW => F_slices_Index_int_ok p0 Ap0_0 cp0_0 (hp0_0.ext hW.extAll) p1 y100 hy100 (HF.start _)) ?_
 refine Tr.v2 rfl run_geq rfl rfl ?_
 refine Tr.asg rfl rfl ?_
 refine Tr.nil (Tr.normThen ?_)
 refine Tr.ret ?_
 obtain rfl := Option.some.inj H
 exact Tr.out (m := [(.bool (decide (0 ≤ y100)))]) [] (res_tmp rfl res_nil) (fun W hW => ⟨rfl, hW.low leB⟩)

theorem F_plot_next_ok {w : Bs} (p0 : (List TPlotStep)) (Ap0_0 : Option Addr) (cp0_0 : Nat) (hp0_0 : Sl w.R w.W fl_TPlotStep Ap0_0 cp0_0 p0) (p1 : (List Int)) (Ap1_0 : Option Addr) (cp1_0 : Nat) (hp1_0 : Sl w.R w.W fl_i64 Ap1_0 cp1_0 p1) (r : Int) (H : F_plot_next p0 p1 = some r) (hE : HF w w.W E0) : Calls Tryz.prog 102 [(.slice Ap0_0 (p0).length cp0_0), (.slice Ap1_0 (p1).length cp1_0)].toArray w.W fun e W' => e = .returned (iv r) ∧ HF w W' E0 := by
 unfold F_plot_next at H
 have leB := Bs.Le.refl w
 refine Tr.enter (n := 20) Tryz.func102 rfl rfl rfl hE ?_
 refine Tr.sr ?_
 refine Tr.asg rfl rfl ?_
 refine Tr.nil (Tr.normThen ?_)
 refine Tr.seq ?_
 refine Tr.sr ?_
 refine Tr.mv rfl rfl ?_
 refine Tr.v1 rfl (run_len un_24) rfl ?_
 refine Tr.mv rfl rfl ?_
 refine Tr.nil (Tr.normThen ?_)
 refine Tr.block ?_
 refine Tr.loop (σ := (List TPlotStep) × Nat) (fun m w s => m = s.1.length + 1 ∧ s.1 = List.drop s.2 p0 ∧ s.2 ≤ p0.length ∧ F_plot_next_L1 p1 s.1 s.2 = some r) (fun s => [(1, (.slice Ap1_0 (p1).length cp1_0)), (7, (.slice Ap0_0 (p0).length cp0_0)), (8, (iv (p0.length : Int))), (9, (iv (s.2 : Int)))]) (fun s => []) (p0.length + 1) (p0, 0) ⟨rfl, rfl, Nat.zero_le _, H⟩ (.r rfl) .nil (fun _ _ h => absurd h.1 (by simp)) ?_
 intro w leL1 m s hs
 obtain ⟨restL1, iL1⟩ := s
 obtain ⟨hmL1, hdL1, hiL1, H⟩ := hs
 replace hdL1 : restL1 = List.drop iL1 p0 := hdL1
 replace H : F_plot_next_L1 p1 restL1 iL1 = some r := H
 replace hmL1 : m + 1 = restL1.length + 1 := hmL1
 replace hp1_0 := hp1_0.leR leL1
 replace hp0_0 := hp0_0.leR leL1
 replace leB := leB.trans leL1
 obtain rfl : m = restL1.length := by omega
 clear hmL1
 show Tr _ _ (LF [(1, (.slice Ap1_0 (p1).length cp1_0)), (7, (.slice Ap0_0 (p0).length cp0_0)), (8, (iv (p0.length : Int))), (9, (iv (iL1 : Int)))]) (LE []) _
 cases restL1 with
 | nil =>
  rw [F_plot_next_L1.eq_1] at H
  refine Tr.sr ?_
  refine Tr.v2 rfl run_lss rfl rfl ?_
  refine Tr.nil (Tr.normThen ?_)
  refine Tr.seq ?_
  refine Tr.condF rfl (range_nil hdL1) ?_
  refine Tr.exit (Tr.exitThen (Tr.exitThen (Tr.exitBlock (Tr.normThen ?_))))
  refine Tr.sr ?_
  refine Tr.asg rfl rfl ?_
  refine Tr.nil (Tr.normThen ?_)
  refine Tr.ret ?_
  obtain rfl := Option.some.inj H
  exact Tr.out (m := [(iv 0)]) [] (res_tmp rfl res_nil) (fun W hW => ⟨rfl, hW.low leB⟩)
 | cons xL1 restL1 =>
  rw [F_plot_next_L1.eq_2] at H
  refine Tr.sr ?_
  refine Tr.v2 rfl run_lss rfl rfl ?_
  refine Tr.nil (Tr.normThen ?_)
  refine Tr.seq ?_
  refine Tr.condT rfl (range_on hdL1) ?_
  refine Tr.skip (Tr.normThen ?_)
  refine Tr.seq ?_
  refine Tr.block ?_
  refine Tr.sr ?_
  obtain ⟨u105, hRu105, hoku105, hcu105⟩ := (hp0_0).el (range_at hdL1)
  obtain ⟨⟨Au105_0, cu105_0⟩, ⟨Au105_1, cu105_1⟩⟩ := u105
  obtain ⟨hoku105_0, hoku105_1⟩ := TPlotStep_ok.1 hoku105
  replace hoku105_0 : Sl w.R w.W fl_TPoint Au105_0 cu105_0 xL1.Points := hoku105_0
  replace hoku105_1 : Sl w.R w.W fl_TPlotStep Au105_1 cu105_1 xL1.Steps := hoku105_1
  refine Tr.va rfl (fun _ _ h1 h2 => run_indexAddr el_24 (h1.ev rfl) hp0_0.form (h1.ev rfl) (Int.natCast_nonneg _) (range_lt hdL1)) ?_
  refine Tr.va rfl (fun _ _ h1 h2 => run_loadN (cs := [(iv xL1.Kind), (sv xL1.Name), (iv xL1.At.X), (iv xL1.At.Y), (.slice Au105_0 (xL1.Points).length cu105_0), (iv xL1.NX), (iv xL1.NY), (.slice Au105_1 (xL1.Steps).length cu105_1)]) ag_53 sz_53 (h1.ev rfl) (CellsAt.take (rdR hRu105 hcu105 h2) 8) rfl) ?_
  refine Tr.alloc 2 (wn rfl) rfl ze_53 fun b106 => ?_
  refine Tr.store 2 (cs := [(iv xL1.Kind), (sv xL1.Name), (iv xL1.At.X), (iv xL1.At.Y), (.slice Au105_0 (xL1.Points).length cu105_0), (iv xL1.NX), (iv xL1.NY), (.slice Au105_1 (xL1.Steps).length cu105_1)]) [(iv xL1.Kind), (sv xL1.Name), (iv xL1.At.X), (iv xL1.At.Y), (.slice Au105_0 (xL1.Points).length cu105_0), (iv xL1.NX), (iv xL1.NY), (.slice Au105_1 (xL1.Steps).length cu105_1)] (wn rfl) rfl rfl rfl rfl sz_53 rfl rfl rfl ?_
  refine Tr.nil (Tr.normThen ?_)
  refine Tr.sr ?_
  refine Tr.mv rfl rfl ?_
  refine Tr.v1 rfl (run_fieldAddr fo_53_0) rfl ?_
  refine Tr.va rfl (fun _ _ h1 h2 => run_load1 ag_3 (h1.ev rfl) (rdb h2 (vs := [(iv xL1.Kind), (sv xL1.Name), (iv xL1.At.X), (iv xL1.At.Y), (.slice Au105_0 (xL1.Points).length cu105_0), (iv xL1.NX), (iv xL1.NY), (.slice Au105_1 (xL1.Steps).length cu105_1)]) (k := 2) rfl 0) rfl) ?_
  obtain ⟨y107, hy107, H⟩ := bnd H
  refine Tr.call0 (r := (.bool y107)) (wn rfl) rfl Tryz.call140 (evl_cons rfl (evl_cons rfl evl_nil)) (fun W hW => F_slices_Contains_int_ok p1 Ap1_0 cp1_0 (hp1_0.ext hW.extAll) xL1.Kind y107 hy107 (HF.start _)) ?_
  refine Tr.nil (Tr.normThen ?_)
  refine Tr.cond rfl H (fun H => ?_) (fun H => ?_)
  ·refine Tr.sr ?_
   refine Tr.v1 rfl (run_fieldAddr fo_53_0) rfl ?_
   refine Tr.va rfl (fun _ _ h1 h2 => run_load1 ag_3 (h1.ev rfl) (rdb h2 (vs := [(iv xL1.Kind), (sv xL1.Name), (iv xL1.At.X), (iv xL1.At.Y), (.slice Au105_0 (xL1.Points).length cu105_0), (iv xL1.NX), (iv xL1.NY), (.slice Au105_1 (xL1.Steps).length cu105_1)]) (k := 2) rfl 0) rfl) ?_
   refine Tr.asg rfl rfl ?_
   refine Tr.nil (Tr.normThen ?_)
   refine Tr.ret (Tr.retBlock (Tr.retThen (Tr.retThen (Tr.retBlock (Tr.retThen ?_)))))
   obtain rfl := Option.some.inj H
   exact Tr.out (m := [(iv xL1.Kind)]) [] (res_tmp rfl res_nil) (fun W hW => ⟨rfl, hW.low leB⟩)
  ·refine Tr.skip (Tr.normBlock (Tr.normThen ?_))
   refine Tr.region ?_
   refine Tr.v2 rfl run_add rfl rfl ?_
   refine Tr.mv rfl rfl ?_
   refine Tr.nil ?_
   exact Tr.backThen leL1 (restL1, (iL1 + 1)) ⟨rfl, range_tl hdL1, range_lt hdL1, H⟩ (.cons rfl (.cons rfl (.cons rfl (.cons (congrArg (fun z => some (Value.int .i64 z)) (range_up hdL1 hp0_0.form)) .nil)))) .nil

theorem F_plot_draws_ok {w : Bs} (p0 : Int) (r : Bool) (H : F_plot_draws p0 = some r) (hE : HF w w.W E0) : Calls Tryz.prog 103 [(iv p0)].toArray w.W fun e W' => e = .returned (.bool r) ∧ HF w W' E0 := by
 unfold F_plot_draws at H
 have leB := Bs.Le.refl w
 refine Tr.enter (n := 17) Tryz.func103 rfl rfl rfl hE ?_
 refine Tr.sr ?_
 refine Tr.asg rfl rfl ?_
 refine Tr.nil (Tr.normThen ?_)
 refine Tr.sr ?_
 refine Tr.mv rfl rfl ?_
 refine Tr.v2 rfl run_eql rfl rfl ?_
 refine Tr.mv rfl rfl ?_
 refine Tr.mid0 3 [(0, (iv p0)), (8, (.bool ((p0 == 5) || (p0 == 6))))] [] ?_ ?_
 ·cases hg99 : (p0 == 5)
  ·refine Tr.w1 (wg rfl rfl rfl) rfl run_move rfl ?_
   refine Tr.w2 (wg rfl rfl rfl) rfl run_eql rfl rfl ?_
   refine Tr.v2 rfl run_pickF rfl rfl ?_
   exact Tr.nil (Tr.fin0 (.r rfl) .nil)
  ·refine Tr.ps ?_
   refine Tr.ps ?_
   refine Tr.v2 rfl run_pickT rfl rfl ?_
   exact Tr.nil (Tr.fin0 (.r rfl) .nil)
 ·show Tr _ _ (LF [(0, (iv p0)), (8, (.bool ((p0 == 5) || (p0 == 6))))]) (LE []) _
  refine Tr.mv rfl rfl ?_
  refine Tr.mid0 3 [(0, (iv p0)), (12, (.bool (((p0 == 5) || (p0 == 6)) || (p0 == 7))))] [] ?_ ?_
  ·cases hg99 : ((p0 == 5) || (p0 == 6))
   ·refine Tr.w1 (wg rfl rfl rfl) rfl run_move rfl ?_
    refine Tr.w2 (wg rfl rfl rfl) rfl run_eql rfl rfl ?_
    refine Tr.v2 rfl run_pickF rfl rfl ?_
    exact Tr.nil (Tr.fin0 (.r rfl) .nil)
   ·refine Tr.ps ?_
    refine Tr.ps ?_
    refine Tr.v2 rfl run_pickT rfl rfl ?_
    exact Tr.nil (Tr.fin0 (.r rfl) .nil)
  ·show Tr _ _ (LF [(0, (iv p0)), (12, (.bool (((p0 == 5) || (p0 == 6)) || (p0 == 7))))]) (LE []) _
   refine Tr.mv rfl rfl ?_
   refine Tr.mid0 3 [(16, (.bool ((((p0 == 5) || (p0 == 6)) || (p0 == 7)) || (p0 == 8))))] [] ?_ ?_
   ·cases hg99 : (((p0 == 5) || (p0 == 6)) || (p0 == 7))
    ·refine Tr.w1 (wg rfl rfl rfl) rfl run_move rfl ?_
     refine Tr.w2 (wg rfl rfl rfl) rfl run_eql rfl rfl ?_
     refine Tr.v2 rfl run_pickF rfl rfl ?_
     exact Tr.nil (Tr.fin0 (.r rfl) .nil)
    ·refine Tr.ps ?_
     refine Tr.ps ?_
     refine Tr.v2 rfl run_pickT rfl rfl ?_
     exact Tr.nil (Tr.fin0 (.r rfl) .nil)
   ·show Tr _ _ (LF [(16, (.bool ((((p0 == 5) || (p0 == 6)) || (p0 == 7)) || (p0 == 8))))]) (LE []) _
    refine Tr.asg rfl rfl ?_
    refine Tr.nil (Tr.normThen ?_)
    refine Tr.ret ?_
    obtain rfl := Option.some.inj H
    exact Tr.out (m := [(.bool ((((p0 == 5) || (p0 == 6)) || (p0 == 7)) || (p0 == 8)))]) [] (res_tmp rfl res_nil) (fun W hW => ⟨rfl, hW.low leB⟩)

theorem F_plot_needless_ok {w : Bs} (p0 : TPlotStep) (Ap0_0 : Option Addr) (cp0_0 : Nat) (hp0_0 : Sl w.R w.W fl_TPoint Ap0_0 cp0_0 p0.Points) (Ap0_1 : Option Addr) (cp0_1 : Nat) (hp0_1 : Sl w.R w.W fl_TPlotStep Ap0_1 cp0_1 p0.Steps) (p1 : TKnown) (Ap1_0 : Option Addr) (cp1_0 : Nat) (hp1_0 : Sl w.R w.W fl_TPoint Ap1_0 cp1_0 p1.last.Points) (Ap1_1 : Option Addr) (cp1_1 : Nat) (hp1_1 : Sl w.R w.W fl_TPlotStep Ap1_1 cp1_1 p1.last.Steps) (p2 : (List TPlotStep)) (Ap2_0 : Option Addr) (cp2_0 : Nat) (hp2_0 : Sl w.R w.W fl_TPlotStep Ap2_0 cp2_0 p2) (r : Bool) (H : F_plot_needless p0 p1 p2 = some r) (hE : HF w w.W E0) : Calls Tryz.prog 56 [(.agg #[(iv p0.Kind), (sv p0.Name), (iv p0.At.X), (iv p0.At.Y), (.slice Ap0_0 (p0.Points).length cp0_0), (iv p0.NX), (iv p0.NY), (.slice Ap0_1 (p0.Steps).length cp0_1)]), (.agg #[(iv p1.dark), (sv p1.tool), (iv p1.place.X), (iv p1.place.Y), (.bool p1.placed), (iv p1.last.Kind), (sv p1.last.Name), (iv p1.last.At.X), (iv p1.last.At.Y), (.slice Ap1_0 (p1.last.Points).length cp1_0), (iv p1.last.NX), (iv p1.last.NY), (.slice Ap1_1 (p1.last.Steps).length cp1_1)]), (.slice Ap2_0 (p2).length cp2_0)].toArray w.W fun e W' => e = .returned (.bool r) ∧ HF w W' E0 := by
 unfold F_plot_needless at H
 have leB := Bs.Le.refl w
 refine Tr.enter (n := 105) Tryz.func56 rfl rfl rfl hE ?_
 refine Tr.sr ?_
 refine Tr.box 1 (cs := [(iv p0.Kind), (sv p0.Name), (iv p0.At.X), (iv p0.At.Y), (.slice Ap0_0 (p0.Points).length cp0_0), (iv p0.NX), (iv p0.NY), (.slice Ap0_1 (p0.Steps).length cp0_1)]) (wn rfl) rfl rfl rfl fun b100 => ?_
 refine Tr.box 2 (cs := [(iv p1.dark), (sv p1.tool), (iv p1.place.X), (iv p1.place.Y), (.bool p1.placed), (iv p1.last.Kind), (sv p1.last.Name), (iv p1.last.At.X), (iv p1.last.At.Y), (.slice Ap1_0 (p1.last.Points).length cp1_0), (iv p1.last.NX), (iv p1.last.NY), (.slice Ap1_1 (p1.last.Steps).length cp1_1)]) (wn rfl) rfl rfl rfl fun b101 => ?_
 refine Tr.asg rfl rfl ?_
 refine Tr.nil (Tr.normThen ?_)
 refine Tr.seq ?_
 refine Tr.sr ?_
 refine Tr.v1 rfl (run_fieldAddr fo_53_0) rfl ?_
 refine Tr.va rfl (fun _ _ h1 h2 => run_load1 ag_3 (h1.ev rfl) (rdb h2 (vs := [(iv p0.Kind), (sv p0.Name), (iv p0.At.X), (iv p0.At.Y), (.slice Ap0_0 (p0.Points).length cp0_0), (iv p0.NX), (iv p0.NY), (.slice Ap0_1 (p0.Steps).length cp0_1)]) (k := 1) rfl 0) rfl) ?_
 refine Tr.nil (Tr.normThen ?_)
 refine Tr.block ?_
 have leJ103 := Bs.Le.refl w
 refine Tr.cutJ (σ := Bool) (fun w s => F_plot_needless_J1 p0 p1 p2 s = some r) (fun s => [(2, (.slice Ap2_0 (p2).length cp2_0)), (3, (.pointer (some ⟨b100, 0, none⟩))), (4, (.pointer (some ⟨b101, 0, none⟩))), (11, (iv p0.Kind)), (12, (.bool s))]) (fun s => [(1, bx b100 #[(iv p0.Kind), (sv p0.Name), (iv p0.At.X), (iv p0.At.Y), (.slice Ap0_0 (p0.Points).length cp0_0), (iv p0.NX), (iv p0.NY), (.slice Ap0_1 (p0.Steps).length cp0_1)] 53), (2, bx b101 #[(iv p1.dark), (sv p1.tool), (iv p1.place.X), (iv p1.place.Y), (.bool p1.placed), (iv p1.last.Kind), (sv p1.last.Name), (iv p1.last.At.X), (iv p1.last.At.Y), (.slice Ap1_0 (p1.last.Points).length cp1_0), (iv p1.last.NX), (iv p1.last.NY), (.slice Ap1_1 (p1.last.Steps).length cp1_1)] 109)]) ?_ ?_
 ·refine Tr.sr ?_
  refine Tr.v2 rfl run_eql rfl rfl ?_
  refine Tr.asg rfl rfl ?_
  refine Tr.nil (Tr.normThen ?_)
  refine Tr.cond rfl H (fun H => ?_) (fun H => ?_)
  ·refine Tr.skip ?_
   exact Tr.backThen leJ103 (p0.Kind == 1) H (.r rfl) (.r rfl)
  ·refine Tr.region ?_
   refine Tr.v2 rfl run_eql rfl rfl ?_
   refine Tr.asg rfl rfl ?_
   refine Tr.nil ?_
   exact Tr.backThen leJ103 (p0.Kind == 2) H (.r rfl) (.r rfl)
 ·intro w x102 hlJ104 hs
  have H := hs
  replace H : F_plot_needless_J1 p0 p1 p2 x102 = some r := H
  replace hp2_0 := hp2_0.leR hlJ104
  replace hp0_0 := hp0_0.leR hlJ104
  replace hp0_1 := hp0_1.leR hlJ104
  replace hp1_0 := hp1_0.leR hlJ104
  replace hp1_1 := hp1_1.leR hlJ104
  replace leB := leB.trans hlJ104
  unfold F_plot_needless_J1 at H
  show Tr _ _ (LF [(2, (.slice Ap2_0 (p2).length cp2_0)), (3, (.pointer (some ⟨b100, 0, none⟩))), (4, (.pointer (some ⟨b101, 0, none⟩))), (11, (iv p0.Kind)), (12, (.bool x102))]) (LE [(1, bx b100 #[(iv p0.Kind), (sv p0.Name), (iv p0.At.X), (iv p0.At.Y), (.slice Ap0_0 (p0.Points).length cp0_0), (iv p0.NX), (iv p0.NY), (.slice Ap0_1 (p0.Steps).length cp0_1)] 53), (2, bx b101 #[(iv p1.dark), (sv p1.tool), (iv p1.place.X), (iv p1.place.Y), (.bool p1.placed), (iv p1.last.Kind), (sv p1.last.Name), (iv p1.last.At.X), (iv p1.last.At.Y), (.slice Ap1_0 (p1.last.Points).length cp1_0), (iv p1.last.NX), (iv p1.last.NY), (.slice Ap1_1 (p1.last.Steps).length cp1_1)] 109)]) _
  refine Tr.cond rfl H (fun H => ?_) (fun H => ?_)
  ·refine Tr.sr ?_
   refine Tr.mv rfl rfl ?_
   refine Tr.buildSlice 3 (e := 3) (vs := [(0, (iv 1)), (1, (iv 2)), (2, (iv 5)), (3, (iv 6)), (4, (iv 7)), (5, (iv 8))]) (cs := [(iv 1), (iv 2), (iv 5), (iv 6), (iv 7), (iv 8)]) (wn rfl) rfl (evs_cons rfl (evs_cons rfl (evs_cons rfl (evs_cons rfl (evs_cons rfl (evs_cons rfl evs_nil)))))) (by kernel_rfl) fun b105 => ?_
   refine Tr.own 3 fl_i64 [1, 2, 5, 6, 7, 8] (css := [[(iv 1)], [(iv 2)], [(iv 5)], [(iv 6)], [(iv 7)], [(iv 8)]]) rfl (.cons ⟨(), trivial, rfl⟩ (.cons ⟨(), trivial, rfl⟩ (.cons ⟨(), trivial, rfl⟩ (.cons ⟨(), trivial, rfl⟩ (.cons ⟨(), trivial, rfl⟩ (.cons ⟨(), trivial, rfl⟩ .nil)))))) rfl (by decide) (lit_max rfl) ?_
   obtain ⟨y106, hy106, H⟩ := bnd H
   refine Tr.call0 (r := (iv y106)) (wn rfl) rfl Tryz.call102 (evl_cons rfl (evl_cons rfl evl_nil)) (fun W hW => F_plot_next_ok p2 Ap2_0 cp2_0 (hp2_0.ext hW.extAll) [1, 2, 5, 6, 7, 8] (some ⟨b105, 0, none⟩) 6 (hW.slCall (k := 3) rfl) y106 hy106 (HF.start _)) ?_
   refine Tr.asg rfl rfl ?_
   refine Tr.nil (Tr.normThen ?_)
   refine Tr.sr ?_
   refine Tr.v1 rfl (run_fieldAddr fo_53_0) rfl ?_
   refine Tr.va rfl (fun _ _ h1 h2 => run_load1 ag_3 (h1.ev rfl) (rdb h2 (vs := [(iv p0.Kind), (sv p0.Name), (iv p0.At.X), (iv p0.At.Y), (.slice Ap0_0 (p0.Points).length cp0_0), (iv p0.NX), (iv p0.NY), (.slice Ap0_1 (p0.Steps).length cp0_1)]) (k := 1) rfl 0) rfl) ?_
   refine Tr.v1 rfl (run_fieldAddr fo_109_0) rfl ?_
   refine Tr.va rfl (fun _ _ h1 h2 => run_load1 ag_3 (h1.ev rfl) (rdb h2 (vs := [(iv p1.dark), (sv p1.tool), (iv p1.place.X), (iv p1.place.Y), (.bool p1.placed), (iv p1.last.Kind), (sv p1.last.Name), (iv p1.last.At.X), (iv p1.last.At.Y), (.slice Ap1_0 (p1.last.Points).length cp1_0), (iv p1.last.NX), (iv p1.last.NY), (.slice Ap1_1 (p1.last.Steps).length cp1_1)]) (k := 2) rfl 0) rfl) ?_
   refine Tr.v2 rfl run_eql rfl rfl ?_
   refine Tr.mv rfl rfl ?_
   obtain ⟨g108, hg108, H⟩ := bnd H
   refine Tr.mid0 4 [(27, (.bool g108))] [(1, bx b100 #[(iv p0.Kind), (sv p0.Name), (iv p0.At.X), (iv p0.At.Y), (.slice Ap0_0 (p0.Points).length cp0_0), (iv p0.NX), (iv p0.NY), (.slice Ap0_1 (p0.Steps).length cp0_1)] 53), (2, bx b101 #[(iv p1.dark), (sv p1.tool), (iv p1.place.X), (iv p1.place.Y), (.bool p1.placed), (iv p1.last.Kind), (sv p1.last.Name), (iv p1.last.At.X), (iv p1.last.At.Y), (.slice Ap1_0 (p1.last.Points).length cp1_0), (iv p1.last.NX), (iv p1.last.NY), (.slice Ap1_1 (p1.last.Steps).length cp1_1)] 109), (3, ow (some ⟨b105, 0, none⟩) 6 3 fl_i64 [1, 2, 5, 6, 7, 8])] ?_ ?_
   ·cases hg109 : (p0.Kind == p1.dark)
    ·rw [hg109] at hg108
     rw [if_neg (by decide)] at hg108
     have H := hg108
     refine Tr.w1 (wg rfl rfl rfl) rfl run_move rfl ?_
     obtain ⟨y109, hy109, H⟩ := bnd H
     refine Tr.call0 (r := (.bool y109)) (wg rfl rfl rfl) rfl Tryz.call103 (evl_cons rfl evl_nil) (fun W hW => F_plot_draws_ok y106 y109 hy109 (HF.start _)) ?_
     refine Tr.w1 (wg rfl rfl rfl) rfl run_not rfl ?_
     refine Tr.v2 rfl run_pickF rfl rfl ?_
     obtain rfl := Option.some.inj H
     exact Tr.nil (Tr.fin0 (.r rfl) (.r rfl))
    ·rw [hg109] at hg108
     rw [if_pos rfl] at hg108
     have H := hg108
     obtain rfl := Option.some.inj H
     refine Tr.ps ?_
     refine Tr.ps ?_
     refine Tr.ps ?_
     refine Tr.v2 rfl run_pickT rfl rfl ?_
     exact Tr.nil (Tr.fin0 (.r rfl) (.r rfl))
   ·show Tr _ _ (LF [(27, (.bool g108))]) (LE [(1, bx b100 #[(iv p0.Kind), (sv p0.Name), (iv p0.At.X), (iv p0.At.Y), (.slice Ap0_0 (p0.Points).length cp0_0), (iv p0.NX), (iv p0.NY), (.slice Ap0_1 (p0.Steps).length cp0_1)] 53), (2, bx b101 #[(iv p1.dark), (sv p1.tool), (iv p1.place.X), (iv p1.place.Y), (.bool p1.placed), (iv p1.last.Kind), (sv p1.last.Name), (iv p1.last.At.X), (iv p1.last.At.Y), (.slice Ap1_0 (p1.last.Points).length cp1_0), (iv p1.last.NX), (iv p1.last.NY), (.slice Ap1_1 (p1.last.Steps).length cp1_1)] 109), (3, ow (some ⟨b105, 0, none⟩) 6 3 fl_i64 [1, 2, 5, 6, 7, 8])]) _
    refine Tr.asg rfl rfl ?_
    refine Tr.nil (Tr.normThen ?_)
    refine Tr.ret (Tr.retBlock (Tr.retThen ?_))
    obtain rfl := Option.some.inj H
    exact Tr.out (m := [(.bool g108)]) [] (res_tmp rfl res_nil) (fun W hW => ⟨rfl, hW.low leB⟩)
  ·refine Tr.sr ?_
   refine Tr.v2 rfl run_eql rfl rfl ?_
   refine Tr.asg rfl rfl ?_
   refine Tr.nil (Tr.normThen ?_)
   refine Tr.cond rfl H (fun H => ?_) (fun H => ?_)
   ·refine Tr.seq ?_
    cases H
   ·refine Tr.sr ?_
    refine Tr.v2 rfl run_eql rfl rfl ?_
    refine Tr.asg rfl rfl ?_
    refine Tr.nil (Tr.normThen ?_)
    refine Tr.cond rfl H (fun H => ?_) (fun H => ?_)
    ·refine Tr.seq ?_
     cases H
    ·refine Tr.sr ?_
     refine Tr.v2 rfl run_eql rfl rfl ?_
     refine Tr.asg rfl rfl ?_
     refine Tr.nil (Tr.normThen ?_)
     refine Tr.cond rfl H (fun H => ?_) (fun H => ?_)
     ·refine Tr.seq ?_
      cases H
     ·refine Tr.skip (Tr.normBlock (Tr.normThen ?_))
      refine Tr.sr ?_
      refine Tr.asg rfl rfl ?_
      refine Tr.nil (Tr.normThen ?_)
      refine Tr.ret ?_
      obtain rfl := Option.some.inj H
      exact Tr.out (m := [(.bool false)]) [] (res_tmp rfl res_nil) (fun W hW => ⟨rfl, hW.low leB⟩)

theorem F_plot_known__behind_ok {w : Bs} (p0 : TKnown) (Ap0_0 : Option Addr) (cp0_0 : Nat) (hp0_0 : Sl w.O w.W fl_TPoint Ap0_0 cp0_0 p0.last.Points) (Ap0_1 : Option Addr) (cp0_1 : Nat) (hp0_1 : Sl w.O w.W fl_TPlotStep Ap0_1 cp0_1 p0.last.Steps) (p1 : TPlotStep) (Ap1_0 : Option Addr) (cp1_0 : Nat) (hp1_0 : Sl w.R w.W fl_TPoint Ap1_0 cp1_0 p1.Points) (Ap1_1 : Option Addr) (cp1_1 : Nat) (hp1_1 : Sl w.R w.W fl_TPlotStep Ap1_1 cp1_1 p1.Steps) (r : TKnown) (H : F_plot_known__behind p0 p1 = some r) (hE : HF w w.W (LEn [])) : Calls Tryz.prog 57 [(.agg #[(iv p0.dark), (sv p0.tool), (iv p0.place.X), (iv p0.place.Y), (.bool p0.placed), (iv p0.last.Kind), (sv p0.last.Name), (iv p0.last.At.X), (iv p0.last.At.Y), (.slice Ap0_0 (p0.last.Points).length cp0_0), (iv p0.last.NX), (iv p0.last.NY), (.slice Ap0_1 (p0.last.Steps).length cp0_1)]), (.agg #[(iv p1.Kind), (sv p1.Name), (iv p1.At.X), (iv p1.At.Y), (.slice Ap1_0 (p1.Points).length cp1_0), (iv p1.NX), (iv p1.NY), (.slice Ap1_1 (p1.Steps).length cp1_1)])].toArray w.W fun e W' => ∃ (w' : Bs) (u : (Option Addr × Nat) × (Option Addr × Nat)), w.Le w' ∧ e = .returned (.agg #[(iv r.dark), (sv r.tool), (iv r.place.X), (iv r.place.Y), (.bool r.placed), (iv r.last.Kind), (sv r.last.Name), (iv r.last.At.X), (iv r.last.At.Y), (.slice u.1.1 (r.last.Points).length u.1.2), (iv r.last.NX), (iv r.last.NY), (.slice u.2.1 (r.last.Steps).length u.2.2)]) ∧ (Sl w'.O w'.W fl_TPoint u.1.1 u.1.2 r.last.Points ∧ Sl w'.O w'.W fl_TPlotStep u.2.1 u.2.2 r.last.Steps) ∧ HF w' W' (LEn []) := by
 unfold F_plot_known__behind at H
 have leB := Bs.Le.refl w
 refine Tr.enter (n := 49) Tryz.func57 rfl rfl rfl hE ?_
 refine Tr.sr ?_
 refine Tr.box 1 (cs := [(iv p0.dark), (sv p0.tool), (iv p0.place.X), (iv p0.place.Y), (.bool p0.placed), (iv p0.last.Kind), (sv p0.last.Name), (iv p0.last.At.X), (iv p0.last.At.Y), (.slice Ap0_0 (p0.last.Points).length cp0_0), (iv p0.last.NX), (iv p0.last.NY), (.slice Ap0_1 (p0.last.Steps).length cp0_1)]) (wn rfl) rfl rfl rfl fun b100 => ?_
 refine Tr.box 2 (cs := [(iv p1.Kind), (sv p1.Name), (iv p1.At.X), (iv p1.At.Y), (.slice Ap1_0 (p1.Points).length cp1_0), (iv p1.NX), (iv p1.NY), (.slice Ap1_1 (p1.Steps).length cp1_1)]) (wn rfl) rfl rfl rfl fun b101 => ?_
 refine Tr.alloc 3 (wn rfl) rfl ze_109 fun b102 => ?_
 refine Tr.nil (Tr.normThen ?_)
 have leJ118 := Bs.Le.refl w
 refine Tr.cutJ (σ := Int × Int × ByteArray × Int × Int × (List TPoint) × Int × Int × (List TPlotStep) × (Option Addr) × Nat × (Option Addr) × Nat) (fun w s => F_plot_known__behind_J3 p0 s.1 s.2.1 s.2.2.1 s.2.2.2.1 s.2.2.2.2.1 s.2.2.2.2.2.1 s.2.2.2.2.2.2.1 s.2.2.2.2.2.2.2.1 s.2.2.2.2.2.2.2.2.1 = some r ∧ Sl w.O w.W fl_TPoint s.2.2.2.2.2.2.2.2.2.1 s.2.2.2.2.2.2.2.2.2.2.1 s.2.2.2.2.2.1 ∧ Sl w.O w.W fl_TPlotStep s.2.2.2.2.2.2.2.2.2.2.2.1 s.2.2.2.2.2.2.2.2.2.2.2.2 s.2.2.2.2.2.2.2.2.1) (fun s => [(2, (.pointer (some ⟨b100, 0, none⟩))), (4, (.pointer (some ⟨b102, 0, none⟩)))]) (fun s => [(1, bx b100 #[(iv s.1), (sv p0.tool), (iv p0.place.X), (iv p0.place.Y), (.bool p0.placed), (iv s.2.1), (sv s.2.2.1), (iv s.2.2.2.1), (iv s.2.2.2.2.1), (.slice s.2.2.2.2.2.2.2.2.2.1 (s.2.2.2.2.2.1).length s.2.2.2.2.2.2.2.2.2.2.1), (iv s.2.2.2.2.2.2.1), (iv s.2.2.2.2.2.2.2.1), (.slice s.2.2.2.2.2.2.2.2.2.2.2.1 (s.2.2.2.2.2.2.2.2.1).length s.2.2.2.2.2.2.2.2.2.2.2.2)] 109), (3, bx b102 #[(iv 0), (sv ⟨#[]⟩), (iv 0), (iv 0), (.bool false), (iv 0), (sv ⟨#[]⟩), (iv 0), (iv 0), (.slice none 0 0), (iv 0), (iv 0), (.slice none 0 0)] 109)]) ?_ ?_
 ·refine Tr.sr ?_
  refine Tr.v1 rfl (run_fieldAddr fo_53_0) rfl ?_
  refine Tr.va rfl (fun _ _ h1 h2 => run_load1 ag_3 (h1.ev rfl) (rdb h2 (vs := [(iv p1.Kind), (sv p1.Name), (iv p1.At.X), (iv p1.At.Y), (.slice Ap1_0 (p1.Points).length cp1_0), (iv p1.NX), (iv p1.NY), (.slice Ap1_1 (p1.Steps).length cp1_1)]) (k := 2) rfl 0) rfl) ?_
  refine Tr.nil (Tr.normThen ?_)
  refine Tr.block ?_
  have leJ121 := Bs.Le.refl w
  refine Tr.cutJ (σ := Bool) (fun w s => F_plot_known__behind_J5 p0 p1 s = some r) (fun s => [(2, (.pointer (some ⟨b100, 0, none⟩))), (3, (.pointer (some ⟨b101, 0, none⟩))), (4, (.pointer (some ⟨b102, 0, none⟩))), (6, (iv p1.Kind)), (7, (.bool s))]) (fun s => [(1, bx b100 #[(iv p0.dark), (sv p0.tool), (iv p0.place.X), (iv p0.place.Y), (.bool p0.placed), (iv p0.last.Kind), (sv p0.last.Name), (iv p0.last.At.X), (iv p0.last.At.Y), (.slice Ap0_0 (p0.last.Points).length cp0_0), (iv p0.last.NX), (iv p0.last.NY), (.slice Ap0_1 (p0.last.Steps).length cp0_1)] 109), (2, bx b101 #[(iv p1.Kind), (sv p1.Name), (iv p1.At.X), (iv p1.At.Y), (.slice Ap1_0 (p1.Points).length cp1_0), (iv p1.NX), (iv p1.NY), (.slice Ap1_1 (p1.Steps).length cp1_1)] 53), (3, bx b102 #[(iv 0), (sv ⟨#[]⟩), (iv 0), (iv 0), (.bool false), (iv 0), (sv ⟨#[]⟩), (iv 0), (iv 0), (.slice none 0 0), (iv 0), (iv 0), (.slice none 0 0)] 109)]) ?_ ?_
  ·refine Tr.sr ?_
   refine Tr.v2 rfl run_eql rfl rfl ?_
   refine Tr.asg rfl rfl ?_
   refine Tr.nil (Tr.normThen ?_)
   refine Tr.cond rfl H (fun H => ?_) (fun H => ?_)
   ·refine Tr.skip ?_
    exact Tr.backThen leJ121 (p1.Kind == 1) H (.r rfl) (.r rfl)
   ·refine Tr.region ?_
    refine Tr.v2 rfl run_eql rfl rfl ?_
    refine Tr.asg rfl rfl ?_
    refine Tr.nil ?_
    exact Tr.backThen leJ121 (p1.Kind == 2) H (.r rfl) (.r rfl)
  ·intro w x120 hlJ122 hs
   have H := hs
   replace H : F_plot_known__behind_J5 p0 p1 x120 = some r := H
   replace hp0_0 := hp0_0.le hlJ122
   replace hp0_1 := hp0_1.le hlJ122
   replace hp1_0 := hp1_0.leR hlJ122
   replace hp1_1 := hp1_1.leR hlJ122
   replace leB := leB.trans hlJ122
   replace leJ118 := leJ118.trans hlJ122
   unfold F_plot_known__behind_J5 at H
   show Tr _ _ (LF [(2, (.pointer (some ⟨b100, 0, none⟩))), (3, (.pointer (some ⟨b101, 0, none⟩))), (4, (.pointer (some ⟨b102, 0, none⟩))), (6, (iv p1.Kind)), (7, (.bool x120))]) (LE [(1, bx b100 #[(iv p0.dark), (sv p0.tool), (iv p0.place.X), (iv p0.place.Y), (.bool p0.placed), (iv p0.last.Kind), (sv p0.last.Name), (iv p0.last.At.X), (iv p0.last.At.Y), (.slice Ap0_0 (p0.last.Points).length cp0_0), (iv p0.last.NX), (iv p0.last.NY), (.slice Ap0_1 (p0.last.Steps).length cp0_1)] 109), (2, bx b101 #[(iv p1.Kind), (sv p1.Name), (iv p1.At.X), (iv p1.At.Y), (.slice Ap1_0 (p1.Points).length cp1_0), (iv p1.NX), (iv p1.NY), (.slice Ap1_1 (p1.Steps).length cp1_1)] 53), (3, bx b102 #[(iv 0), (sv ⟨#[]⟩), (iv 0), (iv 0), (.bool false), (iv 0), (sv ⟨#[]⟩), (iv 0), (iv 0), (.slice none 0 0), (iv 0), (iv 0), (.slice none 0 0)] 109)]) _
   refine Tr.cond rfl H (fun H => ?_) (fun H => ?_)
   ·refine Tr.region ?_
    refine Tr.v1 rfl (run_fieldAddr fo_53_0) rfl ?_
    refine Tr.va rfl (fun _ _ h1 h2 => run_load1 ag_3 (h1.ev rfl) (rdb h2 (vs := [(iv p1.Kind), (sv p1.Name), (iv p1.At.X), (iv p1.At.Y), (.slice Ap1_0 (p1.Points).length cp1_0), (iv p1.NX), (iv p1.NY), (.slice Ap1_1 (p1.Steps).length cp1_1)]) (k := 2) rfl 0) rfl) ?_
    refine Tr.v1 rfl (run_fieldAddr fo_109_0) rfl ?_
    refine Tr.store 1 (cs := [(iv p1.Kind)]) [(iv p1.Kind), (sv p0.tool), (iv p0.place.X), (iv p0.place.Y), (.bool p0.placed), (iv p0.last.Kind), (sv p0.last.Name), (iv p0.last.At.X), (iv p0.last.At.Y), (.slice Ap0_0 (p0.last.Points).length cp0_0), (iv p0.last.NX), (iv p0.last.NY), (.slice Ap0_1 (p0.last.Steps).length cp0_1)] (wn rfl) rfl rfl rfl rfl sz_3 rfl rfl rfl ?_
    refine Tr.nil (Tr.normBlock ?_)
    exact Tr.backThen leJ118 (p1.Kind, p0.last.Kind, p0.last.Name, p0.last.At.X, p0.last.At.Y, p0.last.Points, p0.last.NX, p0.last.NY, p0.last.Steps, Ap0_0, cp0_0, Ap0_1, cp0_1) ⟨H, hp0_0, hp0_1⟩ (.r rfl) (.r rfl)
   ·refine Tr.sr ?_
    refine Tr.v2 rfl run_eql rfl rfl ?_
    refine Tr.asg rfl rfl ?_
    refine Tr.nil (Tr.normThen ?_)
    refine Tr.cond rfl H (fun H => ?_) (fun H => ?_)
    ·cases H
    ·refine Tr.sr ?_
     refine Tr.v2 rfl run_eql rfl rfl ?_
     refine Tr.asg rfl rfl ?_
     refine Tr.nil (Tr.normThen ?_)
     refine Tr.cond rfl H (fun H => ?_) (fun H => ?_)
     ·cases H
     ·have leJ124 := Bs.Le.refl w
      refine Tr.cutJ (σ := Bool) (fun w s => F_plot_known__behind_J4 p0 p1 s = some r) (fun s => [(2, (.pointer (some ⟨b100, 0, none⟩))), (3, (.pointer (some ⟨b101, 0, none⟩))), (4, (.pointer (some ⟨b102, 0, none⟩))), (6, (iv p1.Kind)), (24, (.bool s))]) (fun s => [(1, bx b100 #[(iv p0.dark), (sv p0.tool), (iv p0.place.X), (iv p0.place.Y), (.bool p0.placed), (iv p0.last.Kind), (sv p0.last.Name), (iv p0.last.At.X), (iv p0.last.At.Y), (.slice Ap0_0 (p0.last.Points).length cp0_0), (iv p0.last.NX), (iv p0.last.NY), (.slice Ap0_1 (p0.last.Steps).length cp0_1)] 109), (2, bx b101 #[(iv p1.Kind), (sv p1.Name), (iv p1.At.X), (iv p1.At.Y), (.slice Ap1_0 (p1.Points).length cp1_0), (iv p1.NX), (iv p1.NY), (.slice Ap1_1 (p1.Steps).length cp1_1)] 53), (3, bx b102 #[(iv 0), (sv ⟨#[]⟩), (iv 0), (iv 0), (.bool false), (iv 0), (sv ⟨#[]⟩), (iv 0), (iv 0), (.slice none 0 0), (iv 0), (iv 0), (.slice none 0 0)] 109)]) ?_ ?_
      ·refine Tr.sr ?_
       refine Tr.v2 rfl run_eql rfl rfl ?_
       refine Tr.asg rfl rfl ?_
       refine Tr.nil (Tr.normThen ?_)
       refine Tr.cond rfl H (fun H => ?_) (fun H => ?_)
       ·refine Tr.skip ?_
        exact Tr.backThen leJ124 (p1.Kind == 5) H (.r rfl) (.r rfl)
       ·refine Tr.region ?_
        refine Tr.v2 rfl run_eql rfl rfl ?_
        refine Tr.asg rfl rfl ?_
        refine Tr.nil ?_
        exact Tr.backThen leJ124 (p1.Kind == 6) H (.r rfl) (.r rfl)
      ·intro w x123 hlJ125 hs
       have H := hs
       replace H : F_plot_known__behind_J4 p0 p1 x123 = some r := H
       replace hp0_0 := hp0_0.le hlJ125
       replace hp0_1 := hp0_1.le hlJ125
       replace hp1_0 := hp1_0.leR hlJ125
       replace hp1_1 := hp1_1.leR hlJ125
       replace leB := leB.trans hlJ125
       replace leJ118 := leJ118.trans hlJ125
       unfold F_plot_known__behind_J4 at H
       show Tr _ _ (LF [(2, (.pointer (some ⟨b100, 0, none⟩))), (3, (.pointer (some ⟨b101, 0, none⟩))), (4, (.pointer (some ⟨b102, 0, none⟩))), (6, (iv p1.Kind)), (24, (.bool x123))]) (LE [(1, bx b100 #[(iv p0.dark), (sv p0.tool), (iv p0.place.X), (iv p0.place.Y), (.bool p0.placed), (iv p0.last.Kind), (sv p0.last.Name), (iv p0.last.At.X), (iv p0.last.At.Y), (.slice Ap0_0 (p0.last.Points).length cp0_0), (iv p0.last.NX), (iv p0.last.NY), (.slice Ap0_1 (p0.last.Steps).length cp0_1)] 109), (2, bx b101 #[(iv p1.Kind), (sv p1.Name), (iv p1.At.X), (iv p1.At.Y), (.slice Ap1_0 (p1.Points).length cp1_0), (iv p1.NX), (iv p1.NY), (.slice Ap1_1 (p1.Steps).length cp1_1)] 53), (3, bx b102 #[(iv 0), (sv ⟨#[]⟩), (iv 0), (iv 0), (.bool false), (iv 0), (sv ⟨#[]⟩), (iv 0), (iv 0), (.slice none 0 0), (iv 0), (iv 0), (.slice none 0 0)] 109)]) _
       refine Tr.cond rfl H (fun H => ?_) (fun H => ?_)
       ·refine Tr.seq ?_
        cases H
       ·refine Tr.sr ?_
        refine Tr.v2 rfl run_eql rfl rfl ?_
        refine Tr.asg rfl rfl ?_
        refine Tr.nil (Tr.normThen ?_)
        refine Tr.cond rfl H (fun H => ?_) (fun H => ?_)
        ·refine Tr.region ?_
         refine Tr.build (vs := []) (cs := [(iv 0), (sv ⟨#[]⟩), (iv 0), (iv 0), (.slice none 0 0), (iv 0), (iv 0), (.slice none 0 0)]) (wn rfl) rfl evs_nil (by kernel_rfl) ?_
         refine Tr.v1 rfl (run_fieldAddr fo_109_4) rfl ?_
         refine Tr.store 1 (cs := [(iv 0), (sv ⟨#[]⟩), (iv 0), (iv 0), (.slice none 0 0), (iv 0), (iv 0), (.slice none 0 0)]) [(iv p0.dark), (sv p0.tool), (iv p0.place.X), (iv p0.place.Y), (.bool p0.placed), (iv 0), (sv ⟨#[]⟩), (iv 0), (iv 0), (.slice none 0 0), (iv 0), (iv 0), (.slice none 0 0)] (wn rfl) rfl rfl rfl rfl sz_53 rfl rfl rfl ?_
         refine Tr.nil (Tr.normBlock ?_)
         exact Tr.backThen leJ118 (p0.dark, 0, ⟨#[]⟩, 0, 0, [], 0, 0, [], none, 0, none, 0) ⟨H, (Sl.nil _ _ _), (Sl.nil _ _ _)⟩ (.r rfl) (.r rfl)
        ·refine Tr.sr ?_
         refine Tr.v2 rfl run_eql rfl rfl ?_
         refine Tr.asg rfl rfl ?_
         refine Tr.nil (Tr.normThen ?_)
         refine Tr.cond rfl H (fun H => ?_) (fun H => ?_)
         ·cases H
         ·refine Tr.skip (Tr.normBlock ?_)
          exact Tr.backThen leJ118 (p0.dark, p0.last.Kind, p0.last.Name, p0.last.At.X, p0.last.At.Y, p0.last.Points, p0.last.NX, p0.last.NY, p0.last.Steps, Ap0_0, cp0_0, Ap0_1, cp0_1) ⟨H, hp0_0, hp0_1⟩ (.r rfl) (.r rfl)
 ·intro w s hlJ119 hs
  obtain ⟨x109, x110, x111, x112, x113, l114, x115, x116, l117, Al114, cl114, Al117, cl117⟩ := s
  obtain ⟨H, hl114, hl117⟩ := hs
  replace H : F_plot_known__behind_J3 p0 x109 x110 x111 x112 x113 l114 x115 x116 l117 = some r := H
  replace leB := leB.trans hlJ119
  replace hl114 : Sl w.O w.W fl_TPoint Al114 cl114 l114 := hl114
  replace hl117 : Sl w.O w.W fl_TPlotStep Al117 cl117 l117 := hl117
  unfold F_plot_known__behind_J3 at H
  show Tr _ _ (LF [(2, (.pointer (some ⟨b100, 0, none⟩))), (4, (.pointer (some ⟨b102, 0, none⟩)))]) (LE [(1, bx b100 #[(iv x109), (sv p0.tool), (iv p0.place.X), (iv p0.place.Y), (.bool p0.placed), (iv x110), (sv x111), (iv x112), (iv x113), (.slice Al114 (l114).length cl114), (iv x115), (iv x116), (.slice Al117 (l117).length cl117)] 109), (3, bx b102 #[(iv 0), (sv ⟨#[]⟩), (iv 0), (iv 0), (.bool false), (iv 0), (sv ⟨#[]⟩), (iv 0), (iv 0), (.slice none 0 0), (iv 0), (iv 0), (.slice none 0 0)] 109)]) _
  refine Tr.sr ?_
  refine Tr.va rfl (fun _ _ h1 h2 => run_loadN (cs := [(iv x109), (sv p0.tool), (iv p0.place.X), (iv p0.place.Y), (.bool p0.placed), (iv x110), (sv x111), (iv x112), (iv x113), (.slice Al114 (l114).length cl114), (iv x115), (iv x116), (.slice Al117 (l117).length cl117)]) ag_109 sz_109 (h1.ev rfl) (CellsAt.take (rdb h2 (vs := [(iv x109), (sv p0.tool), (iv p0.place.X), (iv p0.place.Y), (.bool p0.placed), (iv x110), (sv x111), (iv x112), (iv x113), (.slice Al114 (l114).length cl114), (iv x115), (iv x116), (.slice Al117 (l117).length cl117)]) (k := 1) rfl 0) 13) rfl) ?_
  refine Tr.store 3 (cs := [(iv x109), (sv p0.tool), (iv p0.place.X), (iv p0.place.Y), (.bool p0.placed), (iv x110), (sv x111), (iv x112), (iv x113), (.slice Al114 (l114).length cl114), (iv x115), (iv x116), (.slice Al117 (l117).length cl117)]) [(iv x109), (sv p0.tool), (iv p0.place.X), (iv p0.place.Y), (.bool p0.placed), (iv x110), (sv x111), (iv x112), (iv x113), (.slice Al114 (l114).length cl114), (iv x115), (iv x116), (.slice Al117 (l117).length cl117)] (wn rfl) rfl rfl rfl rfl sz_109 rfl rfl rfl ?_
  refine Tr.nil (Tr.normThen ?_)
  refine Tr.ret ?_
  obtain rfl := Option.some.inj H
  exact Tr.out (m := [(.agg #[(iv x109), (sv p0.tool), (iv p0.place.X), (iv p0.place.Y), (.bool p0.placed), (iv x110), (sv x111), (iv x112), (iv x113), (.slice Al114 (l114).length cl114), (iv x115), (iv x116), (.slice Al117 (l117).length cl117)])]) [3] (res_cell rfl rfl ag_109 sz_109 res_nil) (fun W hW => ⟨w, ((Al114, cl114), (Al117, cl117)), leB, rfl, ⟨hl114, hl117⟩, hW.pick (ks := []) (by decide) pk_nil⟩)

theorem F_plot_without_ok {w : Bs} (p0 : (List TPlotStep)) (Ap0_0 : Option Addr) (cp0_0 : Nat) (hp0_0 : Sl w.R w.W fl_TPlotStep Ap0_0 cp0_0 p0) (r : Int) (H : F_plot_without p0 = some r) (hE : HF w w.W E0) : Calls Tryz.prog 29 [(.slice Ap0_0 (p0).length cp0_0)].toArray w.W fun e W' => e = .returned (iv r) ∧ HF w W' E0 := by
 unfold F_plot_without at H
 have leB := Bs.Le.refl w
 refine Tr.enter (n := 26) Tryz.func29 rfl rfl rfl hE ?_
 refine Tr.sr ?_
 refine Tr.asg rfl rfl ?_
 refine Tr.nil (Tr.normThen ?_)
 refine Tr.sr ?_
 refine Tr.build (vs := [(0, (iv 1))]) (cs := [(iv 1), (sv ⟨#[]⟩), (iv 0), (iv 0), (.bool false), (iv 0), (sv ⟨#[]⟩), (iv 0), (iv 0), (.slice none 0 0), (iv 0), (iv 0), (.slice none 0 0)]) (wn rfl) rfl (evs_cons rfl evs_nil) (by kernel_rfl) ?_
 refine Tr.alloc 1 (wn rfl) rfl ze_109 fun b100 => ?_
 refine Tr.store 1 (cs := [(iv 1), (sv ⟨#[]⟩), (iv 0), (iv 0), (.bool false), (iv 0), (sv ⟨#[]⟩), (iv 0), (iv 0), (.slice none 0 0), (iv 0), (iv 0), (.slice none 0 0)]) [(iv 1), (sv ⟨#[]⟩), (iv 0), (iv 0), (.bool false), (iv 0), (sv ⟨#[]⟩), (iv 0), (iv 0), (.slice none 0 0), (iv 0), (iv 0), (.slice none 0 0)] (wn rfl) rfl rfl rfl rfl sz_109 rfl rfl rfl ?_
 refine Tr.nil (Tr.normThen ?_)
 refine Tr.seq ?_
 refine Tr.sr ?_
 refine Tr.mv rfl rfl ?_
 refine Tr.v1 rfl (run_len un_24) rfl ?_
 refine Tr.mv rfl rfl ?_
 refine Tr.nil (Tr.normThen ?_)
 refine Tr.block ?_
 refine Tr.loop (σ := (List TPlotStep) × Nat × Int × ByteArray × Int × Int × Bool × Int × ByteArray × Int × Int × (List TPoint) × Int × Int × (List TPlotStep) × (Option Addr) × Nat × (Option Addr) × Nat) (fun m w s => m = s.1.length + 1 ∧ s.1 = List.drop s.2.1 p0 ∧ s.2.1 ≤ p0.length ∧ F_plot_without_L1 p0 s.1 s.2.1 s.2.2.1 s.2.2.2.1 s.2.2.2.2.1 s.2.2.2.2.2.1 s.2.2.2.2.2.2.1 s.2.2.2.2.2.2.2.1 s.2.2.2.2.2.2.2.2.1 s.2.2.2.2.2.2.2.2.2.1 s.2.2.2.2.2.2.2.2.2.2.1 s.2.2.2.2.2.2.2.2.2.2.2.1 s.2.2.2.2.2.2.2.2.2.2.2.2.1 s.2.2.2.2.2.2.2.2.2.2.2.2.2.1 s.2.2.2.2.2.2.2.2.2.2.2.2.2.2.1 = some r ∧ Sl w.O w.W fl_TPoint s.2.2.2.2.2.2.2.2.2.2.2.2.2.2.2.1 s.2.2.2.2.2.2.2.2.2.2.2.2.2.2.2.2.1 s.2.2.2.2.2.2.2.2.2.2.2.1 ∧ Sl w.O w.W fl_TPlotStep s.2.2.2.2.2.2.2.2.2.2.2.2.2.2.2.2.2.1 s.2.2.2.2.2.2.2.2.2.2.2.2.2.2.2.2.2.2 s.2.2.2.2.2.2.2.2.2.2.2.2.2.2.1) (fun s => [(0, (.slice Ap0_0 (p0).length cp0_0)), (3, (.pointer (some ⟨b100, 0, none⟩))), (7, (.slice Ap0_0 (p0).length cp0_0)), (8, (iv (p0.length : Int))), (9, (iv (s.2.1 : Int)))]) (fun s => [(1, bx b100 #[(iv s.2.2.1), (sv s.2.2.2.1), (iv s.2.2.2.2.1), (iv s.2.2.2.2.2.1), (.bool s.2.2.2.2.2.2.1), (iv s.2.2.2.2.2.2.2.1), (sv s.2.2.2.2.2.2.2.2.1), (iv s.2.2.2.2.2.2.2.2.2.1), (iv s.2.2.2.2.2.2.2.2.2.2.1), (.slice s.2.2.2.2.2.2.2.2.2.2.2.2.2.2.2.1 (s.2.2.2.2.2.2.2.2.2.2.2.1).length s.2.2.2.2.2.2.2.2.2.2.2.2.2.2.2.2.1), (iv s.2.2.2.2.2.2.2.2.2.2.2.2.1), (iv s.2.2.2.2.2.2.2.2.2.2.2.2.2.1), (.slice s.2.2.2.2.2.2.2.2.2.2.2.2.2.2.2.2.2.1 (s.2.2.2.2.2.2.2.2.2.2.2.2.2.2.1).length s.2.2.2.2.2.2.2.2.2.2.2.2.2.2.2.2.2.2)] 109)]) (p0.length + 1) (p0, 0, 1, ⟨#[]⟩, 0, 0, false, 0, ⟨#[]⟩, 0, 0, [], 0, 0, [], none, 0, none, 0) ⟨rfl, rfl, Nat.zero_le _, H, (Sl.nil _ _ _), (Sl.nil _ _ _)⟩ (.r rfl) (.r rfl) (fun _ _ h => absurd h.1 (by simp)) ?_
 intro w leL1 m s hs
 obtain ⟨restL1, iL1, x157, x158, x159, x160, x161, x162, x163, x164, x165, l166, x167, x168, l169, Al166, cl166, Al169, cl169⟩ := s
 obtain ⟨hmL1, hdL1, hiL1, H, hl166, hl169⟩ := hs
 replace hdL1 : restL1 = List.drop iL1 p0 := hdL1
 replace H : F_plot_without_L1 p0 restL1 iL1 x157 x158 x159 x160 x161 x162 x163 x164 x165 l166 x167 x168 l169 = some r := H
 replace hmL1 : m + 1 = restL1.length + 1 := hmL1
 replace hp0_0 := hp0_0.leR leL1
 replace leB := leB.trans leL1
 replace hl166 : Sl w.O w.W fl_TPoint Al166 cl166 l166 := hl166
 replace hl169 : Sl w.O w.W fl_TPlotStep Al169 cl169 l169 := hl169
 obtain rfl : m = restL1.length := by omega
 clear hmL1
 show Tr _ _ (LF [(0, (.slice Ap0_0 (p0).length cp0_0)), (3, (.pointer (some ⟨b100, 0, none⟩))), (7, (.slice Ap0_0 (p0).length cp0_0)), (8, (iv (p0.length : Int))), (9, (iv (iL1 : Int)))]) (LE [(1, bx b100 #[(iv x157), (sv x158), (iv x159), (iv x160), (.bool x161), (iv x162), (sv x163), (iv x164), (iv x165), (.slice Al166 (l166).length cl166), (iv x167), (iv x168), (.slice Al169 (l169).length cl169)] 109)]) _
 cases restL1 with
 | nil =>
  rw [F_plot_without_L1.eq_1] at H
  refine Tr.sr ?_
  refine Tr.v2 rfl run_lss rfl rfl ?_
  refine Tr.nil (Tr.normThen ?_)
  refine Tr.seq ?_
  refine Tr.condF rfl (range_nil hdL1) ?_
  refine Tr.exit (Tr.exitThen (Tr.exitThen (Tr.exitBlock (Tr.normThen ?_))))
  refine Tr.sr ?_
  refine Tr.asg rfl rfl ?_
  refine Tr.nil (Tr.normThen ?_)
  refine Tr.ret ?_
  obtain rfl := Option.some.inj H
  exact Tr.out (m := [(iv (-1))]) [] (res_tmp rfl res_nil) (fun W hW => ⟨rfl, hW.low leB⟩)
 | cons xL1 restL1 =>
  rw [F_plot_without_L1.eq_2] at H
  refine Tr.sr ?_
  refine Tr.v2 rfl run_lss rfl rfl ?_
  refine Tr.nil (Tr.normThen ?_)
  refine Tr.seq ?_
  refine Tr.condT rfl (range_on hdL1) ?_
  refine Tr.skip (Tr.normThen ?_)
  refine Tr.seq ?_
  refine Tr.block ?_
  refine Tr.sr ?_
  refine Tr.mv rfl rfl ?_
  obtain ⟨u170, hRu170, hoku170, hcu170⟩ := (hp0_0).el (range_at hdL1)
  obtain ⟨⟨Au170_0, cu170_0⟩, ⟨Au170_1, cu170_1⟩⟩ := u170
  obtain ⟨hoku170_0, hoku170_1⟩ := TPlotStep_ok.1 hoku170
  replace hoku170_0 : Sl w.R w.W fl_TPoint Au170_0 cu170_0 xL1.Points := hoku170_0
  replace hoku170_1 : Sl w.R w.W fl_TPlotStep Au170_1 cu170_1 xL1.Steps := hoku170_1
  refine Tr.va rfl (fun _ _ h1 h2 => run_indexAddr el_24 (h1.ev rfl) hp0_0.form (h1.ev rfl) (Int.natCast_nonneg _) (range_lt hdL1)) ?_
  refine Tr.va rfl (fun _ _ h1 h2 => run_loadN (cs := [(iv xL1.Kind), (sv xL1.Name), (iv xL1.At.X), (iv xL1.At.Y), (.slice Au170_0 (xL1.Points).length cu170_0), (iv xL1.NX), (iv xL1.NY), (.slice Au170_1 (xL1.Steps).length cu170_1)]) ag_53 sz_53 (h1.ev rfl) (CellsAt.take (rdR hRu170 hcu170 h2) 8) rfl) ?_
  refine Tr.alloc 4 (wn rfl) rfl ze_53 fun b171 => ?_
  refine Tr.asg rfl rfl ?_
  refine Tr.store 4 (cs := [(iv xL1.Kind), (sv xL1.Name), (iv xL1.At.X), (iv xL1.At.Y), (.slice Au170_0 (xL1.Points).length cu170_0), (iv xL1.NX), (iv xL1.NY), (.slice Au170_1 (xL1.Steps).length cu170_1)]) [(iv xL1.Kind), (sv xL1.Name), (iv xL1.At.X), (iv xL1.At.Y), (.slice Au170_0 (xL1.Points).length cu170_0), (iv xL1.NX), (iv xL1.NY), (.slice Au170_1 (xL1.Steps).length cu170_1)] (wn rfl) rfl rfl rfl rfl sz_53 rfl rfl rfl ?_
  refine Tr.nil (Tr.normThen ?_)
  refine Tr.seq ?_
  refine Tr.seq ?_
  refine Tr.draw (by kernel_rfl) (by kernel_rfl) ?_
  refine Tq.va rfl (fun _ _ h1 h2 => run_loadN (cs := [(iv xL1.Kind), (sv xL1.Name), (iv xL1.At.X), (iv xL1.At.Y), (.slice Au170_0 (xL1.Points).length cu170_0), (iv xL1.NX), (iv xL1.NY), (.slice Au170_1 (xL1.Steps).length cu170_1)]) ag_53 sz_53 (h1.ev rfl) (CellsAt.take (rdb h2 (vs := [(iv xL1.Kind), (sv xL1.Name), (iv xL1.At.X), (iv xL1.At.Y), (.slice Au170_0 (xL1.Points).length cu170_0), (iv xL1.NX), (iv xL1.NY), (.slice Au170_1 (xL1.Steps).length cu170_1)]) (k := 4) rfl 0) 8) rfl) ?_
  refine Tq.va rfl (fun _ _ h1 h2 => run_loadN (cs := [(iv x157), (sv x158), (iv x159), (iv x160), (.bool x161), (iv x162), (sv x163), (iv x164), (iv x165), (.slice Al166 (l166).length cl166), (iv x167), (iv x168), (.slice Al169 (l169).length cl169)]) ag_109 sz_109 (h1.ev rfl) (CellsAt.take (rdb h2 (vs := [(iv x157), (sv x158), (iv x159), (iv x160), (.bool x161), (iv x162), (sv x163), (iv x164), (iv x165), (.slice Al166 (l166).length cl166), (iv x167), (iv x168), (.slice Al169 (l169).length cl169)]) (k := 1) rfl 0) 13) rfl) ?_
  refine Tq.mv rfl rfl ?_
  refine Tq.mv rfl rfl ?_
  refine Tq.v2 rfl run_add rfl rfl ?_
  obtain ⟨l172, hl172, H⟩ := bnd H
  refine Tq.va rfl (fun _ _ h1 h2 => run_cutL el_24 (h1.ev rfl) hp0_0.form (h1.ev rfl) hl172) ?_
  obtain ⟨y173, hy173, H⟩ := bnd H
  refine Tq.call0 (r := (.bool y173)) (wn rfl) rfl Tryz.call56 (evl_cons rfl (evl_cons rfl (evl_cons rfl evl_nil))) (fun W hW => F_plot_needless_ok xL1 Au170_0 cu170_0 (hoku170_0.ext hW.extAll) Au170_1 cu170_1 (hoku170_1.ext hW.extAll) (TKnown.mk x157 x158 (TPoint.mk x159 x160) x161 (TPlotStep.mk x162 x163 (TPoint.mk x164 x165) l166 x167 x168 l169)) Al166 cl166 (hl166.rl.ext hW.extAll) Al169 cl169 (hl169.rl.ext hW.extAll) l172 (cutA Ap0_0 (w64 ((iL1 : Int) + 1)).toNat 8 cp0_0) (cp0_0 - (w64 ((iL1 : Int) + 1)).toNat) (Sl.cut (hp0_0.ext hW.extAll) hl172) y173 hy173 (HF.start _)) ?_
  refine Tq.nil (Tr.normThen ?_)
  refine Tr.cond rfl H (fun H => ?_) (fun H => ?_)
  ·refine Tr.sr ?_
   refine Tr.mv rfl rfl ?_
   refine Tr.asg rfl rfl ?_
   refine Tr.nil (Tr.normThen ?_)
   refine Tr.ret (Tr.retThen (Tr.retBlock (Tr.retThen (Tr.retThen (Tr.retBlock (Tr.retThen ?_))))))
   obtain rfl := Option.some.inj H
   exact Tr.out (m := [(iv (iL1 : Int))]) [] (res_tmp rfl res_nil) (fun W hW => ⟨rfl, hW.low leB⟩)
  ·refine Tr.skip (Tr.normThen ?_)
   refine Tr.region ?_
   refine Tr.va rfl (fun _ _ h1 h2 => run_loadN (cs := [(iv x157), (sv x158), (iv x159), (iv x160), (.bool x161), (iv x162), (sv x163), (iv x164), (iv x165), (.slice Al166 (l166).length cl166), (iv x167), (iv x168), (.slice Al169 (l169).length cl169)]) ag_109 sz_109 (h1.ev rfl) (CellsAt.take (rdb h2 (vs := [(iv x157), (sv x158), (iv x159), (iv x160), (.bool x161), (iv x162), (sv x163), (iv x164), (iv x165), (.slice Al166 (l166).length cl166), (iv x167), (iv x168), (.slice Al169 (l169).length cl169)]) (k := 1) rfl 0) 13) rfl) ?_
   refine Tr.va rfl (fun _ _ h1 h2 => run_loadN (cs := [(iv xL1.Kind), (sv xL1.Name), (iv xL1.At.X), (iv xL1.At.Y), (.slice Au170_0 (xL1.Points).length cu170_0), (iv xL1.NX), (iv xL1.NY), (.slice Au170_1 (xL1.Steps).length cu170_1)]) ag_53 sz_53 (h1.ev rfl) (CellsAt.take (rdb h2 (vs := [(iv xL1.Kind), (sv xL1.Name), (iv xL1.At.X), (iv xL1.At.Y), (.slice Au170_0 (xL1.Points).length cu170_0), (iv xL1.NX), (iv xL1.NY), (.slice Au170_1 (xL1.Steps).length cu170_1)]) (k := 4) rfl 0) 8) rfl) ?_
   obtain ⟨y174, hy174, H⟩ := bnd H
   refine Tr.callG [] [] (U := (Option Addr × Nat) × (Option Addr × Nat)) (fun u => (.agg #[(iv y174.dark), (sv y174.tool), (iv y174.place.X), (iv y174.place.Y), (.bool y174.placed), (iv y174.last.Kind), (sv y174.last.Name), (iv y174.last.At.X), (iv y174.last.At.Y), (.slice u.1.1 (y174.last.Points).length u.1.2), (iv y174.last.NX), (iv y174.last.NY), (.slice u.2.1 (y174.last.Steps).length u.2.2)])) (fun O W u => Sl O W fl_TPoint u.1.1 u.1.2 y174.last.Points ∧ Sl O W fl_TPlotStep u.2.1 u.2.2 y174.last.Steps) (fun u => []) rfl pk_nil (fun _ => rfl) (wn rfl) rfl Tryz.call57 (evl_cons rfl (evl_cons rfl evl_nil)) (fun W hW hp hE => F_plot_known__behind_ok (TKnown.mk x157 x158 (TPoint.mk x159 x160) x161 (TPlotStep.mk x162 x163 (TPoint.mk x164 x165) l166 x167 x168 l169)) Al166 cl166 (hl166.extO (hW.extS hp)) Al169 cl169 (hl169.extO (hW.extS hp)) xL1 Au170_0 cu170_0 (hoku170_0.ext (hW.extS hp)) Au170_1 cu170_1 (hoku170_1.ext (hW.extS hp)) y174 hy174 hE) ?_
   intro w u le175 hu
   obtain ⟨⟨Ay174_0, cy174_0⟩, ⟨Ay174_1, cy174_1⟩⟩ := u
   obtain ⟨gy174_0, gy174_1⟩ := hu
   replace hp0_0 := hp0_0.leR le175
   replace hl166 := hl166.le le175
   replace hl169 := hl169.le le175
   replace hcu170 := le175.ext.cells hRu170 hcu170
   replace hRu170 := le175.r _ hRu170
   replace hoku170_0 := hoku170_0.leR le175
   replace hoku170_1 := hoku170_1.leR le175
   replace leB := leB.trans le175
   replace leL1 := leL1.trans le175
   have hgy174_0 : Sl w.O w.W fl_TPoint Ay174_0 cy174_0 y174.last.Points := gy174_0 --@phi
   have hgy174_1 : Sl w.O w.W fl_TPlotStep Ay174_1 cy174_1 y174.last.Steps := gy174_1 --@phi
   show Tr _ _ (uf _ 24 (.agg #[(iv y174.dark), (sv y174.tool), (iv y174.place.X), (iv y174.place.Y), (.bool y174.placed), (iv y174.last.Kind), (sv y174.last.Name), (iv y174.last.At.X), (iv y174.last.At.Y), (.slice Ay174_0 (y174.last.Points).length cy174_0), (iv y174.last.NX), (iv y174.last.NY), (.slice Ay174_1 (y174.last.Steps).length cy174_1)])) (_) _
   refine Tr.store 1 (cs := [(iv y174.dark), (sv y174.tool), (iv y174.place.X), (iv y174.place.Y), (.bool y174.placed), (iv y174.last.Kind), (sv y174.last.Name), (iv y174.last.At.X), (iv y174.last.At.Y), (.slice Ay174_0 (y174.last.Points).length cy174_0), (iv y174.last.NX), (iv y174.last.NY), (.slice Ay174_1 (y174.last.Steps).length cy174_1)]) [(iv y174.dark), (sv y174.tool), (iv y174.place.X), (iv y174.place.Y), (.bool y174.placed), (iv y174.last.Kind), (sv y174.last.Name), (iv y174.last.At.X), (iv y174.last.At.Y), (.slice Ay174_0 (y174.last.Points).length cy174_0), (iv y174.last.NX), (iv y174.last.NY), (.slice Ay174_1 (y174.last.Steps).length cy174_1)] (wn rfl) rfl rfl rfl rfl sz_109 rfl rfl rfl ?_
   refine Tr.nil (Tr.normBlock (Tr.normThen ?_))
   refine Tr.region ?_
   refine Tr.v2 rfl run_add rfl rfl ?_
   refine Tr.mv rfl rfl ?_
   refine Tr.nil ?_
   exact Tr.backThen leL1 (restL1, (iL1 + 1), y174.dark, y174.tool, y174.place.X, y174.place.Y, y174.placed, y174.last.Kind, y174.last.Name, y174.last.At.X, y174.last.At.Y, y174.last.Points, y174.last.NX, y174.last.NY, y174.last.Steps, Ay174_0, cy174_0, Ay174_1, cy174_1) ⟨rfl, range_tl hdL1, range_lt hdL1, H, hgy174_0, hgy174_1⟩ (.cons rfl (.cons rfl (.cons rfl (.cons rfl (.cons (congrArg (fun z => some (Value.int .i64 z)) (range_up hdL1 hp0_0.form)) .nil))))) (.r rfl)

theorem F_plot_ownTools__changed_2__Short_1_ok (N : Nat) {w : Bs} (p0 : (List TPlotTool)) (Ap0_0 : Option Addr) (cp0_0 : Nat) (hp0_0 : Sl w.O w.W fl_TPlotTool Ap0_0 cp0_0 p0) (bq0 : Nat) (hb0 : w.R bq0) (hc0 : CellsAt w.W bq0 0 [(.func (.func 28) #[] #[])]) (r : (List TPlotTool)) (H : F_plot_ownTools__changed_2__Short_1 N p0 = some r) (hE : HF w w.W (LEn [emp])) : Calls Tryz.prog 52 [(.slice Ap0_0 (p0).length cp0_0), (.func (.func 53) #[] #[(.pointer (some ⟨bq0, 0, none⟩))])].toArray w.W fun e W' => ∃ (w' : Bs) (u : (Option Addr × Nat)), w.Le w' ∧ e = .returned (.slice u.1 (r).length u.2) ∧ (SlF u.1 (r).length u.2) ∧ HF w' W' (LEn [ow u.1 u.2 58 fl_TPlotTool r]) := by
 unfold F_plot_ownTools__changed_2__Short_1 at H
 have leB := Bs.Le.refl w
 refine Tr.enter (n := 50) Tryz.func52 rfl rfl rfl hE ?_
 refine Tr.sr ?_
 refine Tr.asg rfl rfl ?_
 refine Tr.nilOwn 1 58 fl_TPlotTool ?_
 show Tr _ _ (uf _ 4 (.slice none (([] : List TPlotTool)).length 0)) _ _
 refine Tr.nil (Tr.normThen ?_)
 refine Tr.sr ?_
 refine Tr.mv rfl rfl ?_
 obtain ⟨y100, hy100, H⟩ := bnd H
 refine Tr.callG [2] [emp] (U := (Option Addr × Nat)) (fun u => (.slice u.1 (y100).length u.2)) (fun O W u => SlF u.1 (y100).length u.2) (fun u => [ow u.1 u.2 58 fl_TPlotTool y100]) rfl (pk_cons rfl pk_nil) (fun _ => rfl) (wn rfl) rfl Tryz.call99 (evl_cons rfl evl_nil) (fun W hW hp hE => F_slices_Clone_PlotTool_ok p0 Ap0_0 cp0_0 (hp0_0.extO (hW.extS hp)) y100 hy100 hE) ?_
 intro w u le101 hu
 obtain ⟨Ay100_0, cy100_0⟩ := u
 have gy100_0 := hu
 replace hp0_0 := hp0_0.le le101
 replace hc0 := le101.ext.cells hb0 hc0
 replace hb0 := le101.r _ hb0
 replace leB := leB.trans le101
 have hgy100_0 : SlF Ay100_0 (y100).length cy100_0 := gy100_0 --@phi
 show Tr _ _ (uf _ 10 (.slice Ay100_0 (y100).length cy100_0)) (up _ 2 (ow Ay100_0 cy100_0 58 fl_TPlotTool y100)) _
 refine Tr.asg rfl rfl ?_
 refine Tr.nil (Tr.normThen ?_)
 refine Tr.seq ?_
 refine Tr.sr ?_
 refine Tr.mv rfl rfl ?_
 refine Tr.v1 rfl (run_len un_23) rfl ?_
 refine Tr.mv rfl rfl ?_
 refine Tr.nil (Tr.normThen ?_)
 refine Tr.block ?_
 refine Tr.loop (σ := Unit) (fun m w _ => F_plot_ownTools__changed_2__Short_1_L1 y100 m = some r) (fun _ => [(1, (.func (.func 53) #[] #[(.pointer (some ⟨bq0, 0, none⟩))])), (5, (.slice Ay100_0 (y100).length cy100_0)), (12, (iv (y100.length : Int))), (13, (iv 0))]) (fun _ => [(2, ow Ay100_0 cy100_0 58 fl_TPlotTool y100)]) N () H (.r rfl) (.r rfl) (fun _ _ h => noSome (h)) ?_
 intro w leL1 mL1 _ hs
 have H := hs
 replace H : F_plot_ownTools__changed_2__Short_1_L1 y100 (mL1 + 1) = some r := H
 replace hc0 := leL1.ext.cells hb0 hc0
 replace hb0 := leL1.r _ hb0
 replace leB := leB.trans leL1
 rw [F_plot_ownTools__changed_2__Short_1_L1.eq_2] at H
 show Tr _ _ (LF [(1, (.func (.func 53) #[] #[(.pointer (some ⟨bq0, 0, none⟩))])), (5, (.slice Ay100_0 (y100).length cy100_0)), (12, (iv (y100.length : Int))), (13, (iv 0))]) (LE [(2, ow Ay100_0 cy100_0 58 fl_TPlotTool y100)]) _
 refine Tr.sr ?_
 refine Tr.v2 rfl run_lss rfl rfl ?_
 refine Tr.nil (Tr.normThen ?_)
 refine Tr.seq ?_
 refine Tr.cond rfl H (fun H => ?_) (fun H => ?_)
 ·refine Tr.skip (Tr.normThen ?_)
  refine Tr.seq ?_
  refine Tr.block ?_
  refine Tr.seq ?_
  cases H
 ·refine Tr.exit (Tr.exitThen (Tr.exitThen (Tr.exitBlock (Tr.normThen ?_))))
  refine Tr.sr ?_
  refine Tr.mv rfl rfl ?_
  refine Tr.asg rfl rfl ?_
  refine Tr.nil (Tr.normThen ?_)
  refine Tr.ret ?_
  obtain rfl := Option.some.inj H
  exact Tr.out (m := [(.slice Ay100_0 (y100).length cy100_0)]) [] (res_tmp rfl res_nil) (fun W hW => ⟨w, (Ay100_0, cy100_0), leB, rfl, hgy100_0, hW.pick (ks := [2]) (by decide) (pk_cons rfl pk_nil)⟩)

theorem F_plot_changed_1__Short_1_ok {w : Bs} (p0 : TPoint) (bq0 : Nat) (hb0 : w.R bq0) (hc0 : CellsAt w.W bq0 0 [(.func (.func 28) #[] #[])]) (r : TPoint) (H : F_plot_changed_1__Short_1 p0 = some r) (hE : HF w w.W E0) : Calls Tryz.prog 51 [(.agg #[(iv p0.X), (iv p0.Y)]), (.pointer (some ⟨bq0, 0, none⟩))].toArray w.W fun e W' => e = .returned (.agg #[(iv r.X), (iv r.Y)]) ∧ HF w W' E0 := by
 unfold F_plot_changed_1__Short_1 at H
 have leB := Bs.Le.refl w
 refine Tr.enter (n := 13) Tryz.func51 rfl rfl rfl hE ?_
 refine Tr.sr ?_
 refine Tr.box 1 (cs := [(iv p0.X), (iv p0.Y)]) (wn rfl) rfl rfl rfl fun b100 => ?_
 refine Tr.alloc 2 (wn rfl) rfl ze_47 fun b101 => ?_
 refine Tr.nil (Tr.normThen ?_)
 refine Tr.seq ?_
 refine Tr.drawTail 7 (by kernel_rfl) (by kernel_rfl) ?_
 refine Tq.va rfl (fun _ _ h1 h2 => run_load1 ag_54 (h1.ev rfl) (rdR hb0 hc0 h2) rfl) ?_
 refine Tq.v1 rfl (run_fieldAddr fo_47_0) rfl ?_
 refine Tq.va rfl (fun _ _ h1 h2 => run_load1 ag_3 (h1.ev rfl) (rdb h2 (vs := [(iv p0.X), (iv p0.Y)]) (k := 1) rfl 0) rfl) ?_
 obtain ⟨y102, hy102, H⟩ := bnd H
 refine Tq.callF (r := (iv y102)) (wn rfl) rfl rfl Tryz.call28 (evl_cons rfl evl_nil) (fun W hW => F_plot_Short_1_ok p0.X y102 hy102 (HF.start _)) ?_
 refine Tq.va rfl (fun _ _ h1 h2 => run_load1 ag_54 (h1.ev rfl) (rdR hb0 hc0 h2) rfl) ?_
 refine Tq.v1 rfl (run_fieldAddr fo_47_1) rfl ?_
 refine Tq.va rfl (fun _ _ h1 h2 => run_load1 ag_3 (h1.ev rfl) (rdb h2 (vs := [(iv p0.X), (iv p0.Y)]) (k := 1) rfl 1) rfl) ?_
 refine Tq.nil ?_
 obtain ⟨y103, hy103, H⟩ := bnd H
 refine Tr.callF (r := (iv y103)) (wn rfl) rfl rfl Tryz.call28 (evl_cons rfl evl_nil) (fun W hW => F_plot_Short_1_ok p0.Y y103 hy103 (HF.start _)) ?_
 refine Tr.build (vs := [(0, (iv y102)), (1, (iv y103))]) (cs := [(iv y102), (iv y103)]) (wn rfl) rfl (evs_cons rfl (evs_cons rfl evs_nil)) (by kernel_rfl) ?_
 refine Tr.store 2 (cs := [(iv y102), (iv y103)]) [(iv y102), (iv y103)] (wn rfl) rfl rfl rfl rfl sz_47 rfl rfl rfl ?_
 refine Tr.nil (Tr.normThen ?_)
 refine Tr.ret ?_
 obtain rfl := Option.some.inj H
 exact Tr.out (m := [(.agg #[(iv y102), (iv y103)])]) [2] (res_cell rfl rfl ag_47 sz_47 res_nil) (fun W hW => ⟨rfl, hW.low leB⟩)

theorem F_plot_changed_3__changed_1__Short_1_ok {w : Bs} (p0 : TPlotStep) (Ap0_0 : Option Addr) (cp0_0 : Nat) (Ap0_1 : Option Addr) (cp0_1 : Nat) (hp0_1 : Sl w.R w.W fl_TPlotStep Ap0_1 cp0_1 p0.Steps) (Ae0 : Option Addr) (ce0 : Nat) (le0 : List TPlotStep) (ie0 : Nat) (hi0 : ie0 < le0.length) (bq0 : Nat) (bq1 : Nat) (hb0 : w.R bq0) (hc0 : CellsAt w.W bq0 0 [(.func (.func 51) #[] #[(.pointer (some ⟨bq1, 0, none⟩))])]) (hb1 : w.R bq1) (hc1 : CellsAt w.W bq1 0 [(.func (.func 28) #[] #[])]) (r : (Int × Int × (List TPoint))) (H : F_plot_changed_3__changed_1__Short_1 p0 = some r) (hE : HF w w.W (LEn [ow Ae0 ce0 53 (mix fl_TPlotStep) (mixL le0 ie0 (raw fl_TPlotStep [(iv p0.Kind), (sv p0.Name), (iv p0.At.X), (iv p0.At.Y), (.slice Ap0_0 (p0.Points).length cp0_0), (iv p0.NX), (iv p0.NY), (.slice Ap0_1 (p0.Steps).length cp0_1)] rfl rfl)), ow Ap0_0 cp0_0 47 fl_TPoint p0.Points])) : Calls Tryz.prog 55 [(.pointer (some ⟨adB Ae0, adO Ae0 + ie0 * 8, none⟩)), (.pointer (some ⟨bq0, 0, none⟩))].toArray w.W fun e W' => ∃ (w' : Bs) (u : Unit), w.Le w' ∧ e = .returned (.tuple #[]) ∧ ((r.2.2).length = (p0.Points).length) ∧ HF w' W' (LEn [ow Ae0 ce0 53 (mix fl_TPlotStep) (mixL le0 ie0 (raw fl_TPlotStep [(iv p0.Kind), (sv p0.Name), (iv r.1), (iv r.2.1), (.slice Ap0_0 (r.2.2).length cp0_0), (iv p0.NX), (iv p0.NY), (.slice Ap0_1 (p0.Steps).length cp0_1)] rfl rfl)), ow Ap0_0 cp0_0 47 fl_TPoint r.2.2]) := by
 unfold F_plot_changed_3__changed_1__Short_1 at H
 have hfhp0_0 := (hE.sl (k := 1) rfl).form
 have leB := Bs.Le.refl w
 refine Tr.enter (n := 37) Tryz.func55 rfl rfl rfl hE ?_
 refine Tr.seq ?_
 refine Tr.drawTail 7 (by kernel_rfl) (by kernel_rfl) ?_
 refine Tq.mv rfl rfl ?_
 refine Tq.va rfl (fun _ _ h1 h2 => run_load1 ag_102 (h1.ev rfl) (rdR hb0 hc0 h2) rfl) ?_
 refine Tq.mv rfl rfl ?_
 refine Tq.v1 rfl run_nilCheck rfl ?_
 refine Tq.v1 rfl (run_fieldAddr fo_53_2) rfl ?_
 refine Tq.va rfl (fun _ _ h1 h2 => run_loadN (cs := [(iv p0.At.X), (iv p0.At.Y)]) ag_47 sz_47 (h1.ev rfl) (CellsAt.take (CellsAt.drop (rdm (cs := raw fl_TPlotStep [(iv p0.Kind), (sv p0.Name), (iv p0.At.X), (iv p0.At.Y), (.slice Ap0_0 (p0.Points).length cp0_0), (iv p0.NX), (iv p0.NY), (.slice Ap0_1 (p0.Steps).length cp0_1)] rfl rfl) h2 (κ := 0) rfl hi0) 2) 2) rfl) ?_
 obtain ⟨y100, hy100, H⟩ := bnd H
 refine Tq.callF (r := (.agg #[(iv y100.X), (iv y100.Y)])) (wn rfl) rfl rfl Tryz.call51 (evl_cons rfl evl_nil) (fun W hW => F_plot_changed_1__Short_1_ok p0.At bq1 (hW.extAll.r _ hb1) (hW.extAll.cells hb1 hc1) y100 hy100 (HF.start _)) ?_
 refine Tq.nil ?_
 refine Tr.v1 rfl run_nilCheck rfl ?_
 refine Tr.v1 rfl (run_fieldAddr fo_53_2) rfl ?_
 refine Tr.storeMix 0 (raw fl_TPlotStep [(iv p0.Kind), (sv p0.Name), (iv y100.X), (iv y100.Y), (.slice Ap0_0 (p0.Points).length cp0_0), (iv p0.NX), (iv p0.NY), (.slice Ap0_1 (p0.Steps).length cp0_1)] rfl rfl) (cs := [(iv y100.X), (iv y100.Y)]) (fo := 2) (wn rfl) rfl rfl rfl rfl rfl hi0 sz_47 rfl rfl rfl ?_
 refine Tr.nil (Tr.normThen ?_)
 refine Tr.sr ?_
 refine Tr.mv rfl rfl ?_
 refine Tr.v1 rfl run_nilCheck rfl ?_
 refine Tr.v1 rfl (run_fieldAddr fo_53_3) rfl ?_
 refine Tr.va rfl (fun _ _ h1 h2 => run_load1 ag_43 (h1.ev rfl) (CellsAt.drop (rdm (cs := raw fl_TPlotStep [(iv p0.Kind), (sv p0.Name), (iv y100.X), (iv y100.Y), (.slice Ap0_0 (p0.Points).length cp0_0), (iv p0.NX), (iv p0.NY), (.slice Ap0_1 (p0.Steps).length cp0_1)] rfl rfl) h2 (κ := 0) rfl hi0) 4) rfl) ?_
 refine Tr.v1 rfl (run_len un_43) rfl ?_
 refine Tr.mv rfl rfl ?_
 refine Tr.nil (Tr.normThen ?_)
 refine Tr.block ?_
 refine Tr.loop (σ := (List TPoint) × Nat × (List TPoint)) (fun m w s => m = s.1.length + 1 ∧ s.1 = List.drop s.2.1 p0.Points ∧ s.2.1 ≤ p0.Points.length ∧ F_plot_changed_3__changed_1__Short_1_L1 y100 s.1 s.2.1 s.2.2 = some r ∧ (s.2.2).length = (p0.Points).length) (fun s => [(0, (.pointer (some ⟨adB Ae0, adO Ae0 + ie0 * 8, none⟩))), (1, (.pointer (some ⟨bq0, 0, none⟩))), (17, (iv (p0.Points.length : Int))), (18, (iv (s.2.1 : Int)))]) (fun s => [(0, ow Ae0 ce0 53 (mix fl_TPlotStep) (mixL le0 ie0 (raw fl_TPlotStep [(iv p0.Kind), (sv p0.Name), (iv y100.X), (iv y100.Y), (.slice Ap0_0 (s.2.2).length cp0_0), (iv p0.NX), (iv p0.NY), (.slice Ap0_1 (p0.Steps).length cp0_1)] rfl rfl))), (1, ow Ap0_0 cp0_0 47 fl_TPoint s.2.2)]) (p0.Points.length + 1) (p0.Points, 0, p0.Points) ⟨rfl, rfl, Nat.zero_le _, H, rfl⟩ (.r rfl) (.r rfl) (fun _ _ h => absurd h.1 (by simp)) ?_
 intro w leL1 m s hs
 obtain ⟨restL1, iL1, l115⟩ := s
 obtain ⟨hmL1, hdL1, hiL1, H, hl115⟩ := hs
 replace hdL1 : restL1 = List.drop iL1 p0.Points := hdL1
 replace H : F_plot_changed_3__changed_1__Short_1_L1 y100 restL1 iL1 l115 = some r := H
 replace hmL1 : m + 1 = restL1.length + 1 := hmL1
 replace hc0 := leL1.ext.cells hb0 hc0
 replace hb0 := leL1.r _ hb0
 replace hc1 := leL1.ext.cells hb1 hc1
 replace hb1 := leL1.r _ hb1
 replace hp0_1 := hp0_1.leR leL1
 replace leB := leB.trans leL1
 replace hl115 : (l115).length = (p0.Points).length := hl115
 have hfl115 : SlF Ap0_0 (l115).length cp0_0 := (by rw [hl115]; exact hfhp0_0)
 obtain rfl : m = restL1.length := by omega
 clear hmL1
 show Tr _ _ (LF [(0, (.pointer (some ⟨adB Ae0, adO Ae0 + ie0 * 8, none⟩))), (1, (.pointer (some ⟨bq0, 0, none⟩))), (17, (iv (p0.Points.length : Int))), (18, (iv (iL1 : Int)))]) (LE [(0, ow Ae0 ce0 53 (mix fl_TPlotStep) (mixL le0 ie0 (raw fl_TPlotStep [(iv p0.Kind), (sv p0.Name), (iv y100.X), (iv y100.Y), (.slice Ap0_0 (l115).length cp0_0), (iv p0.NX), (iv p0.NY), (.slice Ap0_1 (p0.Steps).length cp0_1)] rfl rfl))), (1, ow Ap0_0 cp0_0 47 fl_TPoint l115)]) _
 cases restL1 with
 | nil =>
  rw [F_plot_changed_3__changed_1__Short_1_L1.eq_1] at H
  refine Tr.sr ?_
  refine Tr.v2 rfl run_lss rfl rfl ?_
  refine Tr.nil (Tr.normThen ?_)
  refine Tr.seq ?_
  refine Tr.condF rfl (range_nil hdL1) ?_
  refine Tr.exit (Tr.exitThen (Tr.exitThen (Tr.exitBlock (Tr.offEnd ?_))))
  obtain rfl := Option.some.inj H
  exact Tr.out (m := []) [] res_nil (fun W hW => ⟨w, (), leB, rfl, hl115, hW.pick (ks := [0, 1]) (by decide) (pk_cons rfl (pk_cons rfl pk_nil))⟩)
 | cons xL1 restL1 =>
  rw [F_plot_changed_3__changed_1__Short_1_L1.eq_2] at H
  refine Tr.sr ?_
  refine Tr.v2 rfl run_lss rfl rfl ?_
  refine Tr.nil (Tr.normThen ?_)
  refine Tr.seq ?_
  refine Tr.condT rfl (range_on hdL1) ?_
  refine Tr.skip (Tr.normThen ?_)
  refine Tr.seq ?_
  refine Tr.block ?_
  refine Tr.sr ?_
  refine Tr.mv rfl rfl ?_
  refine Tr.asg rfl rfl ?_
  refine Tr.nil (Tr.normThen ?_)
  refine Tr.drawTail 14 (by kernel_rfl) (by kernel_rfl) ?_
  refine Tq.mv rfl rfl ?_
  refine Tq.v1 rfl run_nilCheck rfl ?_
  refine Tq.v1 rfl (run_fieldAddr fo_53_3) rfl ?_
  refine Tq.va rfl (fun _ _ h1 h2 => run_load1 ag_43 (h1.ev rfl) (CellsAt.drop (rdm (cs := raw fl_TPlotStep [(iv p0.Kind), (sv p0.Name), (iv y100.X), (iv y100.Y), (.slice Ap0_0 (l115).length cp0_0), (iv p0.NX), (iv p0.NY), (.slice Ap0_1 (p0.Steps).length cp0_1)] rfl rfl) h2 (κ := 0) rfl hi0) 4) rfl) ?_
  refine Tq.mv rfl rfl ?_
  refine Tq.va rfl (fun _ _ h1 h2 => run_load1 ag_102 (h1.ev rfl) (rdR hb0 hc0 h2) rfl) ?_
  refine Tq.mv rfl rfl ?_
  refine Tq.v1 rfl run_nilCheck rfl ?_
  refine Tq.v1 rfl (run_fieldAddr fo_53_3) rfl ?_
  refine Tq.va rfl (fun _ _ h1 h2 => run_load1 ag_43 (h1.ev rfl) (CellsAt.drop (rdm (cs := raw fl_TPlotStep [(iv p0.Kind), (sv p0.Name), (iv y100.X), (iv y100.Y), (.slice Ap0_0 (l115).length cp0_0), (iv p0.NX), (iv p0.NY), (.slice Ap0_1 (p0.Steps).length cp0_1)] rfl rfl) h2 (κ := 0) rfl hi0) 4) rfl) ?_
  refine Tq.mv rfl rfl ?_
  obtain ⟨x116, hx116, H⟩ := bnd H
  obtain ⟨hx1160, hx1161, hx1162⟩ := idx_some hx116
  refine Tq.va rfl (fun _ _ h1 h2 => run_indexAddr el_43 (h1.ev rfl) hfl115 (h1.ev rfl) hx1160 hx1161) ?_
  refine Tq.va rfl (fun _ _ h1 h2 => run_loadN (cs := [(iv x116.X), (iv x116.Y)]) ag_47 sz_47 (h1.ev rfl) (CellsAt.take (rdo ef_TPoint (k := 1) h2 rfl hx1162) 2) rfl) ?_
  obtain ⟨y117, hy117, H⟩ := bnd H
  refine Tq.callF (r := (.agg #[(iv y117.X), (iv y117.Y)])) (wn rfl) rfl rfl Tryz.call51 (evl_cons rfl evl_nil) (fun W hW => F_plot_changed_1__Short_1_ok x116 bq1 (hW.extAll.r _ hb1) (hW.extAll.cells hb1 hc1) y117 hy117 (HF.start _)) ?_
  refine Tq.nil ?_
  obtain ⟨x118, hx118, H⟩ := bnd H
  obtain ⟨hx1180, hx1181, hx1182⟩ := idx_some hx118
  refine Tr.va rfl (fun _ _ h1 h2 => run_indexAddr el_43 (h1.ev rfl) hfl115 (h1.ev rfl) hx1180 hx1181) ?_
  obtain ⟨l119, hl119, H⟩ := bnd H
  have hnl119 := sets_len hl119
  refine Tr.storeEl 1 (t := fl_TPoint) (l := l115) (i := (iL1 : Int)) (fo := 0) (cs := [(iv y117.X), (iv y117.Y)]) y117 (wn rfl) rfl rfl rfl rfl rfl hx1182 sz_47 rfl (fun u _ => ⟨u, trivial, rfl⟩) rfl hl119 ?_
  have hfl119 : SlF Ap0_0 (l119).length cp0_0 := by rw [hnl119]; exact hfl115
  have hsl119 := hnl119.trans hl115
  refine Tr.sel (lf := [(0, (.pointer (some ⟨adB Ae0, adO Ae0 + ie0 * 8, none⟩))), (1, (.pointer (some ⟨bq0, 0, none⟩))), (3, (iv (iL1 : Int))), (17, (iv (p0.Points.length : Int))), (18, (iv (iL1 : Int))), (19, (.bool (decide ((iL1 : Int) < (p0.Points.length : Int))))), (20, (iv (iL1 : Int))), (21, (.pointer (some ⟨adB Ae0, adO Ae0 + ie0 * 8, none⟩))), (22, (.pointer (some ⟨adB Ae0, adO Ae0 + ie0 * 8, none⟩))), (23, (.pointer (some ⟨adB Ae0, adO Ae0 + ie0 * 8 + 4, none⟩))), (24, (.slice Ap0_0 (l119).length cp0_0)), (25, (iv (iL1 : Int))), (26, (.func (.func 51) #[] #[(.pointer (some ⟨bq1, 0, none⟩))])), (27, (.pointer (some ⟨adB Ae0, adO Ae0 + ie0 * 8, none⟩))), (28, (.pointer (some ⟨adB Ae0, adO Ae0 + ie0 * 8, none⟩))), (29, (.pointer (some ⟨adB Ae0, adO Ae0 + ie0 * 8 + 4, none⟩))), (30, (.slice Ap0_0 (l119).length cp0_0)), (31, (iv (iL1 : Int))), (33, (.agg #[(iv x116.X), (iv x116.Y)])), (34, (.agg #[(iv y117.X), (iv y117.Y)]))]) (le := [(0, ow Ae0 ce0 53 (mix fl_TPlotStep) (mixL le0 ie0 (raw fl_TPlotStep [(iv p0.Kind), (sv p0.Name), (iv y100.X), (iv y100.Y), (.slice Ap0_0 (l119).length cp0_0), (iv p0.NX), (iv p0.NY), (.slice Ap0_1 (p0.Steps).length cp0_1)] rfl rfl))), (1, ow Ap0_0 cp0_0 47 fl_TPoint l119)]) (.cons rfl (.cons rfl (.cons rfl (.cons rfl (.cons rfl (.cons rfl (.cons rfl (.cons rfl (.cons rfl (.cons rfl (.cons (slenV rfl (by rw [hnl119])) (.cons rfl (.cons rfl (.cons rfl (.cons rfl (.cons rfl (.cons (slenV rfl (by rw [hnl119])) (.r rfl)))))))))))))))))) (.cons (emix rfl (by rw [hnl119])) (.r rfl)) ?_
  refine Tr.nil (Tr.normBlock (Tr.normThen ?_))
  refine Tr.region ?_
  refine Tr.v2 rfl run_add rfl rfl ?_
  refine Tr.mv rfl rfl ?_
  refine Tr.nil ?_
  exact Tr.backThen leL1 (restL1, (iL1 + 1), l119) ⟨rfl, range_tl hdL1, range_lt hdL1, H, hsl119⟩ (.cons rfl (.cons rfl (.cons rfl (.cons (congrArg (fun z => some (Value.int .i64 z)) (range_up hdL1 hfhp0_0)) .nil)))) (.r rfl)

theorem F_plot_own__changed_3__changed_1__Short_1_b_ok (N : Nat) (rec : (List TPlotStep) → Option (List TPlotStep)) (hrec : ∀ {w : Bs} (p0 : (List TPlotStep)) (Ap0_0 : Option Addr) (cp0_0 : Nat) (hp0_0 : Sl w.O w.W fl_TPlotStep Ap0_0 cp0_0 p0) (bq0 : Nat) (bq1 : Nat) (hb0 : w.R bq0) (hc0 : CellsAt w.W bq0 0 [(.func (.func 51) #[] #[(.pointer (some ⟨bq1, 0, none⟩))])]) (hb1 : w.R bq1) (hc1 : CellsAt w.W bq1 0 [(.func (.func 28) #[] #[])]) (r : (List TPlotStep)) (H : rec p0 = some r) (hE : HF w w.W (LEn [emp])), Calls Tryz.prog 54 [(.slice Ap0_0 (p0).length cp0_0), (.func (.func 55) #[] #[(.pointer (some ⟨bq0, 0, none⟩))])].toArray w.W fun e W' => ∃ (w' : Bs) (u : (Option Addr × Nat)), w.Le w' ∧ e = .returned (.slice u.1 (r).length u.2) ∧ (SlF u.1 (r).length u.2) ∧ HF w' W' (LEn [ow u.1 u.2 53 fl_TPlotStep r])) {w : Bs} (p0 : (List TPlotStep)) (Ap0_0 : Option Addr) (cp0_0 : Nat) (hp0_0 : Sl w.O w.W fl_TPlotStep Ap0_0 cp0_0 p0) (bq0 : Nat) (bq1 : Nat) (hb0 : w.R bq0) (hc0 : CellsAt w.W bq0 0 [(.func (.func 51) #[] #[(.pointer (some ⟨bq1, 0, none⟩))])]) (hb1 : w.R bq1) (hc1 : CellsAt w.W bq1 0 [(.func (.func 28) #[] #[])]) (r : (List TPlotStep)) (H : F_plot_own__changed_3__changed_1__Short_1_b N rec p0 = some r) (hE : HF w w.W (LEn [emp])) : Calls Tryz.prog 54 [(.slice Ap0_0 (p0).length cp0_0), (.func (.func 55) #[] #[(.pointer (some ⟨bq0, 0, none⟩))])].toArray w.W fun e W' => ∃ (w' : Bs) (u : (Option Addr × Nat)), w.Le w' ∧ e = .returned (.slice u.1 (r).length u.2) ∧ (SlF u.1 (r).length u.2) ∧ HF w' W' (LEn [ow u.1 u.2 53 fl_TPlotStep r]) := by
 unfold F_plot_own__changed_3__changed_1__Short_1_b at H
 have leB := Bs.Le.refl w
 refine Tr.enter (n := 42) Tryz.func54 rfl rfl rfl hE ?_
 refine Tr.sr ?_
 refine Tr.asg rfl rfl ?_
 refine Tr.nilOwn 1 53 fl_TPlotStep ?_
 show Tr _ _ (uf _ 4 (.slice none (([] : List TPlotStep)).length 0)) _ _
 refine Tr.nil (Tr.normThen ?_)
 refine Tr.sr ?_
 refine Tr.mv rfl rfl ?_
 obtain ⟨y100, hy100, H⟩ := bnd H
 refine Tr.callG [2] [emp] (U := (Option Addr × Nat)) (fun u => (.slice u.1 (y100).length u.2)) (fun O W u => SlF u.1 (y100).length u.2) (fun u => [ow u.1 u.2 53 fl_TPlotStep y100]) rfl (pk_cons rfl pk_nil) (fun _ => rfl) (wn rfl) rfl Tryz.call100 (evl_cons rfl evl_nil) (fun W hW hp hE => F_slices_Clone_PlotStep_ok p0 Ap0_0 cp0_0 (hp0_0.extO (hW.extS hp)) y100 hy100 hE) ?_
 intro w u le101 hu
 obtain ⟨Ay100_0, cy100_0⟩ := u
 have gy100_0 := hu
 replace hp0_0 := hp0_0.le le101
 replace hc0 := le101.ext.cells hb0 hc0
 replace hb0 := le101.r _ hb0
 replace hc1 := le101.ext.cells hb1 hc1
 replace hb1 := le101.r _ hb1
 replace leB := leB.trans le101
 have hgy100_0 : SlF Ay100_0 (y100).length cy100_0 := gy100_0 --@phi
 show Tr _ _ (uf _ 8 (.slice Ay100_0 (y100).length cy100_0)) (up _ 2 (ow Ay100_0 cy100_0 53 fl_TPlotStep y100)) _
 refine Tr.asg rfl rfl ?_
 refine Tr.nil (Tr.normThen ?_)
 refine Tr.seq ?_
 refine Tr.sr ?_
 refine Tr.mv rfl rfl ?_
 refine Tr.v1 rfl (run_len un_24) rfl ?_
 refine Tr.mv rfl rfl ?_
 refine Tr.nil (Tr.normThen ?_)
 refine Tr.block ?_
 refine Tr.loop (σ := (List TPlotStep) × Int × (Option Addr) × Nat) (fun m w s => F_plot_own__changed_3__changed_1__Short_1_L1 rec y100 m s.1 s.2.1 = some r ∧ SlF s.2.2.1 (s.1).length s.2.2.2) (fun s => [(1, (.func (.func 55) #[] #[(.pointer (some ⟨bq0, 0, none⟩))])), (5, (.slice s.2.2.1 (s.1).length s.2.2.2)), (10, (iv (y100.length : Int))), (11, (iv s.2.1))]) (fun s => [(2, ow s.2.2.1 s.2.2.2 53 fl_TPlotStep s.1)]) N (y100, 0, Ay100_0, cy100_0) ⟨H, hgy100_0⟩ (.r rfl) (.r rfl) (fun _ _ h => noSome (h.1)) ?_
 intro w leL1 mL1 s hs
 obtain ⟨l154, x155, Al154, cl154⟩ := s
 obtain ⟨H, hl154⟩ := hs
 replace H : F_plot_own__changed_3__changed_1__Short_1_L1 rec y100 (mL1 + 1) l154 x155 = some r := H
 replace hc0 := leL1.ext.cells hb0 hc0
 replace hb0 := leL1.r _ hb0
 replace hc1 := leL1.ext.cells hb1 hc1
 replace hb1 := leL1.r _ hb1
 replace leB := leB.trans leL1
 replace hl154 : SlF Al154 (l154).length cl154 := hl154
 rw [F_plot_own__changed_3__changed_1__Short_1_L1.eq_2] at H
 show Tr _ _ (LF [(1, (.func (.func 55) #[] #[(.pointer (some ⟨bq0, 0, none⟩))])), (5, (.slice Al154 (l154).length cl154)), (10, (iv (y100.length : Int))), (11, (iv x155))]) (LE [(2, ow Al154 cl154 53 fl_TPlotStep l154)]) _
 refine Tr.sr ?_
 refine Tr.v2 rfl run_lss rfl rfl ?_
 refine Tr.nil (Tr.normThen ?_)
 refine Tr.seq ?_
 refine Tr.cond rfl H (fun H => ?_) (fun H => ?_)
 ·refine Tr.skip (Tr.normThen ?_)
  refine Tr.seq ?_
  refine Tr.block ?_
  refine Tr.sr ?_
  refine Tr.mv rfl rfl ?_
  refine Tr.asg rfl rfl ?_
  refine Tr.nil (Tr.normThen ?_)
  refine Tr.sr ?_
  refine Tr.mv rfl rfl ?_
  refine Tr.mv rfl rfl ?_
  refine Tr.mv rfl rfl ?_
  refine Tr.mv rfl rfl ?_
  obtain ⟨x156, hx156, H⟩ := bnd H
  obtain ⟨hx1560, hx1561, hx1562⟩ := idx_some hx156
  refine Tr.va rfl (fun _ _ h1 h2 => run_indexAddr el_24 (h1.ev rfl) hl154 (h1.ev rfl) hx1560 hx1561) ?_
  refine Tr.v1 rfl (run_fieldAddr fo_53_3) rfl ?_
  refine Tr.valE (U := (fl_TPlotStep).Ad) (fun u => (fl_TPlotStep).ok w.O w.W u x156) (fun u => (.slice u.1.1 (x156.Points).length u.1.2)) (wn rfl) rfl (ldN (κ := 2) (t := fl_TPlotStep) (V := fun u => (.slice u.1.1 (x156.Points).length u.1.2)) rfl hx1562 (fun _ _ u h1 hc => run_load1 ag_43 (h1.ev rfl) (hc.drop 4) rfl)) ?_
  intro u157 hoku157
  obtain ⟨⟨Au157_0, cu157_0⟩, ⟨Au157_1, cu157_1⟩⟩ := u157
  obtain ⟨hoku157_0, hoku157_1⟩ := TPlotStep_ok.1 hoku157
  replace hoku157_0 : Sl w.O w.W fl_TPoint Au157_0 cu157_0 x156.Points := hoku157_0
  replace hoku157_1 : Sl w.O w.W fl_TPlotStep Au157_1 cu157_1 x156.Steps := hoku157_1
  show Tr _ _ (uf _ 20 (.slice Au157_0 (x156.Points).length cu157_0)) _ _
  obtain ⟨y158, hy158, H⟩ := bnd H
  refine Tr.callM [7] [emp] (U := (Option Addr × Nat)) (fun u => (.slice u.1 (y158).length u.2)) (fun u => SlF u.1 (y158).length u.2) (fun u => [ow u.1 u.2 47 fl_TPoint y158]) rfl (pk_cons rfl pk_nil) (fun _ => rfl) (wn rfl) rfl Tryz.call101 (evl_cons rfl evl_nil) (fun W hW hp hE => F_slices_Clone_Point_ok x156.Points Au157_0 cu157_0 (hoku157_0.rl.ext (hW.extS hp)) y158 hy158 hE) ?_
  intro u hu
  obtain ⟨Ay158_0, cy158_0⟩ := u
  have gy158_0 := hu
  have hgy158_0 : SlF Ay158_0 (y158).length cy158_0 := gy158_0 --@phi
  show Tr _ _ (uf _ 21 (.slice Ay158_0 (y158).length cy158_0)) (up _ 7 (ow Ay158_0 cy158_0 47 fl_TPoint y158)) _
  obtain ⟨x160, hx160, H⟩ := bnd H
  obtain ⟨hx1600, hx1601, hx1602⟩ := idx_some hx160
  refine Tr.va rfl (fun _ _ h1 h2 => run_indexAddr el_24 (h1.ev rfl) hl154 (h1.ev rfl) hx1600 hx1601) ?_
  refine Tr.v1 rfl (run_fieldAddr fo_53_3) rfl ?_
  refine Tr.mixOpen 2 rfl hx1602 ?_
  intro u161 hoku161
  obtain ⟨⟨Au161_0, cu161_0⟩, ⟨Au161_1, cu161_1⟩⟩ := u161
  obtain ⟨hoku161_0, hoku161_1⟩ := TPlotStep_ok.1 hoku161
  replace hoku161_0 : Sl w.O w.W fl_TPoint Au161_0 cu161_0 x160.Points := hoku161_0
  replace hoku161_1 : Sl w.O w.W fl_TPlotStep Au161_1 cu161_1 x160.Steps := hoku161_1
  show Tr _ _ _ (up _ 2 (ow Al154 cl154 53 (mix fl_TPlotStep) (mixL l154 (x155).toNat (raw fl_TPlotStep [(iv x160.Kind), (sv x160.Name), (iv x160.At.X), (iv x160.At.Y), (.slice Au161_0 (x160.Points).length cu161_0), (iv x160.NX), (iv x160.NY), (.slice Au161_1 (x160.Steps).length cu161_1)] rfl rfl)))) _
  refine Tr.storeMix 2 (raw fl_TPlotStep [(iv x160.Kind), (sv x160.Name), (iv x160.At.X), (iv x160.At.Y), (.slice Ay158_0 (y158).length cy158_0), (iv x160.NX), (iv x160.NY), (.slice Au161_1 (x160.Steps).length cu161_1)] rfl rfl) (cs := [(.slice Ay158_0 (y158).length cy158_0)]) (fo := 4) (wn rfl) rfl rfl rfl rfl rfl (List.getElem?_eq_some_iff.1 hx1602).1 sz_43 rfl rfl rfl ?_
  refine Tr.nil (Tr.normThen ?_)
  refine Tr.sr ?_
  refine Tr.mv rfl rfl ?_
  refine Tr.mv rfl rfl ?_
  refine Tr.mv rfl rfl ?_
  refine Tr.mv rfl rfl ?_
  obtain ⟨x162, hx162, H⟩ := bnd H
  obtain ⟨hx1620, hx1621, hx1622⟩ := idx_some hx162
  refine Tr.va rfl (fun _ _ h1 h2 => run_indexAddr el_24 (h1.ev rfl) hl154 (h1.ev rfl) hx1620 hx1621) ?_
  refine Tr.v1 rfl (run_fieldAddr fo_53_6) rfl ?_
  refine Tr.va rfl (fun _ _ h1 h2 => run_load1 ag_24 (h1.ev rfl) (CellsAt.drop (rdm (cs := raw fl_TPlotStep [(iv x160.Kind), (sv x160.Name), (iv x160.At.X), (iv x160.At.Y), (.slice Ay158_0 (y158).length cy158_0), (iv x160.NX), (iv x160.NY), (.slice Au161_1 (x160.Steps).length cu161_1)] rfl rfl) h2 (κ := 2) rfl (List.getElem?_eq_some_iff.1 hx1622).1) 7) rfl) ?_
  refine Tr.mv rfl rfl ?_
  obtain ⟨y163, hy163, H⟩ := bnd H
  refine Tr.callG [8] [emp] (U := (Option Addr × Nat)) (fun u => (.slice u.1 (y163).length u.2)) (fun O W u => SlF u.1 (y163).length u.2) (fun u => [ow u.1 u.2 53 fl_TPlotStep y163]) rfl (pk_cons rfl pk_nil) (fun _ => rfl) (wn rfl) rfl Tryz.call54 (evl_cons rfl (evl_cons rfl evl_nil)) (fun W hW hp hE => hrec x160.Steps Au161_1 cu161_1 (hoku161_1.extO (hW.extS hp)) bq0 bq1 ((hW.extS hp).r _ hb0) ((hW.extS hp).cells hb0 hc0) ((hW.extS hp).r _ hb1) ((hW.extS hp).cells hb1 hc1) y163 hy163 hE) ?_
  intro w u le164 hu
  obtain ⟨Ay163_0, cy163_0⟩ := u
  have gy163_0 := hu
  replace hc0 := le164.ext.cells hb0 hc0
  replace hb0 := le164.r _ hb0
  replace hc1 := le164.ext.cells hb1 hc1
  replace hb1 := le164.r _ hb1
  replace hoku157_0 := hoku157_0.le le164
  replace hoku161_1 := hoku161_1.le le164
  replace leB := leB.trans le164
  replace leL1 := leL1.trans le164
  have hgy163_0 : SlF Ay163_0 (y163).length cy163_0 := gy163_0 --@phi
  show Tr _ _ (uf _ 32 (.slice Ay163_0 (y163).length cy163_0)) (up _ 8 (ow Ay163_0 cy163_0 53 fl_TPlotStep y163)) _
  obtain ⟨x165, hx165, H⟩ := bnd H
  obtain ⟨hx1650, hx1651, hx1652⟩ := idx_some hx165
  refine Tr.va rfl (fun _ _ h1 h2 => run_indexAddr el_24 (h1.ev rfl) hl154 (h1.ev rfl) hx1650 hx1651) ?_
  refine Tr.v1 rfl (run_fieldAddr fo_53_6) rfl ?_
  refine Tr.storeMix 2 (raw fl_TPlotStep [(iv x160.Kind), (sv x160.Name), (iv x160.At.X), (iv x160.At.Y), (.slice Ay158_0 (y158).length cy158_0), (iv x160.NX), (iv x160.NY), (.slice Ay163_0 (y163).length cy163_0)] rfl rfl) (cs := [(.slice Ay163_0 (y163).length cy163_0)]) (fo := 7) (wn rfl) rfl rfl rfl rfl rfl (List.getElem?_eq_some_iff.1 hx1652).1 sz_24 rfl rfl rfl ?_
  refine Tr.nil (Tr.normThen ?_)
  refine Tr.region ?_
  refine Tr.mv rfl rfl ?_
  refine Tr.mv rfl rfl ?_
  refine Tr.mv rfl rfl ?_
  obtain ⟨x166, hx166, H⟩ := bnd H
  obtain ⟨hx1660, hx1661, hx1662⟩ := idx_some hx166
  refine Tr.va rfl (fun _ _ h1 h2 => run_indexAddr el_24 (h1.ev rfl) hl154 (h1.ev rfl) hx1660 hx1661) ?_
  obtain ⟨y167, hy167, H⟩ := bnd H
  refine Tr.callGC [2, 7] [ow Al154 cl154 53 (mix fl_TPlotStep) (mixL l154 (x155).toNat (raw fl_TPlotStep [(iv x160.Kind), (sv x160.Name), (iv x160.At.X), (iv x160.At.Y), (.slice Ay158_0 (y158).length cy158_0), (iv x160.NX), (iv x160.NY), (.slice Ay163_0 (y163).length cy163_0)] rfl rfl)), ow Ay158_0 cy158_0 47 fl_TPoint y158] (U := Unit) (fun u => (.tuple #[])) (fun O W u => (y167.2.2).length = (y158).length) (fun u => [ow Al154 cl154 53 (mix fl_TPlotStep) (mixL l154 (x155).toNat (raw fl_TPlotStep [(iv x160.Kind), (sv x160.Name), (iv y167.1), (iv y167.2.1), (.slice Ay158_0 (y167.2.2).length cy158_0), (iv x160.NX), (iv x160.NY), (.slice Ay163_0 (y163).length cy163_0)] rfl rfl)), ow Ay158_0 cy158_0 47 fl_TPoint y167.2.2]) rfl (pk_cons rfl (pk_cons rfl pk_nil)) (fun _ => rfl) (wn rfl) rfl rfl Tryz.call55 (evl_cons rfl evl_nil) (fun W hW hp hE => F_plot_changed_3__changed_1__Short_1_ok (TPlotStep.mk x160.Kind x160.Name x160.At y158 x160.NX x160.NY y163) Ay158_0 cy158_0 Ay163_0 cy163_0 (hW.slS (k := 8) rfl hp rfl) Al154 cl154 l154 ((x155).toNat) (List.getElem?_eq_some_iff.1 hx1662).1 bq0 bq1 ((hW.extS hp).r _ hb0) ((hW.extS hp).cells hb0 hc0) ((hW.extS hp).r _ hb1) ((hW.extS hp).cells hb1 hc1) y167 hy167 hE) ?_
  intro w u le168 hu
  have gky167_1 := hu
  replace hc0 := le168.ext.cells hb0 hc0
  replace hb0 := le168.r _ hb0
  replace hc1 := le168.ext.cells hb1 hc1
  replace hb1 := le168.r _ hb1
  replace hoku157_0 := hoku157_0.le le168
  replace hoku161_1 := hoku161_1.le le168
  replace leB := leB.trans le168
  replace leL1 := leL1.trans le168
  have hgky167_1 : (y167.2.2).length = (y158).length := gky167_1 --@phi
  have hfky167_1 : SlF Ay158_0 (y167.2.2).length cy158_0 := by rw [hgky167_1]; exact hgy158_0
  show Tr _ _ (uf _ 39 (.tuple #[])) (up (up _ 7 (ow Ay158_0 cy158_0 47 fl_TPoint y167.2.2)) 2 (ow Al154 cl154 53 (mix fl_TPlotStep) (mixL l154 (x155).toNat (raw fl_TPlotStep [(iv x160.Kind), (sv x160.Name), (iv y167.1), (iv y167.2.1), (.slice Ay158_0 (y167.2.2).length cy158_0), (iv x160.NX), (iv x160.NY), (.slice Ay163_0 (y163).length cy163_0)] rfl rfl)))) _
  refine Tr.sel (lf := [(1, (.func (.func 55) #[] #[(.pointer (some ⟨bq0, 0, none⟩))])), (5, (.slice Al154 (l154).length cl154)), (6, (iv x155)), (10, (iv (y100.length : Int))), (11, (iv x155)), (12, (.bool (decide (x155 < (y100.length : Int))))), (13, (iv x155)), (14, (.slice Al154 (l154).length cl154)), (15, (iv x155)), (16, (.slice Al154 (l154).length cl154)), (17, (iv x155)), (20, (.slice Au157_0 (x156.Points).length cu157_0)), (21, (.slice Ay158_0 (y167.2.2).length cy158_0)), (24, (.slice Al154 (l154).length cl154)), (25, (iv x155)), (26, (.slice Al154 (l154).length cl154)), (27, (iv x155)), (28, (.pointer (some ⟨adB Al154, adO Al154 + (x155).toNat * 8, none⟩))), (29, (.pointer (some ⟨adB Al154, adO Al154 + (x155).toNat * 8 + 7, none⟩))), (30, (.slice Au161_1 (x160.Steps).length cu161_1)), (31, (.func (.func 55) #[] #[(.pointer (some ⟨bq0, 0, none⟩))])), (32, (.slice Ay163_0 (y163).length cy163_0)), (33, (.pointer (some ⟨adB Al154, adO Al154 + (x155).toNat * 8, none⟩))), (34, (.pointer (some ⟨adB Al154, adO Al154 + (x155).toNat * 8 + 7, none⟩))), (35, (.func (.func 55) #[] #[(.pointer (some ⟨bq0, 0, none⟩))])), (36, (.slice Al154 (l154).length cl154)), (37, (iv x155)), (38, (.pointer (some ⟨adB Al154, adO Al154 + (x155).toNat * 8, none⟩))), (39, (.tuple #[]))]) (le := [(2, ow Al154 cl154 53 (mix fl_TPlotStep) (mixL l154 (x155).toNat (raw fl_TPlotStep [(iv x160.Kind), (sv x160.Name), (iv y167.1), (iv y167.2.1), (.slice Ay158_0 (y167.2.2).length cy158_0), (iv x160.NX), (iv x160.NY), (.slice Ay163_0 (y163).length cy163_0)] rfl rfl))), (7, ow Ay158_0 cy158_0 47 fl_TPoint y167.2.2), (8, ow Ay163_0 cy163_0 53 fl_TPlotStep y163)]) (.cons rfl (.cons rfl (.cons rfl (.cons rfl (.cons rfl (.cons rfl (.cons rfl (.cons rfl (.cons rfl (.cons rfl (.cons rfl (.cons rfl (.cons (slenV rfl (by rw [hgky167_1])) (.r rfl)))))))))))))) (.cons (emix rfl (by rw [hgky167_1])) (.r rfl)) ?_
  refine Tr.nil (Tr.normBlock (Tr.normThen ?_))
  refine Tr.region ?_
  refine Tr.v2 rfl run_add rfl rfl ?_
  refine Tr.mv rfl rfl ?_
  refine Tr.nil ?_
  refine Tr.freeze 7 rfl fun w le170 hz169 => ?_
  replace hc0 := le170.ext.cells hb0 hc0
  replace hb0 := le170.r _ hb0
  replace hc1 := le170.ext.cells hb1 hc1
  replace hb1 := le170.r _ hb1
  replace hoku157_0 := hoku157_0.le le170
  replace hoku161_1 := hoku161_1.le le170
  replace leB := leB.trans le170
  replace leL1 := leL1.trans le170
  refine Tr.freeze 8 rfl fun w le172 hz171 => ?_
  replace hc0 := le172.ext.cells hb0 hc0
  replace hb0 := le172.r _ hb0
  replace hc1 := le172.ext.cells hb1 hc1
  replace hb1 := le172.r _ hb1
  replace hoku157_0 := hoku157_0.le le172
  replace hz169 := hz169.le le172
  replace hoku161_1 := hoku161_1.le le172
  replace leB := leB.trans le172
  replace leL1 := leL1.trans le172
  refine Tr.mixClose 2 rfl (((Ay158_0, cy158_0), (Ay163_0, cy163_0))) (TPlotStep.mk x160.Kind x160.Name (TPoint.mk y167.1 y167.2.1) y167.2.2 x160.NX x160.NY y163) (TPlotStep_ok.2 ⟨hz169, hz171⟩) rfl ?_
  have hs173 : ((l154).set (x155).toNat (TPlotStep.mk x160.Kind x160.Name (TPoint.mk y167.1 y167.2.1) y167.2.2 x160.NX x160.NY y163)).length = (l154).length := List.length_set
  have hfhs173 : SlF Al154 ((l154).set (x155).toNat (TPlotStep.mk x160.Kind x160.Name (TPoint.mk y167.1 y167.2.1) y167.2.2 x160.NX x160.NY y163)).length cl154 := by rw [hs173]; exact hl154
  refine Tr.sel (lf := [(1, (.func (.func 55) #[] #[(.pointer (some ⟨bq0, 0, none⟩))])), (5, (.slice Al154 (((l154).set (x155).toNat (TPlotStep.mk x160.Kind x160.Name (TPoint.mk y167.1 y167.2.1) y167.2.2 x160.NX x160.NY y163))).length cl154)), (6, (iv x155)), (10, (iv (y100.length : Int))), (11, (iv (w64 (x155 + 1)))), (12, (.bool (decide (x155 < (y100.length : Int))))), (13, (iv x155)), (14, (.slice Al154 (((l154).set (x155).toNat (TPlotStep.mk x160.Kind x160.Name (TPoint.mk y167.1 y167.2.1) y167.2.2 x160.NX x160.NY y163))).length cl154)), (15, (iv x155)), (16, (.slice Al154 (((l154).set (x155).toNat (TPlotStep.mk x160.Kind x160.Name (TPoint.mk y167.1 y167.2.1) y167.2.2 x160.NX x160.NY y163))).length cl154)), (17, (iv x155)), (20, (.slice Au157_0 (x156.Points).length cu157_0)), (21, (.slice Ay158_0 (y167.2.2).length cy158_0)), (24, (.slice Al154 (((l154).set (x155).toNat (TPlotStep.mk x160.Kind x160.Name (TPoint.mk y167.1 y167.2.1) y167.2.2 x160.NX x160.NY y163))).length cl154)), (25, (iv x155)), (26, (.slice Al154 (((l154).set (x155).toNat (TPlotStep.mk x160.Kind x160.Name (TPoint.mk y167.1 y167.2.1) y167.2.2 x160.NX x160.NY y163))).length cl154)), (27, (iv x155)), (30, (.slice Au161_1 (x160.Steps).length cu161_1)), (31, (.func (.func 55) #[] #[(.pointer (some ⟨bq0, 0, none⟩))])), (32, (.slice Ay163_0 (y163).length cy163_0)), (35, (.func (.func 55) #[] #[(.pointer (some ⟨bq0, 0, none⟩))])), (36, (.slice Al154 (((l154).set (x155).toNat (TPlotStep.mk x160.Kind x160.Name (TPoint.mk y167.1 y167.2.1) y167.2.2 x160.NX x160.NY y163))).length cl154)), (37, (iv x155)), (39, (.tuple #[])), (40, (iv (w64 (x155 + 1))))]) (le := [(2, ow Al154 cl154 53 fl_TPlotStep ((l154).set (x155).toNat (TPlotStep.mk x160.Kind x160.Name (TPoint.mk y167.1 y167.2.1) y167.2.2 x160.NX x160.NY y163)))]) (.cons rfl (.cons (slenV rfl (by rw [hs173])) (.cons rfl (.cons rfl (.cons rfl (.cons rfl (.cons rfl (.cons (slenV rfl (by rw [hs173])) (.cons rfl (.cons (slenV rfl (by rw [hs173])) (.cons rfl (.cons rfl (.cons rfl (.cons (slenV rfl (by rw [hs173])) (.cons rfl (.cons (slenV rfl (by rw [hs173])) (.cons rfl (.cons rfl (.cons rfl (.cons rfl (.cons rfl (.cons (slenV rfl (by rw [hs173])) (.r rfl))))))))))))))))))))))) (.r rfl) ?_
  exact Tr.backThen leL1 (((l154).set (x155).toNat (TPlotStep.mk x160.Kind x160.Name (TPoint.mk y167.1 y167.2.1) y167.2.2 x160.NX x160.NY y163)), (w64 (x155 + 1)), Al154, cl154) ⟨H, hfhs173⟩ (.r rfl) (.r rfl)
 ·refine Tr.exit (Tr.exitThen (Tr.exitThen (Tr.exitBlock (Tr.normThen ?_))))
  refine Tr.sr ?_
  refine Tr.mv rfl rfl ?_
  refine Tr.asg rfl rfl ?_
  refine Tr.nil (Tr.normThen ?_)
  refine Tr.ret ?_
  obtain rfl := Option.some.inj H
  exact Tr.out (m := [(.slice Al154 (l154).length cl154)]) [] (res_tmp rfl res_nil) (fun W hW => ⟨w, (Al154, cl154), leB, rfl, hl154, hW.pick (ks := [2]) (by decide) (pk_cons rfl pk_nil)⟩)
theorem F_plot_own__changed_3__changed_1__Short_1_ok : ∀ (N : Nat) {w : Bs} (p0 : (List TPlotStep)) (Ap0_0 : Option Addr) (cp0_0 : Nat) (hp0_0 : Sl w.O w.W fl_TPlotStep Ap0_0 cp0_0 p0) (bq0 : Nat) (bq1 : Nat) (hb0 : w.R bq0) (hc0 : CellsAt w.W bq0 0 [(.func (.func 51) #[] #[(.pointer (some ⟨bq1, 0, none⟩))])]) (hb1 : w.R bq1) (hc1 : CellsAt w.W bq1 0 [(.func (.func 28) #[] #[])]) (r : (List TPlotStep)) (H : F_plot_own__changed_3__changed_1__Short_1 N p0 = some r) (hE : HF w w.W (LEn [emp])), Calls Tryz.prog 54 [(.slice Ap0_0 (p0).length cp0_0), (.func (.func 55) #[] #[(.pointer (some ⟨bq0, 0, none⟩))])].toArray w.W fun e W' => ∃ (w' : Bs) (u : (Option Addr × Nat)), w.Le w' ∧ e = .returned (.slice u.1 (r).length u.2) ∧ (SlF u.1 (r).length u.2) ∧ HF w' W' (LEn [ow u.1 u.2 53 fl_TPlotStep r])
 | 0 => by intros; rename_i H _; cases H
 | N + 1 => F_plot_own__changed_3__changed_1__Short_1_b_ok N (F_plot_own__changed_3__changed_1__Short_1 N) (F_plot_own__changed_3__changed_1__Short_1_ok N)

theorem F_plot_changed__Short_1_ok (N : Nat) {w : Bs} (p0 : TPlot) (Ap0_0 : Option Addr) (cp0_0 : Nat) (hp0_0 : Sl w.O w.W fl_TPlotTool Ap0_0 cp0_0 p0.Tools) (Ap0_1 : Option Addr) (cp0_1 : Nat) (hp0_1 : Sl w.O w.W fl_TPlotStep Ap0_1 cp0_1 p0.Steps) (r : TPlot) (H : F_plot_changed__Short_1 N p0 = some r) (hE : HF w w.W (LEn [emp, emp])) : Calls Tryz.prog 27 [(.agg #[(iv p0.Unit), (.slice Ap0_0 (p0.Tools).length cp0_0), (.slice Ap0_1 (p0.Steps).length cp0_1)]), (.func (.func 28) #[] #[])].toArray w.W fun e W' => ∃ (w' : Bs) (u : (Option Addr × Nat) × (Option Addr × Nat)), w.Le w' ∧ e = .returned (.agg #[(iv r.Unit), (.slice u.1.1 (r.Tools).length u.1.2), (.slice u.2.1 (r.Steps).length u.2.2)]) ∧ (SlF u.1.1 (r.Tools).length u.1.2 ∧ SlF u.2.1 (r.Steps).length u.2.2) ∧ HF w' W' (LEn [ow u.1.1 u.1.2 58 fl_TPlotTool r.Tools, ow u.2.1 u.2.2 53 fl_TPlotStep r.Steps]) := by
 unfold F_plot_changed__Short_1 at H
 have leB := Bs.Le.refl w
 refine Tr.enter (n := 22) Tryz.func27 rfl rfl rfl hE ?_
 refine Tr.sr ?_
 refine Tr.box 1 (cs := [(iv p0.Unit), (.slice Ap0_0 (p0.Tools).length cp0_0), (.slice Ap0_1 (p0.Steps).length cp0_1)]) (wn rfl) rfl rfl rfl fun b100 => ?_
 refine Tr.box 2 (cs := [(.func (.func 28) #[] #[])]) (wn rfl) rfl rfl rfl fun b101 => ?_
 refine Tr.alloc 3 (wn rfl) rfl ze_26 fun b102 => ?_
 refine Tr.nil (Tr.normThen ?_)
 refine Tr.sr ?_
 refine Tr.mkFunc (vs := [(.pointer (some ⟨b101, 0, none⟩))]) (wn rfl) rfl (evl_cons rfl evl_nil) ?_
 refine Tr.alloc 4 (wn rfl) rfl ze_102 fun b103 => ?_
 refine Tr.store 4 (cs := [(.func (.func 51) #[] #[(.pointer (some ⟨b101, 0, none⟩))])]) [(.func (.func 51) #[] #[(.pointer (some ⟨b101, 0, none⟩))])] (wn rfl) rfl rfl rfl rfl sz_102 rfl rfl rfl ?_
 refine Tr.nil (Tr.normThen ?_)
 refine Tr.sr ?_
 refine Tr.v1 rfl (run_fieldAddr fo_26_1) rfl ?_
 refine Tr.va rfl (fun _ _ h1 h2 => run_load1 ag_23 (h1.ev rfl) (rdb h2 (vs := [(iv p0.Unit), (.slice Ap0_0 (p0.Tools).length cp0_0), (.slice Ap0_1 (p0.Steps).length cp0_1)]) (k := 1) rfl 1) rfl) ?_
 refine Tr.mkFunc (vs := [(.pointer (some ⟨b101, 0, none⟩))]) (wn rfl) rfl (evl_cons rfl evl_nil) ?_
 obtain ⟨y104, hy104, H⟩ := bnd H
 refine Tr.callG [5] [emp] (U := (Option Addr × Nat)) (fun u => (.slice u.1 (y104).length u.2)) (fun O W u => SlF u.1 (y104).length u.2) (fun u => [ow u.1 u.2 58 fl_TPlotTool y104]) rfl (pk_cons rfl pk_nil) (fun _ => rfl) (wn rfl) rfl Tryz.call52 (evl_cons rfl (evl_cons rfl evl_nil)) (fun W hW hp hE => F_plot_ownTools__changed_2__Short_1_ok N p0.Tools Ap0_0 cp0_0 (hp0_0.extO (hW.extS hp)) b101 (hW.boxS (k := 2) rfl hp rfl) (hW.boxC (k := 2) rfl) y104 hy104 hE) ?_
 intro w u le105 hu
 obtain ⟨Ay104_0, cy104_0⟩ := u
 have gy104_0 := hu
 replace hp0_0 := hp0_0.le le105
 replace hp0_1 := hp0_1.le le105
 replace leB := leB.trans le105
 have hgy104_0 : SlF Ay104_0 (y104).length cy104_0 := gy104_0 --@phi
 show Tr _ _ (uf _ 12 (.slice Ay104_0 (y104).length cy104_0)) (up _ 5 (ow Ay104_0 cy104_0 58 fl_TPlotTool y104)) _
 refine Tr.asg rfl rfl ?_
 refine Tr.nil (Tr.normThen ?_)
 refine Tr.sr ?_
 refine Tr.v1 rfl (run_fieldAddr fo_26_2) rfl ?_
 refine Tr.va rfl (fun _ _ h1 h2 => run_load1 ag_24 (h1.ev rfl) (rdb h2 (vs := [(iv p0.Unit), (.slice Ap0_0 (p0.Tools).length cp0_0), (.slice Ap0_1 (p0.Steps).length cp0_1)]) (k := 1) rfl 2) rfl) ?_
 refine Tr.mkFunc (vs := [(.pointer (some ⟨b103, 0, none⟩))]) (wn rfl) rfl (evl_cons rfl evl_nil) ?_
 obtain ⟨y106, hy106, H⟩ := bnd H
 refine Tr.callG [6] [emp] (U := (Option Addr × Nat)) (fun u => (.slice u.1 (y106).length u.2)) (fun O W u => SlF u.1 (y106).length u.2) (fun u => [ow u.1 u.2 53 fl_TPlotStep y106]) rfl (pk_cons rfl pk_nil) (fun _ => rfl) (wn rfl) rfl Tryz.call54 (evl_cons rfl (evl_cons rfl evl_nil)) (fun W hW hp hE => F_plot_own__changed_3__changed_1__Short_1_ok N p0.Steps Ap0_1 cp0_1 (hp0_1.extO (hW.extS hp)) b103 b101 (hW.boxS (k := 4) rfl hp rfl) (hW.boxC (k := 4) rfl) (hW.boxS (k := 2) rfl hp rfl) (hW.boxC (k := 2) rfl) y106 hy106 hE) ?_
 intro w u le107 hu
 obtain ⟨Ay106_0, cy106_0⟩ := u
 have gy106_0 := hu
 replace hp0_0 := hp0_0.le le107
 replace hp0_1 := hp0_1.le le107
 replace leB := leB.trans le107
 have hgy106_0 : SlF Ay106_0 (y106).length cy106_0 := gy106_0 --@phi
 show Tr _ _ (uf _ 16 (.slice Ay106_0 (y106).length cy106_0)) (up _ 6 (ow Ay106_0 cy106_0 53 fl_TPlotStep y106)) _
 refine Tr.asg rfl rfl ?_
 refine Tr.nil (Tr.normThen ?_)
 refine Tr.sr ?_
 refine Tr.v1 rfl (run_fieldAddr fo_26_0) rfl ?_
 refine Tr.va rfl (fun _ _ h1 h2 => run_load1 ag_3 (h1.ev rfl) (rdb h2 (vs := [(iv p0.Unit), (.slice Ap0_0 (p0.Tools).length cp0_0), (.slice Ap0_1 (p0.Steps).length cp0_1)]) (k := 1) rfl 0) rfl) ?_
 refine Tr.mv rfl rfl ?_
 refine Tr.mv rfl rfl ?_
 refine Tr.build (vs := [(0, (iv p0.Unit)), (1, (.slice Ay104_0 (y104).length cy104_0)), (2, (.slice Ay106_0 (y106).length cy106_0))]) (cs := [(iv p0.Unit), (.slice Ay104_0 (y104).length cy104_0), (.slice Ay106_0 (y106).length cy106_0)]) (wn rfl) rfl (evs_cons rfl (evs_cons rfl (evs_cons rfl evs_nil))) (by kernel_rfl) ?_
 refine Tr.store 3 (cs := [(iv p0.Unit), (.slice Ay104_0 (y104).length cy104_0), (.slice Ay106_0 (y106).length cy106_0)]) [(iv p0.Unit), (.slice Ay104_0 (y104).length cy104_0), (.slice Ay106_0 (y106).length cy106_0)] (wn rfl) rfl rfl rfl rfl sz_26 rfl rfl rfl ?_
 refine Tr.nil (Tr.normThen ?_)
 refine Tr.ret ?_
 obtain rfl := Option.some.inj H
 exact Tr.out (m := [(.agg #[(iv p0.Unit), (.slice Ay104_0 (y104).length cy104_0), (.slice Ay106_0 (y106).length cy106_0)])]) [3] (res_cell rfl rfl ag_26 sz_26 res_nil) (fun W hW => ⟨w, ((Ay104_0, cy104_0), (Ay106_0, cy106_0)), leB, rfl, ⟨hgy104_0, hgy106_0⟩, hW.pick (ks := [5, 6]) (by decide) (pk_cons rfl (pk_cons rfl pk_nil))⟩)

theorem F_plot_Short_ok (N : Nat) {w : Bs} (p0 : TPlot) (Ap0_0 : Option Addr) (cp0_0 : Nat) (hp0_0 : Sl w.O w.W fl_TPlotTool Ap0_0 cp0_0 p0.Tools) (Ap0_1 : Option Addr) (cp0_1 : Nat) (hp0_1 : Sl w.O w.W fl_TPlotStep Ap0_1 cp0_1 p0.Steps) (r : (TPlot × Int)) (H : F_plot_Short N p0 = some r) (hE : HF w w.W (LEn [emp, emp])) : Calls Tryz.prog 10 [(.agg #[(iv p0.Unit), (.slice Ap0_0 (p0.Tools).length cp0_0), (.slice Ap0_1 (p0.Steps).length cp0_1)])].toArray w.W fun e W' => ∃ (w' : Bs) (u : (Option Addr × Nat) × (Option Addr × Nat)), w.Le w' ∧ e = .returned (.tuple #[(.agg #[(iv r.1.Unit), (.slice u.1.1 (r.1.Tools).length u.1.2), (.slice u.2.1 (r.1.Steps).length u.2.2)]), (iv r.2)]) ∧ (SlF u.1.1 (r.1.Tools).length u.1.2 ∧ SlF u.2.1 (r.1.Steps).length u.2.2) ∧ HF w' W' (LEn [ow u.1.1 u.1.2 58 fl_TPlotTool r.1.Tools, ow u.2.1 u.2.2 53 fl_TPlotStep r.1.Steps]) := by
 unfold F_plot_Short at H
 have leB := Bs.Le.refl w
 refine Tr.enter (n := 28) Tryz.func10 rfl rfl rfl hE ?_
 refine Tr.sr ?_
 refine Tr.box 1 (cs := [(iv p0.Unit), (.slice Ap0_0 (p0.Tools).length cp0_0), (.slice Ap0_1 (p0.Steps).length cp0_1)]) (wn rfl) rfl rfl rfl fun b100 => ?_
 refine Tr.alloc 2 (wn rfl) rfl ze_26 fun b101 => ?_
 refine Tr.asg rfl rfl ?_
 refine Tr.nil (Tr.normThen ?_)
 refine Tr.seq ?_
 refine Tr.sr ?_
 refine Tr.va rfl (fun _ _ h1 h2 => run_loadN (cs := [(iv p0.Unit), (.slice Ap0_0 (p0.Tools).length cp0_0), (.slice Ap0_1 (p0.Steps).length cp0_1)]) ag_26 sz_26 (h1.ev rfl) (CellsAt.take (rdb h2 (vs := [(iv p0.Unit), (.slice Ap0_0 (p0.Tools).length cp0_0), (.slice Ap0_1 (p0.Steps).length cp0_1)]) (k := 1) rfl 0) 3) rfl) ?_
 obtain ⟨y102, hy102, H⟩ := bnd H
 refine Tr.call0 (r := (iv y102)) (wn rfl) rfl Tryz.call26 (evl_cons rfl evl_nil) (fun W hW => F_plot_CheckPlot_ok N p0 Ap0_0 cp0_0 (hp0_0.rl.ext hW.extAll) Ap0_1 cp0_1 (hp0_1.rl.ext hW.extAll) y102 hy102 (HF.start _)) ?_
 refine Tr.asg rfl rfl ?_
 refine Tr.nil (Tr.normThen ?_)
 refine Tr.sr ?_
 refine Tr.mv rfl rfl ?_
 refine Tr.v2 rfl run_neq rfl rfl ?_
 refine Tr.nil (Tr.normThen ?_)
 refine Tr.cond rfl H (fun H => ?_) (fun H => ?_)
 ·refine Tr.sr ?_
  refine Tr.build (vs := []) (cs := [(iv 0), (.slice none 0 0), (.slice none 0 0)]) (wn rfl) rfl evs_nil (by kernel_rfl) ?_
  refine Tr.mv rfl rfl ?_
  refine Tr.store 2 (cs := [(iv 0), (.slice none 0 0), (.slice none 0 0)]) [(iv 0), (.slice none 0 0), (.slice none 0 0)] (wn rfl) rfl rfl rfl rfl sz_26 rfl rfl rfl ?_
  refine Tr.asg rfl rfl ?_
  refine Tr.nil (Tr.normThen ?_)
  refine Tr.ret (Tr.retThen ?_)
  obtain rfl := Option.some.inj H
  refine Tr.nilOwn 3 58 fl_TPlotTool ?_
  refine Tr.nilOwn 4 53 fl_TPlotStep ?_
  exact Tr.out (m := [(.agg #[(iv 0), (.slice none 0 0), (.slice none 0 0)]), (iv y102)]) [2] (res_cell rfl rfl ag_26 sz_26 (res_tmp rfl res_nil)) (fun W hW => ⟨w, ((none, 0), (none, 0)), leB, rfl, ⟨slf_nil, slf_nil⟩, hW.pick (ks := [3, 4]) (by decide) (pk_cons rfl (pk_cons rfl pk_nil))⟩)
 ·refine Tr.skip (Tr.normThen ?_)
  refine Tr.sr ?_
  refine Tr.va rfl (fun _ _ h1 h2 => run_loadN (cs := [(iv p0.Unit), (.slice Ap0_0 (p0.Tools).length cp0_0), (.slice Ap0_1 (p0.Steps).length cp0_1)]) ag_26 sz_26 (h1.ev rfl) (CellsAt.take (rdb h2 (vs := [(iv p0.Unit), (.slice Ap0_0 (p0.Tools).length cp0_0), (.slice Ap0_1 (p0.Steps).length cp0_1)]) (k := 1) rfl 0) 3) rfl) ?_
  obtain ⟨y103, hy103, H⟩ := bnd H
  refine Tr.callG [5, 6] [emp, emp] (U := (Option Addr × Nat) × (Option Addr × Nat)) (fun u => (.agg #[(iv y103.Unit), (.slice u.1.1 (y103.Tools).length u.1.2), (.slice u.2.1 (y103.Steps).length u.2.2)])) (fun O W u => SlF u.1.1 (y103.Tools).length u.1.2 ∧ SlF u.2.1 (y103.Steps).length u.2.2) (fun u => [ow u.1.1 u.1.2 58 fl_TPlotTool y103.Tools, ow u.2.1 u.2.2 53 fl_TPlotStep y103.Steps]) rfl (pk_cons rfl (pk_cons rfl pk_nil)) (fun _ => rfl) (wn rfl) rfl Tryz.call27 (evl_cons rfl (evl_cons rfl evl_nil)) (fun W hW hp hE => F_plot_changed__Short_1_ok N p0 Ap0_0 cp0_0 (hp0_0.extO (hW.extS hp)) Ap0_1 cp0_1 (hp0_1.extO (hW.extS hp)) y103 hy103 hE) ?_
  intro w u le104 hu
  obtain ⟨⟨Ay103_0, cy103_0⟩, ⟨Ay103_1, cy103_1⟩⟩ := u
  obtain ⟨gy103_0, gy103_1⟩ := hu
  replace hp0_0 := hp0_0.le le104
  replace hp0_1 := hp0_1.le le104
  replace leB := leB.trans le104
  have hgy103_0 : SlF Ay103_0 (y103.Tools).length cy103_0 := gy103_0 --@phi
  have hgy103_1 : SlF Ay103_1 (y103.Steps).length cy103_1 := gy103_1 --@phi
  show Tr _ _ (uf _ 14 (.agg #[(iv y103.Unit), (.slice Ay103_0 (y103.Tools).length cy103_0), (.slice Ay103_1 (y103.Steps).length cy103_1)])) (up (up _ 6 (ow Ay103_1 cy103_1 53 fl_TPlotStep y103.Steps)) 5 (ow Ay103_0 cy103_0 58 fl_TPlotTool y103.Tools)) _
  refine Tr.alloc 7 (wn rfl) rfl ze_26 fun b105 => ?_
  refine Tr.store 7 (cs := [(iv y103.Unit), (.slice Ay103_0 (y103.Tools).length cy103_0), (.slice Ay103_1 (y103.Steps).length cy103_1)]) [(iv y103.Unit), (.slice Ay103_0 (y103.Tools).length cy103_0), (.slice Ay103_1 (y103.Steps).length cy103_1)] (wn rfl) rfl rfl rfl rfl sz_26 rfl rfl rfl ?_
  refine Tr.nil (Tr.normThen ?_)
  refine Tr.block ?_
  refine Tr.loop (σ := Unit) (fun m w _ => F_plot_Short_L1 y103 m = some r) (fun _ => [(2, (.pointer (some ⟨b101, 0, none⟩))), (5, (.pointer (some ⟨b105, 0, none⟩)))]) (fun _ => [(2, bx b101 #[(iv 0), (.slice none 0 0), (.slice none 0 0)] 26), (5, ow Ay103_0 cy103_0 58 fl_TPlotTool y103.Tools), (6, ow Ay103_1 cy103_1 53 fl_TPlotStep y103.Steps), (7, bx b105 #[(iv y103.Unit), (.slice Ay103_0 (y103.Tools).length cy103_0), (.slice Ay103_1 (y103.Steps).length cy103_1)] 26)]) N () H (.r rfl) (.r rfl) (fun _ _ h => noSome (h)) ?_
  intro w leL1 mL1 _ hs
  have H := hs
  replace H : F_plot_Short_L1 y103 (mL1 + 1) = some r := H
  replace leB := leB.trans leL1
  rw [F_plot_Short_L1.eq_2] at H
  show Tr _ _ (LF [(2, (.pointer (some ⟨b101, 0, none⟩))), (5, (.pointer (some ⟨b105, 0, none⟩)))]) (LE [(2, bx b101 #[(iv 0), (.slice none 0 0), (.slice none 0 0)] 26), (5, ow Ay103_0 cy103_0 58 fl_TPlotTool y103.Tools), (6, ow Ay103_1 cy103_1 53 fl_TPlotStep y103.Steps), (7, bx b105 #[(iv y103.Unit), (.slice Ay103_0 (y103.Tools).length cy103_0), (.slice Ay103_1 (y103.Steps).length cy103_1)] 26)]) _
  refine Tr.block ?_
  refine Tr.sr ?_
  refine Tr.v1 rfl (run_fieldAddr fo_26_2) rfl ?_
  refine Tr.va rfl (fun _ _ h1 h2 => run_load1 ag_24 (h1.ev rfl) (rdb h2 (vs := [(iv y103.Unit), (.slice Ay103_0 (y103.Tools).length cy103_0), (.slice Ay103_1 (y103.Steps).length cy103_1)]) (k := 7) rfl 2) rfl) ?_
  obtain ⟨y107, hy107, H⟩ := bnd H
  refine Tr.call0 (r := (iv y107)) (wn rfl) rfl Tryz.call29 (evl_cons rfl evl_nil) (fun W hW => F_plot_without_ok y103.Steps Ay103_1 cy103_1 (hW.slCall (k := 6) rfl) y107 hy107 (HF.start _)) ?_
  refine Tr.asg rfl rfl ?_
  refine Tr.nil (Tr.normThen ?_)
  refine Tr.seq ?_
  refine Tr.sr ?_
  refine Tr.mv rfl rfl ?_
  refine Tr.v2 rfl run_lss rfl rfl ?_
  refine Tr.nil (Tr.normThen ?_)
  refine Tr.cond rfl H (fun H => ?_) (fun H => ?_)
  ·refine Tr.sr ?_
   refine Tr.va rfl (fun _ _ h1 h2 => run_loadN (cs := [(iv y103.Unit), (.slice Ay103_0 (y103.Tools).length cy103_0), (.slice Ay103_1 (y103.Steps).length cy103_1)]) ag_26 sz_26 (h1.ev rfl) (CellsAt.take (rdb h2 (vs := [(iv y103.Unit), (.slice Ay103_0 (y103.Tools).length cy103_0), (.slice Ay103_1 (y103.Steps).length cy103_1)]) (k := 7) rfl 0) 3) rfl) ?_
   refine Tr.store 2 (cs := [(iv y103.Unit), (.slice Ay103_0 (y103.Tools).length cy103_0), (.slice Ay103_1 (y103.Steps).length cy103_1)]) [(iv y103.Unit), (.slice Ay103_0 (y103.Tools).length cy103_0), (.slice Ay103_1 (y103.Steps).length cy103_1)] (wn rfl) rfl rfl rfl rfl sz_26 rfl rfl rfl ?_
   refine Tr.asg rfl rfl ?_
   refine Tr.nil (Tr.normThen ?_)
   refine Tr.ret (Tr.retThen (Tr.retBlock (Tr.retThen (Tr.retBlock ?_))))
   obtain rfl := Option.some.inj H
   exact Tr.out (m := [(.agg #[(iv y103.Unit), (.slice Ay103_0 (y103.Tools).length cy103_0), (.slice Ay103_1 (y103.Steps).length cy103_1)]), (iv 0)]) [2] (res_cell rfl rfl ag_26 sz_26 (res_tmp rfl res_nil)) (fun W hW => ⟨w, ((Ay103_0, cy103_0), (Ay103_1, cy103_1)), leB, rfl, ⟨hgy103_0, hgy103_1⟩, hW.pick (ks := [5, 6]) (by decide) (pk_cons rfl (pk_cons rfl pk_nil))⟩)
  ·refine Tr.skip (Tr.normThen ?_)
   cases H

end Go.Proofs.YtcjeebkoafonpaaGreatDoor
