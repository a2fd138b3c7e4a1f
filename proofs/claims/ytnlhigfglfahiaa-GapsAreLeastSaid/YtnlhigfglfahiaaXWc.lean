/- The walks: each function computes its plain function. -/
import Derived.Test.YtnlhigfglfahiaaXWb
namespace Go.Proofs.Ytnlhigfglfahiaa
open Go.RowKit
set_option maxRecDepth 100000
set_option maxHeartbeats 1000000
theorem F_shape_two__And_ok (N : Nat) {w : Bs} (p0 : (List TRect)) (Ap0_0 : Option Addr) (cp0_0 : Nat) (hp0_0 : Sl w.R w.W fl_TRect Ap0_0 cp0_0 p0) (p1 : (List TRect)) (Ap1_0 : Option Addr) (cp1_0 : Nat) (hp1_0 : Sl w.R w.W fl_TRect Ap1_0 cp1_0 p1) (r : ((List TRect) × Int)) (H : F_shape_two__And N p0 p1 = some r) (hE : HF w w.W (LEn [emp])) : Calls Try.prog 42 [(.slice Ap0_0 (p0).length cp0_0), (.slice Ap1_0 (p1).length cp1_0), (.func (.func 43) #[] #[])].toArray w.W fun e W' => ∃ u : (Option Addr × Nat), e = .returned (.tuple #[(.slice u.1 (r.1).length u.2), (.int .i64 r.2)]) ∧ (SlF u.1 (r.1).length u.2) ∧ HF w W' (LEn [ow u.1 u.2 29 fl_TRect r.1]) := by
  unfold F_shape_two__And at H
  have leB := Bs.Le.refl w
  refine Tr.enter (n := 29) Try.func42 rfl rfl rfl hE ?_
  refine Tr.seq ?_
  refine Tr.region ?_
  refine Tr.val (wn rfl) rfl (fun _ _ h1 h2 => run_assign (h1.ev rfl)) ?_
  refine Tr.nilOwn 1 29 fl_TRect ?_
  show Tr _ _ (uf _ 6 (.slice none (([] : List TRect)).length 0)) _ _
  refine Tr.val (wn rfl) rfl (fun _ _ h1 h2 => run_assign (h1.ev rfl)) ?_
  refine Tr.nil (Tr.normThen ?_)
  refine Tr.seq ?_
  refine Tr.seq ?_
  refine Tr.region ?_
  refine Tr.val (wn rfl) rfl (fun _ _ h1 h2 => run_move (h1.ev rfl)) ?_
  obtain ⟨y100, hy100, H⟩ := bnd H
  refine Tr.call0 (r := (.int .i64 y100)) (wn rfl) rfl Try.call18 (evl_cons rfl evl_nil) (fun W hW => F_shape_CheckRegion_ok N p0 Ap0_0 cp0_0 (hp0_0.ext hW.extAll) y100 hy100 (HF.start _)) ?_
  refine Tr.val (wn rfl) rfl (fun _ _ h1 h2 => run_assign (h1.ev rfl)) ?_
  refine Tr.nil (Tr.normThen ?_)
  refine Tr.seq ?_
  refine Tr.region ?_
  refine Tr.val (wn rfl) rfl (fun _ _ h1 h2 => run_move (h1.ev rfl)) ?_
  refine Tr.val (wn rfl) rfl (fun _ _ h1 h2 => run_neq (h1.ev rfl) (h1.ev rfl)) ?_
  refine Tr.nil (Tr.normThen ?_)
  refine Tr.cond rfl H (fun H => ?_) (fun H => ?_)
  · refine Tr.seq ?_
    refine Tr.region ?_
    refine Tr.val (wn rfl) rfl (fun _ _ h1 h2 => run_move (h1.ev rfl)) ?_
    refine Tr.val (wn rfl) rfl (fun _ _ h1 h2 => run_assign (h1.ev rfl)) ?_
    refine Tr.nilOwn 2 29 fl_TRect ?_
    show Tr _ _ (uf _ 6 (.slice none (([] : List TRect)).length 0)) _ _
    refine Tr.val (wn rfl) rfl (fun _ _ h1 h2 => run_assign (h1.ev rfl)) ?_
    refine Tr.nil (Tr.normThen ?_)
    refine Tr.ret (Tr.retThen ?_)
    obtain rfl := Option.some.inj H
    exact Tr.out (m := [(.slice none (([] : List TRect)).length 0), (.int .i64 y100)]) [] (res_tmp rfl (res_tmp rfl res_nil)) (fun W hW => ⟨(none, 0), rfl, slf_nil, HF.lowE leB (hW.pick (ks := [2]) (by decide) (pk_cons rfl pk_nil)) ⟨ow_any _ _ _ _ tr_TRect, trivial⟩⟩)
  · refine Tr.skip (Tr.normThen ?_)
    refine Tr.seq ?_
    refine Tr.seq ?_
    refine Tr.region ?_
    refine Tr.val (wn rfl) rfl (fun _ _ h1 h2 => run_move (h1.ev rfl)) ?_
    obtain ⟨y101, hy101, H⟩ := bnd H
    refine Tr.call0 (r := (.int .i64 y101)) (wn rfl) rfl Try.call18 (evl_cons rfl evl_nil) (fun W hW => F_shape_CheckRegion_ok N p1 Ap1_0 cp1_0 (hp1_0.ext hW.extAll) y101 hy101 (HF.start _)) ?_
    refine Tr.val (wn rfl) rfl (fun _ _ h1 h2 => run_assign (h1.ev rfl)) ?_
    refine Tr.nil (Tr.normThen ?_)
    refine Tr.seq ?_
    refine Tr.region ?_
    refine Tr.val (wn rfl) rfl (fun _ _ h1 h2 => run_move (h1.ev rfl)) ?_
    refine Tr.val (wn rfl) rfl (fun _ _ h1 h2 => run_neq (h1.ev rfl) (h1.ev rfl)) ?_
    refine Tr.nil (Tr.normThen ?_)
    refine Tr.cond rfl H (fun H => ?_) (fun H => ?_)
    · refine Tr.seq ?_
      refine Tr.region ?_
      refine Tr.val (wn rfl) rfl (fun _ _ h1 h2 => run_move (h1.ev rfl)) ?_
      refine Tr.val (wn rfl) rfl (fun _ _ h1 h2 => run_assign (h1.ev rfl)) ?_
      refine Tr.nilOwn 3 29 fl_TRect ?_
      show Tr _ _ (uf _ 6 (.slice none (([] : List TRect)).length 0)) _ _
      refine Tr.val (wn rfl) rfl (fun _ _ h1 h2 => run_assign (h1.ev rfl)) ?_
      refine Tr.nil (Tr.normThen ?_)
      refine Tr.ret (Tr.retThen ?_)
      obtain rfl := Option.some.inj H
      exact Tr.out (m := [(.slice none (([] : List TRect)).length 0), (.int .i64 y101)]) [] (res_tmp rfl (res_tmp rfl res_nil)) (fun W hW => ⟨(none, 0), rfl, slf_nil, HF.lowE leB (hW.pick (ks := [3]) (by decide) (pk_cons rfl pk_nil)) ⟨ow_any _ _ _ _ tr_TRect, trivial⟩⟩)
    · refine Tr.skip (Tr.normThen ?_)
      refine Tr.seq ?_
      refine Tr.region ?_
      refine Tr.val (wn rfl) rfl (fun _ _ h1 h2 => run_move (h1.ev rfl)) ?_
      refine Tr.val (wn rfl) rfl (fun _ _ h1 h2 => run_move (h1.ev rfl)) ?_
      obtain ⟨y102, hy102, H⟩ := bnd H
      refine Tr.callG [4] [emp] (U := (Option Addr × Nat)) (fun u => (.slice u.1 (y102).length u.2)) (fun O W u => SlF u.1 (y102).length u.2) (fun u => [ow u.1 u.2 104 fl_TBand y102]) rfl (pk_cons rfl pk_nil) (fun _ => rfl) (wn rfl) rfl Try.call40 (evl_cons rfl evl_nil) (fun W hW hp hE => F_shape_SetOf_ok N p0 Ap0_0 cp0_0 (hp0_0.ext (hW.extS hp)) y102 hy102 hE) ?_
      intro w u le103 hu
      obtain ⟨Ay102_0, cy102_0⟩ := u
      have gy102_0 := hu
      replace hp0_0 := hp0_0.leR le103
      replace hp1_0 := hp1_0.leR le103
      replace leB := leB.trans le103
      have hgy102_0 : SlF Ay102_0 (y102).length cy102_0 := gy102_0 --@phi
      show Tr _ _ (uf _ 22 (.slice Ay102_0 (y102).length cy102_0)) (up _ 4 (ow Ay102_0 cy102_0 104 fl_TBand y102)) _
      refine Tr.val (wn rfl) rfl (fun _ _ h1 h2 => run_move (h1.ev rfl)) ?_
      obtain ⟨y104, hy104, H⟩ := bnd H
      refine Tr.callG [5] [emp] (U := (Option Addr × Nat)) (fun u => (.slice u.1 (y104).length u.2)) (fun O W u => SlF u.1 (y104).length u.2) (fun u => [ow u.1 u.2 104 fl_TBand y104]) rfl (pk_cons rfl pk_nil) (fun _ => rfl) (wn rfl) rfl Try.call40 (evl_cons rfl evl_nil) (fun W hW hp hE => F_shape_SetOf_ok N p1 Ap1_0 cp1_0 (hp1_0.ext (hW.extS hp)) y104 hy104 hE) ?_
      intro w u le105 hu
      obtain ⟨Ay104_0, cy104_0⟩ := u
      have gy104_0 := hu
      replace hp0_0 := hp0_0.leR le105
      replace hp1_0 := hp1_0.leR le105
      replace leB := leB.trans le105
      have hgy104_0 : SlF Ay104_0 (y104).length cy104_0 := gy104_0 --@phi
      show Tr _ _ (uf _ 24 (.slice Ay104_0 (y104).length cy104_0)) (up _ 5 (ow Ay104_0 cy104_0 104 fl_TBand y104)) _
      refine Tr.freeze 4 rfl fun w le107 hz106 => ?_
      replace hp0_0 := hp0_0.leR le107
      replace hp1_0 := hp1_0.leR le107
      replace leB := leB.trans le107
      refine Tr.freeze 5 rfl fun w le109 hz108 => ?_
      replace hp0_0 := hp0_0.leR le109
      replace hp1_0 := hp1_0.leR le109
      replace hz106 := hz106.le le109
      replace leB := leB.trans le109
      obtain ⟨y110, hy110, H⟩ := bnd H
      refine Tr.callGV [6] [emp] (U := (Option Addr × Nat)) (fun u => (.slice u.1 (y110).length u.2)) (fun O W u => SlF u.1 (y110).length u.2) (fun u => [ow u.1 u.2 104 fl_TBand y110]) rfl (pk_cons rfl pk_nil) (fun _ => rfl) (wn rfl) rfl rfl Try.call43 (evl_cons rfl (evl_cons rfl evl_nil)) (fun W hW hp hE => F_shape_Set__And_ok N y102 Ay102_0 cy102_0 (hz106.extO (hW.extS hp)) y104 Ay104_0 cy104_0 (hz108.extO (hW.extS hp)) y110 hy110 hE) ?_
      intro w u le111 hu
      obtain ⟨Ay110_0, cy110_0⟩ := u
      have gy110_0 := hu
      replace hp0_0 := hp0_0.leR le111
      replace hp1_0 := hp1_0.leR le111
      replace hz106 := hz106.le le111
      replace hz108 := hz108.le le111
      replace leB := leB.trans le111
      have hgy110_0 : SlF Ay110_0 (y110).length cy110_0 := gy110_0 --@phi
      show Tr _ _ (uf _ 25 (.slice Ay110_0 (y110).length cy110_0)) (up _ 6 (ow Ay110_0 cy110_0 104 fl_TBand y110)) _
      obtain ⟨y112, hy112, H⟩ := bnd H
      refine Tr.callM [7] [emp] (U := (Option Addr × Nat)) (fun u => (.tuple #[(.slice u.1 (y112.1).length u.2), (.int .i64 y112.2)])) (fun u => SlF u.1 (y112.1).length u.2) (fun u => [ow u.1 u.2 29 fl_TRect y112.1]) rfl (pk_cons rfl pk_nil) (fun _ => rfl) (wn rfl) rfl Try.call48 (evl_cons rfl evl_nil) (fun W hW hp hE => F_shape_Set__Told_ok N y110 Ay110_0 cy110_0 (hW.slS (k := 6) rfl hp rfl) y112 hy112 hE) ?_
      intro u hu
      obtain ⟨Ay112_0, cy112_0⟩ := u
      have gy112_0 := hu
      have hgy112_0 : SlF Ay112_0 (y112.1).length cy112_0 := gy112_0 --@phi
      show Tr _ _ (uf _ 26 (.tuple #[(.slice Ay112_0 (y112.1).length cy112_0), (.int .i64 y112.2)])) (up _ 7 (ow Ay112_0 cy112_0 29 fl_TRect y112.1)) _
      refine Tr.val (wn rfl) rfl (fun _ _ h1 h2 => run_extract (h1.ev rfl) rfl) ?_
      refine Tr.val (wn rfl) rfl (fun _ _ h1 h2 => run_extract (h1.ev rfl) rfl) ?_
      refine Tr.val (wn rfl) rfl (fun _ _ h1 h2 => run_assign (h1.ev rfl)) ?_
      refine Tr.val (wn rfl) rfl (fun _ _ h1 h2 => run_assign (h1.ev rfl)) ?_
      refine Tr.nil (Tr.normThen ?_)
      refine Tr.ret ?_
      obtain rfl := Option.some.inj H
      exact Tr.out (m := [(.slice Ay112_0 (y112.1).length cy112_0), (.int .i64 y112.2)]) [] (res_tmp rfl (res_tmp rfl res_nil)) (fun W hW => ⟨(Ay112_0, cy112_0), rfl, hgy112_0, HF.lowE leB (hW.pick (ks := [7]) (by decide) (pk_cons rfl pk_nil)) ⟨ow_any _ _ _ _ tr_TRect, trivial⟩⟩)

theorem F_shape_Both_ok (N : Nat) {w : Bs} (p0 : (List TRect)) (Ap0_0 : Option Addr) (cp0_0 : Nat) (hp0_0 : Sl w.R w.W fl_TRect Ap0_0 cp0_0 p0) (p1 : (List TRect)) (Ap1_0 : Option Addr) (cp1_0 : Nat) (hp1_0 : Sl w.R w.W fl_TRect Ap1_0 cp1_0 p1) (r : ((List TRect) × Int)) (H : F_shape_Both N p0 p1 = some r) (hE : HF w w.W (LEn [emp])) : Calls Try.prog 19 [(.slice Ap0_0 (p0).length cp0_0), (.slice Ap1_0 (p1).length cp1_0)].toArray w.W fun e W' => ∃ u : (Option Addr × Nat), e = .returned (.tuple #[(.slice u.1 (r.1).length u.2), (.int .i64 r.2)]) ∧ (SlF u.1 (r.1).length u.2) ∧ HF w W' (LEn [ow u.1 u.2 29 fl_TRect r.1]) := by
  unfold F_shape_Both at H
  have leB := Bs.Le.refl w
  refine Tr.enter (n := 11) Try.func19 rfl rfl rfl hE ?_
  refine Tr.seq ?_
  refine Tr.region ?_
  refine Tr.val (wn rfl) rfl (fun _ _ h1 h2 => run_assign (h1.ev rfl)) ?_
  refine Tr.nilOwn 1 29 fl_TRect ?_
  show Tr _ _ (uf _ 4 (.slice none (([] : List TRect)).length 0)) _ _
  refine Tr.val (wn rfl) rfl (fun _ _ h1 h2 => run_assign (h1.ev rfl)) ?_
  refine Tr.nil (Tr.normThen ?_)
  refine Tr.seq ?_
  refine Tr.region ?_
  refine Tr.val (wn rfl) rfl (fun _ _ h1 h2 => run_move (h1.ev rfl)) ?_
  refine Tr.val (wn rfl) rfl (fun _ _ h1 h2 => run_move (h1.ev rfl)) ?_
  obtain ⟨y100, hy100, H⟩ := bnd H
  refine Tr.callM [2] [emp] (U := (Option Addr × Nat)) (fun u => (.tuple #[(.slice u.1 (y100.1).length u.2), (.int .i64 y100.2)])) (fun u => SlF u.1 (y100.1).length u.2) (fun u => [ow u.1 u.2 29 fl_TRect y100.1]) rfl (pk_cons rfl pk_nil) (fun _ => rfl) (wn rfl) rfl Try.call42 (evl_cons rfl (evl_cons rfl (evl_cons rfl evl_nil))) (fun W hW hp hE => F_shape_two__And_ok N p0 Ap0_0 cp0_0 (hp0_0.ext (hW.extS hp)) p1 Ap1_0 cp1_0 (hp1_0.ext (hW.extS hp)) y100 hy100 hE) ?_
  intro u hu
  obtain ⟨Ay100_0, cy100_0⟩ := u
  have gy100_0 := hu
  have hgy100_0 : SlF Ay100_0 (y100.1).length cy100_0 := gy100_0 --@phi
  show Tr _ _ (uf _ 8 (.tuple #[(.slice Ay100_0 (y100.1).length cy100_0), (.int .i64 y100.2)])) (up _ 2 (ow Ay100_0 cy100_0 29 fl_TRect y100.1)) _
  refine Tr.val (wn rfl) rfl (fun _ _ h1 h2 => run_extract (h1.ev rfl) rfl) ?_
  refine Tr.val (wn rfl) rfl (fun _ _ h1 h2 => run_extract (h1.ev rfl) rfl) ?_
  refine Tr.val (wn rfl) rfl (fun _ _ h1 h2 => run_assign (h1.ev rfl)) ?_
  refine Tr.val (wn rfl) rfl (fun _ _ h1 h2 => run_assign (h1.ev rfl)) ?_
  refine Tr.nil (Tr.normThen ?_)
  refine Tr.ret ?_
  obtain rfl := Option.some.inj H
  exact Tr.out (m := [(.slice Ay100_0 (y100.1).length cy100_0), (.int .i64 y100.2)]) [] (res_tmp rfl (res_tmp rfl res_nil)) (fun W hW => ⟨(Ay100_0, cy100_0), rfl, hgy100_0, HF.lowE leB (hW.pick (ks := [2]) (by decide) (pk_cons rfl pk_nil)) ⟨ow_any _ _ _ _ tr_TRect, trivial⟩⟩)

theorem F_shape_IsPoint_ok {w : Bs} (p0 : TPoint) (r : Bool) (H : F_shape_IsPoint p0 = some r) (hE : HF w w.W E0) : Calls Try.prog 63 [(.agg #[(.int .i64 p0.X), (.int .i64 p0.Y)])].toArray w.W fun e W' => e = .returned (.bool r) ∧ HF w W' E0 := by
  unfold F_shape_IsPoint at H
  have leB := Bs.Le.refl w
  refine Tr.enter (n := 11) Try.func63 rfl rfl rfl hE ?_
  refine Tr.seq ?_
  refine Tr.region ?_
  refine Tr.box 1 (cs := [(.int .i64 p0.X), (.int .i64 p0.Y)]) (wn rfl) rfl rfl rfl fun b100 => ?_
  refine Tr.val (wn rfl) rfl (fun _ _ h1 h2 => run_assign (h1.ev rfl)) ?_
  refine Tr.nil (Tr.normThen ?_)
  refine Tr.seq ?_
  refine Tr.region ?_
  refine Tr.val (wn rfl) rfl (fun _ _ h1 h2 => run_fieldAddr fo_32_0 (h1.ev rfl)) ?_
  refine Tr.val (wn rfl) rfl (fun _ _ h1 h2 => run_load1 ag_3 (h1.ev rfl) (rdb h2 (vs := [(.int .i64 p0.X), (.int .i64 p0.Y)]) (k := 1) rfl 0) rfl) ?_
  obtain ⟨y101, hy101, H⟩ := bnd H
  refine Tr.call0 (r := (.bool y101)) (wn rfl) rfl Try.call106 (evl_cons rfl evl_nil) (fun W hW => F_shape_IsAt_ok p0.X y101 hy101 (HF.start _)) ?_
  refine Tr.val (wn rfl) rfl (fun _ _ h1 h2 => run_move (h1.ev rfl)) ?_
  obtain ⟨g103, hg103, H⟩ := bnd H
  refine Tr.mid0 4 [(10, (.bool g103))] [(1, bx b100 #[(.int .i64 p0.X), (.int .i64 p0.Y)] 32)] ?_ ?_
  · cases hg104 : y101
    · rw [hg104] at hg103
      rw [if_neg (by decide)] at hg103
      have H := hg103
      obtain rfl := Option.some.inj H
      refine Tr.pass rfl rfl rfl rfl rfl (by decide) ?_
      refine Tr.pass rfl rfl rfl rfl rfl (by decide) ?_
      refine Tr.pass rfl rfl rfl rfl rfl (by decide) ?_
      refine Tr.val (wn rfl) rfl (fun _ _ h1 h2 => run_pickF (h1.ev rfl) (h1.ev rfl)) ?_
      exact Tr.nil (Tr.fin0 (.cons rfl .nil) (.cons rfl .nil))
    · rw [hg104] at hg103
      rw [if_pos rfl] at hg103
      have H := hg103
      refine Tr.val (wg rfl rfl rfl) rfl (fun _ _ h1 h2 => run_fieldAddr fo_32_1 (h1.ev rfl)) ?_
      refine Tr.val (wg rfl rfl rfl) rfl (fun _ _ h1 h2 => run_load1 ag_3 (h1.ev rfl) (rdb h2 (vs := [(.int .i64 p0.X), (.int .i64 p0.Y)]) (k := 1) rfl 1) rfl) ?_
      obtain ⟨y104, hy104, H⟩ := bnd H
      refine Tr.call0 (r := (.bool y104)) (wg rfl rfl rfl) rfl Try.call106 (evl_cons rfl evl_nil) (fun W hW => F_shape_IsAt_ok p0.Y y104 hy104 (HF.start _)) ?_
      refine Tr.val (wn rfl) rfl (fun _ _ h1 h2 => run_pickT (h1.ev rfl) (h1.ev rfl)) ?_
      obtain rfl := Option.some.inj H
      exact Tr.nil (Tr.fin0 (.cons rfl .nil) (.cons rfl .nil))
  · show Tr _ _ (LF [(10, (.bool g103))]) (LE [(1, bx b100 #[(.int .i64 p0.X), (.int .i64 p0.Y)] 32)]) _
    refine Tr.val (wn rfl) rfl (fun _ _ h1 h2 => run_assign (h1.ev rfl)) ?_
    refine Tr.nil (Tr.normThen ?_)
    refine Tr.ret ?_
    obtain rfl := Option.some.inj H
    exact Tr.out (m := [(.bool g103)]) [] (res_tmp rfl res_nil) (fun W hW => ⟨rfl, hW.low leB⟩)

theorem F_shape_HasSquare_1_ok {w : Bs} (p0 : TRect) (q0 : TPoint) (bq0 : Nat) (hb0 : w.R bq0) (hc0 : CellsAt w.W bq0 0 [(.int .i64 q0.X), (.int .i64 q0.Y)]) (r : Bool) (H : F_shape_HasSquare_1 p0 q0 = some r) (hE : HF w w.W E0) : Calls Try.prog 118 [(.agg #[(.int .i64 p0.X0), (.int .i64 p0.Y0), (.int .i64 p0.X1), (.int .i64 p0.Y1)]), (.pointer (some ⟨bq0, 0, none⟩))].toArray w.W fun e W' => e = .returned (.bool r) ∧ HF w W' E0 := by
  unfold F_shape_HasSquare_1 at H
  have leB := Bs.Le.refl w
  refine Tr.enter (n := 30) Try.func118 rfl rfl rfl hE ?_
  refine Tr.seq ?_
  refine Tr.region ?_
  refine Tr.box 1 (cs := [(.int .i64 p0.X0), (.int .i64 p0.Y0), (.int .i64 p0.X1), (.int .i64 p0.Y1)]) (wn rfl) rfl rfl rfl fun b100 => ?_
  refine Tr.val (wn rfl) rfl (fun _ _ h1 h2 => run_assign (h1.ev rfl)) ?_
  refine Tr.nil (Tr.normThen ?_)
  refine Tr.seq ?_
  refine Tr.region ?_
  refine Tr.val (wn rfl) rfl (fun _ _ h1 h2 => run_fieldAddr fo_32_0 (h1.ev rfl)) ?_
  refine Tr.val (wn rfl) rfl (fun _ _ h1 h2 => run_load1 ag_3 (h1.ev rfl) (CellsAt.drop (rdR hb0 hc0 h2) 0) rfl) ?_
  refine Tr.val (wn rfl) rfl (fun _ _ h1 h2 => run_fieldAddr fo_29_0 (h1.ev rfl)) ?_
  refine Tr.val (wn rfl) rfl (fun _ _ h1 h2 => run_load1 ag_3 (h1.ev rfl) (rdb h2 (vs := [(.int .i64 p0.X0), (.int .i64 p0.Y0), (.int .i64 p0.X1), (.int .i64 p0.Y1)]) (k := 1) rfl 0) rfl) ?_
  refine Tr.val (wn rfl) rfl (fun _ _ h1 h2 => run_geq (h1.ev rfl) (h1.ev rfl)) ?_
  refine Tr.val (wn rfl) rfl (fun _ _ h1 h2 => run_move (h1.ev rfl)) ?_
  refine Tr.mid0 6 [(1, (.pointer (some ⟨bq0, 0, none⟩))), (2, (.pointer (some ⟨b100, 0, none⟩))), (15, (.bool ((decide (p0.X0 ≤ q0.X)) && (decide (q0.X < p0.X1)))))] [(1, bx b100 #[(.int .i64 p0.X0), (.int .i64 p0.Y0), (.int .i64 p0.X1), (.int .i64 p0.Y1)] 29)] ?_ ?_
  · cases hg100 : (decide (p0.X0 ≤ q0.X))
    · refine Tr.pass rfl rfl rfl rfl rfl (by decide) ?_
      refine Tr.pass rfl rfl rfl rfl rfl (by decide) ?_
      refine Tr.pass rfl rfl rfl rfl rfl (by decide) ?_
      refine Tr.pass rfl rfl rfl rfl rfl (by decide) ?_
      refine Tr.pass rfl rfl rfl rfl rfl (by decide) ?_
      refine Tr.val (wn rfl) rfl (fun _ _ h1 h2 => run_pickF (h1.ev rfl) (h1.ev rfl)) ?_
      exact Tr.nil (Tr.fin0 (.cons rfl (.cons rfl (.cons rfl .nil))) (.cons rfl .nil))
    · refine Tr.val (wg rfl rfl rfl) rfl (fun _ _ h1 h2 => run_fieldAddr fo_32_0 (h1.ev rfl)) ?_
      refine Tr.val (wg rfl rfl rfl) rfl (fun _ _ h1 h2 => run_load1 ag_3 (h1.ev rfl) (CellsAt.drop (rdR hb0 hc0 h2) 0) rfl) ?_
      refine Tr.val (wg rfl rfl rfl) rfl (fun _ _ h1 h2 => run_fieldAddr fo_29_2 (h1.ev rfl)) ?_
      refine Tr.val (wg rfl rfl rfl) rfl (fun _ _ h1 h2 => run_load1 ag_3 (h1.ev rfl) (rdb h2 (vs := [(.int .i64 p0.X0), (.int .i64 p0.Y0), (.int .i64 p0.X1), (.int .i64 p0.Y1)]) (k := 1) rfl 2) rfl) ?_
      refine Tr.val (wg rfl rfl rfl) rfl (fun _ _ h1 h2 => run_lss (h1.ev rfl) (h1.ev rfl)) ?_
      refine Tr.val (wn rfl) rfl (fun _ _ h1 h2 => run_pickT (h1.ev rfl) (h1.ev rfl)) ?_
      exact Tr.nil (Tr.fin0 (.cons rfl (.cons rfl (.cons rfl .nil))) (.cons rfl .nil))
  · show Tr _ _ (LF [(1, (.pointer (some ⟨bq0, 0, none⟩))), (2, (.pointer (some ⟨b100, 0, none⟩))), (15, (.bool ((decide (p0.X0 ≤ q0.X)) && (decide (q0.X < p0.X1)))))]) (LE [(1, bx b100 #[(.int .i64 p0.X0), (.int .i64 p0.Y0), (.int .i64 p0.X1), (.int .i64 p0.Y1)] 29)]) _
    refine Tr.val (wn rfl) rfl (fun _ _ h1 h2 => run_move (h1.ev rfl)) ?_
    refine Tr.mid0 6 [(1, (.pointer (some ⟨bq0, 0, none⟩))), (2, (.pointer (some ⟨b100, 0, none⟩))), (22, (.bool (((decide (p0.X0 ≤ q0.X)) && (decide (q0.X < p0.X1))) && (decide (p0.Y0 ≤ q0.Y)))))] [(1, bx b100 #[(.int .i64 p0.X0), (.int .i64 p0.Y0), (.int .i64 p0.X1), (.int .i64 p0.Y1)] 29)] ?_ ?_
    · cases hg100 : ((decide (p0.X0 ≤ q0.X)) && (decide (q0.X < p0.X1)))
      · refine Tr.pass rfl rfl rfl rfl rfl (by decide) ?_
        refine Tr.pass rfl rfl rfl rfl rfl (by decide) ?_
        refine Tr.pass rfl rfl rfl rfl rfl (by decide) ?_
        refine Tr.pass rfl rfl rfl rfl rfl (by decide) ?_
        refine Tr.pass rfl rfl rfl rfl rfl (by decide) ?_
        refine Tr.val (wn rfl) rfl (fun _ _ h1 h2 => run_pickF (h1.ev rfl) (h1.ev rfl)) ?_
        exact Tr.nil (Tr.fin0 (.cons rfl (.cons rfl (.cons rfl .nil))) (.cons rfl .nil))
      · refine Tr.val (wg rfl rfl rfl) rfl (fun _ _ h1 h2 => run_fieldAddr fo_32_1 (h1.ev rfl)) ?_
        refine Tr.val (wg rfl rfl rfl) rfl (fun _ _ h1 h2 => run_load1 ag_3 (h1.ev rfl) (CellsAt.drop (rdR hb0 hc0 h2) 1) rfl) ?_
        refine Tr.val (wg rfl rfl rfl) rfl (fun _ _ h1 h2 => run_fieldAddr fo_29_1 (h1.ev rfl)) ?_
        refine Tr.val (wg rfl rfl rfl) rfl (fun _ _ h1 h2 => run_load1 ag_3 (h1.ev rfl) (rdb h2 (vs := [(.int .i64 p0.X0), (.int .i64 p0.Y0), (.int .i64 p0.X1), (.int .i64 p0.Y1)]) (k := 1) rfl 1) rfl) ?_
        refine Tr.val (wg rfl rfl rfl) rfl (fun _ _ h1 h2 => run_geq (h1.ev rfl) (h1.ev rfl)) ?_
        refine Tr.val (wn rfl) rfl (fun _ _ h1 h2 => run_pickT (h1.ev rfl) (h1.ev rfl)) ?_
        exact Tr.nil (Tr.fin0 (.cons rfl (.cons rfl (.cons rfl .nil))) (.cons rfl .nil))
    · show Tr _ _ (LF [(1, (.pointer (some ⟨bq0, 0, none⟩))), (2, (.pointer (some ⟨b100, 0, none⟩))), (22, (.bool (((decide (p0.X0 ≤ q0.X)) && (decide (q0.X < p0.X1))) && (decide (p0.Y0 ≤ q0.Y)))))]) (LE [(1, bx b100 #[(.int .i64 p0.X0), (.int .i64 p0.Y0), (.int .i64 p0.X1), (.int .i64 p0.Y1)] 29)]) _
      refine Tr.val (wn rfl) rfl (fun _ _ h1 h2 => run_move (h1.ev rfl)) ?_
      refine Tr.mid0 6 [(29, (.bool ((((decide (p0.X0 ≤ q0.X)) && (decide (q0.X < p0.X1))) && (decide (p0.Y0 ≤ q0.Y))) && (decide (q0.Y < p0.Y1)))))] [(1, bx b100 #[(.int .i64 p0.X0), (.int .i64 p0.Y0), (.int .i64 p0.X1), (.int .i64 p0.Y1)] 29)] ?_ ?_
      · cases hg100 : (((decide (p0.X0 ≤ q0.X)) && (decide (q0.X < p0.X1))) && (decide (p0.Y0 ≤ q0.Y)))
        · refine Tr.pass rfl rfl rfl rfl rfl (by decide) ?_
          refine Tr.pass rfl rfl rfl rfl rfl (by decide) ?_
          refine Tr.pass rfl rfl rfl rfl rfl (by decide) ?_
          refine Tr.pass rfl rfl rfl rfl rfl (by decide) ?_
          refine Tr.pass rfl rfl rfl rfl rfl (by decide) ?_
          refine Tr.val (wn rfl) rfl (fun _ _ h1 h2 => run_pickF (h1.ev rfl) (h1.ev rfl)) ?_
          exact Tr.nil (Tr.fin0 (.cons rfl .nil) (.cons rfl .nil))
        · refine Tr.val (wg rfl rfl rfl) rfl (fun _ _ h1 h2 => run_fieldAddr fo_32_1 (h1.ev rfl)) ?_
          refine Tr.val (wg rfl rfl rfl) rfl (fun _ _ h1 h2 => run_load1 ag_3 (h1.ev rfl) (CellsAt.drop (rdR hb0 hc0 h2) 1) rfl) ?_
          refine Tr.val (wg rfl rfl rfl) rfl (fun _ _ h1 h2 => run_fieldAddr fo_29_3 (h1.ev rfl)) ?_
          refine Tr.val (wg rfl rfl rfl) rfl (fun _ _ h1 h2 => run_load1 ag_3 (h1.ev rfl) (rdb h2 (vs := [(.int .i64 p0.X0), (.int .i64 p0.Y0), (.int .i64 p0.X1), (.int .i64 p0.Y1)]) (k := 1) rfl 3) rfl) ?_
          refine Tr.val (wg rfl rfl rfl) rfl (fun _ _ h1 h2 => run_lss (h1.ev rfl) (h1.ev rfl)) ?_
          refine Tr.val (wn rfl) rfl (fun _ _ h1 h2 => run_pickT (h1.ev rfl) (h1.ev rfl)) ?_
          exact Tr.nil (Tr.fin0 (.cons rfl .nil) (.cons rfl .nil))
      · show Tr _ _ (LF [(29, (.bool ((((decide (p0.X0 ≤ q0.X)) && (decide (q0.X < p0.X1))) && (decide (p0.Y0 ≤ q0.Y))) && (decide (q0.Y < p0.Y1)))))]) (LE [(1, bx b100 #[(.int .i64 p0.X0), (.int .i64 p0.Y0), (.int .i64 p0.X1), (.int .i64 p0.Y1)] 29)]) _
        refine Tr.val (wn rfl) rfl (fun _ _ h1 h2 => run_assign (h1.ev rfl)) ?_
        refine Tr.nil (Tr.normThen ?_)
        refine Tr.ret ?_
        obtain rfl := Option.some.inj H
        exact Tr.out (m := [(.bool ((((decide (p0.X0 ≤ q0.X)) && (decide (q0.X < p0.X1))) && (decide (p0.Y0 ≤ q0.Y))) && (decide (q0.Y < p0.Y1))))]) [] (res_tmp rfl res_nil) (fun W hW => ⟨rfl, hW.low leB⟩)

theorem F_slices_ContainsFunc_Rect_ok {w : Bs} (p0 : (List TRect)) (Ap0_0 : Option Addr) (cp0_0 : Nat) (hp0_0 : Sl w.R w.W fl_TRect Ap0_0 cp0_0 p0) (p1 : TRect → Option Bool) (fid1 : Nat) (cap1 : List Value) (hg1 : ∀ args W, (callFunc fid1 args).run Try.prog W = .ok (.enter fid1 args) W) (hf1 : ∀ (w' : Bs), w.Ext w' → ∀ (z0 : TRect), ∀ y, p1 z0 = some y → Calls Try.prog fid1 (([(.agg #[(.int .i64 z0.X0), (.int .i64 z0.Y0), (.int .i64 z0.X1), (.int .i64 z0.Y1)])] : List Value) ++ cap1).toArray w'.W fun e W'' => e = .returned (.bool y) ∧ HF w' W'' E0) (r : Bool) (H : F_slices_ContainsFunc_Rect p0 p1 = some r) (hE : HF w w.W E0) : Calls Try.prog 117 [(.slice Ap0_0 (p0).length cp0_0), (.func (.func fid1) #[] cap1.toArray)].toArray w.W fun e W' => e = .returned (.bool r) ∧ HF w W' E0 := by
  unfold F_slices_ContainsFunc_Rect at H
  have leB := Bs.Le.refl w
  refine Tr.enter (n := 9) Try.func117 rfl rfl rfl hE ?_
  refine Tr.seq ?_
  refine Tr.region ?_
  refine Tr.val (wn rfl) rfl (fun _ _ h1 h2 => run_assign (h1.ev rfl)) ?_
  refine Tr.nil (Tr.normThen ?_)
  refine Tr.seq ?_
  refine Tr.region ?_
  refine Tr.val (wn rfl) rfl (fun _ _ h1 h2 => run_move (h1.ev rfl)) ?_
  refine Tr.val (wn rfl) rfl (fun _ _ h1 h2 => run_move (h1.ev rfl)) ?_
  obtain ⟨y100, hy100, H⟩ := bnd H
  refine Tr.call0 (r := (.int .i64 y100)) (wn rfl) rfl Try.call112 (evl_cons rfl (evl_cons rfl evl_nil)) (fun W hW => F_slices_IndexFunc_Rect_ok p0 Ap0_0 cp0_0 (hp0_0.ext hW.extAll) p1 fid1 cap1 hg1 (fun w' he => hf1 w' (hW.extAll.trans he)) y100 hy100 (HF.start _)) ?_
  refine Tr.val (wn rfl) rfl (fun _ _ h1 h2 => run_geq (h1.ev rfl) (h1.ev rfl)) ?_
  refine Tr.val (wn rfl) rfl (fun _ _ h1 h2 => run_assign (h1.ev rfl)) ?_
  refine Tr.nil (Tr.normThen ?_)
  refine Tr.ret ?_
  obtain rfl := Option.some.inj H
  exact Tr.out (m := [(.bool (decide (0 ≤ y100)))]) [] (res_tmp rfl res_nil) (fun W hW => ⟨rfl, hW.low leB⟩)

theorem F_shape_HasSquare_ok {w : Bs} (p0 : (List TRect)) (Ap0_0 : Option Addr) (cp0_0 : Nat) (hp0_0 : Sl w.R w.W fl_TRect Ap0_0 cp0_0 p0) (p1 : TPoint) (r : Bool) (H : F_shape_HasSquare p0 p1 = some r) (hE : HF w w.W E0) : Calls Try.prog 80 [(.slice Ap0_0 (p0).length cp0_0), (.agg #[(.int .i64 p1.X), (.int .i64 p1.Y)])].toArray w.W fun e W' => e = .returned (.bool r) ∧ HF w W' E0 := by
  unfold F_shape_HasSquare at H
  have leB := Bs.Le.refl w
  refine Tr.enter (n := 8) Try.func80 rfl rfl rfl hE ?_
  refine Tr.seq ?_
  refine Tr.region ?_
  refine Tr.box 1 (cs := [(.int .i64 p1.X), (.int .i64 p1.Y)]) (wn rfl) rfl rfl rfl fun b100 => ?_
  refine Tr.val (wn rfl) rfl (fun _ _ h1 h2 => run_assign (h1.ev rfl)) ?_
  refine Tr.nil (Tr.normThen ?_)
  refine Tr.seq ?_
  refine Tr.region ?_
  refine Tr.val (wn rfl) rfl (fun _ _ h1 h2 => run_move (h1.ev rfl)) ?_
  refine Tr.mkFunc (vs := [(.pointer (some ⟨b100, 0, none⟩))]) (wn rfl) rfl (evl_cons rfl evl_nil) ?_
  obtain ⟨y101, hy101, H⟩ := bnd H
  refine Tr.call0 (r := (.bool y101)) (wn rfl) rfl Try.call117 (evl_cons rfl (evl_cons rfl evl_nil)) (fun W hW => F_slices_ContainsFunc_Rect_ok p0 Ap0_0 cp0_0 (hp0_0.ext hW.extAll) (fun z0 => F_shape_HasSquare_1 z0 p1) 118 [(.pointer (some ⟨b100, 0, none⟩))] Try.call118 (fun w' he z0 y hy => F_shape_HasSquare_1_ok z0 p1 b100 (he.r _ (hW.capR (k := 1) rfl)) (he.cells (hW.capR (k := 1) rfl) (hW.capC (k := 1) rfl)) y hy (HF.start _)) y101 hy101 (HF.start _)) ?_
  refine Tr.val (wn rfl) rfl (fun _ _ h1 h2 => run_assign (h1.ev rfl)) ?_
  refine Tr.nil (Tr.normThen ?_)
  refine Tr.ret ?_
  obtain rfl := Option.some.inj H
  exact Tr.out (m := [(.bool y101)]) [] (res_tmp rfl res_nil) (fun W hW => ⟨rfl, hW.low leB⟩)

theorem F_shape_Has_ok (N : Nat) {w : Bs} (p0 : (List TRect)) (Ap0_0 : Option Addr) (cp0_0 : Nat) (hp0_0 : Sl w.R w.W fl_TRect Ap0_0 cp0_0 p0) (p1 : TPoint) (r : (Bool × Int)) (H : F_shape_Has N p0 p1 = some r) (hE : HF w w.W E0) : Calls Try.prog 44 [(.slice Ap0_0 (p0).length cp0_0), (.agg #[(.int .i64 p1.X), (.int .i64 p1.Y)])].toArray w.W fun e W' => e = .returned (.tuple #[(.bool r.1), (.int .i64 r.2)]) ∧ HF w W' E0 := by
  unfold F_shape_Has at H
  have leB := Bs.Le.refl w
  refine Tr.enter (n := 18) Try.func44 rfl rfl rfl hE ?_
  refine Tr.seq ?_
  refine Tr.region ?_
  refine Tr.box 1 (cs := [(.int .i64 p1.X), (.int .i64 p1.Y)]) (wn rfl) rfl rfl rfl fun b100 => ?_
  refine Tr.val (wn rfl) rfl (fun _ _ h1 h2 => run_assign (h1.ev rfl)) ?_
  refine Tr.val (wn rfl) rfl (fun _ _ h1 h2 => run_assign (h1.ev rfl)) ?_
  refine Tr.nil (Tr.normThen ?_)
  refine Tr.seq ?_
  refine Tr.seq ?_
  refine Tr.region ?_
  refine Tr.val (wn rfl) rfl (fun _ _ h1 h2 => run_move (h1.ev rfl)) ?_
  obtain ⟨y101, hy101, H⟩ := bnd H
  refine Tr.call0 (r := (.int .i64 y101)) (wn rfl) rfl Try.call18 (evl_cons rfl evl_nil) (fun W hW => F_shape_CheckRegion_ok N p0 Ap0_0 cp0_0 (hp0_0.ext hW.extAll) y101 hy101 (HF.start _)) ?_
  refine Tr.val (wn rfl) rfl (fun _ _ h1 h2 => run_assign (h1.ev rfl)) ?_
  refine Tr.nil (Tr.normThen ?_)
  refine Tr.seq ?_
  refine Tr.region ?_
  refine Tr.val (wn rfl) rfl (fun _ _ h1 h2 => run_move (h1.ev rfl)) ?_
  refine Tr.val (wn rfl) rfl (fun _ _ h1 h2 => run_neq (h1.ev rfl) (h1.ev rfl)) ?_
  refine Tr.nil (Tr.normThen ?_)
  refine Tr.cond rfl H (fun H => ?_) (fun H => ?_)
  · refine Tr.seq ?_
    refine Tr.region ?_
    refine Tr.val (wn rfl) rfl (fun _ _ h1 h2 => run_move (h1.ev rfl)) ?_
    refine Tr.val (wn rfl) rfl (fun _ _ h1 h2 => run_assign (h1.ev rfl)) ?_
    refine Tr.val (wn rfl) rfl (fun _ _ h1 h2 => run_assign (h1.ev rfl)) ?_
    refine Tr.nil (Tr.normThen ?_)
    refine Tr.ret (Tr.retThen ?_)
    obtain rfl := Option.some.inj H
    exact Tr.out (m := [(.bool false), (.int .i64 y101)]) [] (res_tmp rfl (res_tmp rfl res_nil)) (fun W hW => ⟨rfl, hW.low leB⟩)
  · refine Tr.skip (Tr.normThen ?_)
    refine Tr.seq ?_
    refine Tr.seq ?_
    refine Tr.region ?_
    refine Tr.val (wn rfl) rfl (fun _ _ h1 h2 => run_loadN (cs := [(.int .i64 p1.X), (.int .i64 p1.Y)]) ag_32 sz_32 (h1.ev rfl) (CellsAt.take (rdb h2 (vs := [(.int .i64 p1.X), (.int .i64 p1.Y)]) (k := 1) rfl 0) 2) rfl) ?_
    obtain ⟨y102, hy102, H⟩ := bnd H
    refine Tr.call0 (r := (.bool y102)) (wn rfl) rfl Try.call63 (evl_cons rfl evl_nil) (fun W hW => F_shape_IsPoint_ok p1 y102 hy102 (HF.start _)) ?_
    refine Tr.val (wn rfl) rfl (fun _ _ h1 h2 => run_not (h1.ev rfl)) ?_
    refine Tr.nil (Tr.normThen ?_)
    refine Tr.cond rfl H (fun H => ?_) (fun H => ?_)
    · refine Tr.seq ?_
      refine Tr.region ?_
      refine Tr.val (wn rfl) rfl (fun _ _ h1 h2 => run_assign (h1.ev rfl)) ?_
      refine Tr.val (wn rfl) rfl (fun _ _ h1 h2 => run_assign (h1.ev rfl)) ?_
      refine Tr.nil (Tr.normThen ?_)
      refine Tr.ret (Tr.retThen ?_)
      obtain rfl := Option.some.inj H
      exact Tr.out (m := [(.bool false), (.int .i64 1)]) [] (res_tmp rfl (res_tmp rfl res_nil)) (fun W hW => ⟨rfl, hW.low leB⟩)
    · refine Tr.skip (Tr.normThen ?_)
      refine Tr.seq ?_
      refine Tr.region ?_
      refine Tr.val (wn rfl) rfl (fun _ _ h1 h2 => run_move (h1.ev rfl)) ?_
      refine Tr.val (wn rfl) rfl (fun _ _ h1 h2 => run_loadN (cs := [(.int .i64 p1.X), (.int .i64 p1.Y)]) ag_32 sz_32 (h1.ev rfl) (CellsAt.take (rdb h2 (vs := [(.int .i64 p1.X), (.int .i64 p1.Y)]) (k := 1) rfl 0) 2) rfl) ?_
      obtain ⟨y103, hy103, H⟩ := bnd H
      refine Tr.call0 (r := (.bool y103)) (wn rfl) rfl Try.call80 (evl_cons rfl (evl_cons rfl evl_nil)) (fun W hW => F_shape_HasSquare_ok p0 Ap0_0 cp0_0 (hp0_0.ext hW.extAll) p1 y103 hy103 (HF.start _)) ?_
      refine Tr.val (wn rfl) rfl (fun _ _ h1 h2 => run_assign (h1.ev rfl)) ?_
      refine Tr.val (wn rfl) rfl (fun _ _ h1 h2 => run_assign (h1.ev rfl)) ?_
      refine Tr.nil (Tr.normThen ?_)
      refine Tr.ret ?_
      obtain rfl := Option.some.inj H
      exact Tr.out (m := [(.bool y103), (.int .i64 0)]) [] (res_tmp rfl (res_tmp rfl res_nil)) (fun W hW => ⟨rfl, hW.low leB⟩)

theorem F_etchhouselaw1_has_ok (N : Nat) {w : Bs} (p0 : (List TRect)) (Ap0_0 : Option Addr) (cp0_0 : Nat) (hp0_0 : Sl w.R w.W fl_TRect Ap0_0 cp0_0 p0) (p1 : TPoint) (r : Bool) (H : F_etchhouselaw1_has N p0 p1 = some r) (hE : HF w w.W E0) : Calls Try.prog 20 [(.slice Ap0_0 (p0).length cp0_0), (.agg #[(.int .i64 p1.X), (.int .i64 p1.Y)])].toArray w.W fun e W' => e = .returned (.bool r) ∧ HF w W' E0 := by
  unfold F_etchhouselaw1_has at H
  have leB := Bs.Le.refl w
  refine Tr.enter (n := 18) Try.func20 rfl rfl rfl hE ?_
  refine Tr.seq ?_
  refine Tr.region ?_
  refine Tr.box 1 (cs := [(.int .i64 p1.X), (.int .i64 p1.Y)]) (wn rfl) rfl rfl rfl fun b100 => ?_
  refine Tr.val (wn rfl) rfl (fun _ _ h1 h2 => run_assign (h1.ev rfl)) ?_
  refine Tr.nil (Tr.normThen ?_)
  refine Tr.seq ?_
  refine Tr.region ?_
  refine Tr.val (wn rfl) rfl (fun _ _ h1 h2 => run_move (h1.ev rfl)) ?_
  refine Tr.val (wn rfl) rfl (fun _ _ h1 h2 => run_loadN (cs := [(.int .i64 p1.X), (.int .i64 p1.Y)]) ag_32 sz_32 (h1.ev rfl) (CellsAt.take (rdb h2 (vs := [(.int .i64 p1.X), (.int .i64 p1.Y)]) (k := 1) rfl 0) 2) rfl) ?_
  obtain ⟨y101, hy101, H⟩ := bnd H
  refine Tr.call0 (r := (.tuple #[(.bool y101.1), (.int .i64 y101.2)])) (wn rfl) rfl Try.call44 (evl_cons rfl (evl_cons rfl evl_nil)) (fun W hW => F_shape_Has_ok N p0 Ap0_0 cp0_0 (hp0_0.ext hW.extAll) p1 y101 hy101 (HF.start _)) ?_
  refine Tr.val (wn rfl) rfl (fun _ _ h1 h2 => run_move (h1.ev rfl)) ?_
  refine Tr.val (wn rfl) rfl (fun _ _ h1 h2 => run_extract (h1.ev rfl) rfl) ?_
  refine Tr.val (wn rfl) rfl (fun _ _ h1 h2 => run_extract (h1.ev rfl) rfl) ?_
  refine Tr.val (wn rfl) rfl (fun _ _ h1 h2 => run_assign (h1.ev rfl)) ?_
  refine Tr.val (wn rfl) rfl (fun _ _ h1 h2 => run_assign (h1.ev rfl)) ?_
  refine Tr.nil (Tr.normThen ?_)
  refine Tr.seq ?_
  refine Tr.region ?_
  refine Tr.val (wn rfl) rfl (fun _ _ h1 h2 => run_move (h1.ev rfl)) ?_
  refine Tr.val (wn rfl) rfl (fun _ _ h1 h2 => run_eql (h1.ev rfl) (h1.ev rfl)) ?_
  refine Tr.val (wn rfl) rfl (fun _ _ h1 h2 => run_move (h1.ev rfl)) ?_
  refine Tr.mid0 2 [(17, (.bool ((y101.2 == 0) && y101.1)))] [(1, bx b100 #[(.int .i64 p1.X), (.int .i64 p1.Y)] 32)] ?_ ?_
  · cases hg101 : (y101.2 == 0)
    · refine Tr.pass rfl rfl rfl rfl rfl (by decide) ?_
      refine Tr.val (wn rfl) rfl (fun _ _ h1 h2 => run_pickF (h1.ev rfl) (h1.ev rfl)) ?_
      exact Tr.nil (Tr.fin0 (.cons rfl .nil) (.cons rfl .nil))
    · refine Tr.val (wg rfl rfl rfl) rfl (fun _ _ h1 h2 => run_move (h1.ev rfl)) ?_
      refine Tr.val (wn rfl) rfl (fun _ _ h1 h2 => run_pickT (h1.ev rfl) (h1.ev rfl)) ?_
      exact Tr.nil (Tr.fin0 (.cons rfl .nil) (.cons rfl .nil))
  · show Tr _ _ (LF [(17, (.bool ((y101.2 == 0) && y101.1)))]) (LE [(1, bx b100 #[(.int .i64 p1.X), (.int .i64 p1.Y)] 32)]) _
    refine Tr.val (wn rfl) rfl (fun _ _ h1 h2 => run_assign (h1.ev rfl)) ?_
    refine Tr.nil (Tr.normThen ?_)
    refine Tr.ret ?_
    obtain rfl := Option.some.inj H
    exact Tr.out (m := [(.bool ((y101.2 == 0) && y101.1))]) [] (res_tmp rfl res_nil) (fun W hW => ⟨rfl, hW.low leB⟩)

theorem F_etchhouselaw1_GrowsByPoints_ok (N : Nat) {w : Bs} (p0 : (List TRect)) (Ap0_0 : Option Addr) (cp0_0 : Nat) (hp0_0 : Sl w.R w.W fl_TRect Ap0_0 cp0_0 p0) (p1 : Int) (p2 : TPoint) (r : Bool) (H : F_etchhouselaw1_GrowsByPoints N p0 p1 p2 = some r) (hE : HF w w.W E0) : Calls Try.prog 4 [(.slice Ap0_0 (p0).length cp0_0), (.int .i64 p1), (.agg #[(.int .i64 p2.X), (.int .i64 p2.Y)])].toArray w.W fun e W' => e = .returned (.bool r) ∧ HF w W' E0 := by
  unfold F_etchhouselaw1_GrowsByPoints at H
  have leB := Bs.Le.refl w
  refine Tr.enter (n := 125) Try.func4 rfl rfl rfl hE ?_
  refine Tr.seq ?_
  refine Tr.region ?_
  refine Tr.box 1 (cs := [(.int .i64 p2.X), (.int .i64 p2.Y)]) (wn rfl) rfl rfl rfl fun b100 => ?_
  refine Tr.val (wn rfl) rfl (fun _ _ h1 h2 => run_assign (h1.ev rfl)) ?_
  refine Tr.nil (Tr.normThen ?_)
  refine Tr.seq ?_
  refine Tr.region ?_
  refine Tr.val (wn rfl) rfl (fun _ _ h1 h2 => run_move (h1.ev rfl)) ?_
  refine Tr.val (wn rfl) rfl (fun _ _ h1 h2 => run_move (h1.ev rfl)) ?_
  obtain ⟨y101, hy101, H⟩ := bnd H
  refine Tr.callM [2] [emp] (U := (Option Addr × Nat)) (fun u => (.tuple #[(.slice u.1 (y101.1).length u.2), (.int .i64 y101.2)])) (fun u => SlF u.1 (y101.1).length u.2) (fun u => [ow u.1 u.2 29 fl_TRect y101.1]) rfl (pk_cons rfl pk_nil) (fun _ => rfl) (wn rfl) rfl Try.call11 (evl_cons rfl (evl_cons rfl evl_nil)) (fun W hW hp hE => F_shape_Grow_ok N p0 Ap0_0 cp0_0 (hp0_0.ext (hW.extS hp)) p1 y101 hy101 hE) ?_
  intro u hu
  obtain ⟨Ay101_0, cy101_0⟩ := u
  have gy101_0 := hu
  have hgy101_0 : SlF Ay101_0 (y101.1).length cy101_0 := gy101_0 --@phi
  show Tr _ _ (uf _ 17 (.tuple #[(.slice Ay101_0 (y101.1).length cy101_0), (.int .i64 y101.2)])) (up _ 2 (ow Ay101_0 cy101_0 29 fl_TRect y101.1)) _
  refine Tr.val (wn rfl) rfl (fun _ _ h1 h2 => run_move (h1.ev rfl)) ?_
  refine Tr.val (wn rfl) rfl (fun _ _ h1 h2 => run_extract (h1.ev rfl) rfl) ?_
  refine Tr.val (wn rfl) rfl (fun _ _ h1 h2 => run_extract (h1.ev rfl) rfl) ?_
  refine Tr.val (wn rfl) rfl (fun _ _ h1 h2 => run_assign (h1.ev rfl)) ?_
  refine Tr.val (wn rfl) rfl (fun _ _ h1 h2 => run_assign (h1.ev rfl)) ?_
  refine Tr.nil (Tr.normThen ?_)
  refine Tr.seq ?_
  refine Tr.region ?_
  refine Tr.val (wn rfl) rfl (fun _ _ h1 h2 => run_move (h1.ev rfl)) ?_
  refine Tr.val (wn rfl) rfl (fun _ _ h1 h2 => run_move (h1.ev rfl)) ?_
  obtain ⟨y103, hy103, H⟩ := bnd H
  refine Tr.callM [3] [emp] (U := (Option Addr × Nat)) (fun u => (.tuple #[(.slice u.1 (y103.1).length u.2), (.int .i64 y103.2)])) (fun u => SlF u.1 (y103.1).length u.2) (fun u => [ow u.1 u.2 29 fl_TRect y103.1]) rfl (pk_cons rfl pk_nil) (fun _ => rfl) (wn rfl) rfl Try.call17 (evl_cons rfl (evl_cons rfl evl_nil)) (fun W hW hp hE => F_shape_Shrink_ok N p0 Ap0_0 cp0_0 (hp0_0.ext (hW.extS hp)) p1 y103 hy103 hE) ?_
  intro u hu
  obtain ⟨Ay103_0, cy103_0⟩ := u
  have gy103_0 := hu
  have hgy103_0 : SlF Ay103_0 (y103.1).length cy103_0 := gy103_0 --@phi
  show Tr _ _ (uf _ 23 (.tuple #[(.slice Ay103_0 (y103.1).length cy103_0), (.int .i64 y103.2)])) (up _ 3 (ow Ay103_0 cy103_0 29 fl_TRect y103.1)) _
  refine Tr.val (wn rfl) rfl (fun _ _ h1 h2 => run_move (h1.ev rfl)) ?_
  refine Tr.val (wn rfl) rfl (fun _ _ h1 h2 => run_extract (h1.ev rfl) rfl) ?_
  refine Tr.val (wn rfl) rfl (fun _ _ h1 h2 => run_extract (h1.ev rfl) rfl) ?_
  refine Tr.val (wn rfl) rfl (fun _ _ h1 h2 => run_assign (h1.ev rfl)) ?_
  refine Tr.val (wn rfl) rfl (fun _ _ h1 h2 => run_assign (h1.ev rfl)) ?_
  refine Tr.nil (Tr.normThen ?_)
  refine Tr.seq ?_
  refine Tr.region ?_
  refine Tr.val (wn rfl) rfl (fun _ _ h1 h2 => run_fieldAddr fo_32_0 (h1.ev rfl)) ?_
  refine Tr.val (wn rfl) rfl (fun _ _ h1 h2 => run_load1 ag_3 (h1.ev rfl) (rdb h2 (vs := [(.int .i64 p2.X), (.int .i64 p2.Y)]) (k := 1) rfl 0) rfl) ?_
  refine Tr.val (wn rfl) rfl (fun _ _ h1 h2 => run_move (h1.ev rfl)) ?_
  refine Tr.val (wn rfl) rfl (fun _ _ h1 h2 => run_sub (h1.ev rfl) (h1.ev rfl)) ?_
  refine Tr.val (wn rfl) rfl (fun _ _ h1 h2 => run_fieldAddr fo_32_1 (h1.ev rfl)) ?_
  refine Tr.val (wn rfl) rfl (fun _ _ h1 h2 => run_load1 ag_3 (h1.ev rfl) (rdb h2 (vs := [(.int .i64 p2.X), (.int .i64 p2.Y)]) (k := 1) rfl 1) rfl) ?_
  refine Tr.val (wn rfl) rfl (fun _ _ h1 h2 => run_move (h1.ev rfl)) ?_
  refine Tr.val (wn rfl) rfl (fun _ _ h1 h2 => run_sub (h1.ev rfl) (h1.ev rfl)) ?_
  refine Tr.val (wn rfl) rfl (fun _ _ h1 h2 => run_fieldAddr fo_32_0 (h1.ev rfl)) ?_
  refine Tr.val (wn rfl) rfl (fun _ _ h1 h2 => run_load1 ag_3 (h1.ev rfl) (rdb h2 (vs := [(.int .i64 p2.X), (.int .i64 p2.Y)]) (k := 1) rfl 0) rfl) ?_
  refine Tr.val (wn rfl) rfl (fun _ _ h1 h2 => run_move (h1.ev rfl)) ?_
  refine Tr.val (wn rfl) rfl (fun _ _ h1 h2 => run_add (h1.ev rfl) (h1.ev rfl)) ?_
  refine Tr.val (wn rfl) rfl (fun _ _ h1 h2 => run_add (h1.ev rfl) (h1.ev rfl)) ?_
  refine Tr.val (wn rfl) rfl (fun _ _ h1 h2 => run_fieldAddr fo_32_1 (h1.ev rfl)) ?_
  refine Tr.val (wn rfl) rfl (fun _ _ h1 h2 => run_load1 ag_3 (h1.ev rfl) (rdb h2 (vs := [(.int .i64 p2.X), (.int .i64 p2.Y)]) (k := 1) rfl 1) rfl) ?_
  refine Tr.val (wn rfl) rfl (fun _ _ h1 h2 => run_move (h1.ev rfl)) ?_
  refine Tr.val (wn rfl) rfl (fun _ _ h1 h2 => run_add (h1.ev rfl) (h1.ev rfl)) ?_
  refine Tr.val (wn rfl) rfl (fun _ _ h1 h2 => run_add (h1.ev rfl) (h1.ev rfl)) ?_
  refine Tr.build (vs := [(0, (.int .i64 (w64 (p2.X - p1)))), (1, (.int .i64 (w64 (p2.Y - p1)))), (2, (.int .i64 (w64 ((w64 (p2.X + p1)) + 1)))), (3, (.int .i64 (w64 ((w64 (p2.Y + p1)) + 1))))]) (cs := [(.int .i64 (w64 (p2.X - p1))), (.int .i64 (w64 (p2.Y - p1))), (.int .i64 (w64 ((w64 (p2.X + p1)) + 1))), (.int .i64 (w64 ((w64 (p2.Y + p1)) + 1)))]) (wn rfl) rfl (evs_cons rfl (evs_cons rfl (evs_cons rfl (evs_cons rfl evs_nil)))) (by kernel_rfl) ?_
  refine Tr.buildSlice 4 (e := 29) (vs := [(0, (.agg #[(.int .i64 (w64 (p2.X - p1))), (.int .i64 (w64 (p2.Y - p1))), (.int .i64 (w64 ((w64 (p2.X + p1)) + 1))), (.int .i64 (w64 ((w64 (p2.Y + p1)) + 1)))]))]) (cs := [(.int .i64 (w64 (p2.X - p1))), (.int .i64 (w64 (p2.Y - p1))), (.int .i64 (w64 ((w64 (p2.X + p1)) + 1))), (.int .i64 (w64 ((w64 (p2.Y + p1)) + 1)))]) (wn rfl) rfl (evs_cons rfl evs_nil) (by kernel_rfl) fun b105 => ?_
  refine Tr.own 4 fl_TRect [(TRect.mk (w64 (p2.X - p1)) (w64 (p2.Y - p1)) (w64 ((w64 (p2.X + p1)) + 1)) (w64 ((w64 (p2.Y + p1)) + 1)))] (css := [[(.int .i64 (w64 (p2.X - p1))), (.int .i64 (w64 (p2.Y - p1))), (.int .i64 (w64 ((w64 (p2.X + p1)) + 1))), (.int .i64 (w64 ((w64 (p2.Y + p1)) + 1)))]]) rfl (.cons ⟨(), trivial, rfl⟩ .nil) rfl (by decide) (lit_max rfl) ?_
  refine Tr.val (wn rfl) rfl (fun _ _ h1 h2 => run_assign (h1.ev rfl)) ?_
  refine Tr.nil (Tr.normThen ?_)
  refine Tr.seq ?_
  refine Tr.seq ?_
  refine Tr.region ?_
  refine Tr.val (wn rfl) rfl (fun _ _ h1 h2 => run_move (h1.ev rfl)) ?_
  refine Tr.val (wn rfl) rfl (fun _ _ h1 h2 => run_neq (h1.ev rfl) (h1.ev rfl)) ?_
  refine Tr.val (wn rfl) rfl (fun _ _ h1 h2 => run_move (h1.ev rfl)) ?_
  refine Tr.mid0 3 [(0, (.slice Ap0_0 (p0).length cp0_0)), (5, (.pointer (some ⟨b100, 0, none⟩))), (7, (.slice Ay101_0 (y101.1).length cy101_0)), (8, (.int .i64 y101.2)), (9, (.slice Ay103_0 (y103.1).length cy103_0)), (10, (.int .i64 y103.2)), (11, (.slice (some ⟨b105, 0, none⟩) 1 1)), (51, (.bool ((y101.2 != 0) || (y103.2 != 0))))] [(1, bx b100 #[(.int .i64 p2.X), (.int .i64 p2.Y)] 32), (2, ow Ay101_0 cy101_0 29 fl_TRect y101.1), (3, ow Ay103_0 cy103_0 29 fl_TRect y103.1), (4, ow (some ⟨b105, 0, none⟩) 1 29 fl_TRect [(TRect.mk (w64 (p2.X - p1)) (w64 (p2.Y - p1)) (w64 ((w64 (p2.X + p1)) + 1)) (w64 ((w64 (p2.Y + p1)) + 1)))])] ?_ ?_
  · cases hg124 : (y101.2 != 0)
    · refine Tr.val (wg rfl rfl rfl) rfl (fun _ _ h1 h2 => run_move (h1.ev rfl)) ?_
      refine Tr.val (wg rfl rfl rfl) rfl (fun _ _ h1 h2 => run_neq (h1.ev rfl) (h1.ev rfl)) ?_
      refine Tr.val (wn rfl) rfl (fun _ _ h1 h2 => run_pickF (h1.ev rfl) (h1.ev rfl)) ?_
      exact Tr.nil (Tr.fin0 (.cons rfl (.cons rfl (.cons rfl (.cons rfl (.cons rfl (.cons rfl (.cons rfl (.cons rfl .nil)))))))) (.cons rfl (.cons rfl (.cons rfl (.cons rfl .nil)))))
    · refine Tr.pass rfl rfl rfl rfl rfl (by decide) ?_
      refine Tr.pass rfl rfl rfl rfl rfl (by decide) ?_
      refine Tr.val (wn rfl) rfl (fun _ _ h1 h2 => run_pickT (h1.ev rfl) (h1.ev rfl)) ?_
      exact Tr.nil (Tr.fin0 (.cons rfl (.cons rfl (.cons rfl (.cons rfl (.cons rfl (.cons rfl (.cons rfl (.cons rfl .nil)))))))) (.cons rfl (.cons rfl (.cons rfl (.cons rfl .nil)))))
  · show Tr _ _ (LF [(0, (.slice Ap0_0 (p0).length cp0_0)), (5, (.pointer (some ⟨b100, 0, none⟩))), (7, (.slice Ay101_0 (y101.1).length cy101_0)), (8, (.int .i64 y101.2)), (9, (.slice Ay103_0 (y103.1).length cy103_0)), (10, (.int .i64 y103.2)), (11, (.slice (some ⟨b105, 0, none⟩) 1 1)), (51, (.bool ((y101.2 != 0) || (y103.2 != 0))))]) (LE [(1, bx b100 #[(.int .i64 p2.X), (.int .i64 p2.Y)] 32), (2, ow Ay101_0 cy101_0 29 fl_TRect y101.1), (3, ow Ay103_0 cy103_0 29 fl_TRect y103.1), (4, ow (some ⟨b105, 0, none⟩) 1 29 fl_TRect [(TRect.mk (w64 (p2.X - p1)) (w64 (p2.Y - p1)) (w64 ((w64 (p2.X + p1)) + 1)) (w64 ((w64 (p2.Y + p1)) + 1)))])]) _
    refine Tr.val (wn rfl) rfl (fun _ _ h1 h2 => run_move (h1.ev rfl)) ?_
    refine Tr.mid0 4 [(0, (.slice Ap0_0 (p0).length cp0_0)), (5, (.pointer (some ⟨b100, 0, none⟩))), (7, (.slice Ay101_0 (y101.1).length cy101_0)), (8, (.int .i64 y101.2)), (9, (.slice Ay103_0 (y103.1).length cy103_0)), (10, (.int .i64 y103.2)), (11, (.slice (some ⟨b105, 0, none⟩) 1 1)), (56, (.bool (((y101.2 != 0) || (y103.2 != 0)) || (decide (p2.X < (-1000000))))))] [(1, bx b100 #[(.int .i64 p2.X), (.int .i64 p2.Y)] 32), (2, ow Ay101_0 cy101_0 29 fl_TRect y101.1), (3, ow Ay103_0 cy103_0 29 fl_TRect y103.1), (4, ow (some ⟨b105, 0, none⟩) 1 29 fl_TRect [(TRect.mk (w64 (p2.X - p1)) (w64 (p2.Y - p1)) (w64 ((w64 (p2.X + p1)) + 1)) (w64 ((w64 (p2.Y + p1)) + 1)))])] ?_ ?_
    · cases hg124 : ((y101.2 != 0) || (y103.2 != 0))
      · refine Tr.val (wg rfl rfl rfl) rfl (fun _ _ h1 h2 => run_fieldAddr fo_32_0 (h1.ev rfl)) ?_
        refine Tr.val (wg rfl rfl rfl) rfl (fun _ _ h1 h2 => run_load1 ag_3 (h1.ev rfl) (rdb h2 (vs := [(.int .i64 p2.X), (.int .i64 p2.Y)]) (k := 1) rfl 0) rfl) ?_
        refine Tr.val (wg rfl rfl rfl) rfl (fun _ _ h1 h2 => run_lss (h1.ev rfl) (h1.ev rfl)) ?_
        refine Tr.val (wn rfl) rfl (fun _ _ h1 h2 => run_pickF (h1.ev rfl) (h1.ev rfl)) ?_
        exact Tr.nil (Tr.fin0 (.cons rfl (.cons rfl (.cons rfl (.cons rfl (.cons rfl (.cons rfl (.cons rfl (.cons rfl .nil)))))))) (.cons rfl (.cons rfl (.cons rfl (.cons rfl .nil)))))
      · refine Tr.pass rfl rfl rfl rfl rfl (by decide) ?_
        refine Tr.pass rfl rfl rfl rfl rfl (by decide) ?_
        refine Tr.pass rfl rfl rfl rfl rfl (by decide) ?_
        refine Tr.val (wn rfl) rfl (fun _ _ h1 h2 => run_pickT (h1.ev rfl) (h1.ev rfl)) ?_
        exact Tr.nil (Tr.fin0 (.cons rfl (.cons rfl (.cons rfl (.cons rfl (.cons rfl (.cons rfl (.cons rfl (.cons rfl .nil)))))))) (.cons rfl (.cons rfl (.cons rfl (.cons rfl .nil)))))
    · show Tr _ _ (LF [(0, (.slice Ap0_0 (p0).length cp0_0)), (5, (.pointer (some ⟨b100, 0, none⟩))), (7, (.slice Ay101_0 (y101.1).length cy101_0)), (8, (.int .i64 y101.2)), (9, (.slice Ay103_0 (y103.1).length cy103_0)), (10, (.int .i64 y103.2)), (11, (.slice (some ⟨b105, 0, none⟩) 1 1)), (56, (.bool (((y101.2 != 0) || (y103.2 != 0)) || (decide (p2.X < (-1000000))))))]) (LE [(1, bx b100 #[(.int .i64 p2.X), (.int .i64 p2.Y)] 32), (2, ow Ay101_0 cy101_0 29 fl_TRect y101.1), (3, ow Ay103_0 cy103_0 29 fl_TRect y103.1), (4, ow (some ⟨b105, 0, none⟩) 1 29 fl_TRect [(TRect.mk (w64 (p2.X - p1)) (w64 (p2.Y - p1)) (w64 ((w64 (p2.X + p1)) + 1)) (w64 ((w64 (p2.Y + p1)) + 1)))])]) _
      refine Tr.val (wn rfl) rfl (fun _ _ h1 h2 => run_move (h1.ev rfl)) ?_
      refine Tr.mid0 4 [(0, (.slice Ap0_0 (p0).length cp0_0)), (5, (.pointer (some ⟨b100, 0, none⟩))), (7, (.slice Ay101_0 (y101.1).length cy101_0)), (8, (.int .i64 y101.2)), (9, (.slice Ay103_0 (y103.1).length cy103_0)), (10, (.int .i64 y103.2)), (11, (.slice (some ⟨b105, 0, none⟩) 1 1)), (61, (.bool ((((y101.2 != 0) || (y103.2 != 0)) || (decide (p2.X < (-1000000)))) || (decide (1000000 < p2.X)))))] [(1, bx b100 #[(.int .i64 p2.X), (.int .i64 p2.Y)] 32), (2, ow Ay101_0 cy101_0 29 fl_TRect y101.1), (3, ow Ay103_0 cy103_0 29 fl_TRect y103.1), (4, ow (some ⟨b105, 0, none⟩) 1 29 fl_TRect [(TRect.mk (w64 (p2.X - p1)) (w64 (p2.Y - p1)) (w64 ((w64 (p2.X + p1)) + 1)) (w64 ((w64 (p2.Y + p1)) + 1)))])] ?_ ?_
      · cases hg124 : (((y101.2 != 0) || (y103.2 != 0)) || (decide (p2.X < (-1000000))))
        · refine Tr.val (wg rfl rfl rfl) rfl (fun _ _ h1 h2 => run_fieldAddr fo_32_0 (h1.ev rfl)) ?_
          refine Tr.val (wg rfl rfl rfl) rfl (fun _ _ h1 h2 => run_load1 ag_3 (h1.ev rfl) (rdb h2 (vs := [(.int .i64 p2.X), (.int .i64 p2.Y)]) (k := 1) rfl 0) rfl) ?_
          refine Tr.val (wg rfl rfl rfl) rfl (fun _ _ h1 h2 => run_gtr (h1.ev rfl) (h1.ev rfl)) ?_
          refine Tr.val (wn rfl) rfl (fun _ _ h1 h2 => run_pickF (h1.ev rfl) (h1.ev rfl)) ?_
          exact Tr.nil (Tr.fin0 (.cons rfl (.cons rfl (.cons rfl (.cons rfl (.cons rfl (.cons rfl (.cons rfl (.cons rfl .nil)))))))) (.cons rfl (.cons rfl (.cons rfl (.cons rfl .nil)))))
        · refine Tr.pass rfl rfl rfl rfl rfl (by decide) ?_
          refine Tr.pass rfl rfl rfl rfl rfl (by decide) ?_
          refine Tr.pass rfl rfl rfl rfl rfl (by decide) ?_
          refine Tr.val (wn rfl) rfl (fun _ _ h1 h2 => run_pickT (h1.ev rfl) (h1.ev rfl)) ?_
          exact Tr.nil (Tr.fin0 (.cons rfl (.cons rfl (.cons rfl (.cons rfl (.cons rfl (.cons rfl (.cons rfl (.cons rfl .nil)))))))) (.cons rfl (.cons rfl (.cons rfl (.cons rfl .nil)))))
      · show Tr _ _ (LF [(0, (.slice Ap0_0 (p0).length cp0_0)), (5, (.pointer (some ⟨b100, 0, none⟩))), (7, (.slice Ay101_0 (y101.1).length cy101_0)), (8, (.int .i64 y101.2)), (9, (.slice Ay103_0 (y103.1).length cy103_0)), (10, (.int .i64 y103.2)), (11, (.slice (some ⟨b105, 0, none⟩) 1 1)), (61, (.bool ((((y101.2 != 0) || (y103.2 != 0)) || (decide (p2.X < (-1000000)))) || (decide (1000000 < p2.X)))))]) (LE [(1, bx b100 #[(.int .i64 p2.X), (.int .i64 p2.Y)] 32), (2, ow Ay101_0 cy101_0 29 fl_TRect y101.1), (3, ow Ay103_0 cy103_0 29 fl_TRect y103.1), (4, ow (some ⟨b105, 0, none⟩) 1 29 fl_TRect [(TRect.mk (w64 (p2.X - p1)) (w64 (p2.Y - p1)) (w64 ((w64 (p2.X + p1)) + 1)) (w64 ((w64 (p2.Y + p1)) + 1)))])]) _
        refine Tr.val (wn rfl) rfl (fun _ _ h1 h2 => run_move (h1.ev rfl)) ?_
        refine Tr.mid0 4 [(0, (.slice Ap0_0 (p0).length cp0_0)), (5, (.pointer (some ⟨b100, 0, none⟩))), (7, (.slice Ay101_0 (y101.1).length cy101_0)), (8, (.int .i64 y101.2)), (9, (.slice Ay103_0 (y103.1).length cy103_0)), (10, (.int .i64 y103.2)), (11, (.slice (some ⟨b105, 0, none⟩) 1 1)), (66, (.bool (((((y101.2 != 0) || (y103.2 != 0)) || (decide (p2.X < (-1000000)))) || (decide (1000000 < p2.X))) || (decide (p2.Y < (-1000000))))))] [(1, bx b100 #[(.int .i64 p2.X), (.int .i64 p2.Y)] 32), (2, ow Ay101_0 cy101_0 29 fl_TRect y101.1), (3, ow Ay103_0 cy103_0 29 fl_TRect y103.1), (4, ow (some ⟨b105, 0, none⟩) 1 29 fl_TRect [(TRect.mk (w64 (p2.X - p1)) (w64 (p2.Y - p1)) (w64 ((w64 (p2.X + p1)) + 1)) (w64 ((w64 (p2.Y + p1)) + 1)))])] ?_ ?_
        · cases hg124 : ((((y101.2 != 0) || (y103.2 != 0)) || (decide (p2.X < (-1000000)))) || (decide (1000000 < p2.X)))
          · refine Tr.val (wg rfl rfl rfl) rfl (fun _ _ h1 h2 => run_fieldAddr fo_32_1 (h1.ev rfl)) ?_
            refine Tr.val (wg rfl rfl rfl) rfl (fun _ _ h1 h2 => run_load1 ag_3 (h1.ev rfl) (rdb h2 (vs := [(.int .i64 p2.X), (.int .i64 p2.Y)]) (k := 1) rfl 1) rfl) ?_
            refine Tr.val (wg rfl rfl rfl) rfl (fun _ _ h1 h2 => run_lss (h1.ev rfl) (h1.ev rfl)) ?_
            refine Tr.val (wn rfl) rfl (fun _ _ h1 h2 => run_pickF (h1.ev rfl) (h1.ev rfl)) ?_
            exact Tr.nil (Tr.fin0 (.cons rfl (.cons rfl (.cons rfl (.cons rfl (.cons rfl (.cons rfl (.cons rfl (.cons rfl .nil)))))))) (.cons rfl (.cons rfl (.cons rfl (.cons rfl .nil)))))
          · refine Tr.pass rfl rfl rfl rfl rfl (by decide) ?_
            refine Tr.pass rfl rfl rfl rfl rfl (by decide) ?_
            refine Tr.pass rfl rfl rfl rfl rfl (by decide) ?_
            refine Tr.val (wn rfl) rfl (fun _ _ h1 h2 => run_pickT (h1.ev rfl) (h1.ev rfl)) ?_
            exact Tr.nil (Tr.fin0 (.cons rfl (.cons rfl (.cons rfl (.cons rfl (.cons rfl (.cons rfl (.cons rfl (.cons rfl .nil)))))))) (.cons rfl (.cons rfl (.cons rfl (.cons rfl .nil)))))
        · show Tr _ _ (LF [(0, (.slice Ap0_0 (p0).length cp0_0)), (5, (.pointer (some ⟨b100, 0, none⟩))), (7, (.slice Ay101_0 (y101.1).length cy101_0)), (8, (.int .i64 y101.2)), (9, (.slice Ay103_0 (y103.1).length cy103_0)), (10, (.int .i64 y103.2)), (11, (.slice (some ⟨b105, 0, none⟩) 1 1)), (66, (.bool (((((y101.2 != 0) || (y103.2 != 0)) || (decide (p2.X < (-1000000)))) || (decide (1000000 < p2.X))) || (decide (p2.Y < (-1000000))))))]) (LE [(1, bx b100 #[(.int .i64 p2.X), (.int .i64 p2.Y)] 32), (2, ow Ay101_0 cy101_0 29 fl_TRect y101.1), (3, ow Ay103_0 cy103_0 29 fl_TRect y103.1), (4, ow (some ⟨b105, 0, none⟩) 1 29 fl_TRect [(TRect.mk (w64 (p2.X - p1)) (w64 (p2.Y - p1)) (w64 ((w64 (p2.X + p1)) + 1)) (w64 ((w64 (p2.Y + p1)) + 1)))])]) _
          refine Tr.val (wn rfl) rfl (fun _ _ h1 h2 => run_move (h1.ev rfl)) ?_
          refine Tr.mid0 4 [(0, (.slice Ap0_0 (p0).length cp0_0)), (5, (.pointer (some ⟨b100, 0, none⟩))), (7, (.slice Ay101_0 (y101.1).length cy101_0)), (8, (.int .i64 y101.2)), (9, (.slice Ay103_0 (y103.1).length cy103_0)), (10, (.int .i64 y103.2)), (11, (.slice (some ⟨b105, 0, none⟩) 1 1)), (71, (.bool ((((((y101.2 != 0) || (y103.2 != 0)) || (decide (p2.X < (-1000000)))) || (decide (1000000 < p2.X))) || (decide (p2.Y < (-1000000)))) || (decide (1000000 < p2.Y)))))] [(1, bx b100 #[(.int .i64 p2.X), (.int .i64 p2.Y)] 32), (2, ow Ay101_0 cy101_0 29 fl_TRect y101.1), (3, ow Ay103_0 cy103_0 29 fl_TRect y103.1), (4, ow (some ⟨b105, 0, none⟩) 1 29 fl_TRect [(TRect.mk (w64 (p2.X - p1)) (w64 (p2.Y - p1)) (w64 ((w64 (p2.X + p1)) + 1)) (w64 ((w64 (p2.Y + p1)) + 1)))])] ?_ ?_
          · cases hg124 : (((((y101.2 != 0) || (y103.2 != 0)) || (decide (p2.X < (-1000000)))) || (decide (1000000 < p2.X))) || (decide (p2.Y < (-1000000))))
            · refine Tr.val (wg rfl rfl rfl) rfl (fun _ _ h1 h2 => run_fieldAddr fo_32_1 (h1.ev rfl)) ?_
              refine Tr.val (wg rfl rfl rfl) rfl (fun _ _ h1 h2 => run_load1 ag_3 (h1.ev rfl) (rdb h2 (vs := [(.int .i64 p2.X), (.int .i64 p2.Y)]) (k := 1) rfl 1) rfl) ?_
              refine Tr.val (wg rfl rfl rfl) rfl (fun _ _ h1 h2 => run_gtr (h1.ev rfl) (h1.ev rfl)) ?_
              refine Tr.val (wn rfl) rfl (fun _ _ h1 h2 => run_pickF (h1.ev rfl) (h1.ev rfl)) ?_
              exact Tr.nil (Tr.fin0 (.cons rfl (.cons rfl (.cons rfl (.cons rfl (.cons rfl (.cons rfl (.cons rfl (.cons rfl .nil)))))))) (.cons rfl (.cons rfl (.cons rfl (.cons rfl .nil)))))
            · refine Tr.pass rfl rfl rfl rfl rfl (by decide) ?_
              refine Tr.pass rfl rfl rfl rfl rfl (by decide) ?_
              refine Tr.pass rfl rfl rfl rfl rfl (by decide) ?_
              refine Tr.val (wn rfl) rfl (fun _ _ h1 h2 => run_pickT (h1.ev rfl) (h1.ev rfl)) ?_
              exact Tr.nil (Tr.fin0 (.cons rfl (.cons rfl (.cons rfl (.cons rfl (.cons rfl (.cons rfl (.cons rfl (.cons rfl .nil)))))))) (.cons rfl (.cons rfl (.cons rfl (.cons rfl .nil)))))
          · show Tr _ _ (LF [(0, (.slice Ap0_0 (p0).length cp0_0)), (5, (.pointer (some ⟨b100, 0, none⟩))), (7, (.slice Ay101_0 (y101.1).length cy101_0)), (8, (.int .i64 y101.2)), (9, (.slice Ay103_0 (y103.1).length cy103_0)), (10, (.int .i64 y103.2)), (11, (.slice (some ⟨b105, 0, none⟩) 1 1)), (71, (.bool ((((((y101.2 != 0) || (y103.2 != 0)) || (decide (p2.X < (-1000000)))) || (decide (1000000 < p2.X))) || (decide (p2.Y < (-1000000)))) || (decide (1000000 < p2.Y)))))]) (LE [(1, bx b100 #[(.int .i64 p2.X), (.int .i64 p2.Y)] 32), (2, ow Ay101_0 cy101_0 29 fl_TRect y101.1), (3, ow Ay103_0 cy103_0 29 fl_TRect y103.1), (4, ow (some ⟨b105, 0, none⟩) 1 29 fl_TRect [(TRect.mk (w64 (p2.X - p1)) (w64 (p2.Y - p1)) (w64 ((w64 (p2.X + p1)) + 1)) (w64 ((w64 (p2.Y + p1)) + 1)))])]) _
            refine Tr.val (wn rfl) rfl (fun _ _ h1 h2 => run_move (h1.ev rfl)) ?_
            obtain ⟨g107, hg107, H⟩ := bnd H
            refine Tr.mid0 4 [(0, (.slice Ap0_0 (p0).length cp0_0)), (5, (.pointer (some ⟨b100, 0, none⟩))), (7, (.slice Ay101_0 (y101.1).length cy101_0)), (8, (.int .i64 y101.2)), (9, (.slice Ay103_0 (y103.1).length cy103_0)), (10, (.int .i64 y103.2)), (11, (.slice (some ⟨b105, 0, none⟩) 1 1)), (76, (.bool g107))] [(1, bx b100 #[(.int .i64 p2.X), (.int .i64 p2.Y)] 32), (2, ow Ay101_0 cy101_0 29 fl_TRect y101.1), (3, ow Ay103_0 cy103_0 29 fl_TRect y103.1), (4, ow (some ⟨b105, 0, none⟩) 1 29 fl_TRect [(TRect.mk (w64 (p2.X - p1)) (w64 (p2.Y - p1)) (w64 ((w64 (p2.X + p1)) + 1)) (w64 ((w64 (p2.Y + p1)) + 1)))])] ?_ ?_
            · cases hg124 : ((((((y101.2 != 0) || (y103.2 != 0)) || (decide (p2.X < (-1000000)))) || (decide (1000000 < p2.X))) || (decide (p2.Y < (-1000000)))) || (decide (1000000 < p2.Y)))
              · rw [hg124] at hg107
                rw [if_neg (by decide)] at hg107
                have H := hg107
                refine Tr.val (wg rfl rfl rfl) rfl (fun _ _ h1 h2 => run_move (h1.ev rfl)) ?_
                obtain ⟨y108, hy108, H⟩ := bnd H
                refine Tr.call0 (r := (.int .i64 y108)) (wg rfl rfl rfl) rfl Try.call18 (evl_cons rfl evl_nil) (fun W hW => F_shape_CheckRegion_ok N [(TRect.mk (w64 (p2.X - p1)) (w64 (p2.Y - p1)) (w64 ((w64 (p2.X + p1)) + 1)) (w64 ((w64 (p2.Y + p1)) + 1)))] (some ⟨b105, 0, none⟩) 1 (hW.slCall (k := 4) rfl) y108 hy108 (HF.start _)) ?_
                refine Tr.val (wg rfl rfl rfl) rfl (fun _ _ h1 h2 => run_neq (h1.ev rfl) (h1.ev rfl)) ?_
                refine Tr.val (wn rfl) rfl (fun _ _ h1 h2 => run_pickF (h1.ev rfl) (h1.ev rfl)) ?_
                obtain rfl := Option.some.inj H
                exact Tr.nil (Tr.fin0 (.cons rfl (.cons rfl (.cons rfl (.cons rfl (.cons rfl (.cons rfl (.cons rfl (.cons rfl .nil)))))))) (.cons rfl (.cons rfl (.cons rfl (.cons rfl .nil)))))
              · rw [hg124] at hg107
                rw [if_pos rfl] at hg107
                have H := hg107
                obtain rfl := Option.some.inj H
                refine Tr.pass rfl rfl rfl rfl rfl (by decide) ?_
                refine Tr.pass rfl rfl rfl rfl rfl (by decide) ?_
                refine Tr.pass rfl rfl rfl rfl rfl (by decide) ?_
                refine Tr.val (wn rfl) rfl (fun _ _ h1 h2 => run_pickT (h1.ev rfl) (h1.ev rfl)) ?_
                exact Tr.nil (Tr.fin0 (.cons rfl (.cons rfl (.cons rfl (.cons rfl (.cons rfl (.cons rfl (.cons rfl (.cons rfl .nil)))))))) (.cons rfl (.cons rfl (.cons rfl (.cons rfl .nil)))))
            · show Tr _ _ (LF [(0, (.slice Ap0_0 (p0).length cp0_0)), (5, (.pointer (some ⟨b100, 0, none⟩))), (7, (.slice Ay101_0 (y101.1).length cy101_0)), (8, (.int .i64 y101.2)), (9, (.slice Ay103_0 (y103.1).length cy103_0)), (10, (.int .i64 y103.2)), (11, (.slice (some ⟨b105, 0, none⟩) 1 1)), (76, (.bool g107))]) (LE [(1, bx b100 #[(.int .i64 p2.X), (.int .i64 p2.Y)] 32), (2, ow Ay101_0 cy101_0 29 fl_TRect y101.1), (3, ow Ay103_0 cy103_0 29 fl_TRect y103.1), (4, ow (some ⟨b105, 0, none⟩) 1 29 fl_TRect [(TRect.mk (w64 (p2.X - p1)) (w64 (p2.Y - p1)) (w64 ((w64 (p2.X + p1)) + 1)) (w64 ((w64 (p2.Y + p1)) + 1)))])]) _
              refine Tr.nil (Tr.normThen ?_)
              refine Tr.cond rfl H (fun H => ?_) (fun H => ?_)
              · refine Tr.seq ?_
                refine Tr.region ?_
                refine Tr.val (wn rfl) rfl (fun _ _ h1 h2 => run_move (h1.ev rfl)) ?_
                refine Tr.val (wn rfl) rfl (fun _ _ h1 h2 => run_eql (h1.ev rfl) (h1.ev rfl)) ?_
                refine Tr.val (wn rfl) rfl (fun _ _ h1 h2 => run_move (h1.ev rfl)) ?_
                refine Tr.mid0 4 [(9, (.slice Ay103_0 (y103.1).length cy103_0)), (10, (.int .i64 y103.2)), (83, (.bool ((y101.2 == 0) || ((y101.1.length : Int) == 0))))] [(1, bx b100 #[(.int .i64 p2.X), (.int .i64 p2.Y)] 32), (2, ow Ay101_0 cy101_0 29 fl_TRect y101.1), (3, ow Ay103_0 cy103_0 29 fl_TRect y103.1), (4, ow (some ⟨b105, 0, none⟩) 1 29 fl_TRect [(TRect.mk (w64 (p2.X - p1)) (w64 (p2.Y - p1)) (w64 ((w64 (p2.X + p1)) + 1)) (w64 ((w64 (p2.Y + p1)) + 1)))])] ?_ ?_
                · cases hg111 : (y101.2 == 0)
                  · refine Tr.val (wg rfl rfl rfl) rfl (fun _ _ h1 h2 => run_move (h1.ev rfl)) ?_
                    refine Tr.val (wg rfl rfl rfl) rfl (fun _ _ h1 h2 => run_len un_22 (h1.ev rfl)) ?_
                    refine Tr.val (wg rfl rfl rfl) rfl (fun _ _ h1 h2 => run_eql (h1.ev rfl) (h1.ev rfl)) ?_
                    refine Tr.val (wn rfl) rfl (fun _ _ h1 h2 => run_pickF (h1.ev rfl) (h1.ev rfl)) ?_
                    exact Tr.nil (Tr.fin0 (.cons rfl (.cons rfl (.cons rfl .nil))) (.cons rfl (.cons rfl (.cons rfl (.cons rfl .nil)))))
                  · refine Tr.pass rfl rfl rfl rfl rfl (by decide) ?_
                    refine Tr.pass rfl rfl rfl rfl rfl (by decide) ?_
                    refine Tr.pass rfl rfl rfl rfl rfl (by decide) ?_
                    refine Tr.val (wn rfl) rfl (fun _ _ h1 h2 => run_pickT (h1.ev rfl) (h1.ev rfl)) ?_
                    exact Tr.nil (Tr.fin0 (.cons rfl (.cons rfl (.cons rfl .nil))) (.cons rfl (.cons rfl (.cons rfl (.cons rfl .nil)))))
                · show Tr _ _ (LF [(9, (.slice Ay103_0 (y103.1).length cy103_0)), (10, (.int .i64 y103.2)), (83, (.bool ((y101.2 == 0) || ((y101.1.length : Int) == 0))))]) (LE [(1, bx b100 #[(.int .i64 p2.X), (.int .i64 p2.Y)] 32), (2, ow Ay101_0 cy101_0 29 fl_TRect y101.1), (3, ow Ay103_0 cy103_0 29 fl_TRect y103.1), (4, ow (some ⟨b105, 0, none⟩) 1 29 fl_TRect [(TRect.mk (w64 (p2.X - p1)) (w64 (p2.Y - p1)) (w64 ((w64 (p2.X + p1)) + 1)) (w64 ((w64 (p2.Y + p1)) + 1)))])]) _
                  refine Tr.val (wn rfl) rfl (fun _ _ h1 h2 => run_move (h1.ev rfl)) ?_
                  refine Tr.mid0 8 [(92, (.bool (((y101.2 == 0) || ((y101.1.length : Int) == 0)) && ((y103.2 == 0) || ((y103.1.length : Int) == 0)))))] [(1, bx b100 #[(.int .i64 p2.X), (.int .i64 p2.Y)] 32), (2, ow Ay101_0 cy101_0 29 fl_TRect y101.1), (3, ow Ay103_0 cy103_0 29 fl_TRect y103.1), (4, ow (some ⟨b105, 0, none⟩) 1 29 fl_TRect [(TRect.mk (w64 (p2.X - p1)) (w64 (p2.Y - p1)) (w64 ((w64 (p2.X + p1)) + 1)) (w64 ((w64 (p2.Y + p1)) + 1)))])] ?_ ?_
                  · cases hg111 : ((y101.2 == 0) || ((y101.1.length : Int) == 0))
                    · refine Tr.pass rfl rfl rfl rfl rfl (by decide) ?_
                      refine Tr.pass rfl rfl rfl rfl rfl (by decide) ?_
                      refine Tr.pass rfl rfl rfl rfl rfl (by decide) ?_
                      refine Tr.passU rfl rfl rfl rfl (by decide) ?_
                      refine Tr.passU rfl rfl rfl rfl (by decide) ?_
                      refine Tr.passU rfl rfl rfl rfl (by decide) ?_
                      refine Tr.pass rfl rfl rfl rfl rfl (by decide) ?_
                      refine Tr.val (wn rfl) rfl (fun _ _ h1 h2 => run_pickF (h1.ev rfl) (h1.ev rfl)) ?_
                      exact Tr.nil (Tr.fin0 (.cons rfl .nil) (.cons rfl (.cons rfl (.cons rfl (.cons rfl .nil)))))
                    · refine Tr.val (wg rfl rfl rfl) rfl (fun _ _ h1 h2 => run_move (h1.ev rfl)) ?_
                      refine Tr.val (wg rfl rfl rfl) rfl (fun _ _ h1 h2 => run_eql (h1.ev rfl) (h1.ev rfl)) ?_
                      refine Tr.val (wg rfl rfl rfl) rfl (fun _ _ h1 h2 => run_move (h1.ev rfl)) ?_
                      refine Tr.mid0 4 [(84, (.bool true)), (91, (.bool ((y103.2 == 0) || ((y103.1.length : Int) == 0))))] [(1, bx b100 #[(.int .i64 p2.X), (.int .i64 p2.Y)] 32), (2, ow Ay101_0 cy101_0 29 fl_TRect y101.1), (3, ow Ay103_0 cy103_0 29 fl_TRect y103.1), (4, ow (some ⟨b105, 0, none⟩) 1 29 fl_TRect [(TRect.mk (w64 (p2.X - p1)) (w64 (p2.Y - p1)) (w64 ((w64 (p2.X + p1)) + 1)) (w64 ((w64 (p2.Y + p1)) + 1)))])] ?_ ?_
                      · cases hg108 : (y103.2 == 0)
                        · refine Tr.val (wg rfl rfl rfl) rfl (fun _ _ h1 h2 => run_move (h1.ev rfl)) ?_
                          refine Tr.val (wg rfl rfl rfl) rfl (fun _ _ h1 h2 => run_len un_22 (h1.ev rfl)) ?_
                          refine Tr.val (wg rfl rfl rfl) rfl (fun _ _ h1 h2 => run_eql (h1.ev rfl) (h1.ev rfl)) ?_
                          refine Tr.val (wg rfl rfl rfl) rfl (fun _ _ h1 h2 => run_pickF (h1.ev rfl) (h1.ev rfl)) ?_
                          exact Tr.nil (Tr.fin0 (.cons rfl (.cons rfl .nil)) (.cons rfl (.cons rfl (.cons rfl (.cons rfl .nil)))))
                        · refine Tr.pass rfl rfl rfl rfl rfl (by decide) ?_
                          refine Tr.pass rfl rfl rfl rfl rfl (by decide) ?_
                          refine Tr.pass rfl rfl rfl rfl rfl (by decide) ?_
                          refine Tr.val (wg rfl rfl rfl) rfl (fun _ _ h1 h2 => run_pickT (h1.ev rfl) (h1.ev rfl)) ?_
                          exact Tr.nil (Tr.fin0 (.cons rfl (.cons rfl .nil)) (.cons rfl (.cons rfl (.cons rfl (.cons rfl .nil)))))
                      · show Tr _ _ (LF [(84, (.bool true)), (91, (.bool ((y103.2 == 0) || ((y103.1.length : Int) == 0))))]) (LE [(1, bx b100 #[(.int .i64 p2.X), (.int .i64 p2.Y)] 32), (2, ow Ay101_0 cy101_0 29 fl_TRect y101.1), (3, ow Ay103_0 cy103_0 29 fl_TRect y103.1), (4, ow (some ⟨b105, 0, none⟩) 1 29 fl_TRect [(TRect.mk (w64 (p2.X - p1)) (w64 (p2.Y - p1)) (w64 ((w64 (p2.X + p1)) + 1)) (w64 ((w64 (p2.Y + p1)) + 1)))])]) _
                        refine Tr.val (wn rfl) rfl (fun _ _ h1 h2 => run_pickT (h1.ev rfl) (h1.ev rfl)) ?_
                        exact Tr.nil (Tr.fin0 (.cons rfl .nil) (.cons rfl (.cons rfl (.cons rfl (.cons rfl .nil)))))
                  · show Tr _ _ (LF [(92, (.bool (((y101.2 == 0) || ((y101.1.length : Int) == 0)) && ((y103.2 == 0) || ((y103.1.length : Int) == 0)))))]) (LE [(1, bx b100 #[(.int .i64 p2.X), (.int .i64 p2.Y)] 32), (2, ow Ay101_0 cy101_0 29 fl_TRect y101.1), (3, ow Ay103_0 cy103_0 29 fl_TRect y103.1), (4, ow (some ⟨b105, 0, none⟩) 1 29 fl_TRect [(TRect.mk (w64 (p2.X - p1)) (w64 (p2.Y - p1)) (w64 ((w64 (p2.X + p1)) + 1)) (w64 ((w64 (p2.Y + p1)) + 1)))])]) _
                    refine Tr.val (wn rfl) rfl (fun _ _ h1 h2 => run_move (h1.ev rfl)) ?_
                    obtain ⟨g110, hg110, H⟩ := bnd H
                    refine Tr.mid0 2 [(95, (.bool g110))] [(1, bx b100 #[(.int .i64 p2.X), (.int .i64 p2.Y)] 32), (2, ow Ay101_0 cy101_0 29 fl_TRect y101.1), (3, ow Ay103_0 cy103_0 29 fl_TRect y103.1), (4, ow (some ⟨b105, 0, none⟩) 1 29 fl_TRect [(TRect.mk (w64 (p2.X - p1)) (w64 (p2.Y - p1)) (w64 ((w64 (p2.X + p1)) + 1)) (w64 ((w64 (p2.Y + p1)) + 1)))])] ?_ ?_
                    · cases hg111 : (((y101.2 == 0) || ((y101.1.length : Int) == 0)) && ((y103.2 == 0) || ((y103.1.length : Int) == 0)))
                      · rw [hg111] at hg110
                        rw [if_neg (by decide)] at hg110
                        have H := hg110
                        obtain rfl := Option.some.inj H
                        refine Tr.pass rfl rfl rfl rfl rfl (by decide) ?_
                        refine Tr.val (wn rfl) rfl (fun _ _ h1 h2 => run_pickF (h1.ev rfl) (h1.ev rfl)) ?_
                        exact Tr.nil (Tr.fin0 (.cons rfl .nil) (.cons rfl (.cons rfl (.cons rfl (.cons rfl .nil)))))
                      · rw [hg111] at hg110
                        rw [if_pos rfl] at hg110
                        have H := hg110
                        obtain ⟨y111, hy111, H⟩ := bnd H
                        refine Tr.call0 (r := (.bool y111)) (wg rfl rfl rfl) rfl Try.call12 evl_nil (fun W hW => F_etchhouselaw1_awake_ok N y111 hy111 (HF.start _)) ?_
                        refine Tr.val (wn rfl) rfl (fun _ _ h1 h2 => run_pickT (h1.ev rfl) (h1.ev rfl)) ?_
                        obtain rfl := Option.some.inj H
                        exact Tr.nil (Tr.fin0 (.cons rfl .nil) (.cons rfl (.cons rfl (.cons rfl (.cons rfl .nil)))))
                    · show Tr _ _ (LF [(95, (.bool g110))]) (LE [(1, bx b100 #[(.int .i64 p2.X), (.int .i64 p2.Y)] 32), (2, ow Ay101_0 cy101_0 29 fl_TRect y101.1), (3, ow Ay103_0 cy103_0 29 fl_TRect y103.1), (4, ow (some ⟨b105, 0, none⟩) 1 29 fl_TRect [(TRect.mk (w64 (p2.X - p1)) (w64 (p2.Y - p1)) (w64 ((w64 (p2.X + p1)) + 1)) (w64 ((w64 (p2.Y + p1)) + 1)))])]) _
                      refine Tr.val (wn rfl) rfl (fun _ _ h1 h2 => run_assign (h1.ev rfl)) ?_
                      refine Tr.nil (Tr.normThen ?_)
                      refine Tr.ret (Tr.retThen ?_)
                      obtain rfl := Option.some.inj H
                      exact Tr.out (m := [(.bool g110)]) [] (res_tmp rfl res_nil) (fun W hW => ⟨rfl, hW.low leB⟩)
              · refine Tr.skip (Tr.normThen ?_)
                refine Tr.seq ?_
                refine Tr.region ?_
                refine Tr.val (wn rfl) rfl (fun _ _ h1 h2 => run_move (h1.ev rfl)) ?_
                refine Tr.val (wn rfl) rfl (fun _ _ h1 h2 => run_move (h1.ev rfl)) ?_
                obtain ⟨y112, hy112, H⟩ := bnd H
                refine Tr.callM [5] [emp] (U := (Option Addr × Nat)) (fun u => (.tuple #[(.slice u.1 (y112.1).length u.2), (.int .i64 y112.2)])) (fun u => SlF u.1 (y112.1).length u.2) (fun u => [ow u.1 u.2 29 fl_TRect y112.1]) rfl (pk_cons rfl pk_nil) (fun _ => rfl) (wn rfl) rfl Try.call19 (evl_cons rfl (evl_cons rfl evl_nil)) (fun W hW hp hE => F_shape_Both_ok N [(TRect.mk (w64 (p2.X - p1)) (w64 (p2.Y - p1)) (w64 ((w64 (p2.X + p1)) + 1)) (w64 ((w64 (p2.Y + p1)) + 1)))] (some ⟨b105, 0, none⟩) 1 (hW.slS (k := 4) rfl hp rfl) p0 Ap0_0 cp0_0 (hp0_0.ext (hW.extS hp)) y112 hy112 hE) ?_
                intro u hu
                obtain ⟨Ay112_0, cy112_0⟩ := u
                have gy112_0 := hu
                have hgy112_0 : SlF Ay112_0 (y112.1).length cy112_0 := gy112_0 --@phi
                show Tr _ _ (uf _ 99 (.tuple #[(.slice Ay112_0 (y112.1).length cy112_0), (.int .i64 y112.2)])) (up _ 5 (ow Ay112_0 cy112_0 29 fl_TRect y112.1)) _
                refine Tr.val (wn rfl) rfl (fun _ _ h1 h2 => run_move (h1.ev rfl)) ?_
                refine Tr.val (wn rfl) rfl (fun _ _ h1 h2 => run_extract (h1.ev rfl) rfl) ?_
                refine Tr.val (wn rfl) rfl (fun _ _ h1 h2 => run_extract (h1.ev rfl) rfl) ?_
                refine Tr.val (wn rfl) rfl (fun _ _ h1 h2 => run_assign (h1.ev rfl)) ?_
                refine Tr.val (wn rfl) rfl (fun _ _ h1 h2 => run_assign (h1.ev rfl)) ?_
                refine Tr.nil (Tr.normThen ?_)
                refine Tr.seq ?_
                refine Tr.region ?_
                refine Tr.val (wn rfl) rfl (fun _ _ h1 h2 => run_move (h1.ev rfl)) ?_
                refine Tr.val (wn rfl) rfl (fun _ _ h1 h2 => run_eql (h1.ev rfl) (h1.ev rfl)) ?_
                refine Tr.val (wn rfl) rfl (fun _ _ h1 h2 => run_move (h1.ev rfl)) ?_
                obtain ⟨g115, hg115, H⟩ := bnd H
                refine Tr.mid0 8 [(0, (.slice Ap0_0 (p0).length cp0_0)), (5, (.pointer (some ⟨b100, 0, none⟩))), (9, (.slice Ay103_0 (y103.1).length cy103_0)), (11, (.slice (some ⟨b105, 0, none⟩) 1 1)), (112, (.bool g115))] [(1, bx b100 #[(.int .i64 p2.X), (.int .i64 p2.Y)] 32), (2, ow Ay101_0 cy101_0 29 fl_TRect y101.1), (3, ow Ay103_0 cy103_0 29 fl_TRect y103.1), (4, ow (some ⟨b105, 0, none⟩) 1 29 fl_TRect [(TRect.mk (w64 (p2.X - p1)) (w64 (p2.Y - p1)) (w64 ((w64 (p2.X + p1)) + 1)) (w64 ((w64 (p2.Y + p1)) + 1)))]), (5, ow Ay112_0 cy112_0 29 fl_TRect y112.1)] ?_ ?_
                · cases hg124 : (y112.2 == 0)
                  · rw [hg124] at hg115
                    rw [if_neg (by decide)] at hg115
                    have H := hg115
                    obtain rfl := Option.some.inj H
                    refine Tr.pass rfl rfl rfl rfl rfl (by decide) ?_
                    refine Tr.pass rfl rfl rfl rfl rfl (by decide) ?_
                    refine Tr.pass rfl rfl rfl rfl rfl (by decide) ?_
                    refine Tr.pass rfl rfl rfl rfl rfl (by decide) ?_
                    refine Tr.pass rfl rfl rfl rfl rfl (by decide) ?_
                    refine Tr.pass rfl rfl rfl rfl rfl (by decide) ?_
                    refine Tr.pass rfl rfl rfl rfl rfl (by decide) ?_
                    refine Tr.val (wn rfl) rfl (fun _ _ h1 h2 => run_pickF (h1.ev rfl) (h1.ev rfl)) ?_
                    exact Tr.nil (Tr.fin0 (.cons rfl (.cons rfl (.cons rfl (.cons rfl (.cons rfl .nil))))) (.cons rfl (.cons rfl (.cons rfl (.cons rfl (.cons rfl .nil))))))
                  · rw [hg124] at hg115
                    rw [if_pos rfl] at hg115
                    have H := hg115
                    refine Tr.val (wg rfl rfl rfl) rfl (fun _ _ h1 h2 => run_move (h1.ev rfl)) ?_
                    refine Tr.val (wg rfl rfl rfl) rfl (fun _ _ h1 h2 => run_loadN (cs := [(.int .i64 p2.X), (.int .i64 p2.Y)]) ag_32 sz_32 (h1.ev rfl) (CellsAt.take (rdb h2 (vs := [(.int .i64 p2.X), (.int .i64 p2.Y)]) (k := 1) rfl 0) 2) rfl) ?_
                    obtain ⟨y116, hy116, H⟩ := bnd H
                    refine Tr.call0 (r := (.bool y116)) (wg rfl rfl rfl) rfl Try.call20 (evl_cons rfl (evl_cons rfl evl_nil)) (fun W hW => F_etchhouselaw1_has_ok N y101.1 Ay101_0 cy101_0 (hW.slCall (k := 2) rfl) p2 y116 hy116 (HF.start _)) ?_
                    refine Tr.val (wg rfl rfl rfl) rfl (fun _ _ h1 h2 => run_move (h1.ev rfl)) ?_
                    refine Tr.val (wg rfl rfl rfl) rfl (fun _ _ h1 h2 => run_len un_22 (h1.ev rfl)) ?_
                    refine Tr.val (wg rfl rfl rfl) rfl (fun _ _ h1 h2 => run_gtr (h1.ev rfl) (h1.ev rfl)) ?_
                    refine Tr.val (wg rfl rfl rfl) rfl (fun _ _ h1 h2 => run_eqlB un_4 (h1.ev rfl) (h1.ev rfl)) ?_
                    refine Tr.val (wn rfl) rfl (fun _ _ h1 h2 => run_pickT (h1.ev rfl) (h1.ev rfl)) ?_
                    obtain rfl := Option.some.inj H
                    exact Tr.nil (Tr.fin0 (.cons rfl (.cons rfl (.cons rfl (.cons rfl (.cons rfl .nil))))) (.cons rfl (.cons rfl (.cons rfl (.cons rfl (.cons rfl .nil))))))
                · show Tr _ _ (LF [(0, (.slice Ap0_0 (p0).length cp0_0)), (5, (.pointer (some ⟨b100, 0, none⟩))), (9, (.slice Ay103_0 (y103.1).length cy103_0)), (11, (.slice (some ⟨b105, 0, none⟩) 1 1)), (112, (.bool g115))]) (LE [(1, bx b100 #[(.int .i64 p2.X), (.int .i64 p2.Y)] 32), (2, ow Ay101_0 cy101_0 29 fl_TRect y101.1), (3, ow Ay103_0 cy103_0 29 fl_TRect y103.1), (4, ow (some ⟨b105, 0, none⟩) 1 29 fl_TRect [(TRect.mk (w64 (p2.X - p1)) (w64 (p2.Y - p1)) (w64 ((w64 (p2.X + p1)) + 1)) (w64 ((w64 (p2.Y + p1)) + 1)))]), (5, ow Ay112_0 cy112_0 29 fl_TRect y112.1)]) _
                  refine Tr.val (wn rfl) rfl (fun _ _ h1 h2 => run_move (h1.ev rfl)) ?_
                  obtain ⟨g119, hg119, H⟩ := bnd H
                  refine Tr.mid0 8 [(121, (.bool g119))] [(1, bx b100 #[(.int .i64 p2.X), (.int .i64 p2.Y)] 32), (2, ow Ay101_0 cy101_0 29 fl_TRect y101.1), (3, ow Ay103_0 cy103_0 29 fl_TRect y103.1), (4, ow (some ⟨b105, 0, none⟩) 1 29 fl_TRect [(TRect.mk (w64 (p2.X - p1)) (w64 (p2.Y - p1)) (w64 ((w64 (p2.X + p1)) + 1)) (w64 ((w64 (p2.Y + p1)) + 1)))]), (5, ow Ay112_0 cy112_0 29 fl_TRect y112.1)] ?_ ?_
                  · cases hg124 : g115
                    · rw [hg124] at hg119
                      rw [if_neg (by decide)] at hg119
                      have H := hg119
                      obtain rfl := Option.some.inj H
                      refine Tr.pass rfl rfl rfl rfl rfl (by decide) ?_
                      refine Tr.pass rfl rfl rfl rfl rfl (by decide) ?_
                      refine Tr.pass rfl rfl rfl rfl rfl (by decide) ?_
                      refine Tr.pass rfl rfl rfl rfl rfl (by decide) ?_
                      refine Tr.pass rfl rfl rfl rfl rfl (by decide) ?_
                      refine Tr.pass rfl rfl rfl rfl rfl (by decide) ?_
                      refine Tr.pass rfl rfl rfl rfl rfl (by decide) ?_
                      refine Tr.val (wn rfl) rfl (fun _ _ h1 h2 => run_pickF (h1.ev rfl) (h1.ev rfl)) ?_
                      exact Tr.nil (Tr.fin0 (.cons rfl .nil) (.cons rfl (.cons rfl (.cons rfl (.cons rfl (.cons rfl .nil))))))
                    · rw [hg124] at hg119
                      rw [if_pos rfl] at hg119
                      have H := hg119
                      refine Tr.val (wg rfl rfl rfl) rfl (fun _ _ h1 h2 => run_move (h1.ev rfl)) ?_
                      refine Tr.val (wg rfl rfl rfl) rfl (fun _ _ h1 h2 => run_loadN (cs := [(.int .i64 p2.X), (.int .i64 p2.Y)]) ag_32 sz_32 (h1.ev rfl) (CellsAt.take (rdb h2 (vs := [(.int .i64 p2.X), (.int .i64 p2.Y)]) (k := 1) rfl 0) 2) rfl) ?_
                      obtain ⟨y120, hy120, H⟩ := bnd H
                      refine Tr.call0 (r := (.bool y120)) (wg rfl rfl rfl) rfl Try.call20 (evl_cons rfl (evl_cons rfl evl_nil)) (fun W hW => F_etchhouselaw1_has_ok N y103.1 Ay103_0 cy103_0 (hW.slCall (k := 3) rfl) p2 y120 hy120 (HF.start _)) ?_
                      refine Tr.val (wg rfl rfl rfl) rfl (fun _ _ h1 h2 => run_move (h1.ev rfl)) ?_
                      refine Tr.val (wg rfl rfl rfl) rfl (fun _ _ h1 h2 => run_move (h1.ev rfl)) ?_
                      obtain ⟨y121, hy121, H⟩ := bnd H
                      refine Tr.call0 (r := (.bool y121)) (wg rfl rfl rfl) rfl Try.call16 (evl_cons rfl (evl_cons rfl evl_nil)) (fun W hW => F_etchhouselaw1_inside_ok N [(TRect.mk (w64 (p2.X - p1)) (w64 (p2.Y - p1)) (w64 ((w64 (p2.X + p1)) + 1)) (w64 ((w64 (p2.Y + p1)) + 1)))] (some ⟨b105, 0, none⟩) 1 (hW.slCall (k := 4) rfl) p0 Ap0_0 cp0_0 (hp0_0.ext hW.extAll) y121 hy121 (HF.start _)) ?_
                      refine Tr.val (wg rfl rfl rfl) rfl (fun _ _ h1 h2 => run_eqlB un_4 (h1.ev rfl) (h1.ev rfl)) ?_
                      refine Tr.val (wn rfl) rfl (fun _ _ h1 h2 => run_pickT (h1.ev rfl) (h1.ev rfl)) ?_
                      obtain rfl := Option.some.inj H
                      exact Tr.nil (Tr.fin0 (.cons rfl .nil) (.cons rfl (.cons rfl (.cons rfl (.cons rfl (.cons rfl .nil))))))
                  · show Tr _ _ (LF [(121, (.bool g119))]) (LE [(1, bx b100 #[(.int .i64 p2.X), (.int .i64 p2.Y)] 32), (2, ow Ay101_0 cy101_0 29 fl_TRect y101.1), (3, ow Ay103_0 cy103_0 29 fl_TRect y103.1), (4, ow (some ⟨b105, 0, none⟩) 1 29 fl_TRect [(TRect.mk (w64 (p2.X - p1)) (w64 (p2.Y - p1)) (w64 ((w64 (p2.X + p1)) + 1)) (w64 ((w64 (p2.Y + p1)) + 1)))]), (5, ow Ay112_0 cy112_0 29 fl_TRect y112.1)]) _
                    refine Tr.val (wn rfl) rfl (fun _ _ h1 h2 => run_move (h1.ev rfl)) ?_
                    obtain ⟨g123, hg123, H⟩ := bnd H
                    refine Tr.mid0 2 [(124, (.bool g123))] [(1, bx b100 #[(.int .i64 p2.X), (.int .i64 p2.Y)] 32), (2, ow Ay101_0 cy101_0 29 fl_TRect y101.1), (3, ow Ay103_0 cy103_0 29 fl_TRect y103.1), (4, ow (some ⟨b105, 0, none⟩) 1 29 fl_TRect [(TRect.mk (w64 (p2.X - p1)) (w64 (p2.Y - p1)) (w64 ((w64 (p2.X + p1)) + 1)) (w64 ((w64 (p2.Y + p1)) + 1)))]), (5, ow Ay112_0 cy112_0 29 fl_TRect y112.1)] ?_ ?_
                    · cases hg124 : g119
                      · rw [hg124] at hg123
                        rw [if_neg (by decide)] at hg123
                        have H := hg123
                        obtain rfl := Option.some.inj H
                        refine Tr.pass rfl rfl rfl rfl rfl (by decide) ?_
                        refine Tr.val (wn rfl) rfl (fun _ _ h1 h2 => run_pickF (h1.ev rfl) (h1.ev rfl)) ?_
                        exact Tr.nil (Tr.fin0 (.cons rfl .nil) (.cons rfl (.cons rfl (.cons rfl (.cons rfl (.cons rfl .nil))))))
                      · rw [hg124] at hg123
                        rw [if_pos rfl] at hg123
                        have H := hg123
                        obtain ⟨y124, hy124, H⟩ := bnd H
                        refine Tr.call0 (r := (.bool y124)) (wg rfl rfl rfl) rfl Try.call12 evl_nil (fun W hW => F_etchhouselaw1_awake_ok N y124 hy124 (HF.start _)) ?_
                        refine Tr.val (wn rfl) rfl (fun _ _ h1 h2 => run_pickT (h1.ev rfl) (h1.ev rfl)) ?_
                        obtain rfl := Option.some.inj H
                        exact Tr.nil (Tr.fin0 (.cons rfl .nil) (.cons rfl (.cons rfl (.cons rfl (.cons rfl (.cons rfl .nil))))))
                    · show Tr _ _ (LF [(124, (.bool g123))]) (LE [(1, bx b100 #[(.int .i64 p2.X), (.int .i64 p2.Y)] 32), (2, ow Ay101_0 cy101_0 29 fl_TRect y101.1), (3, ow Ay103_0 cy103_0 29 fl_TRect y103.1), (4, ow (some ⟨b105, 0, none⟩) 1 29 fl_TRect [(TRect.mk (w64 (p2.X - p1)) (w64 (p2.Y - p1)) (w64 ((w64 (p2.X + p1)) + 1)) (w64 ((w64 (p2.Y + p1)) + 1)))]), (5, ow Ay112_0 cy112_0 29 fl_TRect y112.1)]) _
                      refine Tr.val (wn rfl) rfl (fun _ _ h1 h2 => run_assign (h1.ev rfl)) ?_
                      refine Tr.nil (Tr.normThen ?_)
                      refine Tr.ret ?_
                      obtain rfl := Option.some.inj H
                      exact Tr.out (m := [(.bool g123)]) [] (res_tmp rfl res_nil) (fun W hW => ⟨rfl, hW.low leB⟩)

theorem F_shape_between_ok {w : Bs} (p0 : Int) (p1 : Int) (p2 : Int) (p3 : Int) (r : Int) (H : F_shape_between p0 p1 p2 p3 = some r) (hE : HF w w.W E0) : Calls Try.prog 119 [(.int .i64 p0), (.int .i64 p1), (.int .i64 p2), (.int .i64 p3)].toArray w.W fun e W' => e = .returned (.int .i64 r) ∧ HF w W' E0 := by
  unfold F_shape_between at H
  have leB := Bs.Le.refl w
  refine Tr.enter (n := 18) Try.func119 rfl rfl rfl hE ?_
  refine Tr.seq ?_
  refine Tr.region ?_
  refine Tr.val (wn rfl) rfl (fun _ _ h1 h2 => run_assign (h1.ev rfl)) ?_
  refine Tr.nil (Tr.normThen ?_)
  refine Tr.seq ?_
  refine Tr.region ?_
  refine Tr.val (wn rfl) rfl (fun _ _ h1 h2 => run_move (h1.ev rfl)) ?_
  refine Tr.val (wn rfl) rfl (fun _ _ h1 h2 => run_move (h1.ev rfl)) ?_
  refine Tr.val (wn rfl) rfl (fun _ _ h1 h2 => run_sub (h1.ev rfl) (h1.ev rfl)) ?_
  refine Tr.val (wn rfl) rfl (fun _ _ h1 h2 => run_add (h1.ev rfl) (h1.ev rfl)) ?_
  refine Tr.val (wn rfl) rfl (fun _ _ h1 h2 => run_move (h1.ev rfl)) ?_
  refine Tr.val (wn rfl) rfl (fun _ _ h1 h2 => run_move (h1.ev rfl)) ?_
  refine Tr.val (wn rfl) rfl (fun _ _ h1 h2 => run_sub (h1.ev rfl) (h1.ev rfl)) ?_
  refine Tr.val (wn rfl) rfl (fun _ _ h1 h2 => run_add (h1.ev rfl) (h1.ev rfl)) ?_
  refine Tr.val (wn rfl) rfl (fun _ _ h1 h2 => run_max3 (h1.ev rfl) (h1.ev rfl) (h1.ev rfl) _) ?_
  refine Tr.val (wn rfl) rfl (fun _ _ h1 h2 => run_assign (h1.ev rfl)) ?_
  refine Tr.nil (Tr.normThen ?_)
  refine Tr.ret ?_
  obtain rfl := Option.some.inj H
  exact Tr.out (m := [(.int .i64 (max (max 0 (w64 ((w64 (p2 - p1)) + 1))) (w64 ((w64 (p0 - p3)) + 1))))]) [] (res_tmp rfl res_nil) (fun W hW => ⟨rfl, hW.low leB⟩)

theorem F_shape_Far_ok {w : Bs} (p0 : TRect) (p1 : TRect) (r : Int) (H : F_shape_Far p0 p1 = some r) (hE : HF w w.W E0) : Calls Try.prog 81 [(.agg #[(.int .i64 p0.X0), (.int .i64 p0.Y0), (.int .i64 p0.X1), (.int .i64 p0.Y1)]), (.agg #[(.int .i64 p1.X0), (.int .i64 p1.Y0), (.int .i64 p1.X1), (.int .i64 p1.Y1)])].toArray w.W fun e W' => e = .returned (.int .i64 r) ∧ HF w W' E0 := by
  unfold F_shape_Far at H
  have leB := Bs.Le.refl w
  refine Tr.enter (n := 24) Try.func81 rfl rfl rfl hE ?_
  refine Tr.seq ?_
  refine Tr.region ?_
  refine Tr.box 1 (cs := [(.int .i64 p0.X0), (.int .i64 p0.Y0), (.int .i64 p0.X1), (.int .i64 p0.Y1)]) (wn rfl) rfl rfl rfl fun b100 => ?_
  refine Tr.box 2 (cs := [(.int .i64 p1.X0), (.int .i64 p1.Y0), (.int .i64 p1.X1), (.int .i64 p1.Y1)]) (wn rfl) rfl rfl rfl fun b101 => ?_
  refine Tr.val (wn rfl) rfl (fun _ _ h1 h2 => run_assign (h1.ev rfl)) ?_
  refine Tr.nil (Tr.normThen ?_)
  refine Tr.seq ?_
  refine Tr.draw (by kernel_rfl) (by kernel_rfl) ?_
  refine Tq.val (wn rfl) rfl (fun _ _ h1 h2 => run_fieldAddr fo_29_0 (h1.ev rfl)) ?_
  refine Tq.val (wn rfl) rfl (fun _ _ h1 h2 => run_load1 ag_3 (h1.ev rfl) (rdb h2 (vs := [(.int .i64 p0.X0), (.int .i64 p0.Y0), (.int .i64 p0.X1), (.int .i64 p0.Y1)]) (k := 1) rfl 0) rfl) ?_
  refine Tq.val (wn rfl) rfl (fun _ _ h1 h2 => run_fieldAddr fo_29_2 (h1.ev rfl)) ?_
  refine Tq.val (wn rfl) rfl (fun _ _ h1 h2 => run_load1 ag_3 (h1.ev rfl) (rdb h2 (vs := [(.int .i64 p0.X0), (.int .i64 p0.Y0), (.int .i64 p0.X1), (.int .i64 p0.Y1)]) (k := 1) rfl 2) rfl) ?_
  refine Tq.val (wn rfl) rfl (fun _ _ h1 h2 => run_fieldAddr fo_29_0 (h1.ev rfl)) ?_
  refine Tq.val (wn rfl) rfl (fun _ _ h1 h2 => run_load1 ag_3 (h1.ev rfl) (rdb h2 (vs := [(.int .i64 p1.X0), (.int .i64 p1.Y0), (.int .i64 p1.X1), (.int .i64 p1.Y1)]) (k := 2) rfl 0) rfl) ?_
  refine Tq.val (wn rfl) rfl (fun _ _ h1 h2 => run_fieldAddr fo_29_2 (h1.ev rfl)) ?_
  refine Tq.val (wn rfl) rfl (fun _ _ h1 h2 => run_load1 ag_3 (h1.ev rfl) (rdb h2 (vs := [(.int .i64 p1.X0), (.int .i64 p1.Y0), (.int .i64 p1.X1), (.int .i64 p1.Y1)]) (k := 2) rfl 2) rfl) ?_
  obtain ⟨y102, hy102, H⟩ := bnd H
  refine Tq.call0 (r := (.int .i64 y102)) (wn rfl) rfl Try.call119 (evl_cons rfl (evl_cons rfl (evl_cons rfl (evl_cons rfl evl_nil)))) (fun W hW => F_shape_between_ok p0.X0 p0.X1 p1.X0 p1.X1 y102 hy102 (HF.start _)) ?_
  refine Tq.val (wn rfl) rfl (fun _ _ h1 h2 => run_fieldAddr fo_29_1 (h1.ev rfl)) ?_
  refine Tq.val (wn rfl) rfl (fun _ _ h1 h2 => run_load1 ag_3 (h1.ev rfl) (rdb h2 (vs := [(.int .i64 p0.X0), (.int .i64 p0.Y0), (.int .i64 p0.X1), (.int .i64 p0.Y1)]) (k := 1) rfl 1) rfl) ?_
  refine Tq.val (wn rfl) rfl (fun _ _ h1 h2 => run_fieldAddr fo_29_3 (h1.ev rfl)) ?_
  refine Tq.val (wn rfl) rfl (fun _ _ h1 h2 => run_load1 ag_3 (h1.ev rfl) (rdb h2 (vs := [(.int .i64 p0.X0), (.int .i64 p0.Y0), (.int .i64 p0.X1), (.int .i64 p0.Y1)]) (k := 1) rfl 3) rfl) ?_
  refine Tq.val (wn rfl) rfl (fun _ _ h1 h2 => run_fieldAddr fo_29_1 (h1.ev rfl)) ?_
  refine Tq.val (wn rfl) rfl (fun _ _ h1 h2 => run_load1 ag_3 (h1.ev rfl) (rdb h2 (vs := [(.int .i64 p1.X0), (.int .i64 p1.Y0), (.int .i64 p1.X1), (.int .i64 p1.Y1)]) (k := 2) rfl 1) rfl) ?_
  refine Tq.val (wn rfl) rfl (fun _ _ h1 h2 => run_fieldAddr fo_29_3 (h1.ev rfl)) ?_
  refine Tq.val (wn rfl) rfl (fun _ _ h1 h2 => run_load1 ag_3 (h1.ev rfl) (rdb h2 (vs := [(.int .i64 p1.X0), (.int .i64 p1.Y0), (.int .i64 p1.X1), (.int .i64 p1.Y1)]) (k := 2) rfl 3) rfl) ?_
  obtain ⟨y103, hy103, H⟩ := bnd H
  refine Tq.call0 (r := (.int .i64 y103)) (wn rfl) rfl Try.call119 (evl_cons rfl (evl_cons rfl (evl_cons rfl (evl_cons rfl evl_nil)))) (fun W hW => F_shape_between_ok p0.Y0 p0.Y1 p1.Y0 p1.Y1 y103 hy103 (HF.start _)) ?_
  refine Tq.val (wn rfl) rfl (fun _ _ h1 h2 => run_max (h1.ev rfl) (h1.ev rfl) _) ?_
  refine Tq.val (wn rfl) rfl (fun _ _ h1 h2 => run_assign (h1.ev rfl)) ?_
  refine Tq.nil (Tr.normThen ?_)
  refine Tr.ret ?_
  obtain rfl := Option.some.inj H
  exact Tr.out (m := [(.int .i64 (max y102 y103))]) [] (res_tmp rfl res_nil) (fun W hW => ⟨rfl, hW.low leB⟩)

theorem F_shape_near_ok {w : Bs} (p0 : TRect) (p1 : TRect) (p2 : Int) (r : TPoint) (H : F_shape_near p0 p1 p2 = some r) (hE : HF w w.W E0) : Calls Try.prog 82 [(.agg #[(.int .i64 p0.X0), (.int .i64 p0.Y0), (.int .i64 p0.X1), (.int .i64 p0.Y1)]), (.agg #[(.int .i64 p1.X0), (.int .i64 p1.Y0), (.int .i64 p1.X1), (.int .i64 p1.Y1)]), (.int .i64 p2)].toArray w.W fun e W' => e = .returned (.agg #[(.int .i64 r.X), (.int .i64 r.Y)]) ∧ HF w W' E0 := by
  unfold F_shape_near at H
  have leB := Bs.Le.refl w
  refine Tr.enter (n := 22) Try.func82 rfl rfl rfl hE ?_
  refine Tr.seq ?_
  refine Tr.region ?_
  refine Tr.box 1 (cs := [(.int .i64 p0.X0), (.int .i64 p0.Y0), (.int .i64 p0.X1), (.int .i64 p0.Y1)]) (wn rfl) rfl rfl rfl fun b100 => ?_
  refine Tr.box 2 (cs := [(.int .i64 p1.X0), (.int .i64 p1.Y0), (.int .i64 p1.X1), (.int .i64 p1.Y1)]) (wn rfl) rfl rfl rfl fun b101 => ?_
  refine Tr.alloc 3 (wn rfl) rfl ze_32 fun b102 => ?_
  refine Tr.nil (Tr.normThen ?_)
  refine Tr.seq ?_
  refine Tr.region ?_
  refine Tr.val (wn rfl) rfl (fun _ _ h1 h2 => run_fieldAddr fo_29_0 (h1.ev rfl)) ?_
  refine Tr.val (wn rfl) rfl (fun _ _ h1 h2 => run_load1 ag_3 (h1.ev rfl) (rdb h2 (vs := [(.int .i64 p0.X0), (.int .i64 p0.Y0), (.int .i64 p0.X1), (.int .i64 p0.Y1)]) (k := 1) rfl 0) rfl) ?_
  refine Tr.val (wn rfl) rfl (fun _ _ h1 h2 => run_fieldAddr fo_29_0 (h1.ev rfl)) ?_
  refine Tr.val (wn rfl) rfl (fun _ _ h1 h2 => run_load1 ag_3 (h1.ev rfl) (rdb h2 (vs := [(.int .i64 p1.X0), (.int .i64 p1.Y0), (.int .i64 p1.X1), (.int .i64 p1.Y1)]) (k := 2) rfl 0) rfl) ?_
  refine Tr.val (wn rfl) rfl (fun _ _ h1 h2 => run_move (h1.ev rfl)) ?_
  refine Tr.val (wn rfl) rfl (fun _ _ h1 h2 => run_sub (h1.ev rfl) (h1.ev rfl)) ?_
  refine Tr.val (wn rfl) rfl (fun _ _ h1 h2 => run_max (h1.ev rfl) (h1.ev rfl) _) ?_
  refine Tr.val (wn rfl) rfl (fun _ _ h1 h2 => run_fieldAddr fo_29_1 (h1.ev rfl)) ?_
  refine Tr.val (wn rfl) rfl (fun _ _ h1 h2 => run_load1 ag_3 (h1.ev rfl) (rdb h2 (vs := [(.int .i64 p0.X0), (.int .i64 p0.Y0), (.int .i64 p0.X1), (.int .i64 p0.Y1)]) (k := 1) rfl 1) rfl) ?_
  refine Tr.val (wn rfl) rfl (fun _ _ h1 h2 => run_fieldAddr fo_29_1 (h1.ev rfl)) ?_
  refine Tr.val (wn rfl) rfl (fun _ _ h1 h2 => run_load1 ag_3 (h1.ev rfl) (rdb h2 (vs := [(.int .i64 p1.X0), (.int .i64 p1.Y0), (.int .i64 p1.X1), (.int .i64 p1.Y1)]) (k := 2) rfl 1) rfl) ?_
  refine Tr.val (wn rfl) rfl (fun _ _ h1 h2 => run_move (h1.ev rfl)) ?_
  refine Tr.val (wn rfl) rfl (fun _ _ h1 h2 => run_sub (h1.ev rfl) (h1.ev rfl)) ?_
  refine Tr.val (wn rfl) rfl (fun _ _ h1 h2 => run_max (h1.ev rfl) (h1.ev rfl) _) ?_
  refine Tr.build (vs := [(0, (.int .i64 (max p0.X0 (w64 (p1.X0 - p2))))), (1, (.int .i64 (max p0.Y0 (w64 (p1.Y0 - p2)))))]) (cs := [(.int .i64 (max p0.X0 (w64 (p1.X0 - p2)))), (.int .i64 (max p0.Y0 (w64 (p1.Y0 - p2))))]) (wn rfl) rfl (evs_cons rfl (evs_cons rfl evs_nil)) (by kernel_rfl) ?_
  refine Tr.store 3 (cs := [(.int .i64 (max p0.X0 (w64 (p1.X0 - p2)))), (.int .i64 (max p0.Y0 (w64 (p1.Y0 - p2))))]) [(.int .i64 (max p0.X0 (w64 (p1.X0 - p2)))), (.int .i64 (max p0.Y0 (w64 (p1.Y0 - p2))))] (wn rfl) rfl rfl rfl rfl sz_32 rfl rfl rfl ?_
  refine Tr.nil (Tr.normThen ?_)
  refine Tr.ret ?_
  obtain rfl := Option.some.inj H
  exact Tr.out (m := [(.agg #[(.int .i64 (max p0.X0 (w64 (p1.X0 - p2)))), (.int .i64 (max p0.Y0 (w64 (p1.Y0 - p2))))])]) [3] (res_cell rfl rfl ag_32 sz_32 res_nil) (fun W hW => ⟨rfl, hW.low leB⟩)

theorem F_shape_less_ok {w : Bs} (p0 : TPoint) (p1 : TPoint) (r : Bool) (H : F_shape_less p0 p1 = some r) (hE : HF w w.W E0) : Calls Try.prog 83 [(.agg #[(.int .i64 p0.X), (.int .i64 p0.Y)]), (.agg #[(.int .i64 p1.X), (.int .i64 p1.Y)])].toArray w.W fun e W' => e = .returned (.bool r) ∧ HF w W' E0 := by
  unfold F_shape_less at H
  have leB := Bs.Le.refl w
  refine Tr.enter (n := 24) Try.func83 rfl rfl rfl hE ?_
  refine Tr.seq ?_
  refine Tr.region ?_
  refine Tr.box 1 (cs := [(.int .i64 p0.X), (.int .i64 p0.Y)]) (wn rfl) rfl rfl rfl fun b100 => ?_
  refine Tr.box 2 (cs := [(.int .i64 p1.X), (.int .i64 p1.Y)]) (wn rfl) rfl rfl rfl fun b101 => ?_
  refine Tr.val (wn rfl) rfl (fun _ _ h1 h2 => run_assign (h1.ev rfl)) ?_
  refine Tr.nil (Tr.normThen ?_)
  refine Tr.seq ?_
  refine Tr.region ?_
  refine Tr.val (wn rfl) rfl (fun _ _ h1 h2 => run_fieldAddr fo_32_1 (h1.ev rfl)) ?_
  refine Tr.val (wn rfl) rfl (fun _ _ h1 h2 => run_load1 ag_3 (h1.ev rfl) (rdb h2 (vs := [(.int .i64 p0.X), (.int .i64 p0.Y)]) (k := 1) rfl 1) rfl) ?_
  refine Tr.val (wn rfl) rfl (fun _ _ h1 h2 => run_fieldAddr fo_32_1 (h1.ev rfl)) ?_
  refine Tr.val (wn rfl) rfl (fun _ _ h1 h2 => run_load1 ag_3 (h1.ev rfl) (rdb h2 (vs := [(.int .i64 p1.X), (.int .i64 p1.Y)]) (k := 2) rfl 1) rfl) ?_
  refine Tr.val (wn rfl) rfl (fun _ _ h1 h2 => run_lss (h1.ev rfl) (h1.ev rfl)) ?_
  refine Tr.val (wn rfl) rfl (fun _ _ h1 h2 => run_move (h1.ev rfl)) ?_
  refine Tr.mid0 13 [(23, (.bool ((decide (p0.Y < p1.Y)) || ((p0.Y == p1.Y) && (decide (p0.X < p1.X))))))] [(1, bx b100 #[(.int .i64 p0.X), (.int .i64 p0.Y)] 32), (2, bx b101 #[(.int .i64 p1.X), (.int .i64 p1.Y)] 32)] ?_ ?_
  · cases hg101 : (decide (p0.Y < p1.Y))
    · refine Tr.val (wg rfl rfl rfl) rfl (fun _ _ h1 h2 => run_fieldAddr fo_32_1 (h1.ev rfl)) ?_
      refine Tr.val (wg rfl rfl rfl) rfl (fun _ _ h1 h2 => run_load1 ag_3 (h1.ev rfl) (rdb h2 (vs := [(.int .i64 p0.X), (.int .i64 p0.Y)]) (k := 1) rfl 1) rfl) ?_
      refine Tr.val (wg rfl rfl rfl) rfl (fun _ _ h1 h2 => run_fieldAddr fo_32_1 (h1.ev rfl)) ?_
      refine Tr.val (wg rfl rfl rfl) rfl (fun _ _ h1 h2 => run_load1 ag_3 (h1.ev rfl) (rdb h2 (vs := [(.int .i64 p1.X), (.int .i64 p1.Y)]) (k := 2) rfl 1) rfl) ?_
      refine Tr.val (wg rfl rfl rfl) rfl (fun _ _ h1 h2 => run_eql (h1.ev rfl) (h1.ev rfl)) ?_
      refine Tr.val (wg rfl rfl rfl) rfl (fun _ _ h1 h2 => run_move (h1.ev rfl)) ?_
      refine Tr.mid0 6 [(10, (.bool false)), (22, (.bool ((p0.Y == p1.Y) && (decide (p0.X < p1.X)))))] [(1, bx b100 #[(.int .i64 p0.X), (.int .i64 p0.Y)] 32), (2, bx b101 #[(.int .i64 p1.X), (.int .i64 p1.Y)] 32)] ?_ ?_
      · cases hg101 : (p0.Y == p1.Y)
        · refine Tr.pass rfl rfl rfl rfl rfl (by decide) ?_
          refine Tr.pass rfl rfl rfl rfl rfl (by decide) ?_
          refine Tr.pass rfl rfl rfl rfl rfl (by decide) ?_
          refine Tr.pass rfl rfl rfl rfl rfl (by decide) ?_
          refine Tr.pass rfl rfl rfl rfl rfl (by decide) ?_
          refine Tr.val (wg rfl rfl rfl) rfl (fun _ _ h1 h2 => run_pickF (h1.ev rfl) (h1.ev rfl)) ?_
          exact Tr.nil (Tr.fin0 (.cons rfl (.cons rfl .nil)) (.cons rfl (.cons rfl .nil)))
        · refine Tr.val (wg rfl rfl rfl) rfl (fun _ _ h1 h2 => run_fieldAddr fo_32_0 (h1.ev rfl)) ?_
          refine Tr.val (wg rfl rfl rfl) rfl (fun _ _ h1 h2 => run_load1 ag_3 (h1.ev rfl) (rdb h2 (vs := [(.int .i64 p0.X), (.int .i64 p0.Y)]) (k := 1) rfl 0) rfl) ?_
          refine Tr.val (wg rfl rfl rfl) rfl (fun _ _ h1 h2 => run_fieldAddr fo_32_0 (h1.ev rfl)) ?_
          refine Tr.val (wg rfl rfl rfl) rfl (fun _ _ h1 h2 => run_load1 ag_3 (h1.ev rfl) (rdb h2 (vs := [(.int .i64 p1.X), (.int .i64 p1.Y)]) (k := 2) rfl 0) rfl) ?_
          refine Tr.val (wg rfl rfl rfl) rfl (fun _ _ h1 h2 => run_lss (h1.ev rfl) (h1.ev rfl)) ?_
          refine Tr.val (wg rfl rfl rfl) rfl (fun _ _ h1 h2 => run_pickT (h1.ev rfl) (h1.ev rfl)) ?_
          exact Tr.nil (Tr.fin0 (.cons rfl (.cons rfl .nil)) (.cons rfl (.cons rfl .nil)))
      · show Tr _ _ (LF [(10, (.bool false)), (22, (.bool ((p0.Y == p1.Y) && (decide (p0.X < p1.X)))))]) (LE [(1, bx b100 #[(.int .i64 p0.X), (.int .i64 p0.Y)] 32), (2, bx b101 #[(.int .i64 p1.X), (.int .i64 p1.Y)] 32)]) _
        refine Tr.val (wn rfl) rfl (fun _ _ h1 h2 => run_pickF (h1.ev rfl) (h1.ev rfl)) ?_
        exact Tr.nil (Tr.fin0 (.cons rfl .nil) (.cons rfl (.cons rfl .nil)))
    · refine Tr.pass rfl rfl rfl rfl rfl (by decide) ?_
      refine Tr.pass rfl rfl rfl rfl rfl (by decide) ?_
      refine Tr.pass rfl rfl rfl rfl rfl (by decide) ?_
      refine Tr.pass rfl rfl rfl rfl rfl (by decide) ?_
      refine Tr.pass rfl rfl rfl rfl rfl (by decide) ?_
      refine Tr.pass rfl rfl rfl rfl rfl (by decide) ?_
      refine Tr.passU rfl rfl rfl rfl (by decide) ?_
      refine Tr.passU rfl rfl rfl rfl (by decide) ?_
      refine Tr.passU rfl rfl rfl rfl (by decide) ?_
      refine Tr.passU rfl rfl rfl rfl (by decide) ?_
      refine Tr.passU rfl rfl rfl rfl (by decide) ?_
      refine Tr.pass rfl rfl rfl rfl rfl (by decide) ?_
      refine Tr.val (wn rfl) rfl (fun _ _ h1 h2 => run_pickT (h1.ev rfl) (h1.ev rfl)) ?_
      exact Tr.nil (Tr.fin0 (.cons rfl .nil) (.cons rfl (.cons rfl .nil)))
  · show Tr _ _ (LF [(23, (.bool ((decide (p0.Y < p1.Y)) || ((p0.Y == p1.Y) && (decide (p0.X < p1.X))))))]) (LE [(1, bx b100 #[(.int .i64 p0.X), (.int .i64 p0.Y)] 32), (2, bx b101 #[(.int .i64 p1.X), (.int .i64 p1.Y)] 32)]) _
    refine Tr.val (wn rfl) rfl (fun _ _ h1 h2 => run_assign (h1.ev rfl)) ?_
    refine Tr.nil (Tr.normThen ?_)
    refine Tr.ret ?_
    obtain rfl := Option.some.inj H
    exact Tr.out (m := [(.bool ((decide (p0.Y < p1.Y)) || ((p0.Y == p1.Y) && (decide (p0.X < p1.X)))))]) [] (res_tmp rfl res_nil) (fun W hW => ⟨rfl, hW.low leB⟩)

theorem F_shape_GapOf_ok {w : Bs} (p0 : (List TRect)) (Ap0_0 : Option Addr) (cp0_0 : Nat) (hp0_0 : Sl w.R w.W fl_TRect Ap0_0 cp0_0 p0) (p1 : (List TRect)) (Ap1_0 : Option Addr) (cp1_0 : Nat) (hp1_0 : Sl w.R w.W fl_TRect Ap1_0 cp1_0 p1) (r : TGap) (H : F_shape_GapOf p0 p1 = some r) (hE : HF w w.W E0) : Calls Try.prog 46 [(.slice Ap0_0 (p0).length cp0_0), (.slice Ap1_0 (p1).length cp1_0)].toArray w.W fun e W' => e = .returned (.agg #[(.int .i64 r.A), (.int .i64 r.B), (.int .i64 r.Distance), (.int .i64 r.From.X), (.int .i64 r.From.Y), (.int .i64 r.To.X), (.int .i64 r.To.Y)]) ∧ HF w W' E0 := by
  unfold F_shape_GapOf at H
  have leB := Bs.Le.refl w
  refine Tr.enter (n := 129) Try.func46 rfl rfl rfl hE ?_
  refine Tr.seq ?_
  refine Tr.region ?_
  refine Tr.alloc 1 (wn rfl) rfl ze_42 fun b100 => ?_
  refine Tr.nil (Tr.normThen ?_)
  refine Tr.seq ?_
  refine Tr.region ?_
  refine Tr.val (wn rfl) rfl (fun _ _ h1 h2 => run_assign (h1.ev rfl)) ?_
  refine Tr.nil (Tr.normThen ?_)
  refine Tr.seq ?_
  refine Tr.seq ?_
  refine Tr.region ?_
  refine Tr.val (wn rfl) rfl (fun _ _ h1 h2 => run_move (h1.ev rfl)) ?_
  refine Tr.val (wn rfl) rfl (fun _ _ h1 h2 => run_len un_22 (h1.ev rfl)) ?_
  refine Tr.val (wn rfl) rfl (fun _ _ h1 h2 => run_move (h1.ev rfl)) ?_
  refine Tr.nil (Tr.normThen ?_)
  refine Tr.block ?_
  refine Tr.loop (σ := (List TRect) × Nat × Int) (fun m w s => m = s.1.length + 1 ∧ s.1 = List.drop s.2.1 p0 ∧ s.2.1 ≤ p0.length ∧ F_shape_GapOf_L3 p0 p1 s.1 s.2.1 s.2.2 = some r) (fun s => [(0, (.slice Ap0_0 (p0).length cp0_0)), (1, (.slice Ap1_0 (p1).length cp1_0)), (4, (.pointer (some ⟨b100, 0, none⟩))), (5, (.int .i64 s.2.2)), (22, (.slice Ap0_0 (p0).length cp0_0)), (23, (.int .i64 (p0.length : Int))), (24, (.int .i64 (s.2.1 : Int)))]) (fun s => [(1, bx b100 #[(.int .i64 0), (.int .i64 0), (.int .i64 0), (.int .i64 0), (.int .i64 0), (.int .i64 0), (.int .i64 0)] 42)]) (p0.length + 1) (p0, 0, (-1)) ⟨rfl, rfl, Nat.zero_le _, H⟩ (.cons rfl (.cons rfl (.cons rfl (.cons rfl (.cons rfl (.cons rfl (.cons rfl .nil))))))) (.cons rfl .nil) (fun _ _ h => absurd h.1 (by simp)) ?_
  intro w leF_shape_GapOf_L3 m s hs
  obtain ⟨restF_shape_GapOf_L3, iF_shape_GapOf_L3, x141⟩ := s
  obtain ⟨hmF_shape_GapOf_L3, hdF_shape_GapOf_L3, hiF_shape_GapOf_L3, H⟩ := hs
  replace hdF_shape_GapOf_L3 : restF_shape_GapOf_L3 = List.drop iF_shape_GapOf_L3 p0 := hdF_shape_GapOf_L3
  replace H : F_shape_GapOf_L3 p0 p1 restF_shape_GapOf_L3 iF_shape_GapOf_L3 x141 = some r := H
  replace hmF_shape_GapOf_L3 : m + 1 = restF_shape_GapOf_L3.length + 1 := hmF_shape_GapOf_L3
  replace hp0_0 := hp0_0.leR leF_shape_GapOf_L3
  replace hp1_0 := hp1_0.leR leF_shape_GapOf_L3
  replace leB := leB.trans leF_shape_GapOf_L3
  obtain rfl : m = restF_shape_GapOf_L3.length := by omega
  clear hmF_shape_GapOf_L3
  show Tr _ _ (LF [(0, (.slice Ap0_0 (p0).length cp0_0)), (1, (.slice Ap1_0 (p1).length cp1_0)), (4, (.pointer (some ⟨b100, 0, none⟩))), (5, (.int .i64 x141)), (22, (.slice Ap0_0 (p0).length cp0_0)), (23, (.int .i64 (p0.length : Int))), (24, (.int .i64 (iF_shape_GapOf_L3 : Int)))]) (LE [(1, bx b100 #[(.int .i64 0), (.int .i64 0), (.int .i64 0), (.int .i64 0), (.int .i64 0), (.int .i64 0), (.int .i64 0)] 42)]) _
  cases restF_shape_GapOf_L3 with
  | nil =>
    rw [F_shape_GapOf_L3.eq_1] at H
    refine Tr.seq ?_
    refine Tr.region ?_
    refine Tr.val (wn rfl) rfl (fun _ _ h1 h2 => run_lss (h1.ev rfl) (h1.ev rfl)) ?_
    refine Tr.nil (Tr.normThen ?_)
    refine Tr.seq ?_
    refine Tr.condF rfl (range_nil hdF_shape_GapOf_L3) ?_
    refine Tr.exit (Tr.exitThen (Tr.exitThen (Tr.exitBlock (Tr.normThen ?_))))
    refine Tr.seq ?_
    refine Tr.region ?_
    refine Tr.val (wn rfl) rfl (fun _ _ h1 h2 => run_move (h1.ev rfl)) ?_
    refine Tr.val (wn rfl) rfl (fun _ _ h1 h2 => run_sub (h1.ev rfl) (h1.ev rfl)) ?_
    refine Tr.build (vs := [(2, (.int .i64 (w64 (x141 - 1))))]) (cs := [(.int .i64 0), (.int .i64 0), (.int .i64 (w64 (x141 - 1))), (.int .i64 0), (.int .i64 0), (.int .i64 0), (.int .i64 0)]) (wn rfl) rfl (evs_cons rfl evs_nil) (by kernel_rfl) ?_
    refine Tr.alloc 10 (wn rfl) rfl ze_42 fun b142 => ?_
    refine Tr.store 10 (cs := [(.int .i64 0), (.int .i64 0), (.int .i64 (w64 (x141 - 1))), (.int .i64 0), (.int .i64 0), (.int .i64 0), (.int .i64 0)]) [(.int .i64 0), (.int .i64 0), (.int .i64 (w64 (x141 - 1))), (.int .i64 0), (.int .i64 0), (.int .i64 0), (.int .i64 0)] (wn rfl) rfl rfl rfl rfl sz_42 rfl rfl rfl ?_
    refine Tr.nil (Tr.normThen ?_)
    refine Tr.seq ?_
    refine Tr.region ?_
    refine Tr.val (wn rfl) rfl (fun _ _ h1 h2 => run_assign (h1.ev rfl)) ?_
    refine Tr.nil (Tr.normThen ?_)
    refine Tr.seq ?_
    refine Tr.seq ?_
    refine Tr.region ?_
    refine Tr.val (wn rfl) rfl (fun _ _ h1 h2 => run_move (h1.ev rfl)) ?_
    refine Tr.val (wn rfl) rfl (fun _ _ h1 h2 => run_len un_22 (h1.ev rfl)) ?_
    refine Tr.val (wn rfl) rfl (fun _ _ h1 h2 => run_move (h1.ev rfl)) ?_
    refine Tr.nil (Tr.normThen ?_)
    refine Tr.block ?_
    refine Tr.loop (σ := (List TRect) × Nat × Int × Int × Bool) (fun m w s => m = s.1.length + 1 ∧ s.1 = List.drop s.2.1 p0 ∧ s.2.1 ≤ p0.length ∧ F_shape_GapOf_L6 p1 x141 s.1 s.2.1 s.2.2.1 s.2.2.2.1 s.2.2.2.2 = some r) (fun s => [(1, (.slice Ap1_0 (p1).length cp1_0)), (4, (.pointer (some ⟨b100, 0, none⟩))), (5, (.int .i64 x141)), (11, (.pointer (some ⟨b142, 0, none⟩))), (12, (.bool s.2.2.2.2)), (50, (.slice Ap0_0 (p0).length cp0_0)), (51, (.int .i64 (p0.length : Int))), (52, (.int .i64 (s.2.1 : Int)))]) (fun s => [(1, bx b100 #[(.int .i64 0), (.int .i64 0), (.int .i64 0), (.int .i64 0), (.int .i64 0), (.int .i64 0), (.int .i64 0)] 42), (10, bx b142 #[(.int .i64 0), (.int .i64 0), (.int .i64 (w64 (x141 - 1))), (.int .i64 s.2.2.1), (.int .i64 s.2.2.2.1), (.int .i64 0), (.int .i64 0)] 42)]) (p0.length + 1) (p0, 0, 0, 0, false) ⟨rfl, rfl, Nat.zero_le _, H⟩ (.cons rfl (.cons rfl (.cons rfl (.cons rfl (.cons rfl (.cons rfl (.cons rfl (.cons rfl .nil)))))))) (.cons rfl (.cons rfl .nil)) (fun _ _ h => absurd h.1 (by simp)) ?_
    intro w leF_shape_GapOf_L6 m s hs
    obtain ⟨restF_shape_GapOf_L6, iF_shape_GapOf_L6, x259, x260, x261⟩ := s
    obtain ⟨hmF_shape_GapOf_L6, hdF_shape_GapOf_L6, hiF_shape_GapOf_L6, H⟩ := hs
    replace hdF_shape_GapOf_L6 : restF_shape_GapOf_L6 = List.drop iF_shape_GapOf_L6 p0 := hdF_shape_GapOf_L6
    replace H : F_shape_GapOf_L6 p1 x141 restF_shape_GapOf_L6 iF_shape_GapOf_L6 x259 x260 x261 = some r := H
    replace hmF_shape_GapOf_L6 : m + 1 = restF_shape_GapOf_L6.length + 1 := hmF_shape_GapOf_L6
    replace hp1_0 := hp1_0.leR leF_shape_GapOf_L6
    replace hp0_0 := hp0_0.leR leF_shape_GapOf_L6
    replace leB := leB.trans leF_shape_GapOf_L6
    replace leF_shape_GapOf_L3 := leF_shape_GapOf_L3.trans leF_shape_GapOf_L6
    obtain rfl : m = restF_shape_GapOf_L6.length := by omega
    clear hmF_shape_GapOf_L6
    show Tr _ _ (LF [(1, (.slice Ap1_0 (p1).length cp1_0)), (4, (.pointer (some ⟨b100, 0, none⟩))), (5, (.int .i64 x141)), (11, (.pointer (some ⟨b142, 0, none⟩))), (12, (.bool x261)), (50, (.slice Ap0_0 (p0).length cp0_0)), (51, (.int .i64 (p0.length : Int))), (52, (.int .i64 (iF_shape_GapOf_L6 : Int)))]) (LE [(1, bx b100 #[(.int .i64 0), (.int .i64 0), (.int .i64 0), (.int .i64 0), (.int .i64 0), (.int .i64 0), (.int .i64 0)] 42), (10, bx b142 #[(.int .i64 0), (.int .i64 0), (.int .i64 (w64 (x141 - 1))), (.int .i64 x259), (.int .i64 x260), (.int .i64 0), (.int .i64 0)] 42)]) _
    cases restF_shape_GapOf_L6 with
    | nil =>
      rw [F_shape_GapOf_L6.eq_1] at H
      refine Tr.seq ?_
      refine Tr.region ?_
      refine Tr.val (wn rfl) rfl (fun _ _ h1 h2 => run_lss (h1.ev rfl) (h1.ev rfl)) ?_
      refine Tr.nil (Tr.normThen ?_)
      refine Tr.seq ?_
      refine Tr.condF rfl (range_nil hdF_shape_GapOf_L6) ?_
      refine Tr.exit (Tr.exitThen (Tr.exitThen (Tr.exitBlock (Tr.normThen ?_))))
      refine Tr.seq ?_
      refine Tr.region ?_
      refine Tr.val (wn rfl) rfl (fun _ _ h1 h2 => run_fieldAddr fo_42_3 (h1.ev rfl)) ?_
      refine Tr.val (wn rfl) rfl (fun _ _ h1 h2 => run_fieldAddr fo_32_0 (h1.ev rfl)) ?_
      refine Tr.val (wn rfl) rfl (fun _ _ h1 h2 => run_load1 ag_3 (h1.ev rfl) (rdb h2 (vs := [(.int .i64 0), (.int .i64 0), (.int .i64 (w64 (x141 - 1))), (.int .i64 x259), (.int .i64 x260), (.int .i64 0), (.int .i64 0)]) (k := 10) rfl 3) rfl) ?_
      refine Tr.val (wn rfl) rfl (fun _ _ h1 h2 => run_fieldAddr fo_42_3 (h1.ev rfl)) ?_
      refine Tr.val (wn rfl) rfl (fun _ _ h1 h2 => run_fieldAddr fo_32_1 (h1.ev rfl)) ?_
      refine Tr.val (wn rfl) rfl (fun _ _ h1 h2 => run_load1 ag_3 (h1.ev rfl) (rdb h2 (vs := [(.int .i64 0), (.int .i64 0), (.int .i64 (w64 (x141 - 1))), (.int .i64 x259), (.int .i64 x260), (.int .i64 0), (.int .i64 0)]) (k := 10) rfl 4) rfl) ?_
      refine Tr.val (wn rfl) rfl (fun _ _ h1 h2 => run_fieldAddr fo_42_3 (h1.ev rfl)) ?_
      refine Tr.val (wn rfl) rfl (fun _ _ h1 h2 => run_fieldAddr fo_32_0 (h1.ev rfl)) ?_
      refine Tr.val (wn rfl) rfl (fun _ _ h1 h2 => run_load1 ag_3 (h1.ev rfl) (rdb h2 (vs := [(.int .i64 0), (.int .i64 0), (.int .i64 (w64 (x141 - 1))), (.int .i64 x259), (.int .i64 x260), (.int .i64 0), (.int .i64 0)]) (k := 10) rfl 3) rfl) ?_
      refine Tr.val (wn rfl) rfl (fun _ _ h1 h2 => run_add (h1.ev rfl) (h1.ev rfl)) ?_
      refine Tr.val (wn rfl) rfl (fun _ _ h1 h2 => run_fieldAddr fo_42_3 (h1.ev rfl)) ?_
      refine Tr.val (wn rfl) rfl (fun _ _ h1 h2 => run_fieldAddr fo_32_1 (h1.ev rfl)) ?_
      refine Tr.val (wn rfl) rfl (fun _ _ h1 h2 => run_load1 ag_3 (h1.ev rfl) (rdb h2 (vs := [(.int .i64 0), (.int .i64 0), (.int .i64 (w64 (x141 - 1))), (.int .i64 x259), (.int .i64 x260), (.int .i64 0), (.int .i64 0)]) (k := 10) rfl 4) rfl) ?_
      refine Tr.val (wn rfl) rfl (fun _ _ h1 h2 => run_add (h1.ev rfl) (h1.ev rfl)) ?_
      refine Tr.build (vs := [(0, (.int .i64 x259)), (1, (.int .i64 x260)), (2, (.int .i64 (w64 (x259 + 1)))), (3, (.int .i64 (w64 (x260 + 1))))]) (cs := [(.int .i64 x259), (.int .i64 x260), (.int .i64 (w64 (x259 + 1))), (.int .i64 (w64 (x260 + 1)))]) (wn rfl) rfl (evs_cons rfl (evs_cons rfl (evs_cons rfl (evs_cons rfl evs_nil)))) (by kernel_rfl) ?_
      refine Tr.alloc 25 (wn rfl) rfl ze_29 fun b262 => ?_
      refine Tr.store 25 (cs := [(.int .i64 x259), (.int .i64 x260), (.int .i64 (w64 (x259 + 1))), (.int .i64 (w64 (x260 + 1)))]) [(.int .i64 x259), (.int .i64 x260), (.int .i64 (w64 (x259 + 1))), (.int .i64 (w64 (x260 + 1)))] (wn rfl) rfl rfl rfl rfl sz_29 rfl rfl rfl ?_
      refine Tr.nil (Tr.normThen ?_)
      refine Tr.seq ?_
      refine Tr.region ?_
      refine Tr.val (wn rfl) rfl (fun _ _ h1 h2 => run_assign (h1.ev rfl)) ?_
      refine Tr.nil (Tr.normThen ?_)
      refine Tr.seq ?_
      refine Tr.seq ?_
      refine Tr.region ?_
      refine Tr.val (wn rfl) rfl (fun _ _ h1 h2 => run_move (h1.ev rfl)) ?_
      refine Tr.val (wn rfl) rfl (fun _ _ h1 h2 => run_len un_22 (h1.ev rfl)) ?_
      refine Tr.val (wn rfl) rfl (fun _ _ h1 h2 => run_move (h1.ev rfl)) ?_
      refine Tr.nil (Tr.normThen ?_)
      refine Tr.block ?_
      refine Tr.loop (σ := (List TRect) × Nat × Int × Int × Bool) (fun m w s => m = s.1.length + 1 ∧ s.1 = List.drop s.2.1 p1 ∧ s.2.1 ≤ p1.length ∧ F_shape_GapOf_L7 x141 x259 x260 s.1 s.2.1 s.2.2.1 s.2.2.2.1 s.2.2.2.2 = some r) (fun s => [(4, (.pointer (some ⟨b100, 0, none⟩))), (5, (.int .i64 x141)), (11, (.pointer (some ⟨b142, 0, none⟩))), (12, (.bool s.2.2.2.2)), (18, (.pointer (some ⟨b262, 0, none⟩))), (100, (.slice Ap1_0 (p1).length cp1_0)), (101, (.int .i64 (p1.length : Int))), (102, (.int .i64 (s.2.1 : Int)))]) (fun s => [(1, bx b100 #[(.int .i64 0), (.int .i64 0), (.int .i64 0), (.int .i64 0), (.int .i64 0), (.int .i64 0), (.int .i64 0)] 42), (10, bx b142 #[(.int .i64 0), (.int .i64 0), (.int .i64 (w64 (x141 - 1))), (.int .i64 x259), (.int .i64 x260), (.int .i64 s.2.2.1), (.int .i64 s.2.2.2.1)] 42), (25, bx b262 #[(.int .i64 x259), (.int .i64 x260), (.int .i64 (w64 (x259 + 1))), (.int .i64 (w64 (x260 + 1)))] 29)]) (p1.length + 1) (p1, 0, 0, 0, false) ⟨rfl, rfl, Nat.zero_le _, H⟩ (.cons rfl (.cons rfl (.cons rfl (.cons rfl (.cons rfl (.cons rfl (.cons rfl (.cons rfl .nil)))))))) (.cons rfl (.cons rfl (.cons rfl .nil))) (fun _ _ h => absurd h.1 (by simp)) ?_
      intro w leF_shape_GapOf_L7 m s hs
      obtain ⟨restF_shape_GapOf_L7, iF_shape_GapOf_L7, x299, x300, x301⟩ := s
      obtain ⟨hmF_shape_GapOf_L7, hdF_shape_GapOf_L7, hiF_shape_GapOf_L7, H⟩ := hs
      replace hdF_shape_GapOf_L7 : restF_shape_GapOf_L7 = List.drop iF_shape_GapOf_L7 p1 := hdF_shape_GapOf_L7
      replace H : F_shape_GapOf_L7 x141 x259 x260 restF_shape_GapOf_L7 iF_shape_GapOf_L7 x299 x300 x301 = some r := H
      replace hmF_shape_GapOf_L7 : m + 1 = restF_shape_GapOf_L7.length + 1 := hmF_shape_GapOf_L7
      replace hp1_0 := hp1_0.leR leF_shape_GapOf_L7
      replace leB := leB.trans leF_shape_GapOf_L7
      replace leF_shape_GapOf_L3 := leF_shape_GapOf_L3.trans leF_shape_GapOf_L7
      replace leF_shape_GapOf_L6 := leF_shape_GapOf_L6.trans leF_shape_GapOf_L7
      obtain rfl : m = restF_shape_GapOf_L7.length := by omega
      clear hmF_shape_GapOf_L7
      show Tr _ _ (LF [(4, (.pointer (some ⟨b100, 0, none⟩))), (5, (.int .i64 x141)), (11, (.pointer (some ⟨b142, 0, none⟩))), (12, (.bool x301)), (18, (.pointer (some ⟨b262, 0, none⟩))), (100, (.slice Ap1_0 (p1).length cp1_0)), (101, (.int .i64 (p1.length : Int))), (102, (.int .i64 (iF_shape_GapOf_L7 : Int)))]) (LE [(1, bx b100 #[(.int .i64 0), (.int .i64 0), (.int .i64 0), (.int .i64 0), (.int .i64 0), (.int .i64 0), (.int .i64 0)] 42), (10, bx b142 #[(.int .i64 0), (.int .i64 0), (.int .i64 (w64 (x141 - 1))), (.int .i64 x259), (.int .i64 x260), (.int .i64 x299), (.int .i64 x300)] 42), (25, bx b262 #[(.int .i64 x259), (.int .i64 x260), (.int .i64 (w64 (x259 + 1))), (.int .i64 (w64 (x260 + 1)))] 29)]) _
      cases restF_shape_GapOf_L7 with
      | nil =>
        rw [F_shape_GapOf_L7.eq_1] at H
        refine Tr.seq ?_
        refine Tr.region ?_
        refine Tr.val (wn rfl) rfl (fun _ _ h1 h2 => run_lss (h1.ev rfl) (h1.ev rfl)) ?_
        refine Tr.nil (Tr.normThen ?_)
        refine Tr.seq ?_
        refine Tr.condF rfl (range_nil hdF_shape_GapOf_L7) ?_
        refine Tr.exit (Tr.exitThen (Tr.exitThen (Tr.exitBlock (Tr.normThen ?_))))
        refine Tr.seq ?_
        refine Tr.region ?_
        refine Tr.val (wn rfl) rfl (fun _ _ h1 h2 => run_loadN (cs := [(.int .i64 0), (.int .i64 0), (.int .i64 (w64 (x141 - 1))), (.int .i64 x259), (.int .i64 x260), (.int .i64 x299), (.int .i64 x300)]) ag_42 sz_42 (h1.ev rfl) (CellsAt.take (rdb h2 (vs := [(.int .i64 0), (.int .i64 0), (.int .i64 (w64 (x141 - 1))), (.int .i64 x259), (.int .i64 x260), (.int .i64 x299), (.int .i64 x300)]) (k := 10) rfl 0) 7) rfl) ?_
        refine Tr.store 1 (cs := [(.int .i64 0), (.int .i64 0), (.int .i64 (w64 (x141 - 1))), (.int .i64 x259), (.int .i64 x260), (.int .i64 x299), (.int .i64 x300)]) [(.int .i64 0), (.int .i64 0), (.int .i64 (w64 (x141 - 1))), (.int .i64 x259), (.int .i64 x260), (.int .i64 x299), (.int .i64 x300)] (wn rfl) rfl rfl rfl rfl sz_42 rfl rfl rfl ?_
        refine Tr.nil (Tr.normThen ?_)
        refine Tr.ret ?_
        obtain rfl := Option.some.inj H
        exact Tr.out (m := [(.agg #[(.int .i64 0), (.int .i64 0), (.int .i64 (w64 (x141 - 1))), (.int .i64 x259), (.int .i64 x260), (.int .i64 x299), (.int .i64 x300)])]) [1] (res_cell rfl rfl ag_42 sz_42 res_nil) (fun W hW => ⟨rfl, hW.low leB⟩)
      | cons xF_shape_GapOf_L7 restF_shape_GapOf_L7 =>
        rw [F_shape_GapOf_L7.eq_2] at H
        refine Tr.seq ?_
        refine Tr.region ?_
        refine Tr.val (wn rfl) rfl (fun _ _ h1 h2 => run_lss (h1.ev rfl) (h1.ev rfl)) ?_
        refine Tr.nil (Tr.normThen ?_)
        refine Tr.seq ?_
        refine Tr.condT rfl (range_on hdF_shape_GapOf_L7) ?_
        refine Tr.skip (Tr.normThen ?_)
        refine Tr.seq ?_
        refine Tr.block ?_
        refine Tr.seq ?_
        refine Tr.region ?_
        refine Tr.val (wn rfl) rfl (fun _ _ h1 h2 => run_indexAddr el_22 (h1.ev rfl) hp1_0.form (h1.ev rfl) (Int.natCast_nonneg _) (range_lt hdF_shape_GapOf_L7)) ?_
        refine Tr.val (wn rfl) rfl (fun _ _ h1 h2 => run_loadN (cs := [(.int .i64 xF_shape_GapOf_L7.X0), (.int .i64 xF_shape_GapOf_L7.Y0), (.int .i64 xF_shape_GapOf_L7.X1), (.int .i64 xF_shape_GapOf_L7.Y1)]) ag_29 sz_29 (h1.ev rfl) (CellsAt.take (rdF ef_TRect hp1_0 (range_at hdF_shape_GapOf_L7) h2) 4) rfl) ?_
        refine Tr.alloc 30 (wn rfl) rfl ze_29 fun b302 => ?_
        refine Tr.store 30 (cs := [(.int .i64 xF_shape_GapOf_L7.X0), (.int .i64 xF_shape_GapOf_L7.Y0), (.int .i64 xF_shape_GapOf_L7.X1), (.int .i64 xF_shape_GapOf_L7.Y1)]) [(.int .i64 xF_shape_GapOf_L7.X0), (.int .i64 xF_shape_GapOf_L7.Y0), (.int .i64 xF_shape_GapOf_L7.X1), (.int .i64 xF_shape_GapOf_L7.Y1)] (wn rfl) rfl rfl rfl rfl sz_29 rfl rfl rfl ?_
        refine Tr.nil (Tr.normThen ?_)
        refine Tr.seq ?_
        refine Tr.region ?_
        refine Tr.val (wn rfl) rfl (fun _ _ h1 h2 => run_loadN (cs := [(.int .i64 xF_shape_GapOf_L7.X0), (.int .i64 xF_shape_GapOf_L7.Y0), (.int .i64 xF_shape_GapOf_L7.X1), (.int .i64 xF_shape_GapOf_L7.Y1)]) ag_29 sz_29 (h1.ev rfl) (CellsAt.take (rdb h2 (vs := [(.int .i64 xF_shape_GapOf_L7.X0), (.int .i64 xF_shape_GapOf_L7.Y0), (.int .i64 xF_shape_GapOf_L7.X1), (.int .i64 xF_shape_GapOf_L7.Y1)]) (k := 30) rfl 0) 4) rfl) ?_
        refine Tr.val (wn rfl) rfl (fun _ _ h1 h2 => run_loadN (cs := [(.int .i64 x259), (.int .i64 x260), (.int .i64 (w64 (x259 + 1))), (.int .i64 (w64 (x260 + 1)))]) ag_29 sz_29 (h1.ev rfl) (CellsAt.take (rdb h2 (vs := [(.int .i64 x259), (.int .i64 x260), (.int .i64 (w64 (x259 + 1))), (.int .i64 (w64 (x260 + 1)))]) (k := 25) rfl 0) 4) rfl) ?_
        refine Tr.val (wn rfl) rfl (fun _ _ h1 h2 => run_move (h1.ev rfl)) ?_
        obtain ⟨y303, hy303, H⟩ := bnd H
        refine Tr.call0 (r := (.agg #[(.int .i64 y303.X), (.int .i64 y303.Y)])) (wn rfl) rfl Try.call82 (evl_cons rfl (evl_cons rfl (evl_cons rfl evl_nil))) (fun W hW => F_shape_near_ok xF_shape_GapOf_L7 (TRect.mk x259 x260 (w64 (x259 + 1)) (w64 (x260 + 1))) x141 y303 hy303 (HF.start _)) ?_
        refine Tr.alloc 31 (wn rfl) rfl ze_32 fun b304 => ?_
        refine Tr.store 31 (cs := [(.int .i64 y303.X), (.int .i64 y303.Y)]) [(.int .i64 y303.X), (.int .i64 y303.Y)] (wn rfl) rfl rfl rfl rfl sz_32 rfl rfl rfl ?_
        refine Tr.nil (Tr.normThen ?_)
        refine Tr.seq ?_
        refine Tr.region ?_
        refine Tr.val (wn rfl) rfl (fun _ _ h1 h2 => run_loadN (cs := [(.int .i64 xF_shape_GapOf_L7.X0), (.int .i64 xF_shape_GapOf_L7.Y0), (.int .i64 xF_shape_GapOf_L7.X1), (.int .i64 xF_shape_GapOf_L7.Y1)]) ag_29 sz_29 (h1.ev rfl) (CellsAt.take (rdb h2 (vs := [(.int .i64 xF_shape_GapOf_L7.X0), (.int .i64 xF_shape_GapOf_L7.Y0), (.int .i64 xF_shape_GapOf_L7.X1), (.int .i64 xF_shape_GapOf_L7.Y1)]) (k := 30) rfl 0) 4) rfl) ?_
        refine Tr.val (wn rfl) rfl (fun _ _ h1 h2 => run_loadN (cs := [(.int .i64 x259), (.int .i64 x260), (.int .i64 (w64 (x259 + 1))), (.int .i64 (w64 (x260 + 1)))]) ag_29 sz_29 (h1.ev rfl) (CellsAt.take (rdb h2 (vs := [(.int .i64 x259), (.int .i64 x260), (.int .i64 (w64 (x259 + 1))), (.int .i64 (w64 (x260 + 1)))]) (k := 25) rfl 0) 4) rfl) ?_
        obtain ⟨y305, hy305, H⟩ := bnd H
        refine Tr.call0 (r := (.int .i64 y305)) (wn rfl) rfl Try.call81 (evl_cons rfl (evl_cons rfl evl_nil)) (fun W hW => F_shape_Far_ok xF_shape_GapOf_L7 (TRect.mk x259 x260 (w64 (x259 + 1)) (w64 (x260 + 1))) y305 hy305 (HF.start _)) ?_
        refine Tr.val (wn rfl) rfl (fun _ _ h1 h2 => run_move (h1.ev rfl)) ?_
        refine Tr.val (wn rfl) rfl (fun _ _ h1 h2 => run_eql (h1.ev rfl) (h1.ev rfl)) ?_
        refine Tr.val (wn rfl) rfl (fun _ _ h1 h2 => run_move (h1.ev rfl)) ?_
        obtain ⟨g309, hg309, H⟩ := bnd H
        refine Tr.mid0 9 [(4, (.pointer (some ⟨b100, 0, none⟩))), (5, (.int .i64 x141)), (11, (.pointer (some ⟨b142, 0, none⟩))), (12, (.bool x301)), (18, (.pointer (some ⟨b262, 0, none⟩))), (21, (.pointer (some ⟨b304, 0, none⟩))), (100, (.slice Ap1_0 (p1).length cp1_0)), (101, (.int .i64 (p1.length : Int))), (102, (.int .i64 (iF_shape_GapOf_L7 : Int))), (124, (.bool g309))] [(1, bx b100 #[(.int .i64 0), (.int .i64 0), (.int .i64 0), (.int .i64 0), (.int .i64 0), (.int .i64 0), (.int .i64 0)] 42), (10, bx b142 #[(.int .i64 0), (.int .i64 0), (.int .i64 (w64 (x141 - 1))), (.int .i64 x259), (.int .i64 x260), (.int .i64 x299), (.int .i64 x300)] 42), (25, bx b262 #[(.int .i64 x259), (.int .i64 x260), (.int .i64 (w64 (x259 + 1))), (.int .i64 (w64 (x260 + 1)))] 29), (30, bx b302 #[(.int .i64 xF_shape_GapOf_L7.X0), (.int .i64 xF_shape_GapOf_L7.Y0), (.int .i64 xF_shape_GapOf_L7.X1), (.int .i64 xF_shape_GapOf_L7.Y1)] 29), (31, bx b304 #[(.int .i64 y303.X), (.int .i64 y303.Y)] 32)] ?_ ?_
        · cases hg312 : (y305 == x141)
          · rw [hg312] at hg309
            rw [if_neg (by decide)] at hg309
            have H := hg309
            obtain rfl := Option.some.inj H
            refine Tr.pass rfl rfl rfl rfl rfl (by decide) ?_
            refine Tr.pass rfl rfl rfl rfl rfl (by decide) ?_
            refine Tr.pass rfl rfl rfl rfl rfl (by decide) ?_
            refine Tr.passU rfl rfl rfl rfl (by decide) ?_
            refine Tr.passU rfl rfl rfl rfl (by decide) ?_
            refine Tr.passU rfl rfl rfl rfl (by decide) ?_
            refine Tr.passU rfl rfl rfl rfl (by decide) ?_
            refine Tr.pass rfl rfl rfl rfl rfl (by decide) ?_
            refine Tr.val (wn rfl) rfl (fun _ _ h1 h2 => run_pickF (h1.ev rfl) (h1.ev rfl)) ?_
            exact Tr.nil (Tr.fin0 (.cons rfl (.cons rfl (.cons rfl (.cons rfl (.cons rfl (.cons rfl (.cons rfl (.cons rfl (.cons rfl (.cons rfl .nil)))))))))) (.cons rfl (.cons rfl (.cons rfl (.cons rfl (.cons rfl .nil))))))
          · rw [hg312] at hg309
            rw [if_pos rfl] at hg309
            have H := hg309
            refine Tr.val (wg rfl rfl rfl) rfl (fun _ _ h1 h2 => run_move (h1.ev rfl)) ?_
            refine Tr.val (wg rfl rfl rfl) rfl (fun _ _ h1 h2 => run_not (h1.ev rfl)) ?_
            refine Tr.val (wg rfl rfl rfl) rfl (fun _ _ h1 h2 => run_move (h1.ev rfl)) ?_
            obtain ⟨g311, hg311, H⟩ := bnd H
            refine Tr.mid0 5 [(4, (.pointer (some ⟨b100, 0, none⟩))), (5, (.int .i64 x141)), (11, (.pointer (some ⟨b142, 0, none⟩))), (12, (.bool x301)), (18, (.pointer (some ⟨b262, 0, none⟩))), (21, (.pointer (some ⟨b304, 0, none⟩))), (100, (.slice Ap1_0 (p1).length cp1_0)), (101, (.int .i64 (p1.length : Int))), (102, (.int .i64 (iF_shape_GapOf_L7 : Int))), (115, (.bool true)), (123, (.bool g311))] [(1, bx b100 #[(.int .i64 0), (.int .i64 0), (.int .i64 0), (.int .i64 0), (.int .i64 0), (.int .i64 0), (.int .i64 0)] 42), (10, bx b142 #[(.int .i64 0), (.int .i64 0), (.int .i64 (w64 (x141 - 1))), (.int .i64 x259), (.int .i64 x260), (.int .i64 x299), (.int .i64 x300)] 42), (25, bx b262 #[(.int .i64 x259), (.int .i64 x260), (.int .i64 (w64 (x259 + 1))), (.int .i64 (w64 (x260 + 1)))] 29), (30, bx b302 #[(.int .i64 xF_shape_GapOf_L7.X0), (.int .i64 xF_shape_GapOf_L7.Y0), (.int .i64 xF_shape_GapOf_L7.X1), (.int .i64 xF_shape_GapOf_L7.Y1)] 29), (31, bx b304 #[(.int .i64 y303.X), (.int .i64 y303.Y)] 32)] ?_ ?_
            · cases hg312 : (!x301)
              · rw [hg312] at hg311
                rw [if_neg (by decide)] at hg311
                have H := hg311
                refine Tr.val (wg rfl rfl rfl) rfl (fun _ _ h1 h2 => run_loadN (cs := [(.int .i64 y303.X), (.int .i64 y303.Y)]) ag_32 sz_32 (h1.ev rfl) (CellsAt.take (rdb h2 (vs := [(.int .i64 y303.X), (.int .i64 y303.Y)]) (k := 31) rfl 0) 2) rfl) ?_
                refine Tr.val (wg rfl rfl rfl) rfl (fun _ _ h1 h2 => run_fieldAddr fo_42_4 (h1.ev rfl)) ?_
                refine Tr.val (wg rfl rfl rfl) rfl (fun _ _ h1 h2 => run_loadN (cs := [(.int .i64 x299), (.int .i64 x300)]) ag_32 sz_32 (h1.ev rfl) (CellsAt.take (rdb h2 (vs := [(.int .i64 0), (.int .i64 0), (.int .i64 (w64 (x141 - 1))), (.int .i64 x259), (.int .i64 x260), (.int .i64 x299), (.int .i64 x300)]) (k := 10) rfl 5) 2) rfl) ?_
                obtain ⟨y312, hy312, H⟩ := bnd H
                refine Tr.call0 (r := (.bool y312)) (wg rfl rfl rfl) rfl Try.call83 (evl_cons rfl (evl_cons rfl evl_nil)) (fun W hW => F_shape_less_ok y303 (TPoint.mk x299 x300) y312 hy312 (HF.start _)) ?_
                refine Tr.val (wg rfl rfl rfl) rfl (fun _ _ h1 h2 => run_pickF (h1.ev rfl) (h1.ev rfl)) ?_
                obtain rfl := Option.some.inj H
                exact Tr.nil (Tr.fin0 (.cons rfl (.cons rfl (.cons rfl (.cons rfl (.cons rfl (.cons rfl (.cons rfl (.cons rfl (.cons rfl (.cons rfl (.cons rfl .nil))))))))))) (.cons rfl (.cons rfl (.cons rfl (.cons rfl (.cons rfl .nil))))))
              · rw [hg312] at hg311
                rw [if_pos rfl] at hg311
                have H := hg311
                obtain rfl := Option.some.inj H
                refine Tr.pass rfl rfl rfl rfl rfl (by decide) ?_
                refine Tr.pass rfl rfl rfl rfl rfl (by decide) ?_
                refine Tr.pass rfl rfl rfl rfl rfl (by decide) ?_
                refine Tr.pass rfl rfl rfl rfl rfl (by decide) ?_
                refine Tr.val (wg rfl rfl rfl) rfl (fun _ _ h1 h2 => run_pickT (h1.ev rfl) (h1.ev rfl)) ?_
                exact Tr.nil (Tr.fin0 (.cons rfl (.cons rfl (.cons rfl (.cons rfl (.cons rfl (.cons rfl (.cons rfl (.cons rfl (.cons rfl (.cons rfl (.cons rfl .nil))))))))))) (.cons rfl (.cons rfl (.cons rfl (.cons rfl (.cons rfl .nil))))))
            · show Tr _ _ (LF [(4, (.pointer (some ⟨b100, 0, none⟩))), (5, (.int .i64 x141)), (11, (.pointer (some ⟨b142, 0, none⟩))), (12, (.bool x301)), (18, (.pointer (some ⟨b262, 0, none⟩))), (21, (.pointer (some ⟨b304, 0, none⟩))), (100, (.slice Ap1_0 (p1).length cp1_0)), (101, (.int .i64 (p1.length : Int))), (102, (.int .i64 (iF_shape_GapOf_L7 : Int))), (115, (.bool true)), (123, (.bool g311))]) (LE [(1, bx b100 #[(.int .i64 0), (.int .i64 0), (.int .i64 0), (.int .i64 0), (.int .i64 0), (.int .i64 0), (.int .i64 0)] 42), (10, bx b142 #[(.int .i64 0), (.int .i64 0), (.int .i64 (w64 (x141 - 1))), (.int .i64 x259), (.int .i64 x260), (.int .i64 x299), (.int .i64 x300)] 42), (25, bx b262 #[(.int .i64 x259), (.int .i64 x260), (.int .i64 (w64 (x259 + 1))), (.int .i64 (w64 (x260 + 1)))] 29), (30, bx b302 #[(.int .i64 xF_shape_GapOf_L7.X0), (.int .i64 xF_shape_GapOf_L7.Y0), (.int .i64 xF_shape_GapOf_L7.X1), (.int .i64 xF_shape_GapOf_L7.Y1)] 29), (31, bx b304 #[(.int .i64 y303.X), (.int .i64 y303.Y)] 32)]) _
              refine Tr.val (wn rfl) rfl (fun _ _ h1 h2 => run_pickT (h1.ev rfl) (h1.ev rfl)) ?_
              obtain rfl := Option.some.inj H
              exact Tr.nil (Tr.fin0 (.cons rfl (.cons rfl (.cons rfl (.cons rfl (.cons rfl (.cons rfl (.cons rfl (.cons rfl (.cons rfl (.cons rfl .nil)))))))))) (.cons rfl (.cons rfl (.cons rfl (.cons rfl (.cons rfl .nil))))))
        · show Tr _ _ (LF [(4, (.pointer (some ⟨b100, 0, none⟩))), (5, (.int .i64 x141)), (11, (.pointer (some ⟨b142, 0, none⟩))), (12, (.bool x301)), (18, (.pointer (some ⟨b262, 0, none⟩))), (21, (.pointer (some ⟨b304, 0, none⟩))), (100, (.slice Ap1_0 (p1).length cp1_0)), (101, (.int .i64 (p1.length : Int))), (102, (.int .i64 (iF_shape_GapOf_L7 : Int))), (124, (.bool g309))]) (LE [(1, bx b100 #[(.int .i64 0), (.int .i64 0), (.int .i64 0), (.int .i64 0), (.int .i64 0), (.int .i64 0), (.int .i64 0)] 42), (10, bx b142 #[(.int .i64 0), (.int .i64 0), (.int .i64 (w64 (x141 - 1))), (.int .i64 x259), (.int .i64 x260), (.int .i64 x299), (.int .i64 x300)] 42), (25, bx b262 #[(.int .i64 x259), (.int .i64 x260), (.int .i64 (w64 (x259 + 1))), (.int .i64 (w64 (x260 + 1)))] 29), (30, bx b302 #[(.int .i64 xF_shape_GapOf_L7.X0), (.int .i64 xF_shape_GapOf_L7.Y0), (.int .i64 xF_shape_GapOf_L7.X1), (.int .i64 xF_shape_GapOf_L7.Y1)] 29), (31, bx b304 #[(.int .i64 y303.X), (.int .i64 y303.Y)] 32)]) _
          refine Tr.nil (Tr.normThen ?_)
          refine Tr.cond rfl H (fun H => ?_) (fun H => ?_)
          · refine Tr.region ?_
            refine Tr.val (wn rfl) rfl (fun _ _ h1 h2 => run_loadN (cs := [(.int .i64 y303.X), (.int .i64 y303.Y)]) ag_32 sz_32 (h1.ev rfl) (CellsAt.take (rdb h2 (vs := [(.int .i64 y303.X), (.int .i64 y303.Y)]) (k := 31) rfl 0) 2) rfl) ?_
            refine Tr.val (wn rfl) rfl (fun _ _ h1 h2 => run_fieldAddr fo_42_4 (h1.ev rfl)) ?_
            refine Tr.store 10 (cs := [(.int .i64 y303.X), (.int .i64 y303.Y)]) [(.int .i64 0), (.int .i64 0), (.int .i64 (w64 (x141 - 1))), (.int .i64 x259), (.int .i64 x260), (.int .i64 y303.X), (.int .i64 y303.Y)] (wn rfl) rfl rfl rfl rfl sz_32 rfl rfl rfl ?_
            refine Tr.val (wn rfl) rfl (fun _ _ h1 h2 => run_assign (h1.ev rfl)) ?_
            refine Tr.nil (Tr.normBlock (Tr.normThen ?_))
            refine Tr.region ?_
            refine Tr.val (wn rfl) rfl (fun _ _ h1 h2 => run_add (h1.ev rfl) (h1.ev rfl)) ?_
            refine Tr.val (wn rfl) rfl (fun _ _ h1 h2 => run_move (h1.ev rfl)) ?_
            refine Tr.nil ?_
            exact Tr.backThen leF_shape_GapOf_L7 (restF_shape_GapOf_L7, (iF_shape_GapOf_L7 + 1), y303.X, y303.Y, true) ⟨rfl, range_tl hdF_shape_GapOf_L7, range_lt hdF_shape_GapOf_L7, H⟩ (.cons rfl (.cons rfl (.cons rfl (.cons rfl (.cons rfl (.cons rfl (.cons rfl (.cons (congrArg (fun z => some (Value.int .i64 z)) (range_up hdF_shape_GapOf_L7 hp1_0.form)) .nil)))))))) (.cons rfl (.cons rfl (.cons rfl .nil)))
          · refine Tr.skip (Tr.normBlock (Tr.normThen ?_))
            refine Tr.region ?_
            refine Tr.val (wn rfl) rfl (fun _ _ h1 h2 => run_add (h1.ev rfl) (h1.ev rfl)) ?_
            refine Tr.val (wn rfl) rfl (fun _ _ h1 h2 => run_move (h1.ev rfl)) ?_
            refine Tr.nil ?_
            exact Tr.backThen leF_shape_GapOf_L7 (restF_shape_GapOf_L7, (iF_shape_GapOf_L7 + 1), x299, x300, x301) ⟨rfl, range_tl hdF_shape_GapOf_L7, range_lt hdF_shape_GapOf_L7, H⟩ (.cons rfl (.cons rfl (.cons rfl (.cons rfl (.cons rfl (.cons rfl (.cons rfl (.cons (congrArg (fun z => some (Value.int .i64 z)) (range_up hdF_shape_GapOf_L7 hp1_0.form)) .nil)))))))) (.cons rfl (.cons rfl (.cons rfl .nil)))
    | cons xF_shape_GapOf_L6 restF_shape_GapOf_L6 =>
      rw [F_shape_GapOf_L6.eq_2] at H
      refine Tr.seq ?_
      refine Tr.region ?_
      refine Tr.val (wn rfl) rfl (fun _ _ h1 h2 => run_lss (h1.ev rfl) (h1.ev rfl)) ?_
      refine Tr.nil (Tr.normThen ?_)
      refine Tr.seq ?_
      refine Tr.condT rfl (range_on hdF_shape_GapOf_L6) ?_
      refine Tr.skip (Tr.normThen ?_)
      refine Tr.seq ?_
      refine Tr.block ?_
      refine Tr.seq ?_
      refine Tr.region ?_
      refine Tr.val (wn rfl) rfl (fun _ _ h1 h2 => run_indexAddr el_22 (h1.ev rfl) hp0_0.form (h1.ev rfl) (Int.natCast_nonneg _) (range_lt hdF_shape_GapOf_L6)) ?_
      refine Tr.val (wn rfl) rfl (fun _ _ h1 h2 => run_loadN (cs := [(.int .i64 xF_shape_GapOf_L6.X0), (.int .i64 xF_shape_GapOf_L6.Y0), (.int .i64 xF_shape_GapOf_L6.X1), (.int .i64 xF_shape_GapOf_L6.Y1)]) ag_29 sz_29 (h1.ev rfl) (CellsAt.take (rdF ef_TRect hp0_0 (range_at hdF_shape_GapOf_L6) h2) 4) rfl) ?_
      refine Tr.alloc 32 (wn rfl) rfl ze_29 fun b313 => ?_
      refine Tr.store 32 (cs := [(.int .i64 xF_shape_GapOf_L6.X0), (.int .i64 xF_shape_GapOf_L6.Y0), (.int .i64 xF_shape_GapOf_L6.X1), (.int .i64 xF_shape_GapOf_L6.Y1)]) [(.int .i64 xF_shape_GapOf_L6.X0), (.int .i64 xF_shape_GapOf_L6.Y0), (.int .i64 xF_shape_GapOf_L6.X1), (.int .i64 xF_shape_GapOf_L6.Y1)] (wn rfl) rfl rfl rfl rfl sz_29 rfl rfl rfl ?_
      refine Tr.nil (Tr.normThen ?_)
      refine Tr.seq ?_
      refine Tr.region ?_
      refine Tr.val (wn rfl) rfl (fun _ _ h1 h2 => run_move (h1.ev rfl)) ?_
      refine Tr.val (wn rfl) rfl (fun _ _ h1 h2 => run_len un_22 (h1.ev rfl)) ?_
      refine Tr.val (wn rfl) rfl (fun _ _ h1 h2 => run_move (h1.ev rfl)) ?_
      refine Tr.nil (Tr.normThen ?_)
      refine Tr.block ?_
      refine Tr.loop (σ := (List TRect) × Nat × Int × Int × Bool) (fun m w s => m = s.1.length + 1 ∧ s.1 = List.drop s.2.1 p1 ∧ s.2.1 ≤ p1.length ∧ F_shape_GapOf_L8 x141 (F_shape_GapOf_L6 p1 x141 restF_shape_GapOf_L6 (iF_shape_GapOf_L6 + 1)) xF_shape_GapOf_L6 s.1 s.2.1 s.2.2.1 s.2.2.2.1 s.2.2.2.2 = some r) (fun s => [(1, (.slice Ap1_0 (p1).length cp1_0)), (4, (.pointer (some ⟨b100, 0, none⟩))), (5, (.int .i64 x141)), (11, (.pointer (some ⟨b142, 0, none⟩))), (12, (.bool s.2.2.2.2)), (14, (.pointer (some ⟨b313, 0, none⟩))), (50, (.slice Ap0_0 (p0).length cp0_0)), (51, (.int .i64 (p0.length : Int))), (52, (.int .i64 (iF_shape_GapOf_L6 : Int))), (56, (.slice Ap1_0 (p1).length cp1_0)), (57, (.int .i64 (p1.length : Int))), (58, (.int .i64 (s.2.1 : Int)))]) (fun s => [(1, bx b100 #[(.int .i64 0), (.int .i64 0), (.int .i64 0), (.int .i64 0), (.int .i64 0), (.int .i64 0), (.int .i64 0)] 42), (10, bx b142 #[(.int .i64 0), (.int .i64 0), (.int .i64 (w64 (x141 - 1))), (.int .i64 s.2.2.1), (.int .i64 s.2.2.2.1), (.int .i64 0), (.int .i64 0)] 42), (32, bx b313 #[(.int .i64 xF_shape_GapOf_L6.X0), (.int .i64 xF_shape_GapOf_L6.Y0), (.int .i64 xF_shape_GapOf_L6.X1), (.int .i64 xF_shape_GapOf_L6.Y1)] 29)]) (p1.length + 1) (p1, 0, x259, x260, x261) ⟨rfl, rfl, Nat.zero_le _, H⟩ (.cons rfl (.cons rfl (.cons rfl (.cons rfl (.cons rfl (.cons rfl (.cons rfl (.cons rfl (.cons rfl (.cons rfl (.cons rfl (.cons rfl .nil)))))))))))) (.cons rfl (.cons rfl (.cons rfl .nil))) (fun _ _ h => absurd h.1 (by simp)) ?_
      intro w leF_shape_GapOf_L8 m s hs
      obtain ⟨restF_shape_GapOf_L8, iF_shape_GapOf_L8, x350, x351, x352⟩ := s
      obtain ⟨hmF_shape_GapOf_L8, hdF_shape_GapOf_L8, hiF_shape_GapOf_L8, H⟩ := hs
      replace hdF_shape_GapOf_L8 : restF_shape_GapOf_L8 = List.drop iF_shape_GapOf_L8 p1 := hdF_shape_GapOf_L8
      replace H : F_shape_GapOf_L8 x141 (F_shape_GapOf_L6 p1 x141 restF_shape_GapOf_L6 (iF_shape_GapOf_L6 + 1)) xF_shape_GapOf_L6 restF_shape_GapOf_L8 iF_shape_GapOf_L8 x350 x351 x352 = some r := H
      replace hmF_shape_GapOf_L8 : m + 1 = restF_shape_GapOf_L8.length + 1 := hmF_shape_GapOf_L8
      replace hp1_0 := hp1_0.leR leF_shape_GapOf_L8
      replace hp0_0 := hp0_0.leR leF_shape_GapOf_L8
      replace leB := leB.trans leF_shape_GapOf_L8
      replace leF_shape_GapOf_L3 := leF_shape_GapOf_L3.trans leF_shape_GapOf_L8
      replace leF_shape_GapOf_L6 := leF_shape_GapOf_L6.trans leF_shape_GapOf_L8
      obtain rfl : m = restF_shape_GapOf_L8.length := by omega
      clear hmF_shape_GapOf_L8
      show Tr _ _ (LF [(1, (.slice Ap1_0 (p1).length cp1_0)), (4, (.pointer (some ⟨b100, 0, none⟩))), (5, (.int .i64 x141)), (11, (.pointer (some ⟨b142, 0, none⟩))), (12, (.bool x352)), (14, (.pointer (some ⟨b313, 0, none⟩))), (50, (.slice Ap0_0 (p0).length cp0_0)), (51, (.int .i64 (p0.length : Int))), (52, (.int .i64 (iF_shape_GapOf_L6 : Int))), (56, (.slice Ap1_0 (p1).length cp1_0)), (57, (.int .i64 (p1.length : Int))), (58, (.int .i64 (iF_shape_GapOf_L8 : Int)))]) (LE [(1, bx b100 #[(.int .i64 0), (.int .i64 0), (.int .i64 0), (.int .i64 0), (.int .i64 0), (.int .i64 0), (.int .i64 0)] 42), (10, bx b142 #[(.int .i64 0), (.int .i64 0), (.int .i64 (w64 (x141 - 1))), (.int .i64 x350), (.int .i64 x351), (.int .i64 0), (.int .i64 0)] 42), (32, bx b313 #[(.int .i64 xF_shape_GapOf_L6.X0), (.int .i64 xF_shape_GapOf_L6.Y0), (.int .i64 xF_shape_GapOf_L6.X1), (.int .i64 xF_shape_GapOf_L6.Y1)] 29)]) _
      cases restF_shape_GapOf_L8 with
      | nil =>
        rw [F_shape_GapOf_L8.eq_1] at H
        refine Tr.seq ?_
        refine Tr.region ?_
        refine Tr.val (wn rfl) rfl (fun _ _ h1 h2 => run_lss (h1.ev rfl) (h1.ev rfl)) ?_
        refine Tr.nil (Tr.normThen ?_)
        refine Tr.seq ?_
        refine Tr.condF rfl (range_nil hdF_shape_GapOf_L8) ?_
        refine Tr.exit (Tr.exitThen (Tr.exitThen (Tr.exitBlock (Tr.normBlock (Tr.normThen ?_)))))
        refine Tr.region ?_
        refine Tr.val (wn rfl) rfl (fun _ _ h1 h2 => run_add (h1.ev rfl) (h1.ev rfl)) ?_
        refine Tr.val (wn rfl) rfl (fun _ _ h1 h2 => run_move (h1.ev rfl)) ?_
        refine Tr.nil ?_
        exact Tr.backThen leF_shape_GapOf_L6 (restF_shape_GapOf_L6, (iF_shape_GapOf_L6 + 1), x350, x351, x352) ⟨rfl, range_tl hdF_shape_GapOf_L6, range_lt hdF_shape_GapOf_L6, H⟩ (.cons rfl (.cons rfl (.cons rfl (.cons rfl (.cons rfl (.cons rfl (.cons rfl (.cons (congrArg (fun z => some (Value.int .i64 z)) (range_up hdF_shape_GapOf_L6 hp0_0.form)) .nil)))))))) (.cons rfl (.cons rfl .nil))
      | cons xF_shape_GapOf_L8 restF_shape_GapOf_L8 =>
        rw [F_shape_GapOf_L8.eq_2] at H
        refine Tr.seq ?_
        refine Tr.region ?_
        refine Tr.val (wn rfl) rfl (fun _ _ h1 h2 => run_lss (h1.ev rfl) (h1.ev rfl)) ?_
        refine Tr.nil (Tr.normThen ?_)
        refine Tr.seq ?_
        refine Tr.condT rfl (range_on hdF_shape_GapOf_L8) ?_
        refine Tr.skip (Tr.normThen ?_)
        refine Tr.seq ?_
        refine Tr.block ?_
        refine Tr.seq ?_
        refine Tr.region ?_
        refine Tr.val (wn rfl) rfl (fun _ _ h1 h2 => run_indexAddr el_22 (h1.ev rfl) hp1_0.form (h1.ev rfl) (Int.natCast_nonneg _) (range_lt hdF_shape_GapOf_L8)) ?_
        refine Tr.val (wn rfl) rfl (fun _ _ h1 h2 => run_loadN (cs := [(.int .i64 xF_shape_GapOf_L8.X0), (.int .i64 xF_shape_GapOf_L8.Y0), (.int .i64 xF_shape_GapOf_L8.X1), (.int .i64 xF_shape_GapOf_L8.Y1)]) ag_29 sz_29 (h1.ev rfl) (CellsAt.take (rdF ef_TRect hp1_0 (range_at hdF_shape_GapOf_L8) h2) 4) rfl) ?_
        refine Tr.alloc 37 (wn rfl) rfl ze_29 fun b353 => ?_
        refine Tr.store 37 (cs := [(.int .i64 xF_shape_GapOf_L8.X0), (.int .i64 xF_shape_GapOf_L8.Y0), (.int .i64 xF_shape_GapOf_L8.X1), (.int .i64 xF_shape_GapOf_L8.Y1)]) [(.int .i64 xF_shape_GapOf_L8.X0), (.int .i64 xF_shape_GapOf_L8.Y0), (.int .i64 xF_shape_GapOf_L8.X1), (.int .i64 xF_shape_GapOf_L8.Y1)] (wn rfl) rfl rfl rfl rfl sz_29 rfl rfl rfl ?_
        refine Tr.nil (Tr.normThen ?_)
        refine Tr.seq ?_
        refine Tr.region ?_
        refine Tr.val (wn rfl) rfl (fun _ _ h1 h2 => run_loadN (cs := [(.int .i64 xF_shape_GapOf_L6.X0), (.int .i64 xF_shape_GapOf_L6.Y0), (.int .i64 xF_shape_GapOf_L6.X1), (.int .i64 xF_shape_GapOf_L6.Y1)]) ag_29 sz_29 (h1.ev rfl) (CellsAt.take (rdb h2 (vs := [(.int .i64 xF_shape_GapOf_L6.X0), (.int .i64 xF_shape_GapOf_L6.Y0), (.int .i64 xF_shape_GapOf_L6.X1), (.int .i64 xF_shape_GapOf_L6.Y1)]) (k := 32) rfl 0) 4) rfl) ?_
        refine Tr.val (wn rfl) rfl (fun _ _ h1 h2 => run_loadN (cs := [(.int .i64 xF_shape_GapOf_L8.X0), (.int .i64 xF_shape_GapOf_L8.Y0), (.int .i64 xF_shape_GapOf_L8.X1), (.int .i64 xF_shape_GapOf_L8.Y1)]) ag_29 sz_29 (h1.ev rfl) (CellsAt.take (rdb h2 (vs := [(.int .i64 xF_shape_GapOf_L8.X0), (.int .i64 xF_shape_GapOf_L8.Y0), (.int .i64 xF_shape_GapOf_L8.X1), (.int .i64 xF_shape_GapOf_L8.Y1)]) (k := 37) rfl 0) 4) rfl) ?_
        refine Tr.val (wn rfl) rfl (fun _ _ h1 h2 => run_move (h1.ev rfl)) ?_
        obtain ⟨y354, hy354, H⟩ := bnd H
        refine Tr.call0 (r := (.agg #[(.int .i64 y354.X), (.int .i64 y354.Y)])) (wn rfl) rfl Try.call82 (evl_cons rfl (evl_cons rfl (evl_cons rfl evl_nil))) (fun W hW => F_shape_near_ok xF_shape_GapOf_L6 xF_shape_GapOf_L8 x141 y354 hy354 (HF.start _)) ?_
        refine Tr.alloc 38 (wn rfl) rfl ze_32 fun b355 => ?_
        refine Tr.store 38 (cs := [(.int .i64 y354.X), (.int .i64 y354.Y)]) [(.int .i64 y354.X), (.int .i64 y354.Y)] (wn rfl) rfl rfl rfl rfl sz_32 rfl rfl rfl ?_
        refine Tr.nil (Tr.normThen ?_)
        refine Tr.seq ?_
        refine Tr.region ?_
        refine Tr.val (wn rfl) rfl (fun _ _ h1 h2 => run_loadN (cs := [(.int .i64 xF_shape_GapOf_L6.X0), (.int .i64 xF_shape_GapOf_L6.Y0), (.int .i64 xF_shape_GapOf_L6.X1), (.int .i64 xF_shape_GapOf_L6.Y1)]) ag_29 sz_29 (h1.ev rfl) (CellsAt.take (rdb h2 (vs := [(.int .i64 xF_shape_GapOf_L6.X0), (.int .i64 xF_shape_GapOf_L6.Y0), (.int .i64 xF_shape_GapOf_L6.X1), (.int .i64 xF_shape_GapOf_L6.Y1)]) (k := 32) rfl 0) 4) rfl) ?_
        refine Tr.val (wn rfl) rfl (fun _ _ h1 h2 => run_loadN (cs := [(.int .i64 xF_shape_GapOf_L8.X0), (.int .i64 xF_shape_GapOf_L8.Y0), (.int .i64 xF_shape_GapOf_L8.X1), (.int .i64 xF_shape_GapOf_L8.Y1)]) ag_29 sz_29 (h1.ev rfl) (CellsAt.take (rdb h2 (vs := [(.int .i64 xF_shape_GapOf_L8.X0), (.int .i64 xF_shape_GapOf_L8.Y0), (.int .i64 xF_shape_GapOf_L8.X1), (.int .i64 xF_shape_GapOf_L8.Y1)]) (k := 37) rfl 0) 4) rfl) ?_
        obtain ⟨y356, hy356, H⟩ := bnd H
        refine Tr.call0 (r := (.int .i64 y356)) (wn rfl) rfl Try.call81 (evl_cons rfl (evl_cons rfl evl_nil)) (fun W hW => F_shape_Far_ok xF_shape_GapOf_L6 xF_shape_GapOf_L8 y356 hy356 (HF.start _)) ?_
        refine Tr.val (wn rfl) rfl (fun _ _ h1 h2 => run_move (h1.ev rfl)) ?_
        refine Tr.val (wn rfl) rfl (fun _ _ h1 h2 => run_eql (h1.ev rfl) (h1.ev rfl)) ?_
        refine Tr.val (wn rfl) rfl (fun _ _ h1 h2 => run_move (h1.ev rfl)) ?_
        obtain ⟨g360, hg360, H⟩ := bnd H
        refine Tr.mid0 9 [(1, (.slice Ap1_0 (p1).length cp1_0)), (4, (.pointer (some ⟨b100, 0, none⟩))), (5, (.int .i64 x141)), (11, (.pointer (some ⟨b142, 0, none⟩))), (12, (.bool x352)), (14, (.pointer (some ⟨b313, 0, none⟩))), (17, (.pointer (some ⟨b355, 0, none⟩))), (50, (.slice Ap0_0 (p0).length cp0_0)), (51, (.int .i64 (p0.length : Int))), (52, (.int .i64 (iF_shape_GapOf_L6 : Int))), (56, (.slice Ap1_0 (p1).length cp1_0)), (57, (.int .i64 (p1.length : Int))), (58, (.int .i64 (iF_shape_GapOf_L8 : Int))), (80, (.bool g360))] [(1, bx b100 #[(.int .i64 0), (.int .i64 0), (.int .i64 0), (.int .i64 0), (.int .i64 0), (.int .i64 0), (.int .i64 0)] 42), (10, bx b142 #[(.int .i64 0), (.int .i64 0), (.int .i64 (w64 (x141 - 1))), (.int .i64 x350), (.int .i64 x351), (.int .i64 0), (.int .i64 0)] 42), (32, bx b313 #[(.int .i64 xF_shape_GapOf_L6.X0), (.int .i64 xF_shape_GapOf_L6.Y0), (.int .i64 xF_shape_GapOf_L6.X1), (.int .i64 xF_shape_GapOf_L6.Y1)] 29), (37, bx b353 #[(.int .i64 xF_shape_GapOf_L8.X0), (.int .i64 xF_shape_GapOf_L8.Y0), (.int .i64 xF_shape_GapOf_L8.X1), (.int .i64 xF_shape_GapOf_L8.Y1)] 29), (38, bx b355 #[(.int .i64 y354.X), (.int .i64 y354.Y)] 32)] ?_ ?_
        · cases hg363 : (y356 == x141)
          · rw [hg363] at hg360
            rw [if_neg (by decide)] at hg360
            have H := hg360
            obtain rfl := Option.some.inj H
            refine Tr.pass rfl rfl rfl rfl rfl (by decide) ?_
            refine Tr.pass rfl rfl rfl rfl rfl (by decide) ?_
            refine Tr.pass rfl rfl rfl rfl rfl (by decide) ?_
            refine Tr.passU rfl rfl rfl rfl (by decide) ?_
            refine Tr.passU rfl rfl rfl rfl (by decide) ?_
            refine Tr.passU rfl rfl rfl rfl (by decide) ?_
            refine Tr.passU rfl rfl rfl rfl (by decide) ?_
            refine Tr.pass rfl rfl rfl rfl rfl (by decide) ?_
            refine Tr.val (wn rfl) rfl (fun _ _ h1 h2 => run_pickF (h1.ev rfl) (h1.ev rfl)) ?_
            exact Tr.nil (Tr.fin0 (.cons rfl (.cons rfl (.cons rfl (.cons rfl (.cons rfl (.cons rfl (.cons rfl (.cons rfl (.cons rfl (.cons rfl (.cons rfl (.cons rfl (.cons rfl (.cons rfl .nil)))))))))))))) (.cons rfl (.cons rfl (.cons rfl (.cons rfl (.cons rfl .nil))))))
          · rw [hg363] at hg360
            rw [if_pos rfl] at hg360
            have H := hg360
            refine Tr.val (wg rfl rfl rfl) rfl (fun _ _ h1 h2 => run_move (h1.ev rfl)) ?_
            refine Tr.val (wg rfl rfl rfl) rfl (fun _ _ h1 h2 => run_not (h1.ev rfl)) ?_
            refine Tr.val (wg rfl rfl rfl) rfl (fun _ _ h1 h2 => run_move (h1.ev rfl)) ?_
            obtain ⟨g362, hg362, H⟩ := bnd H
            refine Tr.mid0 5 [(1, (.slice Ap1_0 (p1).length cp1_0)), (4, (.pointer (some ⟨b100, 0, none⟩))), (5, (.int .i64 x141)), (11, (.pointer (some ⟨b142, 0, none⟩))), (12, (.bool x352)), (14, (.pointer (some ⟨b313, 0, none⟩))), (17, (.pointer (some ⟨b355, 0, none⟩))), (50, (.slice Ap0_0 (p0).length cp0_0)), (51, (.int .i64 (p0.length : Int))), (52, (.int .i64 (iF_shape_GapOf_L6 : Int))), (56, (.slice Ap1_0 (p1).length cp1_0)), (57, (.int .i64 (p1.length : Int))), (58, (.int .i64 (iF_shape_GapOf_L8 : Int))), (71, (.bool true)), (79, (.bool g362))] [(1, bx b100 #[(.int .i64 0), (.int .i64 0), (.int .i64 0), (.int .i64 0), (.int .i64 0), (.int .i64 0), (.int .i64 0)] 42), (10, bx b142 #[(.int .i64 0), (.int .i64 0), (.int .i64 (w64 (x141 - 1))), (.int .i64 x350), (.int .i64 x351), (.int .i64 0), (.int .i64 0)] 42), (32, bx b313 #[(.int .i64 xF_shape_GapOf_L6.X0), (.int .i64 xF_shape_GapOf_L6.Y0), (.int .i64 xF_shape_GapOf_L6.X1), (.int .i64 xF_shape_GapOf_L6.Y1)] 29), (37, bx b353 #[(.int .i64 xF_shape_GapOf_L8.X0), (.int .i64 xF_shape_GapOf_L8.Y0), (.int .i64 xF_shape_GapOf_L8.X1), (.int .i64 xF_shape_GapOf_L8.Y1)] 29), (38, bx b355 #[(.int .i64 y354.X), (.int .i64 y354.Y)] 32)] ?_ ?_
            · cases hg363 : (!x352)
              · rw [hg363] at hg362
                rw [if_neg (by decide)] at hg362
                have H := hg362
                refine Tr.val (wg rfl rfl rfl) rfl (fun _ _ h1 h2 => run_loadN (cs := [(.int .i64 y354.X), (.int .i64 y354.Y)]) ag_32 sz_32 (h1.ev rfl) (CellsAt.take (rdb h2 (vs := [(.int .i64 y354.X), (.int .i64 y354.Y)]) (k := 38) rfl 0) 2) rfl) ?_
                refine Tr.val (wg rfl rfl rfl) rfl (fun _ _ h1 h2 => run_fieldAddr fo_42_3 (h1.ev rfl)) ?_
                refine Tr.val (wg rfl rfl rfl) rfl (fun _ _ h1 h2 => run_loadN (cs := [(.int .i64 x350), (.int .i64 x351)]) ag_32 sz_32 (h1.ev rfl) (CellsAt.take (rdb h2 (vs := [(.int .i64 0), (.int .i64 0), (.int .i64 (w64 (x141 - 1))), (.int .i64 x350), (.int .i64 x351), (.int .i64 0), (.int .i64 0)]) (k := 10) rfl 3) 2) rfl) ?_
                obtain ⟨y363, hy363, H⟩ := bnd H
                refine Tr.call0 (r := (.bool y363)) (wg rfl rfl rfl) rfl Try.call83 (evl_cons rfl (evl_cons rfl evl_nil)) (fun W hW => F_shape_less_ok y354 (TPoint.mk x350 x351) y363 hy363 (HF.start _)) ?_
                refine Tr.val (wg rfl rfl rfl) rfl (fun _ _ h1 h2 => run_pickF (h1.ev rfl) (h1.ev rfl)) ?_
                obtain rfl := Option.some.inj H
                exact Tr.nil (Tr.fin0 (.cons rfl (.cons rfl (.cons rfl (.cons rfl (.cons rfl (.cons rfl (.cons rfl (.cons rfl (.cons rfl (.cons rfl (.cons rfl (.cons rfl (.cons rfl (.cons rfl (.cons rfl .nil))))))))))))))) (.cons rfl (.cons rfl (.cons rfl (.cons rfl (.cons rfl .nil))))))
              · rw [hg363] at hg362
                rw [if_pos rfl] at hg362
                have H := hg362
                obtain rfl := Option.some.inj H
                refine Tr.pass rfl rfl rfl rfl rfl (by decide) ?_
                refine Tr.pass rfl rfl rfl rfl rfl (by decide) ?_
                refine Tr.pass rfl rfl rfl rfl rfl (by decide) ?_
                refine Tr.pass rfl rfl rfl rfl rfl (by decide) ?_
                refine Tr.val (wg rfl rfl rfl) rfl (fun _ _ h1 h2 => run_pickT (h1.ev rfl) (h1.ev rfl)) ?_
                exact Tr.nil (Tr.fin0 (.cons rfl (.cons rfl (.cons rfl (.cons rfl (.cons rfl (.cons rfl (.cons rfl (.cons rfl (.cons rfl (.cons rfl (.cons rfl (.cons rfl (.cons rfl (.cons rfl (.cons rfl .nil))))))))))))))) (.cons rfl (.cons rfl (.cons rfl (.cons rfl (.cons rfl .nil))))))
            · show Tr _ _ (LF [(1, (.slice Ap1_0 (p1).length cp1_0)), (4, (.pointer (some ⟨b100, 0, none⟩))), (5, (.int .i64 x141)), (11, (.pointer (some ⟨b142, 0, none⟩))), (12, (.bool x352)), (14, (.pointer (some ⟨b313, 0, none⟩))), (17, (.pointer (some ⟨b355, 0, none⟩))), (50, (.slice Ap0_0 (p0).length cp0_0)), (51, (.int .i64 (p0.length : Int))), (52, (.int .i64 (iF_shape_GapOf_L6 : Int))), (56, (.slice Ap1_0 (p1).length cp1_0)), (57, (.int .i64 (p1.length : Int))), (58, (.int .i64 (iF_shape_GapOf_L8 : Int))), (71, (.bool true)), (79, (.bool g362))]) (LE [(1, bx b100 #[(.int .i64 0), (.int .i64 0), (.int .i64 0), (.int .i64 0), (.int .i64 0), (.int .i64 0), (.int .i64 0)] 42), (10, bx b142 #[(.int .i64 0), (.int .i64 0), (.int .i64 (w64 (x141 - 1))), (.int .i64 x350), (.int .i64 x351), (.int .i64 0), (.int .i64 0)] 42), (32, bx b313 #[(.int .i64 xF_shape_GapOf_L6.X0), (.int .i64 xF_shape_GapOf_L6.Y0), (.int .i64 xF_shape_GapOf_L6.X1), (.int .i64 xF_shape_GapOf_L6.Y1)] 29), (37, bx b353 #[(.int .i64 xF_shape_GapOf_L8.X0), (.int .i64 xF_shape_GapOf_L8.Y0), (.int .i64 xF_shape_GapOf_L8.X1), (.int .i64 xF_shape_GapOf_L8.Y1)] 29), (38, bx b355 #[(.int .i64 y354.X), (.int .i64 y354.Y)] 32)]) _
              refine Tr.val (wn rfl) rfl (fun _ _ h1 h2 => run_pickT (h1.ev rfl) (h1.ev rfl)) ?_
              obtain rfl := Option.some.inj H
              exact Tr.nil (Tr.fin0 (.cons rfl (.cons rfl (.cons rfl (.cons rfl (.cons rfl (.cons rfl (.cons rfl (.cons rfl (.cons rfl (.cons rfl (.cons rfl (.cons rfl (.cons rfl (.cons rfl .nil)))))))))))))) (.cons rfl (.cons rfl (.cons rfl (.cons rfl (.cons rfl .nil))))))
        · show Tr _ _ (LF [(1, (.slice Ap1_0 (p1).length cp1_0)), (4, (.pointer (some ⟨b100, 0, none⟩))), (5, (.int .i64 x141)), (11, (.pointer (some ⟨b142, 0, none⟩))), (12, (.bool x352)), (14, (.pointer (some ⟨b313, 0, none⟩))), (17, (.pointer (some ⟨b355, 0, none⟩))), (50, (.slice Ap0_0 (p0).length cp0_0)), (51, (.int .i64 (p0.length : Int))), (52, (.int .i64 (iF_shape_GapOf_L6 : Int))), (56, (.slice Ap1_0 (p1).length cp1_0)), (57, (.int .i64 (p1.length : Int))), (58, (.int .i64 (iF_shape_GapOf_L8 : Int))), (80, (.bool g360))]) (LE [(1, bx b100 #[(.int .i64 0), (.int .i64 0), (.int .i64 0), (.int .i64 0), (.int .i64 0), (.int .i64 0), (.int .i64 0)] 42), (10, bx b142 #[(.int .i64 0), (.int .i64 0), (.int .i64 (w64 (x141 - 1))), (.int .i64 x350), (.int .i64 x351), (.int .i64 0), (.int .i64 0)] 42), (32, bx b313 #[(.int .i64 xF_shape_GapOf_L6.X0), (.int .i64 xF_shape_GapOf_L6.Y0), (.int .i64 xF_shape_GapOf_L6.X1), (.int .i64 xF_shape_GapOf_L6.Y1)] 29), (37, bx b353 #[(.int .i64 xF_shape_GapOf_L8.X0), (.int .i64 xF_shape_GapOf_L8.Y0), (.int .i64 xF_shape_GapOf_L8.X1), (.int .i64 xF_shape_GapOf_L8.Y1)] 29), (38, bx b355 #[(.int .i64 y354.X), (.int .i64 y354.Y)] 32)]) _
          refine Tr.nil (Tr.normThen ?_)
          refine Tr.cond rfl H (fun H => ?_) (fun H => ?_)
          · refine Tr.region ?_
            refine Tr.val (wn rfl) rfl (fun _ _ h1 h2 => run_loadN (cs := [(.int .i64 y354.X), (.int .i64 y354.Y)]) ag_32 sz_32 (h1.ev rfl) (CellsAt.take (rdb h2 (vs := [(.int .i64 y354.X), (.int .i64 y354.Y)]) (k := 38) rfl 0) 2) rfl) ?_
            refine Tr.val (wn rfl) rfl (fun _ _ h1 h2 => run_fieldAddr fo_42_3 (h1.ev rfl)) ?_
            refine Tr.store 10 (cs := [(.int .i64 y354.X), (.int .i64 y354.Y)]) [(.int .i64 0), (.int .i64 0), (.int .i64 (w64 (x141 - 1))), (.int .i64 y354.X), (.int .i64 y354.Y), (.int .i64 0), (.int .i64 0)] (wn rfl) rfl rfl rfl rfl sz_32 rfl rfl rfl ?_
            refine Tr.val (wn rfl) rfl (fun _ _ h1 h2 => run_assign (h1.ev rfl)) ?_
            refine Tr.nil (Tr.normBlock (Tr.normThen ?_))
            refine Tr.region ?_
            refine Tr.val (wn rfl) rfl (fun _ _ h1 h2 => run_add (h1.ev rfl) (h1.ev rfl)) ?_
            refine Tr.val (wn rfl) rfl (fun _ _ h1 h2 => run_move (h1.ev rfl)) ?_
            refine Tr.nil ?_
            exact Tr.backThen leF_shape_GapOf_L8 (restF_shape_GapOf_L8, (iF_shape_GapOf_L8 + 1), y354.X, y354.Y, true) ⟨rfl, range_tl hdF_shape_GapOf_L8, range_lt hdF_shape_GapOf_L8, H⟩ (.cons rfl (.cons rfl (.cons rfl (.cons rfl (.cons rfl (.cons rfl (.cons rfl (.cons rfl (.cons rfl (.cons rfl (.cons rfl (.cons (congrArg (fun z => some (Value.int .i64 z)) (range_up hdF_shape_GapOf_L8 hp1_0.form)) .nil)))))))))))) (.cons rfl (.cons rfl (.cons rfl .nil)))
          · refine Tr.skip (Tr.normBlock (Tr.normThen ?_))
            refine Tr.region ?_
            refine Tr.val (wn rfl) rfl (fun _ _ h1 h2 => run_add (h1.ev rfl) (h1.ev rfl)) ?_
            refine Tr.val (wn rfl) rfl (fun _ _ h1 h2 => run_move (h1.ev rfl)) ?_
            refine Tr.nil ?_
            exact Tr.backThen leF_shape_GapOf_L8 (restF_shape_GapOf_L8, (iF_shape_GapOf_L8 + 1), x350, x351, x352) ⟨rfl, range_tl hdF_shape_GapOf_L8, range_lt hdF_shape_GapOf_L8, H⟩ (.cons rfl (.cons rfl (.cons rfl (.cons rfl (.cons rfl (.cons rfl (.cons rfl (.cons rfl (.cons rfl (.cons rfl (.cons rfl (.cons (congrArg (fun z => some (Value.int .i64 z)) (range_up hdF_shape_GapOf_L8 hp1_0.form)) .nil)))))))))))) (.cons rfl (.cons rfl (.cons rfl .nil)))
  | cons xF_shape_GapOf_L3 restF_shape_GapOf_L3 =>
    rw [F_shape_GapOf_L3.eq_2] at H
    refine Tr.seq ?_
    refine Tr.region ?_
    refine Tr.val (wn rfl) rfl (fun _ _ h1 h2 => run_lss (h1.ev rfl) (h1.ev rfl)) ?_
    refine Tr.nil (Tr.normThen ?_)
    refine Tr.seq ?_
    refine Tr.condT rfl (range_on hdF_shape_GapOf_L3) ?_
    refine Tr.skip (Tr.normThen ?_)
    refine Tr.seq ?_
    refine Tr.block ?_
    refine Tr.seq ?_
    refine Tr.region ?_
    refine Tr.val (wn rfl) rfl (fun _ _ h1 h2 => run_indexAddr el_22 (h1.ev rfl) hp0_0.form (h1.ev rfl) (Int.natCast_nonneg _) (range_lt hdF_shape_GapOf_L3)) ?_
    refine Tr.val (wn rfl) rfl (fun _ _ h1 h2 => run_loadN (cs := [(.int .i64 xF_shape_GapOf_L3.X0), (.int .i64 xF_shape_GapOf_L3.Y0), (.int .i64 xF_shape_GapOf_L3.X1), (.int .i64 xF_shape_GapOf_L3.Y1)]) ag_29 sz_29 (h1.ev rfl) (CellsAt.take (rdF ef_TRect hp0_0 (range_at hdF_shape_GapOf_L3) h2) 4) rfl) ?_
    refine Tr.alloc 39 (wn rfl) rfl ze_29 fun b364 => ?_
    refine Tr.store 39 (cs := [(.int .i64 xF_shape_GapOf_L3.X0), (.int .i64 xF_shape_GapOf_L3.Y0), (.int .i64 xF_shape_GapOf_L3.X1), (.int .i64 xF_shape_GapOf_L3.Y1)]) [(.int .i64 xF_shape_GapOf_L3.X0), (.int .i64 xF_shape_GapOf_L3.Y0), (.int .i64 xF_shape_GapOf_L3.X1), (.int .i64 xF_shape_GapOf_L3.Y1)] (wn rfl) rfl rfl rfl rfl sz_29 rfl rfl rfl ?_
    refine Tr.nil (Tr.normThen ?_)
    refine Tr.seq ?_
    refine Tr.region ?_
    refine Tr.val (wn rfl) rfl (fun _ _ h1 h2 => run_move (h1.ev rfl)) ?_
    refine Tr.val (wn rfl) rfl (fun _ _ h1 h2 => run_len un_22 (h1.ev rfl)) ?_
    refine Tr.val (wn rfl) rfl (fun _ _ h1 h2 => run_move (h1.ev rfl)) ?_
    refine Tr.nil (Tr.normThen ?_)
    refine Tr.block ?_
    refine Tr.loop (σ := (List TRect) × Nat × Int) (fun m w s => m = s.1.length + 1 ∧ s.1 = List.drop s.2.1 p1 ∧ s.2.1 ≤ p1.length ∧ F_shape_GapOf_L9 (F_shape_GapOf_L3 p0 p1 restF_shape_GapOf_L3 (iF_shape_GapOf_L3 + 1)) xF_shape_GapOf_L3 s.1 s.2.1 s.2.2 = some r) (fun s => [(0, (.slice Ap0_0 (p0).length cp0_0)), (1, (.slice Ap1_0 (p1).length cp1_0)), (4, (.pointer (some ⟨b100, 0, none⟩))), (5, (.int .i64 s.2.2)), (7, (.pointer (some ⟨b364, 0, none⟩))), (22, (.slice Ap0_0 (p0).length cp0_0)), (23, (.int .i64 (p0.length : Int))), (24, (.int .i64 (iF_shape_GapOf_L3 : Int))), (28, (.slice Ap1_0 (p1).length cp1_0)), (29, (.int .i64 (p1.length : Int))), (30, (.int .i64 (s.2.1 : Int)))]) (fun s => [(1, bx b100 #[(.int .i64 0), (.int .i64 0), (.int .i64 0), (.int .i64 0), (.int .i64 0), (.int .i64 0), (.int .i64 0)] 42), (39, bx b364 #[(.int .i64 xF_shape_GapOf_L3.X0), (.int .i64 xF_shape_GapOf_L3.Y0), (.int .i64 xF_shape_GapOf_L3.X1), (.int .i64 xF_shape_GapOf_L3.Y1)] 29)]) (p1.length + 1) (p1, 0, x141) ⟨rfl, rfl, Nat.zero_le _, H⟩ (.cons rfl (.cons rfl (.cons rfl (.cons rfl (.cons rfl (.cons rfl (.cons rfl (.cons rfl (.cons rfl (.cons rfl (.cons rfl .nil))))))))))) (.cons rfl (.cons rfl .nil)) (fun _ _ h => absurd h.1 (by simp)) ?_
    intro w leF_shape_GapOf_L9 m s hs
    obtain ⟨restF_shape_GapOf_L9, iF_shape_GapOf_L9, x377⟩ := s
    obtain ⟨hmF_shape_GapOf_L9, hdF_shape_GapOf_L9, hiF_shape_GapOf_L9, H⟩ := hs
    replace hdF_shape_GapOf_L9 : restF_shape_GapOf_L9 = List.drop iF_shape_GapOf_L9 p1 := hdF_shape_GapOf_L9
    replace H : F_shape_GapOf_L9 (F_shape_GapOf_L3 p0 p1 restF_shape_GapOf_L3 (iF_shape_GapOf_L3 + 1)) xF_shape_GapOf_L3 restF_shape_GapOf_L9 iF_shape_GapOf_L9 x377 = some r := H
    replace hmF_shape_GapOf_L9 : m + 1 = restF_shape_GapOf_L9.length + 1 := hmF_shape_GapOf_L9
    replace hp0_0 := hp0_0.leR leF_shape_GapOf_L9
    replace hp1_0 := hp1_0.leR leF_shape_GapOf_L9
    replace leB := leB.trans leF_shape_GapOf_L9
    replace leF_shape_GapOf_L3 := leF_shape_GapOf_L3.trans leF_shape_GapOf_L9
    obtain rfl : m = restF_shape_GapOf_L9.length := by omega
    clear hmF_shape_GapOf_L9
    show Tr _ _ (LF [(0, (.slice Ap0_0 (p0).length cp0_0)), (1, (.slice Ap1_0 (p1).length cp1_0)), (4, (.pointer (some ⟨b100, 0, none⟩))), (5, (.int .i64 x377)), (7, (.pointer (some ⟨b364, 0, none⟩))), (22, (.slice Ap0_0 (p0).length cp0_0)), (23, (.int .i64 (p0.length : Int))), (24, (.int .i64 (iF_shape_GapOf_L3 : Int))), (28, (.slice Ap1_0 (p1).length cp1_0)), (29, (.int .i64 (p1.length : Int))), (30, (.int .i64 (iF_shape_GapOf_L9 : Int)))]) (LE [(1, bx b100 #[(.int .i64 0), (.int .i64 0), (.int .i64 0), (.int .i64 0), (.int .i64 0), (.int .i64 0), (.int .i64 0)] 42), (39, bx b364 #[(.int .i64 xF_shape_GapOf_L3.X0), (.int .i64 xF_shape_GapOf_L3.Y0), (.int .i64 xF_shape_GapOf_L3.X1), (.int .i64 xF_shape_GapOf_L3.Y1)] 29)]) _
    cases restF_shape_GapOf_L9 with
    | nil =>
      rw [F_shape_GapOf_L9.eq_1] at H
      refine Tr.seq ?_
      refine Tr.region ?_
      refine Tr.val (wn rfl) rfl (fun _ _ h1 h2 => run_lss (h1.ev rfl) (h1.ev rfl)) ?_
      refine Tr.nil (Tr.normThen ?_)
      refine Tr.seq ?_
      refine Tr.condF rfl (range_nil hdF_shape_GapOf_L9) ?_
      refine Tr.exit (Tr.exitThen (Tr.exitThen (Tr.exitBlock (Tr.normBlock (Tr.normThen ?_)))))
      refine Tr.region ?_
      refine Tr.val (wn rfl) rfl (fun _ _ h1 h2 => run_add (h1.ev rfl) (h1.ev rfl)) ?_
      refine Tr.val (wn rfl) rfl (fun _ _ h1 h2 => run_move (h1.ev rfl)) ?_
      refine Tr.nil ?_
      exact Tr.backThen leF_shape_GapOf_L3 (restF_shape_GapOf_L3, (iF_shape_GapOf_L3 + 1), x377) ⟨rfl, range_tl hdF_shape_GapOf_L3, range_lt hdF_shape_GapOf_L3, H⟩ (.cons rfl (.cons rfl (.cons rfl (.cons rfl (.cons rfl (.cons rfl (.cons (congrArg (fun z => some (Value.int .i64 z)) (range_up hdF_shape_GapOf_L3 hp0_0.form)) .nil))))))) (.cons rfl .nil)
    | cons xF_shape_GapOf_L9 restF_shape_GapOf_L9 =>
      rw [F_shape_GapOf_L9.eq_2] at H
      refine Tr.seq ?_
      refine Tr.region ?_
      refine Tr.val (wn rfl) rfl (fun _ _ h1 h2 => run_lss (h1.ev rfl) (h1.ev rfl)) ?_
      refine Tr.nil (Tr.normThen ?_)
      refine Tr.seq ?_
      refine Tr.condT rfl (range_on hdF_shape_GapOf_L9) ?_
      refine Tr.skip (Tr.normThen ?_)
      refine Tr.seq ?_
      refine Tr.block ?_
      refine Tr.seq ?_
      refine Tr.region ?_
      refine Tr.val (wn rfl) rfl (fun _ _ h1 h2 => run_indexAddr el_22 (h1.ev rfl) hp1_0.form (h1.ev rfl) (Int.natCast_nonneg _) (range_lt hdF_shape_GapOf_L9)) ?_
      refine Tr.val (wn rfl) rfl (fun _ _ h1 h2 => run_loadN (cs := [(.int .i64 xF_shape_GapOf_L9.X0), (.int .i64 xF_shape_GapOf_L9.Y0), (.int .i64 xF_shape_GapOf_L9.X1), (.int .i64 xF_shape_GapOf_L9.Y1)]) ag_29 sz_29 (h1.ev rfl) (CellsAt.take (rdF ef_TRect hp1_0 (range_at hdF_shape_GapOf_L9) h2) 4) rfl) ?_
      refine Tr.alloc 42 (wn rfl) rfl ze_29 fun b378 => ?_
      refine Tr.store 42 (cs := [(.int .i64 xF_shape_GapOf_L9.X0), (.int .i64 xF_shape_GapOf_L9.Y0), (.int .i64 xF_shape_GapOf_L9.X1), (.int .i64 xF_shape_GapOf_L9.Y1)]) [(.int .i64 xF_shape_GapOf_L9.X0), (.int .i64 xF_shape_GapOf_L9.Y0), (.int .i64 xF_shape_GapOf_L9.X1), (.int .i64 xF_shape_GapOf_L9.Y1)] (wn rfl) rfl rfl rfl rfl sz_29 rfl rfl rfl ?_
      refine Tr.nil (Tr.normThen ?_)
      refine Tr.seq ?_
      refine Tr.region ?_
      refine Tr.val (wn rfl) rfl (fun _ _ h1 h2 => run_loadN (cs := [(.int .i64 xF_shape_GapOf_L3.X0), (.int .i64 xF_shape_GapOf_L3.Y0), (.int .i64 xF_shape_GapOf_L3.X1), (.int .i64 xF_shape_GapOf_L3.Y1)]) ag_29 sz_29 (h1.ev rfl) (CellsAt.take (rdb h2 (vs := [(.int .i64 xF_shape_GapOf_L3.X0), (.int .i64 xF_shape_GapOf_L3.Y0), (.int .i64 xF_shape_GapOf_L3.X1), (.int .i64 xF_shape_GapOf_L3.Y1)]) (k := 39) rfl 0) 4) rfl) ?_
      refine Tr.val (wn rfl) rfl (fun _ _ h1 h2 => run_loadN (cs := [(.int .i64 xF_shape_GapOf_L9.X0), (.int .i64 xF_shape_GapOf_L9.Y0), (.int .i64 xF_shape_GapOf_L9.X1), (.int .i64 xF_shape_GapOf_L9.Y1)]) ag_29 sz_29 (h1.ev rfl) (CellsAt.take (rdb h2 (vs := [(.int .i64 xF_shape_GapOf_L9.X0), (.int .i64 xF_shape_GapOf_L9.Y0), (.int .i64 xF_shape_GapOf_L9.X1), (.int .i64 xF_shape_GapOf_L9.Y1)]) (k := 42) rfl 0) 4) rfl) ?_
      obtain ⟨y379, hy379, H⟩ := bnd H
      refine Tr.call0 (r := (.int .i64 y379)) (wn rfl) rfl Try.call81 (evl_cons rfl (evl_cons rfl evl_nil)) (fun W hW => F_shape_Far_ok xF_shape_GapOf_L3 xF_shape_GapOf_L9 y379 hy379 (HF.start _)) ?_
      refine Tr.val (wn rfl) rfl (fun _ _ h1 h2 => run_assign (h1.ev rfl)) ?_
      refine Tr.nil (Tr.normThen ?_)
      refine Tr.seq ?_
      refine Tr.region ?_
      refine Tr.val (wn rfl) rfl (fun _ _ h1 h2 => run_move (h1.ev rfl)) ?_
      refine Tr.val (wn rfl) rfl (fun _ _ h1 h2 => run_lss (h1.ev rfl) (h1.ev rfl)) ?_
      refine Tr.val (wn rfl) rfl (fun _ _ h1 h2 => run_move (h1.ev rfl)) ?_
      refine Tr.mid0 4 [(0, (.slice Ap0_0 (p0).length cp0_0)), (1, (.slice Ap1_0 (p1).length cp1_0)), (4, (.pointer (some ⟨b100, 0, none⟩))), (5, (.int .i64 x377)), (7, (.pointer (some ⟨b364, 0, none⟩))), (10, (.int .i64 y379)), (22, (.slice Ap0_0 (p0).length cp0_0)), (23, (.int .i64 (p0.length : Int))), (24, (.int .i64 (iF_shape_GapOf_L3 : Int))), (28, (.slice Ap1_0 (p1).length cp1_0)), (29, (.int .i64 (p1.length : Int))), (30, (.int .i64 (iF_shape_GapOf_L9 : Int))), (43, (.bool ((decide (x377 < 0)) || (decide (y379 < x377)))))] [(1, bx b100 #[(.int .i64 0), (.int .i64 0), (.int .i64 0), (.int .i64 0), (.int .i64 0), (.int .i64 0), (.int .i64 0)] 42), (39, bx b364 #[(.int .i64 xF_shape_GapOf_L3.X0), (.int .i64 xF_shape_GapOf_L3.Y0), (.int .i64 xF_shape_GapOf_L3.X1), (.int .i64 xF_shape_GapOf_L3.Y1)] 29), (42, bx b378 #[(.int .i64 xF_shape_GapOf_L9.X0), (.int .i64 xF_shape_GapOf_L9.Y0), (.int .i64 xF_shape_GapOf_L9.X1), (.int .i64 xF_shape_GapOf_L9.Y1)] 29)] ?_ ?_
      · cases hg379 : (decide (x377 < 0))
        · refine Tr.val (wg rfl rfl rfl) rfl (fun _ _ h1 h2 => run_move (h1.ev rfl)) ?_
          refine Tr.val (wg rfl rfl rfl) rfl (fun _ _ h1 h2 => run_move (h1.ev rfl)) ?_
          refine Tr.val (wg rfl rfl rfl) rfl (fun _ _ h1 h2 => run_lss (h1.ev rfl) (h1.ev rfl)) ?_
          refine Tr.val (wn rfl) rfl (fun _ _ h1 h2 => run_pickF (h1.ev rfl) (h1.ev rfl)) ?_
          exact Tr.nil (Tr.fin0 (.cons rfl (.cons rfl (.cons rfl (.cons rfl (.cons rfl (.cons rfl (.cons rfl (.cons rfl (.cons rfl (.cons rfl (.cons rfl (.cons rfl (.cons rfl .nil))))))))))))) (.cons rfl (.cons rfl (.cons rfl .nil))))
        · refine Tr.pass rfl rfl rfl rfl rfl (by decide) ?_
          refine Tr.pass rfl rfl rfl rfl rfl (by decide) ?_
          refine Tr.pass rfl rfl rfl rfl rfl (by decide) ?_
          refine Tr.val (wn rfl) rfl (fun _ _ h1 h2 => run_pickT (h1.ev rfl) (h1.ev rfl)) ?_
          exact Tr.nil (Tr.fin0 (.cons rfl (.cons rfl (.cons rfl (.cons rfl (.cons rfl (.cons rfl (.cons rfl (.cons rfl (.cons rfl (.cons rfl (.cons rfl (.cons rfl (.cons rfl .nil))))))))))))) (.cons rfl (.cons rfl (.cons rfl .nil))))
      · show Tr _ _ (LF [(0, (.slice Ap0_0 (p0).length cp0_0)), (1, (.slice Ap1_0 (p1).length cp1_0)), (4, (.pointer (some ⟨b100, 0, none⟩))), (5, (.int .i64 x377)), (7, (.pointer (some ⟨b364, 0, none⟩))), (10, (.int .i64 y379)), (22, (.slice Ap0_0 (p0).length cp0_0)), (23, (.int .i64 (p0.length : Int))), (24, (.int .i64 (iF_shape_GapOf_L3 : Int))), (28, (.slice Ap1_0 (p1).length cp1_0)), (29, (.int .i64 (p1.length : Int))), (30, (.int .i64 (iF_shape_GapOf_L9 : Int))), (43, (.bool ((decide (x377 < 0)) || (decide (y379 < x377)))))]) (LE [(1, bx b100 #[(.int .i64 0), (.int .i64 0), (.int .i64 0), (.int .i64 0), (.int .i64 0), (.int .i64 0), (.int .i64 0)] 42), (39, bx b364 #[(.int .i64 xF_shape_GapOf_L3.X0), (.int .i64 xF_shape_GapOf_L3.Y0), (.int .i64 xF_shape_GapOf_L3.X1), (.int .i64 xF_shape_GapOf_L3.Y1)] 29), (42, bx b378 #[(.int .i64 xF_shape_GapOf_L9.X0), (.int .i64 xF_shape_GapOf_L9.Y0), (.int .i64 xF_shape_GapOf_L9.X1), (.int .i64 xF_shape_GapOf_L9.Y1)] 29)]) _
        refine Tr.nil (Tr.normThen ?_)
        refine Tr.cond rfl H (fun H => ?_) (fun H => ?_)
        · refine Tr.region ?_
          refine Tr.val (wn rfl) rfl (fun _ _ h1 h2 => run_move (h1.ev rfl)) ?_
          refine Tr.val (wn rfl) rfl (fun _ _ h1 h2 => run_assign (h1.ev rfl)) ?_
          refine Tr.nil (Tr.normBlock (Tr.normThen ?_))
          refine Tr.region ?_
          refine Tr.val (wn rfl) rfl (fun _ _ h1 h2 => run_add (h1.ev rfl) (h1.ev rfl)) ?_
          refine Tr.val (wn rfl) rfl (fun _ _ h1 h2 => run_move (h1.ev rfl)) ?_
          refine Tr.nil ?_
          exact Tr.backThen leF_shape_GapOf_L9 (restF_shape_GapOf_L9, (iF_shape_GapOf_L9 + 1), y379) ⟨rfl, range_tl hdF_shape_GapOf_L9, range_lt hdF_shape_GapOf_L9, H⟩ (.cons rfl (.cons rfl (.cons rfl (.cons rfl (.cons rfl (.cons rfl (.cons rfl (.cons rfl (.cons rfl (.cons rfl (.cons (congrArg (fun z => some (Value.int .i64 z)) (range_up hdF_shape_GapOf_L9 hp1_0.form)) .nil))))))))))) (.cons rfl (.cons rfl .nil))
        · refine Tr.skip (Tr.normBlock (Tr.normThen ?_))
          refine Tr.region ?_
          refine Tr.val (wn rfl) rfl (fun _ _ h1 h2 => run_add (h1.ev rfl) (h1.ev rfl)) ?_
          refine Tr.val (wn rfl) rfl (fun _ _ h1 h2 => run_move (h1.ev rfl)) ?_
          refine Tr.nil ?_
          exact Tr.backThen leF_shape_GapOf_L9 (restF_shape_GapOf_L9, (iF_shape_GapOf_L9 + 1), x377) ⟨rfl, range_tl hdF_shape_GapOf_L9, range_lt hdF_shape_GapOf_L9, H⟩ (.cons rfl (.cons rfl (.cons rfl (.cons rfl (.cons rfl (.cons rfl (.cons rfl (.cons rfl (.cons rfl (.cons rfl (.cons (congrArg (fun z => some (Value.int .i64 z)) (range_up hdF_shape_GapOf_L9 hp1_0.form)) .nil))))))))))) (.cons rfl (.cons rfl .nil))

theorem F_shape_Gaps_ok (N : Nat) {w : Bs} (p0 : (List (List TRect))) (Ap0_0 : Option Addr) (cp0_0 : Nat) (hp0_0 : Sl w.R w.W fl_LTRect Ap0_0 cp0_0 p0) (p1 : Int) (r : ((List TGap) × Int)) (H : F_shape_Gaps N p0 p1 = some r) (hE : HF w w.W (LEn [emp])) : Calls Try.prog 21 [(.slice Ap0_0 (p0).length cp0_0), (.int .i64 p1)].toArray w.W fun e W' => ∃ u : (Option Addr × Nat), e = .returned (.tuple #[(.slice u.1 (r.1).length u.2), (.int .i64 r.2)]) ∧ (SlF u.1 (r.1).length u.2) ∧ HF w W' (LEn [ow u.1 u.2 42 fl_TGap r.1]) := by
  unfold F_shape_Gaps at H
  have leB := Bs.Le.refl w
  refine Tr.enter (n := 99) Try.func21 rfl rfl rfl hE ?_
  refine Tr.seq ?_
  refine Tr.region ?_
  refine Tr.val (wn rfl) rfl (fun _ _ h1 h2 => run_assign (h1.ev rfl)) ?_
  refine Tr.nilOwn 1 42 fl_TGap ?_
  show Tr _ _ (uf _ 4 (.slice none (([] : List TGap)).length 0)) _ _
  refine Tr.val (wn rfl) rfl (fun _ _ h1 h2 => run_assign (h1.ev rfl)) ?_
  refine Tr.nil (Tr.normThen ?_)
  refine Tr.seq ?_
  refine Tr.region ?_
  refine Tr.val (wn rfl) rfl (fun _ _ h1 h2 => run_assign (h1.ev rfl)) ?_
  refine Tr.nil (Tr.normThen ?_)
  refine Tr.seq ?_
  refine Tr.seq ?_
  refine Tr.region ?_
  refine Tr.val (wn rfl) rfl (fun _ _ h1 h2 => run_move (h1.ev rfl)) ?_
  refine Tr.val (wn rfl) rfl (fun _ _ h1 h2 => run_len un_40 (h1.ev rfl)) ?_
  refine Tr.val (wn rfl) rfl (fun _ _ h1 h2 => run_move (h1.ev rfl)) ?_
  refine Tr.nil (Tr.normThen ?_)
  refine Tr.block ?_
  refine Tr.loop (σ := (List (List TRect)) × Nat × Int) (fun m w s => m = s.1.length + 1 ∧ s.1 = List.drop s.2.1 p0 ∧ s.2.1 ≤ p0.length ∧ F_shape_Gaps_L1 N p0 p1 s.1 s.2.1 s.2.2 = some r) (fun s => [(0, (.slice Ap0_0 (p0).length cp0_0)), (1, (.int .i64 p1)), (6, (.int .i64 s.2.2)), (17, (.slice Ap0_0 (p0).length cp0_0)), (18, (.int .i64 (p0.length : Int))), (19, (.int .i64 (s.2.1 : Int)))]) (fun s => []) (p0.length + 1) (p0, 0, 0) ⟨rfl, rfl, Nat.zero_le _, H⟩ (.cons rfl (.cons rfl (.cons rfl (.cons rfl (.cons rfl (.cons rfl .nil)))))) .nil (fun _ _ h => absurd h.1 (by simp)) ?_
  intro w leF_shape_Gaps_L1 m s hs
  obtain ⟨restF_shape_Gaps_L1, iF_shape_Gaps_L1, x110⟩ := s
  obtain ⟨hmF_shape_Gaps_L1, hdF_shape_Gaps_L1, hiF_shape_Gaps_L1, H⟩ := hs
  replace hdF_shape_Gaps_L1 : restF_shape_Gaps_L1 = List.drop iF_shape_Gaps_L1 p0 := hdF_shape_Gaps_L1
  replace H : F_shape_Gaps_L1 N p0 p1 restF_shape_Gaps_L1 iF_shape_Gaps_L1 x110 = some r := H
  replace hmF_shape_Gaps_L1 : m + 1 = restF_shape_Gaps_L1.length + 1 := hmF_shape_Gaps_L1
  replace hp0_0 := hp0_0.leR leF_shape_Gaps_L1
  replace leB := leB.trans leF_shape_Gaps_L1
  obtain rfl : m = restF_shape_Gaps_L1.length := by omega
  clear hmF_shape_Gaps_L1
  show Tr _ _ (LF [(0, (.slice Ap0_0 (p0).length cp0_0)), (1, (.int .i64 p1)), (6, (.int .i64 x110)), (17, (.slice Ap0_0 (p0).length cp0_0)), (18, (.int .i64 (p0.length : Int))), (19, (.int .i64 (iF_shape_Gaps_L1 : Int)))]) (LE []) _
  cases restF_shape_Gaps_L1 with
  | nil =>
    rw [F_shape_Gaps_L1.eq_1] at H
    refine Tr.seq ?_
    refine Tr.region ?_
    refine Tr.val (wn rfl) rfl (fun _ _ h1 h2 => run_lss (h1.ev rfl) (h1.ev rfl)) ?_
    refine Tr.nil (Tr.normThen ?_)
    refine Tr.seq ?_
    refine Tr.condF rfl (range_nil hdF_shape_Gaps_L1) ?_
    refine Tr.exit (Tr.exitThen (Tr.exitThen (Tr.exitBlock (Tr.normThen ?_))))
    refine Tr.seq ?_
    refine Tr.seq ?_
    refine Tr.region ?_
    refine Tr.val (wn rfl) rfl (fun _ _ h1 h2 => run_move (h1.ev rfl)) ?_
    refine Tr.val (wn rfl) rfl (fun _ _ h1 h2 => run_len un_40 (h1.ev rfl)) ?_
    refine Tr.val (wn rfl) rfl (fun _ _ h1 h2 => run_gtr (h1.ev rfl) (h1.ev rfl)) ?_
    refine Tr.val (wn rfl) rfl (fun _ _ h1 h2 => run_move (h1.ev rfl)) ?_
    refine Tr.mid0 3 [(0, (.slice Ap0_0 (p0).length cp0_0)), (1, (.int .i64 p1)), (34, (.bool ((decide (2000 < (p0.length : Int))) || (decide (2000 < x110)))))] [] ?_ ?_
    · cases hg252 : (decide (2000 < (p0.length : Int)))
      · refine Tr.val (wg rfl rfl rfl) rfl (fun _ _ h1 h2 => run_move (h1.ev rfl)) ?_
        refine Tr.val (wg rfl rfl rfl) rfl (fun _ _ h1 h2 => run_gtr (h1.ev rfl) (h1.ev rfl)) ?_
        refine Tr.val (wn rfl) rfl (fun _ _ h1 h2 => run_pickF (h1.ev rfl) (h1.ev rfl)) ?_
        exact Tr.nil (Tr.fin0 (.cons rfl (.cons rfl (.cons rfl .nil))) .nil)
      · refine Tr.pass rfl rfl rfl rfl rfl (by decide) ?_
        refine Tr.pass rfl rfl rfl rfl rfl (by decide) ?_
        refine Tr.val (wn rfl) rfl (fun _ _ h1 h2 => run_pickT (h1.ev rfl) (h1.ev rfl)) ?_
        exact Tr.nil (Tr.fin0 (.cons rfl (.cons rfl (.cons rfl .nil))) .nil)
    · show Tr _ _ (LF [(0, (.slice Ap0_0 (p0).length cp0_0)), (1, (.int .i64 p1)), (34, (.bool ((decide (2000 < (p0.length : Int))) || (decide (2000 < x110)))))]) (LE []) _
      refine Tr.nil (Tr.normThen ?_)
      refine Tr.cond rfl H (fun H => ?_) (fun H => ?_)
      · refine Tr.seq ?_
        refine Tr.region ?_
        refine Tr.val (wn rfl) rfl (fun _ _ h1 h2 => run_assign (h1.ev rfl)) ?_
        refine Tr.nilOwn 2 42 fl_TGap ?_
        show Tr _ _ (uf _ 4 (.slice none (([] : List TGap)).length 0)) _ _
        refine Tr.val (wn rfl) rfl (fun _ _ h1 h2 => run_assign (h1.ev rfl)) ?_
        refine Tr.nil (Tr.normThen ?_)
        refine Tr.ret (Tr.retThen ?_)
        obtain rfl := Option.some.inj H
        exact Tr.out (m := [(.slice none (([] : List TGap)).length 0), (.int .i64 2)]) [] (res_tmp rfl (res_tmp rfl res_nil)) (fun W hW => ⟨(none, 0), rfl, slf_nil, HF.lowE leB (hW.pick (ks := [2]) (by decide) (pk_cons rfl pk_nil)) ⟨ow_any _ _ _ _ tr_TGap, trivial⟩⟩)
      · refine Tr.skip (Tr.normThen ?_)
        refine Tr.seq ?_
        refine Tr.seq ?_
        refine Tr.region ?_
        refine Tr.val (wn rfl) rfl (fun _ _ h1 h2 => run_move (h1.ev rfl)) ?_
        refine Tr.val (wn rfl) rfl (fun _ _ h1 h2 => run_len un_40 (h1.ev rfl)) ?_
        refine Tr.val (wn rfl) rfl (fun _ _ h1 h2 => run_move (h1.ev rfl)) ?_
        refine Tr.nil (Tr.normThen ?_)
        refine Tr.block ?_
        refine Tr.loop (σ := (List (List TRect)) × Nat) (fun m w s => m = s.1.length + 1 ∧ s.1 = List.drop s.2 p0 ∧ s.2 ≤ p0.length ∧ F_shape_Gaps_L2 N p0 p1 s.1 s.2 = some r) (fun s => [(0, (.slice Ap0_0 (p0).length cp0_0)), (1, (.int .i64 p1)), (35, (.slice Ap0_0 (p0).length cp0_0)), (36, (.int .i64 (p0.length : Int))), (37, (.int .i64 (s.2 : Int)))]) (fun s => []) (p0.length + 1) (p0, 0) ⟨rfl, rfl, Nat.zero_le _, H⟩ (.cons rfl (.cons rfl (.cons rfl (.cons rfl (.cons rfl .nil))))) .nil (fun _ _ h => absurd h.1 (by simp)) ?_
        intro w leF_shape_Gaps_L2 m s hs
        obtain ⟨restF_shape_Gaps_L2, iF_shape_Gaps_L2⟩ := s
        obtain ⟨hmF_shape_Gaps_L2, hdF_shape_Gaps_L2, hiF_shape_Gaps_L2, H⟩ := hs
        replace hdF_shape_Gaps_L2 : restF_shape_Gaps_L2 = List.drop iF_shape_Gaps_L2 p0 := hdF_shape_Gaps_L2
        replace H : F_shape_Gaps_L2 N p0 p1 restF_shape_Gaps_L2 iF_shape_Gaps_L2 = some r := H
        replace hmF_shape_Gaps_L2 : m + 1 = restF_shape_Gaps_L2.length + 1 := hmF_shape_Gaps_L2
        replace hp0_0 := hp0_0.leR leF_shape_Gaps_L2
        replace leB := leB.trans leF_shape_Gaps_L2
        replace leF_shape_Gaps_L1 := leF_shape_Gaps_L1.trans leF_shape_Gaps_L2
        obtain rfl : m = restF_shape_Gaps_L2.length := by omega
        clear hmF_shape_Gaps_L2
        show Tr _ _ (LF [(0, (.slice Ap0_0 (p0).length cp0_0)), (1, (.int .i64 p1)), (35, (.slice Ap0_0 (p0).length cp0_0)), (36, (.int .i64 (p0.length : Int))), (37, (.int .i64 (iF_shape_Gaps_L2 : Int)))]) (LE []) _
        cases restF_shape_Gaps_L2 with
        | nil =>
          rw [F_shape_Gaps_L2.eq_1] at H
          refine Tr.seq ?_
          refine Tr.region ?_
          refine Tr.val (wn rfl) rfl (fun _ _ h1 h2 => run_lss (h1.ev rfl) (h1.ev rfl)) ?_
          refine Tr.nil (Tr.normThen ?_)
          refine Tr.seq ?_
          refine Tr.condF rfl (range_nil hdF_shape_Gaps_L2) ?_
          refine Tr.exit (Tr.exitThen (Tr.exitThen (Tr.exitBlock (Tr.normThen ?_))))
          refine Tr.seq ?_
          refine Tr.seq ?_
          refine Tr.region ?_
          refine Tr.val (wn rfl) rfl (fun _ _ h1 h2 => run_move (h1.ev rfl)) ?_
          obtain ⟨y115, hy115, H⟩ := bnd H
          refine Tr.call0 (r := (.bool y115)) (wn rfl) rfl Try.call45 (evl_cons rfl (evl_cons rfl (evl_cons rfl evl_nil))) (fun W hW => F_shape_within_ok p1 0 100000 y115 hy115 (HF.start _)) ?_
          refine Tr.val (wn rfl) rfl (fun _ _ h1 h2 => run_not (h1.ev rfl)) ?_
          refine Tr.nil (Tr.normThen ?_)
          refine Tr.cond rfl H (fun H => ?_) (fun H => ?_)
          · refine Tr.seq ?_
            refine Tr.region ?_
            refine Tr.val (wn rfl) rfl (fun _ _ h1 h2 => run_assign (h1.ev rfl)) ?_
            refine Tr.nilOwn 4 42 fl_TGap ?_
            show Tr _ _ (uf _ 4 (.slice none (([] : List TGap)).length 0)) _ _
            refine Tr.val (wn rfl) rfl (fun _ _ h1 h2 => run_assign (h1.ev rfl)) ?_
            refine Tr.nil (Tr.normThen ?_)
            refine Tr.ret (Tr.retThen ?_)
            obtain rfl := Option.some.inj H
            exact Tr.out (m := [(.slice none (([] : List TGap)).length 0), (.int .i64 1)]) [] (res_tmp rfl (res_tmp rfl res_nil)) (fun W hW => ⟨(none, 0), rfl, slf_nil, HF.lowE leB (hW.pick (ks := [4]) (by decide) (pk_cons rfl pk_nil)) ⟨ow_any _ _ _ _ tr_TGap, trivial⟩⟩)
          · refine Tr.skip (Tr.normThen ?_)
            refine Tr.seq ?_
            refine Tr.region ?_
            refine Tr.val (wn rfl) rfl (fun _ _ h1 h2 => run_assign (h1.ev rfl)) ?_
            refine Tr.nilOwn 5 42 fl_TGap ?_
            show Tr _ _ (uf _ 12 (.slice none (([] : List TGap)).length 0)) _ _
            refine Tr.nil (Tr.normThen ?_)
            refine Tr.seq ?_
            refine Tr.seq ?_
            refine Tr.region ?_
            refine Tr.val (wn rfl) rfl (fun _ _ h1 h2 => run_move (h1.ev rfl)) ?_
            refine Tr.val (wn rfl) rfl (fun _ _ h1 h2 => run_len un_40 (h1.ev rfl)) ?_
            refine Tr.val (wn rfl) rfl (fun _ _ h1 h2 => run_move (h1.ev rfl)) ?_
            refine Tr.nil (Tr.normThen ?_)
            refine Tr.block ?_
            refine Tr.loop (σ := (List (List TRect)) × Nat × (List TGap) × (Option Addr) × Nat) (fun m w s => m = s.1.length + 1 ∧ s.1 = List.drop s.2.1 p0 ∧ s.2.1 ≤ p0.length ∧ F_shape_Gaps_L5 N p0 p1 s.1 s.2.1 s.2.2.1 = some r ∧ SlF s.2.2.2.1 (s.2.2.1).length s.2.2.2.2) (fun s => [(0, (.slice Ap0_0 (p0).length cp0_0)), (1, (.int .i64 p1)), (12, (.slice s.2.2.2.1 (s.2.2.1).length s.2.2.2.2)), (50, (.slice Ap0_0 (p0).length cp0_0)), (51, (.int .i64 (p0.length : Int))), (52, (.int .i64 (s.2.1 : Int)))]) (fun s => [(5, ow s.2.2.2.1 s.2.2.2.2 42 fl_TGap s.2.2.1)]) (p0.length + 1) (p0, 0, ([] : List TGap), none, 0) ⟨rfl, rfl, Nat.zero_le _, H, slf_nil⟩ (.cons rfl (.cons rfl (.cons rfl (.cons rfl (.cons rfl (.cons rfl .nil)))))) (.cons rfl .nil) (fun _ _ h => absurd h.1 (by simp)) ?_
            intro w leF_shape_Gaps_L5 m s hs
            obtain ⟨restF_shape_Gaps_L5, iF_shape_Gaps_L5, l208, Al208, cl208⟩ := s
            obtain ⟨hmF_shape_Gaps_L5, hdF_shape_Gaps_L5, hiF_shape_Gaps_L5, H, hl208⟩ := hs
            replace hdF_shape_Gaps_L5 : restF_shape_Gaps_L5 = List.drop iF_shape_Gaps_L5 p0 := hdF_shape_Gaps_L5
            replace H : F_shape_Gaps_L5 N p0 p1 restF_shape_Gaps_L5 iF_shape_Gaps_L5 l208 = some r := H
            replace hmF_shape_Gaps_L5 : m + 1 = restF_shape_Gaps_L5.length + 1 := hmF_shape_Gaps_L5
            replace hp0_0 := hp0_0.leR leF_shape_Gaps_L5
            replace leB := leB.trans leF_shape_Gaps_L5
            replace leF_shape_Gaps_L1 := leF_shape_Gaps_L1.trans leF_shape_Gaps_L5
            replace leF_shape_Gaps_L2 := leF_shape_Gaps_L2.trans leF_shape_Gaps_L5
            replace hl208 : SlF Al208 (l208).length cl208 := hl208
            obtain rfl : m = restF_shape_Gaps_L5.length := by omega
            clear hmF_shape_Gaps_L5
            show Tr _ _ (LF [(0, (.slice Ap0_0 (p0).length cp0_0)), (1, (.int .i64 p1)), (12, (.slice Al208 (l208).length cl208)), (50, (.slice Ap0_0 (p0).length cp0_0)), (51, (.int .i64 (p0.length : Int))), (52, (.int .i64 (iF_shape_Gaps_L5 : Int)))]) (LE [(5, ow Al208 cl208 42 fl_TGap l208)]) _
            cases restF_shape_Gaps_L5 with
            | nil =>
              rw [F_shape_Gaps_L5.eq_1] at H
              refine Tr.seq ?_
              refine Tr.region ?_
              refine Tr.val (wn rfl) rfl (fun _ _ h1 h2 => run_lss (h1.ev rfl) (h1.ev rfl)) ?_
              refine Tr.nil (Tr.normThen ?_)
              refine Tr.seq ?_
              refine Tr.condF rfl (range_nil hdF_shape_Gaps_L5) ?_
              refine Tr.exit (Tr.exitThen (Tr.exitThen (Tr.exitBlock (Tr.normThen ?_))))
              refine Tr.seq ?_
              refine Tr.region ?_
              refine Tr.val (wn rfl) rfl (fun _ _ h1 h2 => run_move (h1.ev rfl)) ?_
              refine Tr.val (wn rfl) rfl (fun _ _ h1 h2 => run_assign (h1.ev rfl)) ?_
              refine Tr.val (wn rfl) rfl (fun _ _ h1 h2 => run_assign (h1.ev rfl)) ?_
              refine Tr.nil (Tr.normThen ?_)
              refine Tr.ret ?_
              obtain rfl := Option.some.inj H
              exact Tr.out (m := [(.slice Al208 (l208).length cl208), (.int .i64 0)]) [] (res_tmp rfl (res_tmp rfl res_nil)) (fun W hW => ⟨(Al208, cl208), rfl, hl208, HF.lowE leB (hW.pick (ks := [5]) (by decide) (pk_cons rfl pk_nil)) ⟨ow_any _ _ _ _ tr_TGap, trivial⟩⟩)
            | cons xF_shape_Gaps_L5 restF_shape_Gaps_L5 =>
              rw [F_shape_Gaps_L5.eq_2] at H
              refine Tr.seq ?_
              refine Tr.region ?_
              refine Tr.val (wn rfl) rfl (fun _ _ h1 h2 => run_lss (h1.ev rfl) (h1.ev rfl)) ?_
              refine Tr.nil (Tr.normThen ?_)
              refine Tr.seq ?_
              refine Tr.condT rfl (range_on hdF_shape_Gaps_L5) ?_
              refine Tr.skip (Tr.normThen ?_)
              refine Tr.seq ?_
              refine Tr.block ?_
              refine Tr.seq ?_
              refine Tr.region ?_
              refine Tr.val (wn rfl) rfl (fun _ _ h1 h2 => run_move (h1.ev rfl)) ?_
              obtain ⟨u209, hRu209, hoku209, hcu209⟩ := (hp0_0).el (range_at hdF_shape_Gaps_L5)
              obtain ⟨Au209_0, cu209_0⟩ := u209
              have hoku209_0 := hoku209
              replace hoku209_0 : Sl w.R w.W fl_TRect Au209_0 cu209_0 xF_shape_Gaps_L5 := hoku209_0
              refine Tr.val (wn rfl) rfl (fun _ _ h1 h2 => run_indexAddr el_40 (h1.ev rfl) hp0_0.form (h1.ev rfl) (Int.natCast_nonneg _) (range_lt hdF_shape_Gaps_L5)) ?_
              refine Tr.val (wn rfl) rfl (fun _ _ h1 h2 => run_load1 ag_22 (h1.ev rfl) (rdR hRu209 hcu209 h2) rfl) ?_
              refine Tr.val (wn rfl) rfl (fun _ _ h1 h2 => run_assign (h1.ev rfl)) ?_
              refine Tr.val (wn rfl) rfl (fun _ _ h1 h2 => run_assign (h1.ev rfl)) ?_
              refine Tr.nil (Tr.normThen ?_)
              refine Tr.seq ?_
              refine Tr.region ?_
              refine Tr.val (wn rfl) rfl (fun _ _ h1 h2 => run_move (h1.ev rfl)) ?_
              refine Tr.val (wn rfl) rfl (fun _ _ h1 h2 => run_add (h1.ev rfl) (h1.ev rfl)) ?_
              refine Tr.val (wn rfl) rfl (fun _ _ h1 h2 => run_assign (h1.ev rfl)) ?_
              refine Tr.nil (Tr.normThen ?_)
              refine Tr.block ?_
              refine Tr.loop (σ := (List TGap) × Int × (Option Addr) × Nat) (fun m w s => F_shape_Gaps_L6 p0 p1 (F_shape_Gaps_L5 N p0 p1 restF_shape_Gaps_L5 (iF_shape_Gaps_L5 + 1)) xF_shape_Gaps_L5 iF_shape_Gaps_L5 m s.1 s.2.1 = some r ∧ SlF s.2.2.1 (s.1).length s.2.2.2) (fun s => [(0, (.slice Ap0_0 (p0).length cp0_0)), (1, (.int .i64 p1)), (12, (.slice s.2.2.1 (s.1).length s.2.2.2)), (13, (.int .i64 (iF_shape_Gaps_L5 : Int))), (14, (.slice Au209_0 (xF_shape_Gaps_L5).length cu209_0)), (15, (.int .i64 s.2.1)), (50, (.slice Ap0_0 (p0).length cp0_0)), (51, (.int .i64 (p0.length : Int))), (52, (.int .i64 (iF_shape_Gaps_L5 : Int)))]) (fun s => [(5, ow s.2.2.1 s.2.2.2 42 fl_TGap s.1)]) N (l208, (w64 ((iF_shape_Gaps_L5 : Int) + 1)), Al208, cl208) ⟨H, hl208⟩ (.cons rfl (.cons rfl (.cons rfl (.cons rfl (.cons rfl (.cons rfl (.cons rfl (.cons rfl (.cons rfl .nil))))))))) (.cons rfl .nil) (fun _ _ h => noSome (h.1)) ?_
              intro w leF_shape_Gaps_L6 mF_shape_Gaps_L6 s hs
              obtain ⟨l238, x239, Al238, cl238⟩ := s
              obtain ⟨H, hl238⟩ := hs
              replace H : F_shape_Gaps_L6 p0 p1 (F_shape_Gaps_L5 N p0 p1 restF_shape_Gaps_L5 (iF_shape_Gaps_L5 + 1)) xF_shape_Gaps_L5 iF_shape_Gaps_L5 (mF_shape_Gaps_L6 + 1) l238 x239 = some r := H
              replace hp0_0 := hp0_0.leR leF_shape_Gaps_L6
              replace hoku209_0 := hoku209_0.leR leF_shape_Gaps_L6
              replace leB := leB.trans leF_shape_Gaps_L6
              replace leF_shape_Gaps_L1 := leF_shape_Gaps_L1.trans leF_shape_Gaps_L6
              replace leF_shape_Gaps_L2 := leF_shape_Gaps_L2.trans leF_shape_Gaps_L6
              replace leF_shape_Gaps_L5 := leF_shape_Gaps_L5.trans leF_shape_Gaps_L6
              replace hl238 : SlF Al238 (l238).length cl238 := hl238
              rw [F_shape_Gaps_L6.eq_2] at H
              show Tr _ _ (LF [(0, (.slice Ap0_0 (p0).length cp0_0)), (1, (.int .i64 p1)), (12, (.slice Al238 (l238).length cl238)), (13, (.int .i64 (iF_shape_Gaps_L5 : Int))), (14, (.slice Au209_0 (xF_shape_Gaps_L5).length cu209_0)), (15, (.int .i64 x239)), (50, (.slice Ap0_0 (p0).length cp0_0)), (51, (.int .i64 (p0.length : Int))), (52, (.int .i64 (iF_shape_Gaps_L5 : Int)))]) (LE [(5, ow Al238 cl238 42 fl_TGap l238)]) _
              refine Tr.seq ?_
              refine Tr.seq ?_
              refine Tr.region ?_
              refine Tr.val (wn rfl) rfl (fun _ _ h1 h2 => run_move (h1.ev rfl)) ?_
              refine Tr.val (wn rfl) rfl (fun _ _ h1 h2 => run_move (h1.ev rfl)) ?_
              refine Tr.val (wn rfl) rfl (fun _ _ h1 h2 => run_len un_40 (h1.ev rfl)) ?_
              refine Tr.val (wn rfl) rfl (fun _ _ h1 h2 => run_lss (h1.ev rfl) (h1.ev rfl)) ?_
              refine Tr.nil (Tr.normThen ?_)
              refine Tr.cond rfl H (fun H => ?_) (fun H => ?_)
              · refine Tr.skip (Tr.normThen ?_)
                refine Tr.seq ?_
                refine Tr.block ?_
                refine Tr.seq ?_
                refine Tr.seq ?_
                refine Tr.region ?_
                refine Tr.val (wn rfl) rfl (fun _ _ h1 h2 => run_move (h1.ev rfl)) ?_
                refine Tr.val (wn rfl) rfl (fun _ _ h1 h2 => run_len un_22 (h1.ev rfl)) ?_
                refine Tr.val (wn rfl) rfl (fun _ _ h1 h2 => run_eql (h1.ev rfl) (h1.ev rfl)) ?_
                refine Tr.val (wn rfl) rfl (fun _ _ h1 h2 => run_move (h1.ev rfl)) ?_
                obtain ⟨g242, hg242, H⟩ := bnd H
                refine Tr.mid0 7 [(0, (.slice Ap0_0 (p0).length cp0_0)), (1, (.int .i64 p1)), (12, (.slice Al238 (l238).length cl238)), (13, (.int .i64 (iF_shape_Gaps_L5 : Int))), (14, (.slice Au209_0 (xF_shape_Gaps_L5).length cu209_0)), (15, (.int .i64 x239)), (50, (.slice Ap0_0 (p0).length cp0_0)), (51, (.int .i64 (p0.length : Int))), (52, (.int .i64 (iF_shape_Gaps_L5 : Int))), (75, (.bool g242))] [(5, ow Al238 cl238 42 fl_TGap l238)] ?_ ?_
                · cases hg250 : ((xF_shape_Gaps_L5.length : Int) == 0)
                  · rw [hg250] at hg242
                    rw [if_neg (by decide)] at hg242
                    have H := hg242
                    refine Tr.val (wg rfl rfl rfl) rfl (fun _ _ h1 h2 => run_move (h1.ev rfl)) ?_
                    refine Tr.val (wg rfl rfl rfl) rfl (fun _ _ h1 h2 => run_move (h1.ev rfl)) ?_
                    obtain ⟨x243, hx243, H⟩ := bnd H
                    obtain ⟨hx2430, hx2431, hx2432⟩ := idx_some hx243
                    obtain ⟨u244, hRu244, hoku244, hcu244⟩ := (hp0_0).el hx2432
                    obtain ⟨Au244_0, cu244_0⟩ := u244
                    have hoku244_0 := hoku244
                    replace hoku244_0 : Sl w.R w.W fl_TRect Au244_0 cu244_0 x243 := hoku244_0
                    refine Tr.val (wg rfl rfl rfl) rfl (fun _ _ h1 h2 => run_indexAddr el_40 (h1.ev rfl) hp0_0.form (h1.ev rfl) hx2430 hx2431) ?_
                    refine Tr.val (wg rfl rfl rfl) rfl (fun _ _ h1 h2 => run_load1 ag_22 (h1.ev rfl) (rdR hRu244 hcu244 h2) rfl) ?_
                    refine Tr.val (wg rfl rfl rfl) rfl (fun _ _ h1 h2 => run_len un_22 (h1.ev rfl)) ?_
                    refine Tr.val (wg rfl rfl rfl) rfl (fun _ _ h1 h2 => run_eql (h1.ev rfl) (h1.ev rfl)) ?_
                    refine Tr.val (wn rfl) rfl (fun _ _ h1 h2 => run_pickF (h1.ev rfl) (h1.ev rfl)) ?_
                    obtain rfl := Option.some.inj H
                    exact Tr.nil (Tr.fin0 (.cons rfl (.cons rfl (.cons rfl (.cons rfl (.cons rfl (.cons rfl (.cons rfl (.cons rfl (.cons rfl (.cons rfl .nil)))))))))) (.cons rfl .nil))
                  · rw [hg250] at hg242
                    rw [if_pos rfl] at hg242
                    have H := hg242
                    obtain rfl := Option.some.inj H
                    refine Tr.pass rfl rfl rfl rfl rfl (by decide) ?_
                    refine Tr.pass rfl rfl rfl rfl rfl (by decide) ?_
                    refine Tr.pass rfl rfl rfl rfl rfl (by decide) ?_
                    refine Tr.pass rfl rfl rfl rfl rfl (by decide) ?_
                    refine Tr.pass rfl rfl rfl rfl rfl (by decide) ?_
                    refine Tr.pass rfl rfl rfl rfl rfl (by decide) ?_
                    refine Tr.val (wn rfl) rfl (fun _ _ h1 h2 => run_pickT (h1.ev rfl) (h1.ev rfl)) ?_
                    exact Tr.nil (Tr.fin0 (.cons rfl (.cons rfl (.cons rfl (.cons rfl (.cons rfl (.cons rfl (.cons rfl (.cons rfl (.cons rfl (.cons rfl .nil)))))))))) (.cons rfl .nil))
                · show Tr _ _ (LF [(0, (.slice Ap0_0 (p0).length cp0_0)), (1, (.int .i64 p1)), (12, (.slice Al238 (l238).length cl238)), (13, (.int .i64 (iF_shape_Gaps_L5 : Int))), (14, (.slice Au209_0 (xF_shape_Gaps_L5).length cu209_0)), (15, (.int .i64 x239)), (50, (.slice Ap0_0 (p0).length cp0_0)), (51, (.int .i64 (p0.length : Int))), (52, (.int .i64 (iF_shape_Gaps_L5 : Int))), (75, (.bool g242))]) (LE [(5, ow Al238 cl238 42 fl_TGap l238)]) _
                  refine Tr.nil (Tr.normThen ?_)
                  refine Tr.cond rfl H (fun H => ?_) (fun H => ?_)
                  · refine Tr.exit (Tr.exitThen (Tr.exitBlock (Tr.normThen ?_)))
                    refine Tr.region ?_
                    refine Tr.val (wn rfl) rfl (fun _ _ h1 h2 => run_move (h1.ev rfl)) ?_
                    refine Tr.val (wn rfl) rfl (fun _ _ h1 h2 => run_add (h1.ev rfl) (h1.ev rfl)) ?_
                    refine Tr.val (wn rfl) rfl (fun _ _ h1 h2 => run_assign (h1.ev rfl)) ?_
                    refine Tr.nil ?_
                    exact Tr.backThen leF_shape_Gaps_L6 (l238, (w64 (x239 + 1)), Al238, cl238) ⟨H, hl238⟩ (.cons rfl (.cons rfl (.cons rfl (.cons rfl (.cons rfl (.cons rfl (.cons rfl (.cons rfl (.cons rfl .nil))))))))) (.cons rfl .nil)
                  · refine Tr.skip (Tr.normThen ?_)
                    refine Tr.seq ?_
                    refine Tr.region ?_
                    refine Tr.val (wn rfl) rfl (fun _ _ h1 h2 => run_move (h1.ev rfl)) ?_
                    refine Tr.val (wn rfl) rfl (fun _ _ h1 h2 => run_move (h1.ev rfl)) ?_
                    refine Tr.val (wn rfl) rfl (fun _ _ h1 h2 => run_move (h1.ev rfl)) ?_
                    obtain ⟨x245, hx245, H⟩ := bnd H
                    obtain ⟨hx2450, hx2451, hx2452⟩ := idx_some hx245
                    obtain ⟨u246, hRu246, hoku246, hcu246⟩ := (hp0_0).el hx2452
                    obtain ⟨Au246_0, cu246_0⟩ := u246
                    have hoku246_0 := hoku246
                    replace hoku246_0 : Sl w.R w.W fl_TRect Au246_0 cu246_0 x245 := hoku246_0
                    refine Tr.val (wn rfl) rfl (fun _ _ h1 h2 => run_indexAddr el_40 (h1.ev rfl) hp0_0.form (h1.ev rfl) hx2450 hx2451) ?_
                    refine Tr.val (wn rfl) rfl (fun _ _ h1 h2 => run_load1 ag_22 (h1.ev rfl) (rdR hRu246 hcu246 h2) rfl) ?_
                    obtain ⟨y247, hy247, H⟩ := bnd H
                    refine Tr.call0 (r := (.agg #[(.int .i64 y247.A), (.int .i64 y247.B), (.int .i64 y247.Distance), (.int .i64 y247.From.X), (.int .i64 y247.From.Y), (.int .i64 y247.To.X), (.int .i64 y247.To.Y)])) (wn rfl) rfl Try.call46 (evl_cons rfl (evl_cons rfl evl_nil)) (fun W hW => F_shape_GapOf_ok xF_shape_Gaps_L5 Au209_0 cu209_0 (hoku209_0.ext hW.extAll) x245 Au246_0 cu246_0 (hoku246_0.ext hW.extAll) y247 hy247 (HF.start _)) ?_
                    refine Tr.alloc 30 (wn rfl) rfl ze_42 fun b248 => ?_
                    refine Tr.store 30 (cs := [(.int .i64 y247.A), (.int .i64 y247.B), (.int .i64 y247.Distance), (.int .i64 y247.From.X), (.int .i64 y247.From.Y), (.int .i64 y247.To.X), (.int .i64 y247.To.Y)]) [(.int .i64 y247.A), (.int .i64 y247.B), (.int .i64 y247.Distance), (.int .i64 y247.From.X), (.int .i64 y247.From.Y), (.int .i64 y247.To.X), (.int .i64 y247.To.Y)] (wn rfl) rfl rfl rfl rfl sz_42 rfl rfl rfl ?_
                    refine Tr.nil (Tr.normThen ?_)
                    refine Tr.seq ?_
                    refine Tr.seq ?_
                    refine Tr.region ?_
                    refine Tr.val (wn rfl) rfl (fun _ _ h1 h2 => run_fieldAddr fo_42_2 (h1.ev rfl)) ?_
                    refine Tr.val (wn rfl) rfl (fun _ _ h1 h2 => run_load1 ag_3 (h1.ev rfl) (rdb h2 (vs := [(.int .i64 y247.A), (.int .i64 y247.B), (.int .i64 y247.Distance), (.int .i64 y247.From.X), (.int .i64 y247.From.Y), (.int .i64 y247.To.X), (.int .i64 y247.To.Y)]) (k := 30) rfl 2) rfl) ?_
                    refine Tr.val (wn rfl) rfl (fun _ _ h1 h2 => run_lss (h1.ev rfl) (h1.ev rfl)) ?_
                    refine Tr.nil (Tr.normThen ?_)
                    refine Tr.cond rfl H (fun H => ?_) (fun H => ?_)
                    · refine Tr.seq ?_
                      refine Tr.region ?_
                      refine Tr.val (wn rfl) rfl (fun _ _ h1 h2 => run_assign (h1.ev rfl)) ?_
                      refine Tr.nilOwn 31 42 fl_TGap ?_
                      show Tr _ _ (uf _ 4 (.slice none (([] : List TGap)).length 0)) _ _
                      refine Tr.val (wn rfl) rfl (fun _ _ h1 h2 => run_assign (h1.ev rfl)) ?_
                      refine Tr.nil (Tr.normThen ?_)
                      refine Tr.ret (Tr.retThen (Tr.retBlock (Tr.retThen (Tr.retThen (Tr.retBlock (Tr.retBlock (Tr.retThen (Tr.retThen (Tr.retBlock (Tr.retThen ?_))))))))))
                      obtain rfl := Option.some.inj H
                      exact Tr.out (m := [(.slice none (([] : List TGap)).length 0), (.int .i64 12)]) [] (res_tmp rfl (res_tmp rfl res_nil)) (fun W hW => ⟨(none, 0), rfl, slf_nil, HF.lowE leB (hW.pick (ks := [31]) (by decide) (pk_cons rfl pk_nil)) ⟨ow_any _ _ _ _ tr_TGap, trivial⟩⟩)
                    · refine Tr.skip (Tr.normThen ?_)
                      refine Tr.seq ?_
                      refine Tr.region ?_
                      refine Tr.val (wn rfl) rfl (fun _ _ h1 h2 => run_move (h1.ev rfl)) ?_
                      refine Tr.val (wn rfl) rfl (fun _ _ h1 h2 => run_move (h1.ev rfl)) ?_
                      refine Tr.val (wn rfl) rfl (fun _ _ h1 h2 => run_fieldAddr fo_42_0 (h1.ev rfl)) ?_
                      refine Tr.store 30 (cs := [(.int .i64 (iF_shape_Gaps_L5 : Int))]) [(.int .i64 (iF_shape_Gaps_L5 : Int)), (.int .i64 y247.B), (.int .i64 y247.Distance), (.int .i64 y247.From.X), (.int .i64 y247.From.Y), (.int .i64 y247.To.X), (.int .i64 y247.To.Y)] (wn rfl) rfl rfl rfl rfl sz_3 rfl rfl rfl ?_
                      refine Tr.val (wn rfl) rfl (fun _ _ h1 h2 => run_fieldAddr fo_42_1 (h1.ev rfl)) ?_
                      refine Tr.store 30 (cs := [(.int .i64 x239)]) [(.int .i64 (iF_shape_Gaps_L5 : Int)), (.int .i64 x239), (.int .i64 y247.Distance), (.int .i64 y247.From.X), (.int .i64 y247.From.Y), (.int .i64 y247.To.X), (.int .i64 y247.To.Y)] (wn rfl) rfl rfl rfl rfl sz_3 rfl rfl rfl ?_
                      refine Tr.nil (Tr.normThen ?_)
                      refine Tr.seq ?_
                      refine Tr.region ?_
                      refine Tr.val (wn rfl) rfl (fun _ _ h1 h2 => run_fieldAddr fo_42_2 (h1.ev rfl)) ?_
                      refine Tr.val (wn rfl) rfl (fun _ _ h1 h2 => run_load1 ag_3 (h1.ev rfl) (rdb h2 (vs := [(.int .i64 (iF_shape_Gaps_L5 : Int)), (.int .i64 x239), (.int .i64 y247.Distance), (.int .i64 y247.From.X), (.int .i64 y247.From.Y), (.int .i64 y247.To.X), (.int .i64 y247.To.Y)]) (k := 30) rfl 2) rfl) ?_
                      refine Tr.val (wn rfl) rfl (fun _ _ h1 h2 => run_move (h1.ev rfl)) ?_
                      refine Tr.val (wn rfl) rfl (fun _ _ h1 h2 => run_lss (h1.ev rfl) (h1.ev rfl)) ?_
                      refine Tr.nil (Tr.normThen ?_)
                      refine Tr.cond rfl H (fun H => ?_) (fun H => ?_)
                      · refine Tr.region ?_
                        refine Tr.val (wn rfl) rfl (fun _ _ h1 h2 => run_move (h1.ev rfl)) ?_
                        refine Tr.val (wn rfl) rfl (fun _ _ h1 h2 => run_loadN (cs := [(.int .i64 (iF_shape_Gaps_L5 : Int)), (.int .i64 x239), (.int .i64 y247.Distance), (.int .i64 y247.From.X), (.int .i64 y247.From.Y), (.int .i64 y247.To.X), (.int .i64 y247.To.Y)]) ag_42 sz_42 (h1.ev rfl) (CellsAt.take (rdb h2 (vs := [(.int .i64 (iF_shape_Gaps_L5 : Int)), (.int .i64 x239), (.int .i64 y247.Distance), (.int .i64 y247.From.X), (.int .i64 y247.From.Y), (.int .i64 y247.To.X), (.int .i64 y247.To.Y)]) (k := 30) rfl 0) 7) rfl) ?_
                        refine Tr.buildSlice 32 (e := 42) (vs := [(0, (.agg #[(.int .i64 (iF_shape_Gaps_L5 : Int)), (.int .i64 x239), (.int .i64 y247.Distance), (.int .i64 y247.From.X), (.int .i64 y247.From.Y), (.int .i64 y247.To.X), (.int .i64 y247.To.Y)]))]) (cs := [(.int .i64 (iF_shape_Gaps_L5 : Int)), (.int .i64 x239), (.int .i64 y247.Distance), (.int .i64 y247.From.X), (.int .i64 y247.From.Y), (.int .i64 y247.To.X), (.int .i64 y247.To.Y)]) (wn rfl) rfl (evs_cons rfl evs_nil) (by kernel_rfl) fun b249 => ?_
                        obtain ⟨l250, hl250, H⟩ := bnd H
                        refine Tr.append 5 (t := fl_TGap) (l := l238) (l2 := [(TGap.mk (iF_shape_Gaps_L5 : Int) x239 y247.Distance y247.From y247.To)]) (wn rfl) rfl rfl rfl rfl (fun W hW => ⟨[[(.int .i64 (iF_shape_Gaps_L5 : Int)), (.int .i64 x239), (.int .i64 y247.Distance), (.int .i64 y247.From.X), (.int .i64 y247.From.Y), (.int .i64 y247.To.X), (.int .i64 y247.To.Y)]], (.cons ⟨(), trivial, rfl⟩ .nil), rdb hW (vs := [(.int .i64 (iF_shape_Gaps_L5 : Int)), (.int .i64 x239), (.int .i64 y247.Distance), (.int .i64 y247.From.X), (.int .i64 y247.From.Y), (.int .i64 y247.To.X), (.int .i64 y247.To.Y)]) (k := 32) rfl 0⟩) un_37 sz_42 zl_42 (by decide) by_42 rfl hl250 fun Al250 cl250 hAl250 => ?_
                        refine Tr.val (wn rfl) rfl (fun _ _ h1 h2 => run_assign (h1.ev rfl)) ?_
                        refine Tr.nil (Tr.normBlock (Tr.normThen ?_))
                        refine Tr.region ?_
                        refine Tr.val (wn rfl) rfl (fun _ _ h1 h2 => run_move (h1.ev rfl)) ?_
                        refine Tr.val (wn rfl) rfl (fun _ _ h1 h2 => run_add (h1.ev rfl) (h1.ev rfl)) ?_
                        refine Tr.val (wn rfl) rfl (fun _ _ h1 h2 => run_assign (h1.ev rfl)) ?_
                        refine Tr.nil ?_
                        exact Tr.backThen leF_shape_Gaps_L6 (l250, (w64 (x239 + 1)), Al250, cl250) ⟨H, hAl250⟩ (.cons rfl (.cons rfl (.cons rfl (.cons rfl (.cons rfl (.cons rfl (.cons rfl (.cons rfl (.cons rfl .nil))))))))) (.cons rfl .nil)
                      · refine Tr.skip (Tr.normBlock (Tr.normThen ?_))
                        refine Tr.region ?_
                        refine Tr.val (wn rfl) rfl (fun _ _ h1 h2 => run_move (h1.ev rfl)) ?_
                        refine Tr.val (wn rfl) rfl (fun _ _ h1 h2 => run_add (h1.ev rfl) (h1.ev rfl)) ?_
                        refine Tr.val (wn rfl) rfl (fun _ _ h1 h2 => run_assign (h1.ev rfl)) ?_
                        refine Tr.nil ?_
                        exact Tr.backThen leF_shape_Gaps_L6 (l238, (w64 (x239 + 1)), Al238, cl238) ⟨H, hl238⟩ (.cons rfl (.cons rfl (.cons rfl (.cons rfl (.cons rfl (.cons rfl (.cons rfl (.cons rfl (.cons rfl .nil))))))))) (.cons rfl .nil)
              · refine Tr.exit (Tr.exitThen (Tr.exitThen (Tr.exitBlock (Tr.normBlock (Tr.normThen ?_)))))
                refine Tr.region ?_
                refine Tr.val (wn rfl) rfl (fun _ _ h1 h2 => run_add (h1.ev rfl) (h1.ev rfl)) ?_
                refine Tr.val (wn rfl) rfl (fun _ _ h1 h2 => run_move (h1.ev rfl)) ?_
                refine Tr.nil ?_
                exact Tr.backThen leF_shape_Gaps_L5 (restF_shape_Gaps_L5, (iF_shape_Gaps_L5 + 1), l238, Al238, cl238) ⟨rfl, range_tl hdF_shape_Gaps_L5, range_lt hdF_shape_Gaps_L5, H, hl238⟩ (.cons rfl (.cons rfl (.cons rfl (.cons rfl (.cons rfl (.cons (congrArg (fun z => some (Value.int .i64 z)) (range_up hdF_shape_Gaps_L5 hp0_0.form)) .nil)))))) (.cons rfl .nil)
        | cons xF_shape_Gaps_L2 restF_shape_Gaps_L2 =>
          rw [F_shape_Gaps_L2.eq_2] at H
          refine Tr.seq ?_
          refine Tr.region ?_
          refine Tr.val (wn rfl) rfl (fun _ _ h1 h2 => run_lss (h1.ev rfl) (h1.ev rfl)) ?_
          refine Tr.nil (Tr.normThen ?_)
          refine Tr.seq ?_
          refine Tr.condT rfl (range_on hdF_shape_Gaps_L2) ?_
          refine Tr.skip (Tr.normThen ?_)
          refine Tr.seq ?_
          refine Tr.block ?_
          refine Tr.seq ?_
          refine Tr.region ?_
          obtain ⟨u251, hRu251, hoku251, hcu251⟩ := (hp0_0).el (range_at hdF_shape_Gaps_L2)
          obtain ⟨Au251_0, cu251_0⟩ := u251
          have hoku251_0 := hoku251
          replace hoku251_0 : Sl w.R w.W fl_TRect Au251_0 cu251_0 xF_shape_Gaps_L2 := hoku251_0
          refine Tr.val (wn rfl) rfl (fun _ _ h1 h2 => run_indexAddr el_40 (h1.ev rfl) hp0_0.form (h1.ev rfl) (Int.natCast_nonneg _) (range_lt hdF_shape_Gaps_L2)) ?_
          refine Tr.val (wn rfl) rfl (fun _ _ h1 h2 => run_load1 ag_22 (h1.ev rfl) (rdR hRu251 hcu251 h2) rfl) ?_
          refine Tr.val (wn rfl) rfl (fun _ _ h1 h2 => run_assign (h1.ev rfl)) ?_
          refine Tr.nil (Tr.normThen ?_)
          refine Tr.seq ?_
          refine Tr.region ?_
          refine Tr.val (wn rfl) rfl (fun _ _ h1 h2 => run_move (h1.ev rfl)) ?_
          obtain ⟨y252, hy252, H⟩ := bnd H
          refine Tr.call0 (r := (.int .i64 y252)) (wn rfl) rfl Try.call18 (evl_cons rfl evl_nil) (fun W hW => F_shape_CheckRegion_ok N xF_shape_Gaps_L2 Au251_0 cu251_0 (hoku251_0.ext hW.extAll) y252 hy252 (HF.start _)) ?_
          refine Tr.val (wn rfl) rfl (fun _ _ h1 h2 => run_assign (h1.ev rfl)) ?_
          refine Tr.nil (Tr.normThen ?_)
          refine Tr.seq ?_
          refine Tr.region ?_
          refine Tr.val (wn rfl) rfl (fun _ _ h1 h2 => run_move (h1.ev rfl)) ?_
          refine Tr.val (wn rfl) rfl (fun _ _ h1 h2 => run_neq (h1.ev rfl) (h1.ev rfl)) ?_
          refine Tr.nil (Tr.normThen ?_)
          refine Tr.cond rfl H (fun H => ?_) (fun H => ?_)
          · refine Tr.seq ?_
            refine Tr.region ?_
            refine Tr.val (wn rfl) rfl (fun _ _ h1 h2 => run_move (h1.ev rfl)) ?_
            refine Tr.val (wn rfl) rfl (fun _ _ h1 h2 => run_assign (h1.ev rfl)) ?_
            refine Tr.nilOwn 33 42 fl_TGap ?_
            show Tr _ _ (uf _ 4 (.slice none (([] : List TGap)).length 0)) _ _
            refine Tr.val (wn rfl) rfl (fun _ _ h1 h2 => run_assign (h1.ev rfl)) ?_
            refine Tr.nil (Tr.normThen ?_)
            refine Tr.ret (Tr.retBlock (Tr.retThen (Tr.retThen (Tr.retBlock (Tr.retThen ?_)))))
            obtain rfl := Option.some.inj H
            exact Tr.out (m := [(.slice none (([] : List TGap)).length 0), (.int .i64 y252)]) [] (res_tmp rfl (res_tmp rfl res_nil)) (fun W hW => ⟨(none, 0), rfl, slf_nil, HF.lowE leB (hW.pick (ks := [33]) (by decide) (pk_cons rfl pk_nil)) ⟨ow_any _ _ _ _ tr_TGap, trivial⟩⟩)
          · refine Tr.skip (Tr.normBlock (Tr.normThen ?_))
            refine Tr.region ?_
            refine Tr.val (wn rfl) rfl (fun _ _ h1 h2 => run_add (h1.ev rfl) (h1.ev rfl)) ?_
            refine Tr.val (wn rfl) rfl (fun _ _ h1 h2 => run_move (h1.ev rfl)) ?_
            refine Tr.nil ?_
            exact Tr.backThen leF_shape_Gaps_L2 (restF_shape_Gaps_L2, (iF_shape_Gaps_L2 + 1)) ⟨rfl, range_tl hdF_shape_Gaps_L2, range_lt hdF_shape_Gaps_L2, H⟩ (.cons rfl (.cons rfl (.cons rfl (.cons rfl (.cons (congrArg (fun z => some (Value.int .i64 z)) (range_up hdF_shape_Gaps_L2 hp0_0.form)) .nil))))) .nil
  | cons xF_shape_Gaps_L1 restF_shape_Gaps_L1 =>
    rw [F_shape_Gaps_L1.eq_2] at H
    refine Tr.seq ?_
    refine Tr.region ?_
    refine Tr.val (wn rfl) rfl (fun _ _ h1 h2 => run_lss (h1.ev rfl) (h1.ev rfl)) ?_
    refine Tr.nil (Tr.normThen ?_)
    refine Tr.seq ?_
    refine Tr.condT rfl (range_on hdF_shape_Gaps_L1) ?_
    refine Tr.skip (Tr.normThen ?_)
    refine Tr.seq ?_
    refine Tr.block ?_
    refine Tr.seq ?_
    refine Tr.region ?_
    obtain ⟨u253, hRu253, hoku253, hcu253⟩ := (hp0_0).el (range_at hdF_shape_Gaps_L1)
    obtain ⟨Au253_0, cu253_0⟩ := u253
    have hoku253_0 := hoku253
    replace hoku253_0 : Sl w.R w.W fl_TRect Au253_0 cu253_0 xF_shape_Gaps_L1 := hoku253_0
    refine Tr.val (wn rfl) rfl (fun _ _ h1 h2 => run_indexAddr el_40 (h1.ev rfl) hp0_0.form (h1.ev rfl) (Int.natCast_nonneg _) (range_lt hdF_shape_Gaps_L1)) ?_
    refine Tr.val (wn rfl) rfl (fun _ _ h1 h2 => run_load1 ag_22 (h1.ev rfl) (rdR hRu253 hcu253 h2) rfl) ?_
    refine Tr.val (wn rfl) rfl (fun _ _ h1 h2 => run_assign (h1.ev rfl)) ?_
    refine Tr.nil (Tr.normThen ?_)
    refine Tr.region ?_
    refine Tr.val (wn rfl) rfl (fun _ _ h1 h2 => run_move (h1.ev rfl)) ?_
    refine Tr.val (wn rfl) rfl (fun _ _ h1 h2 => run_move (h1.ev rfl)) ?_
    refine Tr.val (wn rfl) rfl (fun _ _ h1 h2 => run_len un_22 (h1.ev rfl)) ?_
    refine Tr.val (wn rfl) rfl (fun _ _ h1 h2 => run_add (h1.ev rfl) (h1.ev rfl)) ?_
    refine Tr.val (wn rfl) rfl (fun _ _ h1 h2 => run_assign (h1.ev rfl)) ?_
    refine Tr.nil (Tr.normBlock (Tr.normThen ?_))
    refine Tr.region ?_
    refine Tr.val (wn rfl) rfl (fun _ _ h1 h2 => run_add (h1.ev rfl) (h1.ev rfl)) ?_
    refine Tr.val (wn rfl) rfl (fun _ _ h1 h2 => run_move (h1.ev rfl)) ?_
    refine Tr.nil ?_
    exact Tr.backThen leF_shape_Gaps_L1 (restF_shape_Gaps_L1, (iF_shape_Gaps_L1 + 1), (w64 (x110 + (xF_shape_Gaps_L1.length : Int)))) ⟨rfl, range_tl hdF_shape_Gaps_L1, range_lt hdF_shape_Gaps_L1, H⟩ (.cons rfl (.cons rfl (.cons rfl (.cons rfl (.cons rfl (.cons (congrArg (fun z => some (Value.int .i64 z)) (range_up hdF_shape_Gaps_L1 hp0_0.form)) .nil)))))) .nil

end Go.Proofs.Ytnlhigfglfahiaa
