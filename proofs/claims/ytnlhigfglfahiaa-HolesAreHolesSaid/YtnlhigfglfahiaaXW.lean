/- The walks: each function computes its plain function. -/
import Derived.Test.YtnlhigfglfahiaaXWb
namespace Go.Proofs.Ytnlhigfglfahiaa
open Go.RowKit
set_option maxRecDepth 100000
set_option maxHeartbeats 1000000
theorem F_shape_two__And_ok (N : Nat) {w : Bs} (p0 : (List TRect)) (Ap0_0 : Option Addr) (cp0_0 : Nat) (hp0_0 : Sl w.R w.W fl_TRect Ap0_0 cp0_0 p0) (p1 : (List TRect)) (Ap1_0 : Option Addr) (cp1_0 : Nat) (hp1_0 : Sl w.R w.W fl_TRect Ap1_0 cp1_0 p1) (r : ((List TRect) × Int)) (H : F_shape_two__And N p0 p1 = some r) (hE : HF w w.W (LEn [emp])) : Calls Try.prog 42 [(.slice Ap0_0 (p0).length cp0_0), (.slice Ap1_0 (p1).length cp1_0), (.func (.func 43) #[] #[])].toArray w.W fun e W' => ∃ u : (Option Addr × Nat), e = .returned (.tuple #[(.slice u.1 (r.1).length u.2), (.int .i64 r.2)]) ∧ (SlF u.1 (r.1).length u.2) ∧ HF w W' (LEn [ow u.1 u.2 29 fl_TRect r.1]) := by
  unfold F_shape_two__And at H
  have leB := Bs.Le.refl w
  refine Tr.enter (n := 29) Try.func42 rfl rfl rfl hE ?_
  refine Tr.seq ?_
  refine Tr.region ?_
  refine Tr.val (wn rfl) rfl (fun _ _ h1 h2 => run_assign (h1.ev rfl)) ?_
  refine Tr.nilOwn 1 29 fl_TRect ?_
  show Tr _ _ (uf _ 6 (.slice none (([] : List TRect)).length 0)) _ _
  refine Tr.val (wn rfl) rfl (fun _ _ h1 h2 => run_assign (h1.ev rfl)) ?_
  refine Tr.nil (Tr.normThen ?_)
  refine Tr.seq ?_
  refine Tr.seq ?_
  refine Tr.region ?_
  refine Tr.val (wn rfl) rfl (fun _ _ h1 h2 => run_move (h1.ev rfl)) ?_
  obtain ⟨y100, hy100, H⟩ := bnd H
  refine Tr.call0 (r := (.int .i64 y100)) (wn rfl) rfl Try.call18 (evl_cons rfl evl_nil) (fun W hW => F_shape_CheckRegion_ok N p0 Ap0_0 cp0_0 (hp0_0.ext hW.extAll) y100 hy100 (HF.start _)) ?_
  refine Tr.val (wn rfl) rfl (fun _ _ h1 h2 => run_assign (h1.ev rfl)) ?_
  refine Tr.nil (Tr.normThen ?_)
  refine Tr.seq ?_
  refine Tr.region ?_
  refine Tr.val (wn rfl) rfl (fun _ _ h1 h2 => run_move (h1.ev rfl)) ?_
  refine Tr.val (wn rfl) rfl (fun _ _ h1 h2 => run_neq (h1.ev rfl) (h1.ev rfl)) ?_
  refine Tr.nil (Tr.normThen ?_)
  refine Tr.cond rfl H (fun H => ?_) (fun H => ?_)
  · refine Tr.seq ?_
    refine Tr.region ?_
    refine Tr.val (wn rfl) rfl (fun _ _ h1 h2 => run_move (h1.ev rfl)) ?_
    refine Tr.val (wn rfl) rfl (fun _ _ h1 h2 => run_assign (h1.ev rfl)) ?_
    refine Tr.nilOwn 2 29 fl_TRect ?_
    show Tr _ _ (uf _ 6 (.slice none (([] : List TRect)).length 0)) _ _
    refine Tr.val (wn rfl) rfl (fun _ _ h1 h2 => run_assign (h1.ev rfl)) ?_
    refine Tr.nil (Tr.normThen ?_)
    refine Tr.ret (Tr.retThen ?_)
    obtain rfl := Option.some.inj H
    exact Tr.out (m := [(.slice none (([] : List TRect)).length 0), (.int .i64 y100)]) [] (res_tmp rfl (res_tmp rfl res_nil)) (fun W hW => ⟨(none, 0), rfl, slf_nil, HF.lowE leB (hW.pick (ks := [2]) (by decide) (pk_cons rfl pk_nil)) ⟨ow_any _ _ _ _ tr_TRect, trivial⟩⟩)
  · refine Tr.skip (Tr.normThen ?_)
    refine Tr.seq ?_
    refine Tr.seq ?_
    refine Tr.region ?_
    refine Tr.val (wn rfl) rfl (fun _ _ h1 h2 => run_move (h1.ev rfl)) ?_
    obtain ⟨y101, hy101, H⟩ := bnd H
    refine Tr.call0 (r := (.int .i64 y101)) (wn rfl) rfl Try.call18 (evl_cons rfl evl_nil) (fun W hW => F_shape_CheckRegion_ok N p1 Ap1_0 cp1_0 (hp1_0.ext hW.extAll) y101 hy101 (HF.start _)) ?_
    refine Tr.val (wn rfl) rfl (fun _ _ h1 h2 => run_assign (h1.ev rfl)) ?_
    refine Tr.nil (Tr.normThen ?_)
    refine Tr.seq ?_
    refine Tr.region ?_
    refine Tr.val (wn rfl) rfl (fun _ _ h1 h2 => run_move (h1.ev rfl)) ?_
    refine Tr.val (wn rfl) rfl (fun _ _ h1 h2 => run_neq (h1.ev rfl) (h1.ev rfl)) ?_
    refine Tr.nil (Tr.normThen ?_)
    refine Tr.cond rfl H (fun H => ?_) (fun H => ?_)
    · refine Tr.seq ?_
      refine Tr.region ?_
      refine Tr.val (wn rfl) rfl (fun _ _ h1 h2 => run_move (h1.ev rfl)) ?_
      refine Tr.val (wn rfl) rfl (fun _ _ h1 h2 => run_assign (h1.ev rfl)) ?_
      refine Tr.nilOwn 3 29 fl_TRect ?_
      show Tr _ _ (uf _ 6 (.slice none (([] : List TRect)).length 0)) _ _
      refine Tr.val (wn rfl) rfl (fun _ _ h1 h2 => run_assign (h1.ev rfl)) ?_
      refine Tr.nil (Tr.normThen ?_)
      refine Tr.ret (Tr.retThen ?_)
      obtain rfl := Option.some.inj H
      exact Tr.out (m := [(.slice none (([] : List TRect)).length 0), (.int .i64 y101)]) [] (res_tmp rfl (res_tmp rfl res_nil)) (fun W hW => ⟨(none, 0), rfl, slf_nil, HF.lowE leB (hW.pick (ks := [3]) (by decide) (pk_cons rfl pk_nil)) ⟨ow_any _ _ _ _ tr_TRect, trivial⟩⟩)
    · refine Tr.skip (Tr.normThen ?_)
      refine Tr.seq ?_
      refine Tr.region ?_
      refine Tr.val (wn rfl) rfl (fun _ _ h1 h2 => run_move (h1.ev rfl)) ?_
      refine Tr.val (wn rfl) rfl (fun _ _ h1 h2 => run_move (h1.ev rfl)) ?_
      obtain ⟨y102, hy102, H⟩ := bnd H
      refine Tr.callG [4] [emp] (U := (Option Addr × Nat)) (fun u => (.slice u.1 (y102).length u.2)) (fun O W u => SlF u.1 (y102).length u.2) (fun u => [ow u.1 u.2 104 fl_TBand y102]) rfl (pk_cons rfl pk_nil) (fun _ => rfl) (wn rfl) rfl Try.call40 (evl_cons rfl evl_nil) (fun W hW hp hE => F_shape_SetOf_ok N p0 Ap0_0 cp0_0 (hp0_0.ext (hW.extS hp)) y102 hy102 hE) ?_
      intro w u le103 hu
      obtain ⟨Ay102_0, cy102_0⟩ := u
      have gy102_0 := hu
      replace hp0_0 := hp0_0.leR le103
      replace hp1_0 := hp1_0.leR le103
      replace leB := leB.trans le103
      have hgy102_0 : SlF Ay102_0 (y102).length cy102_0 := gy102_0 --@phi
      show Tr _ _ (uf _ 22 (.slice Ay102_0 (y102).length cy102_0)) (up _ 4 (ow Ay102_0 cy102_0 104 fl_TBand y102)) _
      refine Tr.val (wn rfl) rfl (fun _ _ h1 h2 => run_move (h1.ev rfl)) ?_
      obtain ⟨y104, hy104, H⟩ := bnd H
      refine Tr.callG [5] [emp] (U := (Option Addr × Nat)) (fun u => (.slice u.1 (y104).length u.2)) (fun O W u => SlF u.1 (y104).length u.2) (fun u => [ow u.1 u.2 104 fl_TBand y104]) rfl (pk_cons rfl pk_nil) (fun _ => rfl) (wn rfl) rfl Try.call40 (evl_cons rfl evl_nil) (fun W hW hp hE => F_shape_SetOf_ok N p1 Ap1_0 cp1_0 (hp1_0.ext (hW.extS hp)) y104 hy104 hE) ?_
      intro w u le105 hu
      obtain ⟨Ay104_0, cy104_0⟩ := u
      have gy104_0 := hu
      replace hp0_0 := hp0_0.leR le105
      replace hp1_0 := hp1_0.leR le105
      replace leB := leB.trans le105
      have hgy104_0 : SlF Ay104_0 (y104).length cy104_0 := gy104_0 --@phi
      show Tr _ _ (uf _ 24 (.slice Ay104_0 (y104).length cy104_0)) (up _ 5 (ow Ay104_0 cy104_0 104 fl_TBand y104)) _
      refine Tr.freeze 4 rfl fun w le107 hz106 => ?_
      replace hp0_0 := hp0_0.leR le107
      replace hp1_0 := hp1_0.leR le107
      replace leB := leB.trans le107
      refine Tr.freeze 5 rfl fun w le109 hz108 => ?_
      replace hp0_0 := hp0_0.leR le109
      replace hp1_0 := hp1_0.leR le109
      replace hz106 := hz106.le le109
      replace leB := leB.trans le109
      obtain ⟨y110, hy110, H⟩ := bnd H
      refine Tr.callGV [6] [emp] (U := (Option Addr × Nat)) (fun u => (.slice u.1 (y110).length u.2)) (fun O W u => SlF u.1 (y110).length u.2) (fun u => [ow u.1 u.2 104 fl_TBand y110]) rfl (pk_cons rfl pk_nil) (fun _ => rfl) (wn rfl) rfl rfl Try.call43 (evl_cons rfl (evl_cons rfl evl_nil)) (fun W hW hp hE => F_shape_Set__And_ok N y102 Ay102_0 cy102_0 (hz106.extO (hW.extS hp)) y104 Ay104_0 cy104_0 (hz108.extO (hW.extS hp)) y110 hy110 hE) ?_
      intro w u le111 hu
      obtain ⟨Ay110_0, cy110_0⟩ := u
      have gy110_0 := hu
      replace hp0_0 := hp0_0.leR le111
      replace hp1_0 := hp1_0.leR le111
      replace hz106 := hz106.le le111
      replace hz108 := hz108.le le111
      replace leB := leB.trans le111
      have hgy110_0 : SlF Ay110_0 (y110).length cy110_0 := gy110_0 --@phi
      show Tr _ _ (uf _ 25 (.slice Ay110_0 (y110).length cy110_0)) (up _ 6 (ow Ay110_0 cy110_0 104 fl_TBand y110)) _
      obtain ⟨y112, hy112, H⟩ := bnd H
      refine Tr.callM [7] [emp] (U := (Option Addr × Nat)) (fun u => (.tuple #[(.slice u.1 (y112.1).length u.2), (.int .i64 y112.2)])) (fun u => SlF u.1 (y112.1).length u.2) (fun u => [ow u.1 u.2 29 fl_TRect y112.1]) rfl (pk_cons rfl pk_nil) (fun _ => rfl) (wn rfl) rfl Try.call48 (evl_cons rfl evl_nil) (fun W hW hp hE => F_shape_Set__Told_ok N y110 Ay110_0 cy110_0 (hW.slS (k := 6) rfl hp rfl) y112 hy112 hE) ?_
      intro u hu
      obtain ⟨Ay112_0, cy112_0⟩ := u
      have gy112_0 := hu
      have hgy112_0 : SlF Ay112_0 (y112.1).length cy112_0 := gy112_0 --@phi
      show Tr _ _ (uf _ 26 (.tuple #[(.slice Ay112_0 (y112.1).length cy112_0), (.int .i64 y112.2)])) (up _ 7 (ow Ay112_0 cy112_0 29 fl_TRect y112.1)) _
      refine Tr.val (wn rfl) rfl (fun _ _ h1 h2 => run_extract (h1.ev rfl) rfl) ?_
      refine Tr.val (wn rfl) rfl (fun _ _ h1 h2 => run_extract (h1.ev rfl) rfl) ?_
      refine Tr.val (wn rfl) rfl (fun _ _ h1 h2 => run_assign (h1.ev rfl)) ?_
      refine Tr.val (wn rfl) rfl (fun _ _ h1 h2 => run_assign (h1.ev rfl)) ?_
      refine Tr.nil (Tr.normThen ?_)
      refine Tr.ret ?_
      obtain rfl := Option.some.inj H
      exact Tr.out (m := [(.slice Ay112_0 (y112.1).length cy112_0), (.int .i64 y112.2)]) [] (res_tmp rfl (res_tmp rfl res_nil)) (fun W hW => ⟨(Ay112_0, cy112_0), rfl, hgy112_0, HF.lowE leB (hW.pick (ks := [7]) (by decide) (pk_cons rfl pk_nil)) ⟨ow_any _ _ _ _ tr_TRect, trivial⟩⟩)

theorem F_shape_Both_ok (N : Nat) {w : Bs} (p0 : (List TRect)) (Ap0_0 : Option Addr) (cp0_0 : Nat) (hp0_0 : Sl w.R w.W fl_TRect Ap0_0 cp0_0 p0) (p1 : (List TRect)) (Ap1_0 : Option Addr) (cp1_0 : Nat) (hp1_0 : Sl w.R w.W fl_TRect Ap1_0 cp1_0 p1) (r : ((List TRect) × Int)) (H : F_shape_Both N p0 p1 = some r) (hE : HF w w.W (LEn [emp])) : Calls Try.prog 19 [(.slice Ap0_0 (p0).length cp0_0), (.slice Ap1_0 (p1).length cp1_0)].toArray w.W fun e W' => ∃ u : (Option Addr × Nat), e = .returned (.tuple #[(.slice u.1 (r.1).length u.2), (.int .i64 r.2)]) ∧ (SlF u.1 (r.1).length u.2) ∧ HF w W' (LEn [ow u.1 u.2 29 fl_TRect r.1]) := by
  unfold F_shape_Both at H
  have leB := Bs.Le.refl w
  refine Tr.enter (n := 11) Try.func19 rfl rfl rfl hE ?_
  refine Tr.seq ?_
  refine Tr.region ?_
  refine Tr.val (wn rfl) rfl (fun _ _ h1 h2 => run_assign (h1.ev rfl)) ?_
  refine Tr.nilOwn 1 29 fl_TRect ?_
  show Tr _ _ (uf _ 4 (.slice none (([] : List TRect)).length 0)) _ _
  refine Tr.val (wn rfl) rfl (fun _ _ h1 h2 => run_assign (h1.ev rfl)) ?_
  refine Tr.nil (Tr.normThen ?_)
  refine Tr.seq ?_
  refine Tr.region ?_
  refine Tr.val (wn rfl) rfl (fun _ _ h1 h2 => run_move (h1.ev rfl)) ?_
  refine Tr.val (wn rfl) rfl (fun _ _ h1 h2 => run_move (h1.ev rfl)) ?_
  obtain ⟨y100, hy100, H⟩ := bnd H
  refine Tr.callM [2] [emp] (U := (Option Addr × Nat)) (fun u => (.tuple #[(.slice u.1 (y100.1).length u.2), (.int .i64 y100.2)])) (fun u => SlF u.1 (y100.1).length u.2) (fun u => [ow u.1 u.2 29 fl_TRect y100.1]) rfl (pk_cons rfl pk_nil) (fun _ => rfl) (wn rfl) rfl Try.call42 (evl_cons rfl (evl_cons rfl (evl_cons rfl evl_nil))) (fun W hW hp hE => F_shape_two__And_ok N p0 Ap0_0 cp0_0 (hp0_0.ext (hW.extS hp)) p1 Ap1_0 cp1_0 (hp1_0.ext (hW.extS hp)) y100 hy100 hE) ?_
  intro u hu
  obtain ⟨Ay100_0, cy100_0⟩ := u
  have gy100_0 := hu
  have hgy100_0 : SlF Ay100_0 (y100.1).length cy100_0 := gy100_0 --@phi
  show Tr _ _ (uf _ 8 (.tuple #[(.slice Ay100_0 (y100.1).length cy100_0), (.int .i64 y100.2)])) (up _ 2 (ow Ay100_0 cy100_0 29 fl_TRect y100.1)) _
  refine Tr.val (wn rfl) rfl (fun _ _ h1 h2 => run_extract (h1.ev rfl) rfl) ?_
  refine Tr.val (wn rfl) rfl (fun _ _ h1 h2 => run_extract (h1.ev rfl) rfl) ?_
  refine Tr.val (wn rfl) rfl (fun _ _ h1 h2 => run_assign (h1.ev rfl)) ?_
  refine Tr.val (wn rfl) rfl (fun _ _ h1 h2 => run_assign (h1.ev rfl)) ?_
  refine Tr.nil (Tr.normThen ?_)
  refine Tr.ret ?_
  obtain rfl := Option.some.inj H
  exact Tr.out (m := [(.slice Ay100_0 (y100.1).length cy100_0), (.int .i64 y100.2)]) [] (res_tmp rfl (res_tmp rfl res_nil)) (fun W hW => ⟨(Ay100_0, cy100_0), rfl, hgy100_0, HF.lowE leB (hW.pick (ks := [2]) (by decide) (pk_cons rfl pk_nil)) ⟨ow_any _ _ _ _ tr_TRect, trivial⟩⟩)

theorem F_shape_Region_ok (N : Nat) {w : Bs} (p0 : (List TRect)) (Ap0_0 : Option Addr) (cp0_0 : Nat) (hp0_0 : Sl w.R w.W fl_TRect Ap0_0 cp0_0 p0) (r : ((List TRect) × Int)) (H : F_shape_Region N p0 = some r) (hE : HF w w.W (LEn [emp])) : Calls Try.prog 24 [(.slice Ap0_0 (p0).length cp0_0)].toArray w.W fun e W' => ∃ u : (Option Addr × Nat), e = .returned (.tuple #[(.slice u.1 (r.1).length u.2), (.int .i64 r.2)]) ∧ (SlF u.1 (r.1).length u.2) ∧ HF w W' (LEn [ow u.1 u.2 29 fl_TRect r.1]) := by
  unfold F_shape_Region at H
  have leB := Bs.Le.refl w
  refine Tr.enter (n := 15) Try.func24 rfl rfl rfl hE ?_
  refine Tr.seq ?_
  refine Tr.region ?_
  refine Tr.val (wn rfl) rfl (fun _ _ h1 h2 => run_assign (h1.ev rfl)) ?_
  refine Tr.nilOwn 1 29 fl_TRect ?_
  show Tr _ _ (uf _ 2 (.slice none (([] : List TRect)).length 0)) _ _
  refine Tr.val (wn rfl) rfl (fun _ _ h1 h2 => run_assign (h1.ev rfl)) ?_
  refine Tr.nil (Tr.normThen ?_)
  refine Tr.seq ?_
  refine Tr.seq ?_
  refine Tr.region ?_
  refine Tr.val (wn rfl) rfl (fun _ _ h1 h2 => run_move (h1.ev rfl)) ?_
  obtain ⟨y100, hy100, H⟩ := bnd H
  refine Tr.call0 (r := (.int .i64 y100)) (wn rfl) rfl Try.call39 (evl_cons rfl evl_nil) (fun W hW => F_shape_CheckRects_ok p0 Ap0_0 cp0_0 (hp0_0.ext hW.extAll) y100 hy100 (HF.start _)) ?_
  refine Tr.val (wn rfl) rfl (fun _ _ h1 h2 => run_assign (h1.ev rfl)) ?_
  refine Tr.nil (Tr.normThen ?_)
  refine Tr.seq ?_
  refine Tr.region ?_
  refine Tr.val (wn rfl) rfl (fun _ _ h1 h2 => run_move (h1.ev rfl)) ?_
  refine Tr.val (wn rfl) rfl (fun _ _ h1 h2 => run_neq (h1.ev rfl) (h1.ev rfl)) ?_
  refine Tr.nil (Tr.normThen ?_)
  refine Tr.cond rfl H (fun H => ?_) (fun H => ?_)
  · refine Tr.seq ?_
    refine Tr.region ?_
    refine Tr.val (wn rfl) rfl (fun _ _ h1 h2 => run_move (h1.ev rfl)) ?_
    refine Tr.val (wn rfl) rfl (fun _ _ h1 h2 => run_assign (h1.ev rfl)) ?_
    refine Tr.nilOwn 2 29 fl_TRect ?_
    show Tr _ _ (uf _ 2 (.slice none (([] : List TRect)).length 0)) _ _
    refine Tr.val (wn rfl) rfl (fun _ _ h1 h2 => run_assign (h1.ev rfl)) ?_
    refine Tr.nil (Tr.normThen ?_)
    refine Tr.ret (Tr.retThen ?_)
    obtain rfl := Option.some.inj H
    exact Tr.out (m := [(.slice none (([] : List TRect)).length 0), (.int .i64 y100)]) [] (res_tmp rfl (res_tmp rfl res_nil)) (fun W hW => ⟨(none, 0), rfl, slf_nil, HF.lowE leB (hW.pick (ks := [2]) (by decide) (pk_cons rfl pk_nil)) ⟨ow_any _ _ _ _ tr_TRect, trivial⟩⟩)
  · refine Tr.skip (Tr.normThen ?_)
    refine Tr.seq ?_
    refine Tr.region ?_
    refine Tr.val (wn rfl) rfl (fun _ _ h1 h2 => run_move (h1.ev rfl)) ?_
    obtain ⟨y101, hy101, H⟩ := bnd H
    refine Tr.callG [3] [emp] (U := (Option Addr × Nat)) (fun u => (.slice u.1 (y101).length u.2)) (fun O W u => SlF u.1 (y101).length u.2) (fun u => [ow u.1 u.2 104 fl_TBand y101]) rfl (pk_cons rfl pk_nil) (fun _ => rfl) (wn rfl) rfl Try.call40 (evl_cons rfl evl_nil) (fun W hW hp hE => F_shape_SetOf_ok N p0 Ap0_0 cp0_0 (hp0_0.ext (hW.extS hp)) y101 hy101 hE) ?_
    intro w u le102 hu
    obtain ⟨Ay101_0, cy101_0⟩ := u
    have gy101_0 := hu
    replace hp0_0 := hp0_0.leR le102
    replace leB := leB.trans le102
    have hgy101_0 : SlF Ay101_0 (y101).length cy101_0 := gy101_0 --@phi
    show Tr _ _ (uf _ 11 (.slice Ay101_0 (y101).length cy101_0)) (up _ 3 (ow Ay101_0 cy101_0 104 fl_TBand y101)) _
    obtain ⟨y103, hy103, H⟩ := bnd H
    refine Tr.callM [4] [emp] (U := (Option Addr × Nat)) (fun u => (.tuple #[(.slice u.1 (y103.1).length u.2), (.int .i64 y103.2)])) (fun u => SlF u.1 (y103.1).length u.2) (fun u => [ow u.1 u.2 29 fl_TRect y103.1]) rfl (pk_cons rfl pk_nil) (fun _ => rfl) (wn rfl) rfl Try.call48 (evl_cons rfl evl_nil) (fun W hW hp hE => F_shape_Set__Told_ok N y101 Ay101_0 cy101_0 (hW.slS (k := 3) rfl hp rfl) y103 hy103 hE) ?_
    intro u hu
    obtain ⟨Ay103_0, cy103_0⟩ := u
    have gy103_0 := hu
    have hgy103_0 : SlF Ay103_0 (y103.1).length cy103_0 := gy103_0 --@phi
    show Tr _ _ (uf _ 12 (.tuple #[(.slice Ay103_0 (y103.1).length cy103_0), (.int .i64 y103.2)])) (up _ 4 (ow Ay103_0 cy103_0 29 fl_TRect y103.1)) _
    refine Tr.val (wn rfl) rfl (fun _ _ h1 h2 => run_extract (h1.ev rfl) rfl) ?_
    refine Tr.val (wn rfl) rfl (fun _ _ h1 h2 => run_extract (h1.ev rfl) rfl) ?_
    refine Tr.val (wn rfl) rfl (fun _ _ h1 h2 => run_assign (h1.ev rfl)) ?_
    refine Tr.val (wn rfl) rfl (fun _ _ h1 h2 => run_assign (h1.ev rfl)) ?_
    refine Tr.nil (Tr.normThen ?_)
    refine Tr.ret ?_
    obtain rfl := Option.some.inj H
    exact Tr.out (m := [(.slice Ay103_0 (y103.1).length cy103_0), (.int .i64 y103.2)]) [] (res_tmp rfl (res_tmp rfl res_nil)) (fun W hW => ⟨(Ay103_0, cy103_0), rfl, hgy103_0, HF.lowE leB (hW.pick (ks := [4]) (by decide) (pk_cons rfl pk_nil)) ⟨ow_any _ _ _ _ tr_TRect, trivial⟩⟩)

theorem F_etchhouselaw1_HolesAreHoles_ok (N : Nat) {w : Bs} (p0 : (List TRect)) (Ap0_0 : Option Addr) (cp0_0 : Nat) (hp0_0 : Sl w.R w.W fl_TRect Ap0_0 cp0_0 p0) (r : Bool) (H : F_etchhouselaw1_HolesAreHoles N p0 = some r) (hE : HF w w.W E0) : Calls Try.prog 8 [(.slice Ap0_0 (p0).length cp0_0)].toArray w.W fun e W' => e = .returned (.bool r) ∧ HF w W' E0 := by
  unfold F_etchhouselaw1_HolesAreHoles at H
  have leB := Bs.Le.refl w
  refine Tr.enter (n := 97) Try.func8 rfl rfl rfl hE ?_
  refine Tr.seq ?_
  refine Tr.region ?_
  refine Tr.val (wn rfl) rfl (fun _ _ h1 h2 => run_assign (h1.ev rfl)) ?_
  refine Tr.nil (Tr.normThen ?_)
  refine Tr.seq ?_
  refine Tr.region ?_
  refine Tr.val (wn rfl) rfl (fun _ _ h1 h2 => run_move (h1.ev rfl)) ?_
  obtain ⟨y100, hy100, H⟩ := bnd H
  refine Tr.callG [1] [emp] (U := (Option Addr × Nat)) (fun u => (.tuple #[(.slice u.1 (y100.1).length u.2), (.int .i64 y100.2)])) (fun O W u => SlF u.1 (y100.1).length u.2) (fun u => [ow u.1 u.2 22 fl_LTRect y100.1]) rfl (pk_cons rfl pk_nil) (fun _ => rfl) (wn rfl) rfl Try.call26 (evl_cons rfl evl_nil) (fun W hW hp hE => F_shape_Holes_ok N p0 Ap0_0 cp0_0 (hp0_0.ext (hW.extS hp)) y100 hy100 hE) ?_
  intro w u le101 hu
  obtain ⟨Ay100_0, cy100_0⟩ := u
  have gy100_0 := hu
  replace hp0_0 := hp0_0.leR le101
  replace leB := leB.trans le101
  have hgy100_0 : SlF Ay100_0 (y100.1).length cy100_0 := gy100_0 --@phi
  show Tr _ _ (uf _ 14 (.tuple #[(.slice Ay100_0 (y100.1).length cy100_0), (.int .i64 y100.2)])) (up _ 1 (ow Ay100_0 cy100_0 22 fl_LTRect y100.1)) _
  refine Tr.val (wn rfl) rfl (fun _ _ h1 h2 => run_move (h1.ev rfl)) ?_
  refine Tr.val (wn rfl) rfl (fun _ _ h1 h2 => run_extract (h1.ev rfl) rfl) ?_
  refine Tr.val (wn rfl) rfl (fun _ _ h1 h2 => run_extract (h1.ev rfl) rfl) ?_
  refine Tr.val (wn rfl) rfl (fun _ _ h1 h2 => run_assign (h1.ev rfl)) ?_
  refine Tr.val (wn rfl) rfl (fun _ _ h1 h2 => run_assign (h1.ev rfl)) ?_
  refine Tr.nil (Tr.normThen ?_)
  refine Tr.seq ?_
  refine Tr.seq ?_
  refine Tr.region ?_
  refine Tr.val (wn rfl) rfl (fun _ _ h1 h2 => run_move (h1.ev rfl)) ?_
  refine Tr.val (wn rfl) rfl (fun _ _ h1 h2 => run_neq (h1.ev rfl) (h1.ev rfl)) ?_
  refine Tr.nil (Tr.normThen ?_)
  refine Tr.cond rfl H (fun H => ?_) (fun H => ?_)
  · refine Tr.seq ?_
    refine Tr.region ?_
    refine Tr.val (wn rfl) rfl (fun _ _ h1 h2 => run_move (h1.ev rfl)) ?_
    refine Tr.val (wn rfl) rfl (fun _ _ h1 h2 => run_len un_40 (h1.ev rfl)) ?_
    refine Tr.val (wn rfl) rfl (fun _ _ h1 h2 => run_eql (h1.ev rfl) (h1.ev rfl)) ?_
    refine Tr.val (wn rfl) rfl (fun _ _ h1 h2 => run_move (h1.ev rfl)) ?_
    obtain ⟨g103, hg103, H⟩ := bnd H
    refine Tr.mid0 2 [(24, (.bool g103))] [(1, ow Ay100_0 cy100_0 22 fl_LTRect y100.1)] ?_ ?_
    · cases hg104 : ((y100.1.length : Int) == 0)
      · rw [hg104] at hg103
        rw [if_neg (by decide)] at hg103
        have H := hg103
        obtain rfl := Option.some.inj H
        refine Tr.pass rfl rfl rfl rfl rfl (by decide) ?_
        refine Tr.val (wn rfl) rfl (fun _ _ h1 h2 => run_pickF (h1.ev rfl) (h1.ev rfl)) ?_
        exact Tr.nil (Tr.fin0 (.cons rfl .nil) (.cons rfl .nil))
      · rw [hg104] at hg103
        rw [if_pos rfl] at hg103
        have H := hg103
        obtain ⟨y104, hy104, H⟩ := bnd H
        refine Tr.call0 (r := (.bool y104)) (wg rfl rfl rfl) rfl Try.call12 evl_nil (fun W hW => F_etchhouselaw1_awake_ok N y104 hy104 (HF.start _)) ?_
        refine Tr.val (wn rfl) rfl (fun _ _ h1 h2 => run_pickT (h1.ev rfl) (h1.ev rfl)) ?_
        obtain rfl := Option.some.inj H
        exact Tr.nil (Tr.fin0 (.cons rfl .nil) (.cons rfl .nil))
    · show Tr _ _ (LF [(24, (.bool g103))]) (LE [(1, ow Ay100_0 cy100_0 22 fl_LTRect y100.1)]) _
      refine Tr.val (wn rfl) rfl (fun _ _ h1 h2 => run_assign (h1.ev rfl)) ?_
      refine Tr.nil (Tr.normThen ?_)
      refine Tr.ret (Tr.retThen ?_)
      obtain rfl := Option.some.inj H
      exact Tr.out (m := [(.bool g103)]) [] (res_tmp rfl res_nil) (fun W hW => ⟨rfl, hW.low leB⟩)
  · refine Tr.skip (Tr.normThen ?_)
    refine Tr.seq ?_
    refine Tr.region ?_
    refine Tr.val (wn rfl) rfl (fun _ _ h1 h2 => run_move (h1.ev rfl)) ?_
    obtain ⟨y105, hy105, H⟩ := bnd H
    refine Tr.callM [2] [emp] (U := (Option Addr × Nat)) (fun u => (.slice u.1 (y105).length u.2)) (fun u => SlF u.1 (y105).length u.2) (fun u => [ow u.1 u.2 29 fl_TRect y105]) rfl (pk_cons rfl pk_nil) (fun _ => rfl) (wn rfl) rfl Try.call29 (evl_cons rfl evl_nil) (fun W hW hp hE => F_slices_Clone_Rect_ok p0 Ap0_0 cp0_0 (hp0_0.ext (hW.extS hp)) y105 hy105 hE) ?_
    intro u hu
    obtain ⟨Ay105_0, cy105_0⟩ := u
    have gy105_0 := hu
    have hgy105_0 : SlF Ay105_0 (y105).length cy105_0 := gy105_0 --@phi
    show Tr _ _ (uf _ 26 (.slice Ay105_0 (y105).length cy105_0)) (up _ 2 (ow Ay105_0 cy105_0 29 fl_TRect y105)) _
    refine Tr.val (wn rfl) rfl (fun _ _ h1 h2 => run_assign (h1.ev rfl)) ?_
    refine Tr.nil (Tr.normThen ?_)
    refine Tr.seq ?_
    refine Tr.region ?_
    refine Tr.val (wn rfl) rfl (fun _ _ h1 h2 => run_move (h1.ev rfl)) ?_
    obtain ⟨y107, hy107, H⟩ := bnd H
    refine Tr.call0 (r := (.int .i64 y107)) (wn rfl) rfl Try.call23 (evl_cons rfl evl_nil) (fun W hW => F_etchhouselaw1_area_ok N p0 Ap0_0 cp0_0 (hp0_0.ext hW.extAll) y107 hy107 (HF.start _)) ?_
    refine Tr.val (wn rfl) rfl (fun _ _ h1 h2 => run_assign (h1.ev rfl)) ?_
    refine Tr.nil (Tr.normThen ?_)
    refine Tr.seq ?_
    refine Tr.seq ?_
    refine Tr.region ?_
    refine Tr.val (wn rfl) rfl (fun _ _ h1 h2 => run_assign (h1.ev rfl)) ?_
    refine Tr.nil (Tr.normThen ?_)
    refine Tr.block ?_
    refine Tr.loop (σ := (List TRect) × Int × Int × (Option Addr) × Nat) (fun m w s => F_etchhouselaw1_HolesAreHoles_L1 N p0 y100 m s.1 s.2.1 s.2.2.1 = some r ∧ SlF s.2.2.2.1 (s.1).length s.2.2.2.2) (fun s => [(0, (.slice Ap0_0 (p0).length cp0_0)), (3, (.slice Ay100_0 (y100.1).length cy100_0)), (5, (.slice s.2.2.2.1 (s.1).length s.2.2.2.2)), (6, (.int .i64 s.2.1)), (7, (.int .i64 s.2.2.1))]) (fun s => [(1, ow Ay100_0 cy100_0 22 fl_LTRect y100.1), (2, ow s.2.2.2.1 s.2.2.2.2 29 fl_TRect s.1)]) N (y105, y107, 0, Ay105_0, cy105_0) ⟨H, hgy105_0⟩ (.cons rfl (.cons rfl (.cons rfl (.cons rfl (.cons rfl .nil))))) (.cons rfl (.cons rfl .nil)) (fun _ _ h => noSome (h.1)) ?_
    intro w leF_etchhouselaw1_HolesAreHoles_L1 mF_etchhouselaw1_HolesAreHoles_L1 s hs
    obtain ⟨l137, x138, x139, Al137, cl137⟩ := s
    obtain ⟨H, hl137⟩ := hs
    replace H : F_etchhouselaw1_HolesAreHoles_L1 N p0 y100 (mF_etchhouselaw1_HolesAreHoles_L1 + 1) l137 x138 x139 = some r := H
    replace hp0_0 := hp0_0.leR leF_etchhouselaw1_HolesAreHoles_L1
    replace leB := leB.trans leF_etchhouselaw1_HolesAreHoles_L1
    replace hl137 : SlF Al137 (l137).length cl137 := hl137
    rw [F_etchhouselaw1_HolesAreHoles_L1.eq_2] at H
    show Tr _ _ (LF [(0, (.slice Ap0_0 (p0).length cp0_0)), (3, (.slice Ay100_0 (y100.1).length cy100_0)), (5, (.slice Al137 (l137).length cl137)), (6, (.int .i64 x138)), (7, (.int .i64 x139))]) (LE [(1, ow Ay100_0 cy100_0 22 fl_LTRect y100.1), (2, ow Al137 cl137 29 fl_TRect l137)]) _
    refine Tr.seq ?_
    refine Tr.seq ?_
    refine Tr.region ?_
    refine Tr.val (wn rfl) rfl (fun _ _ h1 h2 => run_move (h1.ev rfl)) ?_
    refine Tr.val (wn rfl) rfl (fun _ _ h1 h2 => run_move (h1.ev rfl)) ?_
    refine Tr.val (wn rfl) rfl (fun _ _ h1 h2 => run_len un_40 (h1.ev rfl)) ?_
    refine Tr.val (wn rfl) rfl (fun _ _ h1 h2 => run_lss (h1.ev rfl) (h1.ev rfl)) ?_
    refine Tr.nil (Tr.normThen ?_)
    refine Tr.cond rfl H (fun H => ?_) (fun H => ?_)
    · refine Tr.skip (Tr.normThen ?_)
      refine Tr.seq ?_
      refine Tr.block ?_
      refine Tr.seq ?_
      refine Tr.region ?_
      refine Tr.val (wn rfl) rfl (fun _ _ h1 h2 => run_move (h1.ev rfl)) ?_
      refine Tr.val (wn rfl) rfl (fun _ _ h1 h2 => run_move (h1.ev rfl)) ?_
      obtain ⟨x140, hx140, H⟩ := bnd H
      obtain ⟨hx1400, hx1401, hx1402⟩ := idx_some hx140
      refine Tr.val (wn rfl) rfl (fun _ _ h1 h2 => run_indexAddr el_40 (h1.ev rfl) hgy100_0 (h1.ev rfl) hx1400 hx1401) ?_
      refine Tr.valE (U := (fl_LTRect).Ad) (fun u => (fl_LTRect).ok w.O w.W u x140) (fun u => (.slice u.1 (x140).length u.2)) (wn rfl) rfl (ldN (κ := 1) (t := fl_LTRect) (V := fun u => (.slice u.1 (x140).length u.2)) rfl hx1402 (fun _ _ u h1 hc => run_load1 ag_22 (h1.ev rfl) hc rfl)) ?_
      intro u141 hoku141
      obtain ⟨Au141_0, cu141_0⟩ := u141
      have hoku141_0 := hoku141
      replace hoku141_0 : Sl w.O w.W fl_TRect Au141_0 cu141_0 x140 := hoku141_0
      show Tr _ _ (uf _ 39 (.slice Au141_0 (x140).length cu141_0)) _ _
      refine Tr.val (wn rfl) rfl (fun _ _ h1 h2 => run_move (h1.ev rfl)) ?_
      obtain ⟨y142, hy142, H⟩ := bnd H
      refine Tr.callM [5] [emp] (U := (Option Addr × Nat)) (fun u => (.tuple #[(.slice u.1 (y142.1).length u.2), (.int .i64 y142.2)])) (fun u => SlF u.1 (y142.1).length u.2) (fun u => [ow u.1 u.2 29 fl_TRect y142.1]) rfl (pk_cons rfl pk_nil) (fun _ => rfl) (wn rfl) rfl Try.call19 (evl_cons rfl (evl_cons rfl evl_nil)) (fun W hW hp hE => F_shape_Both_ok N x140 Au141_0 cu141_0 (hoku141_0.rl.ext (hW.extS hp)) p0 Ap0_0 cp0_0 (hp0_0.ext (hW.extS hp)) y142 hy142 hE) ?_
      intro u hu
      obtain ⟨Ay142_0, cy142_0⟩ := u
      have gy142_0 := hu
      have hgy142_0 : SlF Ay142_0 (y142.1).length cy142_0 := gy142_0 --@phi
      show Tr _ _ (uf _ 41 (.tuple #[(.slice Ay142_0 (y142.1).length cy142_0), (.int .i64 y142.2)])) (up _ 5 (ow Ay142_0 cy142_0 29 fl_TRect y142.1)) _
      refine Tr.val (wn rfl) rfl (fun _ _ h1 h2 => run_move (h1.ev rfl)) ?_
      refine Tr.val (wn rfl) rfl (fun _ _ h1 h2 => run_extract (h1.ev rfl) rfl) ?_
      refine Tr.val (wn rfl) rfl (fun _ _ h1 h2 => run_extract (h1.ev rfl) rfl) ?_
      refine Tr.val (wn rfl) rfl (fun _ _ h1 h2 => run_assign (h1.ev rfl)) ?_
      refine Tr.val (wn rfl) rfl (fun _ _ h1 h2 => run_assign (h1.ev rfl)) ?_
      refine Tr.nil (Tr.normThen ?_)
      refine Tr.seq ?_
      refine Tr.seq ?_
      refine Tr.region ?_
      refine Tr.val (wn rfl) rfl (fun _ _ h1 h2 => run_move (h1.ev rfl)) ?_
      refine Tr.val (wn rfl) rfl (fun _ _ h1 h2 => run_neq (h1.ev rfl) (h1.ev rfl)) ?_
      refine Tr.val (wn rfl) rfl (fun _ _ h1 h2 => run_move (h1.ev rfl)) ?_
      refine Tr.mid0 4 [(0, (.slice Ap0_0 (p0).length cp0_0)), (3, (.slice Ay100_0 (y100.1).length cy100_0)), (5, (.slice Al137 (l137).length cl137)), (6, (.int .i64 x138)), (7, (.int .i64 x139)), (50, (.bool ((y142.2 != 0) || (decide (0 < (y142.1.length : Int))))))] [(1, ow Ay100_0 cy100_0 22 fl_LTRect y100.1), (2, ow Al137 cl137 29 fl_TRect l137), (5, ow Ay142_0 cy142_0 29 fl_TRect y142.1)] ?_ ?_
      · cases hg149 : (y142.2 != 0)
        · refine Tr.val (wg rfl rfl rfl) rfl (fun _ _ h1 h2 => run_move (h1.ev rfl)) ?_
          refine Tr.val (wg rfl rfl rfl) rfl (fun _ _ h1 h2 => run_len un_22 (h1.ev rfl)) ?_
          refine Tr.val (wg rfl rfl rfl) rfl (fun _ _ h1 h2 => run_gtr (h1.ev rfl) (h1.ev rfl)) ?_
          refine Tr.val (wn rfl) rfl (fun _ _ h1 h2 => run_pickF (h1.ev rfl) (h1.ev rfl)) ?_
          exact Tr.nil (Tr.fin0 (.cons rfl (.cons rfl (.cons rfl (.cons rfl (.cons rfl (.cons rfl .nil)))))) (.cons rfl (.cons rfl (.cons rfl .nil))))
        · refine Tr.pass rfl rfl rfl rfl rfl (by decide) ?_
          refine Tr.pass rfl rfl rfl rfl rfl (by decide) ?_
          refine Tr.pass rfl rfl rfl rfl rfl (by decide) ?_
          refine Tr.val (wn rfl) rfl (fun _ _ h1 h2 => run_pickT (h1.ev rfl) (h1.ev rfl)) ?_
          exact Tr.nil (Tr.fin0 (.cons rfl (.cons rfl (.cons rfl (.cons rfl (.cons rfl (.cons rfl .nil)))))) (.cons rfl (.cons rfl (.cons rfl .nil))))
      · show Tr _ _ (LF [(0, (.slice Ap0_0 (p0).length cp0_0)), (3, (.slice Ay100_0 (y100.1).length cy100_0)), (5, (.slice Al137 (l137).length cl137)), (6, (.int .i64 x138)), (7, (.int .i64 x139)), (50, (.bool ((y142.2 != 0) || (decide (0 < (y142.1.length : Int))))))]) (LE [(1, ow Ay100_0 cy100_0 22 fl_LTRect y100.1), (2, ow Al137 cl137 29 fl_TRect l137), (5, ow Ay142_0 cy142_0 29 fl_TRect y142.1)]) _
        refine Tr.nil (Tr.normThen ?_)
        refine Tr.cond rfl H (fun H => ?_) (fun H => ?_)
        · refine Tr.seq ?_
          refine Tr.region ?_
          refine Tr.val (wn rfl) rfl (fun _ _ h1 h2 => run_assign (h1.ev rfl)) ?_
          refine Tr.nil (Tr.normThen ?_)
          refine Tr.ret (Tr.retThen (Tr.retBlock (Tr.retThen (Tr.retThen (Tr.retBlock (Tr.retThen ?_))))))
          obtain rfl := Option.some.inj H
          exact Tr.out (m := [(.bool false)]) [] (res_tmp rfl res_nil) (fun W hW => ⟨rfl, hW.low leB⟩)
        · refine Tr.skip (Tr.normThen ?_)
          refine Tr.seq ?_
          refine Tr.region ?_
          refine Tr.val (wn rfl) rfl (fun _ _ h1 h2 => run_move (h1.ev rfl)) ?_
          refine Tr.val (wn rfl) rfl (fun _ _ h1 h2 => run_move (h1.ev rfl)) ?_
          refine Tr.val (wn rfl) rfl (fun _ _ h1 h2 => run_move (h1.ev rfl)) ?_
          obtain ⟨x144, hx144, H⟩ := bnd H
          obtain ⟨hx1440, hx1441, hx1442⟩ := idx_some hx144
          refine Tr.val (wn rfl) rfl (fun _ _ h1 h2 => run_indexAddr el_40 (h1.ev rfl) hgy100_0 (h1.ev rfl) hx1440 hx1441) ?_
          refine Tr.valE (U := (fl_LTRect).Ad) (fun u => (fl_LTRect).ok w.O w.W u x144) (fun u => (.slice u.1 (x144).length u.2)) (wn rfl) rfl (ldN (κ := 1) (t := fl_LTRect) (V := fun u => (.slice u.1 (x144).length u.2)) rfl hx1442 (fun _ _ u h1 hc => run_load1 ag_22 (h1.ev rfl) hc rfl)) ?_
          intro u145 hoku145
          obtain ⟨Au145_0, cu145_0⟩ := u145
          have hoku145_0 := hoku145
          replace hoku145_0 : Sl w.O w.W fl_TRect Au145_0 cu145_0 x144 := hoku145_0
          show Tr _ _ (uf _ 55 (.slice Au145_0 (x144).length cu145_0)) _ _
          obtain ⟨y146, hy146, H⟩ := bnd H
          refine Tr.call0 (r := (.int .i64 y146)) (wn rfl) rfl Try.call23 (evl_cons rfl evl_nil) (fun W hW => F_etchhouselaw1_area_ok N x144 Au145_0 cu145_0 (hoku145_0.rl.ext hW.extAll) y146 hy146 (HF.start _)) ?_
          refine Tr.val (wn rfl) rfl (fun _ _ h1 h2 => run_add (h1.ev rfl) (h1.ev rfl)) ?_
          refine Tr.val (wn rfl) rfl (fun _ _ h1 h2 => run_assign (h1.ev rfl)) ?_
          refine Tr.nil (Tr.normThen ?_)
          refine Tr.region ?_
          refine Tr.val (wn rfl) rfl (fun _ _ h1 h2 => run_move (h1.ev rfl)) ?_
          refine Tr.val (wn rfl) rfl (fun _ _ h1 h2 => run_move (h1.ev rfl)) ?_
          refine Tr.val (wn rfl) rfl (fun _ _ h1 h2 => run_move (h1.ev rfl)) ?_
          obtain ⟨x147, hx147, H⟩ := bnd H
          obtain ⟨hx1470, hx1471, hx1472⟩ := idx_some hx147
          refine Tr.val (wn rfl) rfl (fun _ _ h1 h2 => run_indexAddr el_40 (h1.ev rfl) hgy100_0 (h1.ev rfl) hx1470 hx1471) ?_
          refine Tr.valE (U := (fl_LTRect).Ad) (fun u => (fl_LTRect).ok w.O w.W u x147) (fun u => (.slice u.1 (x147).length u.2)) (wn rfl) rfl (ldN (κ := 1) (t := fl_LTRect) (V := fun u => (.slice u.1 (x147).length u.2)) rfl hx1472 (fun _ _ u h1 hc => run_load1 ag_22 (h1.ev rfl) hc rfl)) ?_
          intro u148 hoku148
          obtain ⟨Au148_0, cu148_0⟩ := u148
          have hoku148_0 := hoku148
          replace hoku148_0 : Sl w.O w.W fl_TRect Au148_0 cu148_0 x147 := hoku148_0
          show Tr _ _ (uf _ 62 (.slice Au148_0 (x147).length cu148_0)) _ _
          obtain ⟨l149, hl149, H⟩ := bnd H
          refine Tr.appendS 2 (t := fl_TRect) (l := l137) (l2 := x147) (wn rfl) rfl rfl rfl rfl (apT tr_TRect (fun W hW => (Sl.inB (hoku148_0.rl) hW))) un_22 sz_29 zl_29 (by decide) by_29 rfl hl149 fun Al149 cl149 hAl149 => ?_
          refine Tr.val (wn rfl) rfl (fun _ _ h1 h2 => run_assign (h1.ev rfl)) ?_
          refine Tr.nil (Tr.normBlock (Tr.normThen ?_))
          refine Tr.region ?_
          refine Tr.val (wn rfl) rfl (fun _ _ h1 h2 => run_move (h1.ev rfl)) ?_
          refine Tr.val (wn rfl) rfl (fun _ _ h1 h2 => run_add (h1.ev rfl) (h1.ev rfl)) ?_
          refine Tr.val (wn rfl) rfl (fun _ _ h1 h2 => run_assign (h1.ev rfl)) ?_
          refine Tr.nil ?_
          exact Tr.backThen leF_etchhouselaw1_HolesAreHoles_L1 (l149, (w64 (x138 + y146)), (w64 (x139 + 1)), Al149, cl149) ⟨H, hAl149⟩ (.cons rfl (.cons rfl (.cons rfl (.cons rfl (.cons rfl .nil))))) (.cons rfl (.cons rfl .nil))
    · refine Tr.exit (Tr.exitThen (Tr.exitThen (Tr.exitBlock (Tr.normThen ?_))))
      refine Tr.seq ?_
      refine Tr.region ?_
      refine Tr.val (wn rfl) rfl (fun _ _ h1 h2 => run_move (h1.ev rfl)) ?_
      obtain ⟨y150, hy150, H⟩ := bnd H
      refine Tr.callM [6] [emp] (U := (Option Addr × Nat)) (fun u => (.tuple #[(.slice u.1 (y150.1).length u.2), (.int .i64 y150.2)])) (fun u => SlF u.1 (y150.1).length u.2) (fun u => [ow u.1 u.2 29 fl_TRect y150.1]) rfl (pk_cons rfl pk_nil) (fun _ => rfl) (wn rfl) rfl Try.call24 (evl_cons rfl evl_nil) (fun W hW hp hE => F_shape_Region_ok N l137 Al137 cl137 (hW.slS (k := 2) rfl hp rfl) y150 hy150 hE) ?_
      intro u hu
      obtain ⟨Ay150_0, cy150_0⟩ := u
      have gy150_0 := hu
      have hgy150_0 : SlF Ay150_0 (y150.1).length cy150_0 := gy150_0 --@phi
      show Tr _ _ (uf _ 66 (.tuple #[(.slice Ay150_0 (y150.1).length cy150_0), (.int .i64 y150.2)])) (up _ 6 (ow Ay150_0 cy150_0 29 fl_TRect y150.1)) _
      refine Tr.val (wn rfl) rfl (fun _ _ h1 h2 => run_move (h1.ev rfl)) ?_
      refine Tr.val (wn rfl) rfl (fun _ _ h1 h2 => run_extract (h1.ev rfl) rfl) ?_
      refine Tr.val (wn rfl) rfl (fun _ _ h1 h2 => run_extract (h1.ev rfl) rfl) ?_
      refine Tr.val (wn rfl) rfl (fun _ _ h1 h2 => run_assign (h1.ev rfl)) ?_
      refine Tr.val (wn rfl) rfl (fun _ _ h1 h2 => run_assign (h1.ev rfl)) ?_
      refine Tr.nil (Tr.normThen ?_)
      refine Tr.seq ?_
      refine Tr.seq ?_
      refine Tr.region ?_
      refine Tr.val (wn rfl) rfl (fun _ _ h1 h2 => run_move (h1.ev rfl)) ?_
      refine Tr.val (wn rfl) rfl (fun _ _ h1 h2 => run_neq (h1.ev rfl) (h1.ev rfl)) ?_
      refine Tr.nil (Tr.normThen ?_)
      refine Tr.cond rfl H (fun H => ?_) (fun H => ?_)
      · refine Tr.seq ?_
        refine Tr.region ?_
        refine Tr.val (wn rfl) rfl (fun _ _ h1 h2 => run_move (h1.ev rfl)) ?_
        refine Tr.val (wn rfl) rfl (fun _ _ h1 h2 => run_eql (h1.ev rfl) (h1.ev rfl)) ?_
        refine Tr.val (wn rfl) rfl (fun _ _ h1 h2 => run_move (h1.ev rfl)) ?_
        obtain ⟨g153, hg153, H⟩ := bnd H
        refine Tr.mid0 2 [(75, (.bool g153))] [(1, ow Ay100_0 cy100_0 22 fl_LTRect y100.1), (2, ow Al137 cl137 29 fl_TRect l137), (6, ow Ay150_0 cy150_0 29 fl_TRect y150.1)] ?_ ?_
        · cases hg154 : (y150.2 == 2)
          · rw [hg154] at hg153
            rw [if_neg (by decide)] at hg153
            have H := hg153
            obtain rfl := Option.some.inj H
            refine Tr.pass rfl rfl rfl rfl rfl (by decide) ?_
            refine Tr.val (wn rfl) rfl (fun _ _ h1 h2 => run_pickF (h1.ev rfl) (h1.ev rfl)) ?_
            exact Tr.nil (Tr.fin0 (.cons rfl .nil) (.cons rfl (.cons rfl (.cons rfl .nil))))
          · rw [hg154] at hg153
            rw [if_pos rfl] at hg153
            have H := hg153
            obtain ⟨y154, hy154, H⟩ := bnd H
            refine Tr.call0 (r := (.bool y154)) (wg rfl rfl rfl) rfl Try.call12 evl_nil (fun W hW => F_etchhouselaw1_awake_ok N y154 hy154 (HF.start _)) ?_
            refine Tr.val (wn rfl) rfl (fun _ _ h1 h2 => run_pickT (h1.ev rfl) (h1.ev rfl)) ?_
            obtain rfl := Option.some.inj H
            exact Tr.nil (Tr.fin0 (.cons rfl .nil) (.cons rfl (.cons rfl (.cons rfl .nil))))
        · show Tr _ _ (LF [(75, (.bool g153))]) (LE [(1, ow Ay100_0 cy100_0 22 fl_LTRect y100.1), (2, ow Al137 cl137 29 fl_TRect l137), (6, ow Ay150_0 cy150_0 29 fl_TRect y150.1)]) _
          refine Tr.val (wn rfl) rfl (fun _ _ h1 h2 => run_assign (h1.ev rfl)) ?_
          refine Tr.nil (Tr.normThen ?_)
          refine Tr.ret (Tr.retThen ?_)
          obtain rfl := Option.some.inj H
          exact Tr.out (m := [(.bool g153)]) [] (res_tmp rfl res_nil) (fun W hW => ⟨rfl, hW.low leB⟩)
      · refine Tr.skip (Tr.normThen ?_)
        refine Tr.seq ?_
        refine Tr.region ?_
        refine Tr.val (wn rfl) rfl (fun _ _ h1 h2 => run_move (h1.ev rfl)) ?_
        obtain ⟨y155, hy155, H⟩ := bnd H
        refine Tr.callG [7] [emp] (U := (Option Addr × Nat)) (fun u => (.tuple #[(.slice u.1 (y155.1).length u.2), (.int .i64 y155.2)])) (fun O W u => SlF u.1 (y155.1).length u.2) (fun u => [ow u.1 u.2 22 fl_LTRect y155.1]) rfl (pk_cons rfl pk_nil) (fun _ => rfl) (wn rfl) rfl Try.call26 (evl_cons rfl evl_nil) (fun W hW hp hE => F_shape_Holes_ok N y150.1 Ay150_0 cy150_0 (hW.slS (k := 6) rfl hp rfl) y155 hy155 hE) ?_
        intro w u le156 hu
        obtain ⟨Ay155_0, cy155_0⟩ := u
        have gy155_0 := hu
        replace hp0_0 := hp0_0.leR le156
        replace leB := leB.trans le156
        replace leF_etchhouselaw1_HolesAreHoles_L1 := leF_etchhouselaw1_HolesAreHoles_L1.trans le156
        have hgy155_0 : SlF Ay155_0 (y155.1).length cy155_0 := gy155_0 --@phi
        show Tr _ _ (uf _ 78 (.tuple #[(.slice Ay155_0 (y155.1).length cy155_0), (.int .i64 y155.2)])) (up _ 7 (ow Ay155_0 cy155_0 22 fl_LTRect y155.1)) _
        refine Tr.val (wn rfl) rfl (fun _ _ h1 h2 => run_move (h1.ev rfl)) ?_
        refine Tr.val (wn rfl) rfl (fun _ _ h1 h2 => run_extract (h1.ev rfl) rfl) ?_
        refine Tr.val (wn rfl) rfl (fun _ _ h1 h2 => run_extract (h1.ev rfl) rfl) ?_
        refine Tr.val (wn rfl) rfl (fun _ _ h1 h2 => run_assign (h1.ev rfl)) ?_
        refine Tr.val (wn rfl) rfl (fun _ _ h1 h2 => run_assign (h1.ev rfl)) ?_
        refine Tr.nil (Tr.normThen ?_)
        refine Tr.seq ?_
        refine Tr.region ?_
        refine Tr.val (wn rfl) rfl (fun _ _ h1 h2 => run_move (h1.ev rfl)) ?_
        refine Tr.val (wn rfl) rfl (fun _ _ h1 h2 => run_eql (h1.ev rfl) (h1.ev rfl)) ?_
        refine Tr.val (wn rfl) rfl (fun _ _ h1 h2 => run_move (h1.ev rfl)) ?_
        refine Tr.mid0 4 [(6, (.int .i64 x138)), (10, (.slice Ay150_0 (y150.1).length cy150_0)), (87, (.bool ((y155.2 == 0) && ((y155.1.length : Int) == 0))))] [(1, ow Ay100_0 cy100_0 22 fl_LTRect y100.1), (2, ow Al137 cl137 29 fl_TRect l137), (6, ow Ay150_0 cy150_0 29 fl_TRect y150.1), (7, ow Ay155_0 cy155_0 22 fl_LTRect y155.1)] ?_ ?_
        · cases hg162 : (y155.2 == 0)
          · refine Tr.pass rfl rfl rfl rfl rfl (by decide) ?_
            refine Tr.pass rfl rfl rfl rfl rfl (by decide) ?_
            refine Tr.pass rfl rfl rfl rfl rfl (by decide) ?_
            refine Tr.val (wn rfl) rfl (fun _ _ h1 h2 => run_pickF (h1.ev rfl) (h1.ev rfl)) ?_
            exact Tr.nil (Tr.fin0 (.cons rfl (.cons rfl (.cons rfl .nil))) (.cons rfl (.cons rfl (.cons rfl (.cons rfl .nil)))))
          · refine Tr.val (wg rfl rfl rfl) rfl (fun _ _ h1 h2 => run_move (h1.ev rfl)) ?_
            refine Tr.val (wg rfl rfl rfl) rfl (fun _ _ h1 h2 => run_len un_40 (h1.ev rfl)) ?_
            refine Tr.val (wg rfl rfl rfl) rfl (fun _ _ h1 h2 => run_eql (h1.ev rfl) (h1.ev rfl)) ?_
            refine Tr.val (wn rfl) rfl (fun _ _ h1 h2 => run_pickT (h1.ev rfl) (h1.ev rfl)) ?_
            exact Tr.nil (Tr.fin0 (.cons rfl (.cons rfl (.cons rfl .nil))) (.cons rfl (.cons rfl (.cons rfl (.cons rfl .nil)))))
        · show Tr _ _ (LF [(6, (.int .i64 x138)), (10, (.slice Ay150_0 (y150.1).length cy150_0)), (87, (.bool ((y155.2 == 0) && ((y155.1.length : Int) == 0))))]) (LE [(1, ow Ay100_0 cy100_0 22 fl_LTRect y100.1), (2, ow Al137 cl137 29 fl_TRect l137), (6, ow Ay150_0 cy150_0 29 fl_TRect y150.1), (7, ow Ay155_0 cy155_0 22 fl_LTRect y155.1)]) _
          refine Tr.val (wn rfl) rfl (fun _ _ h1 h2 => run_move (h1.ev rfl)) ?_
          obtain ⟨g158, hg158, H⟩ := bnd H
          refine Tr.mid0 5 [(93, (.bool g158))] [(1, ow Ay100_0 cy100_0 22 fl_LTRect y100.1), (2, ow Al137 cl137 29 fl_TRect l137), (6, ow Ay150_0 cy150_0 29 fl_TRect y150.1), (7, ow Ay155_0 cy155_0 22 fl_LTRect y155.1)] ?_ ?_
          · cases hg162 : ((y155.2 == 0) && ((y155.1.length : Int) == 0))
            · rw [hg162] at hg158
              rw [if_neg (by decide)] at hg158
              have H := hg158
              obtain rfl := Option.some.inj H
              refine Tr.pass rfl rfl rfl rfl rfl (by decide) ?_
              refine Tr.pass rfl rfl rfl rfl rfl (by decide) ?_
              refine Tr.pass rfl rfl rfl rfl rfl (by decide) ?_
              refine Tr.pass rfl rfl rfl rfl rfl (by decide) ?_
              refine Tr.val (wn rfl) rfl (fun _ _ h1 h2 => run_pickF (h1.ev rfl) (h1.ev rfl)) ?_
              exact Tr.nil (Tr.fin0 (.cons rfl .nil) (.cons rfl (.cons rfl (.cons rfl (.cons rfl .nil)))))
            · rw [hg162] at hg158
              rw [if_pos rfl] at hg158
              have H := hg158
              refine Tr.val (wg rfl rfl rfl) rfl (fun _ _ h1 h2 => run_move (h1.ev rfl)) ?_
              obtain ⟨y159, hy159, H⟩ := bnd H
              refine Tr.call0 (r := (.int .i64 y159)) (wg rfl rfl rfl) rfl Try.call23 (evl_cons rfl evl_nil) (fun W hW => F_etchhouselaw1_area_ok N y150.1 Ay150_0 cy150_0 (hW.slCall (k := 6) rfl) y159 hy159 (HF.start _)) ?_
              refine Tr.val (wg rfl rfl rfl) rfl (fun _ _ h1 h2 => run_move (h1.ev rfl)) ?_
              refine Tr.val (wg rfl rfl rfl) rfl (fun _ _ h1 h2 => run_eql (h1.ev rfl) (h1.ev rfl)) ?_
              refine Tr.val (wn rfl) rfl (fun _ _ h1 h2 => run_pickT (h1.ev rfl) (h1.ev rfl)) ?_
              obtain rfl := Option.some.inj H
              exact Tr.nil (Tr.fin0 (.cons rfl .nil) (.cons rfl (.cons rfl (.cons rfl (.cons rfl .nil)))))
          · show Tr _ _ (LF [(93, (.bool g158))]) (LE [(1, ow Ay100_0 cy100_0 22 fl_LTRect y100.1), (2, ow Al137 cl137 29 fl_TRect l137), (6, ow Ay150_0 cy150_0 29 fl_TRect y150.1), (7, ow Ay155_0 cy155_0 22 fl_LTRect y155.1)]) _
            refine Tr.val (wn rfl) rfl (fun _ _ h1 h2 => run_move (h1.ev rfl)) ?_
            obtain ⟨g161, hg161, H⟩ := bnd H
            refine Tr.mid0 2 [(96, (.bool g161))] [(1, ow Ay100_0 cy100_0 22 fl_LTRect y100.1), (2, ow Al137 cl137 29 fl_TRect l137), (6, ow Ay150_0 cy150_0 29 fl_TRect y150.1), (7, ow Ay155_0 cy155_0 22 fl_LTRect y155.1)] ?_ ?_
            · cases hg162 : g158
              · rw [hg162] at hg161
                rw [if_neg (by decide)] at hg161
                have H := hg161
                obtain rfl := Option.some.inj H
                refine Tr.pass rfl rfl rfl rfl rfl (by decide) ?_
                refine Tr.val (wn rfl) rfl (fun _ _ h1 h2 => run_pickF (h1.ev rfl) (h1.ev rfl)) ?_
                exact Tr.nil (Tr.fin0 (.cons rfl .nil) (.cons rfl (.cons rfl (.cons rfl (.cons rfl .nil)))))
              · rw [hg162] at hg161
                rw [if_pos rfl] at hg161
                have H := hg161
                obtain ⟨y162, hy162, H⟩ := bnd H
                refine Tr.call0 (r := (.bool y162)) (wg rfl rfl rfl) rfl Try.call12 evl_nil (fun W hW => F_etchhouselaw1_awake_ok N y162 hy162 (HF.start _)) ?_
                refine Tr.val (wn rfl) rfl (fun _ _ h1 h2 => run_pickT (h1.ev rfl) (h1.ev rfl)) ?_
                obtain rfl := Option.some.inj H
                exact Tr.nil (Tr.fin0 (.cons rfl .nil) (.cons rfl (.cons rfl (.cons rfl (.cons rfl .nil)))))
            · show Tr _ _ (LF [(96, (.bool g161))]) (LE [(1, ow Ay100_0 cy100_0 22 fl_LTRect y100.1), (2, ow Al137 cl137 29 fl_TRect l137), (6, ow Ay150_0 cy150_0 29 fl_TRect y150.1), (7, ow Ay155_0 cy155_0 22 fl_LTRect y155.1)]) _
              refine Tr.val (wn rfl) rfl (fun _ _ h1 h2 => run_assign (h1.ev rfl)) ?_
              refine Tr.nil (Tr.normThen ?_)
              refine Tr.ret ?_
              obtain rfl := Option.some.inj H
              exact Tr.out (m := [(.bool g161)]) [] (res_tmp rfl res_nil) (fun W hW => ⟨rfl, hW.low leB⟩)

theorem F_shape_Pieces_ok (N : Nat) {w : Bs} (p0 : (List TRect)) (Ap0_0 : Option Addr) (cp0_0 : Nat) (hp0_0 : Sl w.R w.W fl_TRect Ap0_0 cp0_0 p0) (r : ((List (List TRect)) × Int)) (H : F_shape_Pieces N p0 = some r) (hE : HF w w.W (LEn [emp])) : Calls Try.prog 22 [(.slice Ap0_0 (p0).length cp0_0)].toArray w.W fun e W' => ∃ (w' : Bs) (u : (Option Addr × Nat)), w.Le w' ∧ e = .returned (.tuple #[(.slice u.1 (r.1).length u.2), (.int .i64 r.2)]) ∧ (SlF u.1 (r.1).length u.2) ∧ HF w' W' (LEn [ow u.1 u.2 22 fl_LTRect r.1]) := by
  unfold F_shape_Pieces at H
  have leB := Bs.Le.refl w
  refine Tr.enter (n := 28) Try.func22 rfl rfl rfl hE ?_
  refine Tr.seq ?_
  refine Tr.region ?_
  refine Tr.val (wn rfl) rfl (fun _ _ h1 h2 => run_assign (h1.ev rfl)) ?_
  refine Tr.nilOwn 1 22 fl_LTRect ?_
  show Tr _ _ (uf _ 2 (.slice none (([] : List (List TRect))).length 0)) _ _
  refine Tr.val (wn rfl) rfl (fun _ _ h1 h2 => run_assign (h1.ev rfl)) ?_
  refine Tr.nil (Tr.normThen ?_)
  refine Tr.seq ?_
  refine Tr.seq ?_
  refine Tr.region ?_
  refine Tr.val (wn rfl) rfl (fun _ _ h1 h2 => run_move (h1.ev rfl)) ?_
  obtain ⟨y100, hy100, H⟩ := bnd H
  refine Tr.call0 (r := (.int .i64 y100)) (wn rfl) rfl Try.call18 (evl_cons rfl evl_nil) (fun W hW => F_shape_CheckRegion_ok N p0 Ap0_0 cp0_0 (hp0_0.ext hW.extAll) y100 hy100 (HF.start _)) ?_
  refine Tr.val (wn rfl) rfl (fun _ _ h1 h2 => run_assign (h1.ev rfl)) ?_
  refine Tr.nil (Tr.normThen ?_)
  refine Tr.seq ?_
  refine Tr.region ?_
  refine Tr.val (wn rfl) rfl (fun _ _ h1 h2 => run_move (h1.ev rfl)) ?_
  refine Tr.val (wn rfl) rfl (fun _ _ h1 h2 => run_neq (h1.ev rfl) (h1.ev rfl)) ?_
  refine Tr.nil (Tr.normThen ?_)
  refine Tr.cond rfl H (fun H => ?_) (fun H => ?_)
  · refine Tr.seq ?_
    refine Tr.region ?_
    refine Tr.val (wn rfl) rfl (fun _ _ h1 h2 => run_move (h1.ev rfl)) ?_
    refine Tr.val (wn rfl) rfl (fun _ _ h1 h2 => run_assign (h1.ev rfl)) ?_
    refine Tr.nilOwn 2 22 fl_LTRect ?_
    show Tr _ _ (uf _ 2 (.slice none (([] : List (List TRect))).length 0)) _ _
    refine Tr.val (wn rfl) rfl (fun _ _ h1 h2 => run_assign (h1.ev rfl)) ?_
    refine Tr.nil (Tr.normThen ?_)
    refine Tr.ret (Tr.retThen ?_)
    obtain rfl := Option.some.inj H
    exact Tr.out (m := [(.slice none (([] : List (List TRect))).length 0), (.int .i64 y100)]) [] (res_tmp rfl (res_tmp rfl res_nil)) (fun W hW => ⟨w, (none, 0), leB, rfl, slf_nil, hW.pick (ks := [2]) (by decide) (pk_cons rfl pk_nil)⟩)
  · refine Tr.skip (Tr.normThen ?_)
    refine Tr.seq ?_
    refine Tr.region ?_
    refine Tr.val (wn rfl) rfl (fun _ _ h1 h2 => run_assign (h1.ev rfl)) ?_
    refine Tr.nilOwn 3 22 fl_LTRect ?_
    show Tr _ _ (uf _ 5 (.slice none (([] : List (List TRect))).length 0)) _ _
    refine Tr.nil (Tr.normThen ?_)
    refine Tr.seq ?_
    refine Tr.seq ?_
    refine Tr.region ?_
    refine Tr.val (wn rfl) rfl (fun _ _ h1 h2 => run_move (h1.ev rfl)) ?_
    obtain ⟨y101, hy101, H⟩ := bnd H
    refine Tr.callG [4] [emp] (U := (Option Addr × Nat)) (fun u => (.slice u.1 (y101).length u.2)) (fun O W u => SlF u.1 (y101).length u.2) (fun u => [ow u.1 u.2 104 fl_TBand y101]) rfl (pk_cons rfl pk_nil) (fun _ => rfl) (wn rfl) rfl Try.call40 (evl_cons rfl evl_nil) (fun W hW hp hE => F_shape_SetOf_ok N p0 Ap0_0 cp0_0 (hp0_0.ext (hW.extS hp)) y101 hy101 hE) ?_
    intro w u le102 hu
    obtain ⟨Ay101_0, cy101_0⟩ := u
    have gy101_0 := hu
    replace hp0_0 := hp0_0.leR le102
    replace leB := leB.trans le102
    have hgy101_0 : SlF Ay101_0 (y101).length cy101_0 := gy101_0 --@phi
    show Tr _ _ (uf _ 14 (.slice Ay101_0 (y101).length cy101_0)) (up _ 4 (ow Ay101_0 cy101_0 104 fl_TBand y101)) _
    obtain ⟨y103, hy103, H⟩ := bnd H
    refine Tr.callG [5] [emp] (U := (Option Addr × Nat)) (fun u => (.slice u.1 (y103).length u.2)) (fun O W u => SlF u.1 (y103).length u.2) (fun u => [ow u.1 u.2 65 fl_LTBand y103]) rfl (pk_cons rfl pk_nil) (fun _ => rfl) (wn rfl) rfl Try.call47 (evl_cons rfl evl_nil) (fun W hW hp hE => F_shape_Set__Parts_ok N y101 Ay101_0 cy101_0 (hW.slS (k := 4) rfl hp rfl) y103 hy103 hE) ?_
    intro w u le104 hu
    obtain ⟨Ay103_0, cy103_0⟩ := u
    have gy103_0 := hu
    replace hp0_0 := hp0_0.leR le104
    replace leB := leB.trans le104
    have hgy103_0 : SlF Ay103_0 (y103).length cy103_0 := gy103_0 --@phi
    show Tr _ _ (uf _ 15 (.slice Ay103_0 (y103).length cy103_0)) (up _ 5 (ow Ay103_0 cy103_0 65 fl_LTBand y103)) _
    refine Tr.val (wn rfl) rfl (fun _ _ h1 h2 => run_len un_75 (h1.ev rfl)) ?_
    refine Tr.val (wn rfl) rfl (fun _ _ h1 h2 => run_move (h1.ev rfl)) ?_
    refine Tr.nil (Tr.normThen ?_)
    refine Tr.block ?_
    refine Tr.loop (σ := (List (List TBand)) × Nat × (List (List TRect)) × (Option Addr) × Nat) (fun m w s => m = s.1.length + 1 ∧ s.1 = List.drop s.2.1 y103 ∧ s.2.1 ≤ y103.length ∧ F_shape_Pieces_L1 N s.1 s.2.1 s.2.2.1 = some r ∧ SlF s.2.2.2.1 (s.2.2.1).length s.2.2.2.2) (fun s => [(5, (.slice s.2.2.2.1 (s.2.2.1).length s.2.2.2.2)), (15, (.slice Ay103_0 (y103).length cy103_0)), (16, (.int .i64 (y103.length : Int))), (17, (.int .i64 (s.2.1 : Int)))]) (fun s => [(3, ow s.2.2.2.1 s.2.2.2.2 22 fl_LTRect s.2.2.1), (5, ow Ay103_0 cy103_0 65 fl_LTBand y103)]) (y103.length + 1) (y103, 0, ([] : List (List TRect)), none, 0) ⟨rfl, rfl, Nat.zero_le _, H, slf_nil⟩ (.cons rfl (.cons rfl (.cons rfl (.cons rfl .nil)))) (.cons rfl (.cons rfl .nil)) (fun _ _ h => absurd h.1 (by simp)) ?_
    intro w leF_shape_Pieces_L1 m s hs
    obtain ⟨restF_shape_Pieces_L1, iF_shape_Pieces_L1, l127, Al127, cl127⟩ := s
    obtain ⟨hmF_shape_Pieces_L1, hdF_shape_Pieces_L1, hiF_shape_Pieces_L1, H, hl127⟩ := hs
    replace hdF_shape_Pieces_L1 : restF_shape_Pieces_L1 = List.drop iF_shape_Pieces_L1 y103 := hdF_shape_Pieces_L1
    replace H : F_shape_Pieces_L1 N restF_shape_Pieces_L1 iF_shape_Pieces_L1 l127 = some r := H
    replace hmF_shape_Pieces_L1 : m + 1 = restF_shape_Pieces_L1.length + 1 := hmF_shape_Pieces_L1
    replace leB := leB.trans leF_shape_Pieces_L1
    replace hl127 : SlF Al127 (l127).length cl127 := hl127
    obtain rfl : m = restF_shape_Pieces_L1.length := by omega
    clear hmF_shape_Pieces_L1
    show Tr _ _ (LF [(5, (.slice Al127 (l127).length cl127)), (15, (.slice Ay103_0 (y103).length cy103_0)), (16, (.int .i64 (y103.length : Int))), (17, (.int .i64 (iF_shape_Pieces_L1 : Int)))]) (LE [(3, ow Al127 cl127 22 fl_LTRect l127), (5, ow Ay103_0 cy103_0 65 fl_LTBand y103)]) _
    cases restF_shape_Pieces_L1 with
    | nil =>
      rw [F_shape_Pieces_L1.eq_1] at H
      refine Tr.seq ?_
      refine Tr.region ?_
      refine Tr.val (wn rfl) rfl (fun _ _ h1 h2 => run_lss (h1.ev rfl) (h1.ev rfl)) ?_
      refine Tr.nil (Tr.normThen ?_)
      refine Tr.seq ?_
      refine Tr.condF rfl (range_nil hdF_shape_Pieces_L1) ?_
      refine Tr.exit (Tr.exitThen (Tr.exitThen (Tr.exitBlock (Tr.normThen ?_))))
      refine Tr.seq ?_
      refine Tr.region ?_
      refine Tr.val (wn rfl) rfl (fun _ _ h1 h2 => run_move (h1.ev rfl)) ?_
      refine Tr.val (wn rfl) rfl (fun _ _ h1 h2 => run_assign (h1.ev rfl)) ?_
      refine Tr.val (wn rfl) rfl (fun _ _ h1 h2 => run_assign (h1.ev rfl)) ?_
      refine Tr.nil (Tr.normThen ?_)
      refine Tr.ret ?_
      obtain rfl := Option.some.inj H
      exact Tr.out (m := [(.slice Al127 (l127).length cl127), (.int .i64 0)]) [] (res_tmp rfl (res_tmp rfl res_nil)) (fun W hW => ⟨w, (Al127, cl127), leB, rfl, hl127, hW.pick (ks := [3]) (by decide) (pk_cons rfl pk_nil)⟩)
    | cons xF_shape_Pieces_L1 restF_shape_Pieces_L1 =>
      rw [F_shape_Pieces_L1.eq_2] at H
      refine Tr.seq ?_
      refine Tr.region ?_
      refine Tr.val (wn rfl) rfl (fun _ _ h1 h2 => run_lss (h1.ev rfl) (h1.ev rfl)) ?_
      refine Tr.nil (Tr.normThen ?_)
      refine Tr.seq ?_
      refine Tr.condT rfl (range_on hdF_shape_Pieces_L1) ?_
      refine Tr.skip (Tr.normThen ?_)
      refine Tr.seq ?_
      refine Tr.block ?_
      refine Tr.seq ?_
      refine Tr.region ?_
      refine Tr.val (wn rfl) rfl (fun _ _ h1 h2 => run_indexAddr el_75 (h1.ev rfl) hgy103_0 (h1.ev rfl) (Int.natCast_nonneg _) (range_lt hdF_shape_Pieces_L1)) ?_
      refine Tr.valE (U := (fl_LTBand).Ad) (fun u => (fl_LTBand).ok w.O w.W u xF_shape_Pieces_L1) (fun u => (.slice u.1 (xF_shape_Pieces_L1).length u.2)) (wn rfl) rfl (ldN (κ := 5) (t := fl_LTBand) (V := fun u => (.slice u.1 (xF_shape_Pieces_L1).length u.2)) rfl (range_at hdF_shape_Pieces_L1) (fun _ _ u h1 hc => run_load1 ag_65 (h1.ev rfl) hc rfl)) ?_
      intro u128 hoku128
      obtain ⟨Au128_0, cu128_0⟩ := u128
      have hoku128_0 := hoku128
      replace hoku128_0 : Sl w.O w.W fl_TBand Au128_0 cu128_0 xF_shape_Pieces_L1 := hoku128_0
      show Tr _ _ (uf _ 20 (.slice Au128_0 (xF_shape_Pieces_L1).length cu128_0)) _ _
      refine Tr.val (wn rfl) rfl (fun _ _ h1 h2 => run_assign (h1.ev rfl)) ?_
      refine Tr.nil (Tr.normThen ?_)
      refine Tr.region ?_
      refine Tr.val (wn rfl) rfl (fun _ _ h1 h2 => run_move (h1.ev rfl)) ?_
      refine Tr.val (wn rfl) rfl (fun _ _ h1 h2 => run_move (h1.ev rfl)) ?_
      obtain ⟨y129, hy129, H⟩ := bnd H
      refine Tr.callM [10] [emp] (U := (Option Addr × Nat)) (fun u => (.slice u.1 (y129).length u.2)) (fun u => SlF u.1 (y129).length u.2) (fun u => [ow u.1 u.2 29 fl_TRect y129]) rfl (pk_cons rfl pk_nil) (fun _ => rfl) (wn rfl) rfl Try.call41 (evl_cons rfl evl_nil) (fun W hW hp hE => F_shape_Set__Rects_ok N xF_shape_Pieces_L1 Au128_0 cu128_0 (hoku128_0.rl.ext (hW.extS hp)) y129 hy129 hE) ?_
      intro u hu
      obtain ⟨Ay129_0, cy129_0⟩ := u
      have gy129_0 := hu
      have hgy129_0 : SlF Ay129_0 (y129).length cy129_0 := gy129_0 --@phi
      show Tr _ _ (uf _ 23 (.slice Ay129_0 (y129).length cy129_0)) (up _ 10 (ow Ay129_0 cy129_0 29 fl_TRect y129)) _
      refine Tr.freeze 10 rfl fun w le132 hz131 => ?_
      replace hoku128_0 := hoku128_0.le le132
      replace leB := leB.trans le132
      replace leF_shape_Pieces_L1 := leF_shape_Pieces_L1.trans le132
      refine Tr.buildSlice 11 (e := 22) (vs := [(0, (.slice Ay129_0 (y129).length cy129_0))]) (cs := [(.slice Ay129_0 (y129).length cy129_0)]) (wn rfl) rfl (evs_cons rfl evs_nil) (by kernel_rfl) fun b133 => ?_
      obtain ⟨l134, hl134, H⟩ := bnd H
      refine Tr.append 3 (t := fl_LTRect) (l := l127) (l2 := [y129]) (wn rfl) rfl rfl rfl rfl (fun W hW => ⟨[[(.slice Ay129_0 (y129).length cy129_0)]], (.cons ⟨(Ay129_0, cy129_0), hz131, rfl⟩ .nil), rdb hW (vs := [(.slice Ay129_0 (y129).length cy129_0)]) (k := 11) rfl 0⟩) un_40 sz_22 zl_22 (by decide) by_22 rfl hl134 fun Al134 cl134 hAl134 => ?_
      refine Tr.val (wn rfl) rfl (fun _ _ h1 h2 => run_assign (h1.ev rfl)) ?_
      refine Tr.nil (Tr.normBlock (Tr.normThen ?_))
      refine Tr.region ?_
      refine Tr.val (wn rfl) rfl (fun _ _ h1 h2 => run_add (h1.ev rfl) (h1.ev rfl)) ?_
      refine Tr.val (wn rfl) rfl (fun _ _ h1 h2 => run_move (h1.ev rfl)) ?_
      refine Tr.nil ?_
      exact Tr.backThen leF_shape_Pieces_L1 (restF_shape_Pieces_L1, (iF_shape_Pieces_L1 + 1), l134, Al134, cl134) ⟨rfl, range_tl hdF_shape_Pieces_L1, range_lt hdF_shape_Pieces_L1, H, hAl134⟩ (.cons rfl (.cons rfl (.cons rfl (.cons (congrArg (fun z => some (Value.int .i64 z)) (range_up hdF_shape_Pieces_L1 hgy103_0)) .nil)))) (.cons rfl (.cons rfl .nil))

end Go.Proofs.Ytnlhigfglfahiaa
