/- The walks: each function computes its plain function. -/
import Derived.Test.YtcebbfodkadggaaXWc
namespace Go.Proofs.Ytcebbfodkadggaa
open Go.RowKit
set_option maxRecDepth 100000
set_option maxHeartbeats 1000000
theorem F_shape_two__And_ok (N : Nat) {w : Bs} (p0 : (List TRect)) (Ap0_0 : Option Addr) (cp0_0 : Nat) (hp0_0 : Sl w.R w.W fl_TRect Ap0_0 cp0_0 p0) (p1 : (List TRect)) (Ap1_0 : Option Addr) (cp1_0 : Nat) (hp1_0 : Sl w.R w.W fl_TRect Ap1_0 cp1_0 p1) (r : ((List TRect) × Int)) (H : F_shape_two__And N p0 p1 = some r) (hE : HF w w.W (LEn [emp])) : Calls Try.prog 77 [(.slice Ap0_0 (p0).length cp0_0), (.slice Ap1_0 (p1).length cp1_0), (.func (.func 80) #[] #[])].toArray w.W fun e W' => ∃ u : (Option Addr × Nat), e = .returned (.tuple #[(.slice u.1 (r.1).length u.2), (.int .i64 r.2)]) ∧ (SlF u.1 (r.1).length u.2) ∧ HF w W' (LEn [ow u.1 u.2 29 fl_TRect r.1]) := by
  unfold F_shape_two__And at H
  have leB := Bs.Le.refl w
  refine Tr.enter (n := 29) Try.func77 rfl rfl rfl hE ?_
  refine Tr.seq ?_
  refine Tr.region ?_
  refine Tr.val (wn rfl) rfl (fun _ _ h1 h2 => run_assign (h1.ev rfl)) ?_
  refine Tr.nilOwn 1 29 fl_TRect ?_
  show Tr _ _ (uf _ 6 (.slice none (([] : List TRect)).length 0)) _ _
  refine Tr.val (wn rfl) rfl (fun _ _ h1 h2 => run_assign (h1.ev rfl)) ?_
  refine Tr.nil (Tr.normThen ?_)
  refine Tr.seq ?_
  refine Tr.seq ?_
  refine Tr.region ?_
  refine Tr.val (wn rfl) rfl (fun _ _ h1 h2 => run_move (h1.ev rfl)) ?_
  obtain ⟨y100, hy100, H⟩ := bnd H
  refine Tr.call0 (r := (.int .i64 y100)) (wn rfl) rfl Try.call17 (evl_cons rfl evl_nil) (fun W hW => F_shape_CheckRegion_ok N p0 Ap0_0 cp0_0 (hp0_0.ext hW.extAll) y100 hy100 (HF.start _)) ?_
  refine Tr.val (wn rfl) rfl (fun _ _ h1 h2 => run_assign (h1.ev rfl)) ?_
  refine Tr.nil (Tr.normThen ?_)
  refine Tr.seq ?_
  refine Tr.region ?_
  refine Tr.val (wn rfl) rfl (fun _ _ h1 h2 => run_move (h1.ev rfl)) ?_
  refine Tr.val (wn rfl) rfl (fun _ _ h1 h2 => run_neq (h1.ev rfl) (h1.ev rfl)) ?_
  refine Tr.nil (Tr.normThen ?_)
  refine Tr.cond rfl H (fun H => ?_) (fun H => ?_)
  · refine Tr.seq ?_
    refine Tr.region ?_
    refine Tr.val (wn rfl) rfl (fun _ _ h1 h2 => run_move (h1.ev rfl)) ?_
    refine Tr.val (wn rfl) rfl (fun _ _ h1 h2 => run_assign (h1.ev rfl)) ?_
    refine Tr.nilOwn 2 29 fl_TRect ?_
    show Tr _ _ (uf _ 6 (.slice none (([] : List TRect)).length 0)) _ _
    refine Tr.val (wn rfl) rfl (fun _ _ h1 h2 => run_assign (h1.ev rfl)) ?_
    refine Tr.nil (Tr.normThen ?_)
    refine Tr.ret (Tr.retThen ?_)
    obtain rfl := Option.some.inj H
    exact Tr.out (m := [(.slice none (([] : List TRect)).length 0), (.int .i64 y100)]) [] (res_tmp rfl (res_tmp rfl res_nil)) (fun W hW => ⟨(none, 0), rfl, slf_nil, HF.lowE leB (hW.pick (ks := [2]) (by decide) (pk_cons rfl pk_nil)) ⟨ow_any _ _ _ _ tr_TRect, trivial⟩⟩)
  · refine Tr.skip (Tr.normThen ?_)
    refine Tr.seq ?_
    refine Tr.seq ?_
    refine Tr.region ?_
    refine Tr.val (wn rfl) rfl (fun _ _ h1 h2 => run_move (h1.ev rfl)) ?_
    obtain ⟨y101, hy101, H⟩ := bnd H
    refine Tr.call0 (r := (.int .i64 y101)) (wn rfl) rfl Try.call17 (evl_cons rfl evl_nil) (fun W hW => F_shape_CheckRegion_ok N p1 Ap1_0 cp1_0 (hp1_0.ext hW.extAll) y101 hy101 (HF.start _)) ?_
    refine Tr.val (wn rfl) rfl (fun _ _ h1 h2 => run_assign (h1.ev rfl)) ?_
    refine Tr.nil (Tr.normThen ?_)
    refine Tr.seq ?_
    refine Tr.region ?_
    refine Tr.val (wn rfl) rfl (fun _ _ h1 h2 => run_move (h1.ev rfl)) ?_
    refine Tr.val (wn rfl) rfl (fun _ _ h1 h2 => run_neq (h1.ev rfl) (h1.ev rfl)) ?_
    refine Tr.nil (Tr.normThen ?_)
    refine Tr.cond rfl H (fun H => ?_) (fun H => ?_)
    · refine Tr.seq ?_
      refine Tr.region ?_
      refine Tr.val (wn rfl) rfl (fun _ _ h1 h2 => run_move (h1.ev rfl)) ?_
      refine Tr.val (wn rfl) rfl (fun _ _ h1 h2 => run_assign (h1.ev rfl)) ?_
      refine Tr.nilOwn 3 29 fl_TRect ?_
      show Tr _ _ (uf _ 6 (.slice none (([] : List TRect)).length 0)) _ _
      refine Tr.val (wn rfl) rfl (fun _ _ h1 h2 => run_assign (h1.ev rfl)) ?_
      refine Tr.nil (Tr.normThen ?_)
      refine Tr.ret (Tr.retThen ?_)
      obtain rfl := Option.some.inj H
      exact Tr.out (m := [(.slice none (([] : List TRect)).length 0), (.int .i64 y101)]) [] (res_tmp rfl (res_tmp rfl res_nil)) (fun W hW => ⟨(none, 0), rfl, slf_nil, HF.lowE leB (hW.pick (ks := [3]) (by decide) (pk_cons rfl pk_nil)) ⟨ow_any _ _ _ _ tr_TRect, trivial⟩⟩)
    · refine Tr.skip (Tr.normThen ?_)
      refine Tr.seq ?_
      refine Tr.region ?_
      refine Tr.val (wn rfl) rfl (fun _ _ h1 h2 => run_move (h1.ev rfl)) ?_
      refine Tr.val (wn rfl) rfl (fun _ _ h1 h2 => run_move (h1.ev rfl)) ?_
      obtain ⟨y102, hy102, H⟩ := bnd H
      refine Tr.callG [4] [emp] (U := (Option Addr × Nat)) (fun u => (.slice u.1 (y102).length u.2)) (fun O W u => SlF u.1 (y102).length u.2) (fun u => [ow u.1 u.2 96 fl_TBand y102]) rfl (pk_cons rfl pk_nil) (fun _ => rfl) (wn rfl) rfl Try.call50 (evl_cons rfl evl_nil) (fun W hW hp hE => F_shape_SetOf_ok N p0 Ap0_0 cp0_0 (hp0_0.ext (hW.extS hp)) y102 hy102 hE) ?_
      intro w u le103 hu
      obtain ⟨Ay102_0, cy102_0⟩ := u
      have gy102_0 := hu
      replace hp0_0 := hp0_0.leR le103
      replace hp1_0 := hp1_0.leR le103
      replace leB := leB.trans le103
      have hgy102_0 : SlF Ay102_0 (y102).length cy102_0 := gy102_0 --@phi
      show Tr _ _ (uf _ 22 (.slice Ay102_0 (y102).length cy102_0)) (up _ 4 (ow Ay102_0 cy102_0 96 fl_TBand y102)) _
      refine Tr.val (wn rfl) rfl (fun _ _ h1 h2 => run_move (h1.ev rfl)) ?_
      obtain ⟨y104, hy104, H⟩ := bnd H
      refine Tr.callG [5] [emp] (U := (Option Addr × Nat)) (fun u => (.slice u.1 (y104).length u.2)) (fun O W u => SlF u.1 (y104).length u.2) (fun u => [ow u.1 u.2 96 fl_TBand y104]) rfl (pk_cons rfl pk_nil) (fun _ => rfl) (wn rfl) rfl Try.call50 (evl_cons rfl evl_nil) (fun W hW hp hE => F_shape_SetOf_ok N p1 Ap1_0 cp1_0 (hp1_0.ext (hW.extS hp)) y104 hy104 hE) ?_
      intro w u le105 hu
      obtain ⟨Ay104_0, cy104_0⟩ := u
      have gy104_0 := hu
      replace hp0_0 := hp0_0.leR le105
      replace hp1_0 := hp1_0.leR le105
      replace leB := leB.trans le105
      have hgy104_0 : SlF Ay104_0 (y104).length cy104_0 := gy104_0 --@phi
      show Tr _ _ (uf _ 24 (.slice Ay104_0 (y104).length cy104_0)) (up _ 5 (ow Ay104_0 cy104_0 96 fl_TBand y104)) _
      refine Tr.freeze 4 rfl fun w le107 hz106 => ?_
      replace hp0_0 := hp0_0.leR le107
      replace hp1_0 := hp1_0.leR le107
      replace leB := leB.trans le107
      refine Tr.freeze 5 rfl fun w le109 hz108 => ?_
      replace hp0_0 := hp0_0.leR le109
      replace hp1_0 := hp1_0.leR le109
      replace hz106 := hz106.le le109
      replace leB := leB.trans le109
      obtain ⟨y110, hy110, H⟩ := bnd H
      refine Tr.callGV [6] [emp] (U := (Option Addr × Nat)) (fun u => (.slice u.1 (y110).length u.2)) (fun O W u => SlF u.1 (y110).length u.2) (fun u => [ow u.1 u.2 96 fl_TBand y110]) rfl (pk_cons rfl pk_nil) (fun _ => rfl) (wn rfl) rfl rfl Try.call80 (evl_cons rfl (evl_cons rfl evl_nil)) (fun W hW hp hE => F_shape_Set__And_ok N y102 Ay102_0 cy102_0 (hz106.extO (hW.extS hp)) y104 Ay104_0 cy104_0 (hz108.extO (hW.extS hp)) y110 hy110 hE) ?_
      intro w u le111 hu
      obtain ⟨Ay110_0, cy110_0⟩ := u
      have gy110_0 := hu
      replace hp0_0 := hp0_0.leR le111
      replace hp1_0 := hp1_0.leR le111
      replace hz106 := hz106.le le111
      replace hz108 := hz108.le le111
      replace leB := leB.trans le111
      have hgy110_0 : SlF Ay110_0 (y110).length cy110_0 := gy110_0 --@phi
      show Tr _ _ (uf _ 25 (.slice Ay110_0 (y110).length cy110_0)) (up _ 6 (ow Ay110_0 cy110_0 96 fl_TBand y110)) _
      obtain ⟨y112, hy112, H⟩ := bnd H
      refine Tr.callM [7] [emp] (U := (Option Addr × Nat)) (fun u => (.tuple #[(.slice u.1 (y112.1).length u.2), (.int .i64 y112.2)])) (fun u => SlF u.1 (y112.1).length u.2) (fun u => [ow u.1 u.2 29 fl_TRect y112.1]) rfl (pk_cons rfl pk_nil) (fun _ => rfl) (wn rfl) rfl Try.call51 (evl_cons rfl evl_nil) (fun W hW hp hE => F_shape_Set__Told_ok N y110 Ay110_0 cy110_0 (hW.slS (k := 6) rfl hp rfl) y112 hy112 hE) ?_
      intro u hu
      obtain ⟨Ay112_0, cy112_0⟩ := u
      have gy112_0 := hu
      have hgy112_0 : SlF Ay112_0 (y112.1).length cy112_0 := gy112_0 --@phi
      show Tr _ _ (uf _ 26 (.tuple #[(.slice Ay112_0 (y112.1).length cy112_0), (.int .i64 y112.2)])) (up _ 7 (ow Ay112_0 cy112_0 29 fl_TRect y112.1)) _
      refine Tr.val (wn rfl) rfl (fun _ _ h1 h2 => run_extract (h1.ev rfl) rfl) ?_
      refine Tr.val (wn rfl) rfl (fun _ _ h1 h2 => run_extract (h1.ev rfl) rfl) ?_
      refine Tr.val (wn rfl) rfl (fun _ _ h1 h2 => run_assign (h1.ev rfl)) ?_
      refine Tr.val (wn rfl) rfl (fun _ _ h1 h2 => run_assign (h1.ev rfl)) ?_
      refine Tr.nil (Tr.normThen ?_)
      refine Tr.ret ?_
      obtain rfl := Option.some.inj H
      exact Tr.out (m := [(.slice Ay112_0 (y112.1).length cy112_0), (.int .i64 y112.2)]) [] (res_tmp rfl (res_tmp rfl res_nil)) (fun W hW => ⟨(Ay112_0, cy112_0), rfl, hgy112_0, HF.lowE leB (hW.pick (ks := [7]) (by decide) (pk_cons rfl pk_nil)) ⟨ow_any _ _ _ _ tr_TRect, trivial⟩⟩)

theorem F_shape_Both_ok (N : Nat) {w : Bs} (p0 : (List TRect)) (Ap0_0 : Option Addr) (cp0_0 : Nat) (hp0_0 : Sl w.R w.W fl_TRect Ap0_0 cp0_0 p0) (p1 : (List TRect)) (Ap1_0 : Option Addr) (cp1_0 : Nat) (hp1_0 : Sl w.R w.W fl_TRect Ap1_0 cp1_0 p1) (r : ((List TRect) × Int)) (H : F_shape_Both N p0 p1 = some r) (hE : HF w w.W (LEn [emp])) : Calls Try.prog 42 [(.slice Ap0_0 (p0).length cp0_0), (.slice Ap1_0 (p1).length cp1_0)].toArray w.W fun e W' => ∃ u : (Option Addr × Nat), e = .returned (.tuple #[(.slice u.1 (r.1).length u.2), (.int .i64 r.2)]) ∧ (SlF u.1 (r.1).length u.2) ∧ HF w W' (LEn [ow u.1 u.2 29 fl_TRect r.1]) := by
  unfold F_shape_Both at H
  have leB := Bs.Le.refl w
  refine Tr.enter (n := 11) Try.func42 rfl rfl rfl hE ?_
  refine Tr.seq ?_
  refine Tr.region ?_
  refine Tr.val (wn rfl) rfl (fun _ _ h1 h2 => run_assign (h1.ev rfl)) ?_
  refine Tr.nilOwn 1 29 fl_TRect ?_
  show Tr _ _ (uf _ 4 (.slice none (([] : List TRect)).length 0)) _ _
  refine Tr.val (wn rfl) rfl (fun _ _ h1 h2 => run_assign (h1.ev rfl)) ?_
  refine Tr.nil (Tr.normThen ?_)
  refine Tr.seq ?_
  refine Tr.region ?_
  refine Tr.val (wn rfl) rfl (fun _ _ h1 h2 => run_move (h1.ev rfl)) ?_
  refine Tr.val (wn rfl) rfl (fun _ _ h1 h2 => run_move (h1.ev rfl)) ?_
  obtain ⟨y100, hy100, H⟩ := bnd H
  refine Tr.callM [2] [emp] (U := (Option Addr × Nat)) (fun u => (.tuple #[(.slice u.1 (y100.1).length u.2), (.int .i64 y100.2)])) (fun u => SlF u.1 (y100.1).length u.2) (fun u => [ow u.1 u.2 29 fl_TRect y100.1]) rfl (pk_cons rfl pk_nil) (fun _ => rfl) (wn rfl) rfl Try.call77 (evl_cons rfl (evl_cons rfl (evl_cons rfl evl_nil))) (fun W hW hp hE => F_shape_two__And_ok N p0 Ap0_0 cp0_0 (hp0_0.ext (hW.extS hp)) p1 Ap1_0 cp1_0 (hp1_0.ext (hW.extS hp)) y100 hy100 hE) ?_
  intro u hu
  obtain ⟨Ay100_0, cy100_0⟩ := u
  have gy100_0 := hu
  have hgy100_0 : SlF Ay100_0 (y100.1).length cy100_0 := gy100_0 --@phi
  show Tr _ _ (uf _ 8 (.tuple #[(.slice Ay100_0 (y100.1).length cy100_0), (.int .i64 y100.2)])) (up _ 2 (ow Ay100_0 cy100_0 29 fl_TRect y100.1)) _
  refine Tr.val (wn rfl) rfl (fun _ _ h1 h2 => run_extract (h1.ev rfl) rfl) ?_
  refine Tr.val (wn rfl) rfl (fun _ _ h1 h2 => run_extract (h1.ev rfl) rfl) ?_
  refine Tr.val (wn rfl) rfl (fun _ _ h1 h2 => run_assign (h1.ev rfl)) ?_
  refine Tr.val (wn rfl) rfl (fun _ _ h1 h2 => run_assign (h1.ev rfl)) ?_
  refine Tr.nil (Tr.normThen ?_)
  refine Tr.ret ?_
  obtain rfl := Option.some.inj H
  exact Tr.out (m := [(.slice Ay100_0 (y100.1).length cy100_0), (.int .i64 y100.2)]) [] (res_tmp rfl (res_tmp rfl res_nil)) (fun W hW => ⟨(Ay100_0, cy100_0), rfl, hgy100_0, HF.lowE leB (hW.pick (ks := [2]) (by decide) (pk_cons rfl pk_nil)) ⟨ow_any _ _ _ _ tr_TRect, trivial⟩⟩)

theorem F_etchhouseref1_Both_ok (N : Nat) {w : Bs} (p0 : (List TRect)) (Ap0_0 : Option Addr) (cp0_0 : Nat) (hp0_0 : Sl w.R w.W fl_TRect Ap0_0 cp0_0 p0) (p1 : (List TRect)) (Ap1_0 : Option Addr) (cp1_0 : Nat) (hp1_0 : Sl w.R w.W fl_TRect Ap1_0 cp1_0 p1) (r : ((List TRect) × Int)) (H : F_etchhouseref1_Both N p0 p1 = some r) (hE : HF w w.W (LEn [])) : Calls Try.prog 43 [(.slice Ap0_0 (p0).length cp0_0), (.slice Ap1_0 (p1).length cp1_0)].toArray w.W fun e W' => ∃ (w' : Bs) (u : (Option Addr × Nat)), w.Le w' ∧ e = .returned (.tuple #[(.slice u.1 (r.1).length u.2), (.int .i64 r.2)]) ∧ (Sl w'.O w'.W fl_TRect u.1 u.2 r.1) ∧ HF w' W' (LEn []) := by
  unfold F_etchhouseref1_Both at H
  have leB := Bs.Le.refl w
  refine Tr.enter (n := 11) Try.func43 rfl rfl rfl hE ?_
  refine Tr.seq ?_
  refine Tr.region ?_
  refine Tr.val (wn rfl) rfl (fun _ _ h1 h2 => run_assign (h1.ev rfl)) ?_
  refine Tr.nilOwn 1 29 fl_TRect ?_
  show Tr _ _ (uf _ 4 (.slice none (([] : List TRect)).length 0)) _ _
  refine Tr.val (wn rfl) rfl (fun _ _ h1 h2 => run_assign (h1.ev rfl)) ?_
  refine Tr.nil (Tr.normThen ?_)
  refine Tr.seq ?_
  refine Tr.region ?_
  refine Tr.val (wn rfl) rfl (fun _ _ h1 h2 => run_move (h1.ev rfl)) ?_
  refine Tr.val (wn rfl) rfl (fun _ _ h1 h2 => run_move (h1.ev rfl)) ?_
  obtain ⟨y100, hy100, H⟩ := bnd H
  refine Tr.callG [] [] (U := (Option Addr × Nat)) (fun u => (.tuple #[(.slice u.1 (y100.1).length u.2), (.int .i64 y100.2)])) (fun O W u => Sl O W fl_TRect u.1 u.2 y100.1) (fun u => []) rfl pk_nil (fun _ => rfl) (wn rfl) rfl Try.call79 (evl_cons rfl (evl_cons rfl (evl_cons rfl evl_nil))) (fun W hW hp hE => F_etchhouseref1_two_ok N p0 Ap0_0 cp0_0 (hp0_0.ext (hW.extS hp)) p1 Ap1_0 cp1_0 (hp1_0.ext (hW.extS hp)) 2 y100 hy100 hE) ?_
  intro w u le101 hu
  obtain ⟨Ay100_0, cy100_0⟩ := u
  have gy100_0 := hu
  replace hp0_0 := hp0_0.leR le101
  replace hp1_0 := hp1_0.leR le101
  replace leB := leB.trans le101
  have hgy100_0 : Sl w.O w.W fl_TRect Ay100_0 cy100_0 y100.1 := gy100_0 --@phi
  show Tr _ _ (uf _ 8 (.tuple #[(.slice Ay100_0 (y100.1).length cy100_0), (.int .i64 y100.2)])) (_) _
  refine Tr.val (wn rfl) rfl (fun _ _ h1 h2 => run_extract (h1.ev rfl) rfl) ?_
  refine Tr.val (wn rfl) rfl (fun _ _ h1 h2 => run_extract (h1.ev rfl) rfl) ?_
  refine Tr.val (wn rfl) rfl (fun _ _ h1 h2 => run_assign (h1.ev rfl)) ?_
  refine Tr.val (wn rfl) rfl (fun _ _ h1 h2 => run_assign (h1.ev rfl)) ?_
  refine Tr.nil (Tr.normThen ?_)
  refine Tr.ret ?_
  obtain rfl := Option.some.inj H
  exact Tr.out (m := [(.slice Ay100_0 (y100.1).length cy100_0), (.int .i64 y100.2)]) [] (res_tmp rfl (res_tmp rfl res_nil)) (fun W hW => ⟨w, (Ay100_0, cy100_0), leB, rfl, hgy100_0, hW.pick (ks := []) (by decide) pk_nil⟩)

theorem F_shape_Set__Less_1_ok {w : Bs} (p0 : Bool) (p1 : Bool) (r : Bool) (H : F_shape_Set__Less_1 p0 p1 = some r) (hE : HF w w.W E0) : Calls Try.prog 111 [(.bool p0), (.bool p1)].toArray w.W fun e W' => e = .returned (.bool r) ∧ HF w W' E0 := by
  unfold F_shape_Set__Less_1 at H
  have leB := Bs.Le.refl w
  refine Tr.enter (n := 10) Try.func111 rfl rfl rfl hE ?_
  refine Tr.seq ?_
  refine Tr.region ?_
  refine Tr.val (wn rfl) rfl (fun _ _ h1 h2 => run_assign (h1.ev rfl)) ?_
  refine Tr.nil (Tr.normThen ?_)
  refine Tr.seq ?_
  refine Tr.region ?_
  refine Tr.val (wn rfl) rfl (fun _ _ h1 h2 => run_move (h1.ev rfl)) ?_
  refine Tr.val (wn rfl) rfl (fun _ _ h1 h2 => run_move (h1.ev rfl)) ?_
  refine Tr.mid0 3 [(9, (.bool (p0 && (!p1))))] [] ?_ ?_
  · cases hg99 : p0
    · refine Tr.pass rfl rfl rfl rfl rfl (by decide) ?_
      refine Tr.pass rfl rfl rfl rfl rfl (by decide) ?_
      refine Tr.val (wn rfl) rfl (fun _ _ h1 h2 => run_pickF (h1.ev rfl) (h1.ev rfl)) ?_
      exact Tr.nil (Tr.fin0 (.cons rfl .nil) .nil)
    · refine Tr.val (wg rfl rfl rfl) rfl (fun _ _ h1 h2 => run_move (h1.ev rfl)) ?_
      refine Tr.val (wg rfl rfl rfl) rfl (fun _ _ h1 h2 => run_not (h1.ev rfl)) ?_
      refine Tr.val (wn rfl) rfl (fun _ _ h1 h2 => run_pickT (h1.ev rfl) (h1.ev rfl)) ?_
      exact Tr.nil (Tr.fin0 (.cons rfl .nil) .nil)
  · show Tr _ _ (LF [(9, (.bool (p0 && (!p1))))]) (LE []) _
    refine Tr.val (wn rfl) rfl (fun _ _ h1 h2 => run_assign (h1.ev rfl)) ?_
    refine Tr.nil (Tr.normThen ?_)
    refine Tr.ret ?_
    obtain rfl := Option.some.inj H
    exact Tr.out (m := [(.bool (p0 && (!p1)))]) [] (res_tmp rfl res_nil) (fun W hW => ⟨rfl, hW.low leB⟩)

theorem F_shape_Set__Less_ok (N : Nat) {w : Bs} (p0 : (List TBand)) (Ap0_0 : Option Addr) (cp0_0 : Nat) (hp0_0 : Sl w.O w.W fl_TBand Ap0_0 cp0_0 p0) (p1 : (List TBand)) (Ap1_0 : Option Addr) (cp1_0 : Nat) (hp1_0 : Sl w.O w.W fl_TBand Ap1_0 cp1_0 p1) (r : (List TBand)) (H : F_shape_Set__Less N p0 p1 = some r) (hE : HF w w.W (LEn [emp])) : Calls Try.prog 81 [(.slice Ap0_0 (p0).length cp0_0), (.slice Ap1_0 (p1).length cp1_0)].toArray w.W fun e W' => ∃ (w' : Bs) (u : (Option Addr × Nat)), w.Le w' ∧ e = .returned (.slice u.1 (r).length u.2) ∧ (SlF u.1 (r).length u.2) ∧ HF w' W' (LEn [ow u.1 u.2 96 fl_TBand r]) := by
  unfold F_shape_Set__Less at H
  have leB := Bs.Le.refl w
  refine Tr.enter (n := 8) Try.func81 rfl rfl rfl hE ?_
  refine Tr.seq ?_
  refine Tr.region ?_
  refine Tr.val (wn rfl) rfl (fun _ _ h1 h2 => run_assign (h1.ev rfl)) ?_
  refine Tr.nilOwn 1 96 fl_TBand ?_
  show Tr _ _ (uf _ 4 (.slice none (([] : List TBand)).length 0)) _ _
  refine Tr.nil (Tr.normThen ?_)
  refine Tr.seq ?_
  refine Tr.region ?_
  refine Tr.val (wn rfl) rfl (fun _ _ h1 h2 => run_move (h1.ev rfl)) ?_
  refine Tr.val (wn rfl) rfl (fun _ _ h1 h2 => run_move (h1.ev rfl)) ?_
  obtain ⟨y100, hy100, H⟩ := bnd H
  refine Tr.callG [2] [emp] (U := (Option Addr × Nat)) (fun u => (.slice u.1 (y100).length u.2)) (fun O W u => SlF u.1 (y100).length u.2) (fun u => [ow u.1 u.2 96 fl_TBand y100]) rfl (pk_cons rfl pk_nil) (fun _ => rfl) (wn rfl) rfl Try.call107 (evl_cons rfl (evl_cons rfl (evl_cons rfl evl_nil))) (fun W hW hp hE => F_shape_Merge_ok N p0 Ap0_0 cp0_0 (hp0_0.extO (hW.extS hp)) p1 Ap1_0 cp1_0 (hp1_0.extO (hW.extS hp)) (fun z0 z1 => F_shape_Set__Less_1 z0 z1) 111 [] Try.call111 (fun w' he z0 z1 y hy => F_shape_Set__Less_1_ok z0 z1 y hy (HF.start _)) y100 hy100 hE) ?_
  intro w u le101 hu
  obtain ⟨Ay100_0, cy100_0⟩ := u
  have gy100_0 := hu
  replace hp0_0 := hp0_0.le le101
  replace hp1_0 := hp1_0.le le101
  replace leB := leB.trans le101
  have hgy100_0 : SlF Ay100_0 (y100).length cy100_0 := gy100_0 --@phi
  show Tr _ _ (uf _ 7 (.slice Ay100_0 (y100).length cy100_0)) (up _ 2 (ow Ay100_0 cy100_0 96 fl_TBand y100)) _
  refine Tr.val (wn rfl) rfl (fun _ _ h1 h2 => run_assign (h1.ev rfl)) ?_
  refine Tr.nil (Tr.normThen ?_)
  refine Tr.ret ?_
  obtain rfl := Option.some.inj H
  exact Tr.out (m := [(.slice Ay100_0 (y100).length cy100_0)]) [] (res_tmp rfl res_nil) (fun W hW => ⟨w, (Ay100_0, cy100_0), leB, rfl, hgy100_0, hW.pick (ks := [2]) (by decide) (pk_cons rfl pk_nil)⟩)

theorem F_shape_two__Less_ok (N : Nat) {w : Bs} (p0 : (List TRect)) (Ap0_0 : Option Addr) (cp0_0 : Nat) (hp0_0 : Sl w.R w.W fl_TRect Ap0_0 cp0_0 p0) (p1 : (List TRect)) (Ap1_0 : Option Addr) (cp1_0 : Nat) (hp1_0 : Sl w.R w.W fl_TRect Ap1_0 cp1_0 p1) (r : ((List TRect) × Int)) (H : F_shape_two__Less N p0 p1 = some r) (hE : HF w w.W (LEn [emp])) : Calls Try.prog 77 [(.slice Ap0_0 (p0).length cp0_0), (.slice Ap1_0 (p1).length cp1_0), (.func (.func 81) #[] #[])].toArray w.W fun e W' => ∃ u : (Option Addr × Nat), e = .returned (.tuple #[(.slice u.1 (r.1).length u.2), (.int .i64 r.2)]) ∧ (SlF u.1 (r.1).length u.2) ∧ HF w W' (LEn [ow u.1 u.2 29 fl_TRect r.1]) := by
  unfold F_shape_two__Less at H
  have leB := Bs.Le.refl w
  refine Tr.enter (n := 29) Try.func77 rfl rfl rfl hE ?_
  refine Tr.seq ?_
  refine Tr.region ?_
  refine Tr.val (wn rfl) rfl (fun _ _ h1 h2 => run_assign (h1.ev rfl)) ?_
  refine Tr.nilOwn 1 29 fl_TRect ?_
  show Tr _ _ (uf _ 6 (.slice none (([] : List TRect)).length 0)) _ _
  refine Tr.val (wn rfl) rfl (fun _ _ h1 h2 => run_assign (h1.ev rfl)) ?_
  refine Tr.nil (Tr.normThen ?_)
  refine Tr.seq ?_
  refine Tr.seq ?_
  refine Tr.region ?_
  refine Tr.val (wn rfl) rfl (fun _ _ h1 h2 => run_move (h1.ev rfl)) ?_
  obtain ⟨y100, hy100, H⟩ := bnd H
  refine Tr.call0 (r := (.int .i64 y100)) (wn rfl) rfl Try.call17 (evl_cons rfl evl_nil) (fun W hW => F_shape_CheckRegion_ok N p0 Ap0_0 cp0_0 (hp0_0.ext hW.extAll) y100 hy100 (HF.start _)) ?_
  refine Tr.val (wn rfl) rfl (fun _ _ h1 h2 => run_assign (h1.ev rfl)) ?_
  refine Tr.nil (Tr.normThen ?_)
  refine Tr.seq ?_
  refine Tr.region ?_
  refine Tr.val (wn rfl) rfl (fun _ _ h1 h2 => run_move (h1.ev rfl)) ?_
  refine Tr.val (wn rfl) rfl (fun _ _ h1 h2 => run_neq (h1.ev rfl) (h1.ev rfl)) ?_
  refine Tr.nil (Tr.normThen ?_)
  refine Tr.cond rfl H (fun H => ?_) (fun H => ?_)
  · refine Tr.seq ?_
    refine Tr.region ?_
    refine Tr.val (wn rfl) rfl (fun _ _ h1 h2 => run_move (h1.ev rfl)) ?_
    refine Tr.val (wn rfl) rfl (fun _ _ h1 h2 => run_assign (h1.ev rfl)) ?_
    refine Tr.nilOwn 2 29 fl_TRect ?_
    show Tr _ _ (uf _ 6 (.slice none (([] : List TRect)).length 0)) _ _
    refine Tr.val (wn rfl) rfl (fun _ _ h1 h2 => run_assign (h1.ev rfl)) ?_
    refine Tr.nil (Tr.normThen ?_)
    refine Tr.ret (Tr.retThen ?_)
    obtain rfl := Option.some.inj H
    exact Tr.out (m := [(.slice none (([] : List TRect)).length 0), (.int .i64 y100)]) [] (res_tmp rfl (res_tmp rfl res_nil)) (fun W hW => ⟨(none, 0), rfl, slf_nil, HF.lowE leB (hW.pick (ks := [2]) (by decide) (pk_cons rfl pk_nil)) ⟨ow_any _ _ _ _ tr_TRect, trivial⟩⟩)
  · refine Tr.skip (Tr.normThen ?_)
    refine Tr.seq ?_
    refine Tr.seq ?_
    refine Tr.region ?_
    refine Tr.val (wn rfl) rfl (fun _ _ h1 h2 => run_move (h1.ev rfl)) ?_
    obtain ⟨y101, hy101, H⟩ := bnd H
    refine Tr.call0 (r := (.int .i64 y101)) (wn rfl) rfl Try.call17 (evl_cons rfl evl_nil) (fun W hW => F_shape_CheckRegion_ok N p1 Ap1_0 cp1_0 (hp1_0.ext hW.extAll) y101 hy101 (HF.start _)) ?_
    refine Tr.val (wn rfl) rfl (fun _ _ h1 h2 => run_assign (h1.ev rfl)) ?_
    refine Tr.nil (Tr.normThen ?_)
    refine Tr.seq ?_
    refine Tr.region ?_
    refine Tr.val (wn rfl) rfl (fun _ _ h1 h2 => run_move (h1.ev rfl)) ?_
    refine Tr.val (wn rfl) rfl (fun _ _ h1 h2 => run_neq (h1.ev rfl) (h1.ev rfl)) ?_
    refine Tr.nil (Tr.normThen ?_)
    refine Tr.cond rfl H (fun H => ?_) (fun H => ?_)
    · refine Tr.seq ?_
      refine Tr.region ?_
      refine Tr.val (wn rfl) rfl (fun _ _ h1 h2 => run_move (h1.ev rfl)) ?_
      refine Tr.val (wn rfl) rfl (fun _ _ h1 h2 => run_assign (h1.ev rfl)) ?_
      refine Tr.nilOwn 3 29 fl_TRect ?_
      show Tr _ _ (uf _ 6 (.slice none (([] : List TRect)).length 0)) _ _
      refine Tr.val (wn rfl) rfl (fun _ _ h1 h2 => run_assign (h1.ev rfl)) ?_
      refine Tr.nil (Tr.normThen ?_)
      refine Tr.ret (Tr.retThen ?_)
      obtain rfl := Option.some.inj H
      exact Tr.out (m := [(.slice none (([] : List TRect)).length 0), (.int .i64 y101)]) [] (res_tmp rfl (res_tmp rfl res_nil)) (fun W hW => ⟨(none, 0), rfl, slf_nil, HF.lowE leB (hW.pick (ks := [3]) (by decide) (pk_cons rfl pk_nil)) ⟨ow_any _ _ _ _ tr_TRect, trivial⟩⟩)
    · refine Tr.skip (Tr.normThen ?_)
      refine Tr.seq ?_
      refine Tr.region ?_
      refine Tr.val (wn rfl) rfl (fun _ _ h1 h2 => run_move (h1.ev rfl)) ?_
      refine Tr.val (wn rfl) rfl (fun _ _ h1 h2 => run_move (h1.ev rfl)) ?_
      obtain ⟨y102, hy102, H⟩ := bnd H
      refine Tr.callG [4] [emp] (U := (Option Addr × Nat)) (fun u => (.slice u.1 (y102).length u.2)) (fun O W u => SlF u.1 (y102).length u.2) (fun u => [ow u.1 u.2 96 fl_TBand y102]) rfl (pk_cons rfl pk_nil) (fun _ => rfl) (wn rfl) rfl Try.call50 (evl_cons rfl evl_nil) (fun W hW hp hE => F_shape_SetOf_ok N p0 Ap0_0 cp0_0 (hp0_0.ext (hW.extS hp)) y102 hy102 hE) ?_
      intro w u le103 hu
      obtain ⟨Ay102_0, cy102_0⟩ := u
      have gy102_0 := hu
      replace hp0_0 := hp0_0.leR le103
      replace hp1_0 := hp1_0.leR le103
      replace leB := leB.trans le103
      have hgy102_0 : SlF Ay102_0 (y102).length cy102_0 := gy102_0 --@phi
      show Tr _ _ (uf _ 22 (.slice Ay102_0 (y102).length cy102_0)) (up _ 4 (ow Ay102_0 cy102_0 96 fl_TBand y102)) _
      refine Tr.val (wn rfl) rfl (fun _ _ h1 h2 => run_move (h1.ev rfl)) ?_
      obtain ⟨y104, hy104, H⟩ := bnd H
      refine Tr.callG [5] [emp] (U := (Option Addr × Nat)) (fun u => (.slice u.1 (y104).length u.2)) (fun O W u => SlF u.1 (y104).length u.2) (fun u => [ow u.1 u.2 96 fl_TBand y104]) rfl (pk_cons rfl pk_nil) (fun _ => rfl) (wn rfl) rfl Try.call50 (evl_cons rfl evl_nil) (fun W hW hp hE => F_shape_SetOf_ok N p1 Ap1_0 cp1_0 (hp1_0.ext (hW.extS hp)) y104 hy104 hE) ?_
      intro w u le105 hu
      obtain ⟨Ay104_0, cy104_0⟩ := u
      have gy104_0 := hu
      replace hp0_0 := hp0_0.leR le105
      replace hp1_0 := hp1_0.leR le105
      replace leB := leB.trans le105
      have hgy104_0 : SlF Ay104_0 (y104).length cy104_0 := gy104_0 --@phi
      show Tr _ _ (uf _ 24 (.slice Ay104_0 (y104).length cy104_0)) (up _ 5 (ow Ay104_0 cy104_0 96 fl_TBand y104)) _
      refine Tr.freeze 4 rfl fun w le107 hz106 => ?_
      replace hp0_0 := hp0_0.leR le107
      replace hp1_0 := hp1_0.leR le107
      replace leB := leB.trans le107
      refine Tr.freeze 5 rfl fun w le109 hz108 => ?_
      replace hp0_0 := hp0_0.leR le109
      replace hp1_0 := hp1_0.leR le109
      replace hz106 := hz106.le le109
      replace leB := leB.trans le109
      obtain ⟨y110, hy110, H⟩ := bnd H
      refine Tr.callGV [6] [emp] (U := (Option Addr × Nat)) (fun u => (.slice u.1 (y110).length u.2)) (fun O W u => SlF u.1 (y110).length u.2) (fun u => [ow u.1 u.2 96 fl_TBand y110]) rfl (pk_cons rfl pk_nil) (fun _ => rfl) (wn rfl) rfl rfl Try.call81 (evl_cons rfl (evl_cons rfl evl_nil)) (fun W hW hp hE => F_shape_Set__Less_ok N y102 Ay102_0 cy102_0 (hz106.extO (hW.extS hp)) y104 Ay104_0 cy104_0 (hz108.extO (hW.extS hp)) y110 hy110 hE) ?_
      intro w u le111 hu
      obtain ⟨Ay110_0, cy110_0⟩ := u
      have gy110_0 := hu
      replace hp0_0 := hp0_0.leR le111
      replace hp1_0 := hp1_0.leR le111
      replace hz106 := hz106.le le111
      replace hz108 := hz108.le le111
      replace leB := leB.trans le111
      have hgy110_0 : SlF Ay110_0 (y110).length cy110_0 := gy110_0 --@phi
      show Tr _ _ (uf _ 25 (.slice Ay110_0 (y110).length cy110_0)) (up _ 6 (ow Ay110_0 cy110_0 96 fl_TBand y110)) _
      obtain ⟨y112, hy112, H⟩ := bnd H
      refine Tr.callM [7] [emp] (U := (Option Addr × Nat)) (fun u => (.tuple #[(.slice u.1 (y112.1).length u.2), (.int .i64 y112.2)])) (fun u => SlF u.1 (y112.1).length u.2) (fun u => [ow u.1 u.2 29 fl_TRect y112.1]) rfl (pk_cons rfl pk_nil) (fun _ => rfl) (wn rfl) rfl Try.call51 (evl_cons rfl evl_nil) (fun W hW hp hE => F_shape_Set__Told_ok N y110 Ay110_0 cy110_0 (hW.slS (k := 6) rfl hp rfl) y112 hy112 hE) ?_
      intro u hu
      obtain ⟨Ay112_0, cy112_0⟩ := u
      have gy112_0 := hu
      have hgy112_0 : SlF Ay112_0 (y112.1).length cy112_0 := gy112_0 --@phi
      show Tr _ _ (uf _ 26 (.tuple #[(.slice Ay112_0 (y112.1).length cy112_0), (.int .i64 y112.2)])) (up _ 7 (ow Ay112_0 cy112_0 29 fl_TRect y112.1)) _
      refine Tr.val (wn rfl) rfl (fun _ _ h1 h2 => run_extract (h1.ev rfl) rfl) ?_
      refine Tr.val (wn rfl) rfl (fun _ _ h1 h2 => run_extract (h1.ev rfl) rfl) ?_
      refine Tr.val (wn rfl) rfl (fun _ _ h1 h2 => run_assign (h1.ev rfl)) ?_
      refine Tr.val (wn rfl) rfl (fun _ _ h1 h2 => run_assign (h1.ev rfl)) ?_
      refine Tr.nil (Tr.normThen ?_)
      refine Tr.ret ?_
      obtain rfl := Option.some.inj H
      exact Tr.out (m := [(.slice Ay112_0 (y112.1).length cy112_0), (.int .i64 y112.2)]) [] (res_tmp rfl (res_tmp rfl res_nil)) (fun W hW => ⟨(Ay112_0, cy112_0), rfl, hgy112_0, HF.lowE leB (hW.pick (ks := [7]) (by decide) (pk_cons rfl pk_nil)) ⟨ow_any _ _ _ _ tr_TRect, trivial⟩⟩)

theorem F_shape_Minus_ok (N : Nat) {w : Bs} (p0 : (List TRect)) (Ap0_0 : Option Addr) (cp0_0 : Nat) (hp0_0 : Sl w.R w.W fl_TRect Ap0_0 cp0_0 p0) (p1 : (List TRect)) (Ap1_0 : Option Addr) (cp1_0 : Nat) (hp1_0 : Sl w.R w.W fl_TRect Ap1_0 cp1_0 p1) (r : ((List TRect) × Int)) (H : F_shape_Minus N p0 p1 = some r) (hE : HF w w.W (LEn [emp])) : Calls Try.prog 44 [(.slice Ap0_0 (p0).length cp0_0), (.slice Ap1_0 (p1).length cp1_0)].toArray w.W fun e W' => ∃ u : (Option Addr × Nat), e = .returned (.tuple #[(.slice u.1 (r.1).length u.2), (.int .i64 r.2)]) ∧ (SlF u.1 (r.1).length u.2) ∧ HF w W' (LEn [ow u.1 u.2 29 fl_TRect r.1]) := by
  unfold F_shape_Minus at H
  have leB := Bs.Le.refl w
  refine Tr.enter (n := 11) Try.func44 rfl rfl rfl hE ?_
  refine Tr.seq ?_
  refine Tr.region ?_
  refine Tr.val (wn rfl) rfl (fun _ _ h1 h2 => run_assign (h1.ev rfl)) ?_
  refine Tr.nilOwn 1 29 fl_TRect ?_
  show Tr _ _ (uf _ 4 (.slice none (([] : List TRect)).length 0)) _ _
  refine Tr.val (wn rfl) rfl (fun _ _ h1 h2 => run_assign (h1.ev rfl)) ?_
  refine Tr.nil (Tr.normThen ?_)
  refine Tr.seq ?_
  refine Tr.region ?_
  refine Tr.val (wn rfl) rfl (fun _ _ h1 h2 => run_move (h1.ev rfl)) ?_
  refine Tr.val (wn rfl) rfl (fun _ _ h1 h2 => run_move (h1.ev rfl)) ?_
  obtain ⟨y100, hy100, H⟩ := bnd H
  refine Tr.callM [2] [emp] (U := (Option Addr × Nat)) (fun u => (.tuple #[(.slice u.1 (y100.1).length u.2), (.int .i64 y100.2)])) (fun u => SlF u.1 (y100.1).length u.2) (fun u => [ow u.1 u.2 29 fl_TRect y100.1]) rfl (pk_cons rfl pk_nil) (fun _ => rfl) (wn rfl) rfl Try.call77 (evl_cons rfl (evl_cons rfl (evl_cons rfl evl_nil))) (fun W hW hp hE => F_shape_two__Less_ok N p0 Ap0_0 cp0_0 (hp0_0.ext (hW.extS hp)) p1 Ap1_0 cp1_0 (hp1_0.ext (hW.extS hp)) y100 hy100 hE) ?_
  intro u hu
  obtain ⟨Ay100_0, cy100_0⟩ := u
  have gy100_0 := hu
  have hgy100_0 : SlF Ay100_0 (y100.1).length cy100_0 := gy100_0 --@phi
  show Tr _ _ (uf _ 8 (.tuple #[(.slice Ay100_0 (y100.1).length cy100_0), (.int .i64 y100.2)])) (up _ 2 (ow Ay100_0 cy100_0 29 fl_TRect y100.1)) _
  refine Tr.val (wn rfl) rfl (fun _ _ h1 h2 => run_extract (h1.ev rfl) rfl) ?_
  refine Tr.val (wn rfl) rfl (fun _ _ h1 h2 => run_extract (h1.ev rfl) rfl) ?_
  refine Tr.val (wn rfl) rfl (fun _ _ h1 h2 => run_assign (h1.ev rfl)) ?_
  refine Tr.val (wn rfl) rfl (fun _ _ h1 h2 => run_assign (h1.ev rfl)) ?_
  refine Tr.nil (Tr.normThen ?_)
  refine Tr.ret ?_
  obtain rfl := Option.some.inj H
  exact Tr.out (m := [(.slice Ay100_0 (y100.1).length cy100_0), (.int .i64 y100.2)]) [] (res_tmp rfl (res_tmp rfl res_nil)) (fun W hW => ⟨(Ay100_0, cy100_0), rfl, hgy100_0, HF.lowE leB (hW.pick (ks := [2]) (by decide) (pk_cons rfl pk_nil)) ⟨ow_any _ _ _ _ tr_TRect, trivial⟩⟩)

theorem F_etchhouseref1_Minus_ok (N : Nat) {w : Bs} (p0 : (List TRect)) (Ap0_0 : Option Addr) (cp0_0 : Nat) (hp0_0 : Sl w.R w.W fl_TRect Ap0_0 cp0_0 p0) (p1 : (List TRect)) (Ap1_0 : Option Addr) (cp1_0 : Nat) (hp1_0 : Sl w.R w.W fl_TRect Ap1_0 cp1_0 p1) (r : ((List TRect) × Int)) (H : F_etchhouseref1_Minus N p0 p1 = some r) (hE : HF w w.W (LEn [])) : Calls Try.prog 45 [(.slice Ap0_0 (p0).length cp0_0), (.slice Ap1_0 (p1).length cp1_0)].toArray w.W fun e W' => ∃ (w' : Bs) (u : (Option Addr × Nat)), w.Le w' ∧ e = .returned (.tuple #[(.slice u.1 (r.1).length u.2), (.int .i64 r.2)]) ∧ (Sl w'.O w'.W fl_TRect u.1 u.2 r.1) ∧ HF w' W' (LEn []) := by
  unfold F_etchhouseref1_Minus at H
  have leB := Bs.Le.refl w
  refine Tr.enter (n := 11) Try.func45 rfl rfl rfl hE ?_
  refine Tr.seq ?_
  refine Tr.region ?_
  refine Tr.val (wn rfl) rfl (fun _ _ h1 h2 => run_assign (h1.ev rfl)) ?_
  refine Tr.nilOwn 1 29 fl_TRect ?_
  show Tr _ _ (uf _ 4 (.slice none (([] : List TRect)).length 0)) _ _
  refine Tr.val (wn rfl) rfl (fun _ _ h1 h2 => run_assign (h1.ev rfl)) ?_
  refine Tr.nil (Tr.normThen ?_)
  refine Tr.seq ?_
  refine Tr.region ?_
  refine Tr.val (wn rfl) rfl (fun _ _ h1 h2 => run_move (h1.ev rfl)) ?_
  refine Tr.val (wn rfl) rfl (fun _ _ h1 h2 => run_move (h1.ev rfl)) ?_
  obtain ⟨y100, hy100, H⟩ := bnd H
  refine Tr.callG [] [] (U := (Option Addr × Nat)) (fun u => (.tuple #[(.slice u.1 (y100.1).length u.2), (.int .i64 y100.2)])) (fun O W u => Sl O W fl_TRect u.1 u.2 y100.1) (fun u => []) rfl pk_nil (fun _ => rfl) (wn rfl) rfl Try.call79 (evl_cons rfl (evl_cons rfl (evl_cons rfl evl_nil))) (fun W hW hp hE => F_etchhouseref1_two_ok N p0 Ap0_0 cp0_0 (hp0_0.ext (hW.extS hp)) p1 Ap1_0 cp1_0 (hp1_0.ext (hW.extS hp)) 3 y100 hy100 hE) ?_
  intro w u le101 hu
  obtain ⟨Ay100_0, cy100_0⟩ := u
  have gy100_0 := hu
  replace hp0_0 := hp0_0.leR le101
  replace hp1_0 := hp1_0.leR le101
  replace leB := leB.trans le101
  have hgy100_0 : Sl w.O w.W fl_TRect Ay100_0 cy100_0 y100.1 := gy100_0 --@phi
  show Tr _ _ (uf _ 8 (.tuple #[(.slice Ay100_0 (y100.1).length cy100_0), (.int .i64 y100.2)])) (_) _
  refine Tr.val (wn rfl) rfl (fun _ _ h1 h2 => run_extract (h1.ev rfl) rfl) ?_
  refine Tr.val (wn rfl) rfl (fun _ _ h1 h2 => run_extract (h1.ev rfl) rfl) ?_
  refine Tr.val (wn rfl) rfl (fun _ _ h1 h2 => run_assign (h1.ev rfl)) ?_
  refine Tr.val (wn rfl) rfl (fun _ _ h1 h2 => run_assign (h1.ev rfl)) ?_
  refine Tr.nil (Tr.normThen ?_)
  refine Tr.ret ?_
  obtain rfl := Option.some.inj H
  exact Tr.out (m := [(.slice Ay100_0 (y100.1).length cy100_0), (.int .i64 y100.2)]) [] (res_tmp rfl (res_tmp rfl res_nil)) (fun W hW => ⟨w, (Ay100_0, cy100_0), leB, rfl, hgy100_0, hW.pick (ks := []) (by decide) pk_nil⟩)

theorem F_etchhouseref1_AreaOf_ok (N : Nat) {w : Bs} (p0 : (List TRect)) (Ap0_0 : Option Addr) (cp0_0 : Nat) (hp0_0 : Sl w.R w.W fl_TRect Ap0_0 cp0_0 p0) (r : Int) (H : F_etchhouseref1_AreaOf N p0 = some r) (hE : HF w w.W E0) : Calls Try.prog 83 [(.slice Ap0_0 (p0).length cp0_0)].toArray w.W fun e W' => e = .returned (.int .i64 r) ∧ HF w W' E0 := by
  unfold F_etchhouseref1_AreaOf at H
  have leB := Bs.Le.refl w
  refine Tr.enter (n := 37) Try.func83 rfl rfl rfl hE ?_
  refine Tr.seq ?_
  refine Tr.region ?_
  refine Tr.val (wn rfl) rfl (fun _ _ h1 h2 => run_assign (h1.ev rfl)) ?_
  refine Tr.nil (Tr.normThen ?_)
  refine Tr.seq ?_
  refine Tr.region ?_
  refine Tr.val (wn rfl) rfl (fun _ _ h1 h2 => run_assign (h1.ev rfl)) ?_
  refine Tr.nil (Tr.normThen ?_)
  refine Tr.seq ?_
  refine Tr.seq ?_
  refine Tr.region ?_
  refine Tr.val (wn rfl) rfl (fun _ _ h1 h2 => run_assign (h1.ev rfl)) ?_
  refine Tr.nil (Tr.normThen ?_)
  refine Tr.block ?_
  refine Tr.loop (σ := Int × Int) (fun m w s => F_etchhouseref1_AreaOf_L1 p0 m s.1 s.2 = some r) (fun s => [(0, (.slice Ap0_0 (p0).length cp0_0)), (3, (.int .i64 s.1)), (4, (.int .i64 s.2))]) (fun s => []) N (0, 0) H (.cons rfl (.cons rfl (.cons rfl .nil))) .nil (fun _ _ h => noSome (h)) ?_
  intro w leF_etchhouseref1_AreaOf_L1 mF_etchhouseref1_AreaOf_L1 s hs
  obtain ⟨x114, x115⟩ := s
  have H := hs
  replace H : F_etchhouseref1_AreaOf_L1 p0 (mF_etchhouseref1_AreaOf_L1 + 1) x114 x115 = some r := H
  replace hp0_0 := hp0_0.leR leF_etchhouseref1_AreaOf_L1
  replace leB := leB.trans leF_etchhouseref1_AreaOf_L1
  rw [F_etchhouseref1_AreaOf_L1.eq_2] at H
  show Tr _ _ (LF [(0, (.slice Ap0_0 (p0).length cp0_0)), (3, (.int .i64 x114)), (4, (.int .i64 x115))]) (LE []) _
  refine Tr.seq ?_
  refine Tr.seq ?_
  refine Tr.region ?_
  refine Tr.val (wn rfl) rfl (fun _ _ h1 h2 => run_move (h1.ev rfl)) ?_
  refine Tr.val (wn rfl) rfl (fun _ _ h1 h2 => run_move (h1.ev rfl)) ?_
  refine Tr.val (wn rfl) rfl (fun _ _ h1 h2 => run_len un_22 (h1.ev rfl)) ?_
  refine Tr.val (wn rfl) rfl (fun _ _ h1 h2 => run_lss (h1.ev rfl) (h1.ev rfl)) ?_
  refine Tr.nil (Tr.normThen ?_)
  refine Tr.cond rfl H (fun H => ?_) (fun H => ?_)
  · refine Tr.skip (Tr.normThen ?_)
    refine Tr.seq ?_
    refine Tr.block ?_
    refine Tr.draw (by kernel_rfl) (by kernel_rfl) ?_
    refine Tq.val (wn rfl) rfl (fun _ _ h1 h2 => run_move (h1.ev rfl)) ?_
    refine Tq.val (wn rfl) rfl (fun _ _ h1 h2 => run_move (h1.ev rfl)) ?_
    refine Tq.val (wn rfl) rfl (fun _ _ h1 h2 => run_move (h1.ev rfl)) ?_
    obtain ⟨x116, hx116, H⟩ := bnd H
    obtain ⟨hx1160, hx1161, hx1162⟩ := idx_some hx116
    refine Tq.val (wn rfl) rfl (fun _ _ h1 h2 => run_indexAddr el_22 (h1.ev rfl) hp0_0.form (h1.ev rfl) hx1160 hx1161) ?_
    refine Tq.val (wn rfl) rfl (fun _ _ h1 h2 => run_fieldAddr fo_29_2 (h1.ev rfl)) ?_
    refine Tq.val (wn rfl) rfl (fun _ _ h1 h2 => run_load1 ag_3 (h1.ev rfl) (CellsAt.drop (rdF ef_TRect hp0_0 hx1162 h2) 2) rfl) ?_
    refine Tq.val (wn rfl) rfl (fun _ _ h1 h2 => run_move (h1.ev rfl)) ?_
    refine Tq.val (wn rfl) rfl (fun _ _ h1 h2 => run_move (h1.ev rfl)) ?_
    obtain ⟨x117, hx117, H⟩ := bnd H
    obtain ⟨hx1170, hx1171, hx1172⟩ := idx_some hx117
    refine Tq.val (wn rfl) rfl (fun _ _ h1 h2 => run_indexAddr el_22 (h1.ev rfl) hp0_0.form (h1.ev rfl) hx1170 hx1171) ?_
    refine Tq.val (wn rfl) rfl (fun _ _ h1 h2 => run_fieldAddr fo_29_0 (h1.ev rfl)) ?_
    refine Tq.val (wn rfl) rfl (fun _ _ h1 h2 => run_load1 ag_3 (h1.ev rfl) (CellsAt.drop (rdF ef_TRect hp0_0 hx1172 h2) 0) rfl) ?_
    refine Tq.val (wn rfl) rfl (fun _ _ h1 h2 => run_sub (h1.ev rfl) (h1.ev rfl)) ?_
    refine Tq.val (wn rfl) rfl (fun _ _ h1 h2 => run_move (h1.ev rfl)) ?_
    refine Tq.val (wn rfl) rfl (fun _ _ h1 h2 => run_move (h1.ev rfl)) ?_
    obtain ⟨x118, hx118, H⟩ := bnd H
    obtain ⟨hx1180, hx1181, hx1182⟩ := idx_some hx118
    refine Tq.val (wn rfl) rfl (fun _ _ h1 h2 => run_indexAddr el_22 (h1.ev rfl) hp0_0.form (h1.ev rfl) hx1180 hx1181) ?_
    refine Tq.val (wn rfl) rfl (fun _ _ h1 h2 => run_fieldAddr fo_29_3 (h1.ev rfl)) ?_
    refine Tq.val (wn rfl) rfl (fun _ _ h1 h2 => run_load1 ag_3 (h1.ev rfl) (CellsAt.drop (rdF ef_TRect hp0_0 hx1182 h2) 3) rfl) ?_
    refine Tq.val (wn rfl) rfl (fun _ _ h1 h2 => run_move (h1.ev rfl)) ?_
    refine Tq.val (wn rfl) rfl (fun _ _ h1 h2 => run_move (h1.ev rfl)) ?_
    obtain ⟨x119, hx119, H⟩ := bnd H
    obtain ⟨hx1190, hx1191, hx1192⟩ := idx_some hx119
    refine Tq.val (wn rfl) rfl (fun _ _ h1 h2 => run_indexAddr el_22 (h1.ev rfl) hp0_0.form (h1.ev rfl) hx1190 hx1191) ?_
    refine Tq.val (wn rfl) rfl (fun _ _ h1 h2 => run_fieldAddr fo_29_1 (h1.ev rfl)) ?_
    refine Tq.val (wn rfl) rfl (fun _ _ h1 h2 => run_load1 ag_3 (h1.ev rfl) (CellsAt.drop (rdF ef_TRect hp0_0 hx1192 h2) 1) rfl) ?_
    refine Tq.val (wn rfl) rfl (fun _ _ h1 h2 => run_sub (h1.ev rfl) (h1.ev rfl)) ?_
    refine Tq.val (wn rfl) rfl (fun _ _ h1 h2 => run_mul (h1.ev rfl) (h1.ev rfl)) ?_
    refine Tq.val (wn rfl) rfl (fun _ _ h1 h2 => run_add (h1.ev rfl) (h1.ev rfl)) ?_
    refine Tq.val (wn rfl) rfl (fun _ _ h1 h2 => run_assign (h1.ev rfl)) ?_
    refine Tq.nil (Tr.normBlock (Tr.normThen ?_))
    refine Tr.region ?_
    refine Tr.val (wn rfl) rfl (fun _ _ h1 h2 => run_move (h1.ev rfl)) ?_
    refine Tr.val (wn rfl) rfl (fun _ _ h1 h2 => run_add (h1.ev rfl) (h1.ev rfl)) ?_
    refine Tr.val (wn rfl) rfl (fun _ _ h1 h2 => run_assign (h1.ev rfl)) ?_
    refine Tr.nil ?_
    exact Tr.backThen leF_etchhouseref1_AreaOf_L1 ((w64 (x114 + (w64 ((w64 (x116.X1 - x117.X0)) * (w64 (x118.Y1 - x119.Y0)))))), (w64 (x115 + 1))) H (.cons rfl (.cons rfl (.cons rfl .nil))) .nil
  · refine Tr.exit (Tr.exitThen (Tr.exitThen (Tr.exitBlock (Tr.normThen ?_))))
    refine Tr.seq ?_
    refine Tr.region ?_
    refine Tr.val (wn rfl) rfl (fun _ _ h1 h2 => run_move (h1.ev rfl)) ?_
    refine Tr.val (wn rfl) rfl (fun _ _ h1 h2 => run_assign (h1.ev rfl)) ?_
    refine Tr.nil (Tr.normThen ?_)
    refine Tr.ret ?_
    obtain rfl := Option.some.inj H
    exact Tr.out (m := [(.int .i64 x114)]) [] (res_tmp rfl res_nil) (fun W hW => ⟨rfl, hW.low leB⟩)

theorem F_etchhouseref1_Area_ok (N : Nat) {w : Bs} (p0 : (List TRect)) (Ap0_0 : Option Addr) (cp0_0 : Nat) (hp0_0 : Sl w.R w.W fl_TRect Ap0_0 cp0_0 p0) (r : (Int × Int)) (H : F_etchhouseref1_Area N p0 = some r) (hE : HF w w.W E0) : Calls Try.prog 47 [(.slice Ap0_0 (p0).length cp0_0)].toArray w.W fun e W' => e = .returned (.tuple #[(.int .i64 r.1), (.int .i64 r.2)]) ∧ HF w W' E0 := by
  unfold F_etchhouseref1_Area at H
  have leB := Bs.Le.refl w
  refine Tr.enter (n := 12) Try.func47 rfl rfl rfl hE ?_
  refine Tr.seq ?_
  refine Tr.region ?_
  refine Tr.val (wn rfl) rfl (fun _ _ h1 h2 => run_assign (h1.ev rfl)) ?_
  refine Tr.val (wn rfl) rfl (fun _ _ h1 h2 => run_assign (h1.ev rfl)) ?_
  refine Tr.nil (Tr.normThen ?_)
  refine Tr.seq ?_
  refine Tr.seq ?_
  refine Tr.region ?_
  refine Tr.val (wn rfl) rfl (fun _ _ h1 h2 => run_move (h1.ev rfl)) ?_
  obtain ⟨y100, hy100, H⟩ := bnd H
  refine Tr.call0 (r := (.int .i64 y100)) (wn rfl) rfl Try.call18 (evl_cons rfl evl_nil) (fun W hW => F_etchhouseref1_CheckRegion_ok N p0 Ap0_0 cp0_0 (hp0_0.ext hW.extAll) y100 hy100 (HF.start _)) ?_
  refine Tr.val (wn rfl) rfl (fun _ _ h1 h2 => run_assign (h1.ev rfl)) ?_
  refine Tr.nil (Tr.normThen ?_)
  refine Tr.seq ?_
  refine Tr.region ?_
  refine Tr.val (wn rfl) rfl (fun _ _ h1 h2 => run_move (h1.ev rfl)) ?_
  refine Tr.val (wn rfl) rfl (fun _ _ h1 h2 => run_neq (h1.ev rfl) (h1.ev rfl)) ?_
  refine Tr.nil (Tr.normThen ?_)
  refine Tr.cond rfl H (fun H => ?_) (fun H => ?_)
  · refine Tr.seq ?_
    refine Tr.region ?_
    refine Tr.val (wn rfl) rfl (fun _ _ h1 h2 => run_move (h1.ev rfl)) ?_
    refine Tr.val (wn rfl) rfl (fun _ _ h1 h2 => run_assign (h1.ev rfl)) ?_
    refine Tr.val (wn rfl) rfl (fun _ _ h1 h2 => run_assign (h1.ev rfl)) ?_
    refine Tr.nil (Tr.normThen ?_)
    refine Tr.ret (Tr.retThen ?_)
    obtain rfl := Option.some.inj H
    exact Tr.out (m := [(.int .i64 0), (.int .i64 y100)]) [] (res_tmp rfl (res_tmp rfl res_nil)) (fun W hW => ⟨rfl, hW.low leB⟩)
  · refine Tr.skip (Tr.normThen ?_)
    refine Tr.seq ?_
    refine Tr.region ?_
    refine Tr.val (wn rfl) rfl (fun _ _ h1 h2 => run_move (h1.ev rfl)) ?_
    obtain ⟨y101, hy101, H⟩ := bnd H
    refine Tr.call0 (r := (.int .i64 y101)) (wn rfl) rfl Try.call83 (evl_cons rfl evl_nil) (fun W hW => F_etchhouseref1_AreaOf_ok N p0 Ap0_0 cp0_0 (hp0_0.ext hW.extAll) y101 hy101 (HF.start _)) ?_
    refine Tr.val (wn rfl) rfl (fun _ _ h1 h2 => run_assign (h1.ev rfl)) ?_
    refine Tr.val (wn rfl) rfl (fun _ _ h1 h2 => run_assign (h1.ev rfl)) ?_
    refine Tr.nil (Tr.normThen ?_)
    refine Tr.ret ?_
    obtain rfl := Option.some.inj H
    exact Tr.out (m := [(.int .i64 y101), (.int .i64 0)]) [] (res_tmp rfl (res_tmp rfl res_nil)) (fun W hW => ⟨rfl, hW.low leB⟩)

theorem F_etchhouselaw1_SetsMatchSpec_ok (N : Nat) {w : Bs} (p0 : (List TRect)) (Ap0_0 : Option Addr) (cp0_0 : Nat) (hp0_0 : Sl w.R w.W fl_TRect Ap0_0 cp0_0 p0) (p1 : (List TRect)) (Ap1_0 : Option Addr) (cp1_0 : Nat) (hp1_0 : Sl w.R w.W fl_TRect Ap1_0 cp1_0 p1) (r : Bool) (H : F_etchhouselaw1_SetsMatchSpec N p0 p1 = some r) (hE : HF w w.W E0) : Calls Try.prog 10 [(.slice Ap0_0 (p0).length cp0_0), (.slice Ap1_0 (p1).length cp1_0)].toArray w.W fun e W' => e = .returned (.bool r) ∧ HF w W' E0 := by
  unfold F_etchhouselaw1_SetsMatchSpec at H
  have leB := Bs.Le.refl w
  refine Tr.enter (n := 98) Try.func10 rfl rfl rfl hE ?_
  refine Tr.seq ?_
  refine Tr.region ?_
  refine Tr.val (wn rfl) rfl (fun _ _ h1 h2 => run_assign (h1.ev rfl)) ?_
  refine Tr.nil (Tr.normThen ?_)
  refine Tr.seq ?_
  refine Tr.region ?_
  refine Tr.val (wn rfl) rfl (fun _ _ h1 h2 => run_move (h1.ev rfl)) ?_
  refine Tr.val (wn rfl) rfl (fun _ _ h1 h2 => run_move (h1.ev rfl)) ?_
  obtain ⟨y100, hy100, H⟩ := bnd H
  refine Tr.callM [1] [emp] (U := (Option Addr × Nat)) (fun u => (.tuple #[(.slice u.1 (y100.1).length u.2), (.int .i64 y100.2)])) (fun u => SlF u.1 (y100.1).length u.2) (fun u => [ow u.1 u.2 29 fl_TRect y100.1]) rfl (pk_cons rfl pk_nil) (fun _ => rfl) (wn rfl) rfl Try.call40 (evl_cons rfl (evl_cons rfl evl_nil)) (fun W hW hp hE => F_shape_Union_ok N p0 Ap0_0 cp0_0 (hp0_0.ext (hW.extS hp)) p1 Ap1_0 cp1_0 (hp1_0.ext (hW.extS hp)) y100 hy100 hE) ?_
  intro u hu
  obtain ⟨Ay100_0, cy100_0⟩ := u
  have gy100_0 := hu
  have hgy100_0 : SlF Ay100_0 (y100.1).length cy100_0 := gy100_0 --@phi
  show Tr _ _ (uf _ 16 (.tuple #[(.slice Ay100_0 (y100.1).length cy100_0), (.int .i64 y100.2)])) (up _ 1 (ow Ay100_0 cy100_0 29 fl_TRect y100.1)) _
  refine Tr.val (wn rfl) rfl (fun _ _ h1 h2 => run_move (h1.ev rfl)) ?_
  refine Tr.val (wn rfl) rfl (fun _ _ h1 h2 => run_extract (h1.ev rfl) rfl) ?_
  refine Tr.val (wn rfl) rfl (fun _ _ h1 h2 => run_extract (h1.ev rfl) rfl) ?_
  refine Tr.val (wn rfl) rfl (fun _ _ h1 h2 => run_assign (h1.ev rfl)) ?_
  refine Tr.val (wn rfl) rfl (fun _ _ h1 h2 => run_assign (h1.ev rfl)) ?_
  refine Tr.nil (Tr.normThen ?_)
  refine Tr.seq ?_
  refine Tr.region ?_
  refine Tr.val (wn rfl) rfl (fun _ _ h1 h2 => run_move (h1.ev rfl)) ?_
  refine Tr.val (wn rfl) rfl (fun _ _ h1 h2 => run_move (h1.ev rfl)) ?_
  obtain ⟨y102, hy102, H⟩ := bnd H
  refine Tr.callG [] [] (U := (Option Addr × Nat)) (fun u => (.tuple #[(.slice u.1 (y102.1).length u.2), (.int .i64 y102.2)])) (fun O W u => Sl O W fl_TRect u.1 u.2 y102.1) (fun u => []) rfl pk_nil (fun _ => rfl) (wn rfl) rfl Try.call41 (evl_cons rfl (evl_cons rfl evl_nil)) (fun W hW hp hE => F_etchhouseref1_Union_ok N p0 Ap0_0 cp0_0 (hp0_0.ext (hW.extS hp)) p1 Ap1_0 cp1_0 (hp1_0.ext (hW.extS hp)) y102 hy102 hE) ?_
  intro w u le103 hu
  obtain ⟨Ay102_0, cy102_0⟩ := u
  have gy102_0 := hu
  replace hp0_0 := hp0_0.leR le103
  replace hp1_0 := hp1_0.leR le103
  replace leB := leB.trans le103
  have hgy102_0 : Sl w.O w.W fl_TRect Ay102_0 cy102_0 y102.1 := gy102_0 --@phi
  show Tr _ _ (uf _ 22 (.tuple #[(.slice Ay102_0 (y102.1).length cy102_0), (.int .i64 y102.2)])) (_) _
  refine Tr.val (wn rfl) rfl (fun _ _ h1 h2 => run_move (h1.ev rfl)) ?_
  refine Tr.val (wn rfl) rfl (fun _ _ h1 h2 => run_extract (h1.ev rfl) rfl) ?_
  refine Tr.val (wn rfl) rfl (fun _ _ h1 h2 => run_extract (h1.ev rfl) rfl) ?_
  refine Tr.val (wn rfl) rfl (fun _ _ h1 h2 => run_assign (h1.ev rfl)) ?_
  refine Tr.val (wn rfl) rfl (fun _ _ h1 h2 => run_assign (h1.ev rfl)) ?_
  refine Tr.nil (Tr.normThen ?_)
  refine Tr.seq ?_
  refine Tr.seq ?_
  refine Tr.region ?_
  refine Tr.val (wn rfl) rfl (fun _ _ h1 h2 => run_move (h1.ev rfl)) ?_
  refine Tr.val (wn rfl) rfl (fun _ _ h1 h2 => run_move (h1.ev rfl)) ?_
  obtain ⟨y104, hy104, H⟩ := bnd H
  refine Tr.call0 (r := (.bool y104)) (wn rfl) rfl Try.call19 (evl_cons rfl (evl_cons rfl evl_nil)) (fun W hW => F_slices_Equal_Rect_ok y100.1 Ay100_0 cy100_0 (hW.slCall (k := 1) rfl) y102.1 Ay102_0 cy102_0 (hgy102_0.rl.ext hW.extAll) y104 hy104 (HF.start _)) ?_
  refine Tr.val (wn rfl) rfl (fun _ _ h1 h2 => run_not (h1.ev rfl)) ?_
  refine Tr.val (wn rfl) rfl (fun _ _ h1 h2 => run_move (h1.ev rfl)) ?_
  refine Tr.mid0 4 [(0, (.slice Ap0_0 (p0).length cp0_0)), (1, (.slice Ap1_0 (p1).length cp1_0)), (33, (.bool ((!y104) || (y100.2 != y102.2))))] [(1, ow Ay100_0 cy100_0 29 fl_TRect y100.1)] ?_ ?_
  · cases hg119 : (!y104)
    · refine Tr.val (wg rfl rfl rfl) rfl (fun _ _ h1 h2 => run_move (h1.ev rfl)) ?_
      refine Tr.val (wg rfl rfl rfl) rfl (fun _ _ h1 h2 => run_move (h1.ev rfl)) ?_
      refine Tr.val (wg rfl rfl rfl) rfl (fun _ _ h1 h2 => run_neq (h1.ev rfl) (h1.ev rfl)) ?_
      refine Tr.val (wn rfl) rfl (fun _ _ h1 h2 => run_pickF (h1.ev rfl) (h1.ev rfl)) ?_
      exact Tr.nil (Tr.fin0 (.cons rfl (.cons rfl (.cons rfl .nil))) (.cons rfl .nil))
    · refine Tr.pass rfl rfl rfl rfl rfl (by decide) ?_
      refine Tr.pass rfl rfl rfl rfl rfl (by decide) ?_
      refine Tr.pass rfl rfl rfl rfl rfl (by decide) ?_
      refine Tr.val (wn rfl) rfl (fun _ _ h1 h2 => run_pickT (h1.ev rfl) (h1.ev rfl)) ?_
      exact Tr.nil (Tr.fin0 (.cons rfl (.cons rfl (.cons rfl .nil))) (.cons rfl .nil))
  · show Tr _ _ (LF [(0, (.slice Ap0_0 (p0).length cp0_0)), (1, (.slice Ap1_0 (p1).length cp1_0)), (33, (.bool ((!y104) || (y100.2 != y102.2))))]) (LE [(1, ow Ay100_0 cy100_0 29 fl_TRect y100.1)]) _
    refine Tr.nil (Tr.normThen ?_)
    refine Tr.cond rfl H (fun H => ?_) (fun H => ?_)
    · refine Tr.seq ?_
      refine Tr.region ?_
      refine Tr.val (wn rfl) rfl (fun _ _ h1 h2 => run_assign (h1.ev rfl)) ?_
      refine Tr.nil (Tr.normThen ?_)
      refine Tr.ret (Tr.retThen ?_)
      obtain rfl := Option.some.inj H
      exact Tr.out (m := [(.bool false)]) [] (res_tmp rfl res_nil) (fun W hW => ⟨rfl, hW.low leB⟩)
    · refine Tr.skip (Tr.normThen ?_)
      refine Tr.seq ?_
      refine Tr.region ?_
      refine Tr.val (wn rfl) rfl (fun _ _ h1 h2 => run_move (h1.ev rfl)) ?_
      refine Tr.val (wn rfl) rfl (fun _ _ h1 h2 => run_move (h1.ev rfl)) ?_
      obtain ⟨y105, hy105, H⟩ := bnd H
      refine Tr.callM [2] [emp] (U := (Option Addr × Nat)) (fun u => (.tuple #[(.slice u.1 (y105.1).length u.2), (.int .i64 y105.2)])) (fun u => SlF u.1 (y105.1).length u.2) (fun u => [ow u.1 u.2 29 fl_TRect y105.1]) rfl (pk_cons rfl pk_nil) (fun _ => rfl) (wn rfl) rfl Try.call42 (evl_cons rfl (evl_cons rfl evl_nil)) (fun W hW hp hE => F_shape_Both_ok N p0 Ap0_0 cp0_0 (hp0_0.ext (hW.extS hp)) p1 Ap1_0 cp1_0 (hp1_0.ext (hW.extS hp)) y105 hy105 hE) ?_
      intro u hu
      obtain ⟨Ay105_0, cy105_0⟩ := u
      have gy105_0 := hu
      have hgy105_0 : SlF Ay105_0 (y105.1).length cy105_0 := gy105_0 --@phi
      show Tr _ _ (uf _ 37 (.tuple #[(.slice Ay105_0 (y105.1).length cy105_0), (.int .i64 y105.2)])) (up _ 2 (ow Ay105_0 cy105_0 29 fl_TRect y105.1)) _
      refine Tr.val (wn rfl) rfl (fun _ _ h1 h2 => run_move (h1.ev rfl)) ?_
      refine Tr.val (wn rfl) rfl (fun _ _ h1 h2 => run_extract (h1.ev rfl) rfl) ?_
      refine Tr.val (wn rfl) rfl (fun _ _ h1 h2 => run_extract (h1.ev rfl) rfl) ?_
      refine Tr.val (wn rfl) rfl (fun _ _ h1 h2 => run_assign (h1.ev rfl)) ?_
      refine Tr.val (wn rfl) rfl (fun _ _ h1 h2 => run_assign (h1.ev rfl)) ?_
      refine Tr.nil (Tr.normThen ?_)
      refine Tr.seq ?_
      refine Tr.region ?_
      refine Tr.val (wn rfl) rfl (fun _ _ h1 h2 => run_move (h1.ev rfl)) ?_
      refine Tr.val (wn rfl) rfl (fun _ _ h1 h2 => run_move (h1.ev rfl)) ?_
      obtain ⟨y107, hy107, H⟩ := bnd H
      refine Tr.callG [] [] (U := (Option Addr × Nat)) (fun u => (.tuple #[(.slice u.1 (y107.1).length u.2), (.int .i64 y107.2)])) (fun O W u => Sl O W fl_TRect u.1 u.2 y107.1) (fun u => []) rfl pk_nil (fun _ => rfl) (wn rfl) rfl Try.call43 (evl_cons rfl (evl_cons rfl evl_nil)) (fun W hW hp hE => F_etchhouseref1_Both_ok N p0 Ap0_0 cp0_0 (hp0_0.ext (hW.extS hp)) p1 Ap1_0 cp1_0 (hp1_0.ext (hW.extS hp)) y107 hy107 hE) ?_
      intro w u le108 hu
      obtain ⟨Ay107_0, cy107_0⟩ := u
      have gy107_0 := hu
      replace hp0_0 := hp0_0.leR le108
      replace hp1_0 := hp1_0.leR le108
      replace leB := leB.trans le108
      have hgy107_0 : Sl w.O w.W fl_TRect Ay107_0 cy107_0 y107.1 := gy107_0 --@phi
      show Tr _ _ (uf _ 43 (.tuple #[(.slice Ay107_0 (y107.1).length cy107_0), (.int .i64 y107.2)])) (_) _
      refine Tr.val (wn rfl) rfl (fun _ _ h1 h2 => run_move (h1.ev rfl)) ?_
      refine Tr.val (wn rfl) rfl (fun _ _ h1 h2 => run_extract (h1.ev rfl) rfl) ?_
      refine Tr.val (wn rfl) rfl (fun _ _ h1 h2 => run_extract (h1.ev rfl) rfl) ?_
      refine Tr.val (wn rfl) rfl (fun _ _ h1 h2 => run_assign (h1.ev rfl)) ?_
      refine Tr.val (wn rfl) rfl (fun _ _ h1 h2 => run_assign (h1.ev rfl)) ?_
      refine Tr.nil (Tr.normThen ?_)
      refine Tr.seq ?_
      refine Tr.seq ?_
      refine Tr.region ?_
      refine Tr.val (wn rfl) rfl (fun _ _ h1 h2 => run_move (h1.ev rfl)) ?_
      refine Tr.val (wn rfl) rfl (fun _ _ h1 h2 => run_move (h1.ev rfl)) ?_
      obtain ⟨y109, hy109, H⟩ := bnd H
      refine Tr.call0 (r := (.bool y109)) (wn rfl) rfl Try.call19 (evl_cons rfl (evl_cons rfl evl_nil)) (fun W hW => F_slices_Equal_Rect_ok y105.1 Ay105_0 cy105_0 (hW.slCall (k := 2) rfl) y107.1 Ay107_0 cy107_0 (hgy107_0.rl.ext hW.extAll) y109 hy109 (HF.start _)) ?_
      refine Tr.val (wn rfl) rfl (fun _ _ h1 h2 => run_not (h1.ev rfl)) ?_
      refine Tr.val (wn rfl) rfl (fun _ _ h1 h2 => run_move (h1.ev rfl)) ?_
      refine Tr.mid0 4 [(0, (.slice Ap0_0 (p0).length cp0_0)), (1, (.slice Ap1_0 (p1).length cp1_0)), (54, (.bool ((!y109) || (y105.2 != y107.2))))] [(1, ow Ay100_0 cy100_0 29 fl_TRect y100.1), (2, ow Ay105_0 cy105_0 29 fl_TRect y105.1)] ?_ ?_
      · cases hg119 : (!y109)
        · refine Tr.val (wg rfl rfl rfl) rfl (fun _ _ h1 h2 => run_move (h1.ev rfl)) ?_
          refine Tr.val (wg rfl rfl rfl) rfl (fun _ _ h1 h2 => run_move (h1.ev rfl)) ?_
          refine Tr.val (wg rfl rfl rfl) rfl (fun _ _ h1 h2 => run_neq (h1.ev rfl) (h1.ev rfl)) ?_
          refine Tr.val (wn rfl) rfl (fun _ _ h1 h2 => run_pickF (h1.ev rfl) (h1.ev rfl)) ?_
          exact Tr.nil (Tr.fin0 (.cons rfl (.cons rfl (.cons rfl .nil))) (.cons rfl (.cons rfl .nil)))
        · refine Tr.pass rfl rfl rfl rfl rfl (by decide) ?_
          refine Tr.pass rfl rfl rfl rfl rfl (by decide) ?_
          refine Tr.pass rfl rfl rfl rfl rfl (by decide) ?_
          refine Tr.val (wn rfl) rfl (fun _ _ h1 h2 => run_pickT (h1.ev rfl) (h1.ev rfl)) ?_
          exact Tr.nil (Tr.fin0 (.cons rfl (.cons rfl (.cons rfl .nil))) (.cons rfl (.cons rfl .nil)))
      · show Tr _ _ (LF [(0, (.slice Ap0_0 (p0).length cp0_0)), (1, (.slice Ap1_0 (p1).length cp1_0)), (54, (.bool ((!y109) || (y105.2 != y107.2))))]) (LE [(1, ow Ay100_0 cy100_0 29 fl_TRect y100.1), (2, ow Ay105_0 cy105_0 29 fl_TRect y105.1)]) _
        refine Tr.nil (Tr.normThen ?_)
        refine Tr.cond rfl H (fun H => ?_) (fun H => ?_)
        · refine Tr.seq ?_
          refine Tr.region ?_
          refine Tr.val (wn rfl) rfl (fun _ _ h1 h2 => run_assign (h1.ev rfl)) ?_
          refine Tr.nil (Tr.normThen ?_)
          refine Tr.ret (Tr.retThen ?_)
          obtain rfl := Option.some.inj H
          exact Tr.out (m := [(.bool false)]) [] (res_tmp rfl res_nil) (fun W hW => ⟨rfl, hW.low leB⟩)
        · refine Tr.skip (Tr.normThen ?_)
          refine Tr.seq ?_
          refine Tr.region ?_
          refine Tr.val (wn rfl) rfl (fun _ _ h1 h2 => run_move (h1.ev rfl)) ?_
          refine Tr.val (wn rfl) rfl (fun _ _ h1 h2 => run_move (h1.ev rfl)) ?_
          obtain ⟨y110, hy110, H⟩ := bnd H
          refine Tr.callM [3] [emp] (U := (Option Addr × Nat)) (fun u => (.tuple #[(.slice u.1 (y110.1).length u.2), (.int .i64 y110.2)])) (fun u => SlF u.1 (y110.1).length u.2) (fun u => [ow u.1 u.2 29 fl_TRect y110.1]) rfl (pk_cons rfl pk_nil) (fun _ => rfl) (wn rfl) rfl Try.call44 (evl_cons rfl (evl_cons rfl evl_nil)) (fun W hW hp hE => F_shape_Minus_ok N p0 Ap0_0 cp0_0 (hp0_0.ext (hW.extS hp)) p1 Ap1_0 cp1_0 (hp1_0.ext (hW.extS hp)) y110 hy110 hE) ?_
          intro u hu
          obtain ⟨Ay110_0, cy110_0⟩ := u
          have gy110_0 := hu
          have hgy110_0 : SlF Ay110_0 (y110.1).length cy110_0 := gy110_0 --@phi
          show Tr _ _ (uf _ 58 (.tuple #[(.slice Ay110_0 (y110.1).length cy110_0), (.int .i64 y110.2)])) (up _ 3 (ow Ay110_0 cy110_0 29 fl_TRect y110.1)) _
          refine Tr.val (wn rfl) rfl (fun _ _ h1 h2 => run_move (h1.ev rfl)) ?_
          refine Tr.val (wn rfl) rfl (fun _ _ h1 h2 => run_extract (h1.ev rfl) rfl) ?_
          refine Tr.val (wn rfl) rfl (fun _ _ h1 h2 => run_extract (h1.ev rfl) rfl) ?_
          refine Tr.val (wn rfl) rfl (fun _ _ h1 h2 => run_assign (h1.ev rfl)) ?_
          refine Tr.val (wn rfl) rfl (fun _ _ h1 h2 => run_assign (h1.ev rfl)) ?_
          refine Tr.nil (Tr.normThen ?_)
          refine Tr.seq ?_
          refine Tr.region ?_
          refine Tr.val (wn rfl) rfl (fun _ _ h1 h2 => run_move (h1.ev rfl)) ?_
          refine Tr.val (wn rfl) rfl (fun _ _ h1 h2 => run_move (h1.ev rfl)) ?_
          obtain ⟨y112, hy112, H⟩ := bnd H
          refine Tr.callG [] [] (U := (Option Addr × Nat)) (fun u => (.tuple #[(.slice u.1 (y112.1).length u.2), (.int .i64 y112.2)])) (fun O W u => Sl O W fl_TRect u.1 u.2 y112.1) (fun u => []) rfl pk_nil (fun _ => rfl) (wn rfl) rfl Try.call45 (evl_cons rfl (evl_cons rfl evl_nil)) (fun W hW hp hE => F_etchhouseref1_Minus_ok N p0 Ap0_0 cp0_0 (hp0_0.ext (hW.extS hp)) p1 Ap1_0 cp1_0 (hp1_0.ext (hW.extS hp)) y112 hy112 hE) ?_
          intro w u le113 hu
          obtain ⟨Ay112_0, cy112_0⟩ := u
          have gy112_0 := hu
          replace hp0_0 := hp0_0.leR le113
          replace hp1_0 := hp1_0.leR le113
          replace leB := leB.trans le113
          have hgy112_0 : Sl w.O w.W fl_TRect Ay112_0 cy112_0 y112.1 := gy112_0 --@phi
          show Tr _ _ (uf _ 64 (.tuple #[(.slice Ay112_0 (y112.1).length cy112_0), (.int .i64 y112.2)])) (_) _
          refine Tr.val (wn rfl) rfl (fun _ _ h1 h2 => run_move (h1.ev rfl)) ?_
          refine Tr.val (wn rfl) rfl (fun _ _ h1 h2 => run_extract (h1.ev rfl) rfl) ?_
          refine Tr.val (wn rfl) rfl (fun _ _ h1 h2 => run_extract (h1.ev rfl) rfl) ?_
          refine Tr.val (wn rfl) rfl (fun _ _ h1 h2 => run_assign (h1.ev rfl)) ?_
          refine Tr.val (wn rfl) rfl (fun _ _ h1 h2 => run_assign (h1.ev rfl)) ?_
          refine Tr.nil (Tr.normThen ?_)
          refine Tr.seq ?_
          refine Tr.region ?_
          refine Tr.val (wn rfl) rfl (fun _ _ h1 h2 => run_move (h1.ev rfl)) ?_
          obtain ⟨y114, hy114, H⟩ := bnd H
          refine Tr.call0 (r := (.tuple #[(.int .i64 y114.1), (.int .i64 y114.2)])) (wn rfl) rfl Try.call46 (evl_cons rfl evl_nil) (fun W hW => F_shape_Area_ok N p0 Ap0_0 cp0_0 (hp0_0.ext hW.extAll) y114 hy114 (HF.start _)) ?_
          refine Tr.val (wn rfl) rfl (fun _ _ h1 h2 => run_move (h1.ev rfl)) ?_
          refine Tr.val (wn rfl) rfl (fun _ _ h1 h2 => run_extract (h1.ev rfl) rfl) ?_
          refine Tr.val (wn rfl) rfl (fun _ _ h1 h2 => run_extract (h1.ev rfl) rfl) ?_
          refine Tr.val (wn rfl) rfl (fun _ _ h1 h2 => run_assign (h1.ev rfl)) ?_
          refine Tr.val (wn rfl) rfl (fun _ _ h1 h2 => run_assign (h1.ev rfl)) ?_
          refine Tr.nil (Tr.normThen ?_)
          refine Tr.seq ?_
          refine Tr.region ?_
          refine Tr.val (wn rfl) rfl (fun _ _ h1 h2 => run_move (h1.ev rfl)) ?_
          obtain ⟨y115, hy115, H⟩ := bnd H
          refine Tr.call0 (r := (.tuple #[(.int .i64 y115.1), (.int .i64 y115.2)])) (wn rfl) rfl Try.call47 (evl_cons rfl evl_nil) (fun W hW => F_etchhouseref1_Area_ok N p0 Ap0_0 cp0_0 (hp0_0.ext hW.extAll) y115 hy115 (HF.start _)) ?_
          refine Tr.val (wn rfl) rfl (fun _ _ h1 h2 => run_move (h1.ev rfl)) ?_
          refine Tr.val (wn rfl) rfl (fun _ _ h1 h2 => run_extract (h1.ev rfl) rfl) ?_
          refine Tr.val (wn rfl) rfl (fun _ _ h1 h2 => run_extract (h1.ev rfl) rfl) ?_
          refine Tr.val (wn rfl) rfl (fun _ _ h1 h2 => run_assign (h1.ev rfl)) ?_
          refine Tr.val (wn rfl) rfl (fun _ _ h1 h2 => run_assign (h1.ev rfl)) ?_
          refine Tr.nil (Tr.normThen ?_)
          refine Tr.seq ?_
          refine Tr.region ?_
          refine Tr.val (wn rfl) rfl (fun _ _ h1 h2 => run_move (h1.ev rfl)) ?_
          refine Tr.val (wn rfl) rfl (fun _ _ h1 h2 => run_move (h1.ev rfl)) ?_
          obtain ⟨y116, hy116, H⟩ := bnd H
          refine Tr.call0 (r := (.bool y116)) (wn rfl) rfl Try.call19 (evl_cons rfl (evl_cons rfl evl_nil)) (fun W hW => F_slices_Equal_Rect_ok y110.1 Ay110_0 cy110_0 (hW.slCall (k := 3) rfl) y112.1 Ay112_0 cy112_0 (hgy112_0.rl.ext hW.extAll) y116 hy116 (HF.start _)) ?_
          refine Tr.val (wn rfl) rfl (fun _ _ h1 h2 => run_move (h1.ev rfl)) ?_
          refine Tr.mid0 4 [(9, (.int .i64 y114.1)), (10, (.int .i64 y114.2)), (11, (.int .i64 y115.1)), (12, (.int .i64 y115.2)), (84, (.bool (y116 && (y110.2 == y112.2))))] [(1, ow Ay100_0 cy100_0 29 fl_TRect y100.1), (2, ow Ay105_0 cy105_0 29 fl_TRect y105.1), (3, ow Ay110_0 cy110_0 29 fl_TRect y110.1)] ?_ ?_
          · cases hg119 : y116
            · refine Tr.pass rfl rfl rfl rfl rfl (by decide) ?_
              refine Tr.pass rfl rfl rfl rfl rfl (by decide) ?_
              refine Tr.pass rfl rfl rfl rfl rfl (by decide) ?_
              refine Tr.val (wn rfl) rfl (fun _ _ h1 h2 => run_pickF (h1.ev rfl) (h1.ev rfl)) ?_
              exact Tr.nil (Tr.fin0 (.cons rfl (.cons rfl (.cons rfl (.cons rfl (.cons rfl .nil))))) (.cons rfl (.cons rfl (.cons rfl .nil))))
            · refine Tr.val (wg rfl rfl rfl) rfl (fun _ _ h1 h2 => run_move (h1.ev rfl)) ?_
              refine Tr.val (wg rfl rfl rfl) rfl (fun _ _ h1 h2 => run_move (h1.ev rfl)) ?_
              refine Tr.val (wg rfl rfl rfl) rfl (fun _ _ h1 h2 => run_eql (h1.ev rfl) (h1.ev rfl)) ?_
              refine Tr.val (wn rfl) rfl (fun _ _ h1 h2 => run_pickT (h1.ev rfl) (h1.ev rfl)) ?_
              exact Tr.nil (Tr.fin0 (.cons rfl (.cons rfl (.cons rfl (.cons rfl (.cons rfl .nil))))) (.cons rfl (.cons rfl (.cons rfl .nil))))
          · show Tr _ _ (LF [(9, (.int .i64 y114.1)), (10, (.int .i64 y114.2)), (11, (.int .i64 y115.1)), (12, (.int .i64 y115.2)), (84, (.bool (y116 && (y110.2 == y112.2))))]) (LE [(1, ow Ay100_0 cy100_0 29 fl_TRect y100.1), (2, ow Ay105_0 cy105_0 29 fl_TRect y105.1), (3, ow Ay110_0 cy110_0 29 fl_TRect y110.1)]) _
            refine Tr.val (wn rfl) rfl (fun _ _ h1 h2 => run_move (h1.ev rfl)) ?_
            refine Tr.mid0 4 [(10, (.int .i64 y114.2)), (12, (.int .i64 y115.2)), (89, (.bool ((y116 && (y110.2 == y112.2)) && (y114.1 == y115.1))))] [(1, ow Ay100_0 cy100_0 29 fl_TRect y100.1), (2, ow Ay105_0 cy105_0 29 fl_TRect y105.1), (3, ow Ay110_0 cy110_0 29 fl_TRect y110.1)] ?_ ?_
            · cases hg119 : (y116 && (y110.2 == y112.2))
              · refine Tr.pass rfl rfl rfl rfl rfl (by decide) ?_
                refine Tr.pass rfl rfl rfl rfl rfl (by decide) ?_
                refine Tr.pass rfl rfl rfl rfl rfl (by decide) ?_
                refine Tr.val (wn rfl) rfl (fun _ _ h1 h2 => run_pickF (h1.ev rfl) (h1.ev rfl)) ?_
                exact Tr.nil (Tr.fin0 (.cons rfl (.cons rfl (.cons rfl .nil))) (.cons rfl (.cons rfl (.cons rfl .nil))))
              · refine Tr.val (wg rfl rfl rfl) rfl (fun _ _ h1 h2 => run_move (h1.ev rfl)) ?_
                refine Tr.val (wg rfl rfl rfl) rfl (fun _ _ h1 h2 => run_move (h1.ev rfl)) ?_
                refine Tr.val (wg rfl rfl rfl) rfl (fun _ _ h1 h2 => run_eql (h1.ev rfl) (h1.ev rfl)) ?_
                refine Tr.val (wn rfl) rfl (fun _ _ h1 h2 => run_pickT (h1.ev rfl) (h1.ev rfl)) ?_
                exact Tr.nil (Tr.fin0 (.cons rfl (.cons rfl (.cons rfl .nil))) (.cons rfl (.cons rfl (.cons rfl .nil))))
            · show Tr _ _ (LF [(10, (.int .i64 y114.2)), (12, (.int .i64 y115.2)), (89, (.bool ((y116 && (y110.2 == y112.2)) && (y114.1 == y115.1))))]) (LE [(1, ow Ay100_0 cy100_0 29 fl_TRect y100.1), (2, ow Ay105_0 cy105_0 29 fl_TRect y105.1), (3, ow Ay110_0 cy110_0 29 fl_TRect y110.1)]) _
              refine Tr.val (wn rfl) rfl (fun _ _ h1 h2 => run_move (h1.ev rfl)) ?_
              refine Tr.mid0 4 [(94, (.bool (((y116 && (y110.2 == y112.2)) && (y114.1 == y115.1)) && (y114.2 == y115.2))))] [(1, ow Ay100_0 cy100_0 29 fl_TRect y100.1), (2, ow Ay105_0 cy105_0 29 fl_TRect y105.1), (3, ow Ay110_0 cy110_0 29 fl_TRect y110.1)] ?_ ?_
              · cases hg119 : ((y116 && (y110.2 == y112.2)) && (y114.1 == y115.1))
                · refine Tr.pass rfl rfl rfl rfl rfl (by decide) ?_
                  refine Tr.pass rfl rfl rfl rfl rfl (by decide) ?_
                  refine Tr.pass rfl rfl rfl rfl rfl (by decide) ?_
                  refine Tr.val (wn rfl) rfl (fun _ _ h1 h2 => run_pickF (h1.ev rfl) (h1.ev rfl)) ?_
                  exact Tr.nil (Tr.fin0 (.cons rfl .nil) (.cons rfl (.cons rfl (.cons rfl .nil))))
                · refine Tr.val (wg rfl rfl rfl) rfl (fun _ _ h1 h2 => run_move (h1.ev rfl)) ?_
                  refine Tr.val (wg rfl rfl rfl) rfl (fun _ _ h1 h2 => run_move (h1.ev rfl)) ?_
                  refine Tr.val (wg rfl rfl rfl) rfl (fun _ _ h1 h2 => run_eql (h1.ev rfl) (h1.ev rfl)) ?_
                  refine Tr.val (wn rfl) rfl (fun _ _ h1 h2 => run_pickT (h1.ev rfl) (h1.ev rfl)) ?_
                  exact Tr.nil (Tr.fin0 (.cons rfl .nil) (.cons rfl (.cons rfl (.cons rfl .nil))))
              · show Tr _ _ (LF [(94, (.bool (((y116 && (y110.2 == y112.2)) && (y114.1 == y115.1)) && (y114.2 == y115.2))))]) (LE [(1, ow Ay100_0 cy100_0 29 fl_TRect y100.1), (2, ow Ay105_0 cy105_0 29 fl_TRect y105.1), (3, ow Ay110_0 cy110_0 29 fl_TRect y110.1)]) _
                refine Tr.val (wn rfl) rfl (fun _ _ h1 h2 => run_move (h1.ev rfl)) ?_
                obtain ⟨g118, hg118, H⟩ := bnd H
                refine Tr.mid0 2 [(97, (.bool g118))] [(1, ow Ay100_0 cy100_0 29 fl_TRect y100.1), (2, ow Ay105_0 cy105_0 29 fl_TRect y105.1), (3, ow Ay110_0 cy110_0 29 fl_TRect y110.1)] ?_ ?_
                · cases hg119 : (((y116 && (y110.2 == y112.2)) && (y114.1 == y115.1)) && (y114.2 == y115.2))
                  · rw [hg119] at hg118
                    rw [if_neg (by decide)] at hg118
                    have H := hg118
                    obtain rfl := Option.some.inj H
                    refine Tr.pass rfl rfl rfl rfl rfl (by decide) ?_
                    refine Tr.val (wn rfl) rfl (fun _ _ h1 h2 => run_pickF (h1.ev rfl) (h1.ev rfl)) ?_
                    exact Tr.nil (Tr.fin0 (.cons rfl .nil) (.cons rfl (.cons rfl (.cons rfl .nil))))
                  · rw [hg119] at hg118
                    rw [if_pos rfl] at hg118
                    have H := hg118
                    obtain ⟨y119, hy119, H⟩ := bnd H
                    refine Tr.call0 (r := (.bool y119)) (wg rfl rfl rfl) rfl Try.call20 evl_nil (fun W hW => F_etchhouselaw1_awake_ok N y119 hy119 (HF.start _)) ?_
                    refine Tr.val (wn rfl) rfl (fun _ _ h1 h2 => run_pickT (h1.ev rfl) (h1.ev rfl)) ?_
                    obtain rfl := Option.some.inj H
                    exact Tr.nil (Tr.fin0 (.cons rfl .nil) (.cons rfl (.cons rfl (.cons rfl .nil))))
                · show Tr _ _ (LF [(97, (.bool g118))]) (LE [(1, ow Ay100_0 cy100_0 29 fl_TRect y100.1), (2, ow Ay105_0 cy105_0 29 fl_TRect y105.1), (3, ow Ay110_0 cy110_0 29 fl_TRect y110.1)]) _
                  refine Tr.val (wn rfl) rfl (fun _ _ h1 h2 => run_assign (h1.ev rfl)) ?_
                  refine Tr.nil (Tr.normThen ?_)
                  refine Tr.ret ?_
                  obtain rfl := Option.some.inj H
                  exact Tr.out (m := [(.bool g118)]) [] (res_tmp rfl res_nil) (fun W hW => ⟨rfl, hW.low leB⟩)

theorem F_etchhouselaw1_area_ok (N : Nat) {w : Bs} (p0 : (List TRect)) (Ap0_0 : Option Addr) (cp0_0 : Nat) (hp0_0 : Sl w.R w.W fl_TRect Ap0_0 cp0_0 p0) (r : Int) (H : F_etchhouselaw1_area N p0 = some r) (hE : HF w w.W E0) : Calls Try.prog 48 [(.slice Ap0_0 (p0).length cp0_0)].toArray w.W fun e W' => e = .returned (.int .i64 r) ∧ HF w W' E0 := by
  unfold F_etchhouselaw1_area at H
  have leB := Bs.Le.refl w
  refine Tr.enter (n := 13) Try.func48 rfl rfl rfl hE ?_
  refine Tr.seq ?_
  refine Tr.region ?_
  refine Tr.val (wn rfl) rfl (fun _ _ h1 h2 => run_assign (h1.ev rfl)) ?_
  refine Tr.nil (Tr.normThen ?_)
  refine Tr.seq ?_
  refine Tr.region ?_
  refine Tr.val (wn rfl) rfl (fun _ _ h1 h2 => run_move (h1.ev rfl)) ?_
  obtain ⟨y100, hy100, H⟩ := bnd H
  refine Tr.call0 (r := (.tuple #[(.int .i64 y100.1), (.int .i64 y100.2)])) (wn rfl) rfl Try.call46 (evl_cons rfl evl_nil) (fun W hW => F_shape_Area_ok N p0 Ap0_0 cp0_0 (hp0_0.ext hW.extAll) y100 hy100 (HF.start _)) ?_
  refine Tr.val (wn rfl) rfl (fun _ _ h1 h2 => run_move (h1.ev rfl)) ?_
  refine Tr.val (wn rfl) rfl (fun _ _ h1 h2 => run_extract (h1.ev rfl) rfl) ?_
  refine Tr.val (wn rfl) rfl (fun _ _ h1 h2 => run_extract (h1.ev rfl) rfl) ?_
  refine Tr.val (wn rfl) rfl (fun _ _ h1 h2 => run_assign (h1.ev rfl)) ?_
  refine Tr.val (wn rfl) rfl (fun _ _ h1 h2 => run_assign (h1.ev rfl)) ?_
  refine Tr.nil (Tr.normThen ?_)
  refine Tr.seq ?_
  refine Tr.seq ?_
  refine Tr.region ?_
  refine Tr.val (wn rfl) rfl (fun _ _ h1 h2 => run_move (h1.ev rfl)) ?_
  refine Tr.val (wn rfl) rfl (fun _ _ h1 h2 => run_neq (h1.ev rfl) (h1.ev rfl)) ?_
  refine Tr.nil (Tr.normThen ?_)
  refine Tr.cond rfl H (fun H => ?_) (fun H => ?_)
  · refine Tr.seq ?_
    refine Tr.region ?_
    refine Tr.val (wn rfl) rfl (fun _ _ h1 h2 => run_assign (h1.ev rfl)) ?_
    refine Tr.nil (Tr.normThen ?_)
    refine Tr.ret (Tr.retThen ?_)
    obtain rfl := Option.some.inj H
    exact Tr.out (m := [(.int .i64 (-1))]) [] (res_tmp rfl res_nil) (fun W hW => ⟨rfl, hW.low leB⟩)
  · refine Tr.skip (Tr.normThen ?_)
    refine Tr.seq ?_
    refine Tr.region ?_
    refine Tr.val (wn rfl) rfl (fun _ _ h1 h2 => run_move (h1.ev rfl)) ?_
    refine Tr.val (wn rfl) rfl (fun _ _ h1 h2 => run_assign (h1.ev rfl)) ?_
    refine Tr.nil (Tr.normThen ?_)
    refine Tr.ret ?_
    obtain rfl := Option.some.inj H
    exact Tr.out (m := [(.int .i64 y100.1)]) [] (res_tmp rfl res_nil) (fun W hW => ⟨rfl, hW.low leB⟩)

theorem F_etchhouselaw1_SetsAddUp_ok (N : Nat) {w : Bs} (p0 : (List TRect)) (Ap0_0 : Option Addr) (cp0_0 : Nat) (hp0_0 : Sl w.R w.W fl_TRect Ap0_0 cp0_0 p0) (p1 : (List TRect)) (Ap1_0 : Option Addr) (cp1_0 : Nat) (hp1_0 : Sl w.R w.W fl_TRect Ap1_0 cp1_0 p1) (r : Bool) (H : F_etchhouselaw1_SetsAddUp N p0 p1 = some r) (hE : HF w w.W E0) : Calls Try.prog 11 [(.slice Ap0_0 (p0).length cp0_0), (.slice Ap1_0 (p1).length cp1_0)].toArray w.W fun e W' => e = .returned (.bool r) ∧ HF w W' E0 := by
  unfold F_etchhouselaw1_SetsAddUp at H
  have leB := Bs.Le.refl w
  refine Tr.enter (n := 105) Try.func11 rfl rfl rfl hE ?_
  refine Tr.seq ?_
  refine Tr.region ?_
  refine Tr.val (wn rfl) rfl (fun _ _ h1 h2 => run_assign (h1.ev rfl)) ?_
  refine Tr.nil (Tr.normThen ?_)
  refine Tr.seq ?_
  refine Tr.region ?_
  refine Tr.val (wn rfl) rfl (fun _ _ h1 h2 => run_move (h1.ev rfl)) ?_
  refine Tr.val (wn rfl) rfl (fun _ _ h1 h2 => run_move (h1.ev rfl)) ?_
  obtain ⟨y100, hy100, H⟩ := bnd H
  refine Tr.callM [1] [emp] (U := (Option Addr × Nat)) (fun u => (.tuple #[(.slice u.1 (y100.1).length u.2), (.int .i64 y100.2)])) (fun u => SlF u.1 (y100.1).length u.2) (fun u => [ow u.1 u.2 29 fl_TRect y100.1]) rfl (pk_cons rfl pk_nil) (fun _ => rfl) (wn rfl) rfl Try.call40 (evl_cons rfl (evl_cons rfl evl_nil)) (fun W hW hp hE => F_shape_Union_ok N p0 Ap0_0 cp0_0 (hp0_0.ext (hW.extS hp)) p1 Ap1_0 cp1_0 (hp1_0.ext (hW.extS hp)) y100 hy100 hE) ?_
  intro u hu
  obtain ⟨Ay100_0, cy100_0⟩ := u
  have gy100_0 := hu
  have hgy100_0 : SlF Ay100_0 (y100.1).length cy100_0 := gy100_0 --@phi
  show Tr _ _ (uf _ 16 (.tuple #[(.slice Ay100_0 (y100.1).length cy100_0), (.int .i64 y100.2)])) (up _ 1 (ow Ay100_0 cy100_0 29 fl_TRect y100.1)) _
  refine Tr.val (wn rfl) rfl (fun _ _ h1 h2 => run_move (h1.ev rfl)) ?_
  refine Tr.val (wn rfl) rfl (fun _ _ h1 h2 => run_extract (h1.ev rfl) rfl) ?_
  refine Tr.val (wn rfl) rfl (fun _ _ h1 h2 => run_extract (h1.ev rfl) rfl) ?_
  refine Tr.val (wn rfl) rfl (fun _ _ h1 h2 => run_assign (h1.ev rfl)) ?_
  refine Tr.val (wn rfl) rfl (fun _ _ h1 h2 => run_assign (h1.ev rfl)) ?_
  refine Tr.nil (Tr.normThen ?_)
  refine Tr.seq ?_
  refine Tr.region ?_
  refine Tr.val (wn rfl) rfl (fun _ _ h1 h2 => run_move (h1.ev rfl)) ?_
  refine Tr.val (wn rfl) rfl (fun _ _ h1 h2 => run_move (h1.ev rfl)) ?_
  obtain ⟨y102, hy102, H⟩ := bnd H
  refine Tr.callM [2] [emp] (U := (Option Addr × Nat)) (fun u => (.tuple #[(.slice u.1 (y102.1).length u.2), (.int .i64 y102.2)])) (fun u => SlF u.1 (y102.1).length u.2) (fun u => [ow u.1 u.2 29 fl_TRect y102.1]) rfl (pk_cons rfl pk_nil) (fun _ => rfl) (wn rfl) rfl Try.call42 (evl_cons rfl (evl_cons rfl evl_nil)) (fun W hW hp hE => F_shape_Both_ok N p0 Ap0_0 cp0_0 (hp0_0.ext (hW.extS hp)) p1 Ap1_0 cp1_0 (hp1_0.ext (hW.extS hp)) y102 hy102 hE) ?_
  intro u hu
  obtain ⟨Ay102_0, cy102_0⟩ := u
  have gy102_0 := hu
  have hgy102_0 : SlF Ay102_0 (y102.1).length cy102_0 := gy102_0 --@phi
  show Tr _ _ (uf _ 22 (.tuple #[(.slice Ay102_0 (y102.1).length cy102_0), (.int .i64 y102.2)])) (up _ 2 (ow Ay102_0 cy102_0 29 fl_TRect y102.1)) _
  refine Tr.val (wn rfl) rfl (fun _ _ h1 h2 => run_move (h1.ev rfl)) ?_
  refine Tr.val (wn rfl) rfl (fun _ _ h1 h2 => run_extract (h1.ev rfl) rfl) ?_
  refine Tr.val (wn rfl) rfl (fun _ _ h1 h2 => run_extract (h1.ev rfl) rfl) ?_
  refine Tr.val (wn rfl) rfl (fun _ _ h1 h2 => run_assign (h1.ev rfl)) ?_
  refine Tr.val (wn rfl) rfl (fun _ _ h1 h2 => run_assign (h1.ev rfl)) ?_
  refine Tr.nil (Tr.normThen ?_)
  refine Tr.seq ?_
  refine Tr.region ?_
  refine Tr.val (wn rfl) rfl (fun _ _ h1 h2 => run_move (h1.ev rfl)) ?_
  refine Tr.val (wn rfl) rfl (fun _ _ h1 h2 => run_move (h1.ev rfl)) ?_
  obtain ⟨y104, hy104, H⟩ := bnd H
  refine Tr.callM [3] [emp] (U := (Option Addr × Nat)) (fun u => (.tuple #[(.slice u.1 (y104.1).length u.2), (.int .i64 y104.2)])) (fun u => SlF u.1 (y104.1).length u.2) (fun u => [ow u.1 u.2 29 fl_TRect y104.1]) rfl (pk_cons rfl pk_nil) (fun _ => rfl) (wn rfl) rfl Try.call44 (evl_cons rfl (evl_cons rfl evl_nil)) (fun W hW hp hE => F_shape_Minus_ok N p0 Ap0_0 cp0_0 (hp0_0.ext (hW.extS hp)) p1 Ap1_0 cp1_0 (hp1_0.ext (hW.extS hp)) y104 hy104 hE) ?_
  intro u hu
  obtain ⟨Ay104_0, cy104_0⟩ := u
  have gy104_0 := hu
  have hgy104_0 : SlF Ay104_0 (y104.1).length cy104_0 := gy104_0 --@phi
  show Tr _ _ (uf _ 28 (.tuple #[(.slice Ay104_0 (y104.1).length cy104_0), (.int .i64 y104.2)])) (up _ 3 (ow Ay104_0 cy104_0 29 fl_TRect y104.1)) _
  refine Tr.val (wn rfl) rfl (fun _ _ h1 h2 => run_move (h1.ev rfl)) ?_
  refine Tr.val (wn rfl) rfl (fun _ _ h1 h2 => run_extract (h1.ev rfl) rfl) ?_
  refine Tr.val (wn rfl) rfl (fun _ _ h1 h2 => run_extract (h1.ev rfl) rfl) ?_
  refine Tr.val (wn rfl) rfl (fun _ _ h1 h2 => run_assign (h1.ev rfl)) ?_
  refine Tr.val (wn rfl) rfl (fun _ _ h1 h2 => run_assign (h1.ev rfl)) ?_
  refine Tr.nil (Tr.normThen ?_)
  refine Tr.seq ?_
  refine Tr.seq ?_
  refine Tr.region ?_
  refine Tr.val (wn rfl) rfl (fun _ _ h1 h2 => run_move (h1.ev rfl)) ?_
  refine Tr.val (wn rfl) rfl (fun _ _ h1 h2 => run_neq (h1.ev rfl) (h1.ev rfl)) ?_
  refine Tr.val (wn rfl) rfl (fun _ _ h1 h2 => run_move (h1.ev rfl)) ?_
  refine Tr.mid0 3 [(0, (.slice Ap0_0 (p0).length cp0_0)), (1, (.slice Ap1_0 (p1).length cp1_0)), (5, (.slice Ay100_0 (y100.1).length cy100_0)), (6, (.int .i64 y100.2)), (7, (.slice Ay102_0 (y102.1).length cy102_0)), (9, (.slice Ay104_0 (y104.1).length cy104_0)), (10, (.int .i64 y104.2)), (36, (.bool ((y100.2 != 0) || (y102.2 != 0))))] [(1, ow Ay100_0 cy100_0 29 fl_TRect y100.1), (2, ow Ay102_0 cy102_0 29 fl_TRect y102.1), (3, ow Ay104_0 cy104_0 29 fl_TRect y104.1)] ?_ ?_
  · cases hg134 : (y100.2 != 0)
    · refine Tr.val (wg rfl rfl rfl) rfl (fun _ _ h1 h2 => run_move (h1.ev rfl)) ?_
      refine Tr.val (wg rfl rfl rfl) rfl (fun _ _ h1 h2 => run_neq (h1.ev rfl) (h1.ev rfl)) ?_
      refine Tr.val (wn rfl) rfl (fun _ _ h1 h2 => run_pickF (h1.ev rfl) (h1.ev rfl)) ?_
      exact Tr.nil (Tr.fin0 (.cons rfl (.cons rfl (.cons rfl (.cons rfl (.cons rfl (.cons rfl (.cons rfl (.cons rfl .nil)))))))) (.cons rfl (.cons rfl (.cons rfl .nil))))
    · refine Tr.pass rfl rfl rfl rfl rfl (by decide) ?_
      refine Tr.pass rfl rfl rfl rfl rfl (by decide) ?_
      refine Tr.val (wn rfl) rfl (fun _ _ h1 h2 => run_pickT (h1.ev rfl) (h1.ev rfl)) ?_
      exact Tr.nil (Tr.fin0 (.cons rfl (.cons rfl (.cons rfl (.cons rfl (.cons rfl (.cons rfl (.cons rfl (.cons rfl .nil)))))))) (.cons rfl (.cons rfl (.cons rfl .nil))))
  · show Tr _ _ (LF [(0, (.slice Ap0_0 (p0).length cp0_0)), (1, (.slice Ap1_0 (p1).length cp1_0)), (5, (.slice Ay100_0 (y100.1).length cy100_0)), (6, (.int .i64 y100.2)), (7, (.slice Ay102_0 (y102.1).length cy102_0)), (9, (.slice Ay104_0 (y104.1).length cy104_0)), (10, (.int .i64 y104.2)), (36, (.bool ((y100.2 != 0) || (y102.2 != 0))))]) (LE [(1, ow Ay100_0 cy100_0 29 fl_TRect y100.1), (2, ow Ay102_0 cy102_0 29 fl_TRect y102.1), (3, ow Ay104_0 cy104_0 29 fl_TRect y104.1)]) _
    refine Tr.val (wn rfl) rfl (fun _ _ h1 h2 => run_move (h1.ev rfl)) ?_
    refine Tr.mid0 3 [(0, (.slice Ap0_0 (p0).length cp0_0)), (1, (.slice Ap1_0 (p1).length cp1_0)), (5, (.slice Ay100_0 (y100.1).length cy100_0)), (6, (.int .i64 y100.2)), (7, (.slice Ay102_0 (y102.1).length cy102_0)), (9, (.slice Ay104_0 (y104.1).length cy104_0)), (40, (.bool (((y100.2 != 0) || (y102.2 != 0)) || (y104.2 != 0))))] [(1, ow Ay100_0 cy100_0 29 fl_TRect y100.1), (2, ow Ay102_0 cy102_0 29 fl_TRect y102.1), (3, ow Ay104_0 cy104_0 29 fl_TRect y104.1)] ?_ ?_
    · cases hg134 : ((y100.2 != 0) || (y102.2 != 0))
      · refine Tr.val (wg rfl rfl rfl) rfl (fun _ _ h1 h2 => run_move (h1.ev rfl)) ?_
        refine Tr.val (wg rfl rfl rfl) rfl (fun _ _ h1 h2 => run_neq (h1.ev rfl) (h1.ev rfl)) ?_
        refine Tr.val (wn rfl) rfl (fun _ _ h1 h2 => run_pickF (h1.ev rfl) (h1.ev rfl)) ?_
        exact Tr.nil (Tr.fin0 (.cons rfl (.cons rfl (.cons rfl (.cons rfl (.cons rfl (.cons rfl (.cons rfl .nil))))))) (.cons rfl (.cons rfl (.cons rfl .nil))))
      · refine Tr.pass rfl rfl rfl rfl rfl (by decide) ?_
        refine Tr.pass rfl rfl rfl rfl rfl (by decide) ?_
        refine Tr.val (wn rfl) rfl (fun _ _ h1 h2 => run_pickT (h1.ev rfl) (h1.ev rfl)) ?_
        exact Tr.nil (Tr.fin0 (.cons rfl (.cons rfl (.cons rfl (.cons rfl (.cons rfl (.cons rfl (.cons rfl .nil))))))) (.cons rfl (.cons rfl (.cons rfl .nil))))
    · show Tr _ _ (LF [(0, (.slice Ap0_0 (p0).length cp0_0)), (1, (.slice Ap1_0 (p1).length cp1_0)), (5, (.slice Ay100_0 (y100.1).length cy100_0)), (6, (.int .i64 y100.2)), (7, (.slice Ay102_0 (y102.1).length cy102_0)), (9, (.slice Ay104_0 (y104.1).length cy104_0)), (40, (.bool (((y100.2 != 0) || (y102.2 != 0)) || (y104.2 != 0))))]) (LE [(1, ow Ay100_0 cy100_0 29 fl_TRect y100.1), (2, ow Ay102_0 cy102_0 29 fl_TRect y102.1), (3, ow Ay104_0 cy104_0 29 fl_TRect y104.1)]) _
      refine Tr.nil (Tr.normThen ?_)
      refine Tr.cond rfl H (fun H => ?_) (fun H => ?_)
      · refine Tr.seq ?_
        refine Tr.region ?_
        refine Tr.val (wn rfl) rfl (fun _ _ h1 h2 => run_move (h1.ev rfl)) ?_
        refine Tr.val (wn rfl) rfl (fun _ _ h1 h2 => run_eql (h1.ev rfl) (h1.ev rfl)) ?_
        refine Tr.val (wn rfl) rfl (fun _ _ h1 h2 => run_move (h1.ev rfl)) ?_
        refine Tr.mid0 4 [(47, (.bool ((y100.2 == 0) || ((y100.1.length : Int) == 0))))] [(1, ow Ay100_0 cy100_0 29 fl_TRect y100.1), (2, ow Ay102_0 cy102_0 29 fl_TRect y102.1), (3, ow Ay104_0 cy104_0 29 fl_TRect y104.1)] ?_ ?_
        · cases hg108 : (y100.2 == 0)
          · refine Tr.val (wg rfl rfl rfl) rfl (fun _ _ h1 h2 => run_move (h1.ev rfl)) ?_
            refine Tr.val (wg rfl rfl rfl) rfl (fun _ _ h1 h2 => run_len un_22 (h1.ev rfl)) ?_
            refine Tr.val (wg rfl rfl rfl) rfl (fun _ _ h1 h2 => run_eql (h1.ev rfl) (h1.ev rfl)) ?_
            refine Tr.val (wn rfl) rfl (fun _ _ h1 h2 => run_pickF (h1.ev rfl) (h1.ev rfl)) ?_
            exact Tr.nil (Tr.fin0 (.cons rfl .nil) (.cons rfl (.cons rfl (.cons rfl .nil))))
          · refine Tr.pass rfl rfl rfl rfl rfl (by decide) ?_
            refine Tr.pass rfl rfl rfl rfl rfl (by decide) ?_
            refine Tr.pass rfl rfl rfl rfl rfl (by decide) ?_
            refine Tr.val (wn rfl) rfl (fun _ _ h1 h2 => run_pickT (h1.ev rfl) (h1.ev rfl)) ?_
            exact Tr.nil (Tr.fin0 (.cons rfl .nil) (.cons rfl (.cons rfl (.cons rfl .nil))))
        · show Tr _ _ (LF [(47, (.bool ((y100.2 == 0) || ((y100.1.length : Int) == 0))))]) (LE [(1, ow Ay100_0 cy100_0 29 fl_TRect y100.1), (2, ow Ay102_0 cy102_0 29 fl_TRect y102.1), (3, ow Ay104_0 cy104_0 29 fl_TRect y104.1)]) _
          refine Tr.val (wn rfl) rfl (fun _ _ h1 h2 => run_move (h1.ev rfl)) ?_
          obtain ⟨g107, hg107, H⟩ := bnd H
          refine Tr.mid0 2 [(50, (.bool g107))] [(1, ow Ay100_0 cy100_0 29 fl_TRect y100.1), (2, ow Ay102_0 cy102_0 29 fl_TRect y102.1), (3, ow Ay104_0 cy104_0 29 fl_TRect y104.1)] ?_ ?_
          · cases hg108 : ((y100.2 == 0) || ((y100.1.length : Int) == 0))
            · rw [hg108] at hg107
              rw [if_neg (by decide)] at hg107
              have H := hg107
              obtain rfl := Option.some.inj H
              refine Tr.pass rfl rfl rfl rfl rfl (by decide) ?_
              refine Tr.val (wn rfl) rfl (fun _ _ h1 h2 => run_pickF (h1.ev rfl) (h1.ev rfl)) ?_
              exact Tr.nil (Tr.fin0 (.cons rfl .nil) (.cons rfl (.cons rfl (.cons rfl .nil))))
            · rw [hg108] at hg107
              rw [if_pos rfl] at hg107
              have H := hg107
              obtain ⟨y108, hy108, H⟩ := bnd H
              refine Tr.call0 (r := (.bool y108)) (wg rfl rfl rfl) rfl Try.call20 evl_nil (fun W hW => F_etchhouselaw1_awake_ok N y108 hy108 (HF.start _)) ?_
              refine Tr.val (wn rfl) rfl (fun _ _ h1 h2 => run_pickT (h1.ev rfl) (h1.ev rfl)) ?_
              obtain rfl := Option.some.inj H
              exact Tr.nil (Tr.fin0 (.cons rfl .nil) (.cons rfl (.cons rfl (.cons rfl .nil))))
          · show Tr _ _ (LF [(50, (.bool g107))]) (LE [(1, ow Ay100_0 cy100_0 29 fl_TRect y100.1), (2, ow Ay102_0 cy102_0 29 fl_TRect y102.1), (3, ow Ay104_0 cy104_0 29 fl_TRect y104.1)]) _
            refine Tr.val (wn rfl) rfl (fun _ _ h1 h2 => run_assign (h1.ev rfl)) ?_
            refine Tr.nil (Tr.normThen ?_)
            refine Tr.ret (Tr.retThen ?_)
            obtain rfl := Option.some.inj H
            exact Tr.out (m := [(.bool g107)]) [] (res_tmp rfl res_nil) (fun W hW => ⟨rfl, hW.low leB⟩)
      · refine Tr.skip (Tr.normThen ?_)
        refine Tr.seq ?_
        refine Tr.region ?_
        refine Tr.val (wn rfl) rfl (fun _ _ h1 h2 => run_move (h1.ev rfl)) ?_
        refine Tr.val (wn rfl) rfl (fun _ _ h1 h2 => run_move (h1.ev rfl)) ?_
        obtain ⟨y109, hy109, H⟩ := bnd H
        refine Tr.callM [4] [emp] (U := (Option Addr × Nat)) (fun u => (.tuple #[(.slice u.1 (y109.1).length u.2), (.int .i64 y109.2)])) (fun u => SlF u.1 (y109.1).length u.2) (fun u => [ow u.1 u.2 29 fl_TRect y109.1]) rfl (pk_cons rfl pk_nil) (fun _ => rfl) (wn rfl) rfl Try.call40 (evl_cons rfl (evl_cons rfl evl_nil)) (fun W hW hp hE => F_shape_Union_ok N y104.1 Ay104_0 cy104_0 (hW.slS (k := 3) rfl hp rfl) y102.1 Ay102_0 cy102_0 (hW.slS (k := 2) rfl hp rfl) y109 hy109 hE) ?_
        intro u hu
        obtain ⟨Ay109_0, cy109_0⟩ := u
        have gy109_0 := hu
        have hgy109_0 : SlF Ay109_0 (y109.1).length cy109_0 := gy109_0 --@phi
        show Tr _ _ (uf _ 54 (.tuple #[(.slice Ay109_0 (y109.1).length cy109_0), (.int .i64 y109.2)])) (up _ 4 (ow Ay109_0 cy109_0 29 fl_TRect y109.1)) _
        refine Tr.val (wn rfl) rfl (fun _ _ h1 h2 => run_move (h1.ev rfl)) ?_
        refine Tr.val (wn rfl) rfl (fun _ _ h1 h2 => run_extract (h1.ev rfl) rfl) ?_
        refine Tr.val (wn rfl) rfl (fun _ _ h1 h2 => run_extract (h1.ev rfl) rfl) ?_
        refine Tr.val (wn rfl) rfl (fun _ _ h1 h2 => run_assign (h1.ev rfl)) ?_
        refine Tr.val (wn rfl) rfl (fun _ _ h1 h2 => run_assign (h1.ev rfl)) ?_
        refine Tr.nil (Tr.normThen ?_)
        refine Tr.seq ?_
        refine Tr.region ?_
        refine Tr.val (wn rfl) rfl (fun _ _ h1 h2 => run_move (h1.ev rfl)) ?_
        refine Tr.val (wn rfl) rfl (fun _ _ h1 h2 => run_move (h1.ev rfl)) ?_
        obtain ⟨y111, hy111, H⟩ := bnd H
        refine Tr.callM [5] [emp] (U := (Option Addr × Nat)) (fun u => (.tuple #[(.slice u.1 (y111.1).length u.2), (.int .i64 y111.2)])) (fun u => SlF u.1 (y111.1).length u.2) (fun u => [ow u.1 u.2 29 fl_TRect y111.1]) rfl (pk_cons rfl pk_nil) (fun _ => rfl) (wn rfl) rfl Try.call42 (evl_cons rfl (evl_cons rfl evl_nil)) (fun W hW hp hE => F_shape_Both_ok N y104.1 Ay104_0 cy104_0 (hW.slS (k := 3) rfl hp rfl) p1 Ap1_0 cp1_0 (hp1_0.ext (hW.extS hp)) y111 hy111 hE) ?_
        intro u hu
        obtain ⟨Ay111_0, cy111_0⟩ := u
        have gy111_0 := hu
        have hgy111_0 : SlF Ay111_0 (y111.1).length cy111_0 := gy111_0 --@phi
        show Tr _ _ (uf _ 60 (.tuple #[(.slice Ay111_0 (y111.1).length cy111_0), (.int .i64 y111.2)])) (up _ 5 (ow Ay111_0 cy111_0 29 fl_TRect y111.1)) _
        refine Tr.val (wn rfl) rfl (fun _ _ h1 h2 => run_move (h1.ev rfl)) ?_
        refine Tr.val (wn rfl) rfl (fun _ _ h1 h2 => run_extract (h1.ev rfl) rfl) ?_
        refine Tr.val (wn rfl) rfl (fun _ _ h1 h2 => run_extract (h1.ev rfl) rfl) ?_
        refine Tr.val (wn rfl) rfl (fun _ _ h1 h2 => run_assign (h1.ev rfl)) ?_
        refine Tr.val (wn rfl) rfl (fun _ _ h1 h2 => run_assign (h1.ev rfl)) ?_
        refine Tr.nil (Tr.normThen ?_)
        refine Tr.seq ?_
        refine Tr.region ?_
        refine Tr.val (wn rfl) rfl (fun _ _ h1 h2 => run_move (h1.ev rfl)) ?_
        refine Tr.val (wn rfl) rfl (fun _ _ h1 h2 => run_eql (h1.ev rfl) (h1.ev rfl)) ?_
        refine Tr.val (wn rfl) rfl (fun _ _ h1 h2 => run_move (h1.ev rfl)) ?_
        obtain ⟨g114, hg114, H⟩ := bnd H
        refine Tr.mid0 4 [(0, (.slice Ap0_0 (p0).length cp0_0)), (1, (.slice Ap1_0 (p1).length cp1_0)), (5, (.slice Ay100_0 (y100.1).length cy100_0)), (7, (.slice Ay102_0 (y102.1).length cy102_0)), (8, (.int .i64 y111.2)), (9, (.slice Ay104_0 (y104.1).length cy104_0)), (12, (.slice Ay111_0 (y111.1).length cy111_0)), (69, (.bool g114))] [(1, ow Ay100_0 cy100_0 29 fl_TRect y100.1), (2, ow Ay102_0 cy102_0 29 fl_TRect y102.1), (3, ow Ay104_0 cy104_0 29 fl_TRect y104.1), (4, ow Ay109_0 cy109_0 29 fl_TRect y109.1), (5, ow Ay111_0 cy111_0 29 fl_TRect y111.1)] ?_ ?_
        · cases hg134 : (y109.2 == 0)
          · rw [hg134] at hg114
            rw [if_neg (by decide)] at hg114
            have H := hg114
            obtain rfl := Option.some.inj H
            refine Tr.pass rfl rfl rfl rfl rfl (by decide) ?_
            refine Tr.pass rfl rfl rfl rfl rfl (by decide) ?_
            refine Tr.pass rfl rfl rfl rfl rfl (by decide) ?_
            refine Tr.val (wn rfl) rfl (fun _ _ h1 h2 => run_pickF (h1.ev rfl) (h1.ev rfl)) ?_
            exact Tr.nil (Tr.fin0 (.cons rfl (.cons rfl (.cons rfl (.cons rfl (.cons rfl (.cons rfl (.cons rfl (.cons rfl .nil)))))))) (.cons rfl (.cons rfl (.cons rfl (.cons rfl (.cons rfl .nil))))))
          · rw [hg134] at hg114
            rw [if_pos rfl] at hg114
            have H := hg114
            refine Tr.val (wg rfl rfl rfl) rfl (fun _ _ h1 h2 => run_move (h1.ev rfl)) ?_
            refine Tr.val (wg rfl rfl rfl) rfl (fun _ _ h1 h2 => run_move (h1.ev rfl)) ?_
            obtain ⟨y115, hy115, H⟩ := bnd H
            refine Tr.call0 (r := (.bool y115)) (wg rfl rfl rfl) rfl Try.call19 (evl_cons rfl (evl_cons rfl evl_nil)) (fun W hW => F_slices_Equal_Rect_ok y109.1 Ay109_0 cy109_0 (hW.slCall (k := 4) rfl) p0 Ap0_0 cp0_0 (hp0_0.ext hW.extAll) y115 hy115 (HF.start _)) ?_
            refine Tr.val (wn rfl) rfl (fun _ _ h1 h2 => run_pickT (h1.ev rfl) (h1.ev rfl)) ?_
            obtain rfl := Option.some.inj H
            exact Tr.nil (Tr.fin0 (.cons rfl (.cons rfl (.cons rfl (.cons rfl (.cons rfl (.cons rfl (.cons rfl (.cons rfl .nil)))))))) (.cons rfl (.cons rfl (.cons rfl (.cons rfl (.cons rfl .nil))))))
        · show Tr _ _ (LF [(0, (.slice Ap0_0 (p0).length cp0_0)), (1, (.slice Ap1_0 (p1).length cp1_0)), (5, (.slice Ay100_0 (y100.1).length cy100_0)), (7, (.slice Ay102_0 (y102.1).length cy102_0)), (8, (.int .i64 y111.2)), (9, (.slice Ay104_0 (y104.1).length cy104_0)), (12, (.slice Ay111_0 (y111.1).length cy111_0)), (69, (.bool g114))]) (LE [(1, ow Ay100_0 cy100_0 29 fl_TRect y100.1), (2, ow Ay102_0 cy102_0 29 fl_TRect y102.1), (3, ow Ay104_0 cy104_0 29 fl_TRect y104.1), (4, ow Ay109_0 cy109_0 29 fl_TRect y109.1), (5, ow Ay111_0 cy111_0 29 fl_TRect y111.1)]) _
          refine Tr.val (wn rfl) rfl (fun _ _ h1 h2 => run_move (h1.ev rfl)) ?_
          refine Tr.mid0 3 [(0, (.slice Ap0_0 (p0).length cp0_0)), (1, (.slice Ap1_0 (p1).length cp1_0)), (5, (.slice Ay100_0 (y100.1).length cy100_0)), (7, (.slice Ay102_0 (y102.1).length cy102_0)), (9, (.slice Ay104_0 (y104.1).length cy104_0)), (12, (.slice Ay111_0 (y111.1).length cy111_0)), (73, (.bool (g114 && (y111.2 == 0))))] [(1, ow Ay100_0 cy100_0 29 fl_TRect y100.1), (2, ow Ay102_0 cy102_0 29 fl_TRect y102.1), (3, ow Ay104_0 cy104_0 29 fl_TRect y104.1), (4, ow Ay109_0 cy109_0 29 fl_TRect y109.1), (5, ow Ay111_0 cy111_0 29 fl_TRect y111.1)] ?_ ?_
          · cases hg134 : g114
            · refine Tr.pass rfl rfl rfl rfl rfl (by decide) ?_
              refine Tr.pass rfl rfl rfl rfl rfl (by decide) ?_
              refine Tr.val (wn rfl) rfl (fun _ _ h1 h2 => run_pickF (h1.ev rfl) (h1.ev rfl)) ?_
              exact Tr.nil (Tr.fin0 (.cons rfl (.cons rfl (.cons rfl (.cons rfl (.cons rfl (.cons rfl (.cons rfl .nil))))))) (.cons rfl (.cons rfl (.cons rfl (.cons rfl (.cons rfl .nil))))))
            · refine Tr.val (wg rfl rfl rfl) rfl (fun _ _ h1 h2 => run_move (h1.ev rfl)) ?_
              refine Tr.val (wg rfl rfl rfl) rfl (fun _ _ h1 h2 => run_eql (h1.ev rfl) (h1.ev rfl)) ?_
              refine Tr.val (wn rfl) rfl (fun _ _ h1 h2 => run_pickT (h1.ev rfl) (h1.ev rfl)) ?_
              exact Tr.nil (Tr.fin0 (.cons rfl (.cons rfl (.cons rfl (.cons rfl (.cons rfl (.cons rfl (.cons rfl .nil))))))) (.cons rfl (.cons rfl (.cons rfl (.cons rfl (.cons rfl .nil))))))
          · show Tr _ _ (LF [(0, (.slice Ap0_0 (p0).length cp0_0)), (1, (.slice Ap1_0 (p1).length cp1_0)), (5, (.slice Ay100_0 (y100.1).length cy100_0)), (7, (.slice Ay102_0 (y102.1).length cy102_0)), (9, (.slice Ay104_0 (y104.1).length cy104_0)), (12, (.slice Ay111_0 (y111.1).length cy111_0)), (73, (.bool (g114 && (y111.2 == 0))))]) (LE [(1, ow Ay100_0 cy100_0 29 fl_TRect y100.1), (2, ow Ay102_0 cy102_0 29 fl_TRect y102.1), (3, ow Ay104_0 cy104_0 29 fl_TRect y104.1), (4, ow Ay109_0 cy109_0 29 fl_TRect y109.1), (5, ow Ay111_0 cy111_0 29 fl_TRect y111.1)]) _
            refine Tr.val (wn rfl) rfl (fun _ _ h1 h2 => run_move (h1.ev rfl)) ?_
            refine Tr.mid0 4 [(0, (.slice Ap0_0 (p0).length cp0_0)), (1, (.slice Ap1_0 (p1).length cp1_0)), (5, (.slice Ay100_0 (y100.1).length cy100_0)), (7, (.slice Ay102_0 (y102.1).length cy102_0)), (9, (.slice Ay104_0 (y104.1).length cy104_0)), (78, (.bool ((g114 && (y111.2 == 0)) && ((y111.1.length : Int) == 0))))] [(1, ow Ay100_0 cy100_0 29 fl_TRect y100.1), (2, ow Ay102_0 cy102_0 29 fl_TRect y102.1), (3, ow Ay104_0 cy104_0 29 fl_TRect y104.1), (4, ow Ay109_0 cy109_0 29 fl_TRect y109.1), (5, ow Ay111_0 cy111_0 29 fl_TRect y111.1)] ?_ ?_
            · cases hg134 : (g114 && (y111.2 == 0))
              · refine Tr.pass rfl rfl rfl rfl rfl (by decide) ?_
                refine Tr.pass rfl rfl rfl rfl rfl (by decide) ?_
                refine Tr.pass rfl rfl rfl rfl rfl (by decide) ?_
                refine Tr.val (wn rfl) rfl (fun _ _ h1 h2 => run_pickF (h1.ev rfl) (h1.ev rfl)) ?_
                exact Tr.nil (Tr.fin0 (.cons rfl (.cons rfl (.cons rfl (.cons rfl (.cons rfl (.cons rfl .nil)))))) (.cons rfl (.cons rfl (.cons rfl (.cons rfl (.cons rfl .nil))))))
              · refine Tr.val (wg rfl rfl rfl) rfl (fun _ _ h1 h2 => run_move (h1.ev rfl)) ?_
                refine Tr.val (wg rfl rfl rfl) rfl (fun _ _ h1 h2 => run_len un_22 (h1.ev rfl)) ?_
                refine Tr.val (wg rfl rfl rfl) rfl (fun _ _ h1 h2 => run_eql (h1.ev rfl) (h1.ev rfl)) ?_
                refine Tr.val (wn rfl) rfl (fun _ _ h1 h2 => run_pickT (h1.ev rfl) (h1.ev rfl)) ?_
                exact Tr.nil (Tr.fin0 (.cons rfl (.cons rfl (.cons rfl (.cons rfl (.cons rfl (.cons rfl .nil)))))) (.cons rfl (.cons rfl (.cons rfl (.cons rfl (.cons rfl .nil))))))
            · show Tr _ _ (LF [(0, (.slice Ap0_0 (p0).length cp0_0)), (1, (.slice Ap1_0 (p1).length cp1_0)), (5, (.slice Ay100_0 (y100.1).length cy100_0)), (7, (.slice Ay102_0 (y102.1).length cy102_0)), (9, (.slice Ay104_0 (y104.1).length cy104_0)), (78, (.bool ((g114 && (y111.2 == 0)) && ((y111.1.length : Int) == 0))))]) (LE [(1, ow Ay100_0 cy100_0 29 fl_TRect y100.1), (2, ow Ay102_0 cy102_0 29 fl_TRect y102.1), (3, ow Ay104_0 cy104_0 29 fl_TRect y104.1), (4, ow Ay109_0 cy109_0 29 fl_TRect y109.1), (5, ow Ay111_0 cy111_0 29 fl_TRect y111.1)]) _
              refine Tr.val (wn rfl) rfl (fun _ _ h1 h2 => run_move (h1.ev rfl)) ?_
              obtain ⟨g120, hg120, H⟩ := bnd H
              refine Tr.mid0 12 [(0, (.slice Ap0_0 (p0).length cp0_0)), (7, (.slice Ay102_0 (y102.1).length cy102_0)), (9, (.slice Ay104_0 (y104.1).length cy104_0)), (91, (.bool g120))] [(1, ow Ay100_0 cy100_0 29 fl_TRect y100.1), (2, ow Ay102_0 cy102_0 29 fl_TRect y102.1), (3, ow Ay104_0 cy104_0 29 fl_TRect y104.1), (4, ow Ay109_0 cy109_0 29 fl_TRect y109.1), (5, ow Ay111_0 cy111_0 29 fl_TRect y111.1)] ?_ ?_
              · cases hg134 : ((g114 && (y111.2 == 0)) && ((y111.1.length : Int) == 0))
                · rw [hg134] at hg120
                  rw [if_neg (by decide)] at hg120
                  have H := hg120
                  obtain rfl := Option.some.inj H
                  refine Tr.pass rfl rfl rfl rfl rfl (by decide) ?_
                  refine Tr.pass rfl rfl rfl rfl rfl (by decide) ?_
                  refine Tr.pass rfl rfl rfl rfl rfl (by decide) ?_
                  refine Tr.pass rfl rfl rfl rfl rfl (by decide) ?_
                  refine Tr.pass rfl rfl rfl rfl rfl (by decide) ?_
                  refine Tr.pass rfl rfl rfl rfl rfl (by decide) ?_
                  refine Tr.pass rfl rfl rfl rfl rfl (by decide) ?_
                  refine Tr.pass rfl rfl rfl rfl rfl (by decide) ?_
                  refine Tr.pass rfl rfl rfl rfl rfl (by decide) ?_
                  refine Tr.pass rfl rfl rfl rfl rfl (by decide) ?_
                  refine Tr.pass rfl rfl rfl rfl rfl (by decide) ?_
                  refine Tr.val (wn rfl) rfl (fun _ _ h1 h2 => run_pickF (h1.ev rfl) (h1.ev rfl)) ?_
                  exact Tr.nil (Tr.fin0 (.cons rfl (.cons rfl (.cons rfl (.cons rfl .nil)))) (.cons rfl (.cons rfl (.cons rfl (.cons rfl (.cons rfl .nil))))))
                · rw [hg134] at hg120
                  rw [if_pos rfl] at hg120
                  have H := hg120
                  refine Tr.val (wg rfl rfl rfl) rfl (fun _ _ h1 h2 => run_move (h1.ev rfl)) ?_
                  obtain ⟨y121, hy121, H⟩ := bnd H
                  refine Tr.call0 (r := (.int .i64 y121)) (wg rfl rfl rfl) rfl Try.call48 (evl_cons rfl evl_nil) (fun W hW => F_etchhouselaw1_area_ok N y100.1 Ay100_0 cy100_0 (hW.slCall (k := 1) rfl) y121 hy121 (HF.start _)) ?_
                  refine Tr.val (wg rfl rfl rfl) rfl (fun _ _ h1 h2 => run_move (h1.ev rfl)) ?_
                  obtain ⟨y122, hy122, H⟩ := bnd H
                  refine Tr.call0 (r := (.int .i64 y122)) (wg rfl rfl rfl) rfl Try.call48 (evl_cons rfl evl_nil) (fun W hW => F_etchhouselaw1_area_ok N y102.1 Ay102_0 cy102_0 (hW.slCall (k := 2) rfl) y122 hy122 (HF.start _)) ?_
                  refine Tr.val (wg rfl rfl rfl) rfl (fun _ _ h1 h2 => run_add (h1.ev rfl) (h1.ev rfl)) ?_
                  refine Tr.val (wg rfl rfl rfl) rfl (fun _ _ h1 h2 => run_move (h1.ev rfl)) ?_
                  obtain ⟨y123, hy123, H⟩ := bnd H
                  refine Tr.call0 (r := (.int .i64 y123)) (wg rfl rfl rfl) rfl Try.call48 (evl_cons rfl evl_nil) (fun W hW => F_etchhouselaw1_area_ok N p0 Ap0_0 cp0_0 (hp0_0.ext hW.extAll) y123 hy123 (HF.start _)) ?_
                  refine Tr.val (wg rfl rfl rfl) rfl (fun _ _ h1 h2 => run_move (h1.ev rfl)) ?_
                  obtain ⟨y124, hy124, H⟩ := bnd H
                  refine Tr.call0 (r := (.int .i64 y124)) (wg rfl rfl rfl) rfl Try.call48 (evl_cons rfl evl_nil) (fun W hW => F_etchhouselaw1_area_ok N p1 Ap1_0 cp1_0 (hp1_0.ext hW.extAll) y124 hy124 (HF.start _)) ?_
                  refine Tr.val (wg rfl rfl rfl) rfl (fun _ _ h1 h2 => run_add (h1.ev rfl) (h1.ev rfl)) ?_
                  refine Tr.val (wg rfl rfl rfl) rfl (fun _ _ h1 h2 => run_eql (h1.ev rfl) (h1.ev rfl)) ?_
                  refine Tr.val (wn rfl) rfl (fun _ _ h1 h2 => run_pickT (h1.ev rfl) (h1.ev rfl)) ?_
                  obtain rfl := Option.some.inj H
                  exact Tr.nil (Tr.fin0 (.cons rfl (.cons rfl (.cons rfl (.cons rfl .nil)))) (.cons rfl (.cons rfl (.cons rfl (.cons rfl (.cons rfl .nil))))))
              · show Tr _ _ (LF [(0, (.slice Ap0_0 (p0).length cp0_0)), (7, (.slice Ay102_0 (y102.1).length cy102_0)), (9, (.slice Ay104_0 (y104.1).length cy104_0)), (91, (.bool g120))]) (LE [(1, ow Ay100_0 cy100_0 29 fl_TRect y100.1), (2, ow Ay102_0 cy102_0 29 fl_TRect y102.1), (3, ow Ay104_0 cy104_0 29 fl_TRect y104.1), (4, ow Ay109_0 cy109_0 29 fl_TRect y109.1), (5, ow Ay111_0 cy111_0 29 fl_TRect y111.1)]) _
                refine Tr.val (wn rfl) rfl (fun _ _ h1 h2 => run_move (h1.ev rfl)) ?_
                obtain ⟨g128, hg128, H⟩ := bnd H
                refine Tr.mid0 9 [(101, (.bool g128))] [(1, ow Ay100_0 cy100_0 29 fl_TRect y100.1), (2, ow Ay102_0 cy102_0 29 fl_TRect y102.1), (3, ow Ay104_0 cy104_0 29 fl_TRect y104.1), (4, ow Ay109_0 cy109_0 29 fl_TRect y109.1), (5, ow Ay111_0 cy111_0 29 fl_TRect y111.1)] ?_ ?_
                · cases hg134 : g120
                  · rw [hg134] at hg128
                    rw [if_neg (by decide)] at hg128
                    have H := hg128
                    obtain rfl := Option.some.inj H
                    refine Tr.pass rfl rfl rfl rfl rfl (by decide) ?_
                    refine Tr.pass rfl rfl rfl rfl rfl (by decide) ?_
                    refine Tr.pass rfl rfl rfl rfl rfl (by decide) ?_
                    refine Tr.pass rfl rfl rfl rfl rfl (by decide) ?_
                    refine Tr.pass rfl rfl rfl rfl rfl (by decide) ?_
                    refine Tr.pass rfl rfl rfl rfl rfl (by decide) ?_
                    refine Tr.pass rfl rfl rfl rfl rfl (by decide) ?_
                    refine Tr.pass rfl rfl rfl rfl rfl (by decide) ?_
                    refine Tr.val (wn rfl) rfl (fun _ _ h1 h2 => run_pickF (h1.ev rfl) (h1.ev rfl)) ?_
                    exact Tr.nil (Tr.fin0 (.cons rfl .nil) (.cons rfl (.cons rfl (.cons rfl (.cons rfl (.cons rfl .nil))))))
                  · rw [hg134] at hg128
                    rw [if_pos rfl] at hg128
                    have H := hg128
                    refine Tr.val (wg rfl rfl rfl) rfl (fun _ _ h1 h2 => run_move (h1.ev rfl)) ?_
                    obtain ⟨y129, hy129, H⟩ := bnd H
                    refine Tr.call0 (r := (.int .i64 y129)) (wg rfl rfl rfl) rfl Try.call48 (evl_cons rfl evl_nil) (fun W hW => F_etchhouselaw1_area_ok N y104.1 Ay104_0 cy104_0 (hW.slCall (k := 3) rfl) y129 hy129 (HF.start _)) ?_
                    refine Tr.val (wg rfl rfl rfl) rfl (fun _ _ h1 h2 => run_move (h1.ev rfl)) ?_
                    obtain ⟨y130, hy130, H⟩ := bnd H
                    refine Tr.call0 (r := (.int .i64 y130)) (wg rfl rfl rfl) rfl Try.call48 (evl_cons rfl evl_nil) (fun W hW => F_etchhouselaw1_area_ok N y102.1 Ay102_0 cy102_0 (hW.slCall (k := 2) rfl) y130 hy130 (HF.start _)) ?_
                    refine Tr.val (wg rfl rfl rfl) rfl (fun _ _ h1 h2 => run_add (h1.ev rfl) (h1.ev rfl)) ?_
                    refine Tr.val (wg rfl rfl rfl) rfl (fun _ _ h1 h2 => run_move (h1.ev rfl)) ?_
                    obtain ⟨y131, hy131, H⟩ := bnd H
                    refine Tr.call0 (r := (.int .i64 y131)) (wg rfl rfl rfl) rfl Try.call48 (evl_cons rfl evl_nil) (fun W hW => F_etchhouselaw1_area_ok N p0 Ap0_0 cp0_0 (hp0_0.ext hW.extAll) y131 hy131 (HF.start _)) ?_
                    refine Tr.val (wg rfl rfl rfl) rfl (fun _ _ h1 h2 => run_eql (h1.ev rfl) (h1.ev rfl)) ?_
                    refine Tr.val (wn rfl) rfl (fun _ _ h1 h2 => run_pickT (h1.ev rfl) (h1.ev rfl)) ?_
                    obtain rfl := Option.some.inj H
                    exact Tr.nil (Tr.fin0 (.cons rfl .nil) (.cons rfl (.cons rfl (.cons rfl (.cons rfl (.cons rfl .nil))))))
                · show Tr _ _ (LF [(101, (.bool g128))]) (LE [(1, ow Ay100_0 cy100_0 29 fl_TRect y100.1), (2, ow Ay102_0 cy102_0 29 fl_TRect y102.1), (3, ow Ay104_0 cy104_0 29 fl_TRect y104.1), (4, ow Ay109_0 cy109_0 29 fl_TRect y109.1), (5, ow Ay111_0 cy111_0 29 fl_TRect y111.1)]) _
                  refine Tr.val (wn rfl) rfl (fun _ _ h1 h2 => run_move (h1.ev rfl)) ?_
                  obtain ⟨g133, hg133, H⟩ := bnd H
                  refine Tr.mid0 2 [(104, (.bool g133))] [(1, ow Ay100_0 cy100_0 29 fl_TRect y100.1), (2, ow Ay102_0 cy102_0 29 fl_TRect y102.1), (3, ow Ay104_0 cy104_0 29 fl_TRect y104.1), (4, ow Ay109_0 cy109_0 29 fl_TRect y109.1), (5, ow Ay111_0 cy111_0 29 fl_TRect y111.1)] ?_ ?_
                  · cases hg134 : g128
                    · rw [hg134] at hg133
                      rw [if_neg (by decide)] at hg133
                      have H := hg133
                      obtain rfl := Option.some.inj H
                      refine Tr.pass rfl rfl rfl rfl rfl (by decide) ?_
                      refine Tr.val (wn rfl) rfl (fun _ _ h1 h2 => run_pickF (h1.ev rfl) (h1.ev rfl)) ?_
                      exact Tr.nil (Tr.fin0 (.cons rfl .nil) (.cons rfl (.cons rfl (.cons rfl (.cons rfl (.cons rfl .nil))))))
                    · rw [hg134] at hg133
                      rw [if_pos rfl] at hg133
                      have H := hg133
                      obtain ⟨y134, hy134, H⟩ := bnd H
                      refine Tr.call0 (r := (.bool y134)) (wg rfl rfl rfl) rfl Try.call20 evl_nil (fun W hW => F_etchhouselaw1_awake_ok N y134 hy134 (HF.start _)) ?_
                      refine Tr.val (wn rfl) rfl (fun _ _ h1 h2 => run_pickT (h1.ev rfl) (h1.ev rfl)) ?_
                      obtain rfl := Option.some.inj H
                      exact Tr.nil (Tr.fin0 (.cons rfl .nil) (.cons rfl (.cons rfl (.cons rfl (.cons rfl (.cons rfl .nil))))))
                  · show Tr _ _ (LF [(104, (.bool g133))]) (LE [(1, ow Ay100_0 cy100_0 29 fl_TRect y100.1), (2, ow Ay102_0 cy102_0 29 fl_TRect y102.1), (3, ow Ay104_0 cy104_0 29 fl_TRect y104.1), (4, ow Ay109_0 cy109_0 29 fl_TRect y109.1), (5, ow Ay111_0 cy111_0 29 fl_TRect y111.1)]) _
                    refine Tr.val (wn rfl) rfl (fun _ _ h1 h2 => run_assign (h1.ev rfl)) ?_
                    refine Tr.nil (Tr.normThen ?_)
                    refine Tr.ret ?_
                    obtain rfl := Option.some.inj H
                    exact Tr.out (m := [(.bool g133)]) [] (res_tmp rfl res_nil) (fun W hW => ⟨rfl, hW.low leB⟩)

theorem F_etchhouselaw1_has_ok (N : Nat) {w : Bs} (p0 : (List TRect)) (Ap0_0 : Option Addr) (cp0_0 : Nat) (hp0_0 : Sl w.R w.W fl_TRect Ap0_0 cp0_0 p0) (p1 : TPoint) (r : Bool) (H : F_etchhouselaw1_has N p0 p1 = some r) (hE : HF w w.W E0) : Calls Try.prog 49 [(.slice Ap0_0 (p0).length cp0_0), (.agg #[(.int .i64 p1.X), (.int .i64 p1.Y)])].toArray w.W fun e W' => e = .returned (.bool r) ∧ HF w W' E0 := by
  unfold F_etchhouselaw1_has at H
  have leB := Bs.Le.refl w
  refine Tr.enter (n := 18) Try.func49 rfl rfl rfl hE ?_
  refine Tr.seq ?_
  refine Tr.region ?_
  refine Tr.box 1 (cs := [(.int .i64 p1.X), (.int .i64 p1.Y)]) (wn rfl) rfl rfl rfl fun b100 => ?_
  refine Tr.val (wn rfl) rfl (fun _ _ h1 h2 => run_assign (h1.ev rfl)) ?_
  refine Tr.nil (Tr.normThen ?_)
  refine Tr.seq ?_
  refine Tr.region ?_
  refine Tr.val (wn rfl) rfl (fun _ _ h1 h2 => run_move (h1.ev rfl)) ?_
  refine Tr.val (wn rfl) rfl (fun _ _ h1 h2 => run_loadN (cs := [(.int .i64 p1.X), (.int .i64 p1.Y)]) ag_35 sz_35 (h1.ev rfl) (CellsAt.take (rdb h2 (vs := [(.int .i64 p1.X), (.int .i64 p1.Y)]) (k := 1) rfl 0) 2) rfl) ?_
  obtain ⟨y101, hy101, H⟩ := bnd H
  refine Tr.call0 (r := (.tuple #[(.bool y101.1), (.int .i64 y101.2)])) (wn rfl) rfl Try.call23 (evl_cons rfl (evl_cons rfl evl_nil)) (fun W hW => F_shape_Has_ok N p0 Ap0_0 cp0_0 (hp0_0.ext hW.extAll) p1 y101 hy101 (HF.start _)) ?_
  refine Tr.val (wn rfl) rfl (fun _ _ h1 h2 => run_move (h1.ev rfl)) ?_
  refine Tr.val (wn rfl) rfl (fun _ _ h1 h2 => run_extract (h1.ev rfl) rfl) ?_
  refine Tr.val (wn rfl) rfl (fun _ _ h1 h2 => run_extract (h1.ev rfl) rfl) ?_
  refine Tr.val (wn rfl) rfl (fun _ _ h1 h2 => run_assign (h1.ev rfl)) ?_
  refine Tr.val (wn rfl) rfl (fun _ _ h1 h2 => run_assign (h1.ev rfl)) ?_
  refine Tr.nil (Tr.normThen ?_)
  refine Tr.seq ?_
  refine Tr.region ?_
  refine Tr.val (wn rfl) rfl (fun _ _ h1 h2 => run_move (h1.ev rfl)) ?_
  refine Tr.val (wn rfl) rfl (fun _ _ h1 h2 => run_eql (h1.ev rfl) (h1.ev rfl)) ?_
  refine Tr.val (wn rfl) rfl (fun _ _ h1 h2 => run_move (h1.ev rfl)) ?_
  refine Tr.mid0 2 [(17, (.bool ((y101.2 == 0) && y101.1)))] [(1, bx b100 #[(.int .i64 p1.X), (.int .i64 p1.Y)] 35)] ?_ ?_
  · cases hg101 : (y101.2 == 0)
    · refine Tr.pass rfl rfl rfl rfl rfl (by decide) ?_
      refine Tr.val (wn rfl) rfl (fun _ _ h1 h2 => run_pickF (h1.ev rfl) (h1.ev rfl)) ?_
      exact Tr.nil (Tr.fin0 (.cons rfl .nil) (.cons rfl .nil))
    · refine Tr.val (wg rfl rfl rfl) rfl (fun _ _ h1 h2 => run_move (h1.ev rfl)) ?_
      refine Tr.val (wn rfl) rfl (fun _ _ h1 h2 => run_pickT (h1.ev rfl) (h1.ev rfl)) ?_
      exact Tr.nil (Tr.fin0 (.cons rfl .nil) (.cons rfl .nil))
  · show Tr _ _ (LF [(17, (.bool ((y101.2 == 0) && y101.1)))]) (LE [(1, bx b100 #[(.int .i64 p1.X), (.int .i64 p1.Y)] 35)]) _
    refine Tr.val (wn rfl) rfl (fun _ _ h1 h2 => run_assign (h1.ev rfl)) ?_
    refine Tr.nil (Tr.normThen ?_)
    refine Tr.ret ?_
    obtain rfl := Option.some.inj H
    exact Tr.out (m := [(.bool ((y101.2 == 0) && y101.1))]) [] (res_tmp rfl res_nil) (fun W hW => ⟨rfl, hW.low leB⟩)

theorem F_etchhouselaw1_SetsByPoints_ok (N : Nat) {w : Bs} (p0 : (List TRect)) (Ap0_0 : Option Addr) (cp0_0 : Nat) (hp0_0 : Sl w.R w.W fl_TRect Ap0_0 cp0_0 p0) (p1 : (List TRect)) (Ap1_0 : Option Addr) (cp1_0 : Nat) (hp1_0 : Sl w.R w.W fl_TRect Ap1_0 cp1_0 p1) (p2 : TPoint) (r : Bool) (H : F_etchhouselaw1_SetsByPoints N p0 p1 p2 = some r) (hE : HF w w.W E0) : Calls Try.prog 12 [(.slice Ap0_0 (p0).length cp0_0), (.slice Ap1_0 (p1).length cp1_0), (.agg #[(.int .i64 p2.X), (.int .i64 p2.Y)])].toArray w.W fun e W' => e = .returned (.bool r) ∧ HF w W' E0 := by
  unfold F_etchhouselaw1_SetsByPoints at H
  have leB := Bs.Le.refl w
  refine Tr.enter (n := 91) Try.func12 rfl rfl rfl hE ?_
  refine Tr.seq ?_
  refine Tr.region ?_
  refine Tr.box 1 (cs := [(.int .i64 p2.X), (.int .i64 p2.Y)]) (wn rfl) rfl rfl rfl fun b100 => ?_
  refine Tr.val (wn rfl) rfl (fun _ _ h1 h2 => run_assign (h1.ev rfl)) ?_
  refine Tr.nil (Tr.normThen ?_)
  refine Tr.seq ?_
  refine Tr.region ?_
  refine Tr.val (wn rfl) rfl (fun _ _ h1 h2 => run_move (h1.ev rfl)) ?_
  refine Tr.val (wn rfl) rfl (fun _ _ h1 h2 => run_move (h1.ev rfl)) ?_
  obtain ⟨y101, hy101, H⟩ := bnd H
  refine Tr.callM [2] [emp] (U := (Option Addr × Nat)) (fun u => (.tuple #[(.slice u.1 (y101.1).length u.2), (.int .i64 y101.2)])) (fun u => SlF u.1 (y101.1).length u.2) (fun u => [ow u.1 u.2 29 fl_TRect y101.1]) rfl (pk_cons rfl pk_nil) (fun _ => rfl) (wn rfl) rfl Try.call40 (evl_cons rfl (evl_cons rfl evl_nil)) (fun W hW hp hE => F_shape_Union_ok N p0 Ap0_0 cp0_0 (hp0_0.ext (hW.extS hp)) p1 Ap1_0 cp1_0 (hp1_0.ext (hW.extS hp)) y101 hy101 hE) ?_
  intro u hu
  obtain ⟨Ay101_0, cy101_0⟩ := u
  have gy101_0 := hu
  have hgy101_0 : SlF Ay101_0 (y101.1).length cy101_0 := gy101_0 --@phi
  show Tr _ _ (uf _ 18 (.tuple #[(.slice Ay101_0 (y101.1).length cy101_0), (.int .i64 y101.2)])) (up _ 2 (ow Ay101_0 cy101_0 29 fl_TRect y101.1)) _
  refine Tr.val (wn rfl) rfl (fun _ _ h1 h2 => run_move (h1.ev rfl)) ?_
  refine Tr.val (wn rfl) rfl (fun _ _ h1 h2 => run_extract (h1.ev rfl) rfl) ?_
  refine Tr.val (wn rfl) rfl (fun _ _ h1 h2 => run_extract (h1.ev rfl) rfl) ?_
  refine Tr.val (wn rfl) rfl (fun _ _ h1 h2 => run_assign (h1.ev rfl)) ?_
  refine Tr.val (wn rfl) rfl (fun _ _ h1 h2 => run_assign (h1.ev rfl)) ?_
  refine Tr.nil (Tr.normThen ?_)
  refine Tr.seq ?_
  refine Tr.region ?_
  refine Tr.val (wn rfl) rfl (fun _ _ h1 h2 => run_move (h1.ev rfl)) ?_
  refine Tr.val (wn rfl) rfl (fun _ _ h1 h2 => run_move (h1.ev rfl)) ?_
  obtain ⟨y103, hy103, H⟩ := bnd H
  refine Tr.callM [3] [emp] (U := (Option Addr × Nat)) (fun u => (.tuple #[(.slice u.1 (y103.1).length u.2), (.int .i64 y103.2)])) (fun u => SlF u.1 (y103.1).length u.2) (fun u => [ow u.1 u.2 29 fl_TRect y103.1]) rfl (pk_cons rfl pk_nil) (fun _ => rfl) (wn rfl) rfl Try.call42 (evl_cons rfl (evl_cons rfl evl_nil)) (fun W hW hp hE => F_shape_Both_ok N p0 Ap0_0 cp0_0 (hp0_0.ext (hW.extS hp)) p1 Ap1_0 cp1_0 (hp1_0.ext (hW.extS hp)) y103 hy103 hE) ?_
  intro u hu
  obtain ⟨Ay103_0, cy103_0⟩ := u
  have gy103_0 := hu
  have hgy103_0 : SlF Ay103_0 (y103.1).length cy103_0 := gy103_0 --@phi
  show Tr _ _ (uf _ 24 (.tuple #[(.slice Ay103_0 (y103.1).length cy103_0), (.int .i64 y103.2)])) (up _ 3 (ow Ay103_0 cy103_0 29 fl_TRect y103.1)) _
  refine Tr.val (wn rfl) rfl (fun _ _ h1 h2 => run_move (h1.ev rfl)) ?_
  refine Tr.val (wn rfl) rfl (fun _ _ h1 h2 => run_extract (h1.ev rfl) rfl) ?_
  refine Tr.val (wn rfl) rfl (fun _ _ h1 h2 => run_extract (h1.ev rfl) rfl) ?_
  refine Tr.val (wn rfl) rfl (fun _ _ h1 h2 => run_assign (h1.ev rfl)) ?_
  refine Tr.val (wn rfl) rfl (fun _ _ h1 h2 => run_assign (h1.ev rfl)) ?_
  refine Tr.nil (Tr.normThen ?_)
  refine Tr.seq ?_
  refine Tr.region ?_
  refine Tr.val (wn rfl) rfl (fun _ _ h1 h2 => run_move (h1.ev rfl)) ?_
  refine Tr.val (wn rfl) rfl (fun _ _ h1 h2 => run_move (h1.ev rfl)) ?_
  obtain ⟨y105, hy105, H⟩ := bnd H
  refine Tr.callM [4] [emp] (U := (Option Addr × Nat)) (fun u => (.tuple #[(.slice u.1 (y105.1).length u.2), (.int .i64 y105.2)])) (fun u => SlF u.1 (y105.1).length u.2) (fun u => [ow u.1 u.2 29 fl_TRect y105.1]) rfl (pk_cons rfl pk_nil) (fun _ => rfl) (wn rfl) rfl Try.call44 (evl_cons rfl (evl_cons rfl evl_nil)) (fun W hW hp hE => F_shape_Minus_ok N p0 Ap0_0 cp0_0 (hp0_0.ext (hW.extS hp)) p1 Ap1_0 cp1_0 (hp1_0.ext (hW.extS hp)) y105 hy105 hE) ?_
  intro u hu
  obtain ⟨Ay105_0, cy105_0⟩ := u
  have gy105_0 := hu
  have hgy105_0 : SlF Ay105_0 (y105.1).length cy105_0 := gy105_0 --@phi
  show Tr _ _ (uf _ 30 (.tuple #[(.slice Ay105_0 (y105.1).length cy105_0), (.int .i64 y105.2)])) (up _ 4 (ow Ay105_0 cy105_0 29 fl_TRect y105.1)) _
  refine Tr.val (wn rfl) rfl (fun _ _ h1 h2 => run_move (h1.ev rfl)) ?_
  refine Tr.val (wn rfl) rfl (fun _ _ h1 h2 => run_extract (h1.ev rfl) rfl) ?_
  refine Tr.val (wn rfl) rfl (fun _ _ h1 h2 => run_extract (h1.ev rfl) rfl) ?_
  refine Tr.val (wn rfl) rfl (fun _ _ h1 h2 => run_assign (h1.ev rfl)) ?_
  refine Tr.val (wn rfl) rfl (fun _ _ h1 h2 => run_assign (h1.ev rfl)) ?_
  refine Tr.nil (Tr.normThen ?_)
  refine Tr.seq ?_
  refine Tr.seq ?_
  refine Tr.region ?_
  refine Tr.val (wn rfl) rfl (fun _ _ h1 h2 => run_move (h1.ev rfl)) ?_
  refine Tr.val (wn rfl) rfl (fun _ _ h1 h2 => run_neq (h1.ev rfl) (h1.ev rfl)) ?_
  refine Tr.val (wn rfl) rfl (fun _ _ h1 h2 => run_move (h1.ev rfl)) ?_
  refine Tr.mid0 3 [(0, (.slice Ap0_0 (p0).length cp0_0)), (1, (.slice Ap1_0 (p1).length cp1_0)), (5, (.pointer (some ⟨b100, 0, none⟩))), (7, (.slice Ay101_0 (y101.1).length cy101_0)), (8, (.int .i64 y101.2)), (9, (.slice Ay103_0 (y103.1).length cy103_0)), (11, (.slice Ay105_0 (y105.1).length cy105_0)), (12, (.int .i64 y105.2)), (38, (.bool ((y101.2 != 0) || (y103.2 != 0))))] [(1, bx b100 #[(.int .i64 p2.X), (.int .i64 p2.Y)] 35), (2, ow Ay101_0 cy101_0 29 fl_TRect y101.1), (3, ow Ay103_0 cy103_0 29 fl_TRect y103.1), (4, ow Ay105_0 cy105_0 29 fl_TRect y105.1)] ?_ ?_
  · cases hg121 : (y101.2 != 0)
    · refine Tr.val (wg rfl rfl rfl) rfl (fun _ _ h1 h2 => run_move (h1.ev rfl)) ?_
      refine Tr.val (wg rfl rfl rfl) rfl (fun _ _ h1 h2 => run_neq (h1.ev rfl) (h1.ev rfl)) ?_
      refine Tr.val (wn rfl) rfl (fun _ _ h1 h2 => run_pickF (h1.ev rfl) (h1.ev rfl)) ?_
      exact Tr.nil (Tr.fin0 (.cons rfl (.cons rfl (.cons rfl (.cons rfl (.cons rfl (.cons rfl (.cons rfl (.cons rfl (.cons rfl .nil))))))))) (.cons rfl (.cons rfl (.cons rfl (.cons rfl .nil)))))
    · refine Tr.pass rfl rfl rfl rfl rfl (by decide) ?_
      refine Tr.pass rfl rfl rfl rfl rfl (by decide) ?_
      refine Tr.val (wn rfl) rfl (fun _ _ h1 h2 => run_pickT (h1.ev rfl) (h1.ev rfl)) ?_
      exact Tr.nil (Tr.fin0 (.cons rfl (.cons rfl (.cons rfl (.cons rfl (.cons rfl (.cons rfl (.cons rfl (.cons rfl (.cons rfl .nil))))))))) (.cons rfl (.cons rfl (.cons rfl (.cons rfl .nil)))))
  · show Tr _ _ (LF [(0, (.slice Ap0_0 (p0).length cp0_0)), (1, (.slice Ap1_0 (p1).length cp1_0)), (5, (.pointer (some ⟨b100, 0, none⟩))), (7, (.slice Ay101_0 (y101.1).length cy101_0)), (8, (.int .i64 y101.2)), (9, (.slice Ay103_0 (y103.1).length cy103_0)), (11, (.slice Ay105_0 (y105.1).length cy105_0)), (12, (.int .i64 y105.2)), (38, (.bool ((y101.2 != 0) || (y103.2 != 0))))]) (LE [(1, bx b100 #[(.int .i64 p2.X), (.int .i64 p2.Y)] 35), (2, ow Ay101_0 cy101_0 29 fl_TRect y101.1), (3, ow Ay103_0 cy103_0 29 fl_TRect y103.1), (4, ow Ay105_0 cy105_0 29 fl_TRect y105.1)]) _
    refine Tr.val (wn rfl) rfl (fun _ _ h1 h2 => run_move (h1.ev rfl)) ?_
    refine Tr.mid0 3 [(0, (.slice Ap0_0 (p0).length cp0_0)), (1, (.slice Ap1_0 (p1).length cp1_0)), (5, (.pointer (some ⟨b100, 0, none⟩))), (7, (.slice Ay101_0 (y101.1).length cy101_0)), (8, (.int .i64 y101.2)), (9, (.slice Ay103_0 (y103.1).length cy103_0)), (11, (.slice Ay105_0 (y105.1).length cy105_0)), (42, (.bool (((y101.2 != 0) || (y103.2 != 0)) || (y105.2 != 0))))] [(1, bx b100 #[(.int .i64 p2.X), (.int .i64 p2.Y)] 35), (2, ow Ay101_0 cy101_0 29 fl_TRect y101.1), (3, ow Ay103_0 cy103_0 29 fl_TRect y103.1), (4, ow Ay105_0 cy105_0 29 fl_TRect y105.1)] ?_ ?_
    · cases hg121 : ((y101.2 != 0) || (y103.2 != 0))
      · refine Tr.val (wg rfl rfl rfl) rfl (fun _ _ h1 h2 => run_move (h1.ev rfl)) ?_
        refine Tr.val (wg rfl rfl rfl) rfl (fun _ _ h1 h2 => run_neq (h1.ev rfl) (h1.ev rfl)) ?_
        refine Tr.val (wn rfl) rfl (fun _ _ h1 h2 => run_pickF (h1.ev rfl) (h1.ev rfl)) ?_
        exact Tr.nil (Tr.fin0 (.cons rfl (.cons rfl (.cons rfl (.cons rfl (.cons rfl (.cons rfl (.cons rfl (.cons rfl .nil)))))))) (.cons rfl (.cons rfl (.cons rfl (.cons rfl .nil)))))
      · refine Tr.pass rfl rfl rfl rfl rfl (by decide) ?_
        refine Tr.pass rfl rfl rfl rfl rfl (by decide) ?_
        refine Tr.val (wn rfl) rfl (fun _ _ h1 h2 => run_pickT (h1.ev rfl) (h1.ev rfl)) ?_
        exact Tr.nil (Tr.fin0 (.cons rfl (.cons rfl (.cons rfl (.cons rfl (.cons rfl (.cons rfl (.cons rfl (.cons rfl .nil)))))))) (.cons rfl (.cons rfl (.cons rfl (.cons rfl .nil)))))
    · show Tr _ _ (LF [(0, (.slice Ap0_0 (p0).length cp0_0)), (1, (.slice Ap1_0 (p1).length cp1_0)), (5, (.pointer (some ⟨b100, 0, none⟩))), (7, (.slice Ay101_0 (y101.1).length cy101_0)), (8, (.int .i64 y101.2)), (9, (.slice Ay103_0 (y103.1).length cy103_0)), (11, (.slice Ay105_0 (y105.1).length cy105_0)), (42, (.bool (((y101.2 != 0) || (y103.2 != 0)) || (y105.2 != 0))))]) (LE [(1, bx b100 #[(.int .i64 p2.X), (.int .i64 p2.Y)] 35), (2, ow Ay101_0 cy101_0 29 fl_TRect y101.1), (3, ow Ay103_0 cy103_0 29 fl_TRect y103.1), (4, ow Ay105_0 cy105_0 29 fl_TRect y105.1)]) _
      refine Tr.nil (Tr.normThen ?_)
      refine Tr.cond rfl H (fun H => ?_) (fun H => ?_)
      · refine Tr.seq ?_
        refine Tr.region ?_
        refine Tr.val (wn rfl) rfl (fun _ _ h1 h2 => run_move (h1.ev rfl)) ?_
        refine Tr.val (wn rfl) rfl (fun _ _ h1 h2 => run_eql (h1.ev rfl) (h1.ev rfl)) ?_
        refine Tr.val (wn rfl) rfl (fun _ _ h1 h2 => run_move (h1.ev rfl)) ?_
        refine Tr.mid0 4 [(49, (.bool ((y101.2 == 0) || ((y101.1.length : Int) == 0))))] [(1, bx b100 #[(.int .i64 p2.X), (.int .i64 p2.Y)] 35), (2, ow Ay101_0 cy101_0 29 fl_TRect y101.1), (3, ow Ay103_0 cy103_0 29 fl_TRect y103.1), (4, ow Ay105_0 cy105_0 29 fl_TRect y105.1)] ?_ ?_
        · cases hg109 : (y101.2 == 0)
          · refine Tr.val (wg rfl rfl rfl) rfl (fun _ _ h1 h2 => run_move (h1.ev rfl)) ?_
            refine Tr.val (wg rfl rfl rfl) rfl (fun _ _ h1 h2 => run_len un_22 (h1.ev rfl)) ?_
            refine Tr.val (wg rfl rfl rfl) rfl (fun _ _ h1 h2 => run_eql (h1.ev rfl) (h1.ev rfl)) ?_
            refine Tr.val (wn rfl) rfl (fun _ _ h1 h2 => run_pickF (h1.ev rfl) (h1.ev rfl)) ?_
            exact Tr.nil (Tr.fin0 (.cons rfl .nil) (.cons rfl (.cons rfl (.cons rfl (.cons rfl .nil)))))
          · refine Tr.pass rfl rfl rfl rfl rfl (by decide) ?_
            refine Tr.pass rfl rfl rfl rfl rfl (by decide) ?_
            refine Tr.pass rfl rfl rfl rfl rfl (by decide) ?_
            refine Tr.val (wn rfl) rfl (fun _ _ h1 h2 => run_pickT (h1.ev rfl) (h1.ev rfl)) ?_
            exact Tr.nil (Tr.fin0 (.cons rfl .nil) (.cons rfl (.cons rfl (.cons rfl (.cons rfl .nil)))))
        · show Tr _ _ (LF [(49, (.bool ((y101.2 == 0) || ((y101.1.length : Int) == 0))))]) (LE [(1, bx b100 #[(.int .i64 p2.X), (.int .i64 p2.Y)] 35), (2, ow Ay101_0 cy101_0 29 fl_TRect y101.1), (3, ow Ay103_0 cy103_0 29 fl_TRect y103.1), (4, ow Ay105_0 cy105_0 29 fl_TRect y105.1)]) _
          refine Tr.val (wn rfl) rfl (fun _ _ h1 h2 => run_move (h1.ev rfl)) ?_
          obtain ⟨g108, hg108, H⟩ := bnd H
          refine Tr.mid0 2 [(52, (.bool g108))] [(1, bx b100 #[(.int .i64 p2.X), (.int .i64 p2.Y)] 35), (2, ow Ay101_0 cy101_0 29 fl_TRect y101.1), (3, ow Ay103_0 cy103_0 29 fl_TRect y103.1), (4, ow Ay105_0 cy105_0 29 fl_TRect y105.1)] ?_ ?_
          · cases hg109 : ((y101.2 == 0) || ((y101.1.length : Int) == 0))
            · rw [hg109] at hg108
              rw [if_neg (by decide)] at hg108
              have H := hg108
              obtain rfl := Option.some.inj H
              refine Tr.pass rfl rfl rfl rfl rfl (by decide) ?_
              refine Tr.val (wn rfl) rfl (fun _ _ h1 h2 => run_pickF (h1.ev rfl) (h1.ev rfl)) ?_
              exact Tr.nil (Tr.fin0 (.cons rfl .nil) (.cons rfl (.cons rfl (.cons rfl (.cons rfl .nil)))))
            · rw [hg109] at hg108
              rw [if_pos rfl] at hg108
              have H := hg108
              obtain ⟨y109, hy109, H⟩ := bnd H
              refine Tr.call0 (r := (.bool y109)) (wg rfl rfl rfl) rfl Try.call20 evl_nil (fun W hW => F_etchhouselaw1_awake_ok N y109 hy109 (HF.start _)) ?_
              refine Tr.val (wn rfl) rfl (fun _ _ h1 h2 => run_pickT (h1.ev rfl) (h1.ev rfl)) ?_
              obtain rfl := Option.some.inj H
              exact Tr.nil (Tr.fin0 (.cons rfl .nil) (.cons rfl (.cons rfl (.cons rfl (.cons rfl .nil)))))
          · show Tr _ _ (LF [(52, (.bool g108))]) (LE [(1, bx b100 #[(.int .i64 p2.X), (.int .i64 p2.Y)] 35), (2, ow Ay101_0 cy101_0 29 fl_TRect y101.1), (3, ow Ay103_0 cy103_0 29 fl_TRect y103.1), (4, ow Ay105_0 cy105_0 29 fl_TRect y105.1)]) _
            refine Tr.val (wn rfl) rfl (fun _ _ h1 h2 => run_assign (h1.ev rfl)) ?_
            refine Tr.nil (Tr.normThen ?_)
            refine Tr.ret (Tr.retThen ?_)
            obtain rfl := Option.some.inj H
            exact Tr.out (m := [(.bool g108)]) [] (res_tmp rfl res_nil) (fun W hW => ⟨rfl, hW.low leB⟩)
      · refine Tr.skip (Tr.normThen ?_)
        refine Tr.seq ?_
        refine Tr.draw (by kernel_rfl) (by kernel_rfl) ?_
        refine Tq.val (wn rfl) rfl (fun _ _ h1 h2 => run_move (h1.ev rfl)) ?_
        refine Tq.val (wn rfl) rfl (fun _ _ h1 h2 => run_loadN (cs := [(.int .i64 p2.X), (.int .i64 p2.Y)]) ag_35 sz_35 (h1.ev rfl) (CellsAt.take (rdb h2 (vs := [(.int .i64 p2.X), (.int .i64 p2.Y)]) (k := 1) rfl 0) 2) rfl) ?_
        obtain ⟨y110, hy110, H⟩ := bnd H
        refine Tq.call0 (r := (.bool y110)) (wn rfl) rfl Try.call49 (evl_cons rfl (evl_cons rfl evl_nil)) (fun W hW => F_etchhouselaw1_has_ok N p0 Ap0_0 cp0_0 (hp0_0.ext hW.extAll) p2 y110 hy110 (HF.start _)) ?_
        refine Tq.val (wn rfl) rfl (fun _ _ h1 h2 => run_move (h1.ev rfl)) ?_
        refine Tq.val (wn rfl) rfl (fun _ _ h1 h2 => run_loadN (cs := [(.int .i64 p2.X), (.int .i64 p2.Y)]) ag_35 sz_35 (h1.ev rfl) (CellsAt.take (rdb h2 (vs := [(.int .i64 p2.X), (.int .i64 p2.Y)]) (k := 1) rfl 0) 2) rfl) ?_
        obtain ⟨y111, hy111, H⟩ := bnd H
        refine Tq.call0 (r := (.bool y111)) (wn rfl) rfl Try.call49 (evl_cons rfl (evl_cons rfl evl_nil)) (fun W hW => F_etchhouselaw1_has_ok N p1 Ap1_0 cp1_0 (hp1_0.ext hW.extAll) p2 y111 hy111 (HF.start _)) ?_
        refine Tq.val (wn rfl) rfl (fun _ _ h1 h2 => run_assign (h1.ev rfl)) ?_
        refine Tq.val (wn rfl) rfl (fun _ _ h1 h2 => run_assign (h1.ev rfl)) ?_
        refine Tq.nil (Tr.normThen ?_)
        refine Tr.seq ?_
        refine Tr.region ?_
        refine Tr.val (wn rfl) rfl (fun _ _ h1 h2 => run_move (h1.ev rfl)) ?_
        refine Tr.val (wn rfl) rfl (fun _ _ h1 h2 => run_loadN (cs := [(.int .i64 p2.X), (.int .i64 p2.Y)]) ag_35 sz_35 (h1.ev rfl) (CellsAt.take (rdb h2 (vs := [(.int .i64 p2.X), (.int .i64 p2.Y)]) (k := 1) rfl 0) 2) rfl) ?_
        obtain ⟨y112, hy112, H⟩ := bnd H
        refine Tr.call0 (r := (.bool y112)) (wn rfl) rfl Try.call49 (evl_cons rfl (evl_cons rfl evl_nil)) (fun W hW => F_etchhouselaw1_has_ok N y101.1 Ay101_0 cy101_0 (hW.slCall (k := 2) rfl) p2 y112 hy112 (HF.start _)) ?_
        refine Tr.val (wn rfl) rfl (fun _ _ h1 h2 => run_move (h1.ev rfl)) ?_
        refine Tr.val (wn rfl) rfl (fun _ _ h1 h2 => run_move (h1.ev rfl)) ?_
        refine Tr.mid0 2 [(5, (.pointer (some ⟨b100, 0, none⟩))), (9, (.slice Ay103_0 (y103.1).length cy103_0)), (11, (.slice Ay105_0 (y105.1).length cy105_0)), (13, (.bool y110)), (14, (.bool y111)), (61, (.bool y112)), (65, (.bool (y110 || y111)))] [(1, bx b100 #[(.int .i64 p2.X), (.int .i64 p2.Y)] 35), (2, ow Ay101_0 cy101_0 29 fl_TRect y101.1), (3, ow Ay103_0 cy103_0 29 fl_TRect y103.1), (4, ow Ay105_0 cy105_0 29 fl_TRect y105.1)] ?_ ?_
        · cases hg121 : y110
          · refine Tr.val (wg rfl rfl rfl) rfl (fun _ _ h1 h2 => run_move (h1.ev rfl)) ?_
            refine Tr.val (wn rfl) rfl (fun _ _ h1 h2 => run_pickF (h1.ev rfl) (h1.ev rfl)) ?_
            exact Tr.nil (Tr.fin0 (.cons rfl (.cons rfl (.cons rfl (.cons rfl (.cons rfl (.cons rfl (.cons rfl .nil))))))) (.cons rfl (.cons rfl (.cons rfl (.cons rfl .nil)))))
          · refine Tr.pass rfl rfl rfl rfl rfl (by decide) ?_
            refine Tr.val (wn rfl) rfl (fun _ _ h1 h2 => run_pickT (h1.ev rfl) (h1.ev rfl)) ?_
            exact Tr.nil (Tr.fin0 (.cons rfl (.cons rfl (.cons rfl (.cons rfl (.cons rfl (.cons rfl (.cons rfl .nil))))))) (.cons rfl (.cons rfl (.cons rfl (.cons rfl .nil)))))
        · show Tr _ _ (LF [(5, (.pointer (some ⟨b100, 0, none⟩))), (9, (.slice Ay103_0 (y103.1).length cy103_0)), (11, (.slice Ay105_0 (y105.1).length cy105_0)), (13, (.bool y110)), (14, (.bool y111)), (61, (.bool y112)), (65, (.bool (y110 || y111)))]) (LE [(1, bx b100 #[(.int .i64 p2.X), (.int .i64 p2.Y)] 35), (2, ow Ay101_0 cy101_0 29 fl_TRect y101.1), (3, ow Ay103_0 cy103_0 29 fl_TRect y103.1), (4, ow Ay105_0 cy105_0 29 fl_TRect y105.1)]) _
          refine Tr.val (wn rfl) rfl (fun _ _ h1 h2 => run_eqlB un_4 (h1.ev rfl) (h1.ev rfl)) ?_
          refine Tr.val (wn rfl) rfl (fun _ _ h1 h2 => run_move (h1.ev rfl)) ?_
          obtain ⟨g114, hg114, H⟩ := bnd H
          refine Tr.mid0 9 [(5, (.pointer (some ⟨b100, 0, none⟩))), (11, (.slice Ay105_0 (y105.1).length cy105_0)), (13, (.bool y110)), (14, (.bool y111)), (76, (.bool g114))] [(1, bx b100 #[(.int .i64 p2.X), (.int .i64 p2.Y)] 35), (2, ow Ay101_0 cy101_0 29 fl_TRect y101.1), (3, ow Ay103_0 cy103_0 29 fl_TRect y103.1), (4, ow Ay105_0 cy105_0 29 fl_TRect y105.1)] ?_ ?_
          · cases hg121 : (y112 == (y110 || y111))
            · rw [hg121] at hg114
              rw [if_neg (by decide)] at hg114
              have H := hg114
              obtain rfl := Option.some.inj H
              refine Tr.pass rfl rfl rfl rfl rfl (by decide) ?_
              refine Tr.pass rfl rfl rfl rfl rfl (by decide) ?_
              refine Tr.pass rfl rfl rfl rfl rfl (by decide) ?_
              refine Tr.pass rfl rfl rfl rfl rfl (by decide) ?_
              refine Tr.pass rfl rfl rfl rfl rfl (by decide) ?_
              refine Tr.passU rfl rfl rfl rfl (by decide) ?_
              refine Tr.pass rfl rfl rfl rfl rfl (by decide) ?_
              refine Tr.pass rfl rfl rfl rfl rfl (by decide) ?_
              refine Tr.val (wn rfl) rfl (fun _ _ h1 h2 => run_pickF (h1.ev rfl) (h1.ev rfl)) ?_
              exact Tr.nil (Tr.fin0 (.cons rfl (.cons rfl (.cons rfl (.cons rfl (.cons rfl .nil))))) (.cons rfl (.cons rfl (.cons rfl (.cons rfl .nil)))))
            · rw [hg121] at hg114
              rw [if_pos rfl] at hg114
              have H := hg114
              refine Tr.val (wg rfl rfl rfl) rfl (fun _ _ h1 h2 => run_move (h1.ev rfl)) ?_
              refine Tr.val (wg rfl rfl rfl) rfl (fun _ _ h1 h2 => run_loadN (cs := [(.int .i64 p2.X), (.int .i64 p2.Y)]) ag_35 sz_35 (h1.ev rfl) (CellsAt.take (rdb h2 (vs := [(.int .i64 p2.X), (.int .i64 p2.Y)]) (k := 1) rfl 0) 2) rfl) ?_
              obtain ⟨y115, hy115, H⟩ := bnd H
              refine Tr.call0 (r := (.bool y115)) (wg rfl rfl rfl) rfl Try.call49 (evl_cons rfl (evl_cons rfl evl_nil)) (fun W hW => F_etchhouselaw1_has_ok N y103.1 Ay103_0 cy103_0 (hW.slCall (k := 3) rfl) p2 y115 hy115 (HF.start _)) ?_
              refine Tr.val (wg rfl rfl rfl) rfl (fun _ _ h1 h2 => run_move (h1.ev rfl)) ?_
              refine Tr.val (wg rfl rfl rfl) rfl (fun _ _ h1 h2 => run_move (h1.ev rfl)) ?_
              refine Tr.mid0 2 [(5, (.pointer (some ⟨b100, 0, none⟩))), (11, (.slice Ay105_0 (y105.1).length cy105_0)), (13, (.bool y110)), (14, (.bool y111)), (67, (.bool true)), (70, (.bool y115)), (74, (.bool (y110 && y111)))] [(1, bx b100 #[(.int .i64 p2.X), (.int .i64 p2.Y)] 35), (2, ow Ay101_0 cy101_0 29 fl_TRect y101.1), (3, ow Ay103_0 cy103_0 29 fl_TRect y103.1), (4, ow Ay105_0 cy105_0 29 fl_TRect y105.1)] ?_ ?_
              · cases hg115 : y110
                · refine Tr.pass rfl rfl rfl rfl rfl (by decide) ?_
                  refine Tr.val (wg rfl rfl rfl) rfl (fun _ _ h1 h2 => run_pickF (h1.ev rfl) (h1.ev rfl)) ?_
                  exact Tr.nil (Tr.fin0 (.cons rfl (.cons rfl (.cons rfl (.cons rfl (.cons rfl (.cons rfl (.cons rfl .nil))))))) (.cons rfl (.cons rfl (.cons rfl (.cons rfl .nil)))))
                · refine Tr.val (wg rfl rfl rfl) rfl (fun _ _ h1 h2 => run_move (h1.ev rfl)) ?_
                  refine Tr.val (wg rfl rfl rfl) rfl (fun _ _ h1 h2 => run_pickT (h1.ev rfl) (h1.ev rfl)) ?_
                  exact Tr.nil (Tr.fin0 (.cons rfl (.cons rfl (.cons rfl (.cons rfl (.cons rfl (.cons rfl (.cons rfl .nil))))))) (.cons rfl (.cons rfl (.cons rfl (.cons rfl .nil)))))
              · show Tr _ _ (LF [(5, (.pointer (some ⟨b100, 0, none⟩))), (11, (.slice Ay105_0 (y105.1).length cy105_0)), (13, (.bool y110)), (14, (.bool y111)), (67, (.bool true)), (70, (.bool y115)), (74, (.bool (y110 && y111)))]) (LE [(1, bx b100 #[(.int .i64 p2.X), (.int .i64 p2.Y)] 35), (2, ow Ay101_0 cy101_0 29 fl_TRect y101.1), (3, ow Ay103_0 cy103_0 29 fl_TRect y103.1), (4, ow Ay105_0 cy105_0 29 fl_TRect y105.1)]) _
                refine Tr.val (wg rfl rfl rfl) rfl (fun _ _ h1 h2 => run_eqlB un_4 (h1.ev rfl) (h1.ev rfl)) ?_
                refine Tr.val (wn rfl) rfl (fun _ _ h1 h2 => run_pickT (h1.ev rfl) (h1.ev rfl)) ?_
                obtain rfl := Option.some.inj H
                exact Tr.nil (Tr.fin0 (.cons rfl (.cons rfl (.cons rfl (.cons rfl (.cons rfl .nil))))) (.cons rfl (.cons rfl (.cons rfl (.cons rfl .nil)))))
          · show Tr _ _ (LF [(5, (.pointer (some ⟨b100, 0, none⟩))), (11, (.slice Ay105_0 (y105.1).length cy105_0)), (13, (.bool y110)), (14, (.bool y111)), (76, (.bool g114))]) (LE [(1, bx b100 #[(.int .i64 p2.X), (.int .i64 p2.Y)] 35), (2, ow Ay101_0 cy101_0 29 fl_TRect y101.1), (3, ow Ay103_0 cy103_0 29 fl_TRect y103.1), (4, ow Ay105_0 cy105_0 29 fl_TRect y105.1)]) _
            refine Tr.val (wn rfl) rfl (fun _ _ h1 h2 => run_move (h1.ev rfl)) ?_
            obtain ⟨g117, hg117, H⟩ := bnd H
            refine Tr.mid0 10 [(87, (.bool g117))] [(1, bx b100 #[(.int .i64 p2.X), (.int .i64 p2.Y)] 35), (2, ow Ay101_0 cy101_0 29 fl_TRect y101.1), (3, ow Ay103_0 cy103_0 29 fl_TRect y103.1), (4, ow Ay105_0 cy105_0 29 fl_TRect y105.1)] ?_ ?_
            · cases hg121 : g114
              · rw [hg121] at hg117
                rw [if_neg (by decide)] at hg117
                have H := hg117
                obtain rfl := Option.some.inj H
                refine Tr.pass rfl rfl rfl rfl rfl (by decide) ?_
                refine Tr.pass rfl rfl rfl rfl rfl (by decide) ?_
                refine Tr.pass rfl rfl rfl rfl rfl (by decide) ?_
                refine Tr.pass rfl rfl rfl rfl rfl (by decide) ?_
                refine Tr.pass rfl rfl rfl rfl rfl (by decide) ?_
                refine Tr.passU rfl rfl rfl rfl (by decide) ?_
                refine Tr.passU rfl rfl rfl rfl (by decide) ?_
                refine Tr.pass rfl rfl rfl rfl rfl (by decide) ?_
                refine Tr.pass rfl rfl rfl rfl rfl (by decide) ?_
                refine Tr.val (wn rfl) rfl (fun _ _ h1 h2 => run_pickF (h1.ev rfl) (h1.ev rfl)) ?_
                exact Tr.nil (Tr.fin0 (.cons rfl .nil) (.cons rfl (.cons rfl (.cons rfl (.cons rfl .nil)))))
              · rw [hg121] at hg117
                rw [if_pos rfl] at hg117
                have H := hg117
                refine Tr.val (wg rfl rfl rfl) rfl (fun _ _ h1 h2 => run_move (h1.ev rfl)) ?_
                refine Tr.val (wg rfl rfl rfl) rfl (fun _ _ h1 h2 => run_loadN (cs := [(.int .i64 p2.X), (.int .i64 p2.Y)]) ag_35 sz_35 (h1.ev rfl) (CellsAt.take (rdb h2 (vs := [(.int .i64 p2.X), (.int .i64 p2.Y)]) (k := 1) rfl 0) 2) rfl) ?_
                obtain ⟨y118, hy118, H⟩ := bnd H
                refine Tr.call0 (r := (.bool y118)) (wg rfl rfl rfl) rfl Try.call49 (evl_cons rfl (evl_cons rfl evl_nil)) (fun W hW => F_etchhouselaw1_has_ok N y105.1 Ay105_0 cy105_0 (hW.slCall (k := 4) rfl) p2 y118 hy118 (HF.start _)) ?_
                refine Tr.val (wg rfl rfl rfl) rfl (fun _ _ h1 h2 => run_move (h1.ev rfl)) ?_
                refine Tr.val (wg rfl rfl rfl) rfl (fun _ _ h1 h2 => run_move (h1.ev rfl)) ?_
                refine Tr.mid0 3 [(77, (.bool true)), (80, (.bool y118)), (85, (.bool (y110 && (!y111))))] [(1, bx b100 #[(.int .i64 p2.X), (.int .i64 p2.Y)] 35), (2, ow Ay101_0 cy101_0 29 fl_TRect y101.1), (3, ow Ay103_0 cy103_0 29 fl_TRect y103.1), (4, ow Ay105_0 cy105_0 29 fl_TRect y105.1)] ?_ ?_
                · cases hg118 : y110
                  · refine Tr.pass rfl rfl rfl rfl rfl (by decide) ?_
                    refine Tr.pass rfl rfl rfl rfl rfl (by decide) ?_
                    refine Tr.val (wg rfl rfl rfl) rfl (fun _ _ h1 h2 => run_pickF (h1.ev rfl) (h1.ev rfl)) ?_
                    exact Tr.nil (Tr.fin0 (.cons rfl (.cons rfl (.cons rfl .nil))) (.cons rfl (.cons rfl (.cons rfl (.cons rfl .nil)))))
                  · refine Tr.val (wg rfl rfl rfl) rfl (fun _ _ h1 h2 => run_move (h1.ev rfl)) ?_
                    refine Tr.val (wg rfl rfl rfl) rfl (fun _ _ h1 h2 => run_not (h1.ev rfl)) ?_
                    refine Tr.val (wg rfl rfl rfl) rfl (fun _ _ h1 h2 => run_pickT (h1.ev rfl) (h1.ev rfl)) ?_
                    exact Tr.nil (Tr.fin0 (.cons rfl (.cons rfl (.cons rfl .nil))) (.cons rfl (.cons rfl (.cons rfl (.cons rfl .nil)))))
                · show Tr _ _ (LF [(77, (.bool true)), (80, (.bool y118)), (85, (.bool (y110 && (!y111))))]) (LE [(1, bx b100 #[(.int .i64 p2.X), (.int .i64 p2.Y)] 35), (2, ow Ay101_0 cy101_0 29 fl_TRect y101.1), (3, ow Ay103_0 cy103_0 29 fl_TRect y103.1), (4, ow Ay105_0 cy105_0 29 fl_TRect y105.1)]) _
                  refine Tr.val (wg rfl rfl rfl) rfl (fun _ _ h1 h2 => run_eqlB un_4 (h1.ev rfl) (h1.ev rfl)) ?_
                  refine Tr.val (wn rfl) rfl (fun _ _ h1 h2 => run_pickT (h1.ev rfl) (h1.ev rfl)) ?_
                  obtain rfl := Option.some.inj H
                  exact Tr.nil (Tr.fin0 (.cons rfl .nil) (.cons rfl (.cons rfl (.cons rfl (.cons rfl .nil)))))
            · show Tr _ _ (LF [(87, (.bool g117))]) (LE [(1, bx b100 #[(.int .i64 p2.X), (.int .i64 p2.Y)] 35), (2, ow Ay101_0 cy101_0 29 fl_TRect y101.1), (3, ow Ay103_0 cy103_0 29 fl_TRect y103.1), (4, ow Ay105_0 cy105_0 29 fl_TRect y105.1)]) _
              refine Tr.val (wn rfl) rfl (fun _ _ h1 h2 => run_move (h1.ev rfl)) ?_
              obtain ⟨g120, hg120, H⟩ := bnd H
              refine Tr.mid0 2 [(90, (.bool g120))] [(1, bx b100 #[(.int .i64 p2.X), (.int .i64 p2.Y)] 35), (2, ow Ay101_0 cy101_0 29 fl_TRect y101.1), (3, ow Ay103_0 cy103_0 29 fl_TRect y103.1), (4, ow Ay105_0 cy105_0 29 fl_TRect y105.1)] ?_ ?_
              · cases hg121 : g117
                · rw [hg121] at hg120
                  rw [if_neg (by decide)] at hg120
                  have H := hg120
                  obtain rfl := Option.some.inj H
                  refine Tr.pass rfl rfl rfl rfl rfl (by decide) ?_
                  refine Tr.val (wn rfl) rfl (fun _ _ h1 h2 => run_pickF (h1.ev rfl) (h1.ev rfl)) ?_
                  exact Tr.nil (Tr.fin0 (.cons rfl .nil) (.cons rfl (.cons rfl (.cons rfl (.cons rfl .nil)))))
                · rw [hg121] at hg120
                  rw [if_pos rfl] at hg120
                  have H := hg120
                  obtain ⟨y121, hy121, H⟩ := bnd H
                  refine Tr.call0 (r := (.bool y121)) (wg rfl rfl rfl) rfl Try.call20 evl_nil (fun W hW => F_etchhouselaw1_awake_ok N y121 hy121 (HF.start _)) ?_
                  refine Tr.val (wn rfl) rfl (fun _ _ h1 h2 => run_pickT (h1.ev rfl) (h1.ev rfl)) ?_
                  obtain rfl := Option.some.inj H
                  exact Tr.nil (Tr.fin0 (.cons rfl .nil) (.cons rfl (.cons rfl (.cons rfl (.cons rfl .nil)))))
              · show Tr _ _ (LF [(90, (.bool g120))]) (LE [(1, bx b100 #[(.int .i64 p2.X), (.int .i64 p2.Y)] 35), (2, ow Ay101_0 cy101_0 29 fl_TRect y101.1), (3, ow Ay103_0 cy103_0 29 fl_TRect y103.1), (4, ow Ay105_0 cy105_0 29 fl_TRect y105.1)]) _
                refine Tr.val (wn rfl) rfl (fun _ _ h1 h2 => run_assign (h1.ev rfl)) ?_
                refine Tr.nil (Tr.normThen ?_)
                refine Tr.ret ?_
                obtain rfl := Option.some.inj H
                exact Tr.out (m := [(.bool g120)]) [] (res_tmp rfl res_nil) (fun W hW => ⟨rfl, hW.low leB⟩)

end Go.Proofs.Ytcebbfodkadggaa
