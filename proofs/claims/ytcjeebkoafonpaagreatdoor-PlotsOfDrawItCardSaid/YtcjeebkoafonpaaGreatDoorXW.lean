/- The walks: each function computes its plain function. -/
import Derived.Test.YtcjeebkoafonpaaGreatDoorXWd
namespace Go.Proofs.YtcjeebkoafonpaaGreatDoor
open Go.RowKit
set_option maxRecDepth 100000
set_option maxHeartbeats 1000000
theorem F_etchhouseref3_samePoints_ok (N : Nat) {w : Bs} (p0 : (List TPoint)) (Ap0_0 : Option Addr) (cp0_0 : Nat) (hp0_0 : Sl w.R w.W fl_TPoint Ap0_0 cp0_0 p0) (p1 : (List TPoint)) (Ap1_0 : Option Addr) (cp1_0 : Nat) (hp1_0 : Sl w.R w.W fl_TPoint Ap1_0 cp1_0 p1) (r : Bool) (H : F_etchhouseref3_samePoints N p0 p1 = some r) (hE : HF w w.W E0) : Calls Tryz.prog 39 [(.slice Ap0_0 (p0).length cp0_0), (.slice Ap1_0 (p1).length cp1_0)].toArray w.W fun e W' => e = .returned (.bool r) ∧ HF w W' E0 := by
 unfold F_etchhouseref3_samePoints at H
 have leB := Bs.Le.refl w
 refine Tr.enter (n := 26) Tryz.func39 rfl rfl rfl hE ?_
 refine Tr.sr ?_
 refine Tr.asg rfl rfl ?_
 refine Tr.nil (Tr.normThen ?_)
 refine Tr.seq ?_
 refine Tr.sr ?_
 refine Tr.mv rfl rfl ?_
 refine Tr.v1 rfl (run_len un_43) rfl ?_
 refine Tr.mv rfl rfl ?_
 refine Tr.v1 rfl (run_len un_43) rfl ?_
 refine Tr.v2 rfl run_neq rfl rfl ?_
 refine Tr.nil (Tr.normThen ?_)
 refine Tr.cond rfl H (fun H => ?_) (fun H => ?_)
 ·refine Tr.sr ?_
  refine Tr.asg rfl rfl ?_
  refine Tr.nil (Tr.normThen ?_)
  refine Tr.ret (Tr.retThen ?_)
  obtain rfl := Option.some.inj H
  exact Tr.out (m := [(.bool false)]) [] (res_tmp rfl res_nil) (fun W hW => ⟨rfl, hW.low leB⟩)
 ·refine Tr.skip (Tr.normThen ?_)
  refine Tr.seq ?_
  refine Tr.sr ?_
  refine Tr.asg rfl rfl ?_
  refine Tr.nil (Tr.normThen ?_)
  refine Tr.block ?_
  refine Tr.loop (σ := Int) (fun m w s => F_etchhouseref3_samePoints_L1 p0 p1 m s = some r) (fun s => [(0, (.slice Ap0_0 (p0).length cp0_0)), (1, (.slice Ap1_0 (p1).length cp1_0)), (5, (iv s))]) (fun s => []) N 0 H (.r rfl) .nil (fun _ _ h => noSome (h)) ?_
  intro w leL1 mL1 x107 hs
  have H := hs
  replace H : F_etchhouseref3_samePoints_L1 p0 p1 (mL1 + 1) x107 = some r := H
  replace hp0_0 := hp0_0.leR leL1
  replace hp1_0 := hp1_0.leR leL1
  replace leB := leB.trans leL1
  rw [F_etchhouseref3_samePoints_L1.eq_2] at H
  show Tr _ _ (LF [(0, (.slice Ap0_0 (p0).length cp0_0)), (1, (.slice Ap1_0 (p1).length cp1_0)), (5, (iv x107))]) (LE []) _
  refine Tr.seq ?_
  refine Tr.sr ?_
  refine Tr.mv rfl rfl ?_
  refine Tr.mv rfl rfl ?_
  refine Tr.v1 rfl (run_len un_43) rfl ?_
  refine Tr.v2 rfl run_lss rfl rfl ?_
  refine Tr.nil (Tr.normThen ?_)
  refine Tr.cond rfl H (fun H => ?_) (fun H => ?_)
  ·refine Tr.skip (Tr.normThen ?_)
   refine Tr.seq ?_
   refine Tr.block ?_
   refine Tr.seq ?_
   refine Tr.draw (by kernel_rfl) (by kernel_rfl) ?_
   refine Tq.mv rfl rfl ?_
   refine Tq.mv rfl rfl ?_
   obtain ⟨x108, hx108, H⟩ := bnd H
   obtain ⟨hx1080, hx1081, hx1082⟩ := idx_some hx108
   refine Tq.va rfl (fun _ _ h1 h2 => run_indexAddr el_43 (h1.ev rfl) hp0_0.form (h1.ev rfl) hx1080 hx1081) ?_
   refine Tq.va rfl (fun _ _ h1 h2 => run_loadN (cs := [(iv x108.X), (iv x108.Y)]) ag_47 sz_47 (h1.ev rfl) (CellsAt.take (rdF ef_TPoint hp0_0 hx1082 h2) 2) rfl) ?_
   refine Tq.mv rfl rfl ?_
   refine Tq.mv rfl rfl ?_
   obtain ⟨x109, hx109, H⟩ := bnd H
   obtain ⟨hx1090, hx1091, hx1092⟩ := idx_some hx109
   refine Tq.va rfl (fun _ _ h1 h2 => run_indexAddr el_43 (h1.ev rfl) hp1_0.form (h1.ev rfl) hx1090 hx1091) ?_
   refine Tq.va rfl (fun _ _ h1 h2 => run_loadN (cs := [(iv x109.X), (iv x109.Y)]) ag_47 sz_47 (h1.ev rfl) (CellsAt.take (rdF ef_TPoint hp1_0 hx1092 h2) 2) rfl) ?_
   refine Tq.v2 rfl (run_neq_47 x108 x109) rfl rfl ?_
   refine Tq.nil (Tr.normThen ?_)
   refine Tr.cond rfl H (fun H => ?_) (fun H => ?_)
   ·refine Tr.sr ?_
    refine Tr.asg rfl rfl ?_
    refine Tr.nil (Tr.normThen ?_)
    refine Tr.ret (Tr.retBlock (Tr.retThen (Tr.retThen (Tr.retBlock (Tr.retThen ?_)))))
    obtain rfl := Option.some.inj H
    exact Tr.out (m := [(.bool false)]) [] (res_tmp rfl res_nil) (fun W hW => ⟨rfl, hW.low leB⟩)
   ·refine Tr.skip (Tr.normBlock (Tr.normThen ?_))
    refine Tr.region ?_
    refine Tr.mv rfl rfl ?_
    refine Tr.v2 rfl run_add rfl rfl ?_
    refine Tr.asg rfl rfl ?_
    refine Tr.nil ?_
    exact Tr.backThen leL1 (w64 (x107 + 1)) H (.r rfl) .nil
  ·refine Tr.exit (Tr.exitThen (Tr.exitThen (Tr.exitBlock (Tr.normThen ?_))))
   refine Tr.sr ?_
   refine Tr.asg rfl rfl ?_
   refine Tr.nil (Tr.normThen ?_)
   refine Tr.ret ?_
   obtain rfl := Option.some.inj H
   exact Tr.out (m := [(.bool true)]) [] (res_tmp rfl res_nil) (fun W hW => ⟨rfl, hW.low leB⟩)

theorem F_etchhouseref3_sameSteps_b_ok (N : Nat) (rec : (List TPlotStep) → (List TPlotStep) → Option Bool) (hrec : ∀ {w : Bs} (p0 : (List TPlotStep)) (Ap0_0 : Option Addr) (cp0_0 : Nat) (hp0_0 : Sl w.R w.W fl_TPlotStep Ap0_0 cp0_0 p0) (p1 : (List TPlotStep)) (Ap1_0 : Option Addr) (cp1_0 : Nat) (hp1_0 : Sl w.R w.W fl_TPlotStep Ap1_0 cp1_0 p1) (r : Bool) (H : rec p0 p1 = some r) (hE : HF w w.W E0), Calls Tryz.prog 21 [(.slice Ap0_0 (p0).length cp0_0), (.slice Ap1_0 (p1).length cp1_0)].toArray w.W fun e W' => e = .returned (.bool r) ∧ HF w W' E0) {w : Bs} (p0 : (List TPlotStep)) (Ap0_0 : Option Addr) (cp0_0 : Nat) (hp0_0 : Sl w.R w.W fl_TPlotStep Ap0_0 cp0_0 p0) (p1 : (List TPlotStep)) (Ap1_0 : Option Addr) (cp1_0 : Nat) (hp1_0 : Sl w.R w.W fl_TPlotStep Ap1_0 cp1_0 p1) (r : Bool) (H : F_etchhouseref3_sameSteps_b N rec p0 p1 = some r) (hE : HF w w.W E0) : Calls Tryz.prog 21 [(.slice Ap0_0 (p0).length cp0_0), (.slice Ap1_0 (p1).length cp1_0)].toArray w.W fun e W' => e = .returned (.bool r) ∧ HF w W' E0 := by
 unfold F_etchhouseref3_sameSteps_b at H
 have leB := Bs.Le.refl w
 refine Tr.enter (n := 76) Tryz.func21 rfl rfl rfl hE ?_
 refine Tr.sr ?_
 refine Tr.asg rfl rfl ?_
 refine Tr.nil (Tr.normThen ?_)
 refine Tr.seq ?_
 refine Tr.sr ?_
 refine Tr.mv rfl rfl ?_
 refine Tr.v1 rfl (run_len un_24) rfl ?_
 refine Tr.mv rfl rfl ?_
 refine Tr.v1 rfl (run_len un_24) rfl ?_
 refine Tr.v2 rfl run_neq rfl rfl ?_
 refine Tr.nil (Tr.normThen ?_)
 refine Tr.cond rfl H (fun H => ?_) (fun H => ?_)
 ·refine Tr.sr ?_
  refine Tr.asg rfl rfl ?_
  refine Tr.nil (Tr.normThen ?_)
  refine Tr.ret (Tr.retThen ?_)
  obtain rfl := Option.some.inj H
  exact Tr.out (m := [(.bool false)]) [] (res_tmp rfl res_nil) (fun W hW => ⟨rfl, hW.low leB⟩)
 ·refine Tr.skip (Tr.normThen ?_)
  refine Tr.seq ?_
  refine Tr.sr ?_
  refine Tr.asg rfl rfl ?_
  refine Tr.nil (Tr.normThen ?_)
  refine Tr.block ?_
  refine Tr.loop (σ := Int) (fun m w s => F_etchhouseref3_sameSteps_L1 N p0 p1 rec m s = some r) (fun s => [(0, (.slice Ap0_0 (p0).length cp0_0)), (1, (.slice Ap1_0 (p1).length cp1_0)), (5, (iv s))]) (fun s => []) N 0 H (.r rfl) .nil (fun _ _ h => noSome (h)) ?_
  intro w leL1 mL1 x131 hs
  have H := hs
  replace H : F_etchhouseref3_sameSteps_L1 N p0 p1 rec (mL1 + 1) x131 = some r := H
  replace hp0_0 := hp0_0.leR leL1
  replace hp1_0 := hp1_0.leR leL1
  replace leB := leB.trans leL1
  rw [F_etchhouseref3_sameSteps_L1.eq_2] at H
  show Tr _ _ (LF [(0, (.slice Ap0_0 (p0).length cp0_0)), (1, (.slice Ap1_0 (p1).length cp1_0)), (5, (iv x131))]) (LE []) _
  refine Tr.seq ?_
  refine Tr.sr ?_
  refine Tr.mv rfl rfl ?_
  refine Tr.mv rfl rfl ?_
  refine Tr.v1 rfl (run_len un_24) rfl ?_
  refine Tr.v2 rfl run_lss rfl rfl ?_
  refine Tr.nil (Tr.normThen ?_)
  refine Tr.cond rfl H (fun H => ?_) (fun H => ?_)
  ·refine Tr.skip (Tr.normThen ?_)
   refine Tr.seq ?_
   refine Tr.block ?_
   refine Tr.seq ?_
   refine Tr.drawC 11 [] [10] (by kernel_rfl) (by kernel_rfl) fun sz132 hlosz132 hEsz132 => ?_
   refine Dr.quiet 0 [(19, (.slice Ap0_0 (p0).length cp0_0))] (by kernel_rfl) rfl rfl (by kernel_rfl) ?_ rfl rfl ?_
   ·refine Tq.mv rfl rfl ?_
    exact Tq.fin (.r rfl)
   refine Dr.quiet 1 [(20, (iv x131))] (by kernel_rfl) rfl rfl (by kernel_rfl) ?_ rfl rfl ?_
   ·refine Tq.mv rfl rfl ?_
    exact Tq.fin (.r rfl)
   obtain ⟨x133, hx133, H⟩ := bnd H
   obtain ⟨hx1330, hx1331, hx1332⟩ := idx_some hx133
   obtain ⟨u134, hRu134, hoku134, hcu134⟩ := (hp0_0).el hx1332
   obtain ⟨⟨Au134_0, cu134_0⟩, ⟨Au134_1, cu134_1⟩⟩ := u134
   obtain ⟨hoku134_0, hoku134_1⟩ := TPlotStep_ok.1 hoku134
   replace hoku134_0 : Sl w.R w.W fl_TPoint Au134_0 cu134_0 x133.Points := hoku134_0
   replace hoku134_1 : Sl w.R w.W fl_TPlotStep Au134_1 cu134_1 x133.Steps := hoku134_1
   refine Dr.quiet 2 [(21, (.pointer (some ⟨adB Ap0_0, adO Ap0_0 + (x131).toNat * 8, none⟩)))] (by kernel_rfl) rfl rfl (by kernel_rfl) ?_ rfl rfl ?_
   ·refine Tq.va rfl (fun _ _ h1 h2 => run_indexAddr el_24 (h1.ev rfl) hp0_0.form (h1.ev rfl) hx1330 hx1331) ?_
    exact Tq.fin (.r rfl)
   refine Dr.quiet 3 [(22, (.agg #[(iv x133.Kind), (sv x133.Name), (iv x133.At.X), (iv x133.At.Y), (.slice Au134_0 (x133.Points).length cu134_0), (iv x133.NX), (iv x133.NY), (.slice Au134_1 (x133.Steps).length cu134_1)]))] (by kernel_rfl) rfl rfl (by kernel_rfl) ?_ rfl rfl ?_
   ·refine Tq.va rfl (fun _ _ h1 h2 => run_loadN (cs := [(iv x133.Kind), (sv x133.Name), (iv x133.At.X), (iv x133.At.Y), (.slice Au134_0 (x133.Points).length cu134_0), (iv x133.NX), (iv x133.NY), (.slice Au134_1 (x133.Steps).length cu134_1)]) ag_53 sz_53 (h1.ev rfl) (CellsAt.take (rdR hRu134 hcu134 h2) 8) rfl) ?_
    exact Tq.fin (.r rfl)
   refine Dr.quietP 4 (by kernel_rfl) rfl (wn rfl) rfl (by kernel_rfl) (fun _ _ h1 => run_move (h1.ev rfl)) rfl ?_
   refine Dr.quietP 5 (by kernel_rfl) rfl (wn rfl) rfl (by kernel_rfl) (fun _ _ h1 => run_move (h1.ev rfl)) rfl ?_
   obtain ⟨x135, hx135, H⟩ := bnd H
   obtain ⟨hx1350, hx1351, hx1352⟩ := idx_some hx135
   obtain ⟨u136, hRu136, hoku136, hcu136⟩ := (hp1_0).el hx1352
   obtain ⟨⟨Au136_0, cu136_0⟩, ⟨Au136_1, cu136_1⟩⟩ := u136
   obtain ⟨hoku136_0, hoku136_1⟩ := TPlotStep_ok.1 hoku136
   replace hoku136_0 : Sl w.R w.W fl_TPoint Au136_0 cu136_0 x135.Points := hoku136_0
   replace hoku136_1 : Sl w.R w.W fl_TPlotStep Au136_1 cu136_1 x135.Steps := hoku136_1
   refine Dr.quietP 6 (by kernel_rfl) rfl (wn rfl) rfl (by kernel_rfl) (fun _ _ h1 => run_indexAddr el_24 (h1.ev rfl) hp1_0.form (h1.ev rfl) hx1350 hx1351) rfl ?_
   refine Dr.quietZ 7 [(26, (.agg #[(iv x135.Kind), (sv x135.Name), (iv x135.At.X), (iv x135.At.Y), (.slice Au136_0 (x135.Points).length cu136_0), (iv x135.NX), (iv x135.NY), (.slice Au136_1 (x135.Steps).length cu136_1)]))] [] true (by kernel_rfl) rfl rfl (by kernel_rfl) (fun W W' h2 hsW hk => HF.keepZ (le := []) (ks := []) (s0 := sz132) true h2 hk (fun _ => hlosz132) .nil (fun b hb => hb.elim (fun ⟨_, hp, _⟩ => nomatch hp) (fun hb => .inr ⟨rfl, hb.2, (fun _ h => nomatch h)⟩)) (fun _ h => nomatch h) rfl) ?_ rfl rfl ?_
   ·refine Tq.va rfl (fun _ _ h1 h2 => run_loadN (cs := [(iv x135.Kind), (sv x135.Name), (iv x135.At.X), (iv x135.At.Y), (.slice Au136_0 (x135.Points).length cu136_0), (iv x135.NX), (iv x135.NY), (.slice Au136_1 (x135.Steps).length cu136_1)]) ag_53 sz_53 (h1.ev rfl) (CellsAt.take (rdR hRu136 hcu136 h2) 8) rfl) ?_
    exact Tq.fin (.r rfl)
   refine Dr.cut (U := Nat × Nat) [8, 9] 1 (fun u => sz132 ≤ u.1 ∧ sz132 ≤ u.2) (fun u => [(0, (.slice Ap0_0 (p0).length cp0_0)), (1, (.slice Ap1_0 (p1).length cp1_0)), (5, (iv x131)), (6, (.pointer (some ⟨u.1, 0, none⟩))), (7, (.pointer (some ⟨u.2, 0, none⟩))), (13, (iv x131)), (14, (.slice Ap0_0 (p0).length cp0_0)), (15, (iv (p0.length : Int))), (16, (.bool (decide (x131 < (p0.length : Int))))), (19, (.slice Ap0_0 (p0).length cp0_0)), (20, (iv x131)), (21, (.pointer (some ⟨adB Ap0_0, adO Ap0_0 + (x131).toNat * 8, none⟩))), (22, (.agg #[(iv x133.Kind), (sv x133.Name), (iv x133.At.X), (iv x133.At.Y), (.slice Au134_0 (x133.Points).length cu134_0), (iv x133.NX), (iv x133.NY), (.slice Au134_1 (x133.Steps).length cu134_1)])), (23, (.slice Ap1_0 (p1).length cp1_0)), (24, (iv x131)), (25, (.pointer (some ⟨adB Ap1_0, adO Ap1_0 + (x131).toNat * 8, none⟩))), (26, (.agg #[(iv x135.Kind), (sv x135.Name), (iv x135.At.X), (iv x135.At.Y), (.slice Au136_0 (x135.Points).length cu136_0), (iv x135.NX), (iv x135.NY), (.slice Au136_1 (x135.Steps).length cu136_1)]))]) (fun u => [(5, bx u.1 #[(iv 0), (sv ⟨#[]⟩), (iv 0), (iv 0), (.slice none 0 0), (iv 0), (iv 0), (.slice none 0 0)] 53), (6, bx u.2 #[(iv 0), (sv ⟨#[]⟩), (iv 0), (iv 0), (.slice none 0 0), (iv 0), (iv 0), (.slice none 0 0)] 53)]) ?_ ?_
   ·intro hC
    refine Dr.pair 8 9 (by kernel_rfl) ?_ ?_
    ·refine St.alloc 8 5 rfl (wn rfl) rfl ze_53 fun b137 hb137 => ?_
     refine Dr.one 9 (by kernel_rfl) ?_
     refine St.alloc 9 6 rfl (wn rfl) rfl ze_53 fun b138 hb138 => ?_
     exact (hC ⟨b137, b138⟩ ⟨hb137, hb138⟩).use (by kernel_rfl) (.r rfl) (.r rfl)
    ·refine St.alloc 9 6 rfl (wn rfl) rfl ze_53 fun b138 hb138 => ?_
     refine Dr.one 8 (by kernel_rfl) ?_
     refine St.alloc 8 5 rfl (wn rfl) rfl ze_53 fun b137 hb137 => ?_
     exact (hC ⟨b137, b138⟩ ⟨hb137, hb138⟩).use (by kernel_rfl) (.r rfl) (.r rfl)
   intro u hu
   obtain ⟨b137, b138⟩ := u
   obtain ⟨hb137, hb138⟩ := hu
   replace hb137 : sz132 ≤ b137 := hb137
   replace hb138 : sz132 ≤ b138 := hb138
   show Dr _ _ _ _ _ _ _ _ _ (LF [(0, (.slice Ap0_0 (p0).length cp0_0)), (1, (.slice Ap1_0 (p1).length cp1_0)), (5, (iv x131)), (6, (.pointer (some ⟨b137, 0, none⟩))), (7, (.pointer (some ⟨b138, 0, none⟩))), (13, (iv x131)), (14, (.slice Ap0_0 (p0).length cp0_0)), (15, (iv (p0.length : Int))), (16, (.bool (decide (x131 < (p0.length : Int))))), (19, (.slice Ap0_0 (p0).length cp0_0)), (20, (iv x131)), (21, (.pointer (some ⟨adB Ap0_0, adO Ap0_0 + (x131).toNat * 8, none⟩))), (22, (.agg #[(iv x133.Kind), (sv x133.Name), (iv x133.At.X), (iv x133.At.Y), (.slice Au134_0 (x133.Points).length cu134_0), (iv x133.NX), (iv x133.NY), (.slice Au134_1 (x133.Steps).length cu134_1)])), (23, (.slice Ap1_0 (p1).length cp1_0)), (24, (iv x131)), (25, (.pointer (some ⟨adB Ap1_0, adO Ap1_0 + (x131).toNat * 8, none⟩))), (26, (.agg #[(iv x135.Kind), (sv x135.Name), (iv x135.At.X), (iv x135.At.Y), (.slice Au136_0 (x135.Points).length cu136_0), (iv x135.NX), (iv x135.NY), (.slice Au136_1 (x135.Steps).length cu136_1)]))]) (LE [(5, bx b137 #[(iv 0), (sv ⟨#[]⟩), (iv 0), (iv 0), (.slice none 0 0), (iv 0), (iv 0), (.slice none 0 0)] 53), (6, bx b138 #[(iv 0), (sv ⟨#[]⟩), (iv 0), (iv 0), (.slice none 0 0), (iv 0), (iv 0), (.slice none 0 0)] 53)])
   refine Dr.one 10 (by kernel_rfl) ?_
   refine St.store 10 5 (cs := [(iv x133.Kind), (sv x133.Name), (iv x133.At.X), (iv x133.At.Y), (.slice Au134_0 (x133.Points).length cu134_0), (iv x133.NX), (iv x133.NY), (.slice Au134_1 (x133.Steps).length cu134_1)]) [(iv x133.Kind), (sv x133.Name), (iv x133.At.X), (iv x133.At.Y), (.slice Au134_0 (x133.Points).length cu134_0), (iv x133.NX), (iv x133.NY), (.slice Au134_1 (x133.Steps).length cu134_1)] rfl (wn rfl) (.inr ⟨by simp, hb137⟩) rfl rfl rfl rfl sz_53 rfl rfl rfl ?_
   refine Dr.tail (by kernel_rfl) ?_
   refine Tr.store 6 (cs := [(iv x135.Kind), (sv x135.Name), (iv x135.At.X), (iv x135.At.Y), (.slice Au136_0 (x135.Points).length cu136_0), (iv x135.NX), (iv x135.NY), (.slice Au136_1 (x135.Steps).length cu136_1)]) [(iv x135.Kind), (sv x135.Name), (iv x135.At.X), (iv x135.At.Y), (.slice Au136_0 (x135.Points).length cu136_0), (iv x135.NX), (iv x135.NY), (.slice Au136_1 (x135.Steps).length cu136_1)] (wn rfl) rfl rfl rfl rfl sz_53 rfl rfl rfl ?_
   refine Tr.nil (Tr.normThen ?_)
   refine Tr.sr ?_
   refine Tr.v1 rfl (run_fieldAddr fo_53_0) rfl ?_
   refine Tr.va rfl (fun _ _ h1 h2 => run_load1 ag_3 (h1.ev rfl) (rdb h2 (vs := [(iv x133.Kind), (sv x133.Name), (iv x133.At.X), (iv x133.At.Y), (.slice Au134_0 (x133.Points).length cu134_0), (iv x133.NX), (iv x133.NY), (.slice Au134_1 (x133.Steps).length cu134_1)]) (k := 5) rfl 0) rfl) ?_
   refine Tr.v1 rfl (run_fieldAddr fo_53_0) rfl ?_
   refine Tr.va rfl (fun _ _ h1 h2 => run_load1 ag_3 (h1.ev rfl) (rdb h2 (vs := [(iv x135.Kind), (sv x135.Name), (iv x135.At.X), (iv x135.At.Y), (.slice Au136_0 (x135.Points).length cu136_0), (iv x135.NX), (iv x135.NY), (.slice Au136_1 (x135.Steps).length cu136_1)]) (k := 6) rfl 0) rfl) ?_
   refine Tr.v2 rfl run_neq rfl rfl ?_
   refine Tr.mv rfl rfl ?_
   refine Tr.mid0 6 [(0, (.slice Ap0_0 (p0).length cp0_0)), (1, (.slice Ap1_0 (p1).length cp1_0)), (5, (iv x131)), (6, (.pointer (some ⟨b137, 0, none⟩))), (7, (.pointer (some ⟨b138, 0, none⟩))), (38, (.bool ((x133.Kind != x135.Kind) || (!sEq x133.Name x135.Name))))] [(5, bx b137 #[(iv x133.Kind), (sv x133.Name), (iv x133.At.X), (iv x133.At.Y), (.slice Au134_0 (x133.Points).length cu134_0), (iv x133.NX), (iv x133.NY), (.slice Au134_1 (x133.Steps).length cu134_1)] 53), (6, bx b138 #[(iv x135.Kind), (sv x135.Name), (iv x135.At.X), (iv x135.At.Y), (.slice Au136_0 (x135.Points).length cu136_0), (iv x135.NX), (iv x135.NY), (.slice Au136_1 (x135.Steps).length cu136_1)] 53)] ?_ ?_
   ·cases hg144 : (x133.Kind != x135.Kind)
    ·refine Tr.w1 (wg rfl rfl rfl) rfl (run_fieldAddr fo_53_1) rfl ?_
     refine Tr.val (wg rfl rfl rfl) rfl (fun _ _ h1 h2 => run_load1 ag_9 (h1.ev rfl) (rdb h2 (vs := [(iv x133.Kind), (sv x133.Name), (iv x133.At.X), (iv x133.At.Y), (.slice Au134_0 (x133.Points).length cu134_0), (iv x133.NX), (iv x133.NY), (.slice Au134_1 (x133.Steps).length cu134_1)]) (k := 5) rfl 1) rfl) ?_
     refine Tr.w1 (wg rfl rfl rfl) rfl (run_fieldAddr fo_53_1) rfl ?_
     refine Tr.val (wg rfl rfl rfl) rfl (fun _ _ h1 h2 => run_load1 ag_9 (h1.ev rfl) (rdb h2 (vs := [(iv x135.Kind), (sv x135.Name), (iv x135.At.X), (iv x135.At.Y), (.slice Au136_0 (x135.Points).length cu136_0), (iv x135.NX), (iv x135.NY), (.slice Au136_1 (x135.Steps).length cu136_1)]) (k := 6) rfl 1) rfl) ?_
     refine Tr.w2 (wg rfl rfl rfl) rfl run_neqS rfl rfl ?_
     refine Tr.v2 rfl run_pickF rfl rfl ?_
     exact Tr.nil (Tr.fin0 (.r rfl) (.r rfl))
    ·refine Tr.ps ?_
     refine Tr.ps ?_
     refine Tr.ps ?_
     refine Tr.ps ?_
     refine Tr.ps ?_
     refine Tr.v2 rfl run_pickT rfl rfl ?_
     exact Tr.nil (Tr.fin0 (.r rfl) (.r rfl))
   ·show Tr _ _ (LF [(0, (.slice Ap0_0 (p0).length cp0_0)), (1, (.slice Ap1_0 (p1).length cp1_0)), (5, (iv x131)), (6, (.pointer (some ⟨b137, 0, none⟩))), (7, (.pointer (some ⟨b138, 0, none⟩))), (38, (.bool ((x133.Kind != x135.Kind) || (!sEq x133.Name x135.Name))))]) (LE [(5, bx b137 #[(iv x133.Kind), (sv x133.Name), (iv x133.At.X), (iv x133.At.Y), (.slice Au134_0 (x133.Points).length cu134_0), (iv x133.NX), (iv x133.NY), (.slice Au134_1 (x133.Steps).length cu134_1)] 53), (6, bx b138 #[(iv x135.Kind), (sv x135.Name), (iv x135.At.X), (iv x135.At.Y), (.slice Au136_0 (x135.Points).length cu136_0), (iv x135.NX), (iv x135.NY), (.slice Au136_1 (x135.Steps).length cu136_1)] 53)]) _
    refine Tr.mv rfl rfl ?_
    refine Tr.mid0 6 [(0, (.slice Ap0_0 (p0).length cp0_0)), (1, (.slice Ap1_0 (p1).length cp1_0)), (5, (iv x131)), (6, (.pointer (some ⟨b137, 0, none⟩))), (7, (.pointer (some ⟨b138, 0, none⟩))), (45, (.bool (((x133.Kind != x135.Kind) || (!sEq x133.Name x135.Name)) || (!(eqTPoint x133.At x135.At)))))] [(5, bx b137 #[(iv x133.Kind), (sv x133.Name), (iv x133.At.X), (iv x133.At.Y), (.slice Au134_0 (x133.Points).length cu134_0), (iv x133.NX), (iv x133.NY), (.slice Au134_1 (x133.Steps).length cu134_1)] 53), (6, bx b138 #[(iv x135.Kind), (sv x135.Name), (iv x135.At.X), (iv x135.At.Y), (.slice Au136_0 (x135.Points).length cu136_0), (iv x135.NX), (iv x135.NY), (.slice Au136_1 (x135.Steps).length cu136_1)] 53)] ?_ ?_
    ·cases hg144 : ((x133.Kind != x135.Kind) || (!sEq x133.Name x135.Name))
     ·refine Tr.w1 (wg rfl rfl rfl) rfl (run_fieldAddr fo_53_2) rfl ?_
      refine Tr.val (wg rfl rfl rfl) rfl (fun _ _ h1 h2 => run_loadN (cs := [(iv x133.At.X), (iv x133.At.Y)]) ag_47 sz_47 (h1.ev rfl) (CellsAt.take (rdb h2 (vs := [(iv x133.Kind), (sv x133.Name), (iv x133.At.X), (iv x133.At.Y), (.slice Au134_0 (x133.Points).length cu134_0), (iv x133.NX), (iv x133.NY), (.slice Au134_1 (x133.Steps).length cu134_1)]) (k := 5) rfl 2) 2) rfl) ?_
      refine Tr.w1 (wg rfl rfl rfl) rfl (run_fieldAddr fo_53_2) rfl ?_
      refine Tr.val (wg rfl rfl rfl) rfl (fun _ _ h1 h2 => run_loadN (cs := [(iv x135.At.X), (iv x135.At.Y)]) ag_47 sz_47 (h1.ev rfl) (CellsAt.take (rdb h2 (vs := [(iv x135.Kind), (sv x135.Name), (iv x135.At.X), (iv x135.At.Y), (.slice Au136_0 (x135.Points).length cu136_0), (iv x135.NX), (iv x135.NY), (.slice Au136_1 (x135.Steps).length cu136_1)]) (k := 6) rfl 2) 2) rfl) ?_
      refine Tr.w2 (wg rfl rfl rfl) rfl (run_neq_47 x133.At x135.At) rfl rfl ?_
      refine Tr.v2 rfl run_pickF rfl rfl ?_
      exact Tr.nil (Tr.fin0 (.r rfl) (.r rfl))
     ·refine Tr.ps ?_
      refine Tr.ps ?_
      refine Tr.ps ?_
      refine Tr.ps ?_
      refine Tr.ps ?_
      refine Tr.v2 rfl run_pickT rfl rfl ?_
      exact Tr.nil (Tr.fin0 (.r rfl) (.r rfl))
    ·show Tr _ _ (LF [(0, (.slice Ap0_0 (p0).length cp0_0)), (1, (.slice Ap1_0 (p1).length cp1_0)), (5, (iv x131)), (6, (.pointer (some ⟨b137, 0, none⟩))), (7, (.pointer (some ⟨b138, 0, none⟩))), (45, (.bool (((x133.Kind != x135.Kind) || (!sEq x133.Name x135.Name)) || (!(eqTPoint x133.At x135.At)))))]) (LE [(5, bx b137 #[(iv x133.Kind), (sv x133.Name), (iv x133.At.X), (iv x133.At.Y), (.slice Au134_0 (x133.Points).length cu134_0), (iv x133.NX), (iv x133.NY), (.slice Au134_1 (x133.Steps).length cu134_1)] 53), (6, bx b138 #[(iv x135.Kind), (sv x135.Name), (iv x135.At.X), (iv x135.At.Y), (.slice Au136_0 (x135.Points).length cu136_0), (iv x135.NX), (iv x135.NY), (.slice Au136_1 (x135.Steps).length cu136_1)] 53)]) _
     refine Tr.mv rfl rfl ?_
     refine Tr.mid0 6 [(0, (.slice Ap0_0 (p0).length cp0_0)), (1, (.slice Ap1_0 (p1).length cp1_0)), (5, (iv x131)), (6, (.pointer (some ⟨b137, 0, none⟩))), (7, (.pointer (some ⟨b138, 0, none⟩))), (52, (.bool ((((x133.Kind != x135.Kind) || (!sEq x133.Name x135.Name)) || (!(eqTPoint x133.At x135.At))) || (x133.NX != x135.NX))))] [(5, bx b137 #[(iv x133.Kind), (sv x133.Name), (iv x133.At.X), (iv x133.At.Y), (.slice Au134_0 (x133.Points).length cu134_0), (iv x133.NX), (iv x133.NY), (.slice Au134_1 (x133.Steps).length cu134_1)] 53), (6, bx b138 #[(iv x135.Kind), (sv x135.Name), (iv x135.At.X), (iv x135.At.Y), (.slice Au136_0 (x135.Points).length cu136_0), (iv x135.NX), (iv x135.NY), (.slice Au136_1 (x135.Steps).length cu136_1)] 53)] ?_ ?_
     ·cases hg144 : (((x133.Kind != x135.Kind) || (!sEq x133.Name x135.Name)) || (!(eqTPoint x133.At x135.At)))
      ·refine Tr.w1 (wg rfl rfl rfl) rfl (run_fieldAddr fo_53_4) rfl ?_
       refine Tr.val (wg rfl rfl rfl) rfl (fun _ _ h1 h2 => run_load1 ag_3 (h1.ev rfl) (rdb h2 (vs := [(iv x133.Kind), (sv x133.Name), (iv x133.At.X), (iv x133.At.Y), (.slice Au134_0 (x133.Points).length cu134_0), (iv x133.NX), (iv x133.NY), (.slice Au134_1 (x133.Steps).length cu134_1)]) (k := 5) rfl 5) rfl) ?_
       refine Tr.w1 (wg rfl rfl rfl) rfl (run_fieldAddr fo_53_4) rfl ?_
       refine Tr.val (wg rfl rfl rfl) rfl (fun _ _ h1 h2 => run_load1 ag_3 (h1.ev rfl) (rdb h2 (vs := [(iv x135.Kind), (sv x135.Name), (iv x135.At.X), (iv x135.At.Y), (.slice Au136_0 (x135.Points).length cu136_0), (iv x135.NX), (iv x135.NY), (.slice Au136_1 (x135.Steps).length cu136_1)]) (k := 6) rfl 5) rfl) ?_
       refine Tr.w2 (wg rfl rfl rfl) rfl run_neq rfl rfl ?_
       refine Tr.v2 rfl run_pickF rfl rfl ?_
       exact Tr.nil (Tr.fin0 (.r rfl) (.r rfl))
      ·refine Tr.ps ?_
       refine Tr.ps ?_
       refine Tr.ps ?_
       refine Tr.ps ?_
       refine Tr.ps ?_
       refine Tr.v2 rfl run_pickT rfl rfl ?_
       exact Tr.nil (Tr.fin0 (.r rfl) (.r rfl))
     ·show Tr _ _ (LF [(0, (.slice Ap0_0 (p0).length cp0_0)), (1, (.slice Ap1_0 (p1).length cp1_0)), (5, (iv x131)), (6, (.pointer (some ⟨b137, 0, none⟩))), (7, (.pointer (some ⟨b138, 0, none⟩))), (52, (.bool ((((x133.Kind != x135.Kind) || (!sEq x133.Name x135.Name)) || (!(eqTPoint x133.At x135.At))) || (x133.NX != x135.NX))))]) (LE [(5, bx b137 #[(iv x133.Kind), (sv x133.Name), (iv x133.At.X), (iv x133.At.Y), (.slice Au134_0 (x133.Points).length cu134_0), (iv x133.NX), (iv x133.NY), (.slice Au134_1 (x133.Steps).length cu134_1)] 53), (6, bx b138 #[(iv x135.Kind), (sv x135.Name), (iv x135.At.X), (iv x135.At.Y), (.slice Au136_0 (x135.Points).length cu136_0), (iv x135.NX), (iv x135.NY), (.slice Au136_1 (x135.Steps).length cu136_1)] 53)]) _
      refine Tr.mv rfl rfl ?_
      refine Tr.mid0 6 [(0, (.slice Ap0_0 (p0).length cp0_0)), (1, (.slice Ap1_0 (p1).length cp1_0)), (5, (iv x131)), (6, (.pointer (some ⟨b137, 0, none⟩))), (7, (.pointer (some ⟨b138, 0, none⟩))), (59, (.bool (((((x133.Kind != x135.Kind) || (!sEq x133.Name x135.Name)) || (!(eqTPoint x133.At x135.At))) || (x133.NX != x135.NX)) || (x133.NY != x135.NY))))] [(5, bx b137 #[(iv x133.Kind), (sv x133.Name), (iv x133.At.X), (iv x133.At.Y), (.slice Au134_0 (x133.Points).length cu134_0), (iv x133.NX), (iv x133.NY), (.slice Au134_1 (x133.Steps).length cu134_1)] 53), (6, bx b138 #[(iv x135.Kind), (sv x135.Name), (iv x135.At.X), (iv x135.At.Y), (.slice Au136_0 (x135.Points).length cu136_0), (iv x135.NX), (iv x135.NY), (.slice Au136_1 (x135.Steps).length cu136_1)] 53)] ?_ ?_
      ·cases hg144 : ((((x133.Kind != x135.Kind) || (!sEq x133.Name x135.Name)) || (!(eqTPoint x133.At x135.At))) || (x133.NX != x135.NX))
       ·refine Tr.w1 (wg rfl rfl rfl) rfl (run_fieldAddr fo_53_5) rfl ?_
        refine Tr.val (wg rfl rfl rfl) rfl (fun _ _ h1 h2 => run_load1 ag_3 (h1.ev rfl) (rdb h2 (vs := [(iv x133.Kind), (sv x133.Name), (iv x133.At.X), (iv x133.At.Y), (.slice Au134_0 (x133.Points).length cu134_0), (iv x133.NX), (iv x133.NY), (.slice Au134_1 (x133.Steps).length cu134_1)]) (k := 5) rfl 6) rfl) ?_
        refine Tr.w1 (wg rfl rfl rfl) rfl (run_fieldAddr fo_53_5) rfl ?_
        refine Tr.val (wg rfl rfl rfl) rfl (fun _ _ h1 h2 => run_load1 ag_3 (h1.ev rfl) (rdb h2 (vs := [(iv x135.Kind), (sv x135.Name), (iv x135.At.X), (iv x135.At.Y), (.slice Au136_0 (x135.Points).length cu136_0), (iv x135.NX), (iv x135.NY), (.slice Au136_1 (x135.Steps).length cu136_1)]) (k := 6) rfl 6) rfl) ?_
        refine Tr.w2 (wg rfl rfl rfl) rfl run_neq rfl rfl ?_
        refine Tr.v2 rfl run_pickF rfl rfl ?_
        exact Tr.nil (Tr.fin0 (.r rfl) (.r rfl))
       ·refine Tr.ps ?_
        refine Tr.ps ?_
        refine Tr.ps ?_
        refine Tr.ps ?_
        refine Tr.ps ?_
        refine Tr.v2 rfl run_pickT rfl rfl ?_
        exact Tr.nil (Tr.fin0 (.r rfl) (.r rfl))
      ·show Tr _ _ (LF [(0, (.slice Ap0_0 (p0).length cp0_0)), (1, (.slice Ap1_0 (p1).length cp1_0)), (5, (iv x131)), (6, (.pointer (some ⟨b137, 0, none⟩))), (7, (.pointer (some ⟨b138, 0, none⟩))), (59, (.bool (((((x133.Kind != x135.Kind) || (!sEq x133.Name x135.Name)) || (!(eqTPoint x133.At x135.At))) || (x133.NX != x135.NX)) || (x133.NY != x135.NY))))]) (LE [(5, bx b137 #[(iv x133.Kind), (sv x133.Name), (iv x133.At.X), (iv x133.At.Y), (.slice Au134_0 (x133.Points).length cu134_0), (iv x133.NX), (iv x133.NY), (.slice Au134_1 (x133.Steps).length cu134_1)] 53), (6, bx b138 #[(iv x135.Kind), (sv x135.Name), (iv x135.At.X), (iv x135.At.Y), (.slice Au136_0 (x135.Points).length cu136_0), (iv x135.NX), (iv x135.NY), (.slice Au136_1 (x135.Steps).length cu136_1)] 53)]) _
       refine Tr.mv rfl rfl ?_
       obtain ⟨g140, hg140, H⟩ := bnd H
       refine Tr.mid0 7 [(0, (.slice Ap0_0 (p0).length cp0_0)), (1, (.slice Ap1_0 (p1).length cp1_0)), (5, (iv x131)), (6, (.pointer (some ⟨b137, 0, none⟩))), (7, (.pointer (some ⟨b138, 0, none⟩))), (67, (.bool g140))] [(5, bx b137 #[(iv x133.Kind), (sv x133.Name), (iv x133.At.X), (iv x133.At.Y), (.slice Au134_0 (x133.Points).length cu134_0), (iv x133.NX), (iv x133.NY), (.slice Au134_1 (x133.Steps).length cu134_1)] 53), (6, bx b138 #[(iv x135.Kind), (sv x135.Name), (iv x135.At.X), (iv x135.At.Y), (.slice Au136_0 (x135.Points).length cu136_0), (iv x135.NX), (iv x135.NY), (.slice Au136_1 (x135.Steps).length cu136_1)] 53)] ?_ ?_
       ·cases hg144 : (((((x133.Kind != x135.Kind) || (!sEq x133.Name x135.Name)) || (!(eqTPoint x133.At x135.At))) || (x133.NX != x135.NX)) || (x133.NY != x135.NY))
        ·rw [hg144] at hg140
         rw [if_neg (by decide)] at hg140
         have H := hg140
         refine Tr.w1 (wg rfl rfl rfl) rfl (run_fieldAddr fo_53_3) rfl ?_
         refine Tr.val (wg rfl rfl rfl) rfl (fun _ _ h1 h2 => run_load1 ag_43 (h1.ev rfl) (rdb h2 (vs := [(iv x133.Kind), (sv x133.Name), (iv x133.At.X), (iv x133.At.Y), (.slice Au134_0 (x133.Points).length cu134_0), (iv x133.NX), (iv x133.NY), (.slice Au134_1 (x133.Steps).length cu134_1)]) (k := 5) rfl 4) rfl) ?_
         refine Tr.w1 (wg rfl rfl rfl) rfl (run_fieldAddr fo_53_3) rfl ?_
         refine Tr.val (wg rfl rfl rfl) rfl (fun _ _ h1 h2 => run_load1 ag_43 (h1.ev rfl) (rdb h2 (vs := [(iv x135.Kind), (sv x135.Name), (iv x135.At.X), (iv x135.At.Y), (.slice Au136_0 (x135.Points).length cu136_0), (iv x135.NX), (iv x135.NY), (.slice Au136_1 (x135.Steps).length cu136_1)]) (k := 6) rfl 4) rfl) ?_
         obtain ⟨y141, hy141, H⟩ := bnd H
         refine Tr.call0 (r := (.bool y141)) (wg rfl rfl rfl) rfl Tryz.call39 (evl_cons rfl (evl_cons rfl evl_nil)) (fun W hW => F_etchhouseref3_samePoints_ok N x133.Points Au134_0 cu134_0 (hoku134_0.ext hW.extAll) x135.Points Au136_0 cu136_0 (hoku136_0.ext hW.extAll) y141 hy141 (HF.start _)) ?_
         refine Tr.w1 (wg rfl rfl rfl) rfl run_not rfl ?_
         refine Tr.v2 rfl run_pickF rfl rfl ?_
         obtain rfl := Option.some.inj H
         exact Tr.nil (Tr.fin0 (.r rfl) (.r rfl))
        ·rw [hg144] at hg140
         rw [if_pos rfl] at hg140
         have H := hg140
         obtain rfl := Option.some.inj H
         refine Tr.ps ?_
         refine Tr.ps ?_
         refine Tr.ps ?_
         refine Tr.ps ?_
         refine Tr.ps ?_
         refine Tr.ps ?_
         refine Tr.v2 rfl run_pickT rfl rfl ?_
         exact Tr.nil (Tr.fin0 (.r rfl) (.r rfl))
       ·show Tr _ _ (LF [(0, (.slice Ap0_0 (p0).length cp0_0)), (1, (.slice Ap1_0 (p1).length cp1_0)), (5, (iv x131)), (6, (.pointer (some ⟨b137, 0, none⟩))), (7, (.pointer (some ⟨b138, 0, none⟩))), (67, (.bool g140))]) (LE [(5, bx b137 #[(iv x133.Kind), (sv x133.Name), (iv x133.At.X), (iv x133.At.Y), (.slice Au134_0 (x133.Points).length cu134_0), (iv x133.NX), (iv x133.NY), (.slice Au134_1 (x133.Steps).length cu134_1)] 53), (6, bx b138 #[(iv x135.Kind), (sv x135.Name), (iv x135.At.X), (iv x135.At.Y), (.slice Au136_0 (x135.Points).length cu136_0), (iv x135.NX), (iv x135.NY), (.slice Au136_1 (x135.Steps).length cu136_1)] 53)]) _
        refine Tr.mv rfl rfl ?_
        obtain ⟨g143, hg143, H⟩ := bnd H
        refine Tr.mid0 7 [(0, (.slice Ap0_0 (p0).length cp0_0)), (1, (.slice Ap1_0 (p1).length cp1_0)), (5, (iv x131)), (75, (.bool g143))] [(5, bx b137 #[(iv x133.Kind), (sv x133.Name), (iv x133.At.X), (iv x133.At.Y), (.slice Au134_0 (x133.Points).length cu134_0), (iv x133.NX), (iv x133.NY), (.slice Au134_1 (x133.Steps).length cu134_1)] 53), (6, bx b138 #[(iv x135.Kind), (sv x135.Name), (iv x135.At.X), (iv x135.At.Y), (.slice Au136_0 (x135.Points).length cu136_0), (iv x135.NX), (iv x135.NY), (.slice Au136_1 (x135.Steps).length cu136_1)] 53)] ?_ ?_
        ·cases hg144 : g140
         ·rw [hg144] at hg143
          rw [if_neg (by decide)] at hg143
          have H := hg143
          refine Tr.w1 (wg rfl rfl rfl) rfl (run_fieldAddr fo_53_6) rfl ?_
          refine Tr.val (wg rfl rfl rfl) rfl (fun _ _ h1 h2 => run_load1 ag_24 (h1.ev rfl) (rdb h2 (vs := [(iv x133.Kind), (sv x133.Name), (iv x133.At.X), (iv x133.At.Y), (.slice Au134_0 (x133.Points).length cu134_0), (iv x133.NX), (iv x133.NY), (.slice Au134_1 (x133.Steps).length cu134_1)]) (k := 5) rfl 7) rfl) ?_
          refine Tr.w1 (wg rfl rfl rfl) rfl (run_fieldAddr fo_53_6) rfl ?_
          refine Tr.val (wg rfl rfl rfl) rfl (fun _ _ h1 h2 => run_load1 ag_24 (h1.ev rfl) (rdb h2 (vs := [(iv x135.Kind), (sv x135.Name), (iv x135.At.X), (iv x135.At.Y), (.slice Au136_0 (x135.Points).length cu136_0), (iv x135.NX), (iv x135.NY), (.slice Au136_1 (x135.Steps).length cu136_1)]) (k := 6) rfl 7) rfl) ?_
          obtain ⟨y144, hy144, H⟩ := bnd H
          refine Tr.call0 (r := (.bool y144)) (wg rfl rfl rfl) rfl Tryz.call21 (evl_cons rfl (evl_cons rfl evl_nil)) (fun W hW => hrec x133.Steps Au134_1 cu134_1 (hoku134_1.ext hW.extAll) x135.Steps Au136_1 cu136_1 (hoku136_1.ext hW.extAll) y144 hy144 (HF.start _)) ?_
          refine Tr.w1 (wg rfl rfl rfl) rfl run_not rfl ?_
          refine Tr.v2 rfl run_pickF rfl rfl ?_
          obtain rfl := Option.some.inj H
          exact Tr.nil (Tr.fin0 (.r rfl) (.r rfl))
         ·rw [hg144] at hg143
          rw [if_pos rfl] at hg143
          have H := hg143
          obtain rfl := Option.some.inj H
          refine Tr.ps ?_
          refine Tr.ps ?_
          refine Tr.ps ?_
          refine Tr.ps ?_
          refine Tr.ps ?_
          refine Tr.ps ?_
          refine Tr.v2 rfl run_pickT rfl rfl ?_
          exact Tr.nil (Tr.fin0 (.r rfl) (.r rfl))
        ·show Tr _ _ (LF [(0, (.slice Ap0_0 (p0).length cp0_0)), (1, (.slice Ap1_0 (p1).length cp1_0)), (5, (iv x131)), (75, (.bool g143))]) (LE [(5, bx b137 #[(iv x133.Kind), (sv x133.Name), (iv x133.At.X), (iv x133.At.Y), (.slice Au134_0 (x133.Points).length cu134_0), (iv x133.NX), (iv x133.NY), (.slice Au134_1 (x133.Steps).length cu134_1)] 53), (6, bx b138 #[(iv x135.Kind), (sv x135.Name), (iv x135.At.X), (iv x135.At.Y), (.slice Au136_0 (x135.Points).length cu136_0), (iv x135.NX), (iv x135.NY), (.slice Au136_1 (x135.Steps).length cu136_1)] 53)]) _
         refine Tr.nil (Tr.normThen ?_)
         refine Tr.cond rfl H (fun H => ?_) (fun H => ?_)
         ·refine Tr.sr ?_
          refine Tr.asg rfl rfl ?_
          refine Tr.nil (Tr.normThen ?_)
          refine Tr.ret (Tr.retBlock (Tr.retThen (Tr.retThen (Tr.retBlock (Tr.retThen ?_)))))
          obtain rfl := Option.some.inj H
          exact Tr.out (m := [(.bool false)]) [] (res_tmp rfl res_nil) (fun W hW => ⟨rfl, hW.low leB⟩)
         ·refine Tr.skip (Tr.normBlock (Tr.normThen ?_))
          refine Tr.region ?_
          refine Tr.mv rfl rfl ?_
          refine Tr.v2 rfl run_add rfl rfl ?_
          refine Tr.asg rfl rfl ?_
          refine Tr.nil ?_
          exact Tr.backThen leL1 (w64 (x131 + 1)) H (.r rfl) .nil
  ·refine Tr.exit (Tr.exitThen (Tr.exitThen (Tr.exitBlock (Tr.normThen ?_))))
   refine Tr.sr ?_
   refine Tr.asg rfl rfl ?_
   refine Tr.nil (Tr.normThen ?_)
   refine Tr.ret ?_
   obtain rfl := Option.some.inj H
   exact Tr.out (m := [(.bool true)]) [] (res_tmp rfl res_nil) (fun W hW => ⟨rfl, hW.low leB⟩)
theorem F_etchhouseref3_sameSteps_ok : ∀ (N : Nat) {w : Bs} (p0 : (List TPlotStep)) (Ap0_0 : Option Addr) (cp0_0 : Nat) (hp0_0 : Sl w.R w.W fl_TPlotStep Ap0_0 cp0_0 p0) (p1 : (List TPlotStep)) (Ap1_0 : Option Addr) (cp1_0 : Nat) (hp1_0 : Sl w.R w.W fl_TPlotStep Ap1_0 cp1_0 p1) (r : Bool) (H : F_etchhouseref3_sameSteps N p0 p1 = some r) (hE : HF w w.W E0), Calls Tryz.prog 21 [(.slice Ap0_0 (p0).length cp0_0), (.slice Ap1_0 (p1).length cp1_0)].toArray w.W fun e W' => e = .returned (.bool r) ∧ HF w W' E0
 | 0 => by intros; rename_i H _; cases H
 | N + 1 => F_etchhouseref3_sameSteps_b_ok N (F_etchhouseref3_sameSteps N) (F_etchhouseref3_sameSteps_ok N)

theorem F_etchhouseref3_SamePlot_ok (N : Nat) {w : Bs} (p0 : TPlot) (Ap0_0 : Option Addr) (cp0_0 : Nat) (hp0_0 : Sl w.R w.W fl_TPlotTool Ap0_0 cp0_0 p0.Tools) (Ap0_1 : Option Addr) (cp0_1 : Nat) (hp0_1 : Sl w.R w.W fl_TPlotStep Ap0_1 cp0_1 p0.Steps) (p1 : TPlot) (Ap1_0 : Option Addr) (cp1_0 : Nat) (hp1_0 : Sl w.R w.W fl_TPlotTool Ap1_0 cp1_0 p1.Tools) (Ap1_1 : Option Addr) (cp1_1 : Nat) (hp1_1 : Sl w.R w.W fl_TPlotStep Ap1_1 cp1_1 p1.Steps) (r : Bool) (H : F_etchhouseref3_SamePlot N p0 p1 = some r) (hE : HF w w.W E0) : Calls Tryz.prog 7 [(.agg #[(iv p0.Unit), (.slice Ap0_0 (p0.Tools).length cp0_0), (.slice Ap0_1 (p0.Steps).length cp0_1)]), (.agg #[(iv p1.Unit), (.slice Ap1_0 (p1.Tools).length cp1_0), (.slice Ap1_1 (p1.Steps).length cp1_1)])].toArray w.W fun e W' => e = .returned (.bool r) ∧ HF w W' E0 := by
 unfold F_etchhouseref3_SamePlot at H
 have leB := Bs.Le.refl w
 refine Tr.enter (n := 64) Tryz.func7 rfl rfl rfl hE ?_
 refine Tr.sr ?_
 refine Tr.box 1 (cs := [(iv p0.Unit), (.slice Ap0_0 (p0.Tools).length cp0_0), (.slice Ap0_1 (p0.Steps).length cp0_1)]) (wn rfl) rfl rfl rfl fun b100 => ?_
 refine Tr.box 2 (cs := [(iv p1.Unit), (.slice Ap1_0 (p1.Tools).length cp1_0), (.slice Ap1_1 (p1.Steps).length cp1_1)]) (wn rfl) rfl rfl rfl fun b101 => ?_
 refine Tr.asg rfl rfl ?_
 refine Tr.nil (Tr.normThen ?_)
 refine Tr.seq ?_
 refine Tr.sr ?_
 refine Tr.v1 rfl (run_fieldAddr fo_26_0) rfl ?_
 refine Tr.va rfl (fun _ _ h1 h2 => run_load1 ag_3 (h1.ev rfl) (rdb h2 (vs := [(iv p0.Unit), (.slice Ap0_0 (p0.Tools).length cp0_0), (.slice Ap0_1 (p0.Steps).length cp0_1)]) (k := 1) rfl 0) rfl) ?_
 refine Tr.v1 rfl (run_fieldAddr fo_26_0) rfl ?_
 refine Tr.va rfl (fun _ _ h1 h2 => run_load1 ag_3 (h1.ev rfl) (rdb h2 (vs := [(iv p1.Unit), (.slice Ap1_0 (p1.Tools).length cp1_0), (.slice Ap1_1 (p1.Steps).length cp1_1)]) (k := 2) rfl 0) rfl) ?_
 refine Tr.v2 rfl run_neq rfl rfl ?_
 refine Tr.mv rfl rfl ?_
 refine Tr.mid0 8 [(2, (.pointer (some ⟨b100, 0, none⟩))), (3, (.pointer (some ⟨b101, 0, none⟩))), (19, (.bool ((p0.Unit != p1.Unit) || ((p0.Tools.length : Int) != (p1.Tools.length : Int)))))] [(1, bx b100 #[(iv p0.Unit), (.slice Ap0_0 (p0.Tools).length cp0_0), (.slice Ap0_1 (p0.Steps).length cp0_1)] 26), (2, bx b101 #[(iv p1.Unit), (.slice Ap1_0 (p1.Tools).length cp1_0), (.slice Ap1_1 (p1.Steps).length cp1_1)] 26)] ?_ ?_
 ·cases hg104 : (p0.Unit != p1.Unit)
  ·refine Tr.w1 (wg rfl rfl rfl) rfl (run_fieldAddr fo_26_1) rfl ?_
   refine Tr.val (wg rfl rfl rfl) rfl (fun _ _ h1 h2 => run_load1 ag_23 (h1.ev rfl) (rdb h2 (vs := [(iv p0.Unit), (.slice Ap0_0 (p0.Tools).length cp0_0), (.slice Ap0_1 (p0.Steps).length cp0_1)]) (k := 1) rfl 1) rfl) ?_
   refine Tr.w1 (wg rfl rfl rfl) rfl (run_len un_23) rfl ?_
   refine Tr.w1 (wg rfl rfl rfl) rfl (run_fieldAddr fo_26_1) rfl ?_
   refine Tr.val (wg rfl rfl rfl) rfl (fun _ _ h1 h2 => run_load1 ag_23 (h1.ev rfl) (rdb h2 (vs := [(iv p1.Unit), (.slice Ap1_0 (p1.Tools).length cp1_0), (.slice Ap1_1 (p1.Steps).length cp1_1)]) (k := 2) rfl 1) rfl) ?_
   refine Tr.w1 (wg rfl rfl rfl) rfl (run_len un_23) rfl ?_
   refine Tr.w2 (wg rfl rfl rfl) rfl run_neq rfl rfl ?_
   refine Tr.v2 rfl run_pickF rfl rfl ?_
   exact Tr.nil (Tr.fin0 (.r rfl) (.r rfl))
  ·refine Tr.ps ?_
   refine Tr.ps ?_
   refine Tr.ps ?_
   refine Tr.ps ?_
   refine Tr.ps ?_
   refine Tr.ps ?_
   refine Tr.ps ?_
   refine Tr.v2 rfl run_pickT rfl rfl ?_
   exact Tr.nil (Tr.fin0 (.r rfl) (.r rfl))
 ·show Tr _ _ (LF [(2, (.pointer (some ⟨b100, 0, none⟩))), (3, (.pointer (some ⟨b101, 0, none⟩))), (19, (.bool ((p0.Unit != p1.Unit) || ((p0.Tools.length : Int) != (p1.Tools.length : Int)))))]) (LE [(1, bx b100 #[(iv p0.Unit), (.slice Ap0_0 (p0.Tools).length cp0_0), (.slice Ap0_1 (p0.Steps).length cp0_1)] 26), (2, bx b101 #[(iv p1.Unit), (.slice Ap1_0 (p1.Tools).length cp1_0), (.slice Ap1_1 (p1.Steps).length cp1_1)] 26)]) _
  refine Tr.mv rfl rfl ?_
  obtain ⟨g103, hg103, H⟩ := bnd H
  refine Tr.mid0 7 [(2, (.pointer (some ⟨b100, 0, none⟩))), (3, (.pointer (some ⟨b101, 0, none⟩))), (27, (.bool g103))] [(1, bx b100 #[(iv p0.Unit), (.slice Ap0_0 (p0.Tools).length cp0_0), (.slice Ap0_1 (p0.Steps).length cp0_1)] 26), (2, bx b101 #[(iv p1.Unit), (.slice Ap1_0 (p1.Tools).length cp1_0), (.slice Ap1_1 (p1.Steps).length cp1_1)] 26)] ?_ ?_
  ·cases hg104 : ((p0.Unit != p1.Unit) || ((p0.Tools.length : Int) != (p1.Tools.length : Int)))
   ·rw [hg104] at hg103
    rw [if_neg (by decide)] at hg103
    have H := hg103
    refine Tr.w1 (wg rfl rfl rfl) rfl (run_fieldAddr fo_26_2) rfl ?_
    refine Tr.val (wg rfl rfl rfl) rfl (fun _ _ h1 h2 => run_load1 ag_24 (h1.ev rfl) (rdb h2 (vs := [(iv p0.Unit), (.slice Ap0_0 (p0.Tools).length cp0_0), (.slice Ap0_1 (p0.Steps).length cp0_1)]) (k := 1) rfl 2) rfl) ?_
    refine Tr.w1 (wg rfl rfl rfl) rfl (run_fieldAddr fo_26_2) rfl ?_
    refine Tr.val (wg rfl rfl rfl) rfl (fun _ _ h1 h2 => run_load1 ag_24 (h1.ev rfl) (rdb h2 (vs := [(iv p1.Unit), (.slice Ap1_0 (p1.Tools).length cp1_0), (.slice Ap1_1 (p1.Steps).length cp1_1)]) (k := 2) rfl 2) rfl) ?_
    obtain ⟨y104, hy104, H⟩ := bnd H
    refine Tr.call0 (r := (.bool y104)) (wg rfl rfl rfl) rfl Tryz.call21 (evl_cons rfl (evl_cons rfl evl_nil)) (fun W hW => F_etchhouseref3_sameSteps_ok N p0.Steps Ap0_1 cp0_1 (hp0_1.ext hW.extAll) p1.Steps Ap1_1 cp1_1 (hp1_1.ext hW.extAll) y104 hy104 (HF.start _)) ?_
    refine Tr.w1 (wg rfl rfl rfl) rfl run_not rfl ?_
    refine Tr.v2 rfl run_pickF rfl rfl ?_
    obtain rfl := Option.some.inj H
    exact Tr.nil (Tr.fin0 (.r rfl) (.r rfl))
   ·rw [hg104] at hg103
    rw [if_pos rfl] at hg103
    have H := hg103
    obtain rfl := Option.some.inj H
    refine Tr.ps ?_
    refine Tr.ps ?_
    refine Tr.ps ?_
    refine Tr.ps ?_
    refine Tr.ps ?_
    refine Tr.ps ?_
    refine Tr.v2 rfl run_pickT rfl rfl ?_
    exact Tr.nil (Tr.fin0 (.r rfl) (.r rfl))
  ·show Tr _ _ (LF [(2, (.pointer (some ⟨b100, 0, none⟩))), (3, (.pointer (some ⟨b101, 0, none⟩))), (27, (.bool g103))]) (LE [(1, bx b100 #[(iv p0.Unit), (.slice Ap0_0 (p0.Tools).length cp0_0), (.slice Ap0_1 (p0.Steps).length cp0_1)] 26), (2, bx b101 #[(iv p1.Unit), (.slice Ap1_0 (p1.Tools).length cp1_0), (.slice Ap1_1 (p1.Steps).length cp1_1)] 26)]) _
   refine Tr.nil (Tr.normThen ?_)
   refine Tr.cond rfl H (fun H => ?_) (fun H => ?_)
   ·refine Tr.sr ?_
    refine Tr.asg rfl rfl ?_
    refine Tr.nil (Tr.normThen ?_)
    refine Tr.ret (Tr.retThen ?_)
    obtain rfl := Option.some.inj H
    exact Tr.out (m := [(.bool false)]) [] (res_tmp rfl res_nil) (fun W hW => ⟨rfl, hW.low leB⟩)
   ·refine Tr.skip (Tr.normThen ?_)
    refine Tr.seq ?_
    refine Tr.sr ?_
    refine Tr.asg rfl rfl ?_
    refine Tr.nil (Tr.normThen ?_)
    refine Tr.block ?_
    refine Tr.loop (σ := Unit) (fun m w _ => F_etchhouseref3_SamePlot_L1 p0 m = some r) (fun _ => [(2, (.pointer (some ⟨b100, 0, none⟩))), (3, (.pointer (some ⟨b101, 0, none⟩))), (5, (iv 0))]) (fun _ => [(1, bx b100 #[(iv p0.Unit), (.slice Ap0_0 (p0.Tools).length cp0_0), (.slice Ap0_1 (p0.Steps).length cp0_1)] 26), (2, bx b101 #[(iv p1.Unit), (.slice Ap1_0 (p1.Tools).length cp1_0), (.slice Ap1_1 (p1.Steps).length cp1_1)] 26)]) N () H (.r rfl) (.r rfl) (fun _ _ h => noSome (h)) ?_
    intro w leL1 mL1 _ hs
    have H := hs
    replace H : F_etchhouseref3_SamePlot_L1 p0 (mL1 + 1) = some r := H
    replace hp0_0 := hp0_0.leR leL1
    replace hp0_1 := hp0_1.leR leL1
    replace hp1_0 := hp1_0.leR leL1
    replace hp1_1 := hp1_1.leR leL1
    replace leB := leB.trans leL1
    rw [F_etchhouseref3_SamePlot_L1.eq_2] at H
    show Tr _ _ (LF [(2, (.pointer (some ⟨b100, 0, none⟩))), (3, (.pointer (some ⟨b101, 0, none⟩))), (5, (iv 0))]) (LE [(1, bx b100 #[(iv p0.Unit), (.slice Ap0_0 (p0.Tools).length cp0_0), (.slice Ap0_1 (p0.Steps).length cp0_1)] 26), (2, bx b101 #[(iv p1.Unit), (.slice Ap1_0 (p1.Tools).length cp1_0), (.slice Ap1_1 (p1.Steps).length cp1_1)] 26)]) _
    refine Tr.seq ?_
    refine Tr.sr ?_
    refine Tr.mv rfl rfl ?_
    refine Tr.v1 rfl (run_fieldAddr fo_26_1) rfl ?_
    refine Tr.va rfl (fun _ _ h1 h2 => run_load1 ag_23 (h1.ev rfl) (rdb h2 (vs := [(iv p0.Unit), (.slice Ap0_0 (p0.Tools).length cp0_0), (.slice Ap0_1 (p0.Steps).length cp0_1)]) (k := 1) rfl 1) rfl) ?_
    refine Tr.v1 rfl (run_len un_23) rfl ?_
    refine Tr.v2 rfl run_lss rfl rfl ?_
    refine Tr.nil (Tr.normThen ?_)
    refine Tr.cond rfl H (fun H => ?_) (fun H => ?_)
    ·refine Tr.skip (Tr.normThen ?_)
     refine Tr.seq ?_
     refine Tr.block ?_
     refine Tr.seq ?_
     cases H
    ·refine Tr.exit (Tr.exitThen (Tr.exitThen (Tr.exitBlock (Tr.normThen ?_))))
     refine Tr.sr ?_
     refine Tr.asg rfl rfl ?_
     refine Tr.nil (Tr.normThen ?_)
     refine Tr.ret ?_
     obtain rfl := Option.some.inj H
     exact Tr.out (m := [(.bool true)]) [] (res_tmp rfl res_nil) (fun W hW => ⟨rfl, hW.low leB⟩)

theorem F_etchhouselaw3_PlotsOfDrawIt_ok (N : Nat) {w : Bs} (p0 : (List TRect)) (Ap0_0 : Option Addr) (cp0_0 : Nat) (hp0_0 : Sl w.R w.W fl_TRect Ap0_0 cp0_0 p0) (r : Bool) (H : F_etchhouselaw3_PlotsOfDrawIt N p0 = some r) (hE : HF w w.W E0) : Calls Tryz.prog 4 [(.slice Ap0_0 (p0).length cp0_0)].toArray w.W fun e W' => e = .returned (.bool r) ∧ HF w W' E0 := by
 unfold F_etchhouselaw3_PlotsOfDrawIt at H
 have leB := Bs.Le.refl w
 refine Tr.enter (n := 54) Tryz.func4 rfl rfl rfl hE ?_
 refine Tr.sr ?_
 refine Tr.asg rfl rfl ?_
 refine Tr.nil (Tr.normThen ?_)
 refine Tr.sr ?_
 refine Tr.mv rfl rfl ?_
 obtain ⟨y100, hy100, H⟩ := bnd H
 refine Tr.callG [1, 2] [emp, emp] (U := (Option Addr × Nat) × (Option Addr × Nat)) (fun u => (.tuple #[(.agg #[(iv y100.1.Unit), (.slice u.1.1 (y100.1.Tools).length u.1.2), (.slice u.2.1 (y100.1.Steps).length u.2.2)]), (iv y100.2)])) (fun O W u => SlF u.1.1 (y100.1.Tools).length u.1.2 ∧ SlF u.2.1 (y100.1.Steps).length u.2.2) (fun u => [ow u.1.1 u.1.2 58 fl_TPlotTool y100.1.Tools, ow u.2.1 u.2.2 53 fl_TPlotStep y100.1.Steps]) rfl (pk_cons rfl (pk_cons rfl pk_nil)) (fun _ => rfl) (wn rfl) rfl Tryz.call5 (evl_cons rfl evl_nil) (fun W hW hp hE => F_plot_Of_ok N p0 Ap0_0 cp0_0 (hp0_0.ext (hW.extS hp)) y100 hy100 hE) ?_
 intro w u le101 hu
 obtain ⟨⟨Ay100_0, cy100_0⟩, ⟨Ay100_1, cy100_1⟩⟩ := u
 obtain ⟨gy100_0, gy100_1⟩ := hu
 replace hp0_0 := hp0_0.leR le101
 replace leB := leB.trans le101
 have hgy100_0 : SlF Ay100_0 (y100.1.Tools).length cy100_0 := gy100_0 --@phi
 have hgy100_1 : SlF Ay100_1 (y100.1.Steps).length cy100_1 := gy100_1 --@phi
 show Tr _ _ (uf _ 10 (.tuple #[(.agg #[(iv y100.1.Unit), (.slice Ay100_0 (y100.1.Tools).length cy100_0), (.slice Ay100_1 (y100.1.Steps).length cy100_1)]), (iv y100.2)])) (up (up _ 2 (ow Ay100_1 cy100_1 53 fl_TPlotStep y100.1.Steps)) 1 (ow Ay100_0 cy100_0 58 fl_TPlotTool y100.1.Tools)) _
 refine Tr.mv rfl rfl ?_
 refine Tr.va rfl (fun _ _ h1 h2 => run_extract (h1.ev rfl) rfl) ?_
 refine Tr.va rfl (fun _ _ h1 h2 => run_extract (h1.ev rfl) rfl) ?_
 refine Tr.alloc 3 (wn rfl) rfl ze_26 fun b102 => ?_
 refine Tr.store 3 (cs := [(iv y100.1.Unit), (.slice Ay100_0 (y100.1.Tools).length cy100_0), (.slice Ay100_1 (y100.1.Steps).length cy100_1)]) [(iv y100.1.Unit), (.slice Ay100_0 (y100.1.Tools).length cy100_0), (.slice Ay100_1 (y100.1.Steps).length cy100_1)] (wn rfl) rfl rfl rfl rfl sz_26 rfl rfl rfl ?_
 refine Tr.asg rfl rfl ?_
 refine Tr.nil (Tr.normThen ?_)
 refine Tr.seq ?_
 refine Tr.sr ?_
 refine Tr.mv rfl rfl ?_
 refine Tr.v2 rfl run_neq rfl rfl ?_
 refine Tr.nil (Tr.normThen ?_)
 refine Tr.cond rfl H (fun H => ?_) (fun H => ?_)
 ·refine Tr.sr ?_
  refine Tr.v1 rfl (run_fieldAddr fo_26_2) rfl ?_
  refine Tr.va rfl (fun _ _ h1 h2 => run_load1 ag_24 (h1.ev rfl) (rdb h2 (vs := [(iv y100.1.Unit), (.slice Ay100_0 (y100.1.Tools).length cy100_0), (.slice Ay100_1 (y100.1.Steps).length cy100_1)]) (k := 3) rfl 2) rfl) ?_
  refine Tr.v1 rfl (run_len un_24) rfl ?_
  refine Tr.v2 rfl run_eql rfl rfl ?_
  refine Tr.mv rfl rfl ?_
  obtain ⟨g104, hg104, H⟩ := bnd H
  refine Tr.mid0 2 [(21, (.bool g104))] [(1, ow Ay100_0 cy100_0 58 fl_TPlotTool y100.1.Tools), (2, ow Ay100_1 cy100_1 53 fl_TPlotStep y100.1.Steps), (3, bx b102 #[(iv y100.1.Unit), (.slice Ay100_0 (y100.1.Tools).length cy100_0), (.slice Ay100_1 (y100.1.Steps).length cy100_1)] 26)] ?_ ?_
  ·cases hg105 : ((y100.1.Steps.length : Int) == 0)
   ·rw [hg105] at hg104
    rw [if_neg (by decide)] at hg104
    have H := hg104
    obtain rfl := Option.some.inj H
    refine Tr.ps ?_
    refine Tr.v2 rfl run_pickF rfl rfl ?_
    exact Tr.nil (Tr.fin0 (.r rfl) (.r rfl))
   ·rw [hg105] at hg104
    rw [if_pos rfl] at hg104
    have H := hg104
    obtain ⟨y105, hy105, H⟩ := bnd H
    refine Tr.call0 (r := (.bool y105)) (wg rfl rfl rfl) rfl Tryz.call8 evl_nil (fun W hW => F_etchhouselaw3_awake_ok N y105 hy105 (HF.start _)) ?_
    refine Tr.v2 rfl run_pickT rfl rfl ?_
    obtain rfl := Option.some.inj H
    exact Tr.nil (Tr.fin0 (.r rfl) (.r rfl))
  ·show Tr _ _ (LF [(21, (.bool g104))]) (LE [(1, ow Ay100_0 cy100_0 58 fl_TPlotTool y100.1.Tools), (2, ow Ay100_1 cy100_1 53 fl_TPlotStep y100.1.Steps), (3, bx b102 #[(iv y100.1.Unit), (.slice Ay100_0 (y100.1.Tools).length cy100_0), (.slice Ay100_1 (y100.1.Steps).length cy100_1)] 26)]) _
   refine Tr.asg rfl rfl ?_
   refine Tr.nil (Tr.normThen ?_)
   refine Tr.ret (Tr.retThen ?_)
   obtain rfl := Option.some.inj H
   exact Tr.out (m := [(.bool g104)]) [] (res_tmp rfl res_nil) (fun W hW => ⟨rfl, hW.low leB⟩)
 ·refine Tr.skip (Tr.normThen ?_)
  refine Tr.sr ?_
  refine Tr.va rfl (fun _ _ h1 h2 => run_loadN (cs := [(iv y100.1.Unit), (.slice Ay100_0 (y100.1.Tools).length cy100_0), (.slice Ay100_1 (y100.1.Steps).length cy100_1)]) ag_26 sz_26 (h1.ev rfl) (CellsAt.take (rdb h2 (vs := [(iv y100.1.Unit), (.slice Ay100_0 (y100.1.Tools).length cy100_0), (.slice Ay100_1 (y100.1.Steps).length cy100_1)]) (k := 3) rfl 0) 3) rfl) ?_
  refine Tr.freeze 1 rfl fun w le107 hz106 => ?_
  replace hp0_0 := hp0_0.leR le107
  replace leB := leB.trans le107
  refine Tr.freeze 2 rfl fun w le109 hz108 => ?_
  replace hp0_0 := hp0_0.leR le109
  replace hz106 := hz106.le le109
  replace leB := leB.trans le109
  obtain ⟨y110, hy110, H⟩ := bnd H
  refine Tr.callM [4] [emp] (U := (Option Addr × Nat)) (fun u => (.tuple #[(.slice u.1 (y110.1).length u.2), (iv y110.2)])) (fun u => SlF u.1 (y110.1).length u.2) (fun u => [ow u.1 u.2 38 fl_TRect y110.1]) rfl (pk_cons rfl pk_nil) (fun _ => rfl) (wn rfl) rfl Tryz.call9 (evl_cons rfl evl_nil) (fun W hW hp hE => F_plot_Image_ok N y100.1 Ay100_0 cy100_0 (hz106.extO (hW.extS hp)) Ay100_1 cy100_1 (hz108.extO (hW.extS hp)) y110 hy110 hE) ?_
  intro u hu
  obtain ⟨Ay110_0, cy110_0⟩ := u
  have gy110_0 := hu
  have hgy110_0 : SlF Ay110_0 (y110.1).length cy110_0 := gy110_0 --@phi
  show Tr _ _ (uf _ 24 (.tuple #[(.slice Ay110_0 (y110.1).length cy110_0), (iv y110.2)])) (up _ 4 (ow Ay110_0 cy110_0 38 fl_TRect y110.1)) _
  refine Tr.mv rfl rfl ?_
  refine Tr.va rfl (fun _ _ h1 h2 => run_extract (h1.ev rfl) rfl) ?_
  refine Tr.va rfl (fun _ _ h1 h2 => run_extract (h1.ev rfl) rfl) ?_
  refine Tr.asg rfl rfl ?_
  refine Tr.asg rfl rfl ?_
  refine Tr.nil (Tr.normThen ?_)
  refine Tr.seq ?_
  refine Tr.sr ?_
  refine Tr.mv rfl rfl ?_
  refine Tr.v2 rfl run_neq rfl rfl ?_
  refine Tr.nil (Tr.normThen ?_)
  refine Tr.cond rfl H (fun H => ?_) (fun H => ?_)
  ·refine Tr.sr ?_
   refine Tr.mv rfl rfl ?_
   refine Tr.v2 rfl run_eql rfl rfl ?_
   refine Tr.mv rfl rfl ?_
   obtain ⟨g113, hg113, H⟩ := bnd H
   refine Tr.mid0 2 [(33, (.bool g113))] [(3, bx b102 #[(iv y100.1.Unit), (.slice Ay100_0 (y100.1.Tools).length cy100_0), (.slice Ay100_1 (y100.1.Steps).length cy100_1)] 26), (4, ow Ay110_0 cy110_0 38 fl_TRect y110.1)] ?_ ?_
   ·cases hg114 : (y110.2 == 2)
    ·rw [hg114] at hg113
     rw [if_neg (by decide)] at hg113
     have H := hg113
     obtain rfl := Option.some.inj H
     refine Tr.ps ?_
     refine Tr.v2 rfl run_pickF rfl rfl ?_
     exact Tr.nil (Tr.fin0 (.r rfl) (.r rfl))
    ·rw [hg114] at hg113
     rw [if_pos rfl] at hg113
     have H := hg113
     obtain ⟨y114, hy114, H⟩ := bnd H
     refine Tr.call0 (r := (.bool y114)) (wg rfl rfl rfl) rfl Tryz.call8 evl_nil (fun W hW => F_etchhouselaw3_awake_ok N y114 hy114 (HF.start _)) ?_
     refine Tr.v2 rfl run_pickT rfl rfl ?_
     obtain rfl := Option.some.inj H
     exact Tr.nil (Tr.fin0 (.r rfl) (.r rfl))
   ·show Tr _ _ (LF [(33, (.bool g113))]) (LE [(3, bx b102 #[(iv y100.1.Unit), (.slice Ay100_0 (y100.1.Tools).length cy100_0), (.slice Ay100_1 (y100.1.Steps).length cy100_1)] 26), (4, ow Ay110_0 cy110_0 38 fl_TRect y110.1)]) _
    refine Tr.asg rfl rfl ?_
    refine Tr.nil (Tr.normThen ?_)
    refine Tr.ret (Tr.retThen ?_)
    obtain rfl := Option.some.inj H
    exact Tr.out (m := [(.bool g113)]) [] (res_tmp rfl res_nil) (fun W hW => ⟨rfl, hW.low leB⟩)
  ·refine Tr.skip (Tr.normThen ?_)
   refine Tr.sr ?_
   refine Tr.va rfl (fun _ _ h1 h2 => run_loadN (cs := [(iv y100.1.Unit), (.slice Ay100_0 (y100.1.Tools).length cy100_0), (.slice Ay100_1 (y100.1.Steps).length cy100_1)]) ag_26 sz_26 (h1.ev rfl) (CellsAt.take (rdb h2 (vs := [(iv y100.1.Unit), (.slice Ay100_0 (y100.1.Tools).length cy100_0), (.slice Ay100_1 (y100.1.Steps).length cy100_1)]) (k := 3) rfl 0) 3) rfl) ?_
   obtain ⟨y115, hy115, H⟩ := bnd H
   refine Tr.callG [5, 6] [emp, emp] (U := (Option Addr × Nat) × (Option Addr × Nat)) (fun u => (.tuple #[(.agg #[(iv y115.1.Unit), (.slice u.1.1 (y115.1.Tools).length u.1.2), (.slice u.2.1 (y115.1.Steps).length u.2.2)]), (iv y115.2)])) (fun O W u => SlF u.1.1 (y115.1.Tools).length u.1.2 ∧ SlF u.2.1 (y115.1.Steps).length u.2.2) (fun u => [ow u.1.1 u.1.2 58 fl_TPlotTool y115.1.Tools, ow u.2.1 u.2.2 53 fl_TPlotStep y115.1.Steps]) rfl (pk_cons rfl (pk_cons rfl pk_nil)) (fun _ => rfl) (wn rfl) rfl Tryz.call10 (evl_cons rfl evl_nil) (fun W hW hp hE => F_plot_Short_ok N y100.1 Ay100_0 cy100_0 (hz106.extO (hW.extS hp)) Ay100_1 cy100_1 (hz108.extO (hW.extS hp)) y115 hy115 hE) ?_
   intro w u le116 hu
   obtain ⟨⟨Ay115_0, cy115_0⟩, ⟨Ay115_1, cy115_1⟩⟩ := u
   obtain ⟨gy115_0, gy115_1⟩ := hu
   replace hp0_0 := hp0_0.leR le116
   replace hz106 := hz106.le le116
   replace hz108 := hz108.le le116
   replace leB := leB.trans le116
   have hgy115_0 : SlF Ay115_0 (y115.1.Tools).length cy115_0 := gy115_0 --@phi
   have hgy115_1 : SlF Ay115_1 (y115.1.Steps).length cy115_1 := gy115_1 --@phi
   show Tr _ _ (uf _ 36 (.tuple #[(.agg #[(iv y115.1.Unit), (.slice Ay115_0 (y115.1.Tools).length cy115_0), (.slice Ay115_1 (y115.1.Steps).length cy115_1)]), (iv y115.2)])) (up (up _ 6 (ow Ay115_1 cy115_1 53 fl_TPlotStep y115.1.Steps)) 5 (ow Ay115_0 cy115_0 58 fl_TPlotTool y115.1.Tools)) _
   refine Tr.mv rfl rfl ?_
   refine Tr.va rfl (fun _ _ h1 h2 => run_extract (h1.ev rfl) rfl) ?_
   refine Tr.va rfl (fun _ _ h1 h2 => run_extract (h1.ev rfl) rfl) ?_
   refine Tr.alloc 7 (wn rfl) rfl ze_26 fun b117 => ?_
   refine Tr.store 7 (cs := [(iv y115.1.Unit), (.slice Ay115_0 (y115.1.Tools).length cy115_0), (.slice Ay115_1 (y115.1.Steps).length cy115_1)]) [(iv y115.1.Unit), (.slice Ay115_0 (y115.1.Tools).length cy115_0), (.slice Ay115_1 (y115.1.Steps).length cy115_1)] (wn rfl) rfl rfl rfl rfl sz_26 rfl rfl rfl ?_
   refine Tr.asg rfl rfl ?_
   refine Tr.nil (Tr.normThen ?_)
   refine Tr.sr ?_
   refine Tr.mv rfl rfl ?_
   refine Tr.mv rfl rfl ?_
   obtain ⟨y118, hy118, H⟩ := bnd H
   refine Tr.call0 (r := (.bool y118)) (wn rfl) rfl Tryz.call11 (evl_cons rfl (evl_cons rfl evl_nil)) (fun W hW => F_slices_Equal_Rect_ok y110.1 Ay110_0 cy110_0 (hW.slCall (k := 4) rfl) p0 Ap0_0 cp0_0 (hp0_0.ext hW.extAll) y118 hy118 (HF.start _)) ?_
   refine Tr.mv rfl rfl ?_
   refine Tr.mid0 3 [(3, (.pointer (some ⟨b102, 0, none⟩))), (6, (.pointer (some ⟨b117, 0, none⟩))), (45, (.bool (y118 && (y115.2 == 0))))] [(3, bx b102 #[(iv y100.1.Unit), (.slice Ay100_0 (y100.1.Tools).length cy100_0), (.slice Ay100_1 (y100.1.Steps).length cy100_1)] 26), (4, ow Ay110_0 cy110_0 38 fl_TRect y110.1), (5, ow Ay115_0 cy115_0 58 fl_TPlotTool y115.1.Tools), (6, ow Ay115_1 cy115_1 53 fl_TPlotStep y115.1.Steps), (7, bx b117 #[(iv y115.1.Unit), (.slice Ay115_0 (y115.1.Tools).length cy115_0), (.slice Ay115_1 (y115.1.Steps).length cy115_1)] 26)] ?_ ?_
   ·cases hg124 : y118
    ·refine Tr.ps ?_
     refine Tr.ps ?_
     refine Tr.v2 rfl run_pickF rfl rfl ?_
     exact Tr.nil (Tr.fin0 (.r rfl) (.r rfl))
    ·refine Tr.w1 (wg rfl rfl rfl) rfl run_move rfl ?_
     refine Tr.w2 (wg rfl rfl rfl) rfl run_eql rfl rfl ?_
     refine Tr.v2 rfl run_pickT rfl rfl ?_
     exact Tr.nil (Tr.fin0 (.r rfl) (.r rfl))
   ·show Tr _ _ (LF [(3, (.pointer (some ⟨b102, 0, none⟩))), (6, (.pointer (some ⟨b117, 0, none⟩))), (45, (.bool (y118 && (y115.2 == 0))))]) (LE [(3, bx b102 #[(iv y100.1.Unit), (.slice Ay100_0 (y100.1.Tools).length cy100_0), (.slice Ay100_1 (y100.1.Steps).length cy100_1)] 26), (4, ow Ay110_0 cy110_0 38 fl_TRect y110.1), (5, ow Ay115_0 cy115_0 58 fl_TPlotTool y115.1.Tools), (6, ow Ay115_1 cy115_1 53 fl_TPlotStep y115.1.Steps), (7, bx b117 #[(iv y115.1.Unit), (.slice Ay115_0 (y115.1.Tools).length cy115_0), (.slice Ay115_1 (y115.1.Steps).length cy115_1)] 26)]) _
    refine Tr.mv rfl rfl ?_
    obtain ⟨g120, hg120, H⟩ := bnd H
    refine Tr.mid0 4 [(50, (.bool g120))] [(3, bx b102 #[(iv y100.1.Unit), (.slice Ay100_0 (y100.1.Tools).length cy100_0), (.slice Ay100_1 (y100.1.Steps).length cy100_1)] 26), (4, ow Ay110_0 cy110_0 38 fl_TRect y110.1), (5, ow Ay115_0 cy115_0 58 fl_TPlotTool y115.1.Tools), (6, ow Ay115_1 cy115_1 53 fl_TPlotStep y115.1.Steps), (7, bx b117 #[(iv y115.1.Unit), (.slice Ay115_0 (y115.1.Tools).length cy115_0), (.slice Ay115_1 (y115.1.Steps).length cy115_1)] 26)] ?_ ?_
    ·cases hg124 : (y118 && (y115.2 == 0))
     ·rw [hg124] at hg120
      rw [if_neg (by decide)] at hg120
      have H := hg120
      obtain rfl := Option.some.inj H
      refine Tr.ps ?_
      refine Tr.ps ?_
      refine Tr.ps ?_
      refine Tr.v2 rfl run_pickF rfl rfl ?_
      exact Tr.nil (Tr.fin0 (.r rfl) (.r rfl))
     ·rw [hg124] at hg120
      rw [if_pos rfl] at hg120
      have H := hg120
      refine Tr.val (wg rfl rfl rfl) rfl (fun _ _ h1 h2 => run_loadN (cs := [(iv y115.1.Unit), (.slice Ay115_0 (y115.1.Tools).length cy115_0), (.slice Ay115_1 (y115.1.Steps).length cy115_1)]) ag_26 sz_26 (h1.ev rfl) (CellsAt.take (rdb h2 (vs := [(iv y115.1.Unit), (.slice Ay115_0 (y115.1.Tools).length cy115_0), (.slice Ay115_1 (y115.1.Steps).length cy115_1)]) (k := 7) rfl 0) 3) rfl) ?_
      refine Tr.val (wg rfl rfl rfl) rfl (fun _ _ h1 h2 => run_loadN (cs := [(iv y100.1.Unit), (.slice Ay100_0 (y100.1.Tools).length cy100_0), (.slice Ay100_1 (y100.1.Steps).length cy100_1)]) ag_26 sz_26 (h1.ev rfl) (CellsAt.take (rdb h2 (vs := [(iv y100.1.Unit), (.slice Ay100_0 (y100.1.Tools).length cy100_0), (.slice Ay100_1 (y100.1.Steps).length cy100_1)]) (k := 3) rfl 0) 3) rfl) ?_
      obtain ⟨y121, hy121, H⟩ := bnd H
      refine Tr.call0 (r := (.bool y121)) (wg rfl rfl rfl) rfl Tryz.call7 (evl_cons rfl (evl_cons rfl evl_nil)) (fun W hW => F_etchhouseref3_SamePlot_ok N y115.1 Ay115_0 cy115_0 (hW.slCall (k := 5) rfl) Ay115_1 cy115_1 (hW.slCall (k := 6) rfl) y100.1 Ay100_0 cy100_0 (hz106.rl.ext hW.extAll) Ay100_1 cy100_1 (hz108.rl.ext hW.extAll) y121 hy121 (HF.start _)) ?_
      refine Tr.v2 rfl run_pickT rfl rfl ?_
      obtain rfl := Option.some.inj H
      exact Tr.nil (Tr.fin0 (.r rfl) (.r rfl))
    ·show Tr _ _ (LF [(50, (.bool g120))]) (LE [(3, bx b102 #[(iv y100.1.Unit), (.slice Ay100_0 (y100.1.Tools).length cy100_0), (.slice Ay100_1 (y100.1.Steps).length cy100_1)] 26), (4, ow Ay110_0 cy110_0 38 fl_TRect y110.1), (5, ow Ay115_0 cy115_0 58 fl_TPlotTool y115.1.Tools), (6, ow Ay115_1 cy115_1 53 fl_TPlotStep y115.1.Steps), (7, bx b117 #[(iv y115.1.Unit), (.slice Ay115_0 (y115.1.Tools).length cy115_0), (.slice Ay115_1 (y115.1.Steps).length cy115_1)] 26)]) _
     refine Tr.mv rfl rfl ?_
     obtain ⟨g123, hg123, H⟩ := bnd H
     refine Tr.mid0 2 [(53, (.bool g123))] [(3, bx b102 #[(iv y100.1.Unit), (.slice Ay100_0 (y100.1.Tools).length cy100_0), (.slice Ay100_1 (y100.1.Steps).length cy100_1)] 26), (4, ow Ay110_0 cy110_0 38 fl_TRect y110.1), (5, ow Ay115_0 cy115_0 58 fl_TPlotTool y115.1.Tools), (6, ow Ay115_1 cy115_1 53 fl_TPlotStep y115.1.Steps), (7, bx b117 #[(iv y115.1.Unit), (.slice Ay115_0 (y115.1.Tools).length cy115_0), (.slice Ay115_1 (y115.1.Steps).length cy115_1)] 26)] ?_ ?_
     ·cases hg124 : g120
      ·rw [hg124] at hg123
       rw [if_neg (by decide)] at hg123
       have H := hg123
       obtain rfl := Option.some.inj H
       refine Tr.ps ?_
       refine Tr.v2 rfl run_pickF rfl rfl ?_
       exact Tr.nil (Tr.fin0 (.r rfl) (.r rfl))
      ·rw [hg124] at hg123
       rw [if_pos rfl] at hg123
       have H := hg123
       obtain ⟨y124, hy124, H⟩ := bnd H
       refine Tr.call0 (r := (.bool y124)) (wg rfl rfl rfl) rfl Tryz.call8 evl_nil (fun W hW => F_etchhouselaw3_awake_ok N y124 hy124 (HF.start _)) ?_
       refine Tr.v2 rfl run_pickT rfl rfl ?_
       obtain rfl := Option.some.inj H
       exact Tr.nil (Tr.fin0 (.r rfl) (.r rfl))
     ·show Tr _ _ (LF [(53, (.bool g123))]) (LE [(3, bx b102 #[(iv y100.1.Unit), (.slice Ay100_0 (y100.1.Tools).length cy100_0), (.slice Ay100_1 (y100.1.Steps).length cy100_1)] 26), (4, ow Ay110_0 cy110_0 38 fl_TRect y110.1), (5, ow Ay115_0 cy115_0 58 fl_TPlotTool y115.1.Tools), (6, ow Ay115_1 cy115_1 53 fl_TPlotStep y115.1.Steps), (7, bx b117 #[(iv y115.1.Unit), (.slice Ay115_0 (y115.1.Tools).length cy115_0), (.slice Ay115_1 (y115.1.Steps).length cy115_1)] 26)]) _
      refine Tr.asg rfl rfl ?_
      refine Tr.nil (Tr.normThen ?_)
      refine Tr.ret ?_
      obtain rfl := Option.some.inj H
      exact Tr.out (m := [(.bool g123)]) [] (res_tmp rfl res_nil) (fun W hW => ⟨rfl, hW.low leB⟩)

end Go.Proofs.YtcjeebkoafonpaaGreatDoor
