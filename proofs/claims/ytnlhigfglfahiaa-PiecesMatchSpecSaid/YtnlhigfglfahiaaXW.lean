/- The walks: each function computes its plain function. -/
import Derived.Test.YtnlhigfglfahiaaXWc
namespace Go.Proofs.Ytnlhigfglfahiaa
open Go.RowKit
set_option maxRecDepth 100000
set_option maxHeartbeats 1000000
theorem F_etchhouseref1_combined_ok (N : Nat) {w : Bs} (p0 : (List TRect)) (Ap0_0 : Option Addr) (cp0_0 : Nat) (hp0_0 : Sl w.R w.W fl_TRect Ap0_0 cp0_0 p0) (p1 : (List TRect)) (Ap1_0 : Option Addr) (cp1_0 : Nat) (hp1_0 : Sl w.R w.W fl_TRect Ap1_0 cp1_0 p1) (p2 : Int) (r : (List TRect)) (H : F_etchhouseref1_combined N p0 p1 p2 = some r) (hE : HF w w.W (LEn [emp])) : Calls Try.prog 95 [(.slice Ap0_0 (p0).length cp0_0), (.slice Ap1_0 (p1).length cp1_0), (.int .i64 p2)].toArray w.W fun e W' => ∃ u : (Option Addr × Nat), e = .returned (.slice u.1 (r).length u.2) ∧ (SlF u.1 (r).length u.2) ∧ HF w W' (LEn [ow u.1 u.2 29 fl_TRect r]) := by
 unfold F_etchhouseref1_combined at H
 have leB := Bs.Le.refl w
 refine Tr.enter (n := 55) Try.func95 rfl rfl rfl hE ?_
 refine Tr.sr ?_
 refine Tr.asg rfl rfl ?_
 refine Tr.nilOwn 1 29 fl_TRect ?_
 show Tr _ _ (uf _ 6 (.slice none (([] : List TRect)).length 0)) _ _
 refine Tr.nil (Tr.normThen ?_)
 refine Tr.sr ?_
 refine Tr.asg rfl rfl ?_
 refine Tr.nilOwn 2 29 fl_TRect ?_
 show Tr _ _ (uf _ 7 (.slice none (([] : List TRect)).length 0)) _ _
 refine Tr.nil (Tr.normThen ?_)
 refine Tr.sr ?_
 refine Tr.mv rfl rfl ?_
 refine Tr.mv rfl rfl ?_
 obtain ⟨l100, hl100, H⟩ := bnd H
 refine Tr.appendS 2 (t := fl_TRect) (l := ([] : List TRect)) (l2 := p0) (wn rfl) rfl rfl rfl rfl (apT tr_TRect (fun W hW => (Sl.inB hp0_0 hW))) un_22 sz_29 zl_29 (by decide) by_29 rfl hl100 fun Al100 cl100 hAl100 => ?_
 refine Tr.asg rfl rfl ?_
 refine Tr.nil (Tr.normThen ?_)
 refine Tr.sr ?_
 refine Tr.mv rfl rfl ?_
 refine Tr.mv rfl rfl ?_
 obtain ⟨l101, hl101, H⟩ := bnd H
 refine Tr.appendS 2 (t := fl_TRect) (l := l100) (l2 := p1) (wn rfl) rfl rfl rfl rfl (apT tr_TRect (fun W hW => (Sl.inB hp1_0 hW))) un_22 sz_29 zl_29 (by decide) by_29 rfl hl101 fun Al101 cl101 hAl101 => ?_
 refine Tr.asg rfl rfl ?_
 refine Tr.nil (Tr.normThen ?_)
 refine Tr.sr ?_
 refine Tr.mv rfl rfl ?_
 obtain ⟨y102, hy102, H⟩ := bnd H
 refine Tr.callG [] [] (U := (Option Addr × Nat)) (fun u => (.slice u.1 (y102).length u.2)) (fun O W u => Sl O W fl_i64 u.1 u.2 y102) (fun u => []) rfl pk_nil (fun _ => rfl) (wn rfl) rfl Try.call121 (evl_cons rfl evl_nil) (fun W hW hp hE => F_etchhouseref1_heights_ok N l101 Al101 cl101 (hW.slS (k := 2) rfl hp rfl) y102 hy102 hE) ?_
 intro w u le103 hu
 obtain ⟨Ay102_0, cy102_0⟩ := u
 have gy102_0 := hu
 replace hp0_0 := hp0_0.leR le103
 replace hp1_0 := hp1_0.leR le103
 replace leB := leB.trans le103
 have hgy102_0 : Sl w.O w.W fl_i64 Ay102_0 cy102_0 y102 := gy102_0 --@phi
 show Tr _ _ (uf _ 18 (.slice Ay102_0 (y102).length cy102_0)) (_) _
 refine Tr.asg rfl rfl ?_
 refine Tr.nil (Tr.normThen ?_)
 refine Tr.sr ?_
 refine Tr.asg rfl rfl ?_
 refine Tr.nilOwn 3 149 fl_Tetchhouseref1Band ?_
 show Tr _ _ (uf _ 9 (.slice none (([] : List Tetchhouseref1Band)).length 0)) _ _
 refine Tr.nil (Tr.normThen ?_)
 refine Tr.seq ?_
 refine Tr.sr ?_
 refine Tr.asg rfl rfl ?_
 refine Tr.nil (Tr.normThen ?_)
 refine Tr.block ?_
 refine Tr.loop (σ := (List Tetchhouseref1Band) × Int × (Option Addr) × Nat) (fun m w s => F_etchhouseref1_combined_L1 N p0 p1 p2 y102 m s.1 s.2.1 = some r ∧ SlF s.2.2.1 (s.1).length s.2.2.2) (fun s => [(0, (.slice Ap0_0 (p0).length cp0_0)), (1, (.slice Ap1_0 (p1).length cp1_0)), (2, (.int .i64 p2)), (8, (.slice Ay102_0 (y102).length cy102_0)), (9, (.slice s.2.2.1 (s.1).length s.2.2.2)), (10, (.int .i64 s.2.1))]) (fun s => [(3, ow s.2.2.1 s.2.2.2 149 fl_Tetchhouseref1Band s.1)]) N (([] : List Tetchhouseref1Band), 1, none, 0) ⟨H, slf_nil⟩ (.cons rfl (.cons rfl (.cons rfl (.cons rfl (.cons rfl (.cons rfl .nil)))))) (.cons rfl .nil) (fun _ _ h => noSome (h.1)) ?_
 intro w leF_etchhouseref1_combined_L1 mF_etchhouseref1_combined_L1 s hs
 obtain ⟨l140, x141, Al140, cl140⟩ := s
 obtain ⟨H, hl140⟩ := hs
 replace H : F_etchhouseref1_combined_L1 N p0 p1 p2 y102 (mF_etchhouseref1_combined_L1 + 1) l140 x141 = some r := H
 replace hp0_0 := hp0_0.leR leF_etchhouseref1_combined_L1
 replace hp1_0 := hp1_0.leR leF_etchhouseref1_combined_L1
 replace hgy102_0 := hgy102_0.le leF_etchhouseref1_combined_L1
 replace leB := leB.trans leF_etchhouseref1_combined_L1
 replace hl140 : SlF Al140 (l140).length cl140 := hl140
 rw [F_etchhouseref1_combined_L1.eq_2] at H
 show Tr _ _ (LF [(0, (.slice Ap0_0 (p0).length cp0_0)), (1, (.slice Ap1_0 (p1).length cp1_0)), (2, (.int .i64 p2)), (8, (.slice Ay102_0 (y102).length cy102_0)), (9, (.slice Al140 (l140).length cl140)), (10, (.int .i64 x141))]) (LE [(3, ow Al140 cl140 149 fl_Tetchhouseref1Band l140)]) _
 refine Tr.seq ?_
 refine Tr.sr ?_
 refine Tr.mv rfl rfl ?_
 refine Tr.mv rfl rfl ?_
 refine Tr.va rfl (fun _ _ h1 h2 => run_len un_97 (h1.ev rfl)) ?_
 refine Tr.va rfl (fun _ _ h1 h2 => run_lss (h1.ev rfl) (h1.ev rfl)) ?_
 refine Tr.nil (Tr.normThen ?_)
 refine Tr.cond rfl H (fun H => ?_) (fun H => ?_)
 ·refine Tr.skip (Tr.normThen ?_)
  refine Tr.seq ?_
  refine Tr.block ?_
  refine Tr.drawC 27 [] [] (by kernel_rfl) (by kernel_rfl) fun sz142 hlosz142 hEsz142 => ?_
  refine Dr.quiet 0 [(25, (.slice Al140 (l140).length cl140))] (by kernel_rfl) rfl rfl (by kernel_rfl) ?_ rfl rfl ?_
  ·refine Tq.mv rfl rfl ?_
   exact Tq.fin (.cons rfl .nil)
  refine Dr.quiet 1 [(26, (.slice Ay102_0 (y102).length cy102_0))] (by kernel_rfl) rfl rfl (by kernel_rfl) ?_ rfl rfl ?_
  ·refine Tq.mv rfl rfl ?_
   exact Tq.fin (.cons rfl .nil)
  refine Dr.quiet 2 [(27, (.int .i64 x141))] (by kernel_rfl) rfl rfl (by kernel_rfl) ?_ rfl rfl ?_
  ·refine Tq.mv rfl rfl ?_
   exact Tq.fin (.cons rfl .nil)
  refine Dr.quiet 3 [(28, (.int .i64 (w64 (x141 - 1))))] (by kernel_rfl) rfl rfl (by kernel_rfl) ?_ rfl rfl ?_
  ·refine Tq.va rfl (fun _ _ h1 h2 => run_sub (h1.ev rfl) (h1.ev rfl)) ?_
   exact Tq.fin (.cons rfl .nil)
  obtain ⟨x143, hx143, H⟩ := bnd H
  obtain ⟨hx1430, hx1431, hx1432⟩ := idx_some hx143
  refine Dr.quiet 4 [(29, (.pointer (some ⟨adB Ay102_0, adO Ay102_0 + ((w64 (x141 - 1))).toNat * 1, none⟩)))] (by kernel_rfl) rfl rfl (by kernel_rfl) ?_ rfl rfl ?_
  ·refine Tq.va rfl (fun _ _ h1 h2 => run_indexAddr el_97 (h1.ev rfl) hgy102_0.form (h1.ev rfl) hx1430 hx1431) ?_
   exact Tq.fin (.cons rfl .nil)
  refine Dr.quiet 5 [(30, (.int .i64 x143))] (by kernel_rfl) rfl rfl (by kernel_rfl) ?_ rfl rfl ?_
  ·refine Tq.va rfl (fun _ _ h1 h2 => run_load1 ag_3 (h1.ev rfl) (rdF ef_i64 (hgy102_0.rl) hx1432 h2) rfl) ?_
   exact Tq.fin (.cons rfl .nil)
  refine Dr.quiet 6 [(31, (.slice Ay102_0 (y102).length cy102_0))] (by kernel_rfl) rfl rfl (by kernel_rfl) ?_ rfl rfl ?_
  ·refine Tq.mv rfl rfl ?_
   exact Tq.fin (.cons rfl .nil)
  refine Dr.quiet 7 [(32, (.int .i64 x141))] (by kernel_rfl) rfl rfl (by kernel_rfl) ?_ rfl rfl ?_
  ·refine Tq.mv rfl rfl ?_
   exact Tq.fin (.cons rfl .nil)
  obtain ⟨x144, hx144, H⟩ := bnd H
  obtain ⟨hx1440, hx1441, hx1442⟩ := idx_some hx144
  refine Dr.quiet 8 [(33, (.pointer (some ⟨adB Ay102_0, adO Ay102_0 + (x141).toNat * 1, none⟩)))] (by kernel_rfl) rfl rfl (by kernel_rfl) ?_ rfl rfl ?_
  ·refine Tq.va rfl (fun _ _ h1 h2 => run_indexAddr el_97 (h1.ev rfl) hgy102_0.form (h1.ev rfl) hx1440 hx1441) ?_
   exact Tq.fin (.cons rfl .nil)
  refine Dr.quiet 9 [(34, (.int .i64 x144))] (by kernel_rfl) rfl rfl (by kernel_rfl) ?_ rfl rfl ?_
  ·refine Tq.va rfl (fun _ _ h1 h2 => run_load1 ag_3 (h1.ev rfl) (rdF ef_i64 (hgy102_0.rl) hx1442 h2) rfl) ?_
   exact Tq.fin (.cons rfl .nil)
  refine Dr.quiet 10 [(35, (.slice Ap0_0 (p0).length cp0_0))] (by kernel_rfl) rfl rfl (by kernel_rfl) ?_ rfl rfl ?_
  ·refine Tq.mv rfl rfl ?_
   exact Tq.fin (.cons rfl .nil)
  refine Dr.quiet 11 [(36, (.slice Ay102_0 (y102).length cy102_0))] (by kernel_rfl) rfl rfl (by kernel_rfl) ?_ rfl rfl ?_
  ·refine Tq.mv rfl rfl ?_
   exact Tq.fin (.cons rfl .nil)
  refine Dr.quiet 12 [(37, (.int .i64 x141))] (by kernel_rfl) rfl rfl (by kernel_rfl) ?_ rfl rfl ?_
  ·refine Tq.mv rfl rfl ?_
   exact Tq.fin (.cons rfl .nil)
  refine Dr.quiet 13 [(38, (.int .i64 (w64 (x141 - 1))))] (by kernel_rfl) rfl rfl (by kernel_rfl) ?_ rfl rfl ?_
  ·refine Tq.va rfl (fun _ _ h1 h2 => run_sub (h1.ev rfl) (h1.ev rfl)) ?_
   exact Tq.fin (.cons rfl .nil)
  obtain ⟨x145, hx145, H⟩ := bnd H
  obtain ⟨hx1450, hx1451, hx1452⟩ := idx_some hx145
  refine Dr.quiet 14 [(39, (.pointer (some ⟨adB Ay102_0, adO Ay102_0 + ((w64 (x141 - 1))).toNat * 1, none⟩)))] (by kernel_rfl) rfl rfl (by kernel_rfl) ?_ rfl rfl ?_
  ·refine Tq.va rfl (fun _ _ h1 h2 => run_indexAddr el_97 (h1.ev rfl) hgy102_0.form (h1.ev rfl) hx1450 hx1451) ?_
   exact Tq.fin (.cons rfl .nil)
  refine Dr.quiet 15 [(40, (.int .i64 x145))] (by kernel_rfl) rfl rfl (by kernel_rfl) ?_ rfl rfl ?_
  ·refine Tq.va rfl (fun _ _ h1 h2 => run_load1 ag_3 (h1.ev rfl) (rdF ef_i64 (hgy102_0.rl) hx1452 h2) rfl) ?_
   exact Tq.fin (.cons rfl .nil)
  refine Dr.quiet 17 [(42, (.slice Ap1_0 (p1).length cp1_0))] (by kernel_rfl) rfl rfl (by kernel_rfl) ?_ rfl rfl ?_
  ·refine Tq.mv rfl rfl ?_
   exact Tq.fin (.cons rfl .nil)
  refine Dr.quiet 18 [(43, (.slice Ay102_0 (y102).length cy102_0))] (by kernel_rfl) rfl rfl (by kernel_rfl) ?_ rfl rfl ?_
  ·refine Tq.mv rfl rfl ?_
   exact Tq.fin (.cons rfl .nil)
  refine Dr.quiet 19 [(44, (.int .i64 x141))] (by kernel_rfl) rfl rfl (by kernel_rfl) ?_ rfl rfl ?_
  ·refine Tq.mv rfl rfl ?_
   exact Tq.fin (.cons rfl .nil)
  refine Dr.quiet 20 [(45, (.int .i64 (w64 (x141 - 1))))] (by kernel_rfl) rfl rfl (by kernel_rfl) ?_ rfl rfl ?_
  ·refine Tq.va rfl (fun _ _ h1 h2 => run_sub (h1.ev rfl) (h1.ev rfl)) ?_
   exact Tq.fin (.cons rfl .nil)
  obtain ⟨x146, hx146, H⟩ := bnd H
  obtain ⟨hx1460, hx1461, hx1462⟩ := idx_some hx146
  refine Dr.quiet 21 [(46, (.pointer (some ⟨adB Ay102_0, adO Ay102_0 + ((w64 (x141 - 1))).toNat * 1, none⟩)))] (by kernel_rfl) rfl rfl (by kernel_rfl) ?_ rfl rfl ?_
  ·refine Tq.va rfl (fun _ _ h1 h2 => run_indexAddr el_97 (h1.ev rfl) hgy102_0.form (h1.ev rfl) hx1460 hx1461) ?_
   exact Tq.fin (.cons rfl .nil)
  refine Dr.quiet 22 [(47, (.int .i64 x146))] (by kernel_rfl) rfl rfl (by kernel_rfl) ?_ rfl rfl ?_
  ·refine Tq.va rfl (fun _ _ h1 h2 => run_load1 ag_3 (h1.ev rfl) (rdF ef_i64 (hgy102_0.rl) hx1462 h2) rfl) ?_
   exact Tq.fin (.cons rfl .nil)
  refine Dr.quiet 24 [(49, (.int .i64 p2))] (by kernel_rfl) rfl rfl (by kernel_rfl) ?_ rfl rfl ?_
  ·refine Tq.mv rfl rfl ?_
   exact Tq.fin (.cons rfl .nil)
  obtain ⟨y147, hy147, H⟩ := bnd H
  refine Dr.one 16 (by kernel_rfl) ?_
  refine St.callM 16 [10] [emp] (U := (Option Addr × Nat)) (fun u => (.slice u.1 (y147).length u.2)) (fun u => SlF u.1 (y147).length u.2) (fun u => [ow u.1 u.2 177 fl_TSpan y147]) rfl (pk_cons rfl pk_nil) (fun _ => rfl) (insS_no rfl) rfl (wn rfl) rfl Try.call123 (evl_cons rfl (evl_cons rfl evl_nil)) (fun W hW hp hE => F_etchhouseref1_row_ok N p0 Ap0_0 cp0_0 (hp0_0.ext (hW.extS hp)) x145 y147 hy147 hE) ?_
  intro u hu hsy147
  obtain ⟨Ay147_0, cy147_0⟩ := u
  have gy147_0 := hu
  have hgy147_0 : SlF Ay147_0 (y147).length cy147_0 := gy147_0
  show Dr _ _ _ _ _ _ _ _ _ (uf _ 41 (.slice Ay147_0 (y147).length cy147_0)) (up _ 10 (ow Ay147_0 cy147_0 177 fl_TSpan y147))
  obtain ⟨y149, hy149, H⟩ := bnd H
  refine Dr.one 23 (by kernel_rfl) ?_
  refine St.callM 23 [11] [emp] (U := (Option Addr × Nat)) (fun u => (.slice u.1 (y149).length u.2)) (fun u => SlF u.1 (y149).length u.2) (fun u => [ow u.1 u.2 177 fl_TSpan y149]) rfl (pk_cons rfl pk_nil) (fun _ => rfl) (insS_no rfl) rfl (wn rfl) rfl Try.call123 (evl_cons rfl (evl_cons rfl evl_nil)) (fun W hW hp hE => F_etchhouseref1_row_ok N p1 Ap1_0 cp1_0 (hp1_0.ext (hW.extS hp)) x146 y149 hy149 hE) ?_
  intro u hu hsy149
  obtain ⟨Ay149_0, cy149_0⟩ := u
  have gy149_0 := hu
  have hgy149_0 : SlF Ay149_0 (y149).length cy149_0 := gy149_0
  show Dr _ _ _ _ _ _ _ _ _ (uf _ 48 (.slice Ay149_0 (y149).length cy149_0)) (up _ 11 (ow Ay149_0 cy149_0 177 fl_TSpan y149))
  obtain ⟨y151, hy151, H⟩ := bnd H
  refine Dr.one 25 (by kernel_rfl) ?_
  refine St.callM 25 [12] [emp] (U := (Option Addr × Nat)) (fun u => (.slice u.1 (y151).length u.2)) (fun u => SlF u.1 (y151).length u.2) (fun u => [ow u.1 u.2 177 fl_TSpan y151]) rfl (pk_cons rfl pk_nil) (fun _ => rfl) (insS_no rfl) rfl (wn rfl) rfl Try.call125 (evl_cons rfl (evl_cons rfl (evl_cons rfl evl_nil))) (fun W hW hp hE => F_etchhouseref1_mixed_ok N y147 Ay147_0 cy147_0 (hW.slS (k := 10) rfl hp rfl) y149 Ay149_0 cy149_0 (hW.slS (k := 11) rfl hp rfl) p2 y151 hy151 hE) ?_
  intro u hu hsy151
  obtain ⟨Ay151_0, cy151_0⟩ := u
  have gy151_0 := hu
  have hgy151_0 : SlF Ay151_0 (y151).length cy151_0 := gy151_0
  show Dr _ _ _ _ _ _ _ _ _ (uf _ 50 (.slice Ay151_0 (y151).length cy151_0)) (up _ 12 (ow Ay151_0 cy151_0 177 fl_TSpan y151))
  refine Dr.quiet 26 [(51, (.agg #[(.int .i64 x143), (.int .i64 x144), (.slice Ay151_0 (y151).length cy151_0)]))] (by kernel_rfl) rfl rfl (by kernel_rfl) ?_ rfl rfl ?_
  ·refine Tq.build (vs := [(0, (.int .i64 x143)), (1, (.int .i64 x144)), (2, (.slice Ay151_0 (y151).length cy151_0))]) (cs := [(.int .i64 x143), (.int .i64 x144), (.slice Ay151_0 (y151).length cy151_0)]) (wn rfl) rfl (evs_cons rfl (evs_cons rfl (evs_cons rfl evs_nil))) (by kernel_rfl) ?_
   exact Tq.fin (.cons rfl .nil)
  refine Dr.tail (by kernel_rfl) ?_
  refine Tr.freeze 12 rfl fun w le154 hz153 => ?_
  replace hp0_0 := hp0_0.leR le154
  replace hp1_0 := hp1_0.leR le154
  replace hgy102_0 := hgy102_0.le le154
  replace leB := leB.trans le154
  replace leF_etchhouseref1_combined_L1 := leF_etchhouseref1_combined_L1.trans le154
  obtain ⟨y155, hy155, H⟩ := bnd H
  refine Tr.callG [3] [ow Al140 cl140 149 fl_Tetchhouseref1Band l140] (U := (Option Addr × Nat)) (fun u => (.slice u.1 (y155).length u.2)) (fun O W u => SlF u.1 (y155).length u.2) (fun u => [ow u.1 u.2 149 fl_Tetchhouseref1Band y155]) rfl (pk_cons rfl pk_nil) (fun _ => rfl) (wn rfl) rfl Try.call122 (evl_cons rfl (evl_cons rfl evl_nil)) (fun W hW hp hE => F_etchhouseref1_stacked_ok N l140 Al140 cl140 (Tetchhouseref1Band.mk x143 x144 y151) Ay151_0 cy151_0 (hz153.extO (hW.extS hp)) y155 hy155 hE) ?_
  intro w u le156 hu
  obtain ⟨Ay155_0, cy155_0⟩ := u
  have gy155_0 := hu
  replace hp0_0 := hp0_0.leR le156
  replace hp1_0 := hp1_0.leR le156
  replace hgy102_0 := hgy102_0.le le156
  replace hz153 := hz153.le le156
  replace leB := leB.trans le156
  replace leF_etchhouseref1_combined_L1 := leF_etchhouseref1_combined_L1.trans le156
  have hgy155_0 : SlF Ay155_0 (y155).length cy155_0 := gy155_0 --@phi
  show Tr _ _ (uf _ 52 (.slice Ay155_0 (y155).length cy155_0)) (up _ 3 (ow Ay155_0 cy155_0 149 fl_Tetchhouseref1Band y155)) _
  refine Tr.asg rfl rfl ?_
  refine Tr.nil (Tr.normBlock (Tr.normThen ?_))
  refine Tr.region ?_
  refine Tr.mv rfl rfl ?_
  refine Tr.va rfl (fun _ _ h1 h2 => run_add (h1.ev rfl) (h1.ev rfl)) ?_
  refine Tr.asg rfl rfl ?_
  refine Tr.nil ?_
  exact Tr.backThen leF_etchhouseref1_combined_L1 (y155, (w64 (x141 + 1)), Ay155_0, cy155_0) ⟨H, hgy155_0⟩ (.cons rfl (.cons rfl (.cons rfl (.cons rfl (.cons rfl (.cons rfl .nil)))))) (.cons rfl .nil)
 ·refine Tr.exit (Tr.exitThen (Tr.exitThen (Tr.exitBlock (Tr.normThen ?_))))
  refine Tr.sr ?_
  refine Tr.mv rfl rfl ?_
  obtain ⟨y157, hy157, H⟩ := bnd H
  refine Tr.callM [13] [emp] (U := (Option Addr × Nat)) (fun u => (.slice u.1 (y157).length u.2)) (fun u => SlF u.1 (y157).length u.2) (fun u => [ow u.1 u.2 29 fl_TRect y157]) rfl (pk_cons rfl pk_nil) (fun _ => rfl) (wn rfl) rfl Try.call124 (evl_cons rfl evl_nil) (fun W hW hp hE => F_etchhouseref1_told_ok N l140 Al140 cl140 (hW.slS (k := 3) rfl hp rfl) y157 hy157 hE) ?_
  intro u hu
  obtain ⟨Ay157_0, cy157_0⟩ := u
  have gy157_0 := hu
  have hgy157_0 : SlF Ay157_0 (y157).length cy157_0 := gy157_0 --@phi
  show Tr _ _ (uf _ 54 (.slice Ay157_0 (y157).length cy157_0)) (up _ 13 (ow Ay157_0 cy157_0 29 fl_TRect y157)) _
  refine Tr.asg rfl rfl ?_
  refine Tr.nil (Tr.normThen ?_)
  refine Tr.ret ?_
  obtain rfl := Option.some.inj H
  exact Tr.out (m := [(.slice Ay157_0 (y157).length cy157_0)]) [] (res_tmp rfl res_nil) (fun W hW => ⟨(Ay157_0, cy157_0), rfl, hgy157_0, HF.lowE leB (hW.pick (ks := [13]) (by decide) (pk_cons rfl pk_nil)) ⟨ow_any _ _ _ _ tr_TRect, trivial⟩⟩)

theorem F_etchhouseref1_HolesOf_ok (N : Nat) {w : Bs} (p0 : (List TRect)) (Ap0_0 : Option Addr) (cp0_0 : Nat) (hp0_0 : Sl w.R w.W fl_TRect Ap0_0 cp0_0 p0) (r : (List (List TRect))) (H : F_etchhouseref1_HolesOf N p0 = some r) (hE : HF w w.W (LEn [emp])) : Calls Try.prog 55 [(.slice Ap0_0 (p0).length cp0_0)].toArray w.W fun e W' => ∃ (w' : Bs) (u : (Option Addr × Nat)), w.Le w' ∧ e = .returned (.slice u.1 (r).length u.2) ∧ (SlF u.1 (r).length u.2) ∧ HF w' W' (LEn [ow u.1 u.2 22 fl_LTRect r]) := by
 unfold F_etchhouseref1_HolesOf at H
 have leB := Bs.Le.refl w
 refine Tr.enter (n := 39) Try.func55 rfl rfl rfl hE ?_
 refine Tr.sr ?_
 refine Tr.asg rfl rfl ?_
 refine Tr.nilOwn 1 22 fl_LTRect ?_
 show Tr _ _ (uf _ 2 (.slice none (([] : List (List TRect))).length 0)) _ _
 refine Tr.nil (Tr.normThen ?_)
 refine Tr.seq ?_
 refine Tr.sr ?_
 refine Tr.mv rfl rfl ?_
 refine Tr.va rfl (fun _ _ h1 h2 => run_len un_22 (h1.ev rfl)) ?_
 refine Tr.va rfl (fun _ _ h1 h2 => run_eql (h1.ev rfl) (h1.ev rfl)) ?_
 refine Tr.nil (Tr.normThen ?_)
 refine Tr.cond rfl H (fun H => ?_) (fun H => ?_)
 ·refine Tr.sr ?_
  refine Tr.asg rfl rfl ?_
  refine Tr.nilOwn 2 22 fl_LTRect ?_
  show Tr _ _ (uf _ 2 (.slice none (([] : List (List TRect))).length 0)) _ _
  refine Tr.nil (Tr.normThen ?_)
  refine Tr.ret (Tr.retThen ?_)
  obtain rfl := Option.some.inj H
  exact Tr.out (m := [(.slice none (([] : List (List TRect))).length 0)]) [] (res_tmp rfl res_nil) (fun W hW => ⟨w, (none, 0), leB, rfl, slf_nil, hW.pick (ks := [2]) (by decide) (pk_cons rfl pk_nil)⟩)
 ·refine Tr.skip (Tr.normThen ?_)
  refine Tr.sr ?_
  refine Tr.mv rfl rfl ?_
  obtain ⟨y100, hy100, H⟩ := bnd H
  refine Tr.call0 (r := (.agg #[(.int .i64 y100.X0), (.int .i64 y100.Y0), (.int .i64 y100.X1), (.int .i64 y100.Y1)])) (wn rfl) rfl Try.call94 (evl_cons rfl evl_nil) (fun W hW => F_etchhouseref1_BoundsOf_ok N p0 Ap0_0 cp0_0 (hp0_0.ext hW.extAll) y100 hy100 (HF.start _)) ?_
  obtain ⟨y101, hy101, H⟩ := bnd H
  refine Tr.call0 (r := (.agg #[(.int .i64 y101.X0), (.int .i64 y101.Y0), (.int .i64 y101.X1), (.int .i64 y101.Y1)])) (wn rfl) rfl Try.call93 (evl_cons rfl (evl_cons rfl evl_nil)) (fun W hW => F_etchhouseref1_wider_ok y100 1 y101 hy101 (HF.start _)) ?_
  refine Tr.alloc 3 (wn rfl) rfl ze_29 fun b102 => ?_
  refine Tr.store 3 (cs := [(.int .i64 y101.X0), (.int .i64 y101.Y0), (.int .i64 y101.X1), (.int .i64 y101.Y1)]) [(.int .i64 y101.X0), (.int .i64 y101.Y0), (.int .i64 y101.X1), (.int .i64 y101.Y1)] (wn rfl) rfl rfl rfl rfl sz_29 rfl rfl rfl ?_
  refine Tr.nil (Tr.normThen ?_)
  refine Tr.sr ?_
  refine Tr.va rfl (fun _ _ h1 h2 => run_loadN (cs := [(.int .i64 y101.X0), (.int .i64 y101.Y0), (.int .i64 y101.X1), (.int .i64 y101.Y1)]) ag_29 sz_29 (h1.ev rfl) (CellsAt.take (rdb h2 (vs := [(.int .i64 y101.X0), (.int .i64 y101.Y0), (.int .i64 y101.X1), (.int .i64 y101.Y1)]) (k := 3) rfl 0) 4) rfl) ?_
  refine Tr.buildSlice 4 (e := 29) (vs := [(0, (.agg #[(.int .i64 y101.X0), (.int .i64 y101.Y0), (.int .i64 y101.X1), (.int .i64 y101.Y1)]))]) (cs := [(.int .i64 y101.X0), (.int .i64 y101.Y0), (.int .i64 y101.X1), (.int .i64 y101.Y1)]) (wn rfl) rfl (evs_cons rfl evs_nil) (by kernel_rfl) fun b103 => ?_
  refine Tr.mv rfl rfl ?_
  refine Tr.own 4 fl_TRect [y101] (css := [[(.int .i64 y101.X0), (.int .i64 y101.Y0), (.int .i64 y101.X1), (.int .i64 y101.Y1)]]) rfl (.cons ⟨(), trivial, rfl⟩ .nil) rfl (by decide) (lit_max rfl) ?_
  obtain ⟨y104, hy104, H⟩ := bnd H
  refine Tr.callM [5] [emp] (U := (Option Addr × Nat)) (fun u => (.slice u.1 (y104).length u.2)) (fun u => SlF u.1 (y104).length u.2) (fun u => [ow u.1 u.2 29 fl_TRect y104]) rfl (pk_cons rfl pk_nil) (fun _ => rfl) (wn rfl) rfl Try.call95 (evl_cons rfl (evl_cons rfl (evl_cons rfl evl_nil))) (fun W hW hp hE => F_etchhouseref1_combined_ok N [y101] (some ⟨b103, 0, none⟩) 1 (hW.slS (k := 4) rfl hp rfl) p0 Ap0_0 cp0_0 (hp0_0.ext (hW.extS hp)) 3 y104 hy104 hE) ?_
  intro u hu
  obtain ⟨Ay104_0, cy104_0⟩ := u
  have gy104_0 := hu
  have hgy104_0 : SlF Ay104_0 (y104).length cy104_0 := gy104_0 --@phi
  show Tr _ _ (uf _ 16 (.slice Ay104_0 (y104).length cy104_0)) (up _ 5 (ow Ay104_0 cy104_0 29 fl_TRect y104)) _
  obtain ⟨y106, hy106, H⟩ := bnd H
  refine Tr.callG [6] [emp] (U := (Option Addr × Nat)) (fun u => (.slice u.1 (y106).length u.2)) (fun O W u => SlF u.1 (y106).length u.2) (fun u => [ow u.1 u.2 22 fl_LTRect y106]) rfl (pk_cons rfl pk_nil) (fun _ => rfl) (wn rfl) rfl Try.call50 (evl_cons rfl evl_nil) (fun W hW hp hE => F_etchhouseref1_PiecesOf_ok N y104 Ay104_0 cy104_0 (hW.slS (k := 5) rfl hp rfl) y106 hy106 hE) ?_
  intro w u le107 hu
  obtain ⟨Ay106_0, cy106_0⟩ := u
  have gy106_0 := hu
  replace hp0_0 := hp0_0.leR le107
  replace leB := leB.trans le107
  have hgy106_0 : SlF Ay106_0 (y106).length cy106_0 := gy106_0 --@phi
  show Tr _ _ (uf _ 17 (.slice Ay106_0 (y106).length cy106_0)) (up _ 6 (ow Ay106_0 cy106_0 22 fl_LTRect y106)) _
  refine Tr.asg rfl rfl ?_
  refine Tr.nil (Tr.normThen ?_)
  refine Tr.sr ?_
  refine Tr.asg rfl rfl ?_
  refine Tr.nilOwn 7 22 fl_LTRect ?_
  show Tr _ _ (uf _ 5 (.slice none (([] : List (List TRect))).length 0)) _ _
  refine Tr.nil (Tr.normThen ?_)
  refine Tr.seq ?_
  refine Tr.sr ?_
  refine Tr.asg rfl rfl ?_
  refine Tr.nil (Tr.normThen ?_)
  refine Tr.block ?_
  refine Tr.loop (σ := (List (List TRect)) × Int × (Option Addr) × Nat) (fun m w s => F_etchhouseref1_HolesOf_L1 N y101 y106 m s.1 s.2.1 = some r ∧ SlF s.2.2.1 (s.1).length s.2.2.2) (fun s => [(3, (.pointer (some ⟨b102, 0, none⟩))), (4, (.slice Ay106_0 (y106).length cy106_0)), (5, (.slice s.2.2.1 (s.1).length s.2.2.2)), (6, (.int .i64 s.2.1))]) (fun s => [(3, bx b102 #[(.int .i64 y101.X0), (.int .i64 y101.Y0), (.int .i64 y101.X1), (.int .i64 y101.Y1)] 29), (6, ow Ay106_0 cy106_0 22 fl_LTRect y106), (7, ow s.2.2.1 s.2.2.2 22 fl_LTRect s.1)]) N (([] : List (List TRect)), 0, none, 0) ⟨H, slf_nil⟩ (.cons rfl (.cons rfl (.cons rfl (.cons rfl .nil)))) (.cons rfl (.cons rfl (.cons rfl .nil))) (fun _ _ h => noSome (h.1)) ?_
  intro w leF_etchhouseref1_HolesOf_L1 mF_etchhouseref1_HolesOf_L1 s hs
  obtain ⟨l128, x129, Al128, cl128⟩ := s
  obtain ⟨H, hl128⟩ := hs
  replace H : F_etchhouseref1_HolesOf_L1 N y101 y106 (mF_etchhouseref1_HolesOf_L1 + 1) l128 x129 = some r := H
  replace leB := leB.trans leF_etchhouseref1_HolesOf_L1
  replace hl128 : SlF Al128 (l128).length cl128 := hl128
  rw [F_etchhouseref1_HolesOf_L1.eq_2] at H
  show Tr _ _ (LF [(3, (.pointer (some ⟨b102, 0, none⟩))), (4, (.slice Ay106_0 (y106).length cy106_0)), (5, (.slice Al128 (l128).length cl128)), (6, (.int .i64 x129))]) (LE [(3, bx b102 #[(.int .i64 y101.X0), (.int .i64 y101.Y0), (.int .i64 y101.X1), (.int .i64 y101.Y1)] 29), (6, ow Ay106_0 cy106_0 22 fl_LTRect y106), (7, ow Al128 cl128 22 fl_LTRect l128)]) _
  refine Tr.seq ?_
  refine Tr.sr ?_
  refine Tr.mv rfl rfl ?_
  refine Tr.mv rfl rfl ?_
  refine Tr.va rfl (fun _ _ h1 h2 => run_len un_40 (h1.ev rfl)) ?_
  refine Tr.va rfl (fun _ _ h1 h2 => run_lss (h1.ev rfl) (h1.ev rfl)) ?_
  refine Tr.nil (Tr.normThen ?_)
  refine Tr.cond rfl H (fun H => ?_) (fun H => ?_)
  ·refine Tr.skip (Tr.normThen ?_)
   refine Tr.seq ?_
   refine Tr.block ?_
   refine Tr.seq ?_
   refine Tr.draw (by kernel_rfl) (by kernel_rfl) ?_
   refine Tq.mv rfl rfl ?_
   refine Tq.mv rfl rfl ?_
   obtain ⟨x130, hx130, H⟩ := bnd H
   obtain ⟨hx1300, hx1301, hx1302⟩ := idx_some hx130
   refine Tq.va rfl (fun _ _ h1 h2 => run_indexAddr el_40 (h1.ev rfl) hgy106_0 (h1.ev rfl) hx1300 hx1301) ?_
   refine Tq.valE (U := (fl_LTRect).Ad) (fun u => (fl_LTRect).ok w.O w.W u x130) (fun u => (.slice u.1 (x130).length u.2)) (wn rfl) rfl (ldN (κ := 6) (t := fl_LTRect) (V := fun u => (.slice u.1 (x130).length u.2)) rfl hx1302 (fun _ _ u h1 hc => run_load1 ag_22 (h1.ev rfl) hc rfl)) ?_
   intro u131 hoku131
   obtain ⟨Au131_0, cu131_0⟩ := u131
   have hoku131_0 := hoku131
   replace hoku131_0 : Sl w.O w.W fl_TRect Au131_0 cu131_0 x130 := hoku131_0
   show Tq _ _ _ _ (uf _ 27 (.slice Au131_0 (x130).length cu131_0)) _ _ _
   obtain ⟨y132, hy132, H⟩ := bnd H
   refine Tq.call0 (r := (.agg #[(.int .i64 y132.X0), (.int .i64 y132.Y0), (.int .i64 y132.X1), (.int .i64 y132.Y1)])) (wn rfl) rfl Try.call94 (evl_cons rfl evl_nil) (fun W hW => F_etchhouseref1_BoundsOf_ok N x130 Au131_0 cu131_0 (hoku131_0.rl.ext hW.extAll) y132 hy132 (HF.start _)) ?_
   refine Tq.va rfl (fun _ _ h1 h2 => run_loadN (cs := [(.int .i64 y101.X0), (.int .i64 y101.Y0), (.int .i64 y101.X1), (.int .i64 y101.Y1)]) ag_29 sz_29 (h1.ev rfl) (CellsAt.take (rdb h2 (vs := [(.int .i64 y101.X0), (.int .i64 y101.Y0), (.int .i64 y101.X1), (.int .i64 y101.Y1)]) (k := 3) rfl 0) 4) rfl) ?_
   refine Tq.va rfl (fun _ _ h1 h2 => run_neq_29 y132 y101 (h1.ev rfl) (h1.ev rfl)) ?_
   refine Tq.nil (Tr.normThen ?_)
   refine Tr.cond rfl H (fun H => ?_) (fun H => ?_)
   ·refine Tr.region ?_
    refine Tr.mv rfl rfl ?_
    refine Tr.mv rfl rfl ?_
    refine Tr.mv rfl rfl ?_
    obtain ⟨x133, hx133, H⟩ := bnd H
    obtain ⟨hx1330, hx1331, hx1332⟩ := idx_some hx133
    refine Tr.va rfl (fun _ _ h1 h2 => run_indexAddr el_40 (h1.ev rfl) hgy106_0 (h1.ev rfl) hx1330 hx1331) ?_
    refine Tr.valE (U := (fl_LTRect).Ad) (fun u => (fl_LTRect).ok w.O w.W u x133) (fun u => (.slice u.1 (x133).length u.2)) (wn rfl) rfl (ldN (κ := 6) (t := fl_LTRect) (V := fun u => (.slice u.1 (x133).length u.2)) rfl hx1332 (fun _ _ u h1 hc => run_load1 ag_22 (h1.ev rfl) hc rfl)) ?_
    intro u134 hoku134
    obtain ⟨Au134_0, cu134_0⟩ := u134
    have hoku134_0 := hoku134
    replace hoku134_0 : Sl w.O w.W fl_TRect Au134_0 cu134_0 x133 := hoku134_0
    show Tr _ _ (uf _ 35 (.slice Au134_0 (x133).length cu134_0)) _ _
    refine Tr.buildSlice 10 (e := 22) (vs := [(0, (.slice Au134_0 (x133).length cu134_0))]) (cs := [(.slice Au134_0 (x133).length cu134_0)]) (wn rfl) rfl (evs_cons rfl evs_nil) (by kernel_rfl) fun b135 => ?_
    obtain ⟨l136, hl136, H⟩ := bnd H
    refine Tr.append 7 (t := fl_LTRect) (l := l128) (l2 := [x133]) (wn rfl) rfl rfl rfl rfl (fun W hW => ⟨[[(.slice Au134_0 (x133).length cu134_0)]], (.cons ⟨(Au134_0, cu134_0), hoku134_0, rfl⟩ .nil), rdb hW (vs := [(.slice Au134_0 (x133).length cu134_0)]) (k := 10) rfl 0⟩) un_40 sz_22 zl_22 (by decide) by_22 rfl hl136 fun Al136 cl136 hAl136 => ?_
    refine Tr.asg rfl rfl ?_
    refine Tr.nil (Tr.normBlock (Tr.normThen ?_))
    refine Tr.region ?_
    refine Tr.mv rfl rfl ?_
    refine Tr.va rfl (fun _ _ h1 h2 => run_add (h1.ev rfl) (h1.ev rfl)) ?_
    refine Tr.asg rfl rfl ?_
    refine Tr.nil ?_
    exact Tr.backThen leF_etchhouseref1_HolesOf_L1 (l136, (w64 (x129 + 1)), Al136, cl136) ⟨H, hAl136⟩ (.cons rfl (.cons rfl (.cons rfl (.cons rfl .nil)))) (.cons rfl (.cons rfl (.cons rfl .nil)))
   ·refine Tr.skip (Tr.normBlock (Tr.normThen ?_))
    refine Tr.region ?_
    refine Tr.mv rfl rfl ?_
    refine Tr.va rfl (fun _ _ h1 h2 => run_add (h1.ev rfl) (h1.ev rfl)) ?_
    refine Tr.asg rfl rfl ?_
    refine Tr.nil ?_
    exact Tr.backThen leF_etchhouseref1_HolesOf_L1 (l128, (w64 (x129 + 1)), Al128, cl128) ⟨H, hl128⟩ (.cons rfl (.cons rfl (.cons rfl (.cons rfl .nil)))) (.cons rfl (.cons rfl (.cons rfl .nil)))
  ·refine Tr.exit (Tr.exitThen (Tr.exitThen (Tr.exitBlock (Tr.normThen ?_))))
   refine Tr.sr ?_
   refine Tr.mv rfl rfl ?_
   refine Tr.asg rfl rfl ?_
   refine Tr.nil (Tr.normThen ?_)
   refine Tr.ret ?_
   obtain rfl := Option.some.inj H
   exact Tr.out (m := [(.slice Al128 (l128).length cl128)]) [] (res_tmp rfl res_nil) (fun W hW => ⟨w, (Al128, cl128), leB, rfl, hl128, hW.pick (ks := [7]) (by decide) (pk_cons rfl pk_nil)⟩)

theorem F_etchhouseref1_Holes_ok (N : Nat) {w : Bs} (p0 : (List TRect)) (Ap0_0 : Option Addr) (cp0_0 : Nat) (hp0_0 : Sl w.R w.W fl_TRect Ap0_0 cp0_0 p0) (r : ((List (List TRect)) × Int)) (H : F_etchhouseref1_Holes N p0 = some r) (hE : HF w w.W (LEn [emp])) : Calls Try.prog 27 [(.slice Ap0_0 (p0).length cp0_0)].toArray w.W fun e W' => ∃ (w' : Bs) (u : (Option Addr × Nat)), w.Le w' ∧ e = .returned (.tuple #[(.slice u.1 (r.1).length u.2), (.int .i64 r.2)]) ∧ (SlF u.1 (r.1).length u.2) ∧ HF w' W' (LEn [ow u.1 u.2 22 fl_LTRect r.1]) := by
 unfold F_etchhouseref1_Holes at H
 have leB := Bs.Le.refl w
 refine Tr.enter (n := 12) Try.func27 rfl rfl rfl hE ?_
 refine Tr.sr ?_
 refine Tr.asg rfl rfl ?_
 refine Tr.nilOwn 1 22 fl_LTRect ?_
 show Tr _ _ (uf _ 2 (.slice none (([] : List (List TRect))).length 0)) _ _
 refine Tr.asg rfl rfl ?_
 refine Tr.nil (Tr.normThen ?_)
 refine Tr.seq ?_
 refine Tr.sr ?_
 refine Tr.mv rfl rfl ?_
 obtain ⟨y100, hy100, H⟩ := bnd H
 refine Tr.call0 (r := (.int .i64 y100)) (wn rfl) rfl Try.call49 (evl_cons rfl evl_nil) (fun W hW => F_etchhouseref1_CheckRegion_ok N p0 Ap0_0 cp0_0 (hp0_0.ext hW.extAll) y100 hy100 (HF.start _)) ?_
 refine Tr.asg rfl rfl ?_
 refine Tr.nil (Tr.normThen ?_)
 refine Tr.sr ?_
 refine Tr.mv rfl rfl ?_
 refine Tr.va rfl (fun _ _ h1 h2 => run_neq (h1.ev rfl) (h1.ev rfl)) ?_
 refine Tr.nil (Tr.normThen ?_)
 refine Tr.cond rfl H (fun H => ?_) (fun H => ?_)
 ·refine Tr.sr ?_
  refine Tr.mv rfl rfl ?_
  refine Tr.asg rfl rfl ?_
  refine Tr.nilOwn 2 22 fl_LTRect ?_
  show Tr _ _ (uf _ 2 (.slice none (([] : List (List TRect))).length 0)) _ _
  refine Tr.asg rfl rfl ?_
  refine Tr.nil (Tr.normThen ?_)
  refine Tr.ret (Tr.retThen ?_)
  obtain rfl := Option.some.inj H
  exact Tr.out (m := [(.slice none (([] : List (List TRect))).length 0), (.int .i64 y100)]) [] (res_tmp rfl (res_tmp rfl res_nil)) (fun W hW => ⟨w, (none, 0), leB, rfl, slf_nil, hW.pick (ks := [2]) (by decide) (pk_cons rfl pk_nil)⟩)
 ·refine Tr.skip (Tr.normThen ?_)
  refine Tr.sr ?_
  refine Tr.mv rfl rfl ?_
  obtain ⟨y101, hy101, H⟩ := bnd H
  refine Tr.callG [3] [emp] (U := (Option Addr × Nat)) (fun u => (.slice u.1 (y101).length u.2)) (fun O W u => SlF u.1 (y101).length u.2) (fun u => [ow u.1 u.2 22 fl_LTRect y101]) rfl (pk_cons rfl pk_nil) (fun _ => rfl) (wn rfl) rfl Try.call55 (evl_cons rfl evl_nil) (fun W hW hp hE => F_etchhouseref1_HolesOf_ok N p0 Ap0_0 cp0_0 (hp0_0.ext (hW.extS hp)) y101 hy101 hE) ?_
  intro w u le102 hu
  obtain ⟨Ay101_0, cy101_0⟩ := u
  have gy101_0 := hu
  replace hp0_0 := hp0_0.leR le102
  replace leB := leB.trans le102
  have hgy101_0 : SlF Ay101_0 (y101).length cy101_0 := gy101_0 --@phi
  show Tr _ _ (uf _ 11 (.slice Ay101_0 (y101).length cy101_0)) (up _ 3 (ow Ay101_0 cy101_0 22 fl_LTRect y101)) _
  refine Tr.asg rfl rfl ?_
  refine Tr.asg rfl rfl ?_
  refine Tr.nil (Tr.normThen ?_)
  refine Tr.ret ?_
  obtain rfl := Option.some.inj H
  exact Tr.out (m := [(.slice Ay101_0 (y101).length cy101_0), (.int .i64 0)]) [] (res_tmp rfl (res_tmp rfl res_nil)) (fun W hW => ⟨w, (Ay101_0, cy101_0), leB, rfl, hgy101_0, hW.pick (ks := [3]) (by decide) (pk_cons rfl pk_nil)⟩)

theorem F_shape_AreaOf_ok {w : Bs} (p0 : (List TRect)) (Ap0_0 : Option Addr) (cp0_0 : Nat) (hp0_0 : Sl w.R w.W fl_TRect Ap0_0 cp0_0 p0) (r : Int) (H : F_shape_AreaOf p0 = some r) (hE : HF w w.W E0) : Calls Try.prog 67 [(.slice Ap0_0 (p0).length cp0_0)].toArray w.W fun e W' => e = .returned (.int .i64 r) ∧ HF w W' E0 := by
 unfold F_shape_AreaOf at H
 have leB := Bs.Le.refl w
 refine Tr.enter (n := 27) Try.func67 rfl rfl rfl hE ?_
 refine Tr.sr ?_
 refine Tr.asg rfl rfl ?_
 refine Tr.nil (Tr.normThen ?_)
 refine Tr.sr ?_
 refine Tr.asg rfl rfl ?_
 refine Tr.nil (Tr.normThen ?_)
 refine Tr.seq ?_
 refine Tr.sr ?_
 refine Tr.mv rfl rfl ?_
 refine Tr.va rfl (fun _ _ h1 h2 => run_len un_22 (h1.ev rfl)) ?_
 refine Tr.mv rfl rfl ?_
 refine Tr.nil (Tr.normThen ?_)
 refine Tr.block ?_
 refine Tr.loop (σ := (List TRect) × Nat × Int) (fun m w s => m = s.1.length + 1 ∧ s.1 = List.drop s.2.1 p0 ∧ s.2.1 ≤ p0.length ∧ F_shape_AreaOf_L1 s.1 s.2.1 s.2.2 = some r) (fun s => [(3, (.int .i64 s.2.2)), (6, (.slice Ap0_0 (p0).length cp0_0)), (7, (.int .i64 (p0.length : Int))), (8, (.int .i64 (s.2.1 : Int)))]) (fun s => []) (p0.length + 1) (p0, 0, 0) ⟨rfl, rfl, Nat.zero_le _, H⟩ (.cons rfl (.cons rfl (.cons rfl (.cons rfl .nil)))) .nil (fun _ _ h => absurd h.1 (by simp)) ?_
 intro w leF_shape_AreaOf_L1 m s hs
 obtain ⟨restF_shape_AreaOf_L1, iF_shape_AreaOf_L1, x110⟩ := s
 obtain ⟨hmF_shape_AreaOf_L1, hdF_shape_AreaOf_L1, hiF_shape_AreaOf_L1, H⟩ := hs
 replace hdF_shape_AreaOf_L1 : restF_shape_AreaOf_L1 = List.drop iF_shape_AreaOf_L1 p0 := hdF_shape_AreaOf_L1
 replace H : F_shape_AreaOf_L1 restF_shape_AreaOf_L1 iF_shape_AreaOf_L1 x110 = some r := H
 replace hmF_shape_AreaOf_L1 : m + 1 = restF_shape_AreaOf_L1.length + 1 := hmF_shape_AreaOf_L1
 replace hp0_0 := hp0_0.leR leF_shape_AreaOf_L1
 replace leB := leB.trans leF_shape_AreaOf_L1
 obtain rfl : m = restF_shape_AreaOf_L1.length := by omega
 clear hmF_shape_AreaOf_L1
 show Tr _ _ (LF [(3, (.int .i64 x110)), (6, (.slice Ap0_0 (p0).length cp0_0)), (7, (.int .i64 (p0.length : Int))), (8, (.int .i64 (iF_shape_AreaOf_L1 : Int)))]) (LE []) _
 cases restF_shape_AreaOf_L1 with
 | nil =>
  rw [F_shape_AreaOf_L1.eq_1] at H
  refine Tr.sr ?_
  refine Tr.va rfl (fun _ _ h1 h2 => run_lss (h1.ev rfl) (h1.ev rfl)) ?_
  refine Tr.nil (Tr.normThen ?_)
  refine Tr.seq ?_
  refine Tr.condF rfl (range_nil hdF_shape_AreaOf_L1) ?_
  refine Tr.exit (Tr.exitThen (Tr.exitThen (Tr.exitBlock (Tr.normThen ?_))))
  refine Tr.sr ?_
  refine Tr.mv rfl rfl ?_
  refine Tr.asg rfl rfl ?_
  refine Tr.nil (Tr.normThen ?_)
  refine Tr.ret ?_
  obtain rfl := Option.some.inj H
  exact Tr.out (m := [(.int .i64 x110)]) [] (res_tmp rfl res_nil) (fun W hW => ⟨rfl, hW.low leB⟩)
 | cons xF_shape_AreaOf_L1 restF_shape_AreaOf_L1 =>
  rw [F_shape_AreaOf_L1.eq_2] at H
  refine Tr.sr ?_
  refine Tr.va rfl (fun _ _ h1 h2 => run_lss (h1.ev rfl) (h1.ev rfl)) ?_
  refine Tr.nil (Tr.normThen ?_)
  refine Tr.seq ?_
  refine Tr.condT rfl (range_on hdF_shape_AreaOf_L1) ?_
  refine Tr.skip (Tr.normThen ?_)
  refine Tr.seq ?_
  refine Tr.block ?_
  refine Tr.sr ?_
  refine Tr.va rfl (fun _ _ h1 h2 => run_indexAddr el_22 (h1.ev rfl) hp0_0.form (h1.ev rfl) (Int.natCast_nonneg _) (range_lt hdF_shape_AreaOf_L1)) ?_
  refine Tr.va rfl (fun _ _ h1 h2 => run_loadN (cs := [(.int .i64 xF_shape_AreaOf_L1.X0), (.int .i64 xF_shape_AreaOf_L1.Y0), (.int .i64 xF_shape_AreaOf_L1.X1), (.int .i64 xF_shape_AreaOf_L1.Y1)]) ag_29 sz_29 (h1.ev rfl) (CellsAt.take (rdF ef_TRect hp0_0 (range_at hdF_shape_AreaOf_L1) h2) 4) rfl) ?_
  refine Tr.alloc 3 (wn rfl) rfl ze_29 fun b111 => ?_
  refine Tr.store 3 (cs := [(.int .i64 xF_shape_AreaOf_L1.X0), (.int .i64 xF_shape_AreaOf_L1.Y0), (.int .i64 xF_shape_AreaOf_L1.X1), (.int .i64 xF_shape_AreaOf_L1.Y1)]) [(.int .i64 xF_shape_AreaOf_L1.X0), (.int .i64 xF_shape_AreaOf_L1.Y0), (.int .i64 xF_shape_AreaOf_L1.X1), (.int .i64 xF_shape_AreaOf_L1.Y1)] (wn rfl) rfl rfl rfl rfl sz_29 rfl rfl rfl ?_
  refine Tr.nil (Tr.normThen ?_)
  refine Tr.region ?_
  refine Tr.mv rfl rfl ?_
  refine Tr.va rfl (fun _ _ h1 h2 => run_fieldAddr fo_29_2 (h1.ev rfl)) ?_
  refine Tr.va rfl (fun _ _ h1 h2 => run_load1 ag_3 (h1.ev rfl) (rdb h2 (vs := [(.int .i64 xF_shape_AreaOf_L1.X0), (.int .i64 xF_shape_AreaOf_L1.Y0), (.int .i64 xF_shape_AreaOf_L1.X1), (.int .i64 xF_shape_AreaOf_L1.Y1)]) (k := 3) rfl 2) rfl) ?_
  refine Tr.va rfl (fun _ _ h1 h2 => run_fieldAddr fo_29_0 (h1.ev rfl)) ?_
  refine Tr.va rfl (fun _ _ h1 h2 => run_load1 ag_3 (h1.ev rfl) (rdb h2 (vs := [(.int .i64 xF_shape_AreaOf_L1.X0), (.int .i64 xF_shape_AreaOf_L1.Y0), (.int .i64 xF_shape_AreaOf_L1.X1), (.int .i64 xF_shape_AreaOf_L1.Y1)]) (k := 3) rfl 0) rfl) ?_
  refine Tr.va rfl (fun _ _ h1 h2 => run_sub (h1.ev rfl) (h1.ev rfl)) ?_
  refine Tr.va rfl (fun _ _ h1 h2 => run_fieldAddr fo_29_3 (h1.ev rfl)) ?_
  refine Tr.va rfl (fun _ _ h1 h2 => run_load1 ag_3 (h1.ev rfl) (rdb h2 (vs := [(.int .i64 xF_shape_AreaOf_L1.X0), (.int .i64 xF_shape_AreaOf_L1.Y0), (.int .i64 xF_shape_AreaOf_L1.X1), (.int .i64 xF_shape_AreaOf_L1.Y1)]) (k := 3) rfl 3) rfl) ?_
  refine Tr.va rfl (fun _ _ h1 h2 => run_fieldAddr fo_29_1 (h1.ev rfl)) ?_
  refine Tr.va rfl (fun _ _ h1 h2 => run_load1 ag_3 (h1.ev rfl) (rdb h2 (vs := [(.int .i64 xF_shape_AreaOf_L1.X0), (.int .i64 xF_shape_AreaOf_L1.Y0), (.int .i64 xF_shape_AreaOf_L1.X1), (.int .i64 xF_shape_AreaOf_L1.Y1)]) (k := 3) rfl 1) rfl) ?_
  refine Tr.va rfl (fun _ _ h1 h2 => run_sub (h1.ev rfl) (h1.ev rfl)) ?_
  refine Tr.va rfl (fun _ _ h1 h2 => run_mul (h1.ev rfl) (h1.ev rfl)) ?_
  refine Tr.va rfl (fun _ _ h1 h2 => run_add (h1.ev rfl) (h1.ev rfl)) ?_
  refine Tr.asg rfl rfl ?_
  refine Tr.nil (Tr.normBlock (Tr.normThen ?_))
  refine Tr.region ?_
  refine Tr.va rfl (fun _ _ h1 h2 => run_add (h1.ev rfl) (h1.ev rfl)) ?_
  refine Tr.mv rfl rfl ?_
  refine Tr.nil ?_
  exact Tr.backThen leF_shape_AreaOf_L1 (restF_shape_AreaOf_L1, (iF_shape_AreaOf_L1 + 1), (w64 (x110 + (w64 ((w64 (xF_shape_AreaOf_L1.X1 - xF_shape_AreaOf_L1.X0)) * (w64 (xF_shape_AreaOf_L1.Y1 - xF_shape_AreaOf_L1.Y0))))))) ⟨rfl, range_tl hdF_shape_AreaOf_L1, range_lt hdF_shape_AreaOf_L1, H⟩ (.cons rfl (.cons rfl (.cons rfl (.cons (congrArg (fun z => some (Value.int .i64 z)) (range_up hdF_shape_AreaOf_L1 hp0_0.form)) .nil)))) .nil

theorem F_shape_Area_ok (N : Nat) {w : Bs} (p0 : (List TRect)) (Ap0_0 : Option Addr) (cp0_0 : Nat) (hp0_0 : Sl w.R w.W fl_TRect Ap0_0 cp0_0 p0) (r : (Int × Int)) (H : F_shape_Area N p0 = some r) (hE : HF w w.W E0) : Calls Try.prog 36 [(.slice Ap0_0 (p0).length cp0_0)].toArray w.W fun e W' => e = .returned (.tuple #[(.int .i64 r.1), (.int .i64 r.2)]) ∧ HF w W' E0 := by
 unfold F_shape_Area at H
 have leB := Bs.Le.refl w
 refine Tr.enter (n := 12) Try.func36 rfl rfl rfl hE ?_
 refine Tr.sr ?_
 refine Tr.asg rfl rfl ?_
 refine Tr.asg rfl rfl ?_
 refine Tr.nil (Tr.normThen ?_)
 refine Tr.seq ?_
 refine Tr.sr ?_
 refine Tr.mv rfl rfl ?_
 obtain ⟨y100, hy100, H⟩ := bnd H
 refine Tr.call0 (r := (.int .i64 y100)) (wn rfl) rfl Try.call18 (evl_cons rfl evl_nil) (fun W hW => F_shape_CheckRegion_ok N p0 Ap0_0 cp0_0 (hp0_0.ext hW.extAll) y100 hy100 (HF.start _)) ?_
 refine Tr.asg rfl rfl ?_
 refine Tr.nil (Tr.normThen ?_)
 refine Tr.sr ?_
 refine Tr.mv rfl rfl ?_
 refine Tr.va rfl (fun _ _ h1 h2 => run_neq (h1.ev rfl) (h1.ev rfl)) ?_
 refine Tr.nil (Tr.normThen ?_)
 refine Tr.cond rfl H (fun H => ?_) (fun H => ?_)
 ·refine Tr.sr ?_
  refine Tr.mv rfl rfl ?_
  refine Tr.asg rfl rfl ?_
  refine Tr.asg rfl rfl ?_
  refine Tr.nil (Tr.normThen ?_)
  refine Tr.ret (Tr.retThen ?_)
  obtain rfl := Option.some.inj H
  exact Tr.out (m := [(.int .i64 0), (.int .i64 y100)]) [] (res_tmp rfl (res_tmp rfl res_nil)) (fun W hW => ⟨rfl, hW.low leB⟩)
 ·refine Tr.skip (Tr.normThen ?_)
  refine Tr.sr ?_
  refine Tr.mv rfl rfl ?_
  obtain ⟨y101, hy101, H⟩ := bnd H
  refine Tr.call0 (r := (.int .i64 y101)) (wn rfl) rfl Try.call67 (evl_cons rfl evl_nil) (fun W hW => F_shape_AreaOf_ok p0 Ap0_0 cp0_0 (hp0_0.ext hW.extAll) y101 hy101 (HF.start _)) ?_
  refine Tr.asg rfl rfl ?_
  refine Tr.asg rfl rfl ?_
  refine Tr.nil (Tr.normThen ?_)
  refine Tr.ret ?_
  obtain rfl := Option.some.inj H
  exact Tr.out (m := [(.int .i64 y101), (.int .i64 0)]) [] (res_tmp rfl (res_tmp rfl res_nil)) (fun W hW => ⟨rfl, hW.low leB⟩)

theorem F_etchhouselaw1_awake_ok (N : Nat) {w : Bs}  (r : Bool) (H : F_etchhouselaw1_awake N = some r) (hE : HF w w.W E0) : Calls Try.prog 12 [].toArray w.W fun e W' => e = .returned (.bool r) ∧ HF w W' E0 := by
 unfold F_etchhouselaw1_awake at H
 have leB := Bs.Le.refl w
 refine Tr.enter (n := 15) Try.func12 rfl rfl rfl hE ?_
 refine Tr.sr ?_
 refine Tr.asg rfl rfl ?_
 refine Tr.nil (Tr.normThen ?_)
 refine Tr.sr ?_
 refine Tr.build (vs := [(2, (.int .i64 2)), (3, (.int .i64 3))]) (cs := [(.int .i64 0), (.int .i64 0), (.int .i64 2), (.int .i64 3)]) (wn rfl) rfl (evs_cons rfl (evs_cons rfl evs_nil)) (by kernel_rfl) ?_
 refine Tr.buildSlice 1 (e := 29) (vs := [(0, (.agg #[(.int .i64 0), (.int .i64 0), (.int .i64 2), (.int .i64 3)]))]) (cs := [(.int .i64 0), (.int .i64 0), (.int .i64 2), (.int .i64 3)]) (wn rfl) rfl (evs_cons rfl evs_nil) (by kernel_rfl) fun b100 => ?_
 refine Tr.own 1 fl_TRect [(TRect.mk 0 0 2 3)] (css := [[(.int .i64 0), (.int .i64 0), (.int .i64 2), (.int .i64 3)]]) rfl (.cons ⟨(), trivial, rfl⟩ .nil) rfl (by decide) (lit_max rfl) ?_
 obtain ⟨y101, hy101, H⟩ := bnd H
 refine Tr.call0 (r := (.tuple #[(.int .i64 y101.1), (.int .i64 y101.2)])) (wn rfl) rfl Try.call36 (evl_cons rfl evl_nil) (fun W hW => F_shape_Area_ok N [(TRect.mk 0 0 2 3)] (some ⟨b100, 0, none⟩) 1 (hW.slCall (k := 1) rfl) y101 hy101 (HF.start _)) ?_
 refine Tr.mv rfl rfl ?_
 refine Tr.va rfl (fun _ _ h1 h2 => run_extract (h1.ev rfl) rfl) ?_
 refine Tr.va rfl (fun _ _ h1 h2 => run_extract (h1.ev rfl) rfl) ?_
 refine Tr.asg rfl rfl ?_
 refine Tr.asg rfl rfl ?_
 refine Tr.nil (Tr.normThen ?_)
 refine Tr.sr ?_
 refine Tr.mv rfl rfl ?_
 refine Tr.va rfl (fun _ _ h1 h2 => run_eql (h1.ev rfl) (h1.ev rfl)) ?_
 refine Tr.mv rfl rfl ?_
 refine Tr.mid0 3 [(14, (.bool ((y101.2 == 0) && (y101.1 == 6))))] [(1, ow (some ⟨b100, 0, none⟩) 1 29 fl_TRect [(TRect.mk 0 0 2 3)])] ?_ ?_
 ·cases hg101 : (y101.2 == 0)
  ·refine Tr.pass rfl rfl rfl rfl rfl (by decide) ?_
   refine Tr.pass rfl rfl rfl rfl rfl (by decide) ?_
   refine Tr.va rfl (fun _ _ h1 h2 => run_pickF (h1.ev rfl) (h1.ev rfl)) ?_
   exact Tr.nil (Tr.fin0 (.cons rfl .nil) (.cons rfl .nil))
  ·refine Tr.val (wg rfl rfl rfl) rfl (fun _ _ h1 h2 => run_move (h1.ev rfl)) ?_
   refine Tr.val (wg rfl rfl rfl) rfl (fun _ _ h1 h2 => run_eql (h1.ev rfl) (h1.ev rfl)) ?_
   refine Tr.va rfl (fun _ _ h1 h2 => run_pickT (h1.ev rfl) (h1.ev rfl)) ?_
   exact Tr.nil (Tr.fin0 (.cons rfl .nil) (.cons rfl .nil))
 ·show Tr _ _ (LF [(14, (.bool ((y101.2 == 0) && (y101.1 == 6))))]) (LE [(1, ow (some ⟨b100, 0, none⟩) 1 29 fl_TRect [(TRect.mk 0 0 2 3)])]) _
  refine Tr.asg rfl rfl ?_
  refine Tr.nil (Tr.normThen ?_)
  refine Tr.ret ?_
  obtain rfl := Option.some.inj H
  exact Tr.out (m := [(.bool ((y101.2 == 0) && (y101.1 == 6)))]) [] (res_tmp rfl res_nil) (fun W hW => ⟨rfl, hW.low leB⟩)

theorem F_slices_EqualFunc_Rect__Rect_ok {w : Bs} (p0 : (List (List TRect))) (Ap0_0 : Option Addr) (cp0_0 : Nat) (hp0_0 : Sl w.R w.W fl_LTRect Ap0_0 cp0_0 p0) (p1 : (List (List TRect))) (Ap1_0 : Option Addr) (cp1_0 : Nat) (hp1_0 : Sl w.R w.W fl_LTRect Ap1_0 cp1_0 p1) (r : Bool) (H : F_slices_EqualFunc_Rect__Rect p0 p1 = some r) (hE : HF w w.W E0) : Calls Try.prog 28 [(.slice Ap0_0 (p0).length cp0_0), (.slice Ap1_0 (p1).length cp1_0), (.func (.func 13) #[] #[])].toArray w.W fun e W' => e = .returned (.bool r) ∧ HF w W' E0 := by
 unfold F_slices_EqualFunc_Rect__Rect at H
 have leB := Bs.Le.refl w
 refine Tr.enter (n := 32) Try.func28 rfl rfl rfl hE ?_
 refine Tr.sr ?_
 refine Tr.asg rfl rfl ?_
 refine Tr.nil (Tr.normThen ?_)
 refine Tr.seq ?_
 refine Tr.sr ?_
 refine Tr.mv rfl rfl ?_
 refine Tr.va rfl (fun _ _ h1 h2 => run_len un_40 (h1.ev rfl)) ?_
 refine Tr.mv rfl rfl ?_
 refine Tr.va rfl (fun _ _ h1 h2 => run_len un_40 (h1.ev rfl)) ?_
 refine Tr.va rfl (fun _ _ h1 h2 => run_neq (h1.ev rfl) (h1.ev rfl)) ?_
 refine Tr.nil (Tr.normThen ?_)
 refine Tr.cond rfl H (fun H => ?_) (fun H => ?_)
 ·refine Tr.sr ?_
  refine Tr.asg rfl rfl ?_
  refine Tr.nil (Tr.normThen ?_)
  refine Tr.ret (Tr.retThen ?_)
  obtain rfl := Option.some.inj H
  exact Tr.out (m := [(.bool false)]) [] (res_tmp rfl res_nil) (fun W hW => ⟨rfl, hW.low leB⟩)
 ·refine Tr.skip (Tr.normThen ?_)
  refine Tr.seq ?_
  refine Tr.sr ?_
  refine Tr.mv rfl rfl ?_
  refine Tr.va rfl (fun _ _ h1 h2 => run_len un_40 (h1.ev rfl)) ?_
  refine Tr.mv rfl rfl ?_
  refine Tr.nil (Tr.normThen ?_)
  refine Tr.block ?_
  refine Tr.loop (σ := (List (List TRect)) × Nat) (fun m w s => m = s.1.length + 1 ∧ s.1 = List.drop s.2 p0 ∧ s.2 ≤ p0.length ∧ F_slices_EqualFunc_Rect__Rect_L1 p1 s.1 s.2 = some r) (fun s => [(1, (.slice Ap1_0 (p1).length cp1_0)), (2, (.func (.func 13) #[] #[])), (15, (.slice Ap0_0 (p0).length cp0_0)), (16, (.int .i64 (p0.length : Int))), (17, (.int .i64 (s.2 : Int)))]) (fun s => []) (p0.length + 1) (p0, 0) ⟨rfl, rfl, Nat.zero_le _, H⟩ (.cons rfl (.cons rfl (.cons rfl (.cons rfl (.cons rfl .nil))))) .nil (fun _ _ h => absurd h.1 (by simp)) ?_
  intro w leF_slices_EqualFunc_Rect__Rect_L1 m s hs
  obtain ⟨restF_slices_EqualFunc_Rect__Rect_L1, iF_slices_EqualFunc_Rect__Rect_L1⟩ := s
  obtain ⟨hmF_slices_EqualFunc_Rect__Rect_L1, hdF_slices_EqualFunc_Rect__Rect_L1, hiF_slices_EqualFunc_Rect__Rect_L1, H⟩ := hs
  replace hdF_slices_EqualFunc_Rect__Rect_L1 : restF_slices_EqualFunc_Rect__Rect_L1 = List.drop iF_slices_EqualFunc_Rect__Rect_L1 p0 := hdF_slices_EqualFunc_Rect__Rect_L1
  replace H : F_slices_EqualFunc_Rect__Rect_L1 p1 restF_slices_EqualFunc_Rect__Rect_L1 iF_slices_EqualFunc_Rect__Rect_L1 = some r := H
  replace hmF_slices_EqualFunc_Rect__Rect_L1 : m + 1 = restF_slices_EqualFunc_Rect__Rect_L1.length + 1 := hmF_slices_EqualFunc_Rect__Rect_L1
  replace hp1_0 := hp1_0.leR leF_slices_EqualFunc_Rect__Rect_L1
  replace hp0_0 := hp0_0.leR leF_slices_EqualFunc_Rect__Rect_L1
  replace leB := leB.trans leF_slices_EqualFunc_Rect__Rect_L1
  obtain rfl : m = restF_slices_EqualFunc_Rect__Rect_L1.length := by omega
  clear hmF_slices_EqualFunc_Rect__Rect_L1
  show Tr _ _ (LF [(1, (.slice Ap1_0 (p1).length cp1_0)), (2, (.func (.func 13) #[] #[])), (15, (.slice Ap0_0 (p0).length cp0_0)), (16, (.int .i64 (p0.length : Int))), (17, (.int .i64 (iF_slices_EqualFunc_Rect__Rect_L1 : Int)))]) (LE []) _
  cases restF_slices_EqualFunc_Rect__Rect_L1 with
  | nil =>
   rw [F_slices_EqualFunc_Rect__Rect_L1.eq_1] at H
   refine Tr.sr ?_
   refine Tr.va rfl (fun _ _ h1 h2 => run_lss (h1.ev rfl) (h1.ev rfl)) ?_
   refine Tr.nil (Tr.normThen ?_)
   refine Tr.seq ?_
   refine Tr.condF rfl (range_nil hdF_slices_EqualFunc_Rect__Rect_L1) ?_
   refine Tr.exit (Tr.exitThen (Tr.exitThen (Tr.exitBlock (Tr.normThen ?_))))
   refine Tr.sr ?_
   refine Tr.asg rfl rfl ?_
   refine Tr.nil (Tr.normThen ?_)
   refine Tr.ret ?_
   obtain rfl := Option.some.inj H
   exact Tr.out (m := [(.bool true)]) [] (res_tmp rfl res_nil) (fun W hW => ⟨rfl, hW.low leB⟩)
  | cons xF_slices_EqualFunc_Rect__Rect_L1 restF_slices_EqualFunc_Rect__Rect_L1 =>
   rw [F_slices_EqualFunc_Rect__Rect_L1.eq_2] at H
   refine Tr.sr ?_
   refine Tr.va rfl (fun _ _ h1 h2 => run_lss (h1.ev rfl) (h1.ev rfl)) ?_
   refine Tr.nil (Tr.normThen ?_)
   refine Tr.seq ?_
   refine Tr.condT rfl (range_on hdF_slices_EqualFunc_Rect__Rect_L1) ?_
   refine Tr.skip (Tr.normThen ?_)
   refine Tr.seq ?_
   refine Tr.block ?_
   refine Tr.sr ?_
   refine Tr.mv rfl rfl ?_
   obtain ⟨u106, hRu106, hoku106, hcu106⟩ := (hp0_0).el (range_at hdF_slices_EqualFunc_Rect__Rect_L1)
   obtain ⟨Au106_0, cu106_0⟩ := u106
   have hoku106_0 := hoku106
   replace hoku106_0 : Sl w.R w.W fl_TRect Au106_0 cu106_0 xF_slices_EqualFunc_Rect__Rect_L1 := hoku106_0
   refine Tr.va rfl (fun _ _ h1 h2 => run_indexAddr el_40 (h1.ev rfl) hp0_0.form (h1.ev rfl) (Int.natCast_nonneg _) (range_lt hdF_slices_EqualFunc_Rect__Rect_L1)) ?_
   refine Tr.va rfl (fun _ _ h1 h2 => run_load1 ag_22 (h1.ev rfl) (rdR hRu106 hcu106 h2) rfl) ?_
   refine Tr.asg rfl rfl ?_
   refine Tr.asg rfl rfl ?_
   refine Tr.nil (Tr.normThen ?_)
   refine Tr.sr ?_
   refine Tr.mv rfl rfl ?_
   refine Tr.mv rfl rfl ?_
   obtain ⟨x107, hx107, H⟩ := bnd H
   obtain ⟨hx1070, hx1071, hx1072⟩ := idx_some hx107
   obtain ⟨u108, hRu108, hoku108, hcu108⟩ := (hp1_0).el hx1072
   obtain ⟨Au108_0, cu108_0⟩ := u108
   have hoku108_0 := hoku108
   replace hoku108_0 : Sl w.R w.W fl_TRect Au108_0 cu108_0 x107 := hoku108_0
   refine Tr.va rfl (fun _ _ h1 h2 => run_indexAddr el_40 (h1.ev rfl) hp1_0.form (h1.ev rfl) hx1070 hx1071) ?_
   refine Tr.va rfl (fun _ _ h1 h2 => run_load1 ag_22 (h1.ev rfl) (rdR hRu108 hcu108 h2) rfl) ?_
   refine Tr.asg rfl rfl ?_
   refine Tr.nil (Tr.normThen ?_)
   refine Tr.sr ?_
   refine Tr.mv rfl rfl ?_
   refine Tr.mv rfl rfl ?_
   refine Tr.mv rfl rfl ?_
   obtain ⟨y109, hy109, H⟩ := bnd H
   refine Tr.callF (r := (.bool y109)) (wn rfl) rfl rfl Try.call13 (evl_cons rfl (evl_cons rfl evl_nil)) (fun W hW => F_slices_Equal_Rect_ok xF_slices_EqualFunc_Rect__Rect_L1 Au106_0 cu106_0 (hoku106_0.ext hW.extAll) x107 Au108_0 cu108_0 (hoku108_0.ext hW.extAll) y109 hy109 (HF.start _)) ?_
   refine Tr.va rfl (fun _ _ h1 h2 => run_not (h1.ev rfl)) ?_
   refine Tr.nil (Tr.normThen ?_)
   refine Tr.cond rfl H (fun H => ?_) (fun H => ?_)
   ·refine Tr.sr ?_
    refine Tr.asg rfl rfl ?_
    refine Tr.nil (Tr.normThen ?_)
    refine Tr.ret (Tr.retBlock (Tr.retThen (Tr.retThen (Tr.retBlock (Tr.retThen ?_)))))
    obtain rfl := Option.some.inj H
    exact Tr.out (m := [(.bool false)]) [] (res_tmp rfl res_nil) (fun W hW => ⟨rfl, hW.low leB⟩)
   ·refine Tr.skip (Tr.normBlock (Tr.normThen ?_))
    refine Tr.region ?_
    refine Tr.va rfl (fun _ _ h1 h2 => run_add (h1.ev rfl) (h1.ev rfl)) ?_
    refine Tr.mv rfl rfl ?_
    refine Tr.nil ?_
    exact Tr.backThen leF_slices_EqualFunc_Rect__Rect_L1 (restF_slices_EqualFunc_Rect__Rect_L1, (iF_slices_EqualFunc_Rect__Rect_L1 + 1)) ⟨rfl, range_tl hdF_slices_EqualFunc_Rect__Rect_L1, range_lt hdF_slices_EqualFunc_Rect__Rect_L1, H⟩ (.cons rfl (.cons rfl (.cons rfl (.cons rfl (.cons (congrArg (fun z => some (Value.int .i64 z)) (range_up hdF_slices_EqualFunc_Rect__Rect_L1 hp0_0.form)) .nil))))) .nil

theorem F_etchhouselaw1_PiecesMatchSpec_ok (N : Nat) {w : Bs} (p0 : (List TRect)) (Ap0_0 : Option Addr) (cp0_0 : Nat) (hp0_0 : Sl w.R w.W fl_TRect Ap0_0 cp0_0 p0) (r : Bool) (H : F_etchhouselaw1_PiecesMatchSpec N p0 = some r) (hE : HF w w.W E0) : Calls Try.prog 7 [(.slice Ap0_0 (p0).length cp0_0)].toArray w.W fun e W' => e = .returned (.bool r) ∧ HF w W' E0 := by
 unfold F_etchhouselaw1_PiecesMatchSpec at H
 have leB := Bs.Le.refl w
 refine Tr.enter (n := 52) Try.func7 rfl rfl rfl hE ?_
 refine Tr.sr ?_
 refine Tr.asg rfl rfl ?_
 refine Tr.nil (Tr.normThen ?_)
 refine Tr.sr ?_
 refine Tr.mv rfl rfl ?_
 obtain ⟨y100, hy100, H⟩ := bnd H
 refine Tr.callG [1] [emp] (U := (Option Addr × Nat)) (fun u => (.tuple #[(.slice u.1 (y100.1).length u.2), (.int .i64 y100.2)])) (fun O W u => SlF u.1 (y100.1).length u.2) (fun u => [ow u.1 u.2 22 fl_LTRect y100.1]) rfl (pk_cons rfl pk_nil) (fun _ => rfl) (wn rfl) rfl Try.call22 (evl_cons rfl evl_nil) (fun W hW hp hE => F_shape_Pieces_ok N p0 Ap0_0 cp0_0 (hp0_0.ext (hW.extS hp)) y100 hy100 hE) ?_
 intro w u le101 hu
 obtain ⟨Ay100_0, cy100_0⟩ := u
 have gy100_0 := hu
 replace hp0_0 := hp0_0.leR le101
 replace leB := leB.trans le101
 have hgy100_0 : SlF Ay100_0 (y100.1).length cy100_0 := gy100_0 --@phi
 show Tr _ _ (uf _ 13 (.tuple #[(.slice Ay100_0 (y100.1).length cy100_0), (.int .i64 y100.2)])) (up _ 1 (ow Ay100_0 cy100_0 22 fl_LTRect y100.1)) _
 refine Tr.mv rfl rfl ?_
 refine Tr.va rfl (fun _ _ h1 h2 => run_extract (h1.ev rfl) rfl) ?_
 refine Tr.va rfl (fun _ _ h1 h2 => run_extract (h1.ev rfl) rfl) ?_
 refine Tr.asg rfl rfl ?_
 refine Tr.asg rfl rfl ?_
 refine Tr.nil (Tr.normThen ?_)
 refine Tr.sr ?_
 refine Tr.mv rfl rfl ?_
 obtain ⟨y102, hy102, H⟩ := bnd H
 refine Tr.callG [2] [emp] (U := (Option Addr × Nat)) (fun u => (.tuple #[(.slice u.1 (y102.1).length u.2), (.int .i64 y102.2)])) (fun O W u => SlF u.1 (y102.1).length u.2) (fun u => [ow u.1 u.2 22 fl_LTRect y102.1]) rfl (pk_cons rfl pk_nil) (fun _ => rfl) (wn rfl) rfl Try.call25 (evl_cons rfl evl_nil) (fun W hW hp hE => F_etchhouseref1_Pieces_ok N p0 Ap0_0 cp0_0 (hp0_0.ext (hW.extS hp)) y102 hy102 hE) ?_
 intro w u le103 hu
 obtain ⟨Ay102_0, cy102_0⟩ := u
 have gy102_0 := hu
 replace hp0_0 := hp0_0.leR le103
 replace leB := leB.trans le103
 have hgy102_0 : SlF Ay102_0 (y102.1).length cy102_0 := gy102_0 --@phi
 show Tr _ _ (uf _ 18 (.tuple #[(.slice Ay102_0 (y102.1).length cy102_0), (.int .i64 y102.2)])) (up _ 2 (ow Ay102_0 cy102_0 22 fl_LTRect y102.1)) _
 refine Tr.mv rfl rfl ?_
 refine Tr.va rfl (fun _ _ h1 h2 => run_extract (h1.ev rfl) rfl) ?_
 refine Tr.va rfl (fun _ _ h1 h2 => run_extract (h1.ev rfl) rfl) ?_
 refine Tr.asg rfl rfl ?_
 refine Tr.asg rfl rfl ?_
 refine Tr.nil (Tr.normThen ?_)
 refine Tr.sr ?_
 refine Tr.mv rfl rfl ?_
 obtain ⟨y104, hy104, H⟩ := bnd H
 refine Tr.callG [3] [emp] (U := (Option Addr × Nat)) (fun u => (.tuple #[(.slice u.1 (y104.1).length u.2), (.int .i64 y104.2)])) (fun O W u => SlF u.1 (y104.1).length u.2) (fun u => [ow u.1 u.2 22 fl_LTRect y104.1]) rfl (pk_cons rfl pk_nil) (fun _ => rfl) (wn rfl) rfl Try.call26 (evl_cons rfl evl_nil) (fun W hW hp hE => F_shape_Holes_ok N p0 Ap0_0 cp0_0 (hp0_0.ext (hW.extS hp)) y104 hy104 hE) ?_
 intro w u le105 hu
 obtain ⟨Ay104_0, cy104_0⟩ := u
 have gy104_0 := hu
 replace hp0_0 := hp0_0.leR le105
 replace leB := leB.trans le105
 have hgy104_0 : SlF Ay104_0 (y104.1).length cy104_0 := gy104_0 --@phi
 show Tr _ _ (uf _ 23 (.tuple #[(.slice Ay104_0 (y104.1).length cy104_0), (.int .i64 y104.2)])) (up _ 3 (ow Ay104_0 cy104_0 22 fl_LTRect y104.1)) _
 refine Tr.mv rfl rfl ?_
 refine Tr.va rfl (fun _ _ h1 h2 => run_extract (h1.ev rfl) rfl) ?_
 refine Tr.va rfl (fun _ _ h1 h2 => run_extract (h1.ev rfl) rfl) ?_
 refine Tr.asg rfl rfl ?_
 refine Tr.asg rfl rfl ?_
 refine Tr.nil (Tr.normThen ?_)
 refine Tr.sr ?_
 refine Tr.mv rfl rfl ?_
 obtain ⟨y106, hy106, H⟩ := bnd H
 refine Tr.callG [4] [emp] (U := (Option Addr × Nat)) (fun u => (.tuple #[(.slice u.1 (y106.1).length u.2), (.int .i64 y106.2)])) (fun O W u => SlF u.1 (y106.1).length u.2) (fun u => [ow u.1 u.2 22 fl_LTRect y106.1]) rfl (pk_cons rfl pk_nil) (fun _ => rfl) (wn rfl) rfl Try.call27 (evl_cons rfl evl_nil) (fun W hW hp hE => F_etchhouseref1_Holes_ok N p0 Ap0_0 cp0_0 (hp0_0.ext (hW.extS hp)) y106 hy106 hE) ?_
 intro w u le107 hu
 obtain ⟨Ay106_0, cy106_0⟩ := u
 have gy106_0 := hu
 replace hp0_0 := hp0_0.leR le107
 replace leB := leB.trans le107
 have hgy106_0 : SlF Ay106_0 (y106.1).length cy106_0 := gy106_0 --@phi
 show Tr _ _ (uf _ 28 (.tuple #[(.slice Ay106_0 (y106.1).length cy106_0), (.int .i64 y106.2)])) (up _ 4 (ow Ay106_0 cy106_0 22 fl_LTRect y106.1)) _
 refine Tr.mv rfl rfl ?_
 refine Tr.va rfl (fun _ _ h1 h2 => run_extract (h1.ev rfl) rfl) ?_
 refine Tr.va rfl (fun _ _ h1 h2 => run_extract (h1.ev rfl) rfl) ?_
 refine Tr.asg rfl rfl ?_
 refine Tr.asg rfl rfl ?_
 refine Tr.nil (Tr.normThen ?_)
 refine Tr.sr ?_
 refine Tr.mv rfl rfl ?_
 refine Tr.mv rfl rfl ?_
 obtain ⟨y108, hy108, H⟩ := bnd H
 refine Tr.call0 (r := (.bool y108)) (wn rfl) rfl Try.call28 (evl_cons rfl (evl_cons rfl (evl_cons rfl evl_nil))) (fun W hW => F_slices_EqualFunc_Rect__Rect_ok y100.1 Ay100_0 cy100_0 (hW.slCall (k := 1) rfl) y102.1 Ay102_0 cy102_0 (hW.slCall (k := 2) rfl) y108 hy108 (HF.start _)) ?_
 refine Tr.mv rfl rfl ?_
 refine Tr.mid0 4 [(7, (.slice Ay104_0 (y104.1).length cy104_0)), (8, (.int .i64 y104.2)), (9, (.slice Ay106_0 (y106.1).length cy106_0)), (10, (.int .i64 y106.2)), (38, (.bool (y108 && (y100.2 == y102.2))))] [(1, ow Ay100_0 cy100_0 22 fl_LTRect y100.1), (2, ow Ay102_0 cy102_0 22 fl_LTRect y102.1), (3, ow Ay104_0 cy104_0 22 fl_LTRect y104.1), (4, ow Ay106_0 cy106_0 22 fl_LTRect y106.1)] ?_ ?_
 ·cases hg114 : y108
  ·refine Tr.pass rfl rfl rfl rfl rfl (by decide) ?_
   refine Tr.pass rfl rfl rfl rfl rfl (by decide) ?_
   refine Tr.pass rfl rfl rfl rfl rfl (by decide) ?_
   refine Tr.va rfl (fun _ _ h1 h2 => run_pickF (h1.ev rfl) (h1.ev rfl)) ?_
   exact Tr.nil (Tr.fin0 (.cons rfl (.cons rfl (.cons rfl (.cons rfl (.cons rfl .nil))))) (.cons rfl (.cons rfl (.cons rfl (.cons rfl .nil)))))
  ·refine Tr.val (wg rfl rfl rfl) rfl (fun _ _ h1 h2 => run_move (h1.ev rfl)) ?_
   refine Tr.val (wg rfl rfl rfl) rfl (fun _ _ h1 h2 => run_move (h1.ev rfl)) ?_
   refine Tr.val (wg rfl rfl rfl) rfl (fun _ _ h1 h2 => run_eql (h1.ev rfl) (h1.ev rfl)) ?_
   refine Tr.va rfl (fun _ _ h1 h2 => run_pickT (h1.ev rfl) (h1.ev rfl)) ?_
   exact Tr.nil (Tr.fin0 (.cons rfl (.cons rfl (.cons rfl (.cons rfl (.cons rfl .nil))))) (.cons rfl (.cons rfl (.cons rfl (.cons rfl .nil)))))
 ·show Tr _ _ (LF [(7, (.slice Ay104_0 (y104.1).length cy104_0)), (8, (.int .i64 y104.2)), (9, (.slice Ay106_0 (y106.1).length cy106_0)), (10, (.int .i64 y106.2)), (38, (.bool (y108 && (y100.2 == y102.2))))]) (LE [(1, ow Ay100_0 cy100_0 22 fl_LTRect y100.1), (2, ow Ay102_0 cy102_0 22 fl_LTRect y102.1), (3, ow Ay104_0 cy104_0 22 fl_LTRect y104.1), (4, ow Ay106_0 cy106_0 22 fl_LTRect y106.1)]) _
  refine Tr.mv rfl rfl ?_
  obtain ⟨g110, hg110, H⟩ := bnd H
  refine Tr.mid0 4 [(8, (.int .i64 y104.2)), (10, (.int .i64 y106.2)), (43, (.bool g110))] [(1, ow Ay100_0 cy100_0 22 fl_LTRect y100.1), (2, ow Ay102_0 cy102_0 22 fl_LTRect y102.1), (3, ow Ay104_0 cy104_0 22 fl_LTRect y104.1), (4, ow Ay106_0 cy106_0 22 fl_LTRect y106.1)] ?_ ?_
  ·cases hg114 : (y108 && (y100.2 == y102.2))
   ·rw [hg114] at hg110
    rw [if_neg (by decide)] at hg110
    have H := hg110
    obtain rfl := Option.some.inj H
    refine Tr.pass rfl rfl rfl rfl rfl (by decide) ?_
    refine Tr.pass rfl rfl rfl rfl rfl (by decide) ?_
    refine Tr.pass rfl rfl rfl rfl rfl (by decide) ?_
    refine Tr.va rfl (fun _ _ h1 h2 => run_pickF (h1.ev rfl) (h1.ev rfl)) ?_
    exact Tr.nil (Tr.fin0 (.cons rfl (.cons rfl (.cons rfl .nil))) (.cons rfl (.cons rfl (.cons rfl (.cons rfl .nil)))))
   ·rw [hg114] at hg110
    rw [if_pos rfl] at hg110
    have H := hg110
    refine Tr.val (wg rfl rfl rfl) rfl (fun _ _ h1 h2 => run_move (h1.ev rfl)) ?_
    refine Tr.val (wg rfl rfl rfl) rfl (fun _ _ h1 h2 => run_move (h1.ev rfl)) ?_
    obtain ⟨y111, hy111, H⟩ := bnd H
    refine Tr.call0 (r := (.bool y111)) (wg rfl rfl rfl) rfl Try.call28 (evl_cons rfl (evl_cons rfl (evl_cons rfl evl_nil))) (fun W hW => F_slices_EqualFunc_Rect__Rect_ok y104.1 Ay104_0 cy104_0 (hW.slCall (k := 3) rfl) y106.1 Ay106_0 cy106_0 (hW.slCall (k := 4) rfl) y111 hy111 (HF.start _)) ?_
    refine Tr.va rfl (fun _ _ h1 h2 => run_pickT (h1.ev rfl) (h1.ev rfl)) ?_
    obtain rfl := Option.some.inj H
    exact Tr.nil (Tr.fin0 (.cons rfl (.cons rfl (.cons rfl .nil))) (.cons rfl (.cons rfl (.cons rfl (.cons rfl .nil)))))
  ·show Tr _ _ (LF [(8, (.int .i64 y104.2)), (10, (.int .i64 y106.2)), (43, (.bool g110))]) (LE [(1, ow Ay100_0 cy100_0 22 fl_LTRect y100.1), (2, ow Ay102_0 cy102_0 22 fl_LTRect y102.1), (3, ow Ay104_0 cy104_0 22 fl_LTRect y104.1), (4, ow Ay106_0 cy106_0 22 fl_LTRect y106.1)]) _
   refine Tr.mv rfl rfl ?_
   refine Tr.mid0 4 [(48, (.bool (g110 && (y104.2 == y106.2))))] [(1, ow Ay100_0 cy100_0 22 fl_LTRect y100.1), (2, ow Ay102_0 cy102_0 22 fl_LTRect y102.1), (3, ow Ay104_0 cy104_0 22 fl_LTRect y104.1), (4, ow Ay106_0 cy106_0 22 fl_LTRect y106.1)] ?_ ?_
   ·cases hg114 : g110
    ·refine Tr.pass rfl rfl rfl rfl rfl (by decide) ?_
     refine Tr.pass rfl rfl rfl rfl rfl (by decide) ?_
     refine Tr.pass rfl rfl rfl rfl rfl (by decide) ?_
     refine Tr.va rfl (fun _ _ h1 h2 => run_pickF (h1.ev rfl) (h1.ev rfl)) ?_
     exact Tr.nil (Tr.fin0 (.cons rfl .nil) (.cons rfl (.cons rfl (.cons rfl (.cons rfl .nil)))))
    ·refine Tr.val (wg rfl rfl rfl) rfl (fun _ _ h1 h2 => run_move (h1.ev rfl)) ?_
     refine Tr.val (wg rfl rfl rfl) rfl (fun _ _ h1 h2 => run_move (h1.ev rfl)) ?_
     refine Tr.val (wg rfl rfl rfl) rfl (fun _ _ h1 h2 => run_eql (h1.ev rfl) (h1.ev rfl)) ?_
     refine Tr.va rfl (fun _ _ h1 h2 => run_pickT (h1.ev rfl) (h1.ev rfl)) ?_
     exact Tr.nil (Tr.fin0 (.cons rfl .nil) (.cons rfl (.cons rfl (.cons rfl (.cons rfl .nil)))))
   ·show Tr _ _ (LF [(48, (.bool (g110 && (y104.2 == y106.2))))]) (LE [(1, ow Ay100_0 cy100_0 22 fl_LTRect y100.1), (2, ow Ay102_0 cy102_0 22 fl_LTRect y102.1), (3, ow Ay104_0 cy104_0 22 fl_LTRect y104.1), (4, ow Ay106_0 cy106_0 22 fl_LTRect y106.1)]) _
    refine Tr.mv rfl rfl ?_
    obtain ⟨g113, hg113, H⟩ := bnd H
    refine Tr.mid0 2 [(51, (.bool g113))] [(1, ow Ay100_0 cy100_0 22 fl_LTRect y100.1), (2, ow Ay102_0 cy102_0 22 fl_LTRect y102.1), (3, ow Ay104_0 cy104_0 22 fl_LTRect y104.1), (4, ow Ay106_0 cy106_0 22 fl_LTRect y106.1)] ?_ ?_
    ·cases hg114 : (g110 && (y104.2 == y106.2))
     ·rw [hg114] at hg113
      rw [if_neg (by decide)] at hg113
      have H := hg113
      obtain rfl := Option.some.inj H
      refine Tr.pass rfl rfl rfl rfl rfl (by decide) ?_
      refine Tr.va rfl (fun _ _ h1 h2 => run_pickF (h1.ev rfl) (h1.ev rfl)) ?_
      exact Tr.nil (Tr.fin0 (.cons rfl .nil) (.cons rfl (.cons rfl (.cons rfl (.cons rfl .nil)))))
     ·rw [hg114] at hg113
      rw [if_pos rfl] at hg113
      have H := hg113
      obtain ⟨y114, hy114, H⟩ := bnd H
      refine Tr.call0 (r := (.bool y114)) (wg rfl rfl rfl) rfl Try.call12 evl_nil (fun W hW => F_etchhouselaw1_awake_ok N y114 hy114 (HF.start _)) ?_
      refine Tr.va rfl (fun _ _ h1 h2 => run_pickT (h1.ev rfl) (h1.ev rfl)) ?_
      obtain rfl := Option.some.inj H
      exact Tr.nil (Tr.fin0 (.cons rfl .nil) (.cons rfl (.cons rfl (.cons rfl (.cons rfl .nil)))))
    ·show Tr _ _ (LF [(51, (.bool g113))]) (LE [(1, ow Ay100_0 cy100_0 22 fl_LTRect y100.1), (2, ow Ay102_0 cy102_0 22 fl_LTRect y102.1), (3, ow Ay104_0 cy104_0 22 fl_LTRect y104.1), (4, ow Ay106_0 cy106_0 22 fl_LTRect y106.1)]) _
     refine Tr.asg rfl rfl ?_
     refine Tr.nil (Tr.normThen ?_)
     refine Tr.ret ?_
     obtain rfl := Option.some.inj H
     exact Tr.out (m := [(.bool g113)]) [] (res_tmp rfl res_nil) (fun W hW => ⟨rfl, hW.low leB⟩)

theorem F_shape_Set__Many_ok {w : Bs} (p0 : (List TBand)) (Ap0_0 : Option Addr) (cp0_0 : Nat) (hp0_0 : Sl w.R w.W fl_TBand Ap0_0 cp0_0 p0) (r : Int) (H : F_shape_Set__Many p0 = some r) (hE : HF w w.W E0) : Calls Try.prog 66 [(.slice Ap0_0 (p0).length cp0_0)].toArray w.W fun e W' => e = .returned (.int .i64 r) ∧ HF w W' E0 := by
 unfold F_shape_Set__Many at H
 have leB := Bs.Le.refl w
 refine Tr.enter (n := 20) Try.func66 rfl rfl rfl hE ?_
 refine Tr.sr ?_
 refine Tr.asg rfl rfl ?_
 refine Tr.nil (Tr.normThen ?_)
 refine Tr.sr ?_
 refine Tr.asg rfl rfl ?_
 refine Tr.nil (Tr.normThen ?_)
 refine Tr.seq ?_
 refine Tr.sr ?_
 refine Tr.mv rfl rfl ?_
 refine Tr.va rfl (fun _ _ h1 h2 => run_len un_65 (h1.ev rfl)) ?_
 refine Tr.mv rfl rfl ?_
 refine Tr.nil (Tr.normThen ?_)
 refine Tr.block ?_
 refine Tr.loop (σ := (List TBand) × Nat × Int) (fun m w s => m = s.1.length + 1 ∧ s.1 = List.drop s.2.1 p0 ∧ s.2.1 ≤ p0.length ∧ F_shape_Set__Many_L1 s.1 s.2.1 s.2.2 = some r) (fun s => [(3, (.int .i64 s.2.2)), (6, (.slice Ap0_0 (p0).length cp0_0)), (7, (.int .i64 (p0.length : Int))), (8, (.int .i64 (s.2.1 : Int)))]) (fun s => []) (p0.length + 1) (p0, 0, 0) ⟨rfl, rfl, Nat.zero_le _, H⟩ (.cons rfl (.cons rfl (.cons rfl (.cons rfl .nil)))) .nil (fun _ _ h => absurd h.1 (by simp)) ?_
 intro w leF_shape_Set__Many_L1 m s hs
 obtain ⟨restF_shape_Set__Many_L1, iF_shape_Set__Many_L1, x112⟩ := s
 obtain ⟨hmF_shape_Set__Many_L1, hdF_shape_Set__Many_L1, hiF_shape_Set__Many_L1, H⟩ := hs
 replace hdF_shape_Set__Many_L1 : restF_shape_Set__Many_L1 = List.drop iF_shape_Set__Many_L1 p0 := hdF_shape_Set__Many_L1
 replace H : F_shape_Set__Many_L1 restF_shape_Set__Many_L1 iF_shape_Set__Many_L1 x112 = some r := H
 replace hmF_shape_Set__Many_L1 : m + 1 = restF_shape_Set__Many_L1.length + 1 := hmF_shape_Set__Many_L1
 replace hp0_0 := hp0_0.leR leF_shape_Set__Many_L1
 replace leB := leB.trans leF_shape_Set__Many_L1
 obtain rfl : m = restF_shape_Set__Many_L1.length := by omega
 clear hmF_shape_Set__Many_L1
 show Tr _ _ (LF [(3, (.int .i64 x112)), (6, (.slice Ap0_0 (p0).length cp0_0)), (7, (.int .i64 (p0.length : Int))), (8, (.int .i64 (iF_shape_Set__Many_L1 : Int)))]) (LE []) _
 cases restF_shape_Set__Many_L1 with
 | nil =>
  rw [F_shape_Set__Many_L1.eq_1] at H
  refine Tr.sr ?_
  refine Tr.va rfl (fun _ _ h1 h2 => run_lss (h1.ev rfl) (h1.ev rfl)) ?_
  refine Tr.nil (Tr.normThen ?_)
  refine Tr.seq ?_
  refine Tr.condF rfl (range_nil hdF_shape_Set__Many_L1) ?_
  refine Tr.exit (Tr.exitThen (Tr.exitThen (Tr.exitBlock (Tr.normThen ?_))))
  refine Tr.sr ?_
  refine Tr.mv rfl rfl ?_
  refine Tr.asg rfl rfl ?_
  refine Tr.nil (Tr.normThen ?_)
  refine Tr.ret ?_
  obtain rfl := Option.some.inj H
  exact Tr.out (m := [(.int .i64 x112)]) [] (res_tmp rfl res_nil) (fun W hW => ⟨rfl, hW.low leB⟩)
 | cons xF_shape_Set__Many_L1 restF_shape_Set__Many_L1 =>
  rw [F_shape_Set__Many_L1.eq_2] at H
  refine Tr.sr ?_
  refine Tr.va rfl (fun _ _ h1 h2 => run_lss (h1.ev rfl) (h1.ev rfl)) ?_
  refine Tr.nil (Tr.normThen ?_)
  refine Tr.seq ?_
  refine Tr.condT rfl (range_on hdF_shape_Set__Many_L1) ?_
  refine Tr.skip (Tr.normThen ?_)
  refine Tr.seq ?_
  refine Tr.block ?_
  refine Tr.sr ?_
  obtain ⟨u113, hRu113, hoku113, hcu113⟩ := (hp0_0).el (range_at hdF_shape_Set__Many_L1)
  obtain ⟨Au113_0, cu113_0⟩ := u113
  have hoku113_0 := hoku113
  replace hoku113_0 : Sl w.R w.W fl_i64 Au113_0 cu113_0 xF_shape_Set__Many_L1.Xs := hoku113_0
  refine Tr.va rfl (fun _ _ h1 h2 => run_indexAddr el_65 (h1.ev rfl) hp0_0.form (h1.ev rfl) (Int.natCast_nonneg _) (range_lt hdF_shape_Set__Many_L1)) ?_
  refine Tr.va rfl (fun _ _ h1 h2 => run_loadN (cs := [(.int .i64 xF_shape_Set__Many_L1.Y0), (.int .i64 xF_shape_Set__Many_L1.Y1), (.slice Au113_0 (xF_shape_Set__Many_L1.Xs).length cu113_0)]) ag_104 sz_104 (h1.ev rfl) (CellsAt.take (rdR hRu113 hcu113 h2) 3) rfl) ?_
  refine Tr.alloc 3 (wn rfl) rfl ze_104 fun b114 => ?_
  refine Tr.store 3 (cs := [(.int .i64 xF_shape_Set__Many_L1.Y0), (.int .i64 xF_shape_Set__Many_L1.Y1), (.slice Au113_0 (xF_shape_Set__Many_L1.Xs).length cu113_0)]) [(.int .i64 xF_shape_Set__Many_L1.Y0), (.int .i64 xF_shape_Set__Many_L1.Y1), (.slice Au113_0 (xF_shape_Set__Many_L1.Xs).length cu113_0)] (wn rfl) rfl rfl rfl rfl sz_104 rfl rfl rfl ?_
  refine Tr.nil (Tr.normThen ?_)
  refine Tr.region ?_
  refine Tr.mv rfl rfl ?_
  refine Tr.va rfl (fun _ _ h1 h2 => run_fieldAddr fo_104_2 (h1.ev rfl)) ?_
  refine Tr.va rfl (fun _ _ h1 h2 => run_load1 ag_97 (h1.ev rfl) (rdb h2 (vs := [(.int .i64 xF_shape_Set__Many_L1.Y0), (.int .i64 xF_shape_Set__Many_L1.Y1), (.slice Au113_0 (xF_shape_Set__Many_L1.Xs).length cu113_0)]) (k := 3) rfl 2) rfl) ?_
  refine Tr.va rfl (fun _ _ h1 h2 => run_len un_97 (h1.ev rfl)) ?_
  refine Tr.va rfl (fun _ _ h1 h2 => run_quo (h1.ev rfl) (h1.ev rfl) (by decide)) ?_
  refine Tr.va rfl (fun _ _ h1 h2 => run_add (h1.ev rfl) (h1.ev rfl)) ?_
  refine Tr.asg rfl rfl ?_
  refine Tr.nil (Tr.normBlock (Tr.normThen ?_))
  refine Tr.region ?_
  refine Tr.va rfl (fun _ _ h1 h2 => run_add (h1.ev rfl) (h1.ev rfl)) ?_
  refine Tr.mv rfl rfl ?_
  refine Tr.nil ?_
  exact Tr.backThen leF_shape_Set__Many_L1 (restF_shape_Set__Many_L1, (iF_shape_Set__Many_L1 + 1), (w64 (x112 + (w64 (Int.tdiv (xF_shape_Set__Many_L1.Xs.length : Int) 2))))) ⟨rfl, range_tl hdF_shape_Set__Many_L1, range_lt hdF_shape_Set__Many_L1, H⟩ (.cons rfl (.cons rfl (.cons rfl (.cons (congrArg (fun z => some (Value.int .i64 z)) (range_up hdF_shape_Set__Many_L1 hp0_0.form)) .nil)))) .nil

theorem F_shape_Set__Told_ok (N : Nat) {w : Bs} (p0 : (List TBand)) (Ap0_0 : Option Addr) (cp0_0 : Nat) (hp0_0 : Sl w.R w.W fl_TBand Ap0_0 cp0_0 p0) (r : ((List TRect) × Int)) (H : F_shape_Set__Told N p0 = some r) (hE : HF w w.W (LEn [emp])) : Calls Try.prog 48 [(.slice Ap0_0 (p0).length cp0_0)].toArray w.W fun e W' => ∃ u : (Option Addr × Nat), e = .returned (.tuple #[(.slice u.1 (r.1).length u.2), (.int .i64 r.2)]) ∧ (SlF u.1 (r.1).length u.2) ∧ HF w W' (LEn [ow u.1 u.2 29 fl_TRect r.1]) := by
 unfold F_shape_Set__Told at H
 have leB := Bs.Le.refl w
 refine Tr.enter (n := 9) Try.func48 rfl rfl rfl hE ?_
 refine Tr.sr ?_
 refine Tr.asg rfl rfl ?_
 refine Tr.nilOwn 1 29 fl_TRect ?_
 show Tr _ _ (uf _ 2 (.slice none (([] : List TRect)).length 0)) _ _
 refine Tr.asg rfl rfl ?_
 refine Tr.nil (Tr.normThen ?_)
 refine Tr.seq ?_
 refine Tr.sr ?_
 refine Tr.mv rfl rfl ?_
 obtain ⟨y100, hy100, H⟩ := bnd H
 refine Tr.call0 (r := (.int .i64 y100)) (wn rfl) rfl Try.call66 (evl_cons rfl evl_nil) (fun W hW => F_shape_Set__Many_ok p0 Ap0_0 cp0_0 (hp0_0.ext hW.extAll) y100 hy100 (HF.start _)) ?_
 refine Tr.va rfl (fun _ _ h1 h2 => run_gtr (h1.ev rfl) (h1.ev rfl)) ?_
 refine Tr.nil (Tr.normThen ?_)
 refine Tr.cond rfl H (fun H => ?_) (fun H => ?_)
 ·refine Tr.sr ?_
  refine Tr.asg rfl rfl ?_
  refine Tr.nilOwn 2 29 fl_TRect ?_
  show Tr _ _ (uf _ 2 (.slice none (([] : List TRect)).length 0)) _ _
  refine Tr.asg rfl rfl ?_
  refine Tr.nil (Tr.normThen ?_)
  refine Tr.ret (Tr.retThen ?_)
  obtain rfl := Option.some.inj H
  exact Tr.out (m := [(.slice none (([] : List TRect)).length 0), (.int .i64 2)]) [] (res_tmp rfl (res_tmp rfl res_nil)) (fun W hW => ⟨(none, 0), rfl, slf_nil, HF.lowE leB (hW.pick (ks := [2]) (by decide) (pk_cons rfl pk_nil)) ⟨ow_any _ _ _ _ tr_TRect, trivial⟩⟩)
 ·refine Tr.skip (Tr.normThen ?_)
  refine Tr.sr ?_
  refine Tr.mv rfl rfl ?_
  obtain ⟨y101, hy101, H⟩ := bnd H
  refine Tr.callM [3] [emp] (U := (Option Addr × Nat)) (fun u => (.slice u.1 (y101).length u.2)) (fun u => SlF u.1 (y101).length u.2) (fun u => [ow u.1 u.2 29 fl_TRect y101]) rfl (pk_cons rfl pk_nil) (fun _ => rfl) (wn rfl) rfl Try.call41 (evl_cons rfl evl_nil) (fun W hW hp hE => F_shape_Set__Rects_ok N p0 Ap0_0 cp0_0 (hp0_0.ext (hW.extS hp)) y101 hy101 hE) ?_
  intro u hu
  obtain ⟨Ay101_0, cy101_0⟩ := u
  have gy101_0 := hu
  have hgy101_0 : SlF Ay101_0 (y101).length cy101_0 := gy101_0 --@phi
  show Tr _ _ (uf _ 8 (.slice Ay101_0 (y101).length cy101_0)) (up _ 3 (ow Ay101_0 cy101_0 29 fl_TRect y101)) _
  refine Tr.asg rfl rfl ?_
  refine Tr.asg rfl rfl ?_
  refine Tr.nil (Tr.normThen ?_)
  refine Tr.ret ?_
  obtain rfl := Option.some.inj H
  exact Tr.out (m := [(.slice Ay101_0 (y101).length cy101_0), (.int .i64 0)]) [] (res_tmp rfl (res_tmp rfl res_nil)) (fun W hW => ⟨(Ay101_0, cy101_0), rfl, hgy101_0, HF.lowE leB (hW.pick (ks := [3]) (by decide) (pk_cons rfl pk_nil)) ⟨ow_any _ _ _ _ tr_TRect, trivial⟩⟩)

theorem F_shape_Region_ok (N : Nat) {w : Bs} (p0 : (List TRect)) (Ap0_0 : Option Addr) (cp0_0 : Nat) (hp0_0 : Sl w.R w.W fl_TRect Ap0_0 cp0_0 p0) (r : ((List TRect) × Int)) (H : F_shape_Region N p0 = some r) (hE : HF w w.W (LEn [emp])) : Calls Try.prog 24 [(.slice Ap0_0 (p0).length cp0_0)].toArray w.W fun e W' => ∃ u : (Option Addr × Nat), e = .returned (.tuple #[(.slice u.1 (r.1).length u.2), (.int .i64 r.2)]) ∧ (SlF u.1 (r.1).length u.2) ∧ HF w W' (LEn [ow u.1 u.2 29 fl_TRect r.1]) := by
 unfold F_shape_Region at H
 have leB := Bs.Le.refl w
 refine Tr.enter (n := 15) Try.func24 rfl rfl rfl hE ?_
 refine Tr.sr ?_
 refine Tr.asg rfl rfl ?_
 refine Tr.nilOwn 1 29 fl_TRect ?_
 show Tr _ _ (uf _ 2 (.slice none (([] : List TRect)).length 0)) _ _
 refine Tr.asg rfl rfl ?_
 refine Tr.nil (Tr.normThen ?_)
 refine Tr.seq ?_
 refine Tr.sr ?_
 refine Tr.mv rfl rfl ?_
 obtain ⟨y100, hy100, H⟩ := bnd H
 refine Tr.call0 (r := (.int .i64 y100)) (wn rfl) rfl Try.call39 (evl_cons rfl evl_nil) (fun W hW => F_shape_CheckRects_ok p0 Ap0_0 cp0_0 (hp0_0.ext hW.extAll) y100 hy100 (HF.start _)) ?_
 refine Tr.asg rfl rfl ?_
 refine Tr.nil (Tr.normThen ?_)
 refine Tr.sr ?_
 refine Tr.mv rfl rfl ?_
 refine Tr.va rfl (fun _ _ h1 h2 => run_neq (h1.ev rfl) (h1.ev rfl)) ?_
 refine Tr.nil (Tr.normThen ?_)
 refine Tr.cond rfl H (fun H => ?_) (fun H => ?_)
 ·refine Tr.sr ?_
  refine Tr.mv rfl rfl ?_
  refine Tr.asg rfl rfl ?_
  refine Tr.nilOwn 2 29 fl_TRect ?_
  show Tr _ _ (uf _ 2 (.slice none (([] : List TRect)).length 0)) _ _
  refine Tr.asg rfl rfl ?_
  refine Tr.nil (Tr.normThen ?_)
  refine Tr.ret (Tr.retThen ?_)
  obtain rfl := Option.some.inj H
  exact Tr.out (m := [(.slice none (([] : List TRect)).length 0), (.int .i64 y100)]) [] (res_tmp rfl (res_tmp rfl res_nil)) (fun W hW => ⟨(none, 0), rfl, slf_nil, HF.lowE leB (hW.pick (ks := [2]) (by decide) (pk_cons rfl pk_nil)) ⟨ow_any _ _ _ _ tr_TRect, trivial⟩⟩)
 ·refine Tr.skip (Tr.normThen ?_)
  refine Tr.sr ?_
  refine Tr.mv rfl rfl ?_
  obtain ⟨y101, hy101, H⟩ := bnd H
  refine Tr.callG [3] [emp] (U := (Option Addr × Nat)) (fun u => (.slice u.1 (y101).length u.2)) (fun O W u => SlF u.1 (y101).length u.2) (fun u => [ow u.1 u.2 104 fl_TBand y101]) rfl (pk_cons rfl pk_nil) (fun _ => rfl) (wn rfl) rfl Try.call40 (evl_cons rfl evl_nil) (fun W hW hp hE => F_shape_SetOf_ok N p0 Ap0_0 cp0_0 (hp0_0.ext (hW.extS hp)) y101 hy101 hE) ?_
  intro w u le102 hu
  obtain ⟨Ay101_0, cy101_0⟩ := u
  have gy101_0 := hu
  replace hp0_0 := hp0_0.leR le102
  replace leB := leB.trans le102
  have hgy101_0 : SlF Ay101_0 (y101).length cy101_0 := gy101_0 --@phi
  show Tr _ _ (uf _ 11 (.slice Ay101_0 (y101).length cy101_0)) (up _ 3 (ow Ay101_0 cy101_0 104 fl_TBand y101)) _
  obtain ⟨y103, hy103, H⟩ := bnd H
  refine Tr.callM [4] [emp] (U := (Option Addr × Nat)) (fun u => (.tuple #[(.slice u.1 (y103.1).length u.2), (.int .i64 y103.2)])) (fun u => SlF u.1 (y103.1).length u.2) (fun u => [ow u.1 u.2 29 fl_TRect y103.1]) rfl (pk_cons rfl pk_nil) (fun _ => rfl) (wn rfl) rfl Try.call48 (evl_cons rfl evl_nil) (fun W hW hp hE => F_shape_Set__Told_ok N y101 Ay101_0 cy101_0 (hW.slS (k := 3) rfl hp rfl) y103 hy103 hE) ?_
  intro u hu
  obtain ⟨Ay103_0, cy103_0⟩ := u
  have gy103_0 := hu
  have hgy103_0 : SlF Ay103_0 (y103.1).length cy103_0 := gy103_0 --@phi
  show Tr _ _ (uf _ 12 (.tuple #[(.slice Ay103_0 (y103.1).length cy103_0), (.int .i64 y103.2)])) (up _ 4 (ow Ay103_0 cy103_0 29 fl_TRect y103.1)) _
  refine Tr.va rfl (fun _ _ h1 h2 => run_extract (h1.ev rfl) rfl) ?_
  refine Tr.va rfl (fun _ _ h1 h2 => run_extract (h1.ev rfl) rfl) ?_
  refine Tr.asg rfl rfl ?_
  refine Tr.asg rfl rfl ?_
  refine Tr.nil (Tr.normThen ?_)
  refine Tr.ret ?_
  obtain rfl := Option.some.inj H
  exact Tr.out (m := [(.slice Ay103_0 (y103.1).length cy103_0), (.int .i64 y103.2)]) [] (res_tmp rfl (res_tmp rfl res_nil)) (fun W hW => ⟨(Ay103_0, cy103_0), rfl, hgy103_0, HF.lowE leB (hW.pick (ks := [4]) (by decide) (pk_cons rfl pk_nil)) ⟨ow_any _ _ _ _ tr_TRect, trivial⟩⟩)

end Go.Proofs.Ytnlhigfglfahiaa
