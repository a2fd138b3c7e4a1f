/- The walks: each function computes its plain function. -/
import Derived.Test.YtcebbfodkadggaaGWb
namespace Go.Proofs.Ytcebbfodkadggaa
open Go.RowKit
set_option maxRecDepth 100000
set_option maxHeartbeats 1000000
theorem F_etchhouseref1_Canonical_ok (N : Nat) {w : Bs} (p0 : (List TRect)) (Ap0_0 : Option Addr) (cp0_0 : Nat) (hp0_0 : Sl w.R w.W fl_TRect Ap0_0 cp0_0 p0) (r : (List TRect)) (H : F_etchhouseref1_Canonical N p0 = some r) (hE : HF w w.W (LEn [emp])) : Calls Try.prog 53 [(.slice Ap0_0 (p0).length cp0_0)].toArray w.W fun e W' => ∃ u : (Option Addr × Nat), e = .returned (.slice u.1 (r).length u.2) ∧ (SlF u.1 (r).length u.2) ∧ HF w W' (LEn [ow u.1 u.2 29 fl_TRect r]) := by
  unfold F_etchhouseref1_Canonical at H
  have leB := Bs.Le.refl w
  refine Tr.enter (n := 35) Try.func53 rfl rfl rfl hE ?_
  refine Tr.seq ?_
  refine Tr.region ?_
  refine Tr.val (wn rfl) rfl (fun _ _ h1 h2 => run_assign (h1.ev rfl)) ?_
  refine Tr.nilOwn 1 29 fl_TRect ?_
  show Tr _ _ (uf _ 2 (.slice none (([] : List TRect)).length 0)) _ _
  refine Tr.nil (Tr.normThen ?_)
  refine Tr.seq ?_
  refine Tr.region ?_
  refine Tr.val (wn rfl) rfl (fun _ _ h1 h2 => run_move (h1.ev rfl)) ?_
  obtain ⟨y100, hy100, H⟩ := bnd H
  refine Tr.callG [] [] (U := (Option Addr × Nat)) (fun u => (.slice u.1 (y100).length u.2)) (fun O W u => Sl O W fl_i64 u.1 u.2 y100) (fun u => []) rfl pk_nil (fun _ => rfl) (wn rfl) rfl Try.call93 (evl_cons rfl evl_nil) (fun W hW hp hE => F_etchhouseref1_heights_ok N p0 Ap0_0 cp0_0 (hp0_0.ext (hW.extS hp)) y100 hy100 hE) ?_
  intro w u le101 hu
  obtain ⟨Ay100_0, cy100_0⟩ := u
  have gy100_0 := hu
  replace hp0_0 := hp0_0.leR le101
  replace leB := leB.trans le101
  have hgy100_0 : Sl w.O w.W fl_i64 Ay100_0 cy100_0 y100 := gy100_0 --@phi
  show Tr _ _ (uf _ 7 (.slice Ay100_0 (y100).length cy100_0)) (_) _
  refine Tr.val (wn rfl) rfl (fun _ _ h1 h2 => run_assign (h1.ev rfl)) ?_
  refine Tr.nil (Tr.normThen ?_)
  refine Tr.seq ?_
  refine Tr.region ?_
  refine Tr.val (wn rfl) rfl (fun _ _ h1 h2 => run_assign (h1.ev rfl)) ?_
  refine Tr.nilOwn 2 103 fl_Tetchhouseref1Band ?_
  show Tr _ _ (uf _ 4 (.slice none (([] : List Tetchhouseref1Band)).length 0)) _ _
  refine Tr.nil (Tr.normThen ?_)
  refine Tr.seq ?_
  refine Tr.seq ?_
  refine Tr.region ?_
  refine Tr.val (wn rfl) rfl (fun _ _ h1 h2 => run_assign (h1.ev rfl)) ?_
  refine Tr.nil (Tr.normThen ?_)
  refine Tr.block ?_
  refine Tr.loop (σ := (List Tetchhouseref1Band) × Int × (Option Addr) × Nat) (fun m w s => F_etchhouseref1_Canonical_L1 N p0 y100 m s.1 s.2.1 = some r ∧ SlF s.2.2.1 (s.1).length s.2.2.2) (fun s => [(0, (.slice Ap0_0 (p0).length cp0_0)), (3, (.slice Ay100_0 (y100).length cy100_0)), (4, (.slice s.2.2.1 (s.1).length s.2.2.2)), (5, (.int .i64 s.2.1))]) (fun s => [(2, ow s.2.2.1 s.2.2.2 103 fl_Tetchhouseref1Band s.1)]) N (([] : List Tetchhouseref1Band), 1, none, 0) ⟨H, slf_nil⟩ (.cons rfl (.cons rfl (.cons rfl (.cons rfl .nil)))) (.cons rfl .nil) (fun _ _ h => noSome (h.1)) ?_
  intro w leF_etchhouseref1_Canonical_L1 mF_etchhouseref1_Canonical_L1 s hs
  obtain ⟨l128, x129, Al128, cl128⟩ := s
  obtain ⟨H, hl128⟩ := hs
  replace H : F_etchhouseref1_Canonical_L1 N p0 y100 (mF_etchhouseref1_Canonical_L1 + 1) l128 x129 = some r := H
  replace hp0_0 := hp0_0.leR leF_etchhouseref1_Canonical_L1
  replace hgy100_0 := hgy100_0.le leF_etchhouseref1_Canonical_L1
  replace leB := leB.trans leF_etchhouseref1_Canonical_L1
  replace hl128 : SlF Al128 (l128).length cl128 := hl128
  rw [F_etchhouseref1_Canonical_L1.eq_2] at H
  show Tr _ _ (LF [(0, (.slice Ap0_0 (p0).length cp0_0)), (3, (.slice Ay100_0 (y100).length cy100_0)), (4, (.slice Al128 (l128).length cl128)), (5, (.int .i64 x129))]) (LE [(2, ow Al128 cl128 103 fl_Tetchhouseref1Band l128)]) _
  refine Tr.seq ?_
  refine Tr.seq ?_
  refine Tr.region ?_
  refine Tr.val (wn rfl) rfl (fun _ _ h1 h2 => run_move (h1.ev rfl)) ?_
  refine Tr.val (wn rfl) rfl (fun _ _ h1 h2 => run_move (h1.ev rfl)) ?_
  refine Tr.val (wn rfl) rfl (fun _ _ h1 h2 => run_len un_89 (h1.ev rfl)) ?_
  refine Tr.val (wn rfl) rfl (fun _ _ h1 h2 => run_lss (h1.ev rfl) (h1.ev rfl)) ?_
  refine Tr.nil (Tr.normThen ?_)
  refine Tr.cond rfl H (fun H => ?_) (fun H => ?_)
  · refine Tr.skip (Tr.normThen ?_)
    refine Tr.seq ?_
    refine Tr.block ?_
    refine Tr.drawC 18 [] [] (by kernel_rfl) (by kernel_rfl) fun sz130 hlosz130 hEsz130 => ?_
    refine Dr.quiet 0 [(14, (.slice Al128 (l128).length cl128))] (by kernel_rfl) rfl rfl (by kernel_rfl) ?_ rfl rfl ?_
    · refine Tq.val (wn rfl) rfl (fun _ _ h1 h2 => run_move (h1.ev rfl)) ?_
      exact Tq.fin (.cons rfl .nil)
    refine Dr.quiet 1 [(15, (.slice Ay100_0 (y100).length cy100_0))] (by kernel_rfl) rfl rfl (by kernel_rfl) ?_ rfl rfl ?_
    · refine Tq.val (wn rfl) rfl (fun _ _ h1 h2 => run_move (h1.ev rfl)) ?_
      exact Tq.fin (.cons rfl .nil)
    refine Dr.quiet 2 [(16, (.int .i64 x129))] (by kernel_rfl) rfl rfl (by kernel_rfl) ?_ rfl rfl ?_
    · refine Tq.val (wn rfl) rfl (fun _ _ h1 h2 => run_move (h1.ev rfl)) ?_
      exact Tq.fin (.cons rfl .nil)
    refine Dr.quiet 3 [(17, (.int .i64 (w64 (x129 - 1))))] (by kernel_rfl) rfl rfl (by kernel_rfl) ?_ rfl rfl ?_
    · refine Tq.val (wn rfl) rfl (fun _ _ h1 h2 => run_sub (h1.ev rfl) (h1.ev rfl)) ?_
      exact Tq.fin (.cons rfl .nil)
    obtain ⟨x131, hx131, H⟩ := bnd H
    obtain ⟨hx1310, hx1311, hx1312⟩ := idx_some hx131
    refine Dr.quiet 4 [(18, (.pointer (some ⟨adB Ay100_0, adO Ay100_0 + ((w64 (x129 - 1))).toNat * 1, none⟩)))] (by kernel_rfl) rfl rfl (by kernel_rfl) ?_ rfl rfl ?_
    · refine Tq.val (wn rfl) rfl (fun _ _ h1 h2 => run_indexAddr el_89 (h1.ev rfl) hgy100_0.form (h1.ev rfl) hx1310 hx1311) ?_
      exact Tq.fin (.cons rfl .nil)
    refine Dr.quiet 5 [(19, (.int .i64 x131))] (by kernel_rfl) rfl rfl (by kernel_rfl) ?_ rfl rfl ?_
    · refine Tq.val (wn rfl) rfl (fun _ _ h1 h2 => run_load1 ag_3 (h1.ev rfl) (rdF ef_i64 (hgy100_0.rl) hx1312 h2) rfl) ?_
      exact Tq.fin (.cons rfl .nil)
    refine Dr.quiet 6 [(20, (.slice Ay100_0 (y100).length cy100_0))] (by kernel_rfl) rfl rfl (by kernel_rfl) ?_ rfl rfl ?_
    · refine Tq.val (wn rfl) rfl (fun _ _ h1 h2 => run_move (h1.ev rfl)) ?_
      exact Tq.fin (.cons rfl .nil)
    refine Dr.quiet 7 [(21, (.int .i64 x129))] (by kernel_rfl) rfl rfl (by kernel_rfl) ?_ rfl rfl ?_
    · refine Tq.val (wn rfl) rfl (fun _ _ h1 h2 => run_move (h1.ev rfl)) ?_
      exact Tq.fin (.cons rfl .nil)
    obtain ⟨x132, hx132, H⟩ := bnd H
    obtain ⟨hx1320, hx1321, hx1322⟩ := idx_some hx132
    refine Dr.quiet 8 [(22, (.pointer (some ⟨adB Ay100_0, adO Ay100_0 + (x129).toNat * 1, none⟩)))] (by kernel_rfl) rfl rfl (by kernel_rfl) ?_ rfl rfl ?_
    · refine Tq.val (wn rfl) rfl (fun _ _ h1 h2 => run_indexAddr el_89 (h1.ev rfl) hgy100_0.form (h1.ev rfl) hx1320 hx1321) ?_
      exact Tq.fin (.cons rfl .nil)
    refine Dr.quiet 9 [(23, (.int .i64 x132))] (by kernel_rfl) rfl rfl (by kernel_rfl) ?_ rfl rfl ?_
    · refine Tq.val (wn rfl) rfl (fun _ _ h1 h2 => run_load1 ag_3 (h1.ev rfl) (rdF ef_i64 (hgy100_0.rl) hx1322 h2) rfl) ?_
      exact Tq.fin (.cons rfl .nil)
    refine Dr.quiet 10 [(24, (.slice Ap0_0 (p0).length cp0_0))] (by kernel_rfl) rfl rfl (by kernel_rfl) ?_ rfl rfl ?_
    · refine Tq.val (wn rfl) rfl (fun _ _ h1 h2 => run_move (h1.ev rfl)) ?_
      exact Tq.fin (.cons rfl .nil)
    refine Dr.quiet 11 [(25, (.slice Ay100_0 (y100).length cy100_0))] (by kernel_rfl) rfl rfl (by kernel_rfl) ?_ rfl rfl ?_
    · refine Tq.val (wn rfl) rfl (fun _ _ h1 h2 => run_move (h1.ev rfl)) ?_
      exact Tq.fin (.cons rfl .nil)
    refine Dr.quiet 12 [(26, (.int .i64 x129))] (by kernel_rfl) rfl rfl (by kernel_rfl) ?_ rfl rfl ?_
    · refine Tq.val (wn rfl) rfl (fun _ _ h1 h2 => run_move (h1.ev rfl)) ?_
      exact Tq.fin (.cons rfl .nil)
    refine Dr.quiet 13 [(27, (.int .i64 (w64 (x129 - 1))))] (by kernel_rfl) rfl rfl (by kernel_rfl) ?_ rfl rfl ?_
    · refine Tq.val (wn rfl) rfl (fun _ _ h1 h2 => run_sub (h1.ev rfl) (h1.ev rfl)) ?_
      exact Tq.fin (.cons rfl .nil)
    obtain ⟨x133, hx133, H⟩ := bnd H
    obtain ⟨hx1330, hx1331, hx1332⟩ := idx_some hx133
    refine Dr.quiet 14 [(28, (.pointer (some ⟨adB Ay100_0, adO Ay100_0 + ((w64 (x129 - 1))).toNat * 1, none⟩)))] (by kernel_rfl) rfl rfl (by kernel_rfl) ?_ rfl rfl ?_
    · refine Tq.val (wn rfl) rfl (fun _ _ h1 h2 => run_indexAddr el_89 (h1.ev rfl) hgy100_0.form (h1.ev rfl) hx1330 hx1331) ?_
      exact Tq.fin (.cons rfl .nil)
    refine Dr.quiet 15 [(29, (.int .i64 x133))] (by kernel_rfl) rfl rfl (by kernel_rfl) ?_ rfl rfl ?_
    · refine Tq.val (wn rfl) rfl (fun _ _ h1 h2 => run_load1 ag_3 (h1.ev rfl) (rdF ef_i64 (hgy100_0.rl) hx1332 h2) rfl) ?_
      exact Tq.fin (.cons rfl .nil)
    obtain ⟨y134, hy134, H⟩ := bnd H
    refine Dr.one 16 (by kernel_rfl) ?_
    refine St.callM 16 [5] [emp] (U := (Option Addr × Nat)) (fun u => (.slice u.1 (y134).length u.2)) (fun u => SlF u.1 (y134).length u.2) (fun u => [ow u.1 u.2 124 fl_TSpan y134]) rfl (pk_cons rfl pk_nil) (fun _ => rfl) (insS_no rfl) rfl (wn rfl) rfl Try.call95 (evl_cons rfl (evl_cons rfl evl_nil)) (fun W hW hp hE => F_etchhouseref1_row_ok N p0 Ap0_0 cp0_0 (hp0_0.ext (hW.extS hp)) x133 y134 hy134 hE) ?_
    intro u hu hsy134
    obtain ⟨Ay134_0, cy134_0⟩ := u
    have gy134_0 := hu
    have hgy134_0 : SlF Ay134_0 (y134).length cy134_0 := gy134_0
    show Dr _ _ _ _ _ _ _ _ _ (uf _ 30 (.slice Ay134_0 (y134).length cy134_0)) (up _ 5 (ow Ay134_0 cy134_0 124 fl_TSpan y134))
    refine Dr.quiet 17 [(31, (.agg #[(.int .i64 x131), (.int .i64 x132), (.slice Ay134_0 (y134).length cy134_0)]))] (by kernel_rfl) rfl rfl (by kernel_rfl) ?_ rfl rfl ?_
    · refine Tq.build (vs := [(0, (.int .i64 x131)), (1, (.int .i64 x132)), (2, (.slice Ay134_0 (y134).length cy134_0))]) (cs := [(.int .i64 x131), (.int .i64 x132), (.slice Ay134_0 (y134).length cy134_0)]) (wn rfl) rfl (evs_cons rfl (evs_cons rfl (evs_cons rfl evs_nil))) (by kernel_rfl) ?_
      exact Tq.fin (.cons rfl .nil)
    refine Dr.tail (by kernel_rfl) ?_
    refine Tr.freeze 5 rfl fun w le137 hz136 => ?_
    replace hp0_0 := hp0_0.leR le137
    replace hgy100_0 := hgy100_0.le le137
    replace leB := leB.trans le137
    replace leF_etchhouseref1_Canonical_L1 := leF_etchhouseref1_Canonical_L1.trans le137
    obtain ⟨y138, hy138, H⟩ := bnd H
    refine Tr.callG [2] [ow Al128 cl128 103 fl_Tetchhouseref1Band l128] (U := (Option Addr × Nat)) (fun u => (.slice u.1 (y138).length u.2)) (fun O W u => SlF u.1 (y138).length u.2) (fun u => [ow u.1 u.2 103 fl_Tetchhouseref1Band y138]) rfl (pk_cons rfl pk_nil) (fun _ => rfl) (wn rfl) rfl Try.call94 (evl_cons rfl (evl_cons rfl evl_nil)) (fun W hW hp hE => F_etchhouseref1_stacked_ok N l128 Al128 cl128 (Tetchhouseref1Band.mk x131 x132 y134) Ay134_0 cy134_0 (hz136.extO (hW.extS hp)) y138 hy138 hE) ?_
    intro w u le139 hu
    obtain ⟨Ay138_0, cy138_0⟩ := u
    have gy138_0 := hu
    replace hp0_0 := hp0_0.leR le139
    replace hgy100_0 := hgy100_0.le le139
    replace hz136 := hz136.le le139
    replace leB := leB.trans le139
    replace leF_etchhouseref1_Canonical_L1 := leF_etchhouseref1_Canonical_L1.trans le139
    have hgy138_0 : SlF Ay138_0 (y138).length cy138_0 := gy138_0 --@phi
    show Tr _ _ (uf _ 32 (.slice Ay138_0 (y138).length cy138_0)) (up _ 2 (ow Ay138_0 cy138_0 103 fl_Tetchhouseref1Band y138)) _
    refine Tr.val (wn rfl) rfl (fun _ _ h1 h2 => run_assign (h1.ev rfl)) ?_
    refine Tr.nil (Tr.normBlock (Tr.normThen ?_))
    refine Tr.region ?_
    refine Tr.val (wn rfl) rfl (fun _ _ h1 h2 => run_move (h1.ev rfl)) ?_
    refine Tr.val (wn rfl) rfl (fun _ _ h1 h2 => run_add (h1.ev rfl) (h1.ev rfl)) ?_
    refine Tr.val (wn rfl) rfl (fun _ _ h1 h2 => run_assign (h1.ev rfl)) ?_
    refine Tr.nil ?_
    exact Tr.backThen leF_etchhouseref1_Canonical_L1 (y138, (w64 (x129 + 1)), Ay138_0, cy138_0) ⟨H, hgy138_0⟩ (.cons rfl (.cons rfl (.cons rfl (.cons rfl .nil)))) (.cons rfl .nil)
  · refine Tr.exit (Tr.exitThen (Tr.exitThen (Tr.exitBlock (Tr.normThen ?_))))
    refine Tr.seq ?_
    refine Tr.region ?_
    refine Tr.val (wn rfl) rfl (fun _ _ h1 h2 => run_move (h1.ev rfl)) ?_
    obtain ⟨y140, hy140, H⟩ := bnd H
    refine Tr.callM [6] [emp] (U := (Option Addr × Nat)) (fun u => (.slice u.1 (y140).length u.2)) (fun u => SlF u.1 (y140).length u.2) (fun u => [ow u.1 u.2 29 fl_TRect y140]) rfl (pk_cons rfl pk_nil) (fun _ => rfl) (wn rfl) rfl Try.call96 (evl_cons rfl evl_nil) (fun W hW hp hE => F_etchhouseref1_told_ok N l128 Al128 cl128 (hW.slS (k := 2) rfl hp rfl) y140 hy140 hE) ?_
    intro u hu
    obtain ⟨Ay140_0, cy140_0⟩ := u
    have gy140_0 := hu
    have hgy140_0 : SlF Ay140_0 (y140).length cy140_0 := gy140_0 --@phi
    show Tr _ _ (uf _ 34 (.slice Ay140_0 (y140).length cy140_0)) (up _ 6 (ow Ay140_0 cy140_0 29 fl_TRect y140)) _
    refine Tr.val (wn rfl) rfl (fun _ _ h1 h2 => run_assign (h1.ev rfl)) ?_
    refine Tr.nil (Tr.normThen ?_)
    refine Tr.ret ?_
    obtain rfl := Option.some.inj H
    exact Tr.out (m := [(.slice Ay140_0 (y140).length cy140_0)]) [] (res_tmp rfl res_nil) (fun W hW => ⟨(Ay140_0, cy140_0), rfl, hgy140_0, HF.lowE leB (hW.pick (ks := [6]) (by decide) (pk_cons rfl pk_nil)) ⟨ow_any _ _ _ _ tr_TRect, trivial⟩⟩)

theorem F_etchhouseref1_SameRects_ok (N : Nat) {w : Bs} (p0 : (List TRect)) (Ap0_0 : Option Addr) (cp0_0 : Nat) (hp0_0 : Sl w.R w.W fl_TRect Ap0_0 cp0_0 p0) (p1 : (List TRect)) (Ap1_0 : Option Addr) (cp1_0 : Nat) (hp1_0 : Sl w.R w.W fl_TRect Ap1_0 cp1_0 p1) (r : Bool) (H : F_etchhouseref1_SameRects N p0 p1 = some r) (hE : HF w w.W E0) : Calls Try.prog 58 [(.slice Ap0_0 (p0).length cp0_0), (.slice Ap1_0 (p1).length cp1_0)].toArray w.W fun e W' => e = .returned (.bool r) ∧ HF w W' E0 := by
  unfold F_etchhouseref1_SameRects at H
  have leB := Bs.Le.refl w
  refine Tr.enter (n := 26) Try.func58 rfl rfl rfl hE ?_
  refine Tr.seq ?_
  refine Tr.region ?_
  refine Tr.val (wn rfl) rfl (fun _ _ h1 h2 => run_assign (h1.ev rfl)) ?_
  refine Tr.nil (Tr.normThen ?_)
  refine Tr.seq ?_
  refine Tr.seq ?_
  refine Tr.region ?_
  refine Tr.val (wn rfl) rfl (fun _ _ h1 h2 => run_move (h1.ev rfl)) ?_
  refine Tr.val (wn rfl) rfl (fun _ _ h1 h2 => run_len un_22 (h1.ev rfl)) ?_
  refine Tr.val (wn rfl) rfl (fun _ _ h1 h2 => run_move (h1.ev rfl)) ?_
  refine Tr.val (wn rfl) rfl (fun _ _ h1 h2 => run_len un_22 (h1.ev rfl)) ?_
  refine Tr.val (wn rfl) rfl (fun _ _ h1 h2 => run_neq (h1.ev rfl) (h1.ev rfl)) ?_
  refine Tr.nil (Tr.normThen ?_)
  refine Tr.cond rfl H (fun H => ?_) (fun H => ?_)
  · refine Tr.seq ?_
    refine Tr.region ?_
    refine Tr.val (wn rfl) rfl (fun _ _ h1 h2 => run_assign (h1.ev rfl)) ?_
    refine Tr.nil (Tr.normThen ?_)
    refine Tr.ret (Tr.retThen ?_)
    obtain rfl := Option.some.inj H
    exact Tr.out (m := [(.bool false)]) [] (res_tmp rfl res_nil) (fun W hW => ⟨rfl, hW.low leB⟩)
  · refine Tr.skip (Tr.normThen ?_)
    refine Tr.seq ?_
    refine Tr.seq ?_
    refine Tr.region ?_
    refine Tr.val (wn rfl) rfl (fun _ _ h1 h2 => run_assign (h1.ev rfl)) ?_
    refine Tr.nil (Tr.normThen ?_)
    refine Tr.block ?_
    refine Tr.loop (σ := Int) (fun m w s => F_etchhouseref1_SameRects_L1 p0 p1 m s = some r) (fun s => [(0, (.slice Ap0_0 (p0).length cp0_0)), (1, (.slice Ap1_0 (p1).length cp1_0)), (5, (.int .i64 s))]) (fun s => []) N 0 H (.cons rfl (.cons rfl (.cons rfl .nil))) .nil (fun _ _ h => noSome (h)) ?_
    intro w leF_etchhouseref1_SameRects_L1 mF_etchhouseref1_SameRects_L1 x107 hs
    have H := hs
    replace H : F_etchhouseref1_SameRects_L1 p0 p1 (mF_etchhouseref1_SameRects_L1 + 1) x107 = some r := H
    replace hp0_0 := hp0_0.leR leF_etchhouseref1_SameRects_L1
    replace hp1_0 := hp1_0.leR leF_etchhouseref1_SameRects_L1
    replace leB := leB.trans leF_etchhouseref1_SameRects_L1
    rw [F_etchhouseref1_SameRects_L1.eq_2] at H
    show Tr _ _ (LF [(0, (.slice Ap0_0 (p0).length cp0_0)), (1, (.slice Ap1_0 (p1).length cp1_0)), (5, (.int .i64 x107))]) (LE []) _
    refine Tr.seq ?_
    refine Tr.seq ?_
    refine Tr.region ?_
    refine Tr.val (wn rfl) rfl (fun _ _ h1 h2 => run_move (h1.ev rfl)) ?_
    refine Tr.val (wn rfl) rfl (fun _ _ h1 h2 => run_move (h1.ev rfl)) ?_
    refine Tr.val (wn rfl) rfl (fun _ _ h1 h2 => run_len un_22 (h1.ev rfl)) ?_
    refine Tr.val (wn rfl) rfl (fun _ _ h1 h2 => run_lss (h1.ev rfl) (h1.ev rfl)) ?_
    refine Tr.nil (Tr.normThen ?_)
    refine Tr.cond rfl H (fun H => ?_) (fun H => ?_)
    · refine Tr.skip (Tr.normThen ?_)
      refine Tr.seq ?_
      refine Tr.block ?_
      refine Tr.seq ?_
      refine Tr.draw (by kernel_rfl) (by kernel_rfl) ?_
      refine Tq.val (wn rfl) rfl (fun _ _ h1 h2 => run_move (h1.ev rfl)) ?_
      refine Tq.val (wn rfl) rfl (fun _ _ h1 h2 => run_move (h1.ev rfl)) ?_
      obtain ⟨x108, hx108, H⟩ := bnd H
      obtain ⟨hx1080, hx1081, hx1082⟩ := idx_some hx108
      refine Tq.val (wn rfl) rfl (fun _ _ h1 h2 => run_indexAddr el_22 (h1.ev rfl) hp0_0.form (h1.ev rfl) hx1080 hx1081) ?_
      refine Tq.val (wn rfl) rfl (fun _ _ h1 h2 => run_loadN (cs := [(.int .i64 x108.X0), (.int .i64 x108.Y0), (.int .i64 x108.X1), (.int .i64 x108.Y1)]) ag_29 sz_29 (h1.ev rfl) (CellsAt.take (rdF ef_TRect hp0_0 hx1082 h2) 4) rfl) ?_
      refine Tq.val (wn rfl) rfl (fun _ _ h1 h2 => run_move (h1.ev rfl)) ?_
      refine Tq.val (wn rfl) rfl (fun _ _ h1 h2 => run_move (h1.ev rfl)) ?_
      obtain ⟨x109, hx109, H⟩ := bnd H
      obtain ⟨hx1090, hx1091, hx1092⟩ := idx_some hx109
      refine Tq.val (wn rfl) rfl (fun _ _ h1 h2 => run_indexAddr el_22 (h1.ev rfl) hp1_0.form (h1.ev rfl) hx1090 hx1091) ?_
      refine Tq.val (wn rfl) rfl (fun _ _ h1 h2 => run_loadN (cs := [(.int .i64 x109.X0), (.int .i64 x109.Y0), (.int .i64 x109.X1), (.int .i64 x109.Y1)]) ag_29 sz_29 (h1.ev rfl) (CellsAt.take (rdF ef_TRect hp1_0 hx1092 h2) 4) rfl) ?_
      refine Tq.val (wn rfl) rfl (fun _ _ h1 h2 => run_neq_29 x108 x109 (h1.ev rfl) (h1.ev rfl)) ?_
      refine Tq.nil (Tr.normThen ?_)
      refine Tr.cond rfl H (fun H => ?_) (fun H => ?_)
      · refine Tr.seq ?_
        refine Tr.region ?_
        refine Tr.val (wn rfl) rfl (fun _ _ h1 h2 => run_assign (h1.ev rfl)) ?_
        refine Tr.nil (Tr.normThen ?_)
        refine Tr.ret (Tr.retBlock (Tr.retThen (Tr.retThen (Tr.retBlock (Tr.retThen ?_)))))
        obtain rfl := Option.some.inj H
        exact Tr.out (m := [(.bool false)]) [] (res_tmp rfl res_nil) (fun W hW => ⟨rfl, hW.low leB⟩)
      · refine Tr.skip (Tr.normBlock (Tr.normThen ?_))
        refine Tr.region ?_
        refine Tr.val (wn rfl) rfl (fun _ _ h1 h2 => run_move (h1.ev rfl)) ?_
        refine Tr.val (wn rfl) rfl (fun _ _ h1 h2 => run_add (h1.ev rfl) (h1.ev rfl)) ?_
        refine Tr.val (wn rfl) rfl (fun _ _ h1 h2 => run_assign (h1.ev rfl)) ?_
        refine Tr.nil ?_
        exact Tr.backThen leF_etchhouseref1_SameRects_L1 (w64 (x107 + 1)) H (.cons rfl (.cons rfl (.cons rfl .nil))) .nil
    · refine Tr.exit (Tr.exitThen (Tr.exitThen (Tr.exitBlock (Tr.normThen ?_))))
      refine Tr.seq ?_
      refine Tr.region ?_
      refine Tr.val (wn rfl) rfl (fun _ _ h1 h2 => run_assign (h1.ev rfl)) ?_
      refine Tr.nil (Tr.normThen ?_)
      refine Tr.ret ?_
      obtain rfl := Option.some.inj H
      exact Tr.out (m := [(.bool true)]) [] (res_tmp rfl res_nil) (fun W hW => ⟨rfl, hW.low leB⟩)

theorem F_etchhouseref1_CheckRegion_ok (N : Nat) {w : Bs} (p0 : (List TRect)) (Ap0_0 : Option Addr) (cp0_0 : Nat) (hp0_0 : Sl w.R w.W fl_TRect Ap0_0 cp0_0 p0) (r : Int) (H : F_etchhouseref1_CheckRegion N p0 = some r) (hE : HF w w.W E0) : Calls Try.prog 18 [(.slice Ap0_0 (p0).length cp0_0)].toArray w.W fun e W' => e = .returned (.int .i64 r) ∧ HF w W' E0 := by
  unfold F_etchhouseref1_CheckRegion at H
  have leB := Bs.Le.refl w
  refine Tr.enter (n := 32) Try.func18 rfl rfl rfl hE ?_
  refine Tr.seq ?_
  refine Tr.region ?_
  refine Tr.val (wn rfl) rfl (fun _ _ h1 h2 => run_assign (h1.ev rfl)) ?_
  refine Tr.nil (Tr.normThen ?_)
  refine Tr.seq ?_
  refine Tr.seq ?_
  refine Tr.region ?_
  refine Tr.val (wn rfl) rfl (fun _ _ h1 h2 => run_move (h1.ev rfl)) ?_
  obtain ⟨y100, hy100, H⟩ := bnd H
  refine Tr.call0 (r := (.int .i64 y100)) (wn rfl) rfl Try.call16 (evl_cons rfl evl_nil) (fun W hW => F_etchhouseref1_CheckRects_ok N p0 Ap0_0 cp0_0 (hp0_0.ext hW.extAll) y100 hy100 (HF.start _)) ?_
  refine Tr.val (wn rfl) rfl (fun _ _ h1 h2 => run_assign (h1.ev rfl)) ?_
  refine Tr.nil (Tr.normThen ?_)
  refine Tr.seq ?_
  refine Tr.region ?_
  refine Tr.val (wn rfl) rfl (fun _ _ h1 h2 => run_move (h1.ev rfl)) ?_
  refine Tr.val (wn rfl) rfl (fun _ _ h1 h2 => run_neq (h1.ev rfl) (h1.ev rfl)) ?_
  refine Tr.nil (Tr.normThen ?_)
  refine Tr.cond rfl H (fun H => ?_) (fun H => ?_)
  · refine Tr.seq ?_
    refine Tr.region ?_
    refine Tr.val (wn rfl) rfl (fun _ _ h1 h2 => run_move (h1.ev rfl)) ?_
    refine Tr.val (wn rfl) rfl (fun _ _ h1 h2 => run_assign (h1.ev rfl)) ?_
    refine Tr.nil (Tr.normThen ?_)
    refine Tr.ret (Tr.retThen ?_)
    obtain rfl := Option.some.inj H
    exact Tr.out (m := [(.int .i64 y100)]) [] (res_tmp rfl res_nil) (fun W hW => ⟨rfl, hW.low leB⟩)
  · refine Tr.skip (Tr.normThen ?_)
    refine Tr.seq ?_
    refine Tr.seq ?_
    refine Tr.region ?_
    refine Tr.val (wn rfl) rfl (fun _ _ h1 h2 => run_assign (h1.ev rfl)) ?_
    refine Tr.nil (Tr.normThen ?_)
    refine Tr.block ?_
    refine Tr.loop (σ := Int) (fun m w s => F_etchhouseref1_CheckRegion_L1 N p0 m s = some r) (fun s => [(0, (.slice Ap0_0 (p0).length cp0_0)), (4, (.int .i64 s))]) (fun s => []) N 1 H (.cons rfl (.cons rfl .nil)) .nil (fun _ _ h => noSome (h)) ?_
    intro w leF_etchhouseref1_CheckRegion_L1 mF_etchhouseref1_CheckRegion_L1 x110 hs
    have H := hs
    replace H : F_etchhouseref1_CheckRegion_L1 N p0 (mF_etchhouseref1_CheckRegion_L1 + 1) x110 = some r := H
    replace hp0_0 := hp0_0.leR leF_etchhouseref1_CheckRegion_L1
    replace leB := leB.trans leF_etchhouseref1_CheckRegion_L1
    rw [F_etchhouseref1_CheckRegion_L1.eq_2] at H
    show Tr _ _ (LF [(0, (.slice Ap0_0 (p0).length cp0_0)), (4, (.int .i64 x110))]) (LE []) _
    refine Tr.seq ?_
    refine Tr.seq ?_
    refine Tr.region ?_
    refine Tr.val (wn rfl) rfl (fun _ _ h1 h2 => run_move (h1.ev rfl)) ?_
    refine Tr.val (wn rfl) rfl (fun _ _ h1 h2 => run_move (h1.ev rfl)) ?_
    refine Tr.val (wn rfl) rfl (fun _ _ h1 h2 => run_len un_22 (h1.ev rfl)) ?_
    refine Tr.val (wn rfl) rfl (fun _ _ h1 h2 => run_lss (h1.ev rfl) (h1.ev rfl)) ?_
    refine Tr.nil (Tr.normThen ?_)
    refine Tr.cond rfl H (fun H => ?_) (fun H => ?_)
    · refine Tr.skip (Tr.normThen ?_)
      refine Tr.seq ?_
      refine Tr.block ?_
      refine Tr.seq ?_
      refine Tr.draw (by kernel_rfl) (by kernel_rfl) ?_
      refine Tq.val (wn rfl) rfl (fun _ _ h1 h2 => run_move (h1.ev rfl)) ?_
      refine Tq.val (wn rfl) rfl (fun _ _ h1 h2 => run_move (h1.ev rfl)) ?_
      refine Tq.val (wn rfl) rfl (fun _ _ h1 h2 => run_sub (h1.ev rfl) (h1.ev rfl)) ?_
      obtain ⟨x111, hx111, H⟩ := bnd H
      obtain ⟨hx1110, hx1111, hx1112⟩ := idx_some hx111
      refine Tq.val (wn rfl) rfl (fun _ _ h1 h2 => run_indexAddr el_22 (h1.ev rfl) hp0_0.form (h1.ev rfl) hx1110 hx1111) ?_
      refine Tq.val (wn rfl) rfl (fun _ _ h1 h2 => run_loadN (cs := [(.int .i64 x111.X0), (.int .i64 x111.Y0), (.int .i64 x111.X1), (.int .i64 x111.Y1)]) ag_29 sz_29 (h1.ev rfl) (CellsAt.take (rdF ef_TRect hp0_0 hx1112 h2) 4) rfl) ?_
      refine Tq.val (wn rfl) rfl (fun _ _ h1 h2 => run_move (h1.ev rfl)) ?_
      refine Tq.val (wn rfl) rfl (fun _ _ h1 h2 => run_move (h1.ev rfl)) ?_
      obtain ⟨x112, hx112, H⟩ := bnd H
      obtain ⟨hx1120, hx1121, hx1122⟩ := idx_some hx112
      refine Tq.val (wn rfl) rfl (fun _ _ h1 h2 => run_indexAddr el_22 (h1.ev rfl) hp0_0.form (h1.ev rfl) hx1120 hx1121) ?_
      refine Tq.val (wn rfl) rfl (fun _ _ h1 h2 => run_loadN (cs := [(.int .i64 x112.X0), (.int .i64 x112.Y0), (.int .i64 x112.X1), (.int .i64 x112.Y1)]) ag_29 sz_29 (h1.ev rfl) (CellsAt.take (rdF ef_TRect hp0_0 hx1122 h2) 4) rfl) ?_
      obtain ⟨y113, hy113, H⟩ := bnd H
      refine Tq.call0 (r := (.bool y113)) (wn rfl) rfl Try.call57 (evl_cons rfl (evl_cons rfl evl_nil)) (fun W hW => F_etchhouseref1_before_ok x111 x112 y113 hy113 (HF.start _)) ?_
      refine Tq.val (wn rfl) rfl (fun _ _ h1 h2 => run_not (h1.ev rfl)) ?_
      refine Tq.nil (Tr.normThen ?_)
      refine Tr.cond rfl H (fun H => ?_) (fun H => ?_)
      · refine Tr.seq ?_
        refine Tr.region ?_
        refine Tr.val (wn rfl) rfl (fun _ _ h1 h2 => run_assign (h1.ev rfl)) ?_
        refine Tr.nil (Tr.normThen ?_)
        refine Tr.ret (Tr.retBlock (Tr.retThen (Tr.retThen (Tr.retBlock (Tr.retThen ?_)))))
        obtain rfl := Option.some.inj H
        exact Tr.out (m := [(.int .i64 8)]) [] (res_tmp rfl res_nil) (fun W hW => ⟨rfl, hW.low leB⟩)
      · refine Tr.skip (Tr.normBlock (Tr.normThen ?_))
        refine Tr.region ?_
        refine Tr.val (wn rfl) rfl (fun _ _ h1 h2 => run_move (h1.ev rfl)) ?_
        refine Tr.val (wn rfl) rfl (fun _ _ h1 h2 => run_add (h1.ev rfl) (h1.ev rfl)) ?_
        refine Tr.val (wn rfl) rfl (fun _ _ h1 h2 => run_assign (h1.ev rfl)) ?_
        refine Tr.nil ?_
        exact Tr.backThen leF_etchhouseref1_CheckRegion_L1 (w64 (x110 + 1)) H (.cons rfl (.cons rfl .nil)) .nil
    · refine Tr.exit (Tr.exitThen (Tr.exitThen (Tr.exitBlock (Tr.normThen ?_))))
      refine Tr.seq ?_
      refine Tr.seq ?_
      refine Tr.region ?_
      refine Tr.val (wn rfl) rfl (fun _ _ h1 h2 => run_move (h1.ev rfl)) ?_
      refine Tr.val (wn rfl) rfl (fun _ _ h1 h2 => run_move (h1.ev rfl)) ?_
      obtain ⟨y114, hy114, H⟩ := bnd H
      refine Tr.callM [1] [emp] (U := (Option Addr × Nat)) (fun u => (.slice u.1 (y114).length u.2)) (fun u => SlF u.1 (y114).length u.2) (fun u => [ow u.1 u.2 29 fl_TRect y114]) rfl (pk_cons rfl pk_nil) (fun _ => rfl) (wn rfl) rfl Try.call53 (evl_cons rfl evl_nil) (fun W hW hp hE => F_etchhouseref1_Canonical_ok N p0 Ap0_0 cp0_0 (hp0_0.ext (hW.extS hp)) y114 hy114 hE) ?_
      intro u hu
      obtain ⟨Ay114_0, cy114_0⟩ := u
      have gy114_0 := hu
      have hgy114_0 : SlF Ay114_0 (y114).length cy114_0 := gy114_0 --@phi
      show Tr _ _ (uf _ 29 (.slice Ay114_0 (y114).length cy114_0)) (up _ 1 (ow Ay114_0 cy114_0 29 fl_TRect y114)) _
      obtain ⟨y116, hy116, H⟩ := bnd H
      refine Tr.call0 (r := (.bool y116)) (wn rfl) rfl Try.call58 (evl_cons rfl (evl_cons rfl evl_nil)) (fun W hW => F_etchhouseref1_SameRects_ok N p0 Ap0_0 cp0_0 (hp0_0.ext hW.extAll) y114 Ay114_0 cy114_0 (hW.slCall (k := 1) rfl) y116 hy116 (HF.start _)) ?_
      refine Tr.val (wn rfl) rfl (fun _ _ h1 h2 => run_not (h1.ev rfl)) ?_
      refine Tr.nil (Tr.normThen ?_)
      refine Tr.cond rfl H (fun H => ?_) (fun H => ?_)
      · refine Tr.seq ?_
        refine Tr.region ?_
        refine Tr.val (wn rfl) rfl (fun _ _ h1 h2 => run_assign (h1.ev rfl)) ?_
        refine Tr.nil (Tr.normThen ?_)
        refine Tr.ret (Tr.retThen ?_)
        obtain rfl := Option.some.inj H
        exact Tr.out (m := [(.int .i64 3)]) [] (res_tmp rfl res_nil) (fun W hW => ⟨rfl, hW.low leB⟩)
      · refine Tr.skip (Tr.normThen ?_)
        refine Tr.seq ?_
        refine Tr.region ?_
        refine Tr.val (wn rfl) rfl (fun _ _ h1 h2 => run_assign (h1.ev rfl)) ?_
        refine Tr.nil (Tr.normThen ?_)
        refine Tr.ret ?_
        obtain rfl := Option.some.inj H
        exact Tr.out (m := [(.int .i64 0)]) [] (res_tmp rfl res_nil) (fun W hW => ⟨rfl, hW.low leB⟩)

theorem F_etchhouseref1_far_ok {w : Bs} (p0 : Int) (p1 : Int) (p2 : Int) (p3 : Int) (r : Int) (H : F_etchhouseref1_far p0 p1 p2 p3 = some r) (hE : HF w w.W E0) : Calls Try.prog 122 [(.int .i64 p0), (.int .i64 p1), (.int .i64 p2), (.int .i64 p3)].toArray w.W fun e W' => e = .returned (.int .i64 r) ∧ HF w W' E0 := by
  unfold F_etchhouseref1_far at H
  have leB := Bs.Le.refl w
  refine Tr.enter (n := 18) Try.func122 rfl rfl rfl hE ?_
  refine Tr.seq ?_
  refine Tr.region ?_
  refine Tr.val (wn rfl) rfl (fun _ _ h1 h2 => run_assign (h1.ev rfl)) ?_
  refine Tr.nil (Tr.normThen ?_)
  refine Tr.seq ?_
  refine Tr.region ?_
  refine Tr.val (wn rfl) rfl (fun _ _ h1 h2 => run_move (h1.ev rfl)) ?_
  refine Tr.val (wn rfl) rfl (fun _ _ h1 h2 => run_move (h1.ev rfl)) ?_
  refine Tr.val (wn rfl) rfl (fun _ _ h1 h2 => run_sub (h1.ev rfl) (h1.ev rfl)) ?_
  refine Tr.val (wn rfl) rfl (fun _ _ h1 h2 => run_sub (h1.ev rfl) (h1.ev rfl)) ?_
  refine Tr.val (wn rfl) rfl (fun _ _ h1 h2 => run_move (h1.ev rfl)) ?_
  refine Tr.val (wn rfl) rfl (fun _ _ h1 h2 => run_move (h1.ev rfl)) ?_
  refine Tr.val (wn rfl) rfl (fun _ _ h1 h2 => run_sub (h1.ev rfl) (h1.ev rfl)) ?_
  refine Tr.val (wn rfl) rfl (fun _ _ h1 h2 => run_sub (h1.ev rfl) (h1.ev rfl)) ?_
  refine Tr.val (wn rfl) rfl (fun _ _ h1 h2 => run_max3 (h1.ev rfl) (h1.ev rfl) (h1.ev rfl) _) ?_
  refine Tr.val (wn rfl) rfl (fun _ _ h1 h2 => run_assign (h1.ev rfl)) ?_
  refine Tr.nil (Tr.normThen ?_)
  refine Tr.ret ?_
  obtain rfl := Option.some.inj H
  exact Tr.out (m := [(.int .i64 (max (max 0 (w64 (p2 - (w64 (p1 - 1))))) (w64 (p0 - (w64 (p3 - 1))))))]) [] (res_tmp rfl res_nil) (fun W hW => ⟨rfl, hW.low leB⟩)

theorem F_etchhouseref1_farRects_ok {w : Bs} (p0 : TRect) (p1 : TRect) (r : Int) (H : F_etchhouseref1_farRects p0 p1 = some r) (hE : HF w w.W E0) : Calls Try.prog 105 [(.agg #[(.int .i64 p0.X0), (.int .i64 p0.Y0), (.int .i64 p0.X1), (.int .i64 p0.Y1)]), (.agg #[(.int .i64 p1.X0), (.int .i64 p1.Y0), (.int .i64 p1.X1), (.int .i64 p1.Y1)])].toArray w.W fun e W' => e = .returned (.int .i64 r) ∧ HF w W' E0 := by
  unfold F_etchhouseref1_farRects at H
  have leB := Bs.Le.refl w
  refine Tr.enter (n := 24) Try.func105 rfl rfl rfl hE ?_
  refine Tr.seq ?_
  refine Tr.region ?_
  refine Tr.box 1 (cs := [(.int .i64 p0.X0), (.int .i64 p0.Y0), (.int .i64 p0.X1), (.int .i64 p0.Y1)]) (wn rfl) rfl rfl rfl fun b100 => ?_
  refine Tr.box 2 (cs := [(.int .i64 p1.X0), (.int .i64 p1.Y0), (.int .i64 p1.X1), (.int .i64 p1.Y1)]) (wn rfl) rfl rfl rfl fun b101 => ?_
  refine Tr.val (wn rfl) rfl (fun _ _ h1 h2 => run_assign (h1.ev rfl)) ?_
  refine Tr.nil (Tr.normThen ?_)
  refine Tr.seq ?_
  refine Tr.draw (by kernel_rfl) (by kernel_rfl) ?_
  refine Tq.val (wn rfl) rfl (fun _ _ h1 h2 => run_fieldAddr fo_29_0 (h1.ev rfl)) ?_
  refine Tq.val (wn rfl) rfl (fun _ _ h1 h2 => run_load1 ag_3 (h1.ev rfl) (rdb h2 (vs := [(.int .i64 p0.X0), (.int .i64 p0.Y0), (.int .i64 p0.X1), (.int .i64 p0.Y1)]) (k := 1) rfl 0) rfl) ?_
  refine Tq.val (wn rfl) rfl (fun _ _ h1 h2 => run_fieldAddr fo_29_2 (h1.ev rfl)) ?_
  refine Tq.val (wn rfl) rfl (fun _ _ h1 h2 => run_load1 ag_3 (h1.ev rfl) (rdb h2 (vs := [(.int .i64 p0.X0), (.int .i64 p0.Y0), (.int .i64 p0.X1), (.int .i64 p0.Y1)]) (k := 1) rfl 2) rfl) ?_
  refine Tq.val (wn rfl) rfl (fun _ _ h1 h2 => run_fieldAddr fo_29_0 (h1.ev rfl)) ?_
  refine Tq.val (wn rfl) rfl (fun _ _ h1 h2 => run_load1 ag_3 (h1.ev rfl) (rdb h2 (vs := [(.int .i64 p1.X0), (.int .i64 p1.Y0), (.int .i64 p1.X1), (.int .i64 p1.Y1)]) (k := 2) rfl 0) rfl) ?_
  refine Tq.val (wn rfl) rfl (fun _ _ h1 h2 => run_fieldAddr fo_29_2 (h1.ev rfl)) ?_
  refine Tq.val (wn rfl) rfl (fun _ _ h1 h2 => run_load1 ag_3 (h1.ev rfl) (rdb h2 (vs := [(.int .i64 p1.X0), (.int .i64 p1.Y0), (.int .i64 p1.X1), (.int .i64 p1.Y1)]) (k := 2) rfl 2) rfl) ?_
  obtain ⟨y102, hy102, H⟩ := bnd H
  refine Tq.call0 (r := (.int .i64 y102)) (wn rfl) rfl Try.call122 (evl_cons rfl (evl_cons rfl (evl_cons rfl (evl_cons rfl evl_nil)))) (fun W hW => F_etchhouseref1_far_ok p0.X0 p0.X1 p1.X0 p1.X1 y102 hy102 (HF.start _)) ?_
  refine Tq.val (wn rfl) rfl (fun _ _ h1 h2 => run_fieldAddr fo_29_1 (h1.ev rfl)) ?_
  refine Tq.val (wn rfl) rfl (fun _ _ h1 h2 => run_load1 ag_3 (h1.ev rfl) (rdb h2 (vs := [(.int .i64 p0.X0), (.int .i64 p0.Y0), (.int .i64 p0.X1), (.int .i64 p0.Y1)]) (k := 1) rfl 1) rfl) ?_
  refine Tq.val (wn rfl) rfl (fun _ _ h1 h2 => run_fieldAddr fo_29_3 (h1.ev rfl)) ?_
  refine Tq.val (wn rfl) rfl (fun _ _ h1 h2 => run_load1 ag_3 (h1.ev rfl) (rdb h2 (vs := [(.int .i64 p0.X0), (.int .i64 p0.Y0), (.int .i64 p0.X1), (.int .i64 p0.Y1)]) (k := 1) rfl 3) rfl) ?_
  refine Tq.val (wn rfl) rfl (fun _ _ h1 h2 => run_fieldAddr fo_29_1 (h1.ev rfl)) ?_
  refine Tq.val (wn rfl) rfl (fun _ _ h1 h2 => run_load1 ag_3 (h1.ev rfl) (rdb h2 (vs := [(.int .i64 p1.X0), (.int .i64 p1.Y0), (.int .i64 p1.X1), (.int .i64 p1.Y1)]) (k := 2) rfl 1) rfl) ?_
  refine Tq.val (wn rfl) rfl (fun _ _ h1 h2 => run_fieldAddr fo_29_3 (h1.ev rfl)) ?_
  refine Tq.val (wn rfl) rfl (fun _ _ h1 h2 => run_load1 ag_3 (h1.ev rfl) (rdb h2 (vs := [(.int .i64 p1.X0), (.int .i64 p1.Y0), (.int .i64 p1.X1), (.int .i64 p1.Y1)]) (k := 2) rfl 3) rfl) ?_
  obtain ⟨y103, hy103, H⟩ := bnd H
  refine Tq.call0 (r := (.int .i64 y103)) (wn rfl) rfl Try.call122 (evl_cons rfl (evl_cons rfl (evl_cons rfl (evl_cons rfl evl_nil)))) (fun W hW => F_etchhouseref1_far_ok p0.Y0 p0.Y1 p1.Y0 p1.Y1 y103 hy103 (HF.start _)) ?_
  refine Tq.val (wn rfl) rfl (fun _ _ h1 h2 => run_max (h1.ev rfl) (h1.ev rfl) _) ?_
  refine Tq.val (wn rfl) rfl (fun _ _ h1 h2 => run_assign (h1.ev rfl)) ?_
  refine Tq.nil (Tr.normThen ?_)
  refine Tr.ret ?_
  obtain rfl := Option.some.inj H
  exact Tr.out (m := [(.int .i64 (max y102 y103))]) [] (res_tmp rfl res_nil) (fun W hW => ⟨rfl, hW.low leB⟩)

theorem F_etchhouseref1_farRegions_ok (N : Nat) {w : Bs} (p0 : (List TRect)) (Ap0_0 : Option Addr) (cp0_0 : Nat) (hp0_0 : Sl w.R w.W fl_TRect Ap0_0 cp0_0 p0) (p1 : (List TRect)) (Ap1_0 : Option Addr) (cp1_0 : Nat) (hp1_0 : Sl w.R w.W fl_TRect Ap1_0 cp1_0 p1) (r : Int) (H : F_etchhouseref1_farRegions N p0 p1 = some r) (hE : HF w w.W E0) : Calls Try.prog 75 [(.slice Ap0_0 (p0).length cp0_0), (.slice Ap1_0 (p1).length cp1_0)].toArray w.W fun e W' => e = .returned (.int .i64 r) ∧ HF w W' E0 := by
  unfold F_etchhouseref1_farRegions at H
  have leB := Bs.Le.refl w
  refine Tr.enter (n := 39) Try.func75 rfl rfl rfl hE ?_
  refine Tr.seq ?_
  refine Tr.region ?_
  refine Tr.val (wn rfl) rfl (fun _ _ h1 h2 => run_assign (h1.ev rfl)) ?_
  refine Tr.nil (Tr.normThen ?_)
  refine Tr.seq ?_
  refine Tr.draw (by kernel_rfl) (by kernel_rfl) ?_
  refine Tq.val (wn rfl) rfl (fun _ _ h1 h2 => run_move (h1.ev rfl)) ?_
  obtain ⟨x100, hx100, H⟩ := bnd H
  obtain ⟨hx1000, hx1001, hx1002⟩ := idx_some hx100
  refine Tq.val (wn rfl) rfl (fun _ _ h1 h2 => run_indexAddr el_22 (h1.ev rfl) hp0_0.form (h1.ev rfl) hx1000 hx1001) ?_
  refine Tq.val (wn rfl) rfl (fun _ _ h1 h2 => run_loadN (cs := [(.int .i64 x100.X0), (.int .i64 x100.Y0), (.int .i64 x100.X1), (.int .i64 x100.Y1)]) ag_29 sz_29 (h1.ev rfl) (CellsAt.take (rdF ef_TRect hp0_0 hx1002 h2) 4) rfl) ?_
  refine Tq.val (wn rfl) rfl (fun _ _ h1 h2 => run_move (h1.ev rfl)) ?_
  obtain ⟨x101, hx101, H⟩ := bnd H
  obtain ⟨hx1010, hx1011, hx1012⟩ := idx_some hx101
  refine Tq.val (wn rfl) rfl (fun _ _ h1 h2 => run_indexAddr el_22 (h1.ev rfl) hp1_0.form (h1.ev rfl) hx1010 hx1011) ?_
  refine Tq.val (wn rfl) rfl (fun _ _ h1 h2 => run_loadN (cs := [(.int .i64 x101.X0), (.int .i64 x101.Y0), (.int .i64 x101.X1), (.int .i64 x101.Y1)]) ag_29 sz_29 (h1.ev rfl) (CellsAt.take (rdF ef_TRect hp1_0 hx1012 h2) 4) rfl) ?_
  obtain ⟨y102, hy102, H⟩ := bnd H
  refine Tq.call0 (r := (.int .i64 y102)) (wn rfl) rfl Try.call105 (evl_cons rfl (evl_cons rfl evl_nil)) (fun W hW => F_etchhouseref1_farRects_ok x100 x101 y102 hy102 (HF.start _)) ?_
  refine Tq.val (wn rfl) rfl (fun _ _ h1 h2 => run_assign (h1.ev rfl)) ?_
  refine Tq.nil (Tr.normThen ?_)
  refine Tr.seq ?_
  refine Tr.seq ?_
  refine Tr.region ?_
  refine Tr.val (wn rfl) rfl (fun _ _ h1 h2 => run_assign (h1.ev rfl)) ?_
  refine Tr.nil (Tr.normThen ?_)
  refine Tr.block ?_
  refine Tr.loop (σ := Int × Int) (fun m w s => F_etchhouseref1_farRegions_L3 N p0 p1 m s.1 s.2 = some r) (fun s => [(0, (.slice Ap0_0 (p0).length cp0_0)), (1, (.slice Ap1_0 (p1).length cp1_0)), (5, (.int .i64 s.1)), (6, (.int .i64 s.2))]) (fun s => []) N (y102, 0) H (.cons rfl (.cons rfl (.cons rfl (.cons rfl .nil)))) .nil (fun _ _ h => noSome (h)) ?_
  intro w leF_etchhouseref1_farRegions_L3 mF_etchhouseref1_farRegions_L3 s hs
  obtain ⟨x143, x144⟩ := s
  have H := hs
  replace H : F_etchhouseref1_farRegions_L3 N p0 p1 (mF_etchhouseref1_farRegions_L3 + 1) x143 x144 = some r := H
  replace hp0_0 := hp0_0.leR leF_etchhouseref1_farRegions_L3
  replace hp1_0 := hp1_0.leR leF_etchhouseref1_farRegions_L3
  replace leB := leB.trans leF_etchhouseref1_farRegions_L3
  rw [F_etchhouseref1_farRegions_L3.eq_2] at H
  show Tr _ _ (LF [(0, (.slice Ap0_0 (p0).length cp0_0)), (1, (.slice Ap1_0 (p1).length cp1_0)), (5, (.int .i64 x143)), (6, (.int .i64 x144))]) (LE []) _
  refine Tr.seq ?_
  refine Tr.seq ?_
  refine Tr.region ?_
  refine Tr.val (wn rfl) rfl (fun _ _ h1 h2 => run_move (h1.ev rfl)) ?_
  refine Tr.val (wn rfl) rfl (fun _ _ h1 h2 => run_move (h1.ev rfl)) ?_
  refine Tr.val (wn rfl) rfl (fun _ _ h1 h2 => run_len un_22 (h1.ev rfl)) ?_
  refine Tr.val (wn rfl) rfl (fun _ _ h1 h2 => run_lss (h1.ev rfl) (h1.ev rfl)) ?_
  refine Tr.nil (Tr.normThen ?_)
  refine Tr.cond rfl H (fun H => ?_) (fun H => ?_)
  · refine Tr.skip (Tr.normThen ?_)
    refine Tr.seq ?_
    refine Tr.block ?_
    refine Tr.seq ?_
    refine Tr.region ?_
    refine Tr.val (wn rfl) rfl (fun _ _ h1 h2 => run_assign (h1.ev rfl)) ?_
    refine Tr.nil (Tr.normThen ?_)
    refine Tr.block ?_
    refine Tr.loop (σ := Int × Int) (fun m w s => F_etchhouseref1_farRegions_L4 p0 p1 x144 (F_etchhouseref1_farRegions_L3 N p0 p1 mF_etchhouseref1_farRegions_L3) m s.1 s.2 = some r) (fun s => [(0, (.slice Ap0_0 (p0).length cp0_0)), (1, (.slice Ap1_0 (p1).length cp1_0)), (5, (.int .i64 s.1)), (6, (.int .i64 x144)), (7, (.int .i64 s.2))]) (fun s => []) N (x143, 0) H (.cons rfl (.cons rfl (.cons rfl (.cons rfl (.cons rfl .nil))))) .nil (fun _ _ h => noSome (h)) ?_
    intro w leF_etchhouseref1_farRegions_L4 mF_etchhouseref1_farRegions_L4 s hs
    obtain ⟨x157, x158⟩ := s
    have H := hs
    replace H : F_etchhouseref1_farRegions_L4 p0 p1 x144 (F_etchhouseref1_farRegions_L3 N p0 p1 mF_etchhouseref1_farRegions_L3) (mF_etchhouseref1_farRegions_L4 + 1) x157 x158 = some r := H
    replace hp0_0 := hp0_0.leR leF_etchhouseref1_farRegions_L4
    replace hp1_0 := hp1_0.leR leF_etchhouseref1_farRegions_L4
    replace leB := leB.trans leF_etchhouseref1_farRegions_L4
    replace leF_etchhouseref1_farRegions_L3 := leF_etchhouseref1_farRegions_L3.trans leF_etchhouseref1_farRegions_L4
    rw [F_etchhouseref1_farRegions_L4.eq_2] at H
    show Tr _ _ (LF [(0, (.slice Ap0_0 (p0).length cp0_0)), (1, (.slice Ap1_0 (p1).length cp1_0)), (5, (.int .i64 x157)), (6, (.int .i64 x144)), (7, (.int .i64 x158))]) (LE []) _
    refine Tr.seq ?_
    refine Tr.seq ?_
    refine Tr.region ?_
    refine Tr.val (wn rfl) rfl (fun _ _ h1 h2 => run_move (h1.ev rfl)) ?_
    refine Tr.val (wn rfl) rfl (fun _ _ h1 h2 => run_move (h1.ev rfl)) ?_
    refine Tr.val (wn rfl) rfl (fun _ _ h1 h2 => run_len un_22 (h1.ev rfl)) ?_
    refine Tr.val (wn rfl) rfl (fun _ _ h1 h2 => run_lss (h1.ev rfl) (h1.ev rfl)) ?_
    refine Tr.nil (Tr.normThen ?_)
    refine Tr.cond rfl H (fun H => ?_) (fun H => ?_)
    · refine Tr.skip (Tr.normThen ?_)
      refine Tr.seq ?_
      refine Tr.block ?_
      refine Tr.draw (by kernel_rfl) (by kernel_rfl) ?_
      refine Tq.val (wn rfl) rfl (fun _ _ h1 h2 => run_move (h1.ev rfl)) ?_
      refine Tq.val (wn rfl) rfl (fun _ _ h1 h2 => run_move (h1.ev rfl)) ?_
      refine Tq.val (wn rfl) rfl (fun _ _ h1 h2 => run_move (h1.ev rfl)) ?_
      obtain ⟨x159, hx159, H⟩ := bnd H
      obtain ⟨hx1590, hx1591, hx1592⟩ := idx_some hx159
      refine Tq.val (wn rfl) rfl (fun _ _ h1 h2 => run_indexAddr el_22 (h1.ev rfl) hp0_0.form (h1.ev rfl) hx1590 hx1591) ?_
      refine Tq.val (wn rfl) rfl (fun _ _ h1 h2 => run_loadN (cs := [(.int .i64 x159.X0), (.int .i64 x159.Y0), (.int .i64 x159.X1), (.int .i64 x159.Y1)]) ag_29 sz_29 (h1.ev rfl) (CellsAt.take (rdF ef_TRect hp0_0 hx1592 h2) 4) rfl) ?_
      refine Tq.val (wn rfl) rfl (fun _ _ h1 h2 => run_move (h1.ev rfl)) ?_
      refine Tq.val (wn rfl) rfl (fun _ _ h1 h2 => run_move (h1.ev rfl)) ?_
      obtain ⟨x160, hx160, H⟩ := bnd H
      obtain ⟨hx1600, hx1601, hx1602⟩ := idx_some hx160
      refine Tq.val (wn rfl) rfl (fun _ _ h1 h2 => run_indexAddr el_22 (h1.ev rfl) hp1_0.form (h1.ev rfl) hx1600 hx1601) ?_
      refine Tq.val (wn rfl) rfl (fun _ _ h1 h2 => run_loadN (cs := [(.int .i64 x160.X0), (.int .i64 x160.Y0), (.int .i64 x160.X1), (.int .i64 x160.Y1)]) ag_29 sz_29 (h1.ev rfl) (CellsAt.take (rdF ef_TRect hp1_0 hx1602 h2) 4) rfl) ?_
      obtain ⟨y161, hy161, H⟩ := bnd H
      refine Tq.call0 (r := (.int .i64 y161)) (wn rfl) rfl Try.call105 (evl_cons rfl (evl_cons rfl evl_nil)) (fun W hW => F_etchhouseref1_farRects_ok x159 x160 y161 hy161 (HF.start _)) ?_
      refine Tq.val (wn rfl) rfl (fun _ _ h1 h2 => run_min (h1.ev rfl) (h1.ev rfl) _) ?_
      refine Tq.val (wn rfl) rfl (fun _ _ h1 h2 => run_assign (h1.ev rfl)) ?_
      refine Tq.nil (Tr.normBlock (Tr.normThen ?_))
      refine Tr.region ?_
      refine Tr.val (wn rfl) rfl (fun _ _ h1 h2 => run_move (h1.ev rfl)) ?_
      refine Tr.val (wn rfl) rfl (fun _ _ h1 h2 => run_add (h1.ev rfl) (h1.ev rfl)) ?_
      refine Tr.val (wn rfl) rfl (fun _ _ h1 h2 => run_assign (h1.ev rfl)) ?_
      refine Tr.nil ?_
      exact Tr.backThen leF_etchhouseref1_farRegions_L4 ((min x157 y161), (w64 (x158 + 1))) H (.cons rfl (.cons rfl (.cons rfl (.cons rfl (.cons rfl .nil))))) .nil
    · refine Tr.exit (Tr.exitThen (Tr.exitThen (Tr.exitBlock (Tr.normBlock (Tr.normThen ?_)))))
      refine Tr.region ?_
      refine Tr.val (wn rfl) rfl (fun _ _ h1 h2 => run_move (h1.ev rfl)) ?_
      refine Tr.val (wn rfl) rfl (fun _ _ h1 h2 => run_add (h1.ev rfl) (h1.ev rfl)) ?_
      refine Tr.val (wn rfl) rfl (fun _ _ h1 h2 => run_assign (h1.ev rfl)) ?_
      refine Tr.nil ?_
      exact Tr.backThen leF_etchhouseref1_farRegions_L3 (x157, (w64 (x144 + 1))) H (.cons rfl (.cons rfl (.cons rfl (.cons rfl .nil)))) .nil
  · refine Tr.exit (Tr.exitThen (Tr.exitThen (Tr.exitBlock (Tr.normThen ?_))))
    refine Tr.seq ?_
    refine Tr.region ?_
    refine Tr.val (wn rfl) rfl (fun _ _ h1 h2 => run_move (h1.ev rfl)) ?_
    refine Tr.val (wn rfl) rfl (fun _ _ h1 h2 => run_assign (h1.ev rfl)) ?_
    refine Tr.nil (Tr.normThen ?_)
    refine Tr.ret ?_
    obtain rfl := Option.some.inj H
    exact Tr.out (m := [(.int .i64 x143)]) [] (res_tmp rfl res_nil) (fun W hW => ⟨rfl, hW.low leB⟩)

theorem F_etchhouseref1_nearest_ok (N : Nat) {w : Bs} (p0 : (List TRect)) (Ap0_0 : Option Addr) (cp0_0 : Nat) (hp0_0 : Sl w.R w.W fl_TRect Ap0_0 cp0_0 p0) (p1 : (List TRect)) (Ap1_0 : Option Addr) (cp1_0 : Nat) (hp1_0 : Sl w.R w.W fl_TRect Ap1_0 cp1_0 p1) (p2 : Int) (r : (TPoint × Bool)) (H : F_etchhouseref1_nearest N p0 p1 p2 = some r) (hE : HF w w.W E0) : Calls Try.prog 106 [(.slice Ap0_0 (p0).length cp0_0), (.slice Ap1_0 (p1).length cp1_0), (.int .i64 p2)].toArray w.W fun e W' => e = .returned (.tuple #[(.agg #[(.int .i64 r.1.X), (.int .i64 r.1.Y)]), (.bool r.2)]) ∧ HF w W' E0 := by
  unfold F_etchhouseref1_nearest at H
  have leB := Bs.Le.refl w
  refine Tr.enter (n := 112) Try.func106 rfl rfl rfl hE ?_
  refine Tr.seq ?_
  refine Tr.region ?_
  refine Tr.alloc 1 (wn rfl) rfl ze_35 fun b100 => ?_
  refine Tr.val (wn rfl) rfl (fun _ _ h1 h2 => run_assign (h1.ev rfl)) ?_
  refine Tr.nil (Tr.normThen ?_)
  refine Tr.seq ?_
  refine Tr.region ?_
  refine Tr.build (vs := []) (cs := [(.int .i64 0), (.int .i64 0)]) (wn rfl) rfl evs_nil (by kernel_rfl) ?_
  refine Tr.alloc 2 (wn rfl) rfl ze_35 fun b101 => ?_
  refine Tr.store 2 (cs := [(.int .i64 0), (.int .i64 0)]) [(.int .i64 0), (.int .i64 0)] (wn rfl) rfl rfl rfl rfl sz_35 rfl rfl rfl ?_
  refine Tr.val (wn rfl) rfl (fun _ _ h1 h2 => run_assign (h1.ev rfl)) ?_
  refine Tr.nil (Tr.normThen ?_)
  refine Tr.seq ?_
  refine Tr.seq ?_
  refine Tr.region ?_
  refine Tr.val (wn rfl) rfl (fun _ _ h1 h2 => run_assign (h1.ev rfl)) ?_
  refine Tr.nil (Tr.normThen ?_)
  refine Tr.block ?_
  refine Tr.loop (σ := Int × Int × Bool × Int) (fun m w s => F_etchhouseref1_nearest_L3 N p0 p1 p2 m s.1 s.2.1 s.2.2.1 s.2.2.2 = some r) (fun s => [(0, (.slice Ap0_0 (p0).length cp0_0)), (1, (.slice Ap1_0 (p1).length cp1_0)), (2, (.int .i64 p2)), (6, (.pointer (some ⟨b100, 0, none⟩))), (8, (.pointer (some ⟨b101, 0, none⟩))), (9, (.bool s.2.2.1)), (10, (.int .i64 s.2.2.2))]) (fun s => [(1, bx b100 #[(.int .i64 0), (.int .i64 0)] 35), (2, bx b101 #[(.int .i64 s.1), (.int .i64 s.2.1)] 35)]) N (0, 0, false, 0) H (.cons rfl (.cons rfl (.cons rfl (.cons rfl (.cons rfl (.cons rfl (.cons rfl .nil))))))) (.cons rfl (.cons rfl .nil)) (fun _ _ h => noSome (h)) ?_
  intro w leF_etchhouseref1_nearest_L3 mF_etchhouseref1_nearest_L3 s hs
  obtain ⟨x212, x213, x214, x215⟩ := s
  have H := hs
  replace H : F_etchhouseref1_nearest_L3 N p0 p1 p2 (mF_etchhouseref1_nearest_L3 + 1) x212 x213 x214 x215 = some r := H
  replace hp0_0 := hp0_0.leR leF_etchhouseref1_nearest_L3
  replace hp1_0 := hp1_0.leR leF_etchhouseref1_nearest_L3
  replace leB := leB.trans leF_etchhouseref1_nearest_L3
  rw [F_etchhouseref1_nearest_L3.eq_2] at H
  show Tr _ _ (LF [(0, (.slice Ap0_0 (p0).length cp0_0)), (1, (.slice Ap1_0 (p1).length cp1_0)), (2, (.int .i64 p2)), (6, (.pointer (some ⟨b100, 0, none⟩))), (8, (.pointer (some ⟨b101, 0, none⟩))), (9, (.bool x214)), (10, (.int .i64 x215))]) (LE [(1, bx b100 #[(.int .i64 0), (.int .i64 0)] 35), (2, bx b101 #[(.int .i64 x212), (.int .i64 x213)] 35)]) _
  refine Tr.seq ?_
  refine Tr.seq ?_
  refine Tr.region ?_
  refine Tr.val (wn rfl) rfl (fun _ _ h1 h2 => run_move (h1.ev rfl)) ?_
  refine Tr.val (wn rfl) rfl (fun _ _ h1 h2 => run_move (h1.ev rfl)) ?_
  refine Tr.val (wn rfl) rfl (fun _ _ h1 h2 => run_len un_22 (h1.ev rfl)) ?_
  refine Tr.val (wn rfl) rfl (fun _ _ h1 h2 => run_lss (h1.ev rfl) (h1.ev rfl)) ?_
  refine Tr.nil (Tr.normThen ?_)
  refine Tr.cond rfl H (fun H => ?_) (fun H => ?_)
  · refine Tr.skip (Tr.normThen ?_)
    refine Tr.seq ?_
    refine Tr.block ?_
    refine Tr.seq ?_
    refine Tr.region ?_
    refine Tr.val (wn rfl) rfl (fun _ _ h1 h2 => run_assign (h1.ev rfl)) ?_
    refine Tr.nil (Tr.normThen ?_)
    refine Tr.block ?_
    refine Tr.loop (σ := Int × Int × Bool × Int) (fun m w s => F_etchhouseref1_nearest_L4 p0 p1 p2 x215 (F_etchhouseref1_nearest_L3 N p0 p1 p2 mF_etchhouseref1_nearest_L3) m s.1 s.2.1 s.2.2.1 s.2.2.2 = some r) (fun s => [(0, (.slice Ap0_0 (p0).length cp0_0)), (1, (.slice Ap1_0 (p1).length cp1_0)), (2, (.int .i64 p2)), (6, (.pointer (some ⟨b100, 0, none⟩))), (8, (.pointer (some ⟨b101, 0, none⟩))), (9, (.bool s.2.2.1)), (10, (.int .i64 x215)), (11, (.int .i64 s.2.2.2))]) (fun s => [(1, bx b100 #[(.int .i64 0), (.int .i64 0)] 35), (2, bx b101 #[(.int .i64 s.1), (.int .i64 s.2.1)] 35)]) N (x212, x213, x214, 0) H (.cons rfl (.cons rfl (.cons rfl (.cons rfl (.cons rfl (.cons rfl (.cons rfl (.cons rfl .nil)))))))) (.cons rfl (.cons rfl .nil)) (fun _ _ h => noSome (h)) ?_
    intro w leF_etchhouseref1_nearest_L4 mF_etchhouseref1_nearest_L4 s hs
    obtain ⟨x250, x251, x252, x253⟩ := s
    have H := hs
    replace H : F_etchhouseref1_nearest_L4 p0 p1 p2 x215 (F_etchhouseref1_nearest_L3 N p0 p1 p2 mF_etchhouseref1_nearest_L3) (mF_etchhouseref1_nearest_L4 + 1) x250 x251 x252 x253 = some r := H
    replace hp0_0 := hp0_0.leR leF_etchhouseref1_nearest_L4
    replace hp1_0 := hp1_0.leR leF_etchhouseref1_nearest_L4
    replace leB := leB.trans leF_etchhouseref1_nearest_L4
    replace leF_etchhouseref1_nearest_L3 := leF_etchhouseref1_nearest_L3.trans leF_etchhouseref1_nearest_L4
    rw [F_etchhouseref1_nearest_L4.eq_2] at H
    show Tr _ _ (LF [(0, (.slice Ap0_0 (p0).length cp0_0)), (1, (.slice Ap1_0 (p1).length cp1_0)), (2, (.int .i64 p2)), (6, (.pointer (some ⟨b100, 0, none⟩))), (8, (.pointer (some ⟨b101, 0, none⟩))), (9, (.bool x252)), (10, (.int .i64 x215)), (11, (.int .i64 x253))]) (LE [(1, bx b100 #[(.int .i64 0), (.int .i64 0)] 35), (2, bx b101 #[(.int .i64 x250), (.int .i64 x251)] 35)]) _
    refine Tr.seq ?_
    refine Tr.seq ?_
    refine Tr.region ?_
    refine Tr.val (wn rfl) rfl (fun _ _ h1 h2 => run_move (h1.ev rfl)) ?_
    refine Tr.val (wn rfl) rfl (fun _ _ h1 h2 => run_move (h1.ev rfl)) ?_
    refine Tr.val (wn rfl) rfl (fun _ _ h1 h2 => run_len un_22 (h1.ev rfl)) ?_
    refine Tr.val (wn rfl) rfl (fun _ _ h1 h2 => run_lss (h1.ev rfl) (h1.ev rfl)) ?_
    refine Tr.nil (Tr.normThen ?_)
    refine Tr.cond rfl H (fun H => ?_) (fun H => ?_)
    · refine Tr.skip (Tr.normThen ?_)
      refine Tr.seq ?_
      refine Tr.block ?_
      refine Tr.seq ?_
      refine Tr.draw (by kernel_rfl) (by kernel_rfl) ?_
      refine Tq.val (wn rfl) rfl (fun _ _ h1 h2 => run_move (h1.ev rfl)) ?_
      refine Tq.val (wn rfl) rfl (fun _ _ h1 h2 => run_move (h1.ev rfl)) ?_
      obtain ⟨x254, hx254, H⟩ := bnd H
      obtain ⟨hx2540, hx2541, hx2542⟩ := idx_some hx254
      refine Tq.val (wn rfl) rfl (fun _ _ h1 h2 => run_indexAddr el_22 (h1.ev rfl) hp0_0.form (h1.ev rfl) hx2540 hx2541) ?_
      refine Tq.val (wn rfl) rfl (fun _ _ h1 h2 => run_fieldAddr fo_29_0 (h1.ev rfl)) ?_
      refine Tq.val (wn rfl) rfl (fun _ _ h1 h2 => run_load1 ag_3 (h1.ev rfl) (CellsAt.drop (rdF ef_TRect hp0_0 hx2542 h2) 0) rfl) ?_
      refine Tq.val (wn rfl) rfl (fun _ _ h1 h2 => run_move (h1.ev rfl)) ?_
      refine Tq.val (wn rfl) rfl (fun _ _ h1 h2 => run_move (h1.ev rfl)) ?_
      obtain ⟨x255, hx255, H⟩ := bnd H
      obtain ⟨hx2550, hx2551, hx2552⟩ := idx_some hx255
      refine Tq.val (wn rfl) rfl (fun _ _ h1 h2 => run_indexAddr el_22 (h1.ev rfl) hp1_0.form (h1.ev rfl) hx2550 hx2551) ?_
      refine Tq.val (wn rfl) rfl (fun _ _ h1 h2 => run_fieldAddr fo_29_0 (h1.ev rfl)) ?_
      refine Tq.val (wn rfl) rfl (fun _ _ h1 h2 => run_load1 ag_3 (h1.ev rfl) (CellsAt.drop (rdF ef_TRect hp1_0 hx2552 h2) 0) rfl) ?_
      refine Tq.val (wn rfl) rfl (fun _ _ h1 h2 => run_move (h1.ev rfl)) ?_
      refine Tq.val (wn rfl) rfl (fun _ _ h1 h2 => run_sub (h1.ev rfl) (h1.ev rfl)) ?_
      refine Tq.val (wn rfl) rfl (fun _ _ h1 h2 => run_max (h1.ev rfl) (h1.ev rfl) _) ?_
      refine Tq.val (wn rfl) rfl (fun _ _ h1 h2 => run_move (h1.ev rfl)) ?_
      refine Tq.val (wn rfl) rfl (fun _ _ h1 h2 => run_move (h1.ev rfl)) ?_
      obtain ⟨x256, hx256, H⟩ := bnd H
      obtain ⟨hx2560, hx2561, hx2562⟩ := idx_some hx256
      refine Tq.val (wn rfl) rfl (fun _ _ h1 h2 => run_indexAddr el_22 (h1.ev rfl) hp0_0.form (h1.ev rfl) hx2560 hx2561) ?_
      refine Tq.val (wn rfl) rfl (fun _ _ h1 h2 => run_fieldAddr fo_29_1 (h1.ev rfl)) ?_
      refine Tq.val (wn rfl) rfl (fun _ _ h1 h2 => run_load1 ag_3 (h1.ev rfl) (CellsAt.drop (rdF ef_TRect hp0_0 hx2562 h2) 1) rfl) ?_
      refine Tq.val (wn rfl) rfl (fun _ _ h1 h2 => run_move (h1.ev rfl)) ?_
      refine Tq.val (wn rfl) rfl (fun _ _ h1 h2 => run_move (h1.ev rfl)) ?_
      obtain ⟨x257, hx257, H⟩ := bnd H
      obtain ⟨hx2570, hx2571, hx2572⟩ := idx_some hx257
      refine Tq.val (wn rfl) rfl (fun _ _ h1 h2 => run_indexAddr el_22 (h1.ev rfl) hp1_0.form (h1.ev rfl) hx2570 hx2571) ?_
      refine Tq.val (wn rfl) rfl (fun _ _ h1 h2 => run_fieldAddr fo_29_1 (h1.ev rfl)) ?_
      refine Tq.val (wn rfl) rfl (fun _ _ h1 h2 => run_load1 ag_3 (h1.ev rfl) (CellsAt.drop (rdF ef_TRect hp1_0 hx2572 h2) 1) rfl) ?_
      refine Tq.val (wn rfl) rfl (fun _ _ h1 h2 => run_move (h1.ev rfl)) ?_
      refine Tq.val (wn rfl) rfl (fun _ _ h1 h2 => run_sub (h1.ev rfl) (h1.ev rfl)) ?_
      refine Tq.val (wn rfl) rfl (fun _ _ h1 h2 => run_max (h1.ev rfl) (h1.ev rfl) _) ?_
      refine Tq.val (wn rfl) rfl (fun _ _ h1 h2 => run_assign (h1.ev rfl)) ?_
      refine Tq.val (wn rfl) rfl (fun _ _ h1 h2 => run_assign (h1.ev rfl)) ?_
      refine Tq.nil (Tr.normThen ?_)
      refine Tr.seq ?_
      refine Tr.seq ?_
      refine Tr.draw (by kernel_rfl) (by kernel_rfl) ?_
      refine Tq.val (wn rfl) rfl (fun _ _ h1 h2 => run_move (h1.ev rfl)) ?_
      refine Tq.val (wn rfl) rfl (fun _ _ h1 h2 => run_move (h1.ev rfl)) ?_
      refine Tq.val (wn rfl) rfl (fun _ _ h1 h2 => run_move (h1.ev rfl)) ?_
      obtain ⟨x258, hx258, H⟩ := bnd H
      obtain ⟨hx2580, hx2581, hx2582⟩ := idx_some hx258
      refine Tq.val (wn rfl) rfl (fun _ _ h1 h2 => run_indexAddr el_22 (h1.ev rfl) hp0_0.form (h1.ev rfl) hx2580 hx2581) ?_
      refine Tq.val (wn rfl) rfl (fun _ _ h1 h2 => run_fieldAddr fo_29_2 (h1.ev rfl)) ?_
      refine Tq.val (wn rfl) rfl (fun _ _ h1 h2 => run_load1 ag_3 (h1.ev rfl) (CellsAt.drop (rdF ef_TRect hp0_0 hx2582 h2) 2) rfl) ?_
      refine Tq.val (wn rfl) rfl (fun _ _ h1 h2 => run_move (h1.ev rfl)) ?_
      refine Tq.val (wn rfl) rfl (fun _ _ h1 h2 => run_move (h1.ev rfl)) ?_
      obtain ⟨x259, hx259, H⟩ := bnd H
      obtain ⟨hx2590, hx2591, hx2592⟩ := idx_some hx259
      refine Tq.val (wn rfl) rfl (fun _ _ h1 h2 => run_indexAddr el_22 (h1.ev rfl) hp1_0.form (h1.ev rfl) hx2590 hx2591) ?_
      refine Tq.val (wn rfl) rfl (fun _ _ h1 h2 => run_fieldAddr fo_29_2 (h1.ev rfl)) ?_
      refine Tq.val (wn rfl) rfl (fun _ _ h1 h2 => run_load1 ag_3 (h1.ev rfl) (CellsAt.drop (rdF ef_TRect hp1_0 hx2592 h2) 2) rfl) ?_
      refine Tq.val (wn rfl) rfl (fun _ _ h1 h2 => run_move (h1.ev rfl)) ?_
      refine Tq.val (wn rfl) rfl (fun _ _ h1 h2 => run_add (h1.ev rfl) (h1.ev rfl)) ?_
      refine Tq.val (wn rfl) rfl (fun _ _ h1 h2 => run_min (h1.ev rfl) (h1.ev rfl) _) ?_
      refine Tq.val (wn rfl) rfl (fun _ _ h1 h2 => run_sub (h1.ev rfl) (h1.ev rfl)) ?_
      refine Tq.val (wn rfl) rfl (fun _ _ h1 h2 => run_gtr (h1.ev rfl) (h1.ev rfl)) ?_
      refine Tq.val (wn rfl) rfl (fun _ _ h1 h2 => run_move (h1.ev rfl)) ?_
      obtain ⟨g262, hg262, H⟩ := bnd H
      refine Tq.mid 17 [(0, (.slice Ap0_0 (p0).length cp0_0)), (1, (.slice Ap1_0 (p1).length cp1_0)), (2, (.int .i64 p2)), (6, (.pointer (some ⟨b100, 0, none⟩))), (8, (.pointer (some ⟨b101, 0, none⟩))), (9, (.bool x252)), (10, (.int .i64 x215)), (11, (.int .i64 x253)), (12, (.int .i64 (max x254.X0 (w64 (x255.X0 - p2))))), (13, (.int .i64 (max x256.Y0 (w64 (x257.Y0 - p2))))), (86, (.bool g262))] ?_ ?_
      · cases hg264 : (decide ((w64 ((min x258.X1 (w64 (x259.X1 + p2))) - 1)) < (max x254.X0 (w64 (x255.X0 - p2)))))
        · rw [hg264] at hg262
          rw [if_neg (by decide)] at hg262
          have H := hg262
          refine Tq.val (wg rfl rfl rfl) rfl (fun _ _ h1 h2 => run_move (h1.ev rfl)) ?_
          refine Tq.val (wg rfl rfl rfl) rfl (fun _ _ h1 h2 => run_move (h1.ev rfl)) ?_
          refine Tq.val (wg rfl rfl rfl) rfl (fun _ _ h1 h2 => run_move (h1.ev rfl)) ?_
          obtain ⟨x263, hx263, H⟩ := bnd H
          obtain ⟨hx2630, hx2631, hx2632⟩ := idx_some hx263
          refine Tq.val (wg rfl rfl rfl) rfl (fun _ _ h1 h2 => run_indexAddr el_22 (h1.ev rfl) hp0_0.form (h1.ev rfl) hx2630 hx2631) ?_
          refine Tq.val (wg rfl rfl rfl) rfl (fun _ _ h1 h2 => run_fieldAddr fo_29_3 (h1.ev rfl)) ?_
          refine Tq.val (wg rfl rfl rfl) rfl (fun _ _ h1 h2 => run_load1 ag_3 (h1.ev rfl) (CellsAt.drop (rdF ef_TRect hp0_0 hx2632 h2) 3) rfl) ?_
          refine Tq.val (wg rfl rfl rfl) rfl (fun _ _ h1 h2 => run_move (h1.ev rfl)) ?_
          refine Tq.val (wg rfl rfl rfl) rfl (fun _ _ h1 h2 => run_move (h1.ev rfl)) ?_
          obtain ⟨x264, hx264, H⟩ := bnd H
          obtain ⟨hx2640, hx2641, hx2642⟩ := idx_some hx264
          refine Tq.val (wg rfl rfl rfl) rfl (fun _ _ h1 h2 => run_indexAddr el_22 (h1.ev rfl) hp1_0.form (h1.ev rfl) hx2640 hx2641) ?_
          refine Tq.val (wg rfl rfl rfl) rfl (fun _ _ h1 h2 => run_fieldAddr fo_29_3 (h1.ev rfl)) ?_
          refine Tq.val (wg rfl rfl rfl) rfl (fun _ _ h1 h2 => run_load1 ag_3 (h1.ev rfl) (CellsAt.drop (rdF ef_TRect hp1_0 hx2642 h2) 3) rfl) ?_
          refine Tq.val (wg rfl rfl rfl) rfl (fun _ _ h1 h2 => run_move (h1.ev rfl)) ?_
          refine Tq.val (wg rfl rfl rfl) rfl (fun _ _ h1 h2 => run_add (h1.ev rfl) (h1.ev rfl)) ?_
          refine Tq.val (wg rfl rfl rfl) rfl (fun _ _ h1 h2 => run_min (h1.ev rfl) (h1.ev rfl) _) ?_
          refine Tq.val (wg rfl rfl rfl) rfl (fun _ _ h1 h2 => run_sub (h1.ev rfl) (h1.ev rfl)) ?_
          refine Tq.val (wg rfl rfl rfl) rfl (fun _ _ h1 h2 => run_gtr (h1.ev rfl) (h1.ev rfl)) ?_
          refine Tq.val (wn rfl) rfl (fun _ _ h1 h2 => run_pickF (h1.ev rfl) (h1.ev rfl)) ?_
          obtain rfl := Option.some.inj H
          exact Tq.fin (.cons rfl (.cons rfl (.cons rfl (.cons rfl (.cons rfl (.cons rfl (.cons rfl (.cons rfl (.cons rfl (.cons rfl (.cons rfl .nil)))))))))))
        · rw [hg264] at hg262
          rw [if_pos rfl] at hg262
          have H := hg262
          obtain rfl := Option.some.inj H
          refine Tq.pass rfl rfl rfl rfl rfl (by decide) ?_
          refine Tq.pass rfl rfl rfl rfl rfl (by decide) ?_
          refine Tq.pass rfl rfl rfl rfl rfl (by decide) ?_
          refine Tq.pass rfl rfl rfl rfl rfl (by decide) ?_
          refine Tq.pass rfl rfl rfl rfl rfl (by decide) ?_
          refine Tq.pass rfl rfl rfl rfl rfl (by decide) ?_
          refine Tq.pass rfl rfl rfl rfl rfl (by decide) ?_
          refine Tq.pass rfl rfl rfl rfl rfl (by decide) ?_
          refine Tq.pass rfl rfl rfl rfl rfl (by decide) ?_
          refine Tq.pass rfl rfl rfl rfl rfl (by decide) ?_
          refine Tq.pass rfl rfl rfl rfl rfl (by decide) ?_
          refine Tq.pass rfl rfl rfl rfl rfl (by decide) ?_
          refine Tq.pass rfl rfl rfl rfl rfl (by decide) ?_
          refine Tq.pass rfl rfl rfl rfl rfl (by decide) ?_
          refine Tq.pass rfl rfl rfl rfl rfl (by decide) ?_
          refine Tq.pass rfl rfl rfl rfl rfl (by decide) ?_
          refine Tq.val (wn rfl) rfl (fun _ _ h1 h2 => run_pickT (h1.ev rfl) (h1.ev rfl)) ?_
          exact Tq.fin (.cons rfl (.cons rfl (.cons rfl (.cons rfl (.cons rfl (.cons rfl (.cons rfl (.cons rfl (.cons rfl (.cons rfl (.cons rfl .nil)))))))))))
      · refine Tq.nil (Tr.normThen ?_)
        refine Tr.cond rfl H (fun H => ?_) (fun H => ?_)
        · refine Tr.exit (Tr.exitThen (Tr.exitBlock (Tr.normThen ?_)))
          refine Tr.region ?_
          refine Tr.val (wn rfl) rfl (fun _ _ h1 h2 => run_move (h1.ev rfl)) ?_
          refine Tr.val (wn rfl) rfl (fun _ _ h1 h2 => run_add (h1.ev rfl) (h1.ev rfl)) ?_
          refine Tr.val (wn rfl) rfl (fun _ _ h1 h2 => run_assign (h1.ev rfl)) ?_
          refine Tr.nil ?_
          exact Tr.backThen leF_etchhouseref1_nearest_L4 (x250, x251, x252, (w64 (x253 + 1))) H (.cons rfl (.cons rfl (.cons rfl (.cons rfl (.cons rfl (.cons rfl (.cons rfl (.cons rfl .nil)))))))) (.cons rfl (.cons rfl .nil))
        · refine Tr.skip (Tr.normThen ?_)
          refine Tr.seq ?_
          refine Tr.region ?_
          refine Tr.val (wn rfl) rfl (fun _ _ h1 h2 => run_move (h1.ev rfl)) ?_
          refine Tr.val (wn rfl) rfl (fun _ _ h1 h2 => run_not (h1.ev rfl)) ?_
          refine Tr.val (wn rfl) rfl (fun _ _ h1 h2 => run_move (h1.ev rfl)) ?_
          refine Tr.mid0 5 [(0, (.slice Ap0_0 (p0).length cp0_0)), (1, (.slice Ap1_0 (p1).length cp1_0)), (2, (.int .i64 p2)), (6, (.pointer (some ⟨b100, 0, none⟩))), (8, (.pointer (some ⟨b101, 0, none⟩))), (9, (.bool x252)), (10, (.int .i64 x215)), (11, (.int .i64 x253)), (12, (.int .i64 (max x254.X0 (w64 (x255.X0 - p2))))), (13, (.int .i64 (max x256.Y0 (w64 (x257.Y0 - p2))))), (94, (.bool ((!x252) || (decide ((max x256.Y0 (w64 (x257.Y0 - p2))) < x251)))))] [(1, bx b100 #[(.int .i64 0), (.int .i64 0)] 35), (2, bx b101 #[(.int .i64 x250), (.int .i64 x251)] 35)] ?_ ?_
          · cases hg264 : (!x252)
            · refine Tr.val (wg rfl rfl rfl) rfl (fun _ _ h1 h2 => run_move (h1.ev rfl)) ?_
              refine Tr.val (wg rfl rfl rfl) rfl (fun _ _ h1 h2 => run_fieldAddr fo_35_1 (h1.ev rfl)) ?_
              refine Tr.val (wg rfl rfl rfl) rfl (fun _ _ h1 h2 => run_load1 ag_3 (h1.ev rfl) (rdb h2 (vs := [(.int .i64 x250), (.int .i64 x251)]) (k := 2) rfl 1) rfl) ?_
              refine Tr.val (wg rfl rfl rfl) rfl (fun _ _ h1 h2 => run_lss (h1.ev rfl) (h1.ev rfl)) ?_
              refine Tr.val (wn rfl) rfl (fun _ _ h1 h2 => run_pickF (h1.ev rfl) (h1.ev rfl)) ?_
              exact Tr.nil (Tr.fin0 (.cons rfl (.cons rfl (.cons rfl (.cons rfl (.cons rfl (.cons rfl (.cons rfl (.cons rfl (.cons rfl (.cons rfl (.cons rfl .nil))))))))))) (.cons rfl (.cons rfl .nil)))
            · refine Tr.pass rfl rfl rfl rfl rfl (by decide) ?_
              refine Tr.pass rfl rfl rfl rfl rfl (by decide) ?_
              refine Tr.pass rfl rfl rfl rfl rfl (by decide) ?_
              refine Tr.pass rfl rfl rfl rfl rfl (by decide) ?_
              refine Tr.val (wn rfl) rfl (fun _ _ h1 h2 => run_pickT (h1.ev rfl) (h1.ev rfl)) ?_
              exact Tr.nil (Tr.fin0 (.cons rfl (.cons rfl (.cons rfl (.cons rfl (.cons rfl (.cons rfl (.cons rfl (.cons rfl (.cons rfl (.cons rfl (.cons rfl .nil))))))))))) (.cons rfl (.cons rfl .nil)))
          · show Tr _ _ (LF [(0, (.slice Ap0_0 (p0).length cp0_0)), (1, (.slice Ap1_0 (p1).length cp1_0)), (2, (.int .i64 p2)), (6, (.pointer (some ⟨b100, 0, none⟩))), (8, (.pointer (some ⟨b101, 0, none⟩))), (9, (.bool x252)), (10, (.int .i64 x215)), (11, (.int .i64 x253)), (12, (.int .i64 (max x254.X0 (w64 (x255.X0 - p2))))), (13, (.int .i64 (max x256.Y0 (w64 (x257.Y0 - p2))))), (94, (.bool ((!x252) || (decide ((max x256.Y0 (w64 (x257.Y0 - p2))) < x251)))))]) (LE [(1, bx b100 #[(.int .i64 0), (.int .i64 0)] 35), (2, bx b101 #[(.int .i64 x250), (.int .i64 x251)] 35)]) _
            refine Tr.val (wn rfl) rfl (fun _ _ h1 h2 => run_move (h1.ev rfl)) ?_
            refine Tr.mid0 11 [(0, (.slice Ap0_0 (p0).length cp0_0)), (1, (.slice Ap1_0 (p1).length cp1_0)), (2, (.int .i64 p2)), (6, (.pointer (some ⟨b100, 0, none⟩))), (8, (.pointer (some ⟨b101, 0, none⟩))), (9, (.bool x252)), (10, (.int .i64 x215)), (11, (.int .i64 x253)), (12, (.int .i64 (max x254.X0 (w64 (x255.X0 - p2))))), (13, (.int .i64 (max x256.Y0 (w64 (x257.Y0 - p2))))), (106, (.bool (((!x252) || (decide ((max x256.Y0 (w64 (x257.Y0 - p2))) < x251))) || (((max x256.Y0 (w64 (x257.Y0 - p2))) == x251) && (decide ((max x254.X0 (w64 (x255.X0 - p2))) < x250))))))] [(1, bx b100 #[(.int .i64 0), (.int .i64 0)] 35), (2, bx b101 #[(.int .i64 x250), (.int .i64 x251)] 35)] ?_ ?_
            · cases hg264 : ((!x252) || (decide ((max x256.Y0 (w64 (x257.Y0 - p2))) < x251)))
              · refine Tr.val (wg rfl rfl rfl) rfl (fun _ _ h1 h2 => run_move (h1.ev rfl)) ?_
                refine Tr.val (wg rfl rfl rfl) rfl (fun _ _ h1 h2 => run_fieldAddr fo_35_1 (h1.ev rfl)) ?_
                refine Tr.val (wg rfl rfl rfl) rfl (fun _ _ h1 h2 => run_load1 ag_3 (h1.ev rfl) (rdb h2 (vs := [(.int .i64 x250), (.int .i64 x251)]) (k := 2) rfl 1) rfl) ?_
                refine Tr.val (wg rfl rfl rfl) rfl (fun _ _ h1 h2 => run_eql (h1.ev rfl) (h1.ev rfl)) ?_
                refine Tr.val (wg rfl rfl rfl) rfl (fun _ _ h1 h2 => run_move (h1.ev rfl)) ?_
                refine Tr.mid0 5 [(0, (.slice Ap0_0 (p0).length cp0_0)), (1, (.slice Ap1_0 (p1).length cp1_0)), (2, (.int .i64 p2)), (6, (.pointer (some ⟨b100, 0, none⟩))), (8, (.pointer (some ⟨b101, 0, none⟩))), (9, (.bool x252)), (10, (.int .i64 x215)), (11, (.int .i64 x253)), (12, (.int .i64 (max x254.X0 (w64 (x255.X0 - p2))))), (13, (.int .i64 (max x256.Y0 (w64 (x257.Y0 - p2))))), (95, (.bool false)), (105, (.bool (((max x256.Y0 (w64 (x257.Y0 - p2))) == x251) && (decide ((max x254.X0 (w64 (x255.X0 - p2))) < x250)))))] [(1, bx b100 #[(.int .i64 0), (.int .i64 0)] 35), (2, bx b101 #[(.int .i64 x250), (.int .i64 x251)] 35)] ?_ ?_
                · cases hg264 : ((max x256.Y0 (w64 (x257.Y0 - p2))) == x251)
                  · refine Tr.pass rfl rfl rfl rfl rfl (by decide) ?_
                    refine Tr.pass rfl rfl rfl rfl rfl (by decide) ?_
                    refine Tr.pass rfl rfl rfl rfl rfl (by decide) ?_
                    refine Tr.pass rfl rfl rfl rfl rfl (by decide) ?_
                    refine Tr.val (wg rfl rfl rfl) rfl (fun _ _ h1 h2 => run_pickF (h1.ev rfl) (h1.ev rfl)) ?_
                    exact Tr.nil (Tr.fin0 (.cons rfl (.cons rfl (.cons rfl (.cons rfl (.cons rfl (.cons rfl (.cons rfl (.cons rfl (.cons rfl (.cons rfl (.cons rfl (.cons rfl .nil)))))))))))) (.cons rfl (.cons rfl .nil)))
                  · refine Tr.val (wg rfl rfl rfl) rfl (fun _ _ h1 h2 => run_move (h1.ev rfl)) ?_
                    refine Tr.val (wg rfl rfl rfl) rfl (fun _ _ h1 h2 => run_fieldAddr fo_35_0 (h1.ev rfl)) ?_
                    refine Tr.val (wg rfl rfl rfl) rfl (fun _ _ h1 h2 => run_load1 ag_3 (h1.ev rfl) (rdb h2 (vs := [(.int .i64 x250), (.int .i64 x251)]) (k := 2) rfl 0) rfl) ?_
                    refine Tr.val (wg rfl rfl rfl) rfl (fun _ _ h1 h2 => run_lss (h1.ev rfl) (h1.ev rfl)) ?_
                    refine Tr.val (wg rfl rfl rfl) rfl (fun _ _ h1 h2 => run_pickT (h1.ev rfl) (h1.ev rfl)) ?_
                    exact Tr.nil (Tr.fin0 (.cons rfl (.cons rfl (.cons rfl (.cons rfl (.cons rfl (.cons rfl (.cons rfl (.cons rfl (.cons rfl (.cons rfl (.cons rfl (.cons rfl .nil)))))))))))) (.cons rfl (.cons rfl .nil)))
                · show Tr _ _ (LF [(0, (.slice Ap0_0 (p0).length cp0_0)), (1, (.slice Ap1_0 (p1).length cp1_0)), (2, (.int .i64 p2)), (6, (.pointer (some ⟨b100, 0, none⟩))), (8, (.pointer (some ⟨b101, 0, none⟩))), (9, (.bool x252)), (10, (.int .i64 x215)), (11, (.int .i64 x253)), (12, (.int .i64 (max x254.X0 (w64 (x255.X0 - p2))))), (13, (.int .i64 (max x256.Y0 (w64 (x257.Y0 - p2))))), (95, (.bool false)), (105, (.bool (((max x256.Y0 (w64 (x257.Y0 - p2))) == x251) && (decide ((max x254.X0 (w64 (x255.X0 - p2))) < x250)))))]) (LE [(1, bx b100 #[(.int .i64 0), (.int .i64 0)] 35), (2, bx b101 #[(.int .i64 x250), (.int .i64 x251)] 35)]) _
                  refine Tr.val (wn rfl) rfl (fun _ _ h1 h2 => run_pickF (h1.ev rfl) (h1.ev rfl)) ?_
                  exact Tr.nil (Tr.fin0 (.cons rfl (.cons rfl (.cons rfl (.cons rfl (.cons rfl (.cons rfl (.cons rfl (.cons rfl (.cons rfl (.cons rfl (.cons rfl .nil))))))))))) (.cons rfl (.cons rfl .nil)))
              · refine Tr.pass rfl rfl rfl rfl rfl (by decide) ?_
                refine Tr.pass rfl rfl rfl rfl rfl (by decide) ?_
                refine Tr.pass rfl rfl rfl rfl rfl (by decide) ?_
                refine Tr.pass rfl rfl rfl rfl rfl (by decide) ?_
                refine Tr.pass rfl rfl rfl rfl rfl (by decide) ?_
                refine Tr.passU rfl rfl rfl rfl (by decide) ?_
                refine Tr.passU rfl rfl rfl rfl (by decide) ?_
                refine Tr.passU rfl rfl rfl rfl (by decide) ?_
                refine Tr.passU rfl rfl rfl rfl (by decide) ?_
                refine Tr.pass rfl rfl rfl rfl rfl (by decide) ?_
                refine Tr.val (wn rfl) rfl (fun _ _ h1 h2 => run_pickT (h1.ev rfl) (h1.ev rfl)) ?_
                exact Tr.nil (Tr.fin0 (.cons rfl (.cons rfl (.cons rfl (.cons rfl (.cons rfl (.cons rfl (.cons rfl (.cons rfl (.cons rfl (.cons rfl (.cons rfl .nil))))))))))) (.cons rfl (.cons rfl .nil)))
            · show Tr _ _ (LF [(0, (.slice Ap0_0 (p0).length cp0_0)), (1, (.slice Ap1_0 (p1).length cp1_0)), (2, (.int .i64 p2)), (6, (.pointer (some ⟨b100, 0, none⟩))), (8, (.pointer (some ⟨b101, 0, none⟩))), (9, (.bool x252)), (10, (.int .i64 x215)), (11, (.int .i64 x253)), (12, (.int .i64 (max x254.X0 (w64 (x255.X0 - p2))))), (13, (.int .i64 (max x256.Y0 (w64 (x257.Y0 - p2))))), (106, (.bool (((!x252) || (decide ((max x256.Y0 (w64 (x257.Y0 - p2))) < x251))) || (((max x256.Y0 (w64 (x257.Y0 - p2))) == x251) && (decide ((max x254.X0 (w64 (x255.X0 - p2))) < x250))))))]) (LE [(1, bx b100 #[(.int .i64 0), (.int .i64 0)] 35), (2, bx b101 #[(.int .i64 x250), (.int .i64 x251)] 35)]) _
              refine Tr.nil (Tr.normThen ?_)
              refine Tr.cond rfl H (fun H => ?_) (fun H => ?_)
              · refine Tr.region ?_
                refine Tr.val (wn rfl) rfl (fun _ _ h1 h2 => run_move (h1.ev rfl)) ?_
                refine Tr.val (wn rfl) rfl (fun _ _ h1 h2 => run_move (h1.ev rfl)) ?_
                refine Tr.build (vs := [(0, (.int .i64 (max x254.X0 (w64 (x255.X0 - p2))))), (1, (.int .i64 (max x256.Y0 (w64 (x257.Y0 - p2)))))]) (cs := [(.int .i64 (max x254.X0 (w64 (x255.X0 - p2)))), (.int .i64 (max x256.Y0 (w64 (x257.Y0 - p2))))]) (wn rfl) rfl (evs_cons rfl (evs_cons rfl evs_nil)) (by kernel_rfl) ?_
                refine Tr.store 2 (cs := [(.int .i64 (max x254.X0 (w64 (x255.X0 - p2)))), (.int .i64 (max x256.Y0 (w64 (x257.Y0 - p2))))]) [(.int .i64 (max x254.X0 (w64 (x255.X0 - p2)))), (.int .i64 (max x256.Y0 (w64 (x257.Y0 - p2))))] (wn rfl) rfl rfl rfl rfl sz_35 rfl rfl rfl ?_
                refine Tr.val (wn rfl) rfl (fun _ _ h1 h2 => run_assign (h1.ev rfl)) ?_
                refine Tr.nil (Tr.normBlock (Tr.normThen ?_))
                refine Tr.region ?_
                refine Tr.val (wn rfl) rfl (fun _ _ h1 h2 => run_move (h1.ev rfl)) ?_
                refine Tr.val (wn rfl) rfl (fun _ _ h1 h2 => run_add (h1.ev rfl) (h1.ev rfl)) ?_
                refine Tr.val (wn rfl) rfl (fun _ _ h1 h2 => run_assign (h1.ev rfl)) ?_
                refine Tr.nil ?_
                exact Tr.backThen leF_etchhouseref1_nearest_L4 ((max x254.X0 (w64 (x255.X0 - p2))), (max x256.Y0 (w64 (x257.Y0 - p2))), true, (w64 (x253 + 1))) H (.cons rfl (.cons rfl (.cons rfl (.cons rfl (.cons rfl (.cons rfl (.cons rfl (.cons rfl .nil)))))))) (.cons rfl (.cons rfl .nil))
              · refine Tr.skip (Tr.normBlock (Tr.normThen ?_))
                refine Tr.region ?_
                refine Tr.val (wn rfl) rfl (fun _ _ h1 h2 => run_move (h1.ev rfl)) ?_
                refine Tr.val (wn rfl) rfl (fun _ _ h1 h2 => run_add (h1.ev rfl) (h1.ev rfl)) ?_
                refine Tr.val (wn rfl) rfl (fun _ _ h1 h2 => run_assign (h1.ev rfl)) ?_
                refine Tr.nil ?_
                exact Tr.backThen leF_etchhouseref1_nearest_L4 (x250, x251, x252, (w64 (x253 + 1))) H (.cons rfl (.cons rfl (.cons rfl (.cons rfl (.cons rfl (.cons rfl (.cons rfl (.cons rfl .nil)))))))) (.cons rfl (.cons rfl .nil))
    · refine Tr.exit (Tr.exitThen (Tr.exitThen (Tr.exitBlock (Tr.normBlock (Tr.normThen ?_)))))
      refine Tr.region ?_
      refine Tr.val (wn rfl) rfl (fun _ _ h1 h2 => run_move (h1.ev rfl)) ?_
      refine Tr.val (wn rfl) rfl (fun _ _ h1 h2 => run_add (h1.ev rfl) (h1.ev rfl)) ?_
      refine Tr.val (wn rfl) rfl (fun _ _ h1 h2 => run_assign (h1.ev rfl)) ?_
      refine Tr.nil ?_
      exact Tr.backThen leF_etchhouseref1_nearest_L3 (x250, x251, x252, (w64 (x215 + 1))) H (.cons rfl (.cons rfl (.cons rfl (.cons rfl (.cons rfl (.cons rfl (.cons rfl .nil))))))) (.cons rfl (.cons rfl .nil))
  · refine Tr.exit (Tr.exitThen (Tr.exitThen (Tr.exitBlock (Tr.normThen ?_))))
    refine Tr.seq ?_
    refine Tr.region ?_
    refine Tr.val (wn rfl) rfl (fun _ _ h1 h2 => run_loadN (cs := [(.int .i64 x212), (.int .i64 x213)]) ag_35 sz_35 (h1.ev rfl) (CellsAt.take (rdb h2 (vs := [(.int .i64 x212), (.int .i64 x213)]) (k := 2) rfl 0) 2) rfl) ?_
    refine Tr.val (wn rfl) rfl (fun _ _ h1 h2 => run_move (h1.ev rfl)) ?_
    refine Tr.store 1 (cs := [(.int .i64 x212), (.int .i64 x213)]) [(.int .i64 x212), (.int .i64 x213)] (wn rfl) rfl rfl rfl rfl sz_35 rfl rfl rfl ?_
    refine Tr.val (wn rfl) rfl (fun _ _ h1 h2 => run_assign (h1.ev rfl)) ?_
    refine Tr.nil (Tr.normThen ?_)
    refine Tr.ret ?_
    obtain rfl := Option.some.inj H
    exact Tr.out (m := [(.agg #[(.int .i64 x212), (.int .i64 x213)]), (.bool x214)]) [1] (res_cell rfl rfl ag_35 sz_35 (res_tmp rfl res_nil)) (fun W hW => ⟨rfl, hW.low leB⟩)

theorem F_etchhouseref1_GapOf_ok (N : Nat) {w : Bs} (p0 : (List TRect)) (Ap0_0 : Option Addr) (cp0_0 : Nat) (hp0_0 : Sl w.R w.W fl_TRect Ap0_0 cp0_0 p0) (p1 : (List TRect)) (Ap1_0 : Option Addr) (cp1_0 : Nat) (hp1_0 : Sl w.R w.W fl_TRect Ap1_0 cp1_0 p1) (r : TGap) (H : F_etchhouseref1_GapOf N p0 p1 = some r) (hE : HF w w.W E0) : Calls Try.prog 76 [(.slice Ap0_0 (p0).length cp0_0), (.slice Ap1_0 (p1).length cp1_0)].toArray w.W fun e W' => e = .returned (.agg #[(.int .i64 r.A), (.int .i64 r.B), (.int .i64 r.Distance), (.int .i64 r.From.X), (.int .i64 r.From.Y), (.int .i64 r.To.X), (.int .i64 r.To.Y)]) ∧ HF w W' E0 := by
  unfold F_etchhouseref1_GapOf at H
  have leB := Bs.Le.refl w
  refine Tr.enter (n := 43) Try.func76 rfl rfl rfl hE ?_
  refine Tr.seq ?_
  refine Tr.region ?_
  refine Tr.alloc 1 (wn rfl) rfl ze_58 fun b100 => ?_
  refine Tr.nil (Tr.normThen ?_)
  refine Tr.seq ?_
  refine Tr.region ?_
  refine Tr.val (wn rfl) rfl (fun _ _ h1 h2 => run_move (h1.ev rfl)) ?_
  refine Tr.val (wn rfl) rfl (fun _ _ h1 h2 => run_move (h1.ev rfl)) ?_
  obtain ⟨y101, hy101, H⟩ := bnd H
  refine Tr.call0 (r := (.int .i64 y101)) (wn rfl) rfl Try.call75 (evl_cons rfl (evl_cons rfl evl_nil)) (fun W hW => F_etchhouseref1_farRegions_ok N p0 Ap0_0 cp0_0 (hp0_0.ext hW.extAll) p1 Ap1_0 cp1_0 (hp1_0.ext hW.extAll) y101 hy101 (HF.start _)) ?_
  refine Tr.val (wn rfl) rfl (fun _ _ h1 h2 => run_assign (h1.ev rfl)) ?_
  refine Tr.nil (Tr.normThen ?_)
  refine Tr.seq ?_
  refine Tr.region ?_
  refine Tr.val (wn rfl) rfl (fun _ _ h1 h2 => run_move (h1.ev rfl)) ?_
  refine Tr.val (wn rfl) rfl (fun _ _ h1 h2 => run_move (h1.ev rfl)) ?_
  refine Tr.val (wn rfl) rfl (fun _ _ h1 h2 => run_move (h1.ev rfl)) ?_
  obtain ⟨y102, hy102, H⟩ := bnd H
  refine Tr.call0 (r := (.tuple #[(.agg #[(.int .i64 y102.1.X), (.int .i64 y102.1.Y)]), (.bool y102.2)])) (wn rfl) rfl Try.call106 (evl_cons rfl (evl_cons rfl (evl_cons rfl evl_nil))) (fun W hW => F_etchhouseref1_nearest_ok N p0 Ap0_0 cp0_0 (hp0_0.ext hW.extAll) p1 Ap1_0 cp1_0 (hp1_0.ext hW.extAll) y101 y102 hy102 (HF.start _)) ?_
  refine Tr.val (wn rfl) rfl (fun _ _ h1 h2 => run_move (h1.ev rfl)) ?_
  refine Tr.val (wn rfl) rfl (fun _ _ h1 h2 => run_extract (h1.ev rfl) rfl) ?_
  refine Tr.val (wn rfl) rfl (fun _ _ h1 h2 => run_extract (h1.ev rfl) rfl) ?_
  refine Tr.alloc 2 (wn rfl) rfl ze_35 fun b103 => ?_
  refine Tr.store 2 (cs := [(.int .i64 y102.1.X), (.int .i64 y102.1.Y)]) [(.int .i64 y102.1.X), (.int .i64 y102.1.Y)] (wn rfl) rfl rfl rfl rfl sz_35 rfl rfl rfl ?_
  refine Tr.val (wn rfl) rfl (fun _ _ h1 h2 => run_assign (h1.ev rfl)) ?_
  refine Tr.nil (Tr.normThen ?_)
  refine Tr.seq ?_
  refine Tr.region ?_
  refine Tr.val (wn rfl) rfl (fun _ _ h1 h2 => run_move (h1.ev rfl)) ?_
  refine Tr.val (wn rfl) rfl (fun _ _ h1 h2 => run_fieldAddr fo_35_0 (h1.ev rfl)) ?_
  refine Tr.val (wn rfl) rfl (fun _ _ h1 h2 => run_load1 ag_3 (h1.ev rfl) (rdb h2 (vs := [(.int .i64 y102.1.X), (.int .i64 y102.1.Y)]) (k := 2) rfl 0) rfl) ?_
  refine Tr.val (wn rfl) rfl (fun _ _ h1 h2 => run_fieldAddr fo_35_1 (h1.ev rfl)) ?_
  refine Tr.val (wn rfl) rfl (fun _ _ h1 h2 => run_load1 ag_3 (h1.ev rfl) (rdb h2 (vs := [(.int .i64 y102.1.X), (.int .i64 y102.1.Y)]) (k := 2) rfl 1) rfl) ?_
  refine Tr.val (wn rfl) rfl (fun _ _ h1 h2 => run_fieldAddr fo_35_0 (h1.ev rfl)) ?_
  refine Tr.val (wn rfl) rfl (fun _ _ h1 h2 => run_load1 ag_3 (h1.ev rfl) (rdb h2 (vs := [(.int .i64 y102.1.X), (.int .i64 y102.1.Y)]) (k := 2) rfl 0) rfl) ?_
  refine Tr.val (wn rfl) rfl (fun _ _ h1 h2 => run_add (h1.ev rfl) (h1.ev rfl)) ?_
  refine Tr.val (wn rfl) rfl (fun _ _ h1 h2 => run_fieldAddr fo_35_1 (h1.ev rfl)) ?_
  refine Tr.val (wn rfl) rfl (fun _ _ h1 h2 => run_load1 ag_3 (h1.ev rfl) (rdb h2 (vs := [(.int .i64 y102.1.X), (.int .i64 y102.1.Y)]) (k := 2) rfl 1) rfl) ?_
  refine Tr.val (wn rfl) rfl (fun _ _ h1 h2 => run_add (h1.ev rfl) (h1.ev rfl)) ?_
  refine Tr.build (vs := [(0, (.int .i64 y102.1.X)), (1, (.int .i64 y102.1.Y)), (2, (.int .i64 (w64 (y102.1.X + 1)))), (3, (.int .i64 (w64 (y102.1.Y + 1))))]) (cs := [(.int .i64 y102.1.X), (.int .i64 y102.1.Y), (.int .i64 (w64 (y102.1.X + 1))), (.int .i64 (w64 (y102.1.Y + 1)))]) (wn rfl) rfl (evs_cons rfl (evs_cons rfl (evs_cons rfl (evs_cons rfl evs_nil)))) (by kernel_rfl) ?_
  refine Tr.buildSlice 3 (e := 29) (vs := [(0, (.agg #[(.int .i64 y102.1.X), (.int .i64 y102.1.Y), (.int .i64 (w64 (y102.1.X + 1))), (.int .i64 (w64 (y102.1.Y + 1)))]))]) (cs := [(.int .i64 y102.1.X), (.int .i64 y102.1.Y), (.int .i64 (w64 (y102.1.X + 1))), (.int .i64 (w64 (y102.1.Y + 1)))]) (wn rfl) rfl (evs_cons rfl evs_nil) (by kernel_rfl) fun b104 => ?_
  refine Tr.val (wn rfl) rfl (fun _ _ h1 h2 => run_move (h1.ev rfl)) ?_
  refine Tr.own 3 fl_TRect [(TRect.mk y102.1.X y102.1.Y (w64 (y102.1.X + 1)) (w64 (y102.1.Y + 1)))] (css := [[(.int .i64 y102.1.X), (.int .i64 y102.1.Y), (.int .i64 (w64 (y102.1.X + 1))), (.int .i64 (w64 (y102.1.Y + 1)))]]) rfl (.cons ⟨(), trivial, rfl⟩ .nil) rfl (by decide) (lit_max rfl) ?_
  obtain ⟨y105, hy105, H⟩ := bnd H
  refine Tr.call0 (r := (.tuple #[(.agg #[(.int .i64 y105.1.X), (.int .i64 y105.1.Y)]), (.bool y105.2)])) (wn rfl) rfl Try.call106 (evl_cons rfl (evl_cons rfl (evl_cons rfl evl_nil))) (fun W hW => F_etchhouseref1_nearest_ok N p1 Ap1_0 cp1_0 (hp1_0.ext hW.extAll) [(TRect.mk y102.1.X y102.1.Y (w64 (y102.1.X + 1)) (w64 (y102.1.Y + 1)))] (some ⟨b104, 0, none⟩) 1 (hW.slCall (k := 3) rfl) y101 y105 hy105 (HF.start _)) ?_
  refine Tr.val (wn rfl) rfl (fun _ _ h1 h2 => run_move (h1.ev rfl)) ?_
  refine Tr.val (wn rfl) rfl (fun _ _ h1 h2 => run_extract (h1.ev rfl) rfl) ?_
  refine Tr.val (wn rfl) rfl (fun _ _ h1 h2 => run_extract (h1.ev rfl) rfl) ?_
  refine Tr.alloc 4 (wn rfl) rfl ze_35 fun b106 => ?_
  refine Tr.store 4 (cs := [(.int .i64 y105.1.X), (.int .i64 y105.1.Y)]) [(.int .i64 y105.1.X), (.int .i64 y105.1.Y)] (wn rfl) rfl rfl rfl rfl sz_35 rfl rfl rfl ?_
  refine Tr.val (wn rfl) rfl (fun _ _ h1 h2 => run_assign (h1.ev rfl)) ?_
  refine Tr.nil (Tr.normThen ?_)
  refine Tr.seq ?_
  refine Tr.region ?_
  refine Tr.val (wn rfl) rfl (fun _ _ h1 h2 => run_move (h1.ev rfl)) ?_
  refine Tr.val (wn rfl) rfl (fun _ _ h1 h2 => run_sub (h1.ev rfl) (h1.ev rfl)) ?_
  refine Tr.val (wn rfl) rfl (fun _ _ h1 h2 => run_loadN (cs := [(.int .i64 y102.1.X), (.int .i64 y102.1.Y)]) ag_35 sz_35 (h1.ev rfl) (CellsAt.take (rdb h2 (vs := [(.int .i64 y102.1.X), (.int .i64 y102.1.Y)]) (k := 2) rfl 0) 2) rfl) ?_
  refine Tr.val (wn rfl) rfl (fun _ _ h1 h2 => run_loadN (cs := [(.int .i64 y105.1.X), (.int .i64 y105.1.Y)]) ag_35 sz_35 (h1.ev rfl) (CellsAt.take (rdb h2 (vs := [(.int .i64 y105.1.X), (.int .i64 y105.1.Y)]) (k := 4) rfl 0) 2) rfl) ?_
  refine Tr.build (vs := [(2, (.int .i64 (w64 (y101 - 1)))), (3, (.agg #[(.int .i64 y102.1.X), (.int .i64 y102.1.Y)])), (4, (.agg #[(.int .i64 y105.1.X), (.int .i64 y105.1.Y)]))]) (cs := [(.int .i64 0), (.int .i64 0), (.int .i64 (w64 (y101 - 1))), (.int .i64 y102.1.X), (.int .i64 y102.1.Y), (.int .i64 y105.1.X), (.int .i64 y105.1.Y)]) (wn rfl) rfl (evs_cons rfl (evs_cons rfl (evs_cons rfl evs_nil))) (by kernel_rfl) ?_
  refine Tr.store 1 (cs := [(.int .i64 0), (.int .i64 0), (.int .i64 (w64 (y101 - 1))), (.int .i64 y102.1.X), (.int .i64 y102.1.Y), (.int .i64 y105.1.X), (.int .i64 y105.1.Y)]) [(.int .i64 0), (.int .i64 0), (.int .i64 (w64 (y101 - 1))), (.int .i64 y102.1.X), (.int .i64 y102.1.Y), (.int .i64 y105.1.X), (.int .i64 y105.1.Y)] (wn rfl) rfl rfl rfl rfl sz_58 rfl rfl rfl ?_
  refine Tr.nil (Tr.normThen ?_)
  refine Tr.ret ?_
  obtain rfl := Option.some.inj H
  exact Tr.out (m := [(.agg #[(.int .i64 0), (.int .i64 0), (.int .i64 (w64 (y101 - 1))), (.int .i64 y102.1.X), (.int .i64 y102.1.Y), (.int .i64 y105.1.X), (.int .i64 y105.1.Y)])]) [1] (res_cell rfl rfl ag_58 sz_58 res_nil) (fun W hW => ⟨rfl, hW.low leB⟩)

theorem F_etchhouseref1_Gaps_ok (N : Nat) {w : Bs} (p0 : (List (List TRect))) (Ap0_0 : Option Addr) (cp0_0 : Nat) (hp0_0 : Sl w.R w.W fl_LTRect Ap0_0 cp0_0 p0) (p1 : Int) (r : ((List TGap) × Int)) (H : F_etchhouseref1_Gaps N p0 p1 = some r) (hE : HF w w.W (LEn [emp])) : Calls Try.prog 38 [(.slice Ap0_0 (p0).length cp0_0), (.int .i64 p1)].toArray w.W fun e W' => ∃ u : (Option Addr × Nat), e = .returned (.tuple #[(.slice u.1 (r.1).length u.2), (.int .i64 r.2)]) ∧ (SlF u.1 (r.1).length u.2) ∧ HF w W' (LEn [ow u.1 u.2 58 fl_TGap r.1]) := by
  unfold F_etchhouseref1_Gaps at H
  have leB := Bs.Le.refl w
  refine Tr.enter (n := 119) Try.func38 rfl rfl rfl hE ?_
  refine Tr.seq ?_
  refine Tr.region ?_
  refine Tr.val (wn rfl) rfl (fun _ _ h1 h2 => run_assign (h1.ev rfl)) ?_
  refine Tr.nilOwn 1 58 fl_TGap ?_
  show Tr _ _ (uf _ 4 (.slice none (([] : List TGap)).length 0)) _ _
  refine Tr.val (wn rfl) rfl (fun _ _ h1 h2 => run_assign (h1.ev rfl)) ?_
  refine Tr.nil (Tr.normThen ?_)
  refine Tr.seq ?_
  refine Tr.region ?_
  refine Tr.val (wn rfl) rfl (fun _ _ h1 h2 => run_assign (h1.ev rfl)) ?_
  refine Tr.nil (Tr.normThen ?_)
  refine Tr.seq ?_
  refine Tr.seq ?_
  refine Tr.region ?_
  refine Tr.val (wn rfl) rfl (fun _ _ h1 h2 => run_assign (h1.ev rfl)) ?_
  refine Tr.nil (Tr.normThen ?_)
  refine Tr.block ?_
  refine Tr.loop (σ := Int × Int) (fun m w s => F_etchhouseref1_Gaps_L1 N p0 p1 m s.1 s.2 = some r) (fun s => [(0, (.slice Ap0_0 (p0).length cp0_0)), (1, (.int .i64 p1)), (6, (.int .i64 s.1)), (7, (.int .i64 s.2))]) (fun s => []) N (0, 0) H (.cons rfl (.cons rfl (.cons rfl (.cons rfl .nil)))) .nil (fun _ _ h => noSome (h)) ?_
  intro w leF_etchhouseref1_Gaps_L1 mF_etchhouseref1_Gaps_L1 s hs
  obtain ⟨x110, x111⟩ := s
  have H := hs
  replace H : F_etchhouseref1_Gaps_L1 N p0 p1 (mF_etchhouseref1_Gaps_L1 + 1) x110 x111 = some r := H
  replace hp0_0 := hp0_0.leR leF_etchhouseref1_Gaps_L1
  replace leB := leB.trans leF_etchhouseref1_Gaps_L1
  rw [F_etchhouseref1_Gaps_L1.eq_2] at H
  show Tr _ _ (LF [(0, (.slice Ap0_0 (p0).length cp0_0)), (1, (.int .i64 p1)), (6, (.int .i64 x110)), (7, (.int .i64 x111))]) (LE []) _
  refine Tr.seq ?_
  refine Tr.seq ?_
  refine Tr.region ?_
  refine Tr.val (wn rfl) rfl (fun _ _ h1 h2 => run_move (h1.ev rfl)) ?_
  refine Tr.val (wn rfl) rfl (fun _ _ h1 h2 => run_move (h1.ev rfl)) ?_
  refine Tr.val (wn rfl) rfl (fun _ _ h1 h2 => run_len un_52 (h1.ev rfl)) ?_
  refine Tr.val (wn rfl) rfl (fun _ _ h1 h2 => run_lss (h1.ev rfl) (h1.ev rfl)) ?_
  refine Tr.nil (Tr.normThen ?_)
  refine Tr.cond rfl H (fun H => ?_) (fun H => ?_)
  · refine Tr.skip (Tr.normThen ?_)
    refine Tr.seq ?_
    refine Tr.block ?_
    refine Tr.region ?_
    refine Tr.val (wn rfl) rfl (fun _ _ h1 h2 => run_move (h1.ev rfl)) ?_
    refine Tr.val (wn rfl) rfl (fun _ _ h1 h2 => run_move (h1.ev rfl)) ?_
    refine Tr.val (wn rfl) rfl (fun _ _ h1 h2 => run_move (h1.ev rfl)) ?_
    obtain ⟨x112, hx112, H⟩ := bnd H
    obtain ⟨hx1120, hx1121, hx1122⟩ := idx_some hx112
    obtain ⟨u113, hRu113, hoku113, hcu113⟩ := (hp0_0).el hx1122
    obtain ⟨Au113_0, cu113_0⟩ := u113
    have hoku113_0 := hoku113
    replace hoku113_0 : Sl w.R w.W fl_TRect Au113_0 cu113_0 x112 := hoku113_0
    refine Tr.val (wn rfl) rfl (fun _ _ h1 h2 => run_indexAddr el_52 (h1.ev rfl) hp0_0.form (h1.ev rfl) hx1120 hx1121) ?_
    refine Tr.val (wn rfl) rfl (fun _ _ h1 h2 => run_load1 ag_22 (h1.ev rfl) (rdR hRu113 hcu113 h2) rfl) ?_
    refine Tr.val (wn rfl) rfl (fun _ _ h1 h2 => run_len un_22 (h1.ev rfl)) ?_
    refine Tr.val (wn rfl) rfl (fun _ _ h1 h2 => run_add (h1.ev rfl) (h1.ev rfl)) ?_
    refine Tr.val (wn rfl) rfl (fun _ _ h1 h2 => run_assign (h1.ev rfl)) ?_
    refine Tr.nil (Tr.normBlock (Tr.normThen ?_))
    refine Tr.region ?_
    refine Tr.val (wn rfl) rfl (fun _ _ h1 h2 => run_move (h1.ev rfl)) ?_
    refine Tr.val (wn rfl) rfl (fun _ _ h1 h2 => run_add (h1.ev rfl) (h1.ev rfl)) ?_
    refine Tr.val (wn rfl) rfl (fun _ _ h1 h2 => run_assign (h1.ev rfl)) ?_
    refine Tr.nil ?_
    exact Tr.backThen leF_etchhouseref1_Gaps_L1 ((w64 (x110 + (x112.length : Int))), (w64 (x111 + 1))) H (.cons rfl (.cons rfl (.cons rfl (.cons rfl .nil)))) .nil
  · refine Tr.exit (Tr.exitThen (Tr.exitThen (Tr.exitBlock (Tr.normThen ?_))))
    refine Tr.seq ?_
    refine Tr.seq ?_
    refine Tr.region ?_
    refine Tr.val (wn rfl) rfl (fun _ _ h1 h2 => run_move (h1.ev rfl)) ?_
    refine Tr.val (wn rfl) rfl (fun _ _ h1 h2 => run_len un_52 (h1.ev rfl)) ?_
    refine Tr.val (wn rfl) rfl (fun _ _ h1 h2 => run_gtr (h1.ev rfl) (h1.ev rfl)) ?_
    refine Tr.val (wn rfl) rfl (fun _ _ h1 h2 => run_move (h1.ev rfl)) ?_
    refine Tr.mid0 3 [(0, (.slice Ap0_0 (p0).length cp0_0)), (1, (.int .i64 p1)), (33, (.bool ((decide (2000 < (p0.length : Int))) || (decide (2000 < x110)))))] [] ?_ ?_
    · cases hg384 : (decide (2000 < (p0.length : Int)))
      · refine Tr.val (wg rfl rfl rfl) rfl (fun _ _ h1 h2 => run_move (h1.ev rfl)) ?_
        refine Tr.val (wg rfl rfl rfl) rfl (fun _ _ h1 h2 => run_gtr (h1.ev rfl) (h1.ev rfl)) ?_
        refine Tr.val (wn rfl) rfl (fun _ _ h1 h2 => run_pickF (h1.ev rfl) (h1.ev rfl)) ?_
        exact Tr.nil (Tr.fin0 (.cons rfl (.cons rfl (.cons rfl .nil))) .nil)
      · refine Tr.pass rfl rfl rfl rfl rfl (by decide) ?_
        refine Tr.pass rfl rfl rfl rfl rfl (by decide) ?_
        refine Tr.val (wn rfl) rfl (fun _ _ h1 h2 => run_pickT (h1.ev rfl) (h1.ev rfl)) ?_
        exact Tr.nil (Tr.fin0 (.cons rfl (.cons rfl (.cons rfl .nil))) .nil)
    · show Tr _ _ (LF [(0, (.slice Ap0_0 (p0).length cp0_0)), (1, (.int .i64 p1)), (33, (.bool ((decide (2000 < (p0.length : Int))) || (decide (2000 < x110)))))]) (LE []) _
      refine Tr.nil (Tr.normThen ?_)
      refine Tr.cond rfl H (fun H => ?_) (fun H => ?_)
      · refine Tr.seq ?_
        refine Tr.region ?_
        refine Tr.val (wn rfl) rfl (fun _ _ h1 h2 => run_assign (h1.ev rfl)) ?_
        refine Tr.nilOwn 2 58 fl_TGap ?_
        show Tr _ _ (uf _ 4 (.slice none (([] : List TGap)).length 0)) _ _
        refine Tr.val (wn rfl) rfl (fun _ _ h1 h2 => run_assign (h1.ev rfl)) ?_
        refine Tr.nil (Tr.normThen ?_)
        refine Tr.ret (Tr.retThen ?_)
        obtain rfl := Option.some.inj H
        exact Tr.out (m := [(.slice none (([] : List TGap)).length 0), (.int .i64 2)]) [] (res_tmp rfl (res_tmp rfl res_nil)) (fun W hW => ⟨(none, 0), rfl, slf_nil, HF.lowE leB (hW.pick (ks := [2]) (by decide) (pk_cons rfl pk_nil)) ⟨ow_any _ _ _ _ tr_TGap, trivial⟩⟩)
      · refine Tr.skip (Tr.normThen ?_)
        refine Tr.seq ?_
        refine Tr.seq ?_
        refine Tr.region ?_
        refine Tr.val (wn rfl) rfl (fun _ _ h1 h2 => run_assign (h1.ev rfl)) ?_
        refine Tr.nil (Tr.normThen ?_)
        refine Tr.block ?_
        refine Tr.loop (σ := Int) (fun m w s => F_etchhouseref1_Gaps_L2 N p0 p1 m s = some r) (fun s => [(0, (.slice Ap0_0 (p0).length cp0_0)), (1, (.int .i64 p1)), (8, (.int .i64 s))]) (fun s => []) N 0 H (.cons rfl (.cons rfl (.cons rfl .nil))) .nil (fun _ _ h => noSome (h)) ?_
        intro w leF_etchhouseref1_Gaps_L2 mF_etchhouseref1_Gaps_L2 x123 hs
        have H := hs
        replace H : F_etchhouseref1_Gaps_L2 N p0 p1 (mF_etchhouseref1_Gaps_L2 + 1) x123 = some r := H
        replace hp0_0 := hp0_0.leR leF_etchhouseref1_Gaps_L2
        replace leB := leB.trans leF_etchhouseref1_Gaps_L2
        replace leF_etchhouseref1_Gaps_L1 := leF_etchhouseref1_Gaps_L1.trans leF_etchhouseref1_Gaps_L2
        rw [F_etchhouseref1_Gaps_L2.eq_2] at H
        show Tr _ _ (LF [(0, (.slice Ap0_0 (p0).length cp0_0)), (1, (.int .i64 p1)), (8, (.int .i64 x123))]) (LE []) _
        refine Tr.seq ?_
        refine Tr.seq ?_
        refine Tr.region ?_
        refine Tr.val (wn rfl) rfl (fun _ _ h1 h2 => run_move (h1.ev rfl)) ?_
        refine Tr.val (wn rfl) rfl (fun _ _ h1 h2 => run_move (h1.ev rfl)) ?_
        refine Tr.val (wn rfl) rfl (fun _ _ h1 h2 => run_len un_52 (h1.ev rfl)) ?_
        refine Tr.val (wn rfl) rfl (fun _ _ h1 h2 => run_lss (h1.ev rfl) (h1.ev rfl)) ?_
        refine Tr.nil (Tr.normThen ?_)
        refine Tr.cond rfl H (fun H => ?_) (fun H => ?_)
        · refine Tr.skip (Tr.normThen ?_)
          refine Tr.seq ?_
          refine Tr.block ?_
          refine Tr.seq ?_
          refine Tr.region ?_
          refine Tr.val (wn rfl) rfl (fun _ _ h1 h2 => run_move (h1.ev rfl)) ?_
          refine Tr.val (wn rfl) rfl (fun _ _ h1 h2 => run_move (h1.ev rfl)) ?_
          obtain ⟨x124, hx124, H⟩ := bnd H
          obtain ⟨hx1240, hx1241, hx1242⟩ := idx_some hx124
          obtain ⟨u125, hRu125, hoku125, hcu125⟩ := (hp0_0).el hx1242
          obtain ⟨Au125_0, cu125_0⟩ := u125
          have hoku125_0 := hoku125
          replace hoku125_0 : Sl w.R w.W fl_TRect Au125_0 cu125_0 x124 := hoku125_0
          refine Tr.val (wn rfl) rfl (fun _ _ h1 h2 => run_indexAddr el_52 (h1.ev rfl) hp0_0.form (h1.ev rfl) hx1240 hx1241) ?_
          refine Tr.val (wn rfl) rfl (fun _ _ h1 h2 => run_load1 ag_22 (h1.ev rfl) (rdR hRu125 hcu125 h2) rfl) ?_
          obtain ⟨y126, hy126, H⟩ := bnd H
          refine Tr.call0 (r := (.int .i64 y126)) (wn rfl) rfl Try.call18 (evl_cons rfl evl_nil) (fun W hW => F_etchhouseref1_CheckRegion_ok N x124 Au125_0 cu125_0 (hoku125_0.ext hW.extAll) y126 hy126 (HF.start _)) ?_
          refine Tr.val (wn rfl) rfl (fun _ _ h1 h2 => run_assign (h1.ev rfl)) ?_
          refine Tr.nil (Tr.normThen ?_)
          refine Tr.seq ?_
          refine Tr.region ?_
          refine Tr.val (wn rfl) rfl (fun _ _ h1 h2 => run_move (h1.ev rfl)) ?_
          refine Tr.val (wn rfl) rfl (fun _ _ h1 h2 => run_neq (h1.ev rfl) (h1.ev rfl)) ?_
          refine Tr.nil (Tr.normThen ?_)
          refine Tr.cond rfl H (fun H => ?_) (fun H => ?_)
          · refine Tr.seq ?_
            refine Tr.region ?_
            refine Tr.val (wn rfl) rfl (fun _ _ h1 h2 => run_move (h1.ev rfl)) ?_
            refine Tr.val (wn rfl) rfl (fun _ _ h1 h2 => run_assign (h1.ev rfl)) ?_
            refine Tr.nilOwn 5 58 fl_TGap ?_
            show Tr _ _ (uf _ 4 (.slice none (([] : List TGap)).length 0)) _ _
            refine Tr.val (wn rfl) rfl (fun _ _ h1 h2 => run_assign (h1.ev rfl)) ?_
            refine Tr.nil (Tr.normThen ?_)
            refine Tr.ret (Tr.retBlock (Tr.retThen (Tr.retThen (Tr.retBlock (Tr.retThen ?_)))))
            obtain rfl := Option.some.inj H
            exact Tr.out (m := [(.slice none (([] : List TGap)).length 0), (.int .i64 y126)]) [] (res_tmp rfl (res_tmp rfl res_nil)) (fun W hW => ⟨(none, 0), rfl, slf_nil, HF.lowE leB (hW.pick (ks := [5]) (by decide) (pk_cons rfl pk_nil)) ⟨ow_any _ _ _ _ tr_TGap, trivial⟩⟩)
          · refine Tr.skip (Tr.normBlock (Tr.normThen ?_))
            refine Tr.region ?_
            refine Tr.val (wn rfl) rfl (fun _ _ h1 h2 => run_move (h1.ev rfl)) ?_
            refine Tr.val (wn rfl) rfl (fun _ _ h1 h2 => run_add (h1.ev rfl) (h1.ev rfl)) ?_
            refine Tr.val (wn rfl) rfl (fun _ _ h1 h2 => run_assign (h1.ev rfl)) ?_
            refine Tr.nil ?_
            exact Tr.backThen leF_etchhouseref1_Gaps_L2 (w64 (x123 + 1)) H (.cons rfl (.cons rfl (.cons rfl .nil))) .nil
        · refine Tr.exit (Tr.exitThen (Tr.exitThen (Tr.exitBlock (Tr.normThen ?_))))
          refine Tr.seq ?_
          refine Tr.seq ?_
          refine Tr.region ?_
          refine Tr.val (wn rfl) rfl (fun _ _ h1 h2 => run_move (h1.ev rfl)) ?_
          obtain ⟨y127, hy127, H⟩ := bnd H
          refine Tr.call0 (r := (.bool y127)) (wn rfl) rfl Try.call68 (evl_cons rfl (evl_cons rfl (evl_cons rfl evl_nil))) (fun W hW => F_etchhouseref1_within_ok p1 0 100000 y127 hy127 (HF.start _)) ?_
          refine Tr.val (wn rfl) rfl (fun _ _ h1 h2 => run_not (h1.ev rfl)) ?_
          refine Tr.nil (Tr.normThen ?_)
          refine Tr.cond rfl H (fun H => ?_) (fun H => ?_)
          · refine Tr.seq ?_
            refine Tr.region ?_
            refine Tr.val (wn rfl) rfl (fun _ _ h1 h2 => run_assign (h1.ev rfl)) ?_
            refine Tr.nilOwn 6 58 fl_TGap ?_
            show Tr _ _ (uf _ 4 (.slice none (([] : List TGap)).length 0)) _ _
            refine Tr.val (wn rfl) rfl (fun _ _ h1 h2 => run_assign (h1.ev rfl)) ?_
            refine Tr.nil (Tr.normThen ?_)
            refine Tr.ret (Tr.retThen ?_)
            obtain rfl := Option.some.inj H
            exact Tr.out (m := [(.slice none (([] : List TGap)).length 0), (.int .i64 1)]) [] (res_tmp rfl (res_tmp rfl res_nil)) (fun W hW => ⟨(none, 0), rfl, slf_nil, HF.lowE leB (hW.pick (ks := [6]) (by decide) (pk_cons rfl pk_nil)) ⟨ow_any _ _ _ _ tr_TGap, trivial⟩⟩)
          · refine Tr.skip (Tr.normThen ?_)
            refine Tr.seq ?_
            refine Tr.region ?_
            refine Tr.val (wn rfl) rfl (fun _ _ h1 h2 => run_assign (h1.ev rfl)) ?_
            refine Tr.nilOwn 7 58 fl_TGap ?_
            show Tr _ _ (uf _ 10 (.slice none (([] : List TGap)).length 0)) _ _
            refine Tr.nil (Tr.normThen ?_)
            refine Tr.seq ?_
            refine Tr.seq ?_
            refine Tr.region ?_
            refine Tr.val (wn rfl) rfl (fun _ _ h1 h2 => run_assign (h1.ev rfl)) ?_
            refine Tr.nil (Tr.normThen ?_)
            refine Tr.block ?_
            refine Tr.loop (σ := (List TGap) × Int × (Option Addr) × Nat) (fun m w s => F_etchhouseref1_Gaps_L5 N p0 p1 m s.1 s.2.1 = some r ∧ SlF s.2.2.1 (s.1).length s.2.2.2) (fun s => [(0, (.slice Ap0_0 (p0).length cp0_0)), (1, (.int .i64 p1)), (10, (.slice s.2.2.1 (s.1).length s.2.2.2)), (11, (.int .i64 s.2.1))]) (fun s => [(7, ow s.2.2.1 s.2.2.2 58 fl_TGap s.1)]) N (([] : List TGap), 0, none, 0) ⟨H, slf_nil⟩ (.cons rfl (.cons rfl (.cons rfl (.cons rfl .nil)))) (.cons rfl .nil) (fun _ _ h => noSome (h.1)) ?_
            intro w leF_etchhouseref1_Gaps_L5 mF_etchhouseref1_Gaps_L5 s hs
            obtain ⟨l300, x301, Al300, cl300⟩ := s
            obtain ⟨H, hl300⟩ := hs
            replace H : F_etchhouseref1_Gaps_L5 N p0 p1 (mF_etchhouseref1_Gaps_L5 + 1) l300 x301 = some r := H
            replace hp0_0 := hp0_0.leR leF_etchhouseref1_Gaps_L5
            replace leB := leB.trans leF_etchhouseref1_Gaps_L5
            replace leF_etchhouseref1_Gaps_L1 := leF_etchhouseref1_Gaps_L1.trans leF_etchhouseref1_Gaps_L5
            replace leF_etchhouseref1_Gaps_L2 := leF_etchhouseref1_Gaps_L2.trans leF_etchhouseref1_Gaps_L5
            replace hl300 : SlF Al300 (l300).length cl300 := hl300
            rw [F_etchhouseref1_Gaps_L5.eq_2] at H
            show Tr _ _ (LF [(0, (.slice Ap0_0 (p0).length cp0_0)), (1, (.int .i64 p1)), (10, (.slice Al300 (l300).length cl300)), (11, (.int .i64 x301))]) (LE [(7, ow Al300 cl300 58 fl_TGap l300)]) _
            refine Tr.seq ?_
            refine Tr.seq ?_
            refine Tr.region ?_
            refine Tr.val (wn rfl) rfl (fun _ _ h1 h2 => run_move (h1.ev rfl)) ?_
            refine Tr.val (wn rfl) rfl (fun _ _ h1 h2 => run_move (h1.ev rfl)) ?_
            refine Tr.val (wn rfl) rfl (fun _ _ h1 h2 => run_len un_52 (h1.ev rfl)) ?_
            refine Tr.val (wn rfl) rfl (fun _ _ h1 h2 => run_lss (h1.ev rfl) (h1.ev rfl)) ?_
            refine Tr.nil (Tr.normThen ?_)
            refine Tr.cond rfl H (fun H => ?_) (fun H => ?_)
            · refine Tr.skip (Tr.normThen ?_)
              refine Tr.seq ?_
              refine Tr.block ?_
              refine Tr.seq ?_
              refine Tr.region ?_
              refine Tr.val (wn rfl) rfl (fun _ _ h1 h2 => run_move (h1.ev rfl)) ?_
              refine Tr.val (wn rfl) rfl (fun _ _ h1 h2 => run_add (h1.ev rfl) (h1.ev rfl)) ?_
              refine Tr.val (wn rfl) rfl (fun _ _ h1 h2 => run_assign (h1.ev rfl)) ?_
              refine Tr.nil (Tr.normThen ?_)
              refine Tr.block ?_
              refine Tr.loop (σ := (List TGap) × Int × (Option Addr) × Nat) (fun m w s => F_etchhouseref1_Gaps_L6 N p0 p1 x301 (F_etchhouseref1_Gaps_L5 N p0 p1 mF_etchhouseref1_Gaps_L5) m s.1 s.2.1 = some r ∧ SlF s.2.2.1 (s.1).length s.2.2.2) (fun s => [(0, (.slice Ap0_0 (p0).length cp0_0)), (1, (.int .i64 p1)), (10, (.slice s.2.2.1 (s.1).length s.2.2.2)), (11, (.int .i64 x301)), (12, (.int .i64 s.2.1))]) (fun s => [(7, ow s.2.2.1 s.2.2.2 58 fl_TGap s.1)]) N (l300, (w64 (x301 + 1)), Al300, cl300) ⟨H, hl300⟩ (.cons rfl (.cons rfl (.cons rfl (.cons rfl (.cons rfl .nil))))) (.cons rfl .nil) (fun _ _ h => noSome (h.1)) ?_
              intro w leF_etchhouseref1_Gaps_L6 mF_etchhouseref1_Gaps_L6 s hs
              obtain ⟨l358, x359, Al358, cl358⟩ := s
              obtain ⟨H, hl358⟩ := hs
              replace H : F_etchhouseref1_Gaps_L6 N p0 p1 x301 (F_etchhouseref1_Gaps_L5 N p0 p1 mF_etchhouseref1_Gaps_L5) (mF_etchhouseref1_Gaps_L6 + 1) l358 x359 = some r := H
              replace hp0_0 := hp0_0.leR leF_etchhouseref1_Gaps_L6
              replace leB := leB.trans leF_etchhouseref1_Gaps_L6
              replace leF_etchhouseref1_Gaps_L1 := leF_etchhouseref1_Gaps_L1.trans leF_etchhouseref1_Gaps_L6
              replace leF_etchhouseref1_Gaps_L2 := leF_etchhouseref1_Gaps_L2.trans leF_etchhouseref1_Gaps_L6
              replace leF_etchhouseref1_Gaps_L5 := leF_etchhouseref1_Gaps_L5.trans leF_etchhouseref1_Gaps_L6
              replace hl358 : SlF Al358 (l358).length cl358 := hl358
              rw [F_etchhouseref1_Gaps_L6.eq_2] at H
              show Tr _ _ (LF [(0, (.slice Ap0_0 (p0).length cp0_0)), (1, (.int .i64 p1)), (10, (.slice Al358 (l358).length cl358)), (11, (.int .i64 x301)), (12, (.int .i64 x359))]) (LE [(7, ow Al358 cl358 58 fl_TGap l358)]) _
              refine Tr.seq ?_
              refine Tr.seq ?_
              refine Tr.region ?_
              refine Tr.val (wn rfl) rfl (fun _ _ h1 h2 => run_move (h1.ev rfl)) ?_
              refine Tr.val (wn rfl) rfl (fun _ _ h1 h2 => run_move (h1.ev rfl)) ?_
              refine Tr.val (wn rfl) rfl (fun _ _ h1 h2 => run_len un_52 (h1.ev rfl)) ?_
              refine Tr.val (wn rfl) rfl (fun _ _ h1 h2 => run_lss (h1.ev rfl) (h1.ev rfl)) ?_
              refine Tr.nil (Tr.normThen ?_)
              refine Tr.cond rfl H (fun H => ?_) (fun H => ?_)
              · refine Tr.skip (Tr.normThen ?_)
                refine Tr.seq ?_
                refine Tr.block ?_
                refine Tr.seq ?_
                refine Tr.seq ?_
                refine Tr.region ?_
                refine Tr.val (wn rfl) rfl (fun _ _ h1 h2 => run_move (h1.ev rfl)) ?_
                refine Tr.val (wn rfl) rfl (fun _ _ h1 h2 => run_move (h1.ev rfl)) ?_
                obtain ⟨x360, hx360, H⟩ := bnd H
                obtain ⟨hx3600, hx3601, hx3602⟩ := idx_some hx360
                obtain ⟨u361, hRu361, hoku361, hcu361⟩ := (hp0_0).el hx3602
                obtain ⟨Au361_0, cu361_0⟩ := u361
                have hoku361_0 := hoku361
                replace hoku361_0 : Sl w.R w.W fl_TRect Au361_0 cu361_0 x360 := hoku361_0
                refine Tr.val (wn rfl) rfl (fun _ _ h1 h2 => run_indexAddr el_52 (h1.ev rfl) hp0_0.form (h1.ev rfl) hx3600 hx3601) ?_
                refine Tr.val (wn rfl) rfl (fun _ _ h1 h2 => run_load1 ag_22 (h1.ev rfl) (rdR hRu361 hcu361 h2) rfl) ?_
                refine Tr.val (wn rfl) rfl (fun _ _ h1 h2 => run_len un_22 (h1.ev rfl)) ?_
                refine Tr.val (wn rfl) rfl (fun _ _ h1 h2 => run_eql (h1.ev rfl) (h1.ev rfl)) ?_
                refine Tr.val (wn rfl) rfl (fun _ _ h1 h2 => run_move (h1.ev rfl)) ?_
                obtain ⟨g364, hg364, H⟩ := bnd H
                refine Tr.mid0 7 [(0, (.slice Ap0_0 (p0).length cp0_0)), (1, (.int .i64 p1)), (10, (.slice Al358 (l358).length cl358)), (11, (.int .i64 x301)), (12, (.int .i64 x359)), (78, (.bool g364))] [(7, ow Al358 cl358 58 fl_TGap l358)] ?_ ?_
                · cases hg384 : ((x360.length : Int) == 0)
                  · rw [hg384] at hg364
                    rw [if_neg (by decide)] at hg364
                    have H := hg364
                    refine Tr.val (wg rfl rfl rfl) rfl (fun _ _ h1 h2 => run_move (h1.ev rfl)) ?_
                    refine Tr.val (wg rfl rfl rfl) rfl (fun _ _ h1 h2 => run_move (h1.ev rfl)) ?_
                    obtain ⟨x365, hx365, H⟩ := bnd H
                    obtain ⟨hx3650, hx3651, hx3652⟩ := idx_some hx365
                    obtain ⟨u366, hRu366, hoku366, hcu366⟩ := (hp0_0).el hx3652
                    obtain ⟨Au366_0, cu366_0⟩ := u366
                    have hoku366_0 := hoku366
                    replace hoku366_0 : Sl w.R w.W fl_TRect Au366_0 cu366_0 x365 := hoku366_0
                    refine Tr.val (wg rfl rfl rfl) rfl (fun _ _ h1 h2 => run_indexAddr el_52 (h1.ev rfl) hp0_0.form (h1.ev rfl) hx3650 hx3651) ?_
                    refine Tr.val (wg rfl rfl rfl) rfl (fun _ _ h1 h2 => run_load1 ag_22 (h1.ev rfl) (rdR hRu366 hcu366 h2) rfl) ?_
                    refine Tr.val (wg rfl rfl rfl) rfl (fun _ _ h1 h2 => run_len un_22 (h1.ev rfl)) ?_
                    refine Tr.val (wg rfl rfl rfl) rfl (fun _ _ h1 h2 => run_eql (h1.ev rfl) (h1.ev rfl)) ?_
                    refine Tr.val (wn rfl) rfl (fun _ _ h1 h2 => run_pickF (h1.ev rfl) (h1.ev rfl)) ?_
                    obtain rfl := Option.some.inj H
                    exact Tr.nil (Tr.fin0 (.cons rfl (.cons rfl (.cons rfl (.cons rfl (.cons rfl (.cons rfl .nil)))))) (.cons rfl .nil))
                  · rw [hg384] at hg364
                    rw [if_pos rfl] at hg364
                    have H := hg364
                    obtain rfl := Option.some.inj H
                    refine Tr.pass rfl rfl rfl rfl rfl (by decide) ?_
                    refine Tr.pass rfl rfl rfl rfl rfl (by decide) ?_
                    refine Tr.pass rfl rfl rfl rfl rfl (by decide) ?_
                    refine Tr.pass rfl rfl rfl rfl rfl (by decide) ?_
                    refine Tr.pass rfl rfl rfl rfl rfl (by decide) ?_
                    refine Tr.pass rfl rfl rfl rfl rfl (by decide) ?_
                    refine Tr.val (wn rfl) rfl (fun _ _ h1 h2 => run_pickT (h1.ev rfl) (h1.ev rfl)) ?_
                    exact Tr.nil (Tr.fin0 (.cons rfl (.cons rfl (.cons rfl (.cons rfl (.cons rfl (.cons rfl .nil)))))) (.cons rfl .nil))
                · show Tr _ _ (LF [(0, (.slice Ap0_0 (p0).length cp0_0)), (1, (.int .i64 p1)), (10, (.slice Al358 (l358).length cl358)), (11, (.int .i64 x301)), (12, (.int .i64 x359)), (78, (.bool g364))]) (LE [(7, ow Al358 cl358 58 fl_TGap l358)]) _
                  refine Tr.nil (Tr.normThen ?_)
                  refine Tr.cond rfl H (fun H => ?_) (fun H => ?_)
                  · refine Tr.exit (Tr.exitThen (Tr.exitBlock (Tr.normThen ?_)))
                    refine Tr.region ?_
                    refine Tr.val (wn rfl) rfl (fun _ _ h1 h2 => run_move (h1.ev rfl)) ?_
                    refine Tr.val (wn rfl) rfl (fun _ _ h1 h2 => run_add (h1.ev rfl) (h1.ev rfl)) ?_
                    refine Tr.val (wn rfl) rfl (fun _ _ h1 h2 => run_assign (h1.ev rfl)) ?_
                    refine Tr.nil ?_
                    exact Tr.backThen leF_etchhouseref1_Gaps_L6 (l358, (w64 (x359 + 1)), Al358, cl358) ⟨H, hl358⟩ (.cons rfl (.cons rfl (.cons rfl (.cons rfl (.cons rfl .nil))))) (.cons rfl .nil)
                  · refine Tr.skip (Tr.normThen ?_)
                    refine Tr.seq ?_
                    refine Tr.seq ?_
                    refine Tr.draw (by kernel_rfl) (by kernel_rfl) ?_
                    refine Tq.val (wn rfl) rfl (fun _ _ h1 h2 => run_move (h1.ev rfl)) ?_
                    refine Tq.val (wn rfl) rfl (fun _ _ h1 h2 => run_move (h1.ev rfl)) ?_
                    obtain ⟨x367, hx367, H⟩ := bnd H
                    obtain ⟨hx3670, hx3671, hx3672⟩ := idx_some hx367
                    obtain ⟨u368, hRu368, hoku368, hcu368⟩ := (hp0_0).el hx3672
                    obtain ⟨Au368_0, cu368_0⟩ := u368
                    have hoku368_0 := hoku368
                    replace hoku368_0 : Sl w.R w.W fl_TRect Au368_0 cu368_0 x367 := hoku368_0
                    refine Tq.val (wn rfl) rfl (fun _ _ h1 h2 => run_indexAddr el_52 (h1.ev rfl) hp0_0.form (h1.ev rfl) hx3670 hx3671) ?_
                    refine Tq.val (wn rfl) rfl (fun _ _ h1 h2 => run_load1 ag_22 (h1.ev rfl) (rdR hRu368 hcu368 h2) rfl) ?_
                    refine Tq.val (wn rfl) rfl (fun _ _ h1 h2 => run_move (h1.ev rfl)) ?_
                    refine Tq.val (wn rfl) rfl (fun _ _ h1 h2 => run_move (h1.ev rfl)) ?_
                    obtain ⟨x369, hx369, H⟩ := bnd H
                    obtain ⟨hx3690, hx3691, hx3692⟩ := idx_some hx369
                    obtain ⟨u370, hRu370, hoku370, hcu370⟩ := (hp0_0).el hx3692
                    obtain ⟨Au370_0, cu370_0⟩ := u370
                    have hoku370_0 := hoku370
                    replace hoku370_0 : Sl w.R w.W fl_TRect Au370_0 cu370_0 x369 := hoku370_0
                    refine Tq.val (wn rfl) rfl (fun _ _ h1 h2 => run_indexAddr el_52 (h1.ev rfl) hp0_0.form (h1.ev rfl) hx3690 hx3691) ?_
                    refine Tq.val (wn rfl) rfl (fun _ _ h1 h2 => run_load1 ag_22 (h1.ev rfl) (rdR hRu370 hcu370 h2) rfl) ?_
                    obtain ⟨y371, hy371, H⟩ := bnd H
                    refine Tq.call0 (r := (.int .i64 y371)) (wn rfl) rfl Try.call75 (evl_cons rfl (evl_cons rfl evl_nil)) (fun W hW => F_etchhouseref1_farRegions_ok N x367 Au368_0 cu368_0 (hoku368_0.ext hW.extAll) x369 Au370_0 cu370_0 (hoku370_0.ext hW.extAll) y371 hy371 (HF.start _)) ?_
                    refine Tq.val (wn rfl) rfl (fun _ _ h1 h2 => run_eql (h1.ev rfl) (h1.ev rfl)) ?_
                    refine Tq.nil (Tr.normThen ?_)
                    refine Tr.cond rfl H (fun H => ?_) (fun H => ?_)
                    · refine Tr.seq ?_
                      refine Tr.region ?_
                      refine Tr.val (wn rfl) rfl (fun _ _ h1 h2 => run_assign (h1.ev rfl)) ?_
                      refine Tr.nilOwn 32 58 fl_TGap ?_
                      show Tr _ _ (uf _ 4 (.slice none (([] : List TGap)).length 0)) _ _
                      refine Tr.val (wn rfl) rfl (fun _ _ h1 h2 => run_assign (h1.ev rfl)) ?_
                      refine Tr.nil (Tr.normThen ?_)
                      refine Tr.ret (Tr.retThen (Tr.retBlock (Tr.retThen (Tr.retThen (Tr.retBlock (Tr.retBlock (Tr.retThen (Tr.retThen (Tr.retBlock (Tr.retThen ?_))))))))))
                      obtain rfl := Option.some.inj H
                      exact Tr.out (m := [(.slice none (([] : List TGap)).length 0), (.int .i64 12)]) [] (res_tmp rfl (res_tmp rfl res_nil)) (fun W hW => ⟨(none, 0), rfl, slf_nil, HF.lowE leB (hW.pick (ks := [32]) (by decide) (pk_cons rfl pk_nil)) ⟨ow_any _ _ _ _ tr_TGap, trivial⟩⟩)
                    · refine Tr.skip (Tr.normThen ?_)
                      refine Tr.seq ?_
                      refine Tr.draw (by kernel_rfl) (by kernel_rfl) ?_
                      refine Tq.val (wn rfl) rfl (fun _ _ h1 h2 => run_move (h1.ev rfl)) ?_
                      refine Tq.val (wn rfl) rfl (fun _ _ h1 h2 => run_move (h1.ev rfl)) ?_
                      obtain ⟨x372, hx372, H⟩ := bnd H
                      obtain ⟨hx3720, hx3721, hx3722⟩ := idx_some hx372
                      obtain ⟨u373, hRu373, hoku373, hcu373⟩ := (hp0_0).el hx3722
                      obtain ⟨Au373_0, cu373_0⟩ := u373
                      have hoku373_0 := hoku373
                      replace hoku373_0 : Sl w.R w.W fl_TRect Au373_0 cu373_0 x372 := hoku373_0
                      refine Tq.val (wn rfl) rfl (fun _ _ h1 h2 => run_indexAddr el_52 (h1.ev rfl) hp0_0.form (h1.ev rfl) hx3720 hx3721) ?_
                      refine Tq.val (wn rfl) rfl (fun _ _ h1 h2 => run_load1 ag_22 (h1.ev rfl) (rdR hRu373 hcu373 h2) rfl) ?_
                      refine Tq.val (wn rfl) rfl (fun _ _ h1 h2 => run_move (h1.ev rfl)) ?_
                      refine Tq.val (wn rfl) rfl (fun _ _ h1 h2 => run_move (h1.ev rfl)) ?_
                      obtain ⟨x374, hx374, H⟩ := bnd H
                      obtain ⟨hx3740, hx3741, hx3742⟩ := idx_some hx374
                      obtain ⟨u375, hRu375, hoku375, hcu375⟩ := (hp0_0).el hx3742
                      obtain ⟨Au375_0, cu375_0⟩ := u375
                      have hoku375_0 := hoku375
                      replace hoku375_0 : Sl w.R w.W fl_TRect Au375_0 cu375_0 x374 := hoku375_0
                      refine Tq.val (wn rfl) rfl (fun _ _ h1 h2 => run_indexAddr el_52 (h1.ev rfl) hp0_0.form (h1.ev rfl) hx3740 hx3741) ?_
                      refine Tq.val (wn rfl) rfl (fun _ _ h1 h2 => run_load1 ag_22 (h1.ev rfl) (rdR hRu375 hcu375 h2) rfl) ?_
                      obtain ⟨y376, hy376, H⟩ := bnd H
                      refine Tq.call0 (r := (.int .i64 y376)) (wn rfl) rfl Try.call75 (evl_cons rfl (evl_cons rfl evl_nil)) (fun W hW => F_etchhouseref1_farRegions_ok N x372 Au373_0 cu373_0 (hoku373_0.ext hW.extAll) x374 Au375_0 cu375_0 (hoku375_0.ext hW.extAll) y376 hy376 (HF.start _)) ?_
                      refine Tq.val (wn rfl) rfl (fun _ _ h1 h2 => run_sub (h1.ev rfl) (h1.ev rfl)) ?_
                      refine Tq.val (wn rfl) rfl (fun _ _ h1 h2 => run_move (h1.ev rfl)) ?_
                      refine Tq.val (wn rfl) rfl (fun _ _ h1 h2 => run_lss (h1.ev rfl) (h1.ev rfl)) ?_
                      refine Tq.nil (Tr.normThen ?_)
                      refine Tr.cond rfl H (fun H => ?_) (fun H => ?_)
                      · refine Tr.seq ?_
                        obtain ⟨x378, hx378, H⟩ := bnd H
                        obtain ⟨hx3780, hx3781, hx3782⟩ := idx_some hx378
                        obtain ⟨u379, hRu379, hoku379, hcu379⟩ := (hp0_0).el hx3782
                        obtain ⟨Au379_0, cu379_0⟩ := u379
                        obtain ⟨x380, hx380, H⟩ := bnd H
                        obtain ⟨hx3800, hx3801, hx3802⟩ := idx_some hx380
                        obtain ⟨u381, hRu381, hoku381, hcu381⟩ := (hp0_0).el hx3802
                        obtain ⟨Au381_0, cu381_0⟩ := u381
                        obtain ⟨y382, hy382, H⟩ := bnd H
                        refine Tr.drawF 10 [(9, .makeFunc (.func 0) #[] #[])] [(9, ⟨13, 33, (.func (.func 0) #[] #[]), fun b => .pointer (some ⟨b, 0, none⟩), fun b => bx b #[(.int .i64 0), (.int .i64 0), (.int .i64 0), (.int .i64 0), (.int .i64 0), (.int .i64 0), (.int .i64 0)] 58⟩)] [(0, (.slice Ap0_0 (p0).length cp0_0)), (1, (.int .i64 p1)), (10, (.slice Al358 (l358).length cl358)), (11, (.int .i64 x301)), (12, (.int .i64 x359)), (13, (.func (.func 0) #[] #[])), (78, (.bool g364)), (79, (.slice Ap0_0 (p0).length cp0_0)), (80, (.int .i64 x301)), (81, (.pointer (some ⟨adB Ap0_0, adO Ap0_0 + (x301).toNat * 1, none⟩))), (82, (.slice Au368_0 (x367).length cu368_0)), (83, (.slice Ap0_0 (p0).length cp0_0)), (84, (.int .i64 x359)), (85, (.pointer (some ⟨adB Ap0_0, adO Ap0_0 + (x359).toNat * 1, none⟩))), (86, (.slice Au370_0 (x369).length cu370_0)), (87, (.int .i64 y371)), (88, (.bool (y371 == 0))), (89, (.slice Ap0_0 (p0).length cp0_0)), (90, (.int .i64 x301)), (91, (.pointer (some ⟨adB Ap0_0, adO Ap0_0 + (x301).toNat * 1, none⟩))), (92, (.slice Au373_0 (x372).length cu373_0)), (93, (.slice Ap0_0 (p0).length cp0_0)), (94, (.int .i64 x359)), (95, (.pointer (some ⟨adB Ap0_0, adO Ap0_0 + (x359).toNat * 1, none⟩))), (96, (.slice Au375_0 (x374).length cu375_0)), (97, (.int .i64 y376)), (98, (.int .i64 (w64 (y376 - 1)))), (99, (.int .i64 p1)), (100, (.bool (decide ((w64 (y376 - 1)) < p1)))), (101, (.slice Ap0_0 (p0).length cp0_0)), (102, (.int .i64 x301)), (103, (.pointer (some ⟨adB Ap0_0, adO Ap0_0 + (x301).toNat * 1, none⟩))), (104, (.slice Au379_0 (x378).length cu379_0)), (105, (.slice Ap0_0 (p0).length cp0_0)), (106, (.int .i64 x359)), (107, (.pointer (some ⟨adB Ap0_0, adO Ap0_0 + (x359).toNat * 1, none⟩))), (108, (.slice Au381_0 (x380).length cu381_0)), (109, (.agg #[(.int .i64 y382.A), (.int .i64 y382.B), (.int .i64 y382.Distance), (.int .i64 y382.From.X), (.int .i64 y382.From.Y), (.int .i64 y382.To.X), (.int .i64 y382.To.Y)]))] (by kernel_rfl) (by kernel_rfl) (by kernel_rfl) (by kernel_rfl) (by kernel_rfl) (by kernel_rfl) (by kernel_rfl) (fall_cons (fr_alloc rfl rfl ze_58) fall_nil) (fall_cons rfl fall_nil) (fall_cons rfl fall_nil) ?_ ?_
                        · refine Tq.val (wn rfl) rfl (fun _ _ h1 h2 => run_move (h1.ev rfl)) ?_
                          refine Tq.val (wn rfl) rfl (fun _ _ h1 h2 => run_move (h1.ev rfl)) ?_
                          have hoku379_0 := hoku379
                          replace hoku379_0 : Sl w.R w.W fl_TRect Au379_0 cu379_0 x378 := hoku379_0
                          refine Tq.val (wn rfl) rfl (fun _ _ h1 h2 => run_indexAddr el_52 (h1.ev rfl) hp0_0.form (h1.ev rfl) hx3780 hx3781) ?_
                          refine Tq.val (wn rfl) rfl (fun _ _ h1 h2 => run_load1 ag_22 (h1.ev rfl) (rdR hRu379 hcu379 h2) rfl) ?_
                          refine Tq.val (wn rfl) rfl (fun _ _ h1 h2 => run_move (h1.ev rfl)) ?_
                          refine Tq.val (wn rfl) rfl (fun _ _ h1 h2 => run_move (h1.ev rfl)) ?_
                          have hoku381_0 := hoku381
                          replace hoku381_0 : Sl w.R w.W fl_TRect Au381_0 cu381_0 x380 := hoku381_0
                          refine Tq.val (wn rfl) rfl (fun _ _ h1 h2 => run_indexAddr el_52 (h1.ev rfl) hp0_0.form (h1.ev rfl) hx3800 hx3801) ?_
                          refine Tq.val (wn rfl) rfl (fun _ _ h1 h2 => run_load1 ag_22 (h1.ev rfl) (rdR hRu381 hcu381 h2) rfl) ?_
                          refine Tq.call0 (r := (.agg #[(.int .i64 y382.A), (.int .i64 y382.B), (.int .i64 y382.Distance), (.int .i64 y382.From.X), (.int .i64 y382.From.Y), (.int .i64 y382.To.X), (.int .i64 y382.To.Y)])) (wn rfl) rfl Try.call76 (evl_cons rfl (evl_cons rfl evl_nil)) (fun W hW => F_etchhouseref1_GapOf_ok N x378 Au379_0 cu379_0 (hoku379_0.ext hW.extAll) x380 Au381_0 cu381_0 (hoku381_0.ext hW.extAll) y382 hy382 (HF.start _)) ?_
                          refine Tq.mkFunc (vs := []) (wn rfl) rfl evl_nil ?_
                          exact Tq.fin (.cons rfl (.cons rfl (.cons rfl (.cons rfl (.cons rfl (.cons rfl (.cons rfl (.cons rfl (.cons rfl (.cons rfl (.cons rfl (.cons rfl (.cons rfl (.cons rfl (.cons rfl (.cons rfl (.cons rfl (.cons rfl (.cons rfl (.cons rfl (.cons rfl (.cons rfl (.cons rfl (.cons rfl (.cons rfl (.cons rfl (.cons rfl (.cons rfl (.cons rfl (.cons rfl (.cons rfl (.cons rfl (.cons rfl (.cons rfl (.cons rfl (.cons rfl (.cons rfl (.cons rfl .nil))))))))))))))))))))))))))))))))))))))
                        · intro bs377
                          refine Tr.sel (lf := [(0, (.slice Ap0_0 (p0).length cp0_0)), (1, (.int .i64 p1)), (10, (.slice Al358 (l358).length cl358)), (11, (.int .i64 x301)), (12, (.int .i64 x359)), (13, (.pointer (some ⟨(bs377 9), 0, none⟩))), (109, (.agg #[(.int .i64 y382.A), (.int .i64 y382.B), (.int .i64 y382.Distance), (.int .i64 y382.From.X), (.int .i64 y382.From.Y), (.int .i64 y382.To.X), (.int .i64 y382.To.Y)]))]) (le := [(7, ow Al358 cl358 58 fl_TGap l358), (33, bx (bs377 9) #[(.int .i64 0), (.int .i64 0), (.int .i64 0), (.int .i64 0), (.int .i64 0), (.int .i64 0), (.int .i64 0)] 58)]) (.cons rfl (.cons rfl (.cons rfl (.cons rfl (.cons rfl (.cons rfl (.cons rfl .nil))))))) (.cons rfl (.cons rfl .nil)) ?_
                          refine Tr.store 33 (cs := [(.int .i64 y382.A), (.int .i64 y382.B), (.int .i64 y382.Distance), (.int .i64 y382.From.X), (.int .i64 y382.From.Y), (.int .i64 y382.To.X), (.int .i64 y382.To.Y)]) [(.int .i64 y382.A), (.int .i64 y382.B), (.int .i64 y382.Distance), (.int .i64 y382.From.X), (.int .i64 y382.From.Y), (.int .i64 y382.To.X), (.int .i64 y382.To.Y)] (wn rfl) rfl rfl rfl rfl sz_58 rfl rfl rfl ?_
                          refine Tr.nil (Tr.normThen ?_)
                          refine Tr.seq ?_
                          refine Tr.region ?_
                          refine Tr.val (wn rfl) rfl (fun _ _ h1 h2 => run_move (h1.ev rfl)) ?_
                          refine Tr.val (wn rfl) rfl (fun _ _ h1 h2 => run_move (h1.ev rfl)) ?_
                          refine Tr.val (wn rfl) rfl (fun _ _ h1 h2 => run_fieldAddr fo_58_0 (h1.ev rfl)) ?_
                          refine Tr.store 33 (cs := [(.int .i64 x301)]) [(.int .i64 x301), (.int .i64 y382.B), (.int .i64 y382.Distance), (.int .i64 y382.From.X), (.int .i64 y382.From.Y), (.int .i64 y382.To.X), (.int .i64 y382.To.Y)] (wn rfl) rfl rfl rfl rfl sz_3 rfl rfl rfl ?_
                          refine Tr.val (wn rfl) rfl (fun _ _ h1 h2 => run_fieldAddr fo_58_1 (h1.ev rfl)) ?_
                          refine Tr.store 33 (cs := [(.int .i64 x359)]) [(.int .i64 x301), (.int .i64 x359), (.int .i64 y382.Distance), (.int .i64 y382.From.X), (.int .i64 y382.From.Y), (.int .i64 y382.To.X), (.int .i64 y382.To.Y)] (wn rfl) rfl rfl rfl rfl sz_3 rfl rfl rfl ?_
                          refine Tr.nil (Tr.normThen ?_)
                          refine Tr.region ?_
                          refine Tr.val (wn rfl) rfl (fun _ _ h1 h2 => run_move (h1.ev rfl)) ?_
                          refine Tr.val (wn rfl) rfl (fun _ _ h1 h2 => run_loadN (cs := [(.int .i64 x301), (.int .i64 x359), (.int .i64 y382.Distance), (.int .i64 y382.From.X), (.int .i64 y382.From.Y), (.int .i64 y382.To.X), (.int .i64 y382.To.Y)]) ag_58 sz_58 (h1.ev rfl) (CellsAt.take (rdb h2 (vs := [(.int .i64 x301), (.int .i64 x359), (.int .i64 y382.Distance), (.int .i64 y382.From.X), (.int .i64 y382.From.Y), (.int .i64 y382.To.X), (.int .i64 y382.To.Y)]) (k := 33) rfl 0) 7) rfl) ?_
                          refine Tr.buildSlice 34 (e := 58) (vs := [(0, (.agg #[(.int .i64 x301), (.int .i64 x359), (.int .i64 y382.Distance), (.int .i64 y382.From.X), (.int .i64 y382.From.Y), (.int .i64 y382.To.X), (.int .i64 y382.To.Y)]))]) (cs := [(.int .i64 x301), (.int .i64 x359), (.int .i64 y382.Distance), (.int .i64 y382.From.X), (.int .i64 y382.From.Y), (.int .i64 y382.To.X), (.int .i64 y382.To.Y)]) (wn rfl) rfl (evs_cons rfl evs_nil) (by kernel_rfl) fun b383 => ?_
                          obtain ⟨l384, hl384, H⟩ := bnd H
                          refine Tr.append 7 (t := fl_TGap) (l := l358) (l2 := [(TGap.mk x301 x359 y382.Distance y382.From y382.To)]) (wn rfl) rfl rfl rfl rfl (fun W hW => ⟨[[(.int .i64 x301), (.int .i64 x359), (.int .i64 y382.Distance), (.int .i64 y382.From.X), (.int .i64 y382.From.Y), (.int .i64 y382.To.X), (.int .i64 y382.To.Y)]], (.cons ⟨(), trivial, rfl⟩ .nil), rdb hW (vs := [(.int .i64 x301), (.int .i64 x359), (.int .i64 y382.Distance), (.int .i64 y382.From.X), (.int .i64 y382.From.Y), (.int .i64 y382.To.X), (.int .i64 y382.To.Y)]) (k := 34) rfl 0⟩) un_53 sz_58 zl_58 (by decide) by_58 rfl hl384 fun Al384 cl384 hAl384 => ?_
                          refine Tr.val (wn rfl) rfl (fun _ _ h1 h2 => run_assign (h1.ev rfl)) ?_
                          refine Tr.nil (Tr.normBlock (Tr.normThen ?_))
                          refine Tr.region ?_
                          refine Tr.val (wn rfl) rfl (fun _ _ h1 h2 => run_move (h1.ev rfl)) ?_
                          refine Tr.val (wn rfl) rfl (fun _ _ h1 h2 => run_add (h1.ev rfl) (h1.ev rfl)) ?_
                          refine Tr.val (wn rfl) rfl (fun _ _ h1 h2 => run_assign (h1.ev rfl)) ?_
                          refine Tr.nil ?_
                          exact Tr.backThen leF_etchhouseref1_Gaps_L6 (l384, (w64 (x359 + 1)), Al384, cl384) ⟨H, hAl384⟩ (.cons rfl (.cons rfl (.cons rfl (.cons rfl (.cons rfl .nil))))) (.cons rfl .nil)
                      · refine Tr.skip (Tr.normBlock (Tr.normThen ?_))
                        refine Tr.region ?_
                        refine Tr.val (wn rfl) rfl (fun _ _ h1 h2 => run_move (h1.ev rfl)) ?_
                        refine Tr.val (wn rfl) rfl (fun _ _ h1 h2 => run_add (h1.ev rfl) (h1.ev rfl)) ?_
                        refine Tr.val (wn rfl) rfl (fun _ _ h1 h2 => run_assign (h1.ev rfl)) ?_
                        refine Tr.nil ?_
                        exact Tr.backThen leF_etchhouseref1_Gaps_L6 (l358, (w64 (x359 + 1)), Al358, cl358) ⟨H, hl358⟩ (.cons rfl (.cons rfl (.cons rfl (.cons rfl (.cons rfl .nil))))) (.cons rfl .nil)
              · refine Tr.exit (Tr.exitThen (Tr.exitThen (Tr.exitBlock (Tr.normBlock (Tr.normThen ?_)))))
                refine Tr.region ?_
                refine Tr.val (wn rfl) rfl (fun _ _ h1 h2 => run_move (h1.ev rfl)) ?_
                refine Tr.val (wn rfl) rfl (fun _ _ h1 h2 => run_add (h1.ev rfl) (h1.ev rfl)) ?_
                refine Tr.val (wn rfl) rfl (fun _ _ h1 h2 => run_assign (h1.ev rfl)) ?_
                refine Tr.nil ?_
                exact Tr.backThen leF_etchhouseref1_Gaps_L5 (l358, (w64 (x301 + 1)), Al358, cl358) ⟨H, hl358⟩ (.cons rfl (.cons rfl (.cons rfl (.cons rfl .nil)))) (.cons rfl .nil)
            · refine Tr.exit (Tr.exitThen (Tr.exitThen (Tr.exitBlock (Tr.normThen ?_))))
              refine Tr.seq ?_
              refine Tr.region ?_
              refine Tr.val (wn rfl) rfl (fun _ _ h1 h2 => run_move (h1.ev rfl)) ?_
              refine Tr.val (wn rfl) rfl (fun _ _ h1 h2 => run_assign (h1.ev rfl)) ?_
              refine Tr.val (wn rfl) rfl (fun _ _ h1 h2 => run_assign (h1.ev rfl)) ?_
              refine Tr.nil (Tr.normThen ?_)
              refine Tr.ret ?_
              obtain rfl := Option.some.inj H
              exact Tr.out (m := [(.slice Al300 (l300).length cl300), (.int .i64 0)]) [] (res_tmp rfl (res_tmp rfl res_nil)) (fun W hW => ⟨(Al300, cl300), rfl, hl300, HF.lowE leB (hW.pick (ks := [7]) (by decide) (pk_cons rfl pk_nil)) ⟨ow_any _ _ _ _ tr_TGap, trivial⟩⟩)

theorem F_slices_Equal_Gap_ok {w : Bs} (p0 : (List TGap)) (Ap0_0 : Option Addr) (cp0_0 : Nat) (hp0_0 : Sl w.R w.W fl_TGap Ap0_0 cp0_0 p0) (p1 : (List TGap)) (Ap1_0 : Option Addr) (cp1_0 : Nat) (hp1_0 : Sl w.R w.W fl_TGap Ap1_0 cp1_0 p1) (r : Bool) (H : F_slices_Equal_Gap p0 p1 = some r) (hE : HF w w.W E0) : Calls Try.prog 39 [(.slice Ap0_0 (p0).length cp0_0), (.slice Ap1_0 (p1).length cp1_0)].toArray w.W fun e W' => e = .returned (.bool r) ∧ HF w W' E0 := by
  unfold F_slices_Equal_Gap at H
  have leB := Bs.Le.refl w
  refine Tr.enter (n := 26) Try.func39 rfl rfl rfl hE ?_
  refine Tr.seq ?_
  refine Tr.region ?_
  refine Tr.val (wn rfl) rfl (fun _ _ h1 h2 => run_assign (h1.ev rfl)) ?_
  refine Tr.nil (Tr.normThen ?_)
  refine Tr.seq ?_
  refine Tr.seq ?_
  refine Tr.region ?_
  refine Tr.val (wn rfl) rfl (fun _ _ h1 h2 => run_move (h1.ev rfl)) ?_
  refine Tr.val (wn rfl) rfl (fun _ _ h1 h2 => run_len un_53 (h1.ev rfl)) ?_
  refine Tr.val (wn rfl) rfl (fun _ _ h1 h2 => run_move (h1.ev rfl)) ?_
  refine Tr.val (wn rfl) rfl (fun _ _ h1 h2 => run_len un_53 (h1.ev rfl)) ?_
  refine Tr.val (wn rfl) rfl (fun _ _ h1 h2 => run_neq (h1.ev rfl) (h1.ev rfl)) ?_
  refine Tr.nil (Tr.normThen ?_)
  refine Tr.cond rfl H (fun H => ?_) (fun H => ?_)
  · refine Tr.seq ?_
    refine Tr.region ?_
    refine Tr.val (wn rfl) rfl (fun _ _ h1 h2 => run_assign (h1.ev rfl)) ?_
    refine Tr.nil (Tr.normThen ?_)
    refine Tr.ret (Tr.retThen ?_)
    obtain rfl := Option.some.inj H
    exact Tr.out (m := [(.bool false)]) [] (res_tmp rfl res_nil) (fun W hW => ⟨rfl, hW.low leB⟩)
  · refine Tr.skip (Tr.normThen ?_)
    refine Tr.seq ?_
    refine Tr.seq ?_
    refine Tr.region ?_
    refine Tr.val (wn rfl) rfl (fun _ _ h1 h2 => run_move (h1.ev rfl)) ?_
    refine Tr.val (wn rfl) rfl (fun _ _ h1 h2 => run_len un_53 (h1.ev rfl)) ?_
    refine Tr.val (wn rfl) rfl (fun _ _ h1 h2 => run_move (h1.ev rfl)) ?_
    refine Tr.nil (Tr.normThen ?_)
    refine Tr.block ?_
    refine Tr.loop (σ := (List TGap) × Nat) (fun m w s => m = s.1.length + 1 ∧ s.1 = List.drop s.2 p0 ∧ s.2 ≤ p0.length ∧ F_slices_Equal_Gap_L1 p1 s.1 s.2 = some r) (fun s => [(0, (.slice Ap0_0 (p0).length cp0_0)), (1, (.slice Ap1_0 (p1).length cp1_0)), (12, (.int .i64 (p0.length : Int))), (13, (.int .i64 (s.2 : Int)))]) (fun s => []) (p0.length + 1) (p0, 0) ⟨rfl, rfl, Nat.zero_le _, H⟩ (.cons rfl (.cons rfl (.cons rfl (.cons rfl .nil)))) .nil (fun _ _ h => absurd h.1 (by simp)) ?_
    intro w leF_slices_Equal_Gap_L1 m s hs
    obtain ⟨restF_slices_Equal_Gap_L1, iF_slices_Equal_Gap_L1⟩ := s
    obtain ⟨hmF_slices_Equal_Gap_L1, hdF_slices_Equal_Gap_L1, hiF_slices_Equal_Gap_L1, H⟩ := hs
    replace hdF_slices_Equal_Gap_L1 : restF_slices_Equal_Gap_L1 = List.drop iF_slices_Equal_Gap_L1 p0 := hdF_slices_Equal_Gap_L1
    replace H : F_slices_Equal_Gap_L1 p1 restF_slices_Equal_Gap_L1 iF_slices_Equal_Gap_L1 = some r := H
    replace hmF_slices_Equal_Gap_L1 : m + 1 = restF_slices_Equal_Gap_L1.length + 1 := hmF_slices_Equal_Gap_L1
    replace hp0_0 := hp0_0.leR leF_slices_Equal_Gap_L1
    replace hp1_0 := hp1_0.leR leF_slices_Equal_Gap_L1
    replace leB := leB.trans leF_slices_Equal_Gap_L1
    obtain rfl : m = restF_slices_Equal_Gap_L1.length := by omega
    clear hmF_slices_Equal_Gap_L1
    show Tr _ _ (LF [(0, (.slice Ap0_0 (p0).length cp0_0)), (1, (.slice Ap1_0 (p1).length cp1_0)), (12, (.int .i64 (p0.length : Int))), (13, (.int .i64 (iF_slices_Equal_Gap_L1 : Int)))]) (LE []) _
    cases restF_slices_Equal_Gap_L1 with
    | nil =>
      rw [F_slices_Equal_Gap_L1.eq_1] at H
      refine Tr.seq ?_
      refine Tr.region ?_
      refine Tr.val (wn rfl) rfl (fun _ _ h1 h2 => run_lss (h1.ev rfl) (h1.ev rfl)) ?_
      refine Tr.nil (Tr.normThen ?_)
      refine Tr.seq ?_
      refine Tr.condF rfl (range_nil hdF_slices_Equal_Gap_L1) ?_
      refine Tr.exit (Tr.exitThen (Tr.exitThen (Tr.exitBlock (Tr.normThen ?_))))
      refine Tr.seq ?_
      refine Tr.region ?_
      refine Tr.val (wn rfl) rfl (fun _ _ h1 h2 => run_assign (h1.ev rfl)) ?_
      refine Tr.nil (Tr.normThen ?_)
      refine Tr.ret ?_
      obtain rfl := Option.some.inj H
      exact Tr.out (m := [(.bool true)]) [] (res_tmp rfl res_nil) (fun W hW => ⟨rfl, hW.low leB⟩)
    | cons xF_slices_Equal_Gap_L1 restF_slices_Equal_Gap_L1 =>
      rw [F_slices_Equal_Gap_L1.eq_2] at H
      refine Tr.seq ?_
      refine Tr.region ?_
      refine Tr.val (wn rfl) rfl (fun _ _ h1 h2 => run_lss (h1.ev rfl) (h1.ev rfl)) ?_
      refine Tr.nil (Tr.normThen ?_)
      refine Tr.seq ?_
      refine Tr.condT rfl (range_on hdF_slices_Equal_Gap_L1) ?_
      refine Tr.skip (Tr.normThen ?_)
      refine Tr.seq ?_
      refine Tr.block ?_
      refine Tr.seq ?_
      refine Tr.region ?_
      refine Tr.val (wn rfl) rfl (fun _ _ h1 h2 => run_move (h1.ev rfl)) ?_
      refine Tr.val (wn rfl) rfl (fun _ _ h1 h2 => run_assign (h1.ev rfl)) ?_
      refine Tr.nil (Tr.normThen ?_)
      refine Tr.seq ?_
      refine Tr.draw (by kernel_rfl) (by kernel_rfl) ?_
      refine Tq.val (wn rfl) rfl (fun _ _ h1 h2 => run_move (h1.ev rfl)) ?_
      refine Tq.val (wn rfl) rfl (fun _ _ h1 h2 => run_move (h1.ev rfl)) ?_
      refine Tq.val (wn rfl) rfl (fun _ _ h1 h2 => run_indexAddr el_53 (h1.ev rfl) hp0_0.form (h1.ev rfl) (Int.natCast_nonneg _) (range_lt hdF_slices_Equal_Gap_L1)) ?_
      refine Tq.val (wn rfl) rfl (fun _ _ h1 h2 => run_loadN (cs := [(.int .i64 xF_slices_Equal_Gap_L1.A), (.int .i64 xF_slices_Equal_Gap_L1.B), (.int .i64 xF_slices_Equal_Gap_L1.Distance), (.int .i64 xF_slices_Equal_Gap_L1.From.X), (.int .i64 xF_slices_Equal_Gap_L1.From.Y), (.int .i64 xF_slices_Equal_Gap_L1.To.X), (.int .i64 xF_slices_Equal_Gap_L1.To.Y)]) ag_58 sz_58 (h1.ev rfl) (CellsAt.take (rdF ef_TGap hp0_0 (range_at hdF_slices_Equal_Gap_L1) h2) 7) rfl) ?_
      refine Tq.val (wn rfl) rfl (fun _ _ h1 h2 => run_move (h1.ev rfl)) ?_
      refine Tq.val (wn rfl) rfl (fun _ _ h1 h2 => run_move (h1.ev rfl)) ?_
      obtain ⟨x103, hx103, H⟩ := bnd H
      obtain ⟨hx1030, hx1031, hx1032⟩ := idx_some hx103
      refine Tq.val (wn rfl) rfl (fun _ _ h1 h2 => run_indexAddr el_53 (h1.ev rfl) hp1_0.form (h1.ev rfl) hx1030 hx1031) ?_
      refine Tq.val (wn rfl) rfl (fun _ _ h1 h2 => run_loadN (cs := [(.int .i64 x103.A), (.int .i64 x103.B), (.int .i64 x103.Distance), (.int .i64 x103.From.X), (.int .i64 x103.From.Y), (.int .i64 x103.To.X), (.int .i64 x103.To.Y)]) ag_58 sz_58 (h1.ev rfl) (CellsAt.take (rdF ef_TGap hp1_0 hx1032 h2) 7) rfl) ?_
      refine Tq.val (wn rfl) rfl (fun _ _ h1 h2 => run_neq_58 xF_slices_Equal_Gap_L1 x103 (h1.ev rfl) (h1.ev rfl)) ?_
      refine Tq.nil (Tr.normThen ?_)
      refine Tr.cond rfl H (fun H => ?_) (fun H => ?_)
      · refine Tr.seq ?_
        refine Tr.region ?_
        refine Tr.val (wn rfl) rfl (fun _ _ h1 h2 => run_assign (h1.ev rfl)) ?_
        refine Tr.nil (Tr.normThen ?_)
        refine Tr.ret (Tr.retBlock (Tr.retThen (Tr.retThen (Tr.retBlock (Tr.retThen ?_)))))
        obtain rfl := Option.some.inj H
        exact Tr.out (m := [(.bool false)]) [] (res_tmp rfl res_nil) (fun W hW => ⟨rfl, hW.low leB⟩)
      · refine Tr.skip (Tr.normBlock (Tr.normThen ?_))
        refine Tr.region ?_
        refine Tr.val (wn rfl) rfl (fun _ _ h1 h2 => run_add (h1.ev rfl) (h1.ev rfl)) ?_
        refine Tr.val (wn rfl) rfl (fun _ _ h1 h2 => run_move (h1.ev rfl)) ?_
        refine Tr.nil ?_
        exact Tr.backThen leF_slices_Equal_Gap_L1 (restF_slices_Equal_Gap_L1, (iF_slices_Equal_Gap_L1 + 1)) ⟨rfl, range_tl hdF_slices_Equal_Gap_L1, range_lt hdF_slices_Equal_Gap_L1, H⟩ (.cons rfl (.cons rfl (.cons rfl (.cons (congrArg (fun z => some (Value.int .i64 z)) (range_up hdF_slices_Equal_Gap_L1 hp0_0.form)) .nil)))) .nil

theorem F_shape_AreaOf_ok {w : Bs} (p0 : (List TRect)) (Ap0_0 : Option Addr) (cp0_0 : Nat) (hp0_0 : Sl w.R w.W fl_TRect Ap0_0 cp0_0 p0) (r : Int) (H : F_shape_AreaOf p0 = some r) (hE : HF w w.W E0) : Calls Try.prog 82 [(.slice Ap0_0 (p0).length cp0_0)].toArray w.W fun e W' => e = .returned (.int .i64 r) ∧ HF w W' E0 := by
  unfold F_shape_AreaOf at H
  have leB := Bs.Le.refl w
  refine Tr.enter (n := 27) Try.func82 rfl rfl rfl hE ?_
  refine Tr.seq ?_
  refine Tr.region ?_
  refine Tr.val (wn rfl) rfl (fun _ _ h1 h2 => run_assign (h1.ev rfl)) ?_
  refine Tr.nil (Tr.normThen ?_)
  refine Tr.seq ?_
  refine Tr.region ?_
  refine Tr.val (wn rfl) rfl (fun _ _ h1 h2 => run_assign (h1.ev rfl)) ?_
  refine Tr.nil (Tr.normThen ?_)
  refine Tr.seq ?_
  refine Tr.seq ?_
  refine Tr.region ?_
  refine Tr.val (wn rfl) rfl (fun _ _ h1 h2 => run_move (h1.ev rfl)) ?_
  refine Tr.val (wn rfl) rfl (fun _ _ h1 h2 => run_len un_22 (h1.ev rfl)) ?_
  refine Tr.val (wn rfl) rfl (fun _ _ h1 h2 => run_move (h1.ev rfl)) ?_
  refine Tr.nil (Tr.normThen ?_)
  refine Tr.block ?_
  refine Tr.loop (σ := (List TRect) × Nat × Int) (fun m w s => m = s.1.length + 1 ∧ s.1 = List.drop s.2.1 p0 ∧ s.2.1 ≤ p0.length ∧ F_shape_AreaOf_L1 s.1 s.2.1 s.2.2 = some r) (fun s => [(3, (.int .i64 s.2.2)), (6, (.slice Ap0_0 (p0).length cp0_0)), (7, (.int .i64 (p0.length : Int))), (8, (.int .i64 (s.2.1 : Int)))]) (fun s => []) (p0.length + 1) (p0, 0, 0) ⟨rfl, rfl, Nat.zero_le _, H⟩ (.cons rfl (.cons rfl (.cons rfl (.cons rfl .nil)))) .nil (fun _ _ h => absurd h.1 (by simp)) ?_
  intro w leF_shape_AreaOf_L1 m s hs
  obtain ⟨restF_shape_AreaOf_L1, iF_shape_AreaOf_L1, x110⟩ := s
  obtain ⟨hmF_shape_AreaOf_L1, hdF_shape_AreaOf_L1, hiF_shape_AreaOf_L1, H⟩ := hs
  replace hdF_shape_AreaOf_L1 : restF_shape_AreaOf_L1 = List.drop iF_shape_AreaOf_L1 p0 := hdF_shape_AreaOf_L1
  replace H : F_shape_AreaOf_L1 restF_shape_AreaOf_L1 iF_shape_AreaOf_L1 x110 = some r := H
  replace hmF_shape_AreaOf_L1 : m + 1 = restF_shape_AreaOf_L1.length + 1 := hmF_shape_AreaOf_L1
  replace hp0_0 := hp0_0.leR leF_shape_AreaOf_L1
  replace leB := leB.trans leF_shape_AreaOf_L1
  obtain rfl : m = restF_shape_AreaOf_L1.length := by omega
  clear hmF_shape_AreaOf_L1
  show Tr _ _ (LF [(3, (.int .i64 x110)), (6, (.slice Ap0_0 (p0).length cp0_0)), (7, (.int .i64 (p0.length : Int))), (8, (.int .i64 (iF_shape_AreaOf_L1 : Int)))]) (LE []) _
  cases restF_shape_AreaOf_L1 with
  | nil =>
    rw [F_shape_AreaOf_L1.eq_1] at H
    refine Tr.seq ?_
    refine Tr.region ?_
    refine Tr.val (wn rfl) rfl (fun _ _ h1 h2 => run_lss (h1.ev rfl) (h1.ev rfl)) ?_
    refine Tr.nil (Tr.normThen ?_)
    refine Tr.seq ?_
    refine Tr.condF rfl (range_nil hdF_shape_AreaOf_L1) ?_
    refine Tr.exit (Tr.exitThen (Tr.exitThen (Tr.exitBlock (Tr.normThen ?_))))
    refine Tr.seq ?_
    refine Tr.region ?_
    refine Tr.val (wn rfl) rfl (fun _ _ h1 h2 => run_move (h1.ev rfl)) ?_
    refine Tr.val (wn rfl) rfl (fun _ _ h1 h2 => run_assign (h1.ev rfl)) ?_
    refine Tr.nil (Tr.normThen ?_)
    refine Tr.ret ?_
    obtain rfl := Option.some.inj H
    exact Tr.out (m := [(.int .i64 x110)]) [] (res_tmp rfl res_nil) (fun W hW => ⟨rfl, hW.low leB⟩)
  | cons xF_shape_AreaOf_L1 restF_shape_AreaOf_L1 =>
    rw [F_shape_AreaOf_L1.eq_2] at H
    refine Tr.seq ?_
    refine Tr.region ?_
    refine Tr.val (wn rfl) rfl (fun _ _ h1 h2 => run_lss (h1.ev rfl) (h1.ev rfl)) ?_
    refine Tr.nil (Tr.normThen ?_)
    refine Tr.seq ?_
    refine Tr.condT rfl (range_on hdF_shape_AreaOf_L1) ?_
    refine Tr.skip (Tr.normThen ?_)
    refine Tr.seq ?_
    refine Tr.block ?_
    refine Tr.seq ?_
    refine Tr.region ?_
    refine Tr.val (wn rfl) rfl (fun _ _ h1 h2 => run_indexAddr el_22 (h1.ev rfl) hp0_0.form (h1.ev rfl) (Int.natCast_nonneg _) (range_lt hdF_shape_AreaOf_L1)) ?_
    refine Tr.val (wn rfl) rfl (fun _ _ h1 h2 => run_loadN (cs := [(.int .i64 xF_shape_AreaOf_L1.X0), (.int .i64 xF_shape_AreaOf_L1.Y0), (.int .i64 xF_shape_AreaOf_L1.X1), (.int .i64 xF_shape_AreaOf_L1.Y1)]) ag_29 sz_29 (h1.ev rfl) (CellsAt.take (rdF ef_TRect hp0_0 (range_at hdF_shape_AreaOf_L1) h2) 4) rfl) ?_
    refine Tr.alloc 3 (wn rfl) rfl ze_29 fun b111 => ?_
    refine Tr.store 3 (cs := [(.int .i64 xF_shape_AreaOf_L1.X0), (.int .i64 xF_shape_AreaOf_L1.Y0), (.int .i64 xF_shape_AreaOf_L1.X1), (.int .i64 xF_shape_AreaOf_L1.Y1)]) [(.int .i64 xF_shape_AreaOf_L1.X0), (.int .i64 xF_shape_AreaOf_L1.Y0), (.int .i64 xF_shape_AreaOf_L1.X1), (.int .i64 xF_shape_AreaOf_L1.Y1)] (wn rfl) rfl rfl rfl rfl sz_29 rfl rfl rfl ?_
    refine Tr.nil (Tr.normThen ?_)
    refine Tr.region ?_
    refine Tr.val (wn rfl) rfl (fun _ _ h1 h2 => run_move (h1.ev rfl)) ?_
    refine Tr.val (wn rfl) rfl (fun _ _ h1 h2 => run_fieldAddr fo_29_2 (h1.ev rfl)) ?_
    refine Tr.val (wn rfl) rfl (fun _ _ h1 h2 => run_load1 ag_3 (h1.ev rfl) (rdb h2 (vs := [(.int .i64 xF_shape_AreaOf_L1.X0), (.int .i64 xF_shape_AreaOf_L1.Y0), (.int .i64 xF_shape_AreaOf_L1.X1), (.int .i64 xF_shape_AreaOf_L1.Y1)]) (k := 3) rfl 2) rfl) ?_
    refine Tr.val (wn rfl) rfl (fun _ _ h1 h2 => run_fieldAddr fo_29_0 (h1.ev rfl)) ?_
    refine Tr.val (wn rfl) rfl (fun _ _ h1 h2 => run_load1 ag_3 (h1.ev rfl) (rdb h2 (vs := [(.int .i64 xF_shape_AreaOf_L1.X0), (.int .i64 xF_shape_AreaOf_L1.Y0), (.int .i64 xF_shape_AreaOf_L1.X1), (.int .i64 xF_shape_AreaOf_L1.Y1)]) (k := 3) rfl 0) rfl) ?_
    refine Tr.val (wn rfl) rfl (fun _ _ h1 h2 => run_sub (h1.ev rfl) (h1.ev rfl)) ?_
    refine Tr.val (wn rfl) rfl (fun _ _ h1 h2 => run_fieldAddr fo_29_3 (h1.ev rfl)) ?_
    refine Tr.val (wn rfl) rfl (fun _ _ h1 h2 => run_load1 ag_3 (h1.ev rfl) (rdb h2 (vs := [(.int .i64 xF_shape_AreaOf_L1.X0), (.int .i64 xF_shape_AreaOf_L1.Y0), (.int .i64 xF_shape_AreaOf_L1.X1), (.int .i64 xF_shape_AreaOf_L1.Y1)]) (k := 3) rfl 3) rfl) ?_
    refine Tr.val (wn rfl) rfl (fun _ _ h1 h2 => run_fieldAddr fo_29_1 (h1.ev rfl)) ?_
    refine Tr.val (wn rfl) rfl (fun _ _ h1 h2 => run_load1 ag_3 (h1.ev rfl) (rdb h2 (vs := [(.int .i64 xF_shape_AreaOf_L1.X0), (.int .i64 xF_shape_AreaOf_L1.Y0), (.int .i64 xF_shape_AreaOf_L1.X1), (.int .i64 xF_shape_AreaOf_L1.Y1)]) (k := 3) rfl 1) rfl) ?_
    refine Tr.val (wn rfl) rfl (fun _ _ h1 h2 => run_sub (h1.ev rfl) (h1.ev rfl)) ?_
    refine Tr.val (wn rfl) rfl (fun _ _ h1 h2 => run_mul (h1.ev rfl) (h1.ev rfl)) ?_
    refine Tr.val (wn rfl) rfl (fun _ _ h1 h2 => run_add (h1.ev rfl) (h1.ev rfl)) ?_
    refine Tr.val (wn rfl) rfl (fun _ _ h1 h2 => run_assign (h1.ev rfl)) ?_
    refine Tr.nil (Tr.normBlock (Tr.normThen ?_))
    refine Tr.region ?_
    refine Tr.val (wn rfl) rfl (fun _ _ h1 h2 => run_add (h1.ev rfl) (h1.ev rfl)) ?_
    refine Tr.val (wn rfl) rfl (fun _ _ h1 h2 => run_move (h1.ev rfl)) ?_
    refine Tr.nil ?_
    exact Tr.backThen leF_shape_AreaOf_L1 (restF_shape_AreaOf_L1, (iF_shape_AreaOf_L1 + 1), (w64 (x110 + (w64 ((w64 (xF_shape_AreaOf_L1.X1 - xF_shape_AreaOf_L1.X0)) * (w64 (xF_shape_AreaOf_L1.Y1 - xF_shape_AreaOf_L1.Y0))))))) ⟨rfl, range_tl hdF_shape_AreaOf_L1, range_lt hdF_shape_AreaOf_L1, H⟩ (.cons rfl (.cons rfl (.cons rfl (.cons (congrArg (fun z => some (Value.int .i64 z)) (range_up hdF_shape_AreaOf_L1 hp0_0.form)) .nil)))) .nil

theorem F_shape_Area_ok (N : Nat) {w : Bs} (p0 : (List TRect)) (Ap0_0 : Option Addr) (cp0_0 : Nat) (hp0_0 : Sl w.R w.W fl_TRect Ap0_0 cp0_0 p0) (r : (Int × Int)) (H : F_shape_Area N p0 = some r) (hE : HF w w.W E0) : Calls Try.prog 46 [(.slice Ap0_0 (p0).length cp0_0)].toArray w.W fun e W' => e = .returned (.tuple #[(.int .i64 r.1), (.int .i64 r.2)]) ∧ HF w W' E0 := by
  unfold F_shape_Area at H
  have leB := Bs.Le.refl w
  refine Tr.enter (n := 12) Try.func46 rfl rfl rfl hE ?_
  refine Tr.seq ?_
  refine Tr.region ?_
  refine Tr.val (wn rfl) rfl (fun _ _ h1 h2 => run_assign (h1.ev rfl)) ?_
  refine Tr.val (wn rfl) rfl (fun _ _ h1 h2 => run_assign (h1.ev rfl)) ?_
  refine Tr.nil (Tr.normThen ?_)
  refine Tr.seq ?_
  refine Tr.seq ?_
  refine Tr.region ?_
  refine Tr.val (wn rfl) rfl (fun _ _ h1 h2 => run_move (h1.ev rfl)) ?_
  obtain ⟨y100, hy100, H⟩ := bnd H
  refine Tr.call0 (r := (.int .i64 y100)) (wn rfl) rfl Try.call17 (evl_cons rfl evl_nil) (fun W hW => F_shape_CheckRegion_ok N p0 Ap0_0 cp0_0 (hp0_0.ext hW.extAll) y100 hy100 (HF.start _)) ?_
  refine Tr.val (wn rfl) rfl (fun _ _ h1 h2 => run_assign (h1.ev rfl)) ?_
  refine Tr.nil (Tr.normThen ?_)
  refine Tr.seq ?_
  refine Tr.region ?_
  refine Tr.val (wn rfl) rfl (fun _ _ h1 h2 => run_move (h1.ev rfl)) ?_
  refine Tr.val (wn rfl) rfl (fun _ _ h1 h2 => run_neq (h1.ev rfl) (h1.ev rfl)) ?_
  refine Tr.nil (Tr.normThen ?_)
  refine Tr.cond rfl H (fun H => ?_) (fun H => ?_)
  · refine Tr.seq ?_
    refine Tr.region ?_
    refine Tr.val (wn rfl) rfl (fun _ _ h1 h2 => run_move (h1.ev rfl)) ?_
    refine Tr.val (wn rfl) rfl (fun _ _ h1 h2 => run_assign (h1.ev rfl)) ?_
    refine Tr.val (wn rfl) rfl (fun _ _ h1 h2 => run_assign (h1.ev rfl)) ?_
    refine Tr.nil (Tr.normThen ?_)
    refine Tr.ret (Tr.retThen ?_)
    obtain rfl := Option.some.inj H
    exact Tr.out (m := [(.int .i64 0), (.int .i64 y100)]) [] (res_tmp rfl (res_tmp rfl res_nil)) (fun W hW => ⟨rfl, hW.low leB⟩)
  · refine Tr.skip (Tr.normThen ?_)
    refine Tr.seq ?_
    refine Tr.region ?_
    refine Tr.val (wn rfl) rfl (fun _ _ h1 h2 => run_move (h1.ev rfl)) ?_
    obtain ⟨y101, hy101, H⟩ := bnd H
    refine Tr.call0 (r := (.int .i64 y101)) (wn rfl) rfl Try.call82 (evl_cons rfl evl_nil) (fun W hW => F_shape_AreaOf_ok p0 Ap0_0 cp0_0 (hp0_0.ext hW.extAll) y101 hy101 (HF.start _)) ?_
    refine Tr.val (wn rfl) rfl (fun _ _ h1 h2 => run_assign (h1.ev rfl)) ?_
    refine Tr.val (wn rfl) rfl (fun _ _ h1 h2 => run_assign (h1.ev rfl)) ?_
    refine Tr.nil (Tr.normThen ?_)
    refine Tr.ret ?_
    obtain rfl := Option.some.inj H
    exact Tr.out (m := [(.int .i64 y101), (.int .i64 0)]) [] (res_tmp rfl (res_tmp rfl res_nil)) (fun W hW => ⟨rfl, hW.low leB⟩)

theorem F_etchhouselaw1_awake_ok (N : Nat) {w : Bs}  (r : Bool) (H : F_etchhouselaw1_awake N = some r) (hE : HF w w.W E0) : Calls Try.prog 20 [].toArray w.W fun e W' => e = .returned (.bool r) ∧ HF w W' E0 := by
  unfold F_etchhouselaw1_awake at H
  have leB := Bs.Le.refl w
  refine Tr.enter (n := 15) Try.func20 rfl rfl rfl hE ?_
  refine Tr.seq ?_
  refine Tr.region ?_
  refine Tr.val (wn rfl) rfl (fun _ _ h1 h2 => run_assign (h1.ev rfl)) ?_
  refine Tr.nil (Tr.normThen ?_)
  refine Tr.seq ?_
  refine Tr.region ?_
  refine Tr.build (vs := [(2, (.int .i64 2)), (3, (.int .i64 3))]) (cs := [(.int .i64 0), (.int .i64 0), (.int .i64 2), (.int .i64 3)]) (wn rfl) rfl (evs_cons rfl (evs_cons rfl evs_nil)) (by kernel_rfl) ?_
  refine Tr.buildSlice 1 (e := 29) (vs := [(0, (.agg #[(.int .i64 0), (.int .i64 0), (.int .i64 2), (.int .i64 3)]))]) (cs := [(.int .i64 0), (.int .i64 0), (.int .i64 2), (.int .i64 3)]) (wn rfl) rfl (evs_cons rfl evs_nil) (by kernel_rfl) fun b100 => ?_
  refine Tr.own 1 fl_TRect [(TRect.mk 0 0 2 3)] (css := [[(.int .i64 0), (.int .i64 0), (.int .i64 2), (.int .i64 3)]]) rfl (.cons ⟨(), trivial, rfl⟩ .nil) rfl (by decide) (lit_max rfl) ?_
  obtain ⟨y101, hy101, H⟩ := bnd H
  refine Tr.call0 (r := (.tuple #[(.int .i64 y101.1), (.int .i64 y101.2)])) (wn rfl) rfl Try.call46 (evl_cons rfl evl_nil) (fun W hW => F_shape_Area_ok N [(TRect.mk 0 0 2 3)] (some ⟨b100, 0, none⟩) 1 (hW.slCall (k := 1) rfl) y101 hy101 (HF.start _)) ?_
  refine Tr.val (wn rfl) rfl (fun _ _ h1 h2 => run_move (h1.ev rfl)) ?_
  refine Tr.val (wn rfl) rfl (fun _ _ h1 h2 => run_extract (h1.ev rfl) rfl) ?_
  refine Tr.val (wn rfl) rfl (fun _ _ h1 h2 => run_extract (h1.ev rfl) rfl) ?_
  refine Tr.val (wn rfl) rfl (fun _ _ h1 h2 => run_assign (h1.ev rfl)) ?_
  refine Tr.val (wn rfl) rfl (fun _ _ h1 h2 => run_assign (h1.ev rfl)) ?_
  refine Tr.nil (Tr.normThen ?_)
  refine Tr.seq ?_
  refine Tr.region ?_
  refine Tr.val (wn rfl) rfl (fun _ _ h1 h2 => run_move (h1.ev rfl)) ?_
  refine Tr.val (wn rfl) rfl (fun _ _ h1 h2 => run_eql (h1.ev rfl) (h1.ev rfl)) ?_
  refine Tr.val (wn rfl) rfl (fun _ _ h1 h2 => run_move (h1.ev rfl)) ?_
  refine Tr.mid0 3 [(14, (.bool ((y101.2 == 0) && (y101.1 == 6))))] [(1, ow (some ⟨b100, 0, none⟩) 1 29 fl_TRect [(TRect.mk 0 0 2 3)])] ?_ ?_
  · cases hg101 : (y101.2 == 0)
    · refine Tr.pass rfl rfl rfl rfl rfl (by decide) ?_
      refine Tr.pass rfl rfl rfl rfl rfl (by decide) ?_
      refine Tr.val (wn rfl) rfl (fun _ _ h1 h2 => run_pickF (h1.ev rfl) (h1.ev rfl)) ?_
      exact Tr.nil (Tr.fin0 (.cons rfl .nil) (.cons rfl .nil))
    · refine Tr.val (wg rfl rfl rfl) rfl (fun _ _ h1 h2 => run_move (h1.ev rfl)) ?_
      refine Tr.val (wg rfl rfl rfl) rfl (fun _ _ h1 h2 => run_eql (h1.ev rfl) (h1.ev rfl)) ?_
      refine Tr.val (wn rfl) rfl (fun _ _ h1 h2 => run_pickT (h1.ev rfl) (h1.ev rfl)) ?_
      exact Tr.nil (Tr.fin0 (.cons rfl .nil) (.cons rfl .nil))
  · show Tr _ _ (LF [(14, (.bool ((y101.2 == 0) && (y101.1 == 6))))]) (LE [(1, ow (some ⟨b100, 0, none⟩) 1 29 fl_TRect [(TRect.mk 0 0 2 3)])]) _
    refine Tr.val (wn rfl) rfl (fun _ _ h1 h2 => run_assign (h1.ev rfl)) ?_
    refine Tr.nil (Tr.normThen ?_)
    refine Tr.ret ?_
    obtain rfl := Option.some.inj H
    exact Tr.out (m := [(.bool ((y101.2 == 0) && (y101.1 == 6)))]) [] (res_tmp rfl res_nil) (fun W hW => ⟨rfl, hW.low leB⟩)

theorem F_etchhouselaw1_GapsMatchSpec_ok (N : Nat) {w : Bs} (p0 : (List (List TRect))) (Ap0_0 : Option Addr) (cp0_0 : Nat) (hp0_0 : Sl w.R w.W fl_LTRect Ap0_0 cp0_0 p0) (p1 : Int) (r : Bool) (H : F_etchhouselaw1_GapsMatchSpec N p0 p1 = some r) (hE : HF w w.W E0) : Calls Try.prog 9 [(.slice Ap0_0 (p0).length cp0_0), (.int .i64 p1)].toArray w.W fun e W' => e = .returned (.bool r) ∧ HF w W' E0 := by
  unfold F_etchhouselaw1_GapsMatchSpec at H
  have leB := Bs.Le.refl w
  refine Tr.enter (n := 32) Try.func9 rfl rfl rfl hE ?_
  refine Tr.seq ?_
  refine Tr.region ?_
  refine Tr.val (wn rfl) rfl (fun _ _ h1 h2 => run_assign (h1.ev rfl)) ?_
  refine Tr.nil (Tr.normThen ?_)
  refine Tr.seq ?_
  refine Tr.region ?_
  refine Tr.val (wn rfl) rfl (fun _ _ h1 h2 => run_move (h1.ev rfl)) ?_
  refine Tr.val (wn rfl) rfl (fun _ _ h1 h2 => run_move (h1.ev rfl)) ?_
  obtain ⟨y100, hy100, H⟩ := bnd H
  refine Tr.callM [1] [emp] (U := (Option Addr × Nat)) (fun u => (.tuple #[(.slice u.1 (y100.1).length u.2), (.int .i64 y100.2)])) (fun u => SlF u.1 (y100.1).length u.2) (fun u => [ow u.1 u.2 58 fl_TGap y100.1]) rfl (pk_cons rfl pk_nil) (fun _ => rfl) (wn rfl) rfl Try.call37 (evl_cons rfl (evl_cons rfl evl_nil)) (fun W hW hp hE => F_shape_Gaps_ok N p0 Ap0_0 cp0_0 (hp0_0.ext (hW.extS hp)) p1 y100 hy100 hE) ?_
  intro u hu
  obtain ⟨Ay100_0, cy100_0⟩ := u
  have gy100_0 := hu
  have hgy100_0 : SlF Ay100_0 (y100.1).length cy100_0 := gy100_0 --@phi
  show Tr _ _ (uf _ 12 (.tuple #[(.slice Ay100_0 (y100.1).length cy100_0), (.int .i64 y100.2)])) (up _ 1 (ow Ay100_0 cy100_0 58 fl_TGap y100.1)) _
  refine Tr.val (wn rfl) rfl (fun _ _ h1 h2 => run_move (h1.ev rfl)) ?_
  refine Tr.val (wn rfl) rfl (fun _ _ h1 h2 => run_extract (h1.ev rfl) rfl) ?_
  refine Tr.val (wn rfl) rfl (fun _ _ h1 h2 => run_extract (h1.ev rfl) rfl) ?_
  refine Tr.val (wn rfl) rfl (fun _ _ h1 h2 => run_assign (h1.ev rfl)) ?_
  refine Tr.val (wn rfl) rfl (fun _ _ h1 h2 => run_assign (h1.ev rfl)) ?_
  refine Tr.nil (Tr.normThen ?_)
  refine Tr.seq ?_
  refine Tr.region ?_
  refine Tr.val (wn rfl) rfl (fun _ _ h1 h2 => run_move (h1.ev rfl)) ?_
  refine Tr.val (wn rfl) rfl (fun _ _ h1 h2 => run_move (h1.ev rfl)) ?_
  obtain ⟨y102, hy102, H⟩ := bnd H
  refine Tr.callM [2] [emp] (U := (Option Addr × Nat)) (fun u => (.tuple #[(.slice u.1 (y102.1).length u.2), (.int .i64 y102.2)])) (fun u => SlF u.1 (y102.1).length u.2) (fun u => [ow u.1 u.2 58 fl_TGap y102.1]) rfl (pk_cons rfl pk_nil) (fun _ => rfl) (wn rfl) rfl Try.call38 (evl_cons rfl (evl_cons rfl evl_nil)) (fun W hW hp hE => F_etchhouseref1_Gaps_ok N p0 Ap0_0 cp0_0 (hp0_0.ext (hW.extS hp)) p1 y102 hy102 hE) ?_
  intro u hu
  obtain ⟨Ay102_0, cy102_0⟩ := u
  have gy102_0 := hu
  have hgy102_0 : SlF Ay102_0 (y102.1).length cy102_0 := gy102_0 --@phi
  show Tr _ _ (uf _ 18 (.tuple #[(.slice Ay102_0 (y102.1).length cy102_0), (.int .i64 y102.2)])) (up _ 2 (ow Ay102_0 cy102_0 58 fl_TGap y102.1)) _
  refine Tr.val (wn rfl) rfl (fun _ _ h1 h2 => run_move (h1.ev rfl)) ?_
  refine Tr.val (wn rfl) rfl (fun _ _ h1 h2 => run_extract (h1.ev rfl) rfl) ?_
  refine Tr.val (wn rfl) rfl (fun _ _ h1 h2 => run_extract (h1.ev rfl) rfl) ?_
  refine Tr.val (wn rfl) rfl (fun _ _ h1 h2 => run_assign (h1.ev rfl)) ?_
  refine Tr.val (wn rfl) rfl (fun _ _ h1 h2 => run_assign (h1.ev rfl)) ?_
  refine Tr.nil (Tr.normThen ?_)
  refine Tr.seq ?_
  refine Tr.region ?_
  refine Tr.val (wn rfl) rfl (fun _ _ h1 h2 => run_move (h1.ev rfl)) ?_
  refine Tr.val (wn rfl) rfl (fun _ _ h1 h2 => run_move (h1.ev rfl)) ?_
  obtain ⟨y104, hy104, H⟩ := bnd H
  refine Tr.call0 (r := (.bool y104)) (wn rfl) rfl Try.call39 (evl_cons rfl (evl_cons rfl evl_nil)) (fun W hW => F_slices_Equal_Gap_ok y100.1 Ay100_0 cy100_0 (hW.slCall (k := 1) rfl) y102.1 Ay102_0 cy102_0 (hW.slCall (k := 2) rfl) y104 hy104 (HF.start _)) ?_
  refine Tr.val (wn rfl) rfl (fun _ _ h1 h2 => run_move (h1.ev rfl)) ?_
  refine Tr.mid0 4 [(28, (.bool (y104 && (y100.2 == y102.2))))] [(1, ow Ay100_0 cy100_0 58 fl_TGap y100.1), (2, ow Ay102_0 cy102_0 58 fl_TGap y102.1)] ?_ ?_
  · cases hg107 : y104
    · refine Tr.pass rfl rfl rfl rfl rfl (by decide) ?_
      refine Tr.pass rfl rfl rfl rfl rfl (by decide) ?_
      refine Tr.pass rfl rfl rfl rfl rfl (by decide) ?_
      refine Tr.val (wn rfl) rfl (fun _ _ h1 h2 => run_pickF (h1.ev rfl) (h1.ev rfl)) ?_
      exact Tr.nil (Tr.fin0 (.cons rfl .nil) (.cons rfl (.cons rfl .nil)))
    · refine Tr.val (wg rfl rfl rfl) rfl (fun _ _ h1 h2 => run_move (h1.ev rfl)) ?_
      refine Tr.val (wg rfl rfl rfl) rfl (fun _ _ h1 h2 => run_move (h1.ev rfl)) ?_
      refine Tr.val (wg rfl rfl rfl) rfl (fun _ _ h1 h2 => run_eql (h1.ev rfl) (h1.ev rfl)) ?_
      refine Tr.val (wn rfl) rfl (fun _ _ h1 h2 => run_pickT (h1.ev rfl) (h1.ev rfl)) ?_
      exact Tr.nil (Tr.fin0 (.cons rfl .nil) (.cons rfl (.cons rfl .nil)))
  · show Tr _ _ (LF [(28, (.bool (y104 && (y100.2 == y102.2))))]) (LE [(1, ow Ay100_0 cy100_0 58 fl_TGap y100.1), (2, ow Ay102_0 cy102_0 58 fl_TGap y102.1)]) _
    refine Tr.val (wn rfl) rfl (fun _ _ h1 h2 => run_move (h1.ev rfl)) ?_
    obtain ⟨g106, hg106, H⟩ := bnd H
    refine Tr.mid0 2 [(31, (.bool g106))] [(1, ow Ay100_0 cy100_0 58 fl_TGap y100.1), (2, ow Ay102_0 cy102_0 58 fl_TGap y102.1)] ?_ ?_
    · cases hg107 : (y104 && (y100.2 == y102.2))
      · rw [hg107] at hg106
        rw [if_neg (by decide)] at hg106
        have H := hg106
        obtain rfl := Option.some.inj H
        refine Tr.pass rfl rfl rfl rfl rfl (by decide) ?_
        refine Tr.val (wn rfl) rfl (fun _ _ h1 h2 => run_pickF (h1.ev rfl) (h1.ev rfl)) ?_
        exact Tr.nil (Tr.fin0 (.cons rfl .nil) (.cons rfl (.cons rfl .nil)))
      · rw [hg107] at hg106
        rw [if_pos rfl] at hg106
        have H := hg106
        obtain ⟨y107, hy107, H⟩ := bnd H
        refine Tr.call0 (r := (.bool y107)) (wg rfl rfl rfl) rfl Try.call20 evl_nil (fun W hW => F_etchhouselaw1_awake_ok N y107 hy107 (HF.start _)) ?_
        refine Tr.val (wn rfl) rfl (fun _ _ h1 h2 => run_pickT (h1.ev rfl) (h1.ev rfl)) ?_
        obtain rfl := Option.some.inj H
        exact Tr.nil (Tr.fin0 (.cons rfl .nil) (.cons rfl (.cons rfl .nil)))
    · show Tr _ _ (LF [(31, (.bool g106))]) (LE [(1, ow Ay100_0 cy100_0 58 fl_TGap y100.1), (2, ow Ay102_0 cy102_0 58 fl_TGap y102.1)]) _
      refine Tr.val (wn rfl) rfl (fun _ _ h1 h2 => run_assign (h1.ev rfl)) ?_
      refine Tr.nil (Tr.normThen ?_)
      refine Tr.ret ?_
      obtain rfl := Option.some.inj H
      exact Tr.out (m := [(.bool g106)]) [] (res_tmp rfl res_nil) (fun W hW => ⟨rfl, hW.low leB⟩)

theorem F_shape_Set__Many_ok {w : Bs} (p0 : (List TBand)) (Ap0_0 : Option Addr) (cp0_0 : Nat) (hp0_0 : Sl w.R w.W fl_TBand Ap0_0 cp0_0 p0) (r : Int) (H : F_shape_Set__Many p0 = some r) (hE : HF w w.W E0) : Calls Try.prog 92 [(.slice Ap0_0 (p0).length cp0_0)].toArray w.W fun e W' => e = .returned (.int .i64 r) ∧ HF w W' E0 := by
  unfold F_shape_Set__Many at H
  have leB := Bs.Le.refl w
  refine Tr.enter (n := 20) Try.func92 rfl rfl rfl hE ?_
  refine Tr.seq ?_
  refine Tr.region ?_
  refine Tr.val (wn rfl) rfl (fun _ _ h1 h2 => run_assign (h1.ev rfl)) ?_
  refine Tr.nil (Tr.normThen ?_)
  refine Tr.seq ?_
  refine Tr.region ?_
  refine Tr.val (wn rfl) rfl (fun _ _ h1 h2 => run_assign (h1.ev rfl)) ?_
  refine Tr.nil (Tr.normThen ?_)
  refine Tr.seq ?_
  refine Tr.seq ?_
  refine Tr.region ?_
  refine Tr.val (wn rfl) rfl (fun _ _ h1 h2 => run_move (h1.ev rfl)) ?_
  refine Tr.val (wn rfl) rfl (fun _ _ h1 h2 => run_len un_66 (h1.ev rfl)) ?_
  refine Tr.val (wn rfl) rfl (fun _ _ h1 h2 => run_move (h1.ev rfl)) ?_
  refine Tr.nil (Tr.normThen ?_)
  refine Tr.block ?_
  refine Tr.loop (σ := (List TBand) × Nat × Int) (fun m w s => m = s.1.length + 1 ∧ s.1 = List.drop s.2.1 p0 ∧ s.2.1 ≤ p0.length ∧ F_shape_Set__Many_L1 s.1 s.2.1 s.2.2 = some r) (fun s => [(3, (.int .i64 s.2.2)), (6, (.slice Ap0_0 (p0).length cp0_0)), (7, (.int .i64 (p0.length : Int))), (8, (.int .i64 (s.2.1 : Int)))]) (fun s => []) (p0.length + 1) (p0, 0, 0) ⟨rfl, rfl, Nat.zero_le _, H⟩ (.cons rfl (.cons rfl (.cons rfl (.cons rfl .nil)))) .nil (fun _ _ h => absurd h.1 (by simp)) ?_
  intro w leF_shape_Set__Many_L1 m s hs
  obtain ⟨restF_shape_Set__Many_L1, iF_shape_Set__Many_L1, x112⟩ := s
  obtain ⟨hmF_shape_Set__Many_L1, hdF_shape_Set__Many_L1, hiF_shape_Set__Many_L1, H⟩ := hs
  replace hdF_shape_Set__Many_L1 : restF_shape_Set__Many_L1 = List.drop iF_shape_Set__Many_L1 p0 := hdF_shape_Set__Many_L1
  replace H : F_shape_Set__Many_L1 restF_shape_Set__Many_L1 iF_shape_Set__Many_L1 x112 = some r := H
  replace hmF_shape_Set__Many_L1 : m + 1 = restF_shape_Set__Many_L1.length + 1 := hmF_shape_Set__Many_L1
  replace hp0_0 := hp0_0.leR leF_shape_Set__Many_L1
  replace leB := leB.trans leF_shape_Set__Many_L1
  obtain rfl : m = restF_shape_Set__Many_L1.length := by omega
  clear hmF_shape_Set__Many_L1
  show Tr _ _ (LF [(3, (.int .i64 x112)), (6, (.slice Ap0_0 (p0).length cp0_0)), (7, (.int .i64 (p0.length : Int))), (8, (.int .i64 (iF_shape_Set__Many_L1 : Int)))]) (LE []) _
  cases restF_shape_Set__Many_L1 with
  | nil =>
    rw [F_shape_Set__Many_L1.eq_1] at H
    refine Tr.seq ?_
    refine Tr.region ?_
    refine Tr.val (wn rfl) rfl (fun _ _ h1 h2 => run_lss (h1.ev rfl) (h1.ev rfl)) ?_
    refine Tr.nil (Tr.normThen ?_)
    refine Tr.seq ?_
    refine Tr.condF rfl (range_nil hdF_shape_Set__Many_L1) ?_
    refine Tr.exit (Tr.exitThen (Tr.exitThen (Tr.exitBlock (Tr.normThen ?_))))
    refine Tr.seq ?_
    refine Tr.region ?_
    refine Tr.val (wn rfl) rfl (fun _ _ h1 h2 => run_move (h1.ev rfl)) ?_
    refine Tr.val (wn rfl) rfl (fun _ _ h1 h2 => run_assign (h1.ev rfl)) ?_
    refine Tr.nil (Tr.normThen ?_)
    refine Tr.ret ?_
    obtain rfl := Option.some.inj H
    exact Tr.out (m := [(.int .i64 x112)]) [] (res_tmp rfl res_nil) (fun W hW => ⟨rfl, hW.low leB⟩)
  | cons xF_shape_Set__Many_L1 restF_shape_Set__Many_L1 =>
    rw [F_shape_Set__Many_L1.eq_2] at H
    refine Tr.seq ?_
    refine Tr.region ?_
    refine Tr.val (wn rfl) rfl (fun _ _ h1 h2 => run_lss (h1.ev rfl) (h1.ev rfl)) ?_
    refine Tr.nil (Tr.normThen ?_)
    refine Tr.seq ?_
    refine Tr.condT rfl (range_on hdF_shape_Set__Many_L1) ?_
    refine Tr.skip (Tr.normThen ?_)
    refine Tr.seq ?_
    refine Tr.block ?_
    refine Tr.seq ?_
    refine Tr.region ?_
    obtain ⟨u113, hRu113, hoku113, hcu113⟩ := (hp0_0).el (range_at hdF_shape_Set__Many_L1)
    obtain ⟨Au113_0, cu113_0⟩ := u113
    have hoku113_0 := hoku113
    replace hoku113_0 : Sl w.R w.W fl_i64 Au113_0 cu113_0 xF_shape_Set__Many_L1.Xs := hoku113_0
    refine Tr.val (wn rfl) rfl (fun _ _ h1 h2 => run_indexAddr el_66 (h1.ev rfl) hp0_0.form (h1.ev rfl) (Int.natCast_nonneg _) (range_lt hdF_shape_Set__Many_L1)) ?_
    refine Tr.val (wn rfl) rfl (fun _ _ h1 h2 => run_loadN (cs := [(.int .i64 xF_shape_Set__Many_L1.Y0), (.int .i64 xF_shape_Set__Many_L1.Y1), (.slice Au113_0 (xF_shape_Set__Many_L1.Xs).length cu113_0)]) ag_96 sz_96 (h1.ev rfl) (CellsAt.take (rdR hRu113 hcu113 h2) 3) rfl) ?_
    refine Tr.alloc 3 (wn rfl) rfl ze_96 fun b114 => ?_
    refine Tr.store 3 (cs := [(.int .i64 xF_shape_Set__Many_L1.Y0), (.int .i64 xF_shape_Set__Many_L1.Y1), (.slice Au113_0 (xF_shape_Set__Many_L1.Xs).length cu113_0)]) [(.int .i64 xF_shape_Set__Many_L1.Y0), (.int .i64 xF_shape_Set__Many_L1.Y1), (.slice Au113_0 (xF_shape_Set__Many_L1.Xs).length cu113_0)] (wn rfl) rfl rfl rfl rfl sz_96 rfl rfl rfl ?_
    refine Tr.nil (Tr.normThen ?_)
    refine Tr.region ?_
    refine Tr.val (wn rfl) rfl (fun _ _ h1 h2 => run_move (h1.ev rfl)) ?_
    refine Tr.val (wn rfl) rfl (fun _ _ h1 h2 => run_fieldAddr fo_96_2 (h1.ev rfl)) ?_
    refine Tr.val (wn rfl) rfl (fun _ _ h1 h2 => run_load1 ag_89 (h1.ev rfl) (rdb h2 (vs := [(.int .i64 xF_shape_Set__Many_L1.Y0), (.int .i64 xF_shape_Set__Many_L1.Y1), (.slice Au113_0 (xF_shape_Set__Many_L1.Xs).length cu113_0)]) (k := 3) rfl 2) rfl) ?_
    refine Tr.val (wn rfl) rfl (fun _ _ h1 h2 => run_len un_89 (h1.ev rfl)) ?_
    refine Tr.val (wn rfl) rfl (fun _ _ h1 h2 => run_quo (h1.ev rfl) (h1.ev rfl) (by decide)) ?_
    refine Tr.val (wn rfl) rfl (fun _ _ h1 h2 => run_add (h1.ev rfl) (h1.ev rfl)) ?_
    refine Tr.val (wn rfl) rfl (fun _ _ h1 h2 => run_assign (h1.ev rfl)) ?_
    refine Tr.nil (Tr.normBlock (Tr.normThen ?_))
    refine Tr.region ?_
    refine Tr.val (wn rfl) rfl (fun _ _ h1 h2 => run_add (h1.ev rfl) (h1.ev rfl)) ?_
    refine Tr.val (wn rfl) rfl (fun _ _ h1 h2 => run_move (h1.ev rfl)) ?_
    refine Tr.nil ?_
    exact Tr.backThen leF_shape_Set__Many_L1 (restF_shape_Set__Many_L1, (iF_shape_Set__Many_L1 + 1), (w64 (x112 + (w64 (Int.tdiv (xF_shape_Set__Many_L1.Xs.length : Int) 2))))) ⟨rfl, range_tl hdF_shape_Set__Many_L1, range_lt hdF_shape_Set__Many_L1, H⟩ (.cons rfl (.cons rfl (.cons rfl (.cons (congrArg (fun z => some (Value.int .i64 z)) (range_up hdF_shape_Set__Many_L1 hp0_0.form)) .nil)))) .nil

theorem F_shape_Set__Told_ok (N : Nat) {w : Bs} (p0 : (List TBand)) (Ap0_0 : Option Addr) (cp0_0 : Nat) (hp0_0 : Sl w.R w.W fl_TBand Ap0_0 cp0_0 p0) (r : ((List TRect) × Int)) (H : F_shape_Set__Told N p0 = some r) (hE : HF w w.W (LEn [emp])) : Calls Try.prog 51 [(.slice Ap0_0 (p0).length cp0_0)].toArray w.W fun e W' => ∃ u : (Option Addr × Nat), e = .returned (.tuple #[(.slice u.1 (r.1).length u.2), (.int .i64 r.2)]) ∧ (SlF u.1 (r.1).length u.2) ∧ HF w W' (LEn [ow u.1 u.2 29 fl_TRect r.1]) := by
  unfold F_shape_Set__Told at H
  have leB := Bs.Le.refl w
  refine Tr.enter (n := 9) Try.func51 rfl rfl rfl hE ?_
  refine Tr.seq ?_
  refine Tr.region ?_
  refine Tr.val (wn rfl) rfl (fun _ _ h1 h2 => run_assign (h1.ev rfl)) ?_
  refine Tr.nilOwn 1 29 fl_TRect ?_
  show Tr _ _ (uf _ 2 (.slice none (([] : List TRect)).length 0)) _ _
  refine Tr.val (wn rfl) rfl (fun _ _ h1 h2 => run_assign (h1.ev rfl)) ?_
  refine Tr.nil (Tr.normThen ?_)
  refine Tr.seq ?_
  refine Tr.seq ?_
  refine Tr.region ?_
  refine Tr.val (wn rfl) rfl (fun _ _ h1 h2 => run_move (h1.ev rfl)) ?_
  obtain ⟨y100, hy100, H⟩ := bnd H
  refine Tr.call0 (r := (.int .i64 y100)) (wn rfl) rfl Try.call92 (evl_cons rfl evl_nil) (fun W hW => F_shape_Set__Many_ok p0 Ap0_0 cp0_0 (hp0_0.ext hW.extAll) y100 hy100 (HF.start _)) ?_
  refine Tr.val (wn rfl) rfl (fun _ _ h1 h2 => run_gtr (h1.ev rfl) (h1.ev rfl)) ?_
  refine Tr.nil (Tr.normThen ?_)
  refine Tr.cond rfl H (fun H => ?_) (fun H => ?_)
  · refine Tr.seq ?_
    refine Tr.region ?_
    refine Tr.val (wn rfl) rfl (fun _ _ h1 h2 => run_assign (h1.ev rfl)) ?_
    refine Tr.nilOwn 2 29 fl_TRect ?_
    show Tr _ _ (uf _ 2 (.slice none (([] : List TRect)).length 0)) _ _
    refine Tr.val (wn rfl) rfl (fun _ _ h1 h2 => run_assign (h1.ev rfl)) ?_
    refine Tr.nil (Tr.normThen ?_)
    refine Tr.ret (Tr.retThen ?_)
    obtain rfl := Option.some.inj H
    exact Tr.out (m := [(.slice none (([] : List TRect)).length 0), (.int .i64 2)]) [] (res_tmp rfl (res_tmp rfl res_nil)) (fun W hW => ⟨(none, 0), rfl, slf_nil, HF.lowE leB (hW.pick (ks := [2]) (by decide) (pk_cons rfl pk_nil)) ⟨ow_any _ _ _ _ tr_TRect, trivial⟩⟩)
  · refine Tr.skip (Tr.normThen ?_)
    refine Tr.seq ?_
    refine Tr.region ?_
    refine Tr.val (wn rfl) rfl (fun _ _ h1 h2 => run_move (h1.ev rfl)) ?_
    obtain ⟨y101, hy101, H⟩ := bnd H
    refine Tr.callM [3] [emp] (U := (Option Addr × Nat)) (fun u => (.slice u.1 (y101).length u.2)) (fun u => SlF u.1 (y101).length u.2) (fun u => [ow u.1 u.2 29 fl_TRect y101]) rfl (pk_cons rfl pk_nil) (fun _ => rfl) (wn rfl) rfl Try.call56 (evl_cons rfl evl_nil) (fun W hW hp hE => F_shape_Set__Rects_ok N p0 Ap0_0 cp0_0 (hp0_0.ext (hW.extS hp)) y101 hy101 hE) ?_
    intro u hu
    obtain ⟨Ay101_0, cy101_0⟩ := u
    have gy101_0 := hu
    have hgy101_0 : SlF Ay101_0 (y101).length cy101_0 := gy101_0 --@phi
    show Tr _ _ (uf _ 8 (.slice Ay101_0 (y101).length cy101_0)) (up _ 3 (ow Ay101_0 cy101_0 29 fl_TRect y101)) _
    refine Tr.val (wn rfl) rfl (fun _ _ h1 h2 => run_assign (h1.ev rfl)) ?_
    refine Tr.val (wn rfl) rfl (fun _ _ h1 h2 => run_assign (h1.ev rfl)) ?_
    refine Tr.nil (Tr.normThen ?_)
    refine Tr.ret ?_
    obtain rfl := Option.some.inj H
    exact Tr.out (m := [(.slice Ay101_0 (y101).length cy101_0), (.int .i64 0)]) [] (res_tmp rfl (res_tmp rfl res_nil)) (fun W hW => ⟨(Ay101_0, cy101_0), rfl, hgy101_0, HF.lowE leB (hW.pick (ks := [3]) (by decide) (pk_cons rfl pk_nil)) ⟨ow_any _ _ _ _ tr_TRect, trivial⟩⟩)

theorem F_shape_Region_ok (N : Nat) {w : Bs} (p0 : (List TRect)) (Ap0_0 : Option Addr) (cp0_0 : Nat) (hp0_0 : Sl w.R w.W fl_TRect Ap0_0 cp0_0 p0) (r : ((List TRect) × Int)) (H : F_shape_Region N p0 = some r) (hE : HF w w.W (LEn [emp])) : Calls Try.prog 13 [(.slice Ap0_0 (p0).length cp0_0)].toArray w.W fun e W' => ∃ u : (Option Addr × Nat), e = .returned (.tuple #[(.slice u.1 (r.1).length u.2), (.int .i64 r.2)]) ∧ (SlF u.1 (r.1).length u.2) ∧ HF w W' (LEn [ow u.1 u.2 29 fl_TRect r.1]) := by
  unfold F_shape_Region at H
  have leB := Bs.Le.refl w
  refine Tr.enter (n := 15) Try.func13 rfl rfl rfl hE ?_
  refine Tr.seq ?_
  refine Tr.region ?_
  refine Tr.val (wn rfl) rfl (fun _ _ h1 h2 => run_assign (h1.ev rfl)) ?_
  refine Tr.nilOwn 1 29 fl_TRect ?_
  show Tr _ _ (uf _ 2 (.slice none (([] : List TRect)).length 0)) _ _
  refine Tr.val (wn rfl) rfl (fun _ _ h1 h2 => run_assign (h1.ev rfl)) ?_
  refine Tr.nil (Tr.normThen ?_)
  refine Tr.seq ?_
  refine Tr.seq ?_
  refine Tr.region ?_
  refine Tr.val (wn rfl) rfl (fun _ _ h1 h2 => run_move (h1.ev rfl)) ?_
  obtain ⟨y100, hy100, H⟩ := bnd H
  refine Tr.call0 (r := (.int .i64 y100)) (wn rfl) rfl Try.call15 (evl_cons rfl evl_nil) (fun W hW => F_shape_CheckRects_ok p0 Ap0_0 cp0_0 (hp0_0.ext hW.extAll) y100 hy100 (HF.start _)) ?_
  refine Tr.val (wn rfl) rfl (fun _ _ h1 h2 => run_assign (h1.ev rfl)) ?_
  refine Tr.nil (Tr.normThen ?_)
  refine Tr.seq ?_
  refine Tr.region ?_
  refine Tr.val (wn rfl) rfl (fun _ _ h1 h2 => run_move (h1.ev rfl)) ?_
  refine Tr.val (wn rfl) rfl (fun _ _ h1 h2 => run_neq (h1.ev rfl) (h1.ev rfl)) ?_
  refine Tr.nil (Tr.normThen ?_)
  refine Tr.cond rfl H (fun H => ?_) (fun H => ?_)
  · refine Tr.seq ?_
    refine Tr.region ?_
    refine Tr.val (wn rfl) rfl (fun _ _ h1 h2 => run_move (h1.ev rfl)) ?_
    refine Tr.val (wn rfl) rfl (fun _ _ h1 h2 => run_assign (h1.ev rfl)) ?_
    refine Tr.nilOwn 2 29 fl_TRect ?_
    show Tr _ _ (uf _ 2 (.slice none (([] : List TRect)).length 0)) _ _
    refine Tr.val (wn rfl) rfl (fun _ _ h1 h2 => run_assign (h1.ev rfl)) ?_
    refine Tr.nil (Tr.normThen ?_)
    refine Tr.ret (Tr.retThen ?_)
    obtain rfl := Option.some.inj H
    exact Tr.out (m := [(.slice none (([] : List TRect)).length 0), (.int .i64 y100)]) [] (res_tmp rfl (res_tmp rfl res_nil)) (fun W hW => ⟨(none, 0), rfl, slf_nil, HF.lowE leB (hW.pick (ks := [2]) (by decide) (pk_cons rfl pk_nil)) ⟨ow_any _ _ _ _ tr_TRect, trivial⟩⟩)
  · refine Tr.skip (Tr.normThen ?_)
    refine Tr.seq ?_
    refine Tr.region ?_
    refine Tr.val (wn rfl) rfl (fun _ _ h1 h2 => run_move (h1.ev rfl)) ?_
    obtain ⟨y101, hy101, H⟩ := bnd H
    refine Tr.callG [3] [emp] (U := (Option Addr × Nat)) (fun u => (.slice u.1 (y101).length u.2)) (fun O W u => SlF u.1 (y101).length u.2) (fun u => [ow u.1 u.2 96 fl_TBand y101]) rfl (pk_cons rfl pk_nil) (fun _ => rfl) (wn rfl) rfl Try.call50 (evl_cons rfl evl_nil) (fun W hW hp hE => F_shape_SetOf_ok N p0 Ap0_0 cp0_0 (hp0_0.ext (hW.extS hp)) y101 hy101 hE) ?_
    intro w u le102 hu
    obtain ⟨Ay101_0, cy101_0⟩ := u
    have gy101_0 := hu
    replace hp0_0 := hp0_0.leR le102
    replace leB := leB.trans le102
    have hgy101_0 : SlF Ay101_0 (y101).length cy101_0 := gy101_0 --@phi
    show Tr _ _ (uf _ 11 (.slice Ay101_0 (y101).length cy101_0)) (up _ 3 (ow Ay101_0 cy101_0 96 fl_TBand y101)) _
    obtain ⟨y103, hy103, H⟩ := bnd H
    refine Tr.callM [4] [emp] (U := (Option Addr × Nat)) (fun u => (.tuple #[(.slice u.1 (y103.1).length u.2), (.int .i64 y103.2)])) (fun u => SlF u.1 (y103.1).length u.2) (fun u => [ow u.1 u.2 29 fl_TRect y103.1]) rfl (pk_cons rfl pk_nil) (fun _ => rfl) (wn rfl) rfl Try.call51 (evl_cons rfl evl_nil) (fun W hW hp hE => F_shape_Set__Told_ok N y101 Ay101_0 cy101_0 (hW.slS (k := 3) rfl hp rfl) y103 hy103 hE) ?_
    intro u hu
    obtain ⟨Ay103_0, cy103_0⟩ := u
    have gy103_0 := hu
    have hgy103_0 : SlF Ay103_0 (y103.1).length cy103_0 := gy103_0 --@phi
    show Tr _ _ (uf _ 12 (.tuple #[(.slice Ay103_0 (y103.1).length cy103_0), (.int .i64 y103.2)])) (up _ 4 (ow Ay103_0 cy103_0 29 fl_TRect y103.1)) _
    refine Tr.val (wn rfl) rfl (fun _ _ h1 h2 => run_extract (h1.ev rfl) rfl) ?_
    refine Tr.val (wn rfl) rfl (fun _ _ h1 h2 => run_extract (h1.ev rfl) rfl) ?_
    refine Tr.val (wn rfl) rfl (fun _ _ h1 h2 => run_assign (h1.ev rfl)) ?_
    refine Tr.val (wn rfl) rfl (fun _ _ h1 h2 => run_assign (h1.ev rfl)) ?_
    refine Tr.nil (Tr.normThen ?_)
    refine Tr.ret ?_
    obtain rfl := Option.some.inj H
    exact Tr.out (m := [(.slice Ay103_0 (y103.1).length cy103_0), (.int .i64 y103.2)]) [] (res_tmp rfl (res_tmp rfl res_nil)) (fun W hW => ⟨(Ay103_0, cy103_0), rfl, hgy103_0, HF.lowE leB (hW.pick (ks := [4]) (by decide) (pk_cons rfl pk_nil)) ⟨ow_any _ _ _ _ tr_TRect, trivial⟩⟩)

end Go.Proofs.Ytcebbfodkadggaa
