/- The walks: each function computes its plain function. -/
import Derived.Test.YtnlhigfglfahiaaXWa
namespace Go.Proofs.Ytnlhigfglfahiaa
open Go.RowKit
set_option maxRecDepth 100000
set_option maxHeartbeats 1000000
theorem F_shape_CheckRegion_ok (N : Nat) {w : Bs} (p0 : (List TRect)) (Ap0_0 : Option Addr) (cp0_0 : Nat) (hp0_0 : Sl w.R w.W fl_TRect Ap0_0 cp0_0 p0) (r : Int) (H : F_shape_CheckRegion N p0 = some r) (hE : HF w w.W E0) : Calls Try.prog 18 [(.slice Ap0_0 (p0).length cp0_0)].toArray w.W fun e W' => e = .returned (.int .i64 r) ∧ HF w W' E0 := by
  unfold F_shape_CheckRegion at H
  have leB := Bs.Le.refl w
  refine Tr.enter (n := 52) Try.func18 rfl rfl rfl hE ?_
  refine Tr.seq ?_
  refine Tr.region ?_
  refine Tr.val (wn rfl) rfl (fun _ _ h1 h2 => run_assign (h1.ev rfl)) ?_
  refine Tr.nil (Tr.normThen ?_)
  refine Tr.seq ?_
  refine Tr.seq ?_
  refine Tr.region ?_
  refine Tr.val (wn rfl) rfl (fun _ _ h1 h2 => run_move (h1.ev rfl)) ?_
  obtain ⟨y100, hy100, H⟩ := bnd H
  refine Tr.call0 (r := (.int .i64 y100)) (wn rfl) rfl Try.call39 (evl_cons rfl evl_nil) (fun W hW => F_shape_CheckRects_ok p0 Ap0_0 cp0_0 (hp0_0.ext hW.extAll) y100 hy100 (HF.start _)) ?_
  refine Tr.val (wn rfl) rfl (fun _ _ h1 h2 => run_assign (h1.ev rfl)) ?_
  refine Tr.nil (Tr.normThen ?_)
  refine Tr.seq ?_
  refine Tr.region ?_
  refine Tr.val (wn rfl) rfl (fun _ _ h1 h2 => run_move (h1.ev rfl)) ?_
  refine Tr.val (wn rfl) rfl (fun _ _ h1 h2 => run_neq (h1.ev rfl) (h1.ev rfl)) ?_
  refine Tr.nil (Tr.normThen ?_)
  refine Tr.cond rfl H (fun H => ?_) (fun H => ?_)
  · refine Tr.seq ?_
    refine Tr.region ?_
    refine Tr.val (wn rfl) rfl (fun _ _ h1 h2 => run_move (h1.ev rfl)) ?_
    refine Tr.val (wn rfl) rfl (fun _ _ h1 h2 => run_assign (h1.ev rfl)) ?_
    refine Tr.nil (Tr.normThen ?_)
    refine Tr.ret (Tr.retThen ?_)
    obtain rfl := Option.some.inj H
    exact Tr.out (m := [(.int .i64 y100)]) [] (res_tmp rfl res_nil) (fun W hW => ⟨rfl, hW.low leB⟩)
  · refine Tr.skip (Tr.normThen ?_)
    refine Tr.seq ?_
    refine Tr.seq ?_
    refine Tr.region ?_
    refine Tr.val (wn rfl) rfl (fun _ _ h1 h2 => run_assign (h1.ev rfl)) ?_
    refine Tr.nil (Tr.normThen ?_)
    refine Tr.block ?_
    refine Tr.loop (σ := Int) (fun m w s => F_shape_CheckRegion_L1 N p0 m s = some r) (fun s => [(0, (.slice Ap0_0 (p0).length cp0_0)), (4, (.int .i64 s))]) (fun s => []) N 1 H (.cons rfl (.cons rfl .nil)) .nil (fun _ _ h => noSome (h)) ?_
    intro w leF_shape_CheckRegion_L1 mF_shape_CheckRegion_L1 x116 hs
    have H := hs
    replace H : F_shape_CheckRegion_L1 N p0 (mF_shape_CheckRegion_L1 + 1) x116 = some r := H
    replace hp0_0 := hp0_0.leR leF_shape_CheckRegion_L1
    replace leB := leB.trans leF_shape_CheckRegion_L1
    rw [F_shape_CheckRegion_L1.eq_2] at H
    show Tr _ _ (LF [(0, (.slice Ap0_0 (p0).length cp0_0)), (4, (.int .i64 x116))]) (LE []) _
    refine Tr.seq ?_
    refine Tr.seq ?_
    refine Tr.region ?_
    refine Tr.val (wn rfl) rfl (fun _ _ h1 h2 => run_move (h1.ev rfl)) ?_
    refine Tr.val (wn rfl) rfl (fun _ _ h1 h2 => run_move (h1.ev rfl)) ?_
    refine Tr.val (wn rfl) rfl (fun _ _ h1 h2 => run_len un_22 (h1.ev rfl)) ?_
    refine Tr.val (wn rfl) rfl (fun _ _ h1 h2 => run_lss (h1.ev rfl) (h1.ev rfl)) ?_
    refine Tr.nil (Tr.normThen ?_)
    refine Tr.cond rfl H (fun H => ?_) (fun H => ?_)
    · refine Tr.skip (Tr.normThen ?_)
      refine Tr.seq ?_
      refine Tr.block ?_
      refine Tr.seq ?_
      refine Tr.drawC 12 [] [11] (by kernel_rfl) (by kernel_rfl) fun sz117 hlosz117 hEsz117 => ?_
      refine Dr.quiet 0 [(18, (.slice Ap0_0 (p0).length cp0_0))] (by kernel_rfl) rfl rfl (by kernel_rfl) ?_ rfl rfl ?_
      · refine Tq.val (wn rfl) rfl (fun _ _ h1 h2 => run_move (h1.ev rfl)) ?_
        exact Tq.fin (.cons rfl .nil)
      refine Dr.quiet 1 [(19, (.int .i64 x116))] (by kernel_rfl) rfl rfl (by kernel_rfl) ?_ rfl rfl ?_
      · refine Tq.val (wn rfl) rfl (fun _ _ h1 h2 => run_move (h1.ev rfl)) ?_
        exact Tq.fin (.cons rfl .nil)
      refine Dr.quiet 2 [(20, (.int .i64 (w64 (x116 - 1))))] (by kernel_rfl) rfl rfl (by kernel_rfl) ?_ rfl rfl ?_
      · refine Tq.val (wn rfl) rfl (fun _ _ h1 h2 => run_sub (h1.ev rfl) (h1.ev rfl)) ?_
        exact Tq.fin (.cons rfl .nil)
      obtain ⟨x118, hx118, H⟩ := bnd H
      obtain ⟨hx1180, hx1181, hx1182⟩ := idx_some hx118
      refine Dr.quiet 3 [(21, (.pointer (some ⟨adB Ap0_0, adO Ap0_0 + ((w64 (x116 - 1))).toNat * 4, none⟩)))] (by kernel_rfl) rfl rfl (by kernel_rfl) ?_ rfl rfl ?_
      · refine Tq.val (wn rfl) rfl (fun _ _ h1 h2 => run_indexAddr el_22 (h1.ev rfl) hp0_0.form (h1.ev rfl) hx1180 hx1181) ?_
        exact Tq.fin (.cons rfl .nil)
      refine Dr.quiet 4 [(22, (.agg #[(.int .i64 x118.X0), (.int .i64 x118.Y0), (.int .i64 x118.X1), (.int .i64 x118.Y1)]))] (by kernel_rfl) rfl rfl (by kernel_rfl) ?_ rfl rfl ?_
      · refine Tq.val (wn rfl) rfl (fun _ _ h1 h2 => run_loadN (cs := [(.int .i64 x118.X0), (.int .i64 x118.Y0), (.int .i64 x118.X1), (.int .i64 x118.Y1)]) ag_29 sz_29 (h1.ev rfl) (CellsAt.take (rdF ef_TRect hp0_0 hx1182 h2) 4) rfl) ?_
        exact Tq.fin (.cons rfl .nil)
      refine Dr.quietP 5 (by kernel_rfl) rfl (wn rfl) rfl (by kernel_rfl) (fun _ _ h1 => run_move (h1.ev rfl)) rfl ?_
      refine Dr.quietP 6 (by kernel_rfl) rfl (wn rfl) rfl (by kernel_rfl) (fun _ _ h1 => run_move (h1.ev rfl)) rfl ?_
      obtain ⟨x119, hx119, H⟩ := bnd H
      obtain ⟨hx1190, hx1191, hx1192⟩ := idx_some hx119
      refine Dr.quietP 7 (by kernel_rfl) rfl (wn rfl) rfl (by kernel_rfl) (fun _ _ h1 => run_indexAddr el_22 (h1.ev rfl) hp0_0.form (h1.ev rfl) hx1190 hx1191) rfl ?_
      refine Dr.quietZ 8 [(26, (.agg #[(.int .i64 x119.X0), (.int .i64 x119.Y0), (.int .i64 x119.X1), (.int .i64 x119.Y1)]))] [] true (by kernel_rfl) rfl rfl (by kernel_rfl) (fun W W' h2 hsW hk => HF.keepZ (le := []) (ks := []) (s0 := sz117) true h2 hk (fun _ => hlosz117) .nil (fun b hb => hb.elim (fun ⟨_, hp, _⟩ => nomatch hp) (fun hb => .inr ⟨rfl, hb.2, (fun _ h => nomatch h)⟩)) (fun _ h => nomatch h) rfl) ?_ rfl rfl ?_
      · refine Tq.val (wn rfl) rfl (fun _ _ h1 h2 => run_loadN (cs := [(.int .i64 x119.X0), (.int .i64 x119.Y0), (.int .i64 x119.X1), (.int .i64 x119.Y1)]) ag_29 sz_29 (h1.ev rfl) (CellsAt.take (rdF ef_TRect hp0_0 hx1192 h2) 4) rfl) ?_
        exact Tq.fin (.cons rfl .nil)
      refine Dr.cut (U := Nat × Nat) [9, 10] 1 (fun u => sz117 ≤ u.1 ∧ sz117 ≤ u.2) (fun u => [(0, (.slice Ap0_0 (p0).length cp0_0)), (4, (.int .i64 x116)), (5, (.pointer (some ⟨u.1, 0, none⟩))), (6, (.pointer (some ⟨u.2, 0, none⟩))), (12, (.int .i64 x116)), (13, (.slice Ap0_0 (p0).length cp0_0)), (14, (.int .i64 (p0.length : Int))), (15, (.bool (decide (x116 < (p0.length : Int))))), (18, (.slice Ap0_0 (p0).length cp0_0)), (19, (.int .i64 x116)), (20, (.int .i64 (w64 (x116 - 1)))), (21, (.pointer (some ⟨adB Ap0_0, adO Ap0_0 + ((w64 (x116 - 1))).toNat * 4, none⟩))), (22, (.agg #[(.int .i64 x118.X0), (.int .i64 x118.Y0), (.int .i64 x118.X1), (.int .i64 x118.Y1)])), (23, (.slice Ap0_0 (p0).length cp0_0)), (24, (.int .i64 x116)), (25, (.pointer (some ⟨adB Ap0_0, adO Ap0_0 + (x116).toNat * 4, none⟩))), (26, (.agg #[(.int .i64 x119.X0), (.int .i64 x119.Y0), (.int .i64 x119.X1), (.int .i64 x119.Y1)]))]) (fun u => [(5, bx u.1 #[(.int .i64 0), (.int .i64 0), (.int .i64 0), (.int .i64 0)] 29), (6, bx u.2 #[(.int .i64 0), (.int .i64 0), (.int .i64 0), (.int .i64 0)] 29)]) ?_ ?_
      · intro hC
        refine Dr.pair 9 10 (by kernel_rfl) ?_ ?_
        · refine St.alloc 9 5 rfl (wn rfl) rfl ze_29 fun b120 hb120 => ?_
          refine Dr.one 10 (by kernel_rfl) ?_
          refine St.alloc 10 6 rfl (wn rfl) rfl ze_29 fun b121 hb121 => ?_
          exact (hC ⟨b120, b121⟩ ⟨hb120, hb121⟩).use (by kernel_rfl) (.cons rfl (.cons rfl (.cons rfl (.cons rfl (.cons rfl (.cons rfl (.cons rfl (.cons rfl (.cons rfl (.cons rfl (.cons rfl (.cons rfl (.cons rfl (.cons rfl (.cons rfl (.cons rfl (.cons rfl .nil))))))))))))))))) (.cons rfl (.cons rfl .nil))
        · refine St.alloc 10 6 rfl (wn rfl) rfl ze_29 fun b121 hb121 => ?_
          refine Dr.one 9 (by kernel_rfl) ?_
          refine St.alloc 9 5 rfl (wn rfl) rfl ze_29 fun b120 hb120 => ?_
          exact (hC ⟨b120, b121⟩ ⟨hb120, hb121⟩).use (by kernel_rfl) (.cons rfl (.cons rfl (.cons rfl (.cons rfl (.cons rfl (.cons rfl (.cons rfl (.cons rfl (.cons rfl (.cons rfl (.cons rfl (.cons rfl (.cons rfl (.cons rfl (.cons rfl (.cons rfl (.cons rfl .nil))))))))))))))))) (.cons rfl (.cons rfl .nil))
      intro u hu
      obtain ⟨b120, b121⟩ := u
      obtain ⟨hb120, hb121⟩ := hu
      replace hb120 : sz117 ≤ b120 := hb120
      replace hb121 : sz117 ≤ b121 := hb121
      show Dr _ _ _ _ _ _ _ _ _ (LF [(0, (.slice Ap0_0 (p0).length cp0_0)), (4, (.int .i64 x116)), (5, (.pointer (some ⟨b120, 0, none⟩))), (6, (.pointer (some ⟨b121, 0, none⟩))), (12, (.int .i64 x116)), (13, (.slice Ap0_0 (p0).length cp0_0)), (14, (.int .i64 (p0.length : Int))), (15, (.bool (decide (x116 < (p0.length : Int))))), (18, (.slice Ap0_0 (p0).length cp0_0)), (19, (.int .i64 x116)), (20, (.int .i64 (w64 (x116 - 1)))), (21, (.pointer (some ⟨adB Ap0_0, adO Ap0_0 + ((w64 (x116 - 1))).toNat * 4, none⟩))), (22, (.agg #[(.int .i64 x118.X0), (.int .i64 x118.Y0), (.int .i64 x118.X1), (.int .i64 x118.Y1)])), (23, (.slice Ap0_0 (p0).length cp0_0)), (24, (.int .i64 x116)), (25, (.pointer (some ⟨adB Ap0_0, adO Ap0_0 + (x116).toNat * 4, none⟩))), (26, (.agg #[(.int .i64 x119.X0), (.int .i64 x119.Y0), (.int .i64 x119.X1), (.int .i64 x119.Y1)]))]) (LE [(5, bx b120 #[(.int .i64 0), (.int .i64 0), (.int .i64 0), (.int .i64 0)] 29), (6, bx b121 #[(.int .i64 0), (.int .i64 0), (.int .i64 0), (.int .i64 0)] 29)])
      refine Dr.one 11 (by kernel_rfl) ?_
      refine St.store 11 5 (cs := [(.int .i64 x118.X0), (.int .i64 x118.Y0), (.int .i64 x118.X1), (.int .i64 x118.Y1)]) [(.int .i64 x118.X0), (.int .i64 x118.Y0), (.int .i64 x118.X1), (.int .i64 x118.Y1)] rfl (wn rfl) (.inr ⟨by simp, hb120⟩) rfl rfl rfl rfl sz_29 rfl rfl rfl ?_
      refine Dr.tail (by kernel_rfl) ?_
      refine Tr.store 6 (cs := [(.int .i64 x119.X0), (.int .i64 x119.Y0), (.int .i64 x119.X1), (.int .i64 x119.Y1)]) [(.int .i64 x119.X0), (.int .i64 x119.Y0), (.int .i64 x119.X1), (.int .i64 x119.Y1)] (wn rfl) rfl rfl rfl rfl sz_29 rfl rfl rfl ?_
      refine Tr.nil (Tr.normThen ?_)
      refine Tr.seq ?_
      refine Tr.region ?_
      refine Tr.val (wn rfl) rfl (fun _ _ h1 h2 => run_fieldAddr fo_29_1 (h1.ev rfl)) ?_
      refine Tr.val (wn rfl) rfl (fun _ _ h1 h2 => run_load1 ag_3 (h1.ev rfl) (rdb h2 (vs := [(.int .i64 x119.X0), (.int .i64 x119.Y0), (.int .i64 x119.X1), (.int .i64 x119.Y1)]) (k := 6) rfl 1) rfl) ?_
      refine Tr.val (wn rfl) rfl (fun _ _ h1 h2 => run_fieldAddr fo_29_1 (h1.ev rfl)) ?_
      refine Tr.val (wn rfl) rfl (fun _ _ h1 h2 => run_load1 ag_3 (h1.ev rfl) (rdb h2 (vs := [(.int .i64 x118.X0), (.int .i64 x118.Y0), (.int .i64 x118.X1), (.int .i64 x118.Y1)]) (k := 5) rfl 1) rfl) ?_
      refine Tr.val (wn rfl) rfl (fun _ _ h1 h2 => run_lss (h1.ev rfl) (h1.ev rfl)) ?_
      refine Tr.val (wn rfl) rfl (fun _ _ h1 h2 => run_move (h1.ev rfl)) ?_
      refine Tr.mid0 13 [(0, (.slice Ap0_0 (p0).length cp0_0)), (4, (.int .i64 x116)), (45, (.bool ((decide (x119.Y0 < x118.Y0)) || ((x119.Y0 == x118.Y0) && (decide (x119.X0 ≤ x118.X0))))))] [(5, bx b120 #[(.int .i64 x118.X0), (.int .i64 x118.Y0), (.int .i64 x118.X1), (.int .i64 x118.Y1)] 29), (6, bx b121 #[(.int .i64 x119.X0), (.int .i64 x119.Y0), (.int .i64 x119.X1), (.int .i64 x119.Y1)] 29)] ?_ ?_
      · cases hg121 : (decide (x119.Y0 < x118.Y0))
        · refine Tr.val (wg rfl rfl rfl) rfl (fun _ _ h1 h2 => run_fieldAddr fo_29_1 (h1.ev rfl)) ?_
          refine Tr.val (wg rfl rfl rfl) rfl (fun _ _ h1 h2 => run_load1 ag_3 (h1.ev rfl) (rdb h2 (vs := [(.int .i64 x119.X0), (.int .i64 x119.Y0), (.int .i64 x119.X1), (.int .i64 x119.Y1)]) (k := 6) rfl 1) rfl) ?_
          refine Tr.val (wg rfl rfl rfl) rfl (fun _ _ h1 h2 => run_fieldAddr fo_29_1 (h1.ev rfl)) ?_
          refine Tr.val (wg rfl rfl rfl) rfl (fun _ _ h1 h2 => run_load1 ag_3 (h1.ev rfl) (rdb h2 (vs := [(.int .i64 x118.X0), (.int .i64 x118.Y0), (.int .i64 x118.X1), (.int .i64 x118.Y1)]) (k := 5) rfl 1) rfl) ?_
          refine Tr.val (wg rfl rfl rfl) rfl (fun _ _ h1 h2 => run_eql (h1.ev rfl) (h1.ev rfl)) ?_
          refine Tr.val (wg rfl rfl rfl) rfl (fun _ _ h1 h2 => run_move (h1.ev rfl)) ?_
          refine Tr.mid0 6 [(0, (.slice Ap0_0 (p0).length cp0_0)), (4, (.int .i64 x116)), (32, (.bool false)), (44, (.bool ((x119.Y0 == x118.Y0) && (decide (x119.X0 ≤ x118.X0)))))] [(5, bx b120 #[(.int .i64 x118.X0), (.int .i64 x118.Y0), (.int .i64 x118.X1), (.int .i64 x118.Y1)] 29), (6, bx b121 #[(.int .i64 x119.X0), (.int .i64 x119.Y0), (.int .i64 x119.X1), (.int .i64 x119.Y1)] 29)] ?_ ?_
          · cases hg121 : (x119.Y0 == x118.Y0)
            · refine Tr.pass rfl rfl rfl rfl rfl (by decide) ?_
              refine Tr.pass rfl rfl rfl rfl rfl (by decide) ?_
              refine Tr.pass rfl rfl rfl rfl rfl (by decide) ?_
              refine Tr.pass rfl rfl rfl rfl rfl (by decide) ?_
              refine Tr.pass rfl rfl rfl rfl rfl (by decide) ?_
              refine Tr.val (wg rfl rfl rfl) rfl (fun _ _ h1 h2 => run_pickF (h1.ev rfl) (h1.ev rfl)) ?_
              exact Tr.nil (Tr.fin0 (.cons rfl (.cons rfl (.cons rfl (.cons rfl .nil)))) (.cons rfl (.cons rfl .nil)))
            · refine Tr.val (wg rfl rfl rfl) rfl (fun _ _ h1 h2 => run_fieldAddr fo_29_0 (h1.ev rfl)) ?_
              refine Tr.val (wg rfl rfl rfl) rfl (fun _ _ h1 h2 => run_load1 ag_3 (h1.ev rfl) (rdb h2 (vs := [(.int .i64 x119.X0), (.int .i64 x119.Y0), (.int .i64 x119.X1), (.int .i64 x119.Y1)]) (k := 6) rfl 0) rfl) ?_
              refine Tr.val (wg rfl rfl rfl) rfl (fun _ _ h1 h2 => run_fieldAddr fo_29_0 (h1.ev rfl)) ?_
              refine Tr.val (wg rfl rfl rfl) rfl (fun _ _ h1 h2 => run_load1 ag_3 (h1.ev rfl) (rdb h2 (vs := [(.int .i64 x118.X0), (.int .i64 x118.Y0), (.int .i64 x118.X1), (.int .i64 x118.Y1)]) (k := 5) rfl 0) rfl) ?_
              refine Tr.val (wg rfl rfl rfl) rfl (fun _ _ h1 h2 => run_leq (h1.ev rfl) (h1.ev rfl)) ?_
              refine Tr.val (wg rfl rfl rfl) rfl (fun _ _ h1 h2 => run_pickT (h1.ev rfl) (h1.ev rfl)) ?_
              exact Tr.nil (Tr.fin0 (.cons rfl (.cons rfl (.cons rfl (.cons rfl .nil)))) (.cons rfl (.cons rfl .nil)))
          · show Tr _ _ (LF [(0, (.slice Ap0_0 (p0).length cp0_0)), (4, (.int .i64 x116)), (32, (.bool false)), (44, (.bool ((x119.Y0 == x118.Y0) && (decide (x119.X0 ≤ x118.X0)))))]) (LE [(5, bx b120 #[(.int .i64 x118.X0), (.int .i64 x118.Y0), (.int .i64 x118.X1), (.int .i64 x118.Y1)] 29), (6, bx b121 #[(.int .i64 x119.X0), (.int .i64 x119.Y0), (.int .i64 x119.X1), (.int .i64 x119.Y1)] 29)]) _
            refine Tr.val (wn rfl) rfl (fun _ _ h1 h2 => run_pickF (h1.ev rfl) (h1.ev rfl)) ?_
            exact Tr.nil (Tr.fin0 (.cons rfl (.cons rfl (.cons rfl .nil))) (.cons rfl (.cons rfl .nil)))
        · refine Tr.pass rfl rfl rfl rfl rfl (by decide) ?_
          refine Tr.pass rfl rfl rfl rfl rfl (by decide) ?_
          refine Tr.pass rfl rfl rfl rfl rfl (by decide) ?_
          refine Tr.pass rfl rfl rfl rfl rfl (by decide) ?_
          refine Tr.pass rfl rfl rfl rfl rfl (by decide) ?_
          refine Tr.pass rfl rfl rfl rfl rfl (by decide) ?_
          refine Tr.passU rfl rfl rfl rfl (by decide) ?_
          refine Tr.passU rfl rfl rfl rfl (by decide) ?_
          refine Tr.passU rfl rfl rfl rfl (by decide) ?_
          refine Tr.passU rfl rfl rfl rfl (by decide) ?_
          refine Tr.passU rfl rfl rfl rfl (by decide) ?_
          refine Tr.pass rfl rfl rfl rfl rfl (by decide) ?_
          refine Tr.val (wn rfl) rfl (fun _ _ h1 h2 => run_pickT (h1.ev rfl) (h1.ev rfl)) ?_
          exact Tr.nil (Tr.fin0 (.cons rfl (.cons rfl (.cons rfl .nil))) (.cons rfl (.cons rfl .nil)))
      · show Tr _ _ (LF [(0, (.slice Ap0_0 (p0).length cp0_0)), (4, (.int .i64 x116)), (45, (.bool ((decide (x119.Y0 < x118.Y0)) || ((x119.Y0 == x118.Y0) && (decide (x119.X0 ≤ x118.X0))))))]) (LE [(5, bx b120 #[(.int .i64 x118.X0), (.int .i64 x118.Y0), (.int .i64 x118.X1), (.int .i64 x118.Y1)] 29), (6, bx b121 #[(.int .i64 x119.X0), (.int .i64 x119.Y0), (.int .i64 x119.X1), (.int .i64 x119.Y1)] 29)]) _
        refine Tr.nil (Tr.normThen ?_)
        refine Tr.cond rfl H (fun H => ?_) (fun H => ?_)
        · refine Tr.seq ?_
          refine Tr.region ?_
          refine Tr.val (wn rfl) rfl (fun _ _ h1 h2 => run_assign (h1.ev rfl)) ?_
          refine Tr.nil (Tr.normThen ?_)
          refine Tr.ret (Tr.retBlock (Tr.retThen (Tr.retThen (Tr.retBlock (Tr.retThen ?_)))))
          obtain rfl := Option.some.inj H
          exact Tr.out (m := [(.int .i64 8)]) [] (res_tmp rfl res_nil) (fun W hW => ⟨rfl, hW.low leB⟩)
        · refine Tr.skip (Tr.normBlock (Tr.normThen ?_))
          refine Tr.region ?_
          refine Tr.val (wn rfl) rfl (fun _ _ h1 h2 => run_move (h1.ev rfl)) ?_
          refine Tr.val (wn rfl) rfl (fun _ _ h1 h2 => run_add (h1.ev rfl) (h1.ev rfl)) ?_
          refine Tr.val (wn rfl) rfl (fun _ _ h1 h2 => run_assign (h1.ev rfl)) ?_
          refine Tr.nil ?_
          exact Tr.backThen leF_shape_CheckRegion_L1 (w64 (x116 + 1)) H (.cons rfl (.cons rfl .nil)) .nil
    · refine Tr.exit (Tr.exitThen (Tr.exitThen (Tr.exitBlock (Tr.normThen ?_))))
      refine Tr.seq ?_
      refine Tr.seq ?_
      refine Tr.region ?_
      refine Tr.val (wn rfl) rfl (fun _ _ h1 h2 => run_move (h1.ev rfl)) ?_
      obtain ⟨y123, hy123, H⟩ := bnd H
      refine Tr.callG [7] [emp] (U := (Option Addr × Nat)) (fun u => (.slice u.1 (y123).length u.2)) (fun O W u => SlF u.1 (y123).length u.2) (fun u => [ow u.1 u.2 104 fl_TBand y123]) rfl (pk_cons rfl pk_nil) (fun _ => rfl) (wn rfl) rfl Try.call40 (evl_cons rfl evl_nil) (fun W hW hp hE => F_shape_SetOf_ok N p0 Ap0_0 cp0_0 (hp0_0.ext (hW.extS hp)) y123 hy123 hE) ?_
      intro w u le124 hu
      obtain ⟨Ay123_0, cy123_0⟩ := u
      have gy123_0 := hu
      replace hp0_0 := hp0_0.leR le124
      replace leB := leB.trans le124
      replace leF_shape_CheckRegion_L1 := leF_shape_CheckRegion_L1.trans le124
      have hgy123_0 : SlF Ay123_0 (y123).length cy123_0 := gy123_0 --@phi
      show Tr _ _ (uf _ 47 (.slice Ay123_0 (y123).length cy123_0)) (up _ 7 (ow Ay123_0 cy123_0 104 fl_TBand y123)) _
      obtain ⟨y125, hy125, H⟩ := bnd H
      refine Tr.callM [8] [emp] (U := (Option Addr × Nat)) (fun u => (.slice u.1 (y125).length u.2)) (fun u => SlF u.1 (y125).length u.2) (fun u => [ow u.1 u.2 29 fl_TRect y125]) rfl (pk_cons rfl pk_nil) (fun _ => rfl) (wn rfl) rfl Try.call41 (evl_cons rfl evl_nil) (fun W hW hp hE => F_shape_Set__Rects_ok N y123 Ay123_0 cy123_0 (hW.slS (k := 7) rfl hp rfl) y125 hy125 hE) ?_
      intro u hu
      obtain ⟨Ay125_0, cy125_0⟩ := u
      have gy125_0 := hu
      have hgy125_0 : SlF Ay125_0 (y125).length cy125_0 := gy125_0 --@phi
      show Tr _ _ (uf _ 48 (.slice Ay125_0 (y125).length cy125_0)) (up _ 8 (ow Ay125_0 cy125_0 29 fl_TRect y125)) _
      refine Tr.val (wn rfl) rfl (fun _ _ h1 h2 => run_move (h1.ev rfl)) ?_
      obtain ⟨y127, hy127, H⟩ := bnd H
      refine Tr.call0 (r := (.bool y127)) (wn rfl) rfl Try.call13 (evl_cons rfl (evl_cons rfl evl_nil)) (fun W hW => F_slices_Equal_Rect_ok y125 Ay125_0 cy125_0 (hW.slCall (k := 8) rfl) p0 Ap0_0 cp0_0 (hp0_0.ext hW.extAll) y127 hy127 (HF.start _)) ?_
      refine Tr.val (wn rfl) rfl (fun _ _ h1 h2 => run_not (h1.ev rfl)) ?_
      refine Tr.nil (Tr.normThen ?_)
      refine Tr.cond rfl H (fun H => ?_) (fun H => ?_)
      · refine Tr.seq ?_
        refine Tr.region ?_
        refine Tr.val (wn rfl) rfl (fun _ _ h1 h2 => run_assign (h1.ev rfl)) ?_
        refine Tr.nil (Tr.normThen ?_)
        refine Tr.ret (Tr.retThen ?_)
        obtain rfl := Option.some.inj H
        exact Tr.out (m := [(.int .i64 3)]) [] (res_tmp rfl res_nil) (fun W hW => ⟨rfl, hW.low leB⟩)
      · refine Tr.skip (Tr.normThen ?_)
        refine Tr.seq ?_
        refine Tr.region ?_
        refine Tr.val (wn rfl) rfl (fun _ _ h1 h2 => run_assign (h1.ev rfl)) ?_
        refine Tr.nil (Tr.normThen ?_)
        refine Tr.ret ?_
        obtain rfl := Option.some.inj H
        exact Tr.out (m := [(.int .i64 0)]) [] (res_tmp rfl res_nil) (fun W hW => ⟨rfl, hW.low leB⟩)

theorem F_shape_Set__at_ok {w : Bs} (p0 : (List TBand)) (Ap0_0 : Option Addr) (cp0_0 : Nat) (hp0_0 : Sl w.O w.W fl_TBand Ap0_0 cp0_0 p0) (p1 : Int) (p2 : Int) (r : ((List Int) × Int)) (H : F_shape_Set__at p0 p1 p2 = some r) (hE : HF w w.W (LEn [])) : Calls Try.prog 115 [(.slice Ap0_0 (p0).length cp0_0), (.int .i64 p1), (.int .i64 p2)].toArray w.W fun e W' => ∃ (w' : Bs) (u : (Option Addr × Nat)), w.Le w' ∧ e = .returned (.tuple #[(.slice u.1 (r.1).length u.2), (.int .i64 r.2)]) ∧ (Sl w'.O w'.W fl_i64 u.1 u.2 r.1) ∧ HF w' W' (LEn []) := by
  unfold F_shape_Set__at at H
  have leB := Bs.Le.refl w
  refine Tr.enter (n := 36) Try.func115 rfl rfl rfl hE ?_
  refine Tr.seq ?_
  refine Tr.region ?_
  refine Tr.val (wn rfl) rfl (fun _ _ h1 h2 => run_assign (h1.ev rfl)) ?_
  refine Tr.nilOwn 1 3 fl_i64 ?_
  show Tr _ _ (uf _ 6 (.slice none (([] : List Int)).length 0)) _ _
  refine Tr.val (wn rfl) rfl (fun _ _ h1 h2 => run_assign (h1.ev rfl)) ?_
  refine Tr.nil (Tr.normThen ?_)
  refine Tr.seq ?_
  refine Tr.block ?_
  refine Tr.seq ?_
  refine Tr.region ?_
  refine Tr.val (wn rfl) rfl (fun _ _ h1 h2 => run_move (h1.ev rfl)) ?_
  refine Tr.val (wn rfl) rfl (fun _ _ h1 h2 => run_len un_65 (h1.ev rfl)) ?_
  refine Tr.val (wn rfl) rfl (fun _ _ h1 h2 => run_eql (h1.ev rfl) (h1.ev rfl)) ?_
  refine Tr.val (wn rfl) rfl (fun _ _ h1 h2 => run_assign (h1.ev rfl)) ?_
  refine Tr.nil (Tr.normThen ?_)
  refine Tr.cond rfl H (fun H => ?_) (fun H => ?_)
  · refine Tr.seq ?_
    refine Tr.region ?_
    refine Tr.val (wn rfl) rfl (fun _ _ h1 h2 => run_move (h1.ev rfl)) ?_
    refine Tr.val (wn rfl) rfl (fun _ _ h1 h2 => run_assign (h1.ev rfl)) ?_
    refine Tr.nilOwn 2 3 fl_i64 ?_
    show Tr _ _ (uf _ 6 (.slice none (([] : List Int)).length 0)) _ _
    refine Tr.val (wn rfl) rfl (fun _ _ h1 h2 => run_assign (h1.ev rfl)) ?_
    refine Tr.nil (Tr.normThen ?_)
    refine Tr.ret (Tr.retBlock (Tr.retThen ?_))
    obtain rfl := Option.some.inj H
    refine Tr.freeze 2 rfl fun w le101 hz100 => ?_
    replace hp0_0 := hp0_0.le le101
    replace leB := leB.trans le101
    exact Tr.out (m := [(.slice none (([] : List Int)).length 0), (.int .i64 p2)]) [] (res_tmp rfl (res_tmp rfl res_nil)) (fun W hW => ⟨w, (none, 0), leB, rfl, hz100, hW.pick (ks := []) (by decide) pk_nil⟩)
  · refine Tr.seq ?_
    refine Tr.region ?_
    refine Tr.val (wn rfl) rfl (fun _ _ h1 h2 => run_move (h1.ev rfl)) ?_
    refine Tr.val (wn rfl) rfl (fun _ _ h1 h2 => run_move (h1.ev rfl)) ?_
    obtain ⟨x102, hx102, H⟩ := bnd H
    obtain ⟨hx1020, hx1021, hx1022⟩ := idx_some hx102
    obtain ⟨u103, hRu103, hoku103, hcu103⟩ := (hp0_0).el hx1022
    obtain ⟨Au103_0, cu103_0⟩ := u103
    have hoku103_0 := hoku103
    replace hoku103_0 : Sl w.O w.W fl_i64 Au103_0 cu103_0 x102.Xs := hoku103_0
    replace hRu103 : w.R (adB Ap0_0) := Or.inl hRu103
    refine Tr.val (wn rfl) rfl (fun _ _ h1 h2 => run_indexAddr el_65 (h1.ev rfl) hp0_0.form (h1.ev rfl) hx1020 hx1021) ?_
    refine Tr.val (wn rfl) rfl (fun _ _ h1 h2 => run_fieldAddr fo_104_0 (h1.ev rfl)) ?_
    refine Tr.val (wn rfl) rfl (fun _ _ h1 h2 => run_load1 ag_3 (h1.ev rfl) (CellsAt.drop (rdR hRu103 hcu103 h2) 0) rfl) ?_
    refine Tr.val (wn rfl) rfl (fun _ _ h1 h2 => run_lss (h1.ev rfl) (h1.ev rfl)) ?_
    refine Tr.val (wn rfl) rfl (fun _ _ h1 h2 => run_assign (h1.ev rfl)) ?_
    refine Tr.nil (Tr.normThen ?_)
    refine Tr.cond rfl H (fun H => ?_) (fun H => ?_)
    · refine Tr.seq ?_
      refine Tr.draw (by kernel_rfl) (by kernel_rfl) ?_
      refine Tq.val (wn rfl) rfl (fun _ _ h1 h2 => run_move (h1.ev rfl)) ?_
      refine Tq.val (wn rfl) rfl (fun _ _ h1 h2 => run_move (h1.ev rfl)) ?_
      obtain ⟨x104, hx104, H⟩ := bnd H
      obtain ⟨hx1040, hx1041, hx1042⟩ := idx_some hx104
      obtain ⟨u105, hRu105, hoku105, hcu105⟩ := (hp0_0).el hx1042
      obtain ⟨Au105_0, cu105_0⟩ := u105
      have hoku105_0 := hoku105
      replace hoku105_0 : Sl w.O w.W fl_i64 Au105_0 cu105_0 x104.Xs := hoku105_0
      replace hRu105 : w.R (adB Ap0_0) := Or.inl hRu105
      refine Tq.val (wn rfl) rfl (fun _ _ h1 h2 => run_indexAddr el_65 (h1.ev rfl) hp0_0.form (h1.ev rfl) hx1040 hx1041) ?_
      refine Tq.val (wn rfl) rfl (fun _ _ h1 h2 => run_fieldAddr fo_104_0 (h1.ev rfl)) ?_
      refine Tq.val (wn rfl) rfl (fun _ _ h1 h2 => run_load1 ag_3 (h1.ev rfl) (CellsAt.drop (rdR hRu105 hcu105 h2) 0) rfl) ?_
      refine Tq.val (wn rfl) rfl (fun _ _ h1 h2 => run_min (h1.ev rfl) (h1.ev rfl) _) ?_
      refine Tq.val (wn rfl) rfl (fun _ _ h1 h2 => run_assign (h1.ev rfl)) ?_
      refine Tq.val (wn rfl) rfl (fun _ _ h1 h2 => run_assign (h1.ev rfl)) ?_
      refine Tq.nil (Tr.normThen ?_)
      refine Tr.ret (Tr.retBlock (Tr.retThen ?_))
      obtain rfl := Option.some.inj H
      exact Tr.out (m := [(.slice none 0 0), (.int .i64 (min p2 x104.Y0))]) [] (res_tmp rfl (res_tmp rfl res_nil)) (fun W hW => ⟨w, (none, 0), leB, rfl, (Sl.nil _ _ _), hW.pick (ks := []) (by decide) pk_nil⟩)
    · refine Tr.skip (Tr.normBlock (Tr.normThen ?_))
      refine Tr.seq ?_
      refine Tr.draw (by kernel_rfl) (by kernel_rfl) ?_
      refine Tq.val (wn rfl) rfl (fun _ _ h1 h2 => run_move (h1.ev rfl)) ?_
      obtain ⟨x106, hx106, H⟩ := bnd H
      obtain ⟨hx1060, hx1061, hx1062⟩ := idx_some hx106
      obtain ⟨u107, hRu107, hoku107, hcu107⟩ := (hp0_0).el hx1062
      obtain ⟨Au107_0, cu107_0⟩ := u107
      have hoku107_0 := hoku107
      replace hoku107_0 : Sl w.O w.W fl_i64 Au107_0 cu107_0 x106.Xs := hoku107_0
      replace hRu107 : w.R (adB Ap0_0) := Or.inl hRu107
      refine Tq.val (wn rfl) rfl (fun _ _ h1 h2 => run_indexAddr el_65 (h1.ev rfl) hp0_0.form (h1.ev rfl) hx1060 hx1061) ?_
      refine Tq.val (wn rfl) rfl (fun _ _ h1 h2 => run_fieldAddr fo_104_2 (h1.ev rfl)) ?_
      refine Tq.val (wn rfl) rfl (fun _ _ h1 h2 => run_load1 ag_97 (h1.ev rfl) (CellsAt.drop (rdR hRu107 hcu107 h2) 2) rfl) ?_
      refine Tq.val (wn rfl) rfl (fun _ _ h1 h2 => run_move (h1.ev rfl)) ?_
      refine Tq.val (wn rfl) rfl (fun _ _ h1 h2 => run_move (h1.ev rfl)) ?_
      obtain ⟨x108, hx108, H⟩ := bnd H
      obtain ⟨hx1080, hx1081, hx1082⟩ := idx_some hx108
      obtain ⟨u109, hRu109, hoku109, hcu109⟩ := (hp0_0).el hx1082
      obtain ⟨Au109_0, cu109_0⟩ := u109
      have hoku109_0 := hoku109
      replace hoku109_0 : Sl w.O w.W fl_i64 Au109_0 cu109_0 x108.Xs := hoku109_0
      replace hRu109 : w.R (adB Ap0_0) := Or.inl hRu109
      refine Tq.val (wn rfl) rfl (fun _ _ h1 h2 => run_indexAddr el_65 (h1.ev rfl) hp0_0.form (h1.ev rfl) hx1080 hx1081) ?_
      refine Tq.val (wn rfl) rfl (fun _ _ h1 h2 => run_fieldAddr fo_104_1 (h1.ev rfl)) ?_
      refine Tq.val (wn rfl) rfl (fun _ _ h1 h2 => run_load1 ag_3 (h1.ev rfl) (CellsAt.drop (rdR hRu109 hcu109 h2) 1) rfl) ?_
      refine Tq.val (wn rfl) rfl (fun _ _ h1 h2 => run_min (h1.ev rfl) (h1.ev rfl) _) ?_
      refine Tq.val (wn rfl) rfl (fun _ _ h1 h2 => run_assign (h1.ev rfl)) ?_
      refine Tq.val (wn rfl) rfl (fun _ _ h1 h2 => run_assign (h1.ev rfl)) ?_
      refine Tq.nil (Tr.normThen ?_)
      refine Tr.ret ?_
      obtain rfl := Option.some.inj H
      exact Tr.out (m := [(.slice Au107_0 (x106.Xs).length cu107_0), (.int .i64 (min p2 x108.Y1))]) [] (res_tmp rfl (res_tmp rfl res_nil)) (fun W hW => ⟨w, (Au107_0, cu107_0), leB, rfl, hoku107_0, hW.pick (ks := []) (by decide) pk_nil⟩)

theorem F_shape_line_ok (N : Nat) {w : Bs} (p0 : (List Int)) (Ap0_0 : Option Addr) (cp0_0 : Nat) (hp0_0 : Sl w.R w.W fl_i64 Ap0_0 cp0_0 p0) (p1 : (List Int)) (Ap1_0 : Option Addr) (cp1_0 : Nat) (hp1_0 : Sl w.R w.W fl_i64 Ap1_0 cp1_0 p1) (p2 : Bool → Bool → Option Bool) (fid2 : Nat) (cap2 : List Value) (hg2 : ∀ args W, (callFunc fid2 args).run Try.prog W = .ok (.enter fid2 args) W) (hf2 : ∀ (w' : Bs), w.Ext w' → ∀ (z0 : Bool) (z1 : Bool), ∀ y, p2 z0 z1 = some y → Calls Try.prog fid2 (([(.bool z0), (.bool z1)] : List Value) ++ cap2).toArray w'.W fun e W'' => e = .returned (.bool y) ∧ HF w' W'' E0) (r : (List Int)) (H : F_shape_line N p0 p1 p2 = some r) (hE : HF w w.W (LEn [emp])) : Calls Try.prog 116 [(.slice Ap0_0 (p0).length cp0_0), (.slice Ap1_0 (p1).length cp1_0), (.func (.func fid2) #[] cap2.toArray)].toArray w.W fun e W' => ∃ u : (Option Addr × Nat), e = .returned (.slice u.1 (r).length u.2) ∧ (SlF u.1 (r).length u.2) ∧ HF w W' (LEn [ow u.1 u.2 3 fl_i64 r]) := by
  unfold F_shape_line at H
  have leB := Bs.Le.refl w
  refine Tr.enter (n := 85) Try.func116 rfl rfl rfl hE ?_
  refine Tr.seq ?_
  refine Tr.region ?_
  refine Tr.val (wn rfl) rfl (fun _ _ h1 h2 => run_assign (h1.ev rfl)) ?_
  refine Tr.nilOwn 1 3 fl_i64 ?_
  show Tr _ _ (uf _ 6 (.slice none (([] : List Int)).length 0)) _ _
  refine Tr.nil (Tr.normThen ?_)
  refine Tr.seq ?_
  refine Tr.region ?_
  refine Tr.val (wn rfl) rfl (fun _ _ h1 h2 => run_assign (h1.ev rfl)) ?_
  refine Tr.nilOwn 2 3 fl_i64 ?_
  show Tr _ _ (uf _ 7 (.slice none (([] : List Int)).length 0)) _ _
  refine Tr.nil (Tr.normThen ?_)
  refine Tr.seq ?_
  refine Tr.region ?_
  refine Tr.val (wn rfl) rfl (fun _ _ h1 h2 => run_assign (h1.ev rfl)) ?_
  refine Tr.val (wn rfl) rfl (fun _ _ h1 h2 => run_assign (h1.ev rfl)) ?_
  refine Tr.val (wn rfl) rfl (fun _ _ h1 h2 => run_assign (h1.ev rfl)) ?_
  refine Tr.nil (Tr.normThen ?_)
  refine Tr.seq ?_
  refine Tr.block ?_
  refine Tr.loop (σ := (List Int) × (List Int) × (List Int) × Bool × Bool × Bool × (Option Addr) × Nat × (Option Addr) × Nat × (Option Addr) × Nat) (fun m w s => F_shape_line_L7 p2 m s.1 s.2.1 s.2.2.1 s.2.2.2.1 s.2.2.2.2.1 s.2.2.2.2.2.1 = some r ∧ Sl w.R w.W fl_i64 s.2.2.2.2.2.2.1 s.2.2.2.2.2.2.2.1 s.1 ∧ Sl w.R w.W fl_i64 s.2.2.2.2.2.2.2.2.1 s.2.2.2.2.2.2.2.2.2.1 s.2.1 ∧ SlF s.2.2.2.2.2.2.2.2.2.2.1 (s.2.2.1).length s.2.2.2.2.2.2.2.2.2.2.2) (fun s => [(0, (.slice s.2.2.2.2.2.2.1 (s.1).length s.2.2.2.2.2.2.2.1)), (1, (.slice s.2.2.2.2.2.2.2.2.1 (s.2.1).length s.2.2.2.2.2.2.2.2.2.1)), (2, (.func (.func fid2) #[] cap2.toArray)), (7, (.slice s.2.2.2.2.2.2.2.2.2.2.1 (s.2.2.1).length s.2.2.2.2.2.2.2.2.2.2.2)), (8, (.bool s.2.2.2.1)), (9, (.bool s.2.2.2.2.1)), (10, (.bool s.2.2.2.2.2.1))]) (fun s => [(2, ow s.2.2.2.2.2.2.2.2.2.2.1 s.2.2.2.2.2.2.2.2.2.2.2 3 fl_i64 s.2.2.1)]) N (p0, p1, ([] : List Int), false, false, false, Ap0_0, cp0_0, Ap1_0, cp1_0, none, 0) ⟨H, hp0_0, hp1_0, slf_nil⟩ (.cons rfl (.cons rfl (.cons rfl (.cons rfl (.cons rfl (.cons rfl (.cons rfl .nil))))))) (.cons rfl .nil) (fun _ _ h => noSome (h.1)) ?_
  intro w leF_shape_line_L7 mF_shape_line_L7 s hs
  obtain ⟨l230, l231, l232, x233, x234, x235, Al230, cl230, Al231, cl231, Al232, cl232⟩ := s
  obtain ⟨H, hl230, hl231, hl232⟩ := hs
  replace H : F_shape_line_L7 p2 (mF_shape_line_L7 + 1) l230 l231 l232 x233 x234 x235 = some r := H
  replace hf2 := fun w' he => hf2 w' (leF_shape_line_L7.ext.trans he)
  replace leB := leB.trans leF_shape_line_L7
  replace hl230 : Sl w.R w.W fl_i64 Al230 cl230 l230 := hl230
  replace hl231 : Sl w.R w.W fl_i64 Al231 cl231 l231 := hl231
  replace hl232 : SlF Al232 (l232).length cl232 := hl232
  rw [F_shape_line_L7.eq_2] at H
  show Tr _ _ (LF [(0, (.slice Al230 (l230).length cl230)), (1, (.slice Al231 (l231).length cl231)), (2, (.func (.func fid2) #[] cap2.toArray)), (7, (.slice Al232 (l232).length cl232)), (8, (.bool x233)), (9, (.bool x234)), (10, (.bool x235))]) (LE [(2, ow Al232 cl232 3 fl_i64 l232)]) _
  refine Tr.seq ?_
  refine Tr.seq ?_
  refine Tr.region ?_
  refine Tr.val (wn rfl) rfl (fun _ _ h1 h2 => run_move (h1.ev rfl)) ?_
  refine Tr.val (wn rfl) rfl (fun _ _ h1 h2 => run_len un_97 (h1.ev rfl)) ?_
  refine Tr.val (wn rfl) rfl (fun _ _ h1 h2 => run_gtr (h1.ev rfl) (h1.ev rfl)) ?_
  refine Tr.val (wn rfl) rfl (fun _ _ h1 h2 => run_move (h1.ev rfl)) ?_
  refine Tr.mid0 4 [(0, (.slice Al230 (l230).length cl230)), (1, (.slice Al231 (l231).length cl231)), (2, (.func (.func fid2) #[] cap2.toArray)), (7, (.slice Al232 (l232).length cl232)), (8, (.bool x233)), (9, (.bool x234)), (10, (.bool x235)), (20, (.bool ((decide (0 < (l230.length : Int))) || (decide (0 < (l231.length : Int))))))] [(2, ow Al232 cl232 3 fl_i64 l232)] ?_ ?_
  · cases hg291 : (decide (0 < (l230.length : Int)))
    · refine Tr.val (wg rfl rfl rfl) rfl (fun _ _ h1 h2 => run_move (h1.ev rfl)) ?_
      refine Tr.val (wg rfl rfl rfl) rfl (fun _ _ h1 h2 => run_len un_97 (h1.ev rfl)) ?_
      refine Tr.val (wg rfl rfl rfl) rfl (fun _ _ h1 h2 => run_gtr (h1.ev rfl) (h1.ev rfl)) ?_
      refine Tr.val (wn rfl) rfl (fun _ _ h1 h2 => run_pickF (h1.ev rfl) (h1.ev rfl)) ?_
      exact Tr.nil (Tr.fin0 (.cons rfl (.cons rfl (.cons rfl (.cons rfl (.cons rfl (.cons rfl (.cons rfl (.cons rfl .nil)))))))) (.cons rfl .nil))
    · refine Tr.pass rfl rfl rfl rfl rfl (by decide) ?_
      refine Tr.pass rfl rfl rfl rfl rfl (by decide) ?_
      refine Tr.pass rfl rfl rfl rfl rfl (by decide) ?_
      refine Tr.val (wn rfl) rfl (fun _ _ h1 h2 => run_pickT (h1.ev rfl) (h1.ev rfl)) ?_
      exact Tr.nil (Tr.fin0 (.cons rfl (.cons rfl (.cons rfl (.cons rfl (.cons rfl (.cons rfl (.cons rfl (.cons rfl .nil)))))))) (.cons rfl .nil))
  · show Tr _ _ (LF [(0, (.slice Al230 (l230).length cl230)), (1, (.slice Al231 (l231).length cl231)), (2, (.func (.func fid2) #[] cap2.toArray)), (7, (.slice Al232 (l232).length cl232)), (8, (.bool x233)), (9, (.bool x234)), (10, (.bool x235)), (20, (.bool ((decide (0 < (l230.length : Int))) || (decide (0 < (l231.length : Int))))))]) (LE [(2, ow Al232 cl232 3 fl_i64 l232)]) _
    refine Tr.nil (Tr.normThen ?_)
    refine Tr.cond rfl H (fun H => ?_) (fun H => ?_)
    · refine Tr.skip (Tr.normThen ?_)
      refine Tr.block ?_
      refine Tr.seq ?_
      refine Tr.region ?_
      refine Tr.val (wn rfl) rfl (fun _ _ h1 h2 => run_assign (h1.ev rfl)) ?_
      refine Tr.nil (Tr.normThen ?_)
      have leJ250 := Bs.Le.refl w
      refine Tr.cutJ (σ := Int) (fun w s => F_shape_line_J10 p2 l230 l231 l232 x233 x234 x235 (F_shape_line_L7 p2 mF_shape_line_L7) s = some r) (fun s => [(0, (.slice Al230 (l230).length cl230)), (1, (.slice Al231 (l231).length cl231)), (2, (.func (.func fid2) #[] cap2.toArray)), (7, (.slice Al232 (l232).length cl232)), (8, (.bool x233)), (9, (.bool x234)), (10, (.bool x235)), (11, (.int .i64 s))]) (fun s => [(2, ow Al232 cl232 3 fl_i64 l232)]) ?_ ?_
      · refine Tr.seq ?_
        refine Tr.draw (by kernel_rfl) (by kernel_rfl) ?_
        refine Tq.val (wn rfl) rfl (fun _ _ h1 h2 => run_move (h1.ev rfl)) ?_
        refine Tq.val (wn rfl) rfl (fun _ _ h1 h2 => run_len un_97 (h1.ev rfl)) ?_
        refine Tq.val (wn rfl) rfl (fun _ _ h1 h2 => run_eql (h1.ev rfl) (h1.ev rfl)) ?_
        refine Tq.val (wn rfl) rfl (fun _ _ h1 h2 => run_move (h1.ev rfl)) ?_
        obtain ⟨g284, hg284, H⟩ := bnd H
        refine Tq.mid 13 [(0, (.slice Al230 (l230).length cl230)), (1, (.slice Al231 (l231).length cl231)), (2, (.func (.func fid2) #[] cap2.toArray)), (7, (.slice Al232 (l232).length cl232)), (8, (.bool x233)), (9, (.bool x234)), (10, (.bool x235)), (37, (.bool g284))] ?_ ?_
        · cases hg291 : ((l231.length : Int) == 0)
          · rw [hg291] at hg284
            rw [if_neg (by decide)] at hg284
            have H := hg284
            refine Tq.val (wg rfl rfl rfl) rfl (fun _ _ h1 h2 => run_move (h1.ev rfl)) ?_
            refine Tq.val (wg rfl rfl rfl) rfl (fun _ _ h1 h2 => run_len un_97 (h1.ev rfl)) ?_
            refine Tq.val (wg rfl rfl rfl) rfl (fun _ _ h1 h2 => run_gtr (h1.ev rfl) (h1.ev rfl)) ?_
            refine Tq.val (wg rfl rfl rfl) rfl (fun _ _ h1 h2 => run_move (h1.ev rfl)) ?_
            obtain ⟨g287, hg287, H⟩ := bnd H
            refine Tq.mid 8 [(0, (.slice Al230 (l230).length cl230)), (1, (.slice Al231 (l231).length cl231)), (2, (.func (.func fid2) #[] cap2.toArray)), (7, (.slice Al232 (l232).length cl232)), (8, (.bool x233)), (9, (.bool x234)), (10, (.bool x235)), (24, (.bool false)), (36, (.bool g287))] ?_ ?_
            · cases hg289 : (decide (0 < (l230.length : Int)))
              · rw [hg289] at hg287
                rw [if_neg (by decide)] at hg287
                have H := hg287
                obtain rfl := Option.some.inj H
                refine Tq.pass rfl rfl rfl rfl rfl (by decide) ?_
                refine Tq.pass rfl rfl rfl rfl rfl (by decide) ?_
                refine Tq.pass rfl rfl rfl rfl rfl (by decide) ?_
                refine Tq.pass rfl rfl rfl rfl rfl (by decide) ?_
                refine Tq.pass rfl rfl rfl rfl rfl (by decide) ?_
                refine Tq.pass rfl rfl rfl rfl rfl (by decide) ?_
                refine Tq.pass rfl rfl rfl rfl rfl (by decide) ?_
                refine Tq.val (wg rfl rfl rfl) rfl (fun _ _ h1 h2 => run_pickF (h1.ev rfl) (h1.ev rfl)) ?_
                exact Tq.fin (.cons rfl (.cons rfl (.cons rfl (.cons rfl (.cons rfl (.cons rfl (.cons rfl (.cons rfl (.cons rfl .nil)))))))))
              · rw [hg289] at hg287
                rw [if_pos rfl] at hg287
                have H := hg287
                refine Tq.val (wg rfl rfl rfl) rfl (fun _ _ h1 h2 => run_move (h1.ev rfl)) ?_
                obtain ⟨x288, hx288, H⟩ := bnd H
                obtain ⟨hx2880, hx2881, hx2882⟩ := idx_some hx288
                refine Tq.val (wg rfl rfl rfl) rfl (fun _ _ h1 h2 => run_indexAddr el_97 (h1.ev rfl) hl230.form (h1.ev rfl) hx2880 hx2881) ?_
                refine Tq.val (wg rfl rfl rfl) rfl (fun _ _ h1 h2 => run_load1 ag_3 (h1.ev rfl) (rdF ef_i64 hl230 hx2882 h2) rfl) ?_
                refine Tq.val (wg rfl rfl rfl) rfl (fun _ _ h1 h2 => run_move (h1.ev rfl)) ?_
                obtain ⟨x289, hx289, H⟩ := bnd H
                obtain ⟨hx2890, hx2891, hx2892⟩ := idx_some hx289
                refine Tq.val (wg rfl rfl rfl) rfl (fun _ _ h1 h2 => run_indexAddr el_97 (h1.ev rfl) hl231.form (h1.ev rfl) hx2890 hx2891) ?_
                refine Tq.val (wg rfl rfl rfl) rfl (fun _ _ h1 h2 => run_load1 ag_3 (h1.ev rfl) (rdF ef_i64 hl231 hx2892 h2) rfl) ?_
                refine Tq.val (wg rfl rfl rfl) rfl (fun _ _ h1 h2 => run_leq (h1.ev rfl) (h1.ev rfl)) ?_
                refine Tq.val (wg rfl rfl rfl) rfl (fun _ _ h1 h2 => run_pickT (h1.ev rfl) (h1.ev rfl)) ?_
                obtain rfl := Option.some.inj H
                exact Tq.fin (.cons rfl (.cons rfl (.cons rfl (.cons rfl (.cons rfl (.cons rfl (.cons rfl (.cons rfl (.cons rfl .nil)))))))))
            · refine Tq.val (wn rfl) rfl (fun _ _ h1 h2 => run_pickF (h1.ev rfl) (h1.ev rfl)) ?_
              obtain rfl := Option.some.inj H
              exact Tq.fin (.cons rfl (.cons rfl (.cons rfl (.cons rfl (.cons rfl (.cons rfl (.cons rfl (.cons rfl .nil))))))))
          · rw [hg291] at hg284
            rw [if_pos rfl] at hg284
            have H := hg284
            obtain rfl := Option.some.inj H
            refine Tq.pass rfl rfl rfl rfl rfl (by decide) ?_
            refine Tq.pass rfl rfl rfl rfl rfl (by decide) ?_
            refine Tq.pass rfl rfl rfl rfl rfl (by decide) ?_
            refine Tq.pass rfl rfl rfl rfl rfl (by decide) ?_
            refine Tq.passU rfl rfl rfl rfl (by decide) ?_
            refine Tq.passU rfl rfl rfl rfl (by decide) ?_
            refine Tq.passU rfl rfl rfl rfl (by decide) ?_
            refine Tq.passU rfl rfl rfl rfl (by decide) ?_
            refine Tq.passU rfl rfl rfl rfl (by decide) ?_
            refine Tq.passU rfl rfl rfl rfl (by decide) ?_
            refine Tq.passU rfl rfl rfl rfl (by decide) ?_
            refine Tq.pass rfl rfl rfl rfl rfl (by decide) ?_
            refine Tq.val (wn rfl) rfl (fun _ _ h1 h2 => run_pickT (h1.ev rfl) (h1.ev rfl)) ?_
            exact Tq.fin (.cons rfl (.cons rfl (.cons rfl (.cons rfl (.cons rfl (.cons rfl (.cons rfl (.cons rfl .nil))))))))
        · refine Tq.nil (Tr.normThen ?_)
          refine Tr.cond rfl H (fun H => ?_) (fun H => ?_)
          · refine Tr.region ?_
            refine Tr.val (wn rfl) rfl (fun _ _ h1 h2 => run_move (h1.ev rfl)) ?_
            obtain ⟨x290, hx290, H⟩ := bnd H
            obtain ⟨hx2900, hx2901, hx2902⟩ := idx_some hx290
            refine Tr.val (wn rfl) rfl (fun _ _ h1 h2 => run_indexAddr el_97 (h1.ev rfl) hl230.form (h1.ev rfl) hx2900 hx2901) ?_
            refine Tr.val (wn rfl) rfl (fun _ _ h1 h2 => run_load1 ag_3 (h1.ev rfl) (rdF ef_i64 hl230 hx2902 h2) rfl) ?_
            refine Tr.val (wn rfl) rfl (fun _ _ h1 h2 => run_assign (h1.ev rfl)) ?_
            refine Tr.nil ?_
            exact Tr.backThen leJ250 x290 H (.cons rfl (.cons rfl (.cons rfl (.cons rfl (.cons rfl (.cons rfl (.cons rfl (.cons rfl .nil)))))))) (.cons rfl .nil)
          · refine Tr.region ?_
            refine Tr.val (wn rfl) rfl (fun _ _ h1 h2 => run_move (h1.ev rfl)) ?_
            obtain ⟨x291, hx291, H⟩ := bnd H
            obtain ⟨hx2910, hx2911, hx2912⟩ := idx_some hx291
            refine Tr.val (wn rfl) rfl (fun _ _ h1 h2 => run_indexAddr el_97 (h1.ev rfl) hl231.form (h1.ev rfl) hx2910 hx2911) ?_
            refine Tr.val (wn rfl) rfl (fun _ _ h1 h2 => run_load1 ag_3 (h1.ev rfl) (rdF ef_i64 hl231 hx2912 h2) rfl) ?_
            refine Tr.val (wn rfl) rfl (fun _ _ h1 h2 => run_assign (h1.ev rfl)) ?_
            refine Tr.nil ?_
            exact Tr.backThen leJ250 x291 H (.cons rfl (.cons rfl (.cons rfl (.cons rfl (.cons rfl (.cons rfl (.cons rfl (.cons rfl .nil)))))))) (.cons rfl .nil)
      · intro w x249 hlJ251 hs
        have H := hs
        replace H : F_shape_line_J10 p2 l230 l231 l232 x233 x234 x235 (F_shape_line_L7 p2 mF_shape_line_L7) x249 = some r := H
        replace hl230 := hl230.leR hlJ251
        replace hl231 := hl231.leR hlJ251
        replace hf2 := fun w' he => hf2 w' (hlJ251.ext.trans he)
        replace leB := leB.trans hlJ251
        replace leF_shape_line_L7 := leF_shape_line_L7.trans hlJ251
        unfold F_shape_line_J10 at H
        show Tr _ _ (LF [(0, (.slice Al230 (l230).length cl230)), (1, (.slice Al231 (l231).length cl231)), (2, (.func (.func fid2) #[] cap2.toArray)), (7, (.slice Al232 (l232).length cl232)), (8, (.bool x233)), (9, (.bool x234)), (10, (.bool x235)), (11, (.int .i64 x249))]) (LE [(2, ow Al232 cl232 3 fl_i64 l232)]) _
        have leJ258 := Bs.Le.refl w
        refine Tr.cutJ (σ := (List Int) × Bool × (Option Addr) × Nat) (fun w s => F_shape_line_J9 p2 l231 l232 x234 x235 (F_shape_line_L7 p2 mF_shape_line_L7) x249 s.1 s.2.1 = some r ∧ Sl w.R w.W fl_i64 s.2.2.1 s.2.2.2 s.1) (fun s => [(0, (.slice s.2.2.1 (s.1).length s.2.2.2)), (1, (.slice Al231 (l231).length cl231)), (2, (.func (.func fid2) #[] cap2.toArray)), (7, (.slice Al232 (l232).length cl232)), (8, (.bool s.2.1)), (9, (.bool x234)), (10, (.bool x235)), (11, (.int .i64 x249))]) (fun s => [(2, ow Al232 cl232 3 fl_i64 l232)]) ?_ ?_
        · refine Tr.seq ?_
          refine Tr.region ?_
          refine Tr.val (wn rfl) rfl (fun _ _ h1 h2 => run_move (h1.ev rfl)) ?_
          refine Tr.val (wn rfl) rfl (fun _ _ h1 h2 => run_len un_97 (h1.ev rfl)) ?_
          refine Tr.val (wn rfl) rfl (fun _ _ h1 h2 => run_gtr (h1.ev rfl) (h1.ev rfl)) ?_
          refine Tr.val (wn rfl) rfl (fun _ _ h1 h2 => run_move (h1.ev rfl)) ?_
          obtain ⟨g276, hg276, H⟩ := bnd H
          refine Tr.mid0 6 [(0, (.slice Al230 (l230).length cl230)), (1, (.slice Al231 (l231).length cl231)), (2, (.func (.func fid2) #[] cap2.toArray)), (7, (.slice Al232 (l232).length cl232)), (8, (.bool x233)), (9, (.bool x234)), (10, (.bool x235)), (11, (.int .i64 x249)), (53, (.bool g276))] [(2, ow Al232 cl232 3 fl_i64 l232)] ?_ ?_
          · cases hg278 : (decide (0 < (l230.length : Int)))
            · rw [hg278] at hg276
              rw [if_neg (by decide)] at hg276
              have H := hg276
              obtain rfl := Option.some.inj H
              refine Tr.pass rfl rfl rfl rfl rfl (by decide) ?_
              refine Tr.pass rfl rfl rfl rfl rfl (by decide) ?_
              refine Tr.pass rfl rfl rfl rfl rfl (by decide) ?_
              refine Tr.pass rfl rfl rfl rfl rfl (by decide) ?_
              refine Tr.pass rfl rfl rfl rfl rfl (by decide) ?_
              refine Tr.val (wn rfl) rfl (fun _ _ h1 h2 => run_pickF (h1.ev rfl) (h1.ev rfl)) ?_
              exact Tr.nil (Tr.fin0 (.cons rfl (.cons rfl (.cons rfl (.cons rfl (.cons rfl (.cons rfl (.cons rfl (.cons rfl (.cons rfl .nil))))))))) (.cons rfl .nil))
            · rw [hg278] at hg276
              rw [if_pos rfl] at hg276
              have H := hg276
              refine Tr.val (wg rfl rfl rfl) rfl (fun _ _ h1 h2 => run_move (h1.ev rfl)) ?_
              obtain ⟨x277, hx277, H⟩ := bnd H
              obtain ⟨hx2770, hx2771, hx2772⟩ := idx_some hx277
              refine Tr.val (wg rfl rfl rfl) rfl (fun _ _ h1 h2 => run_indexAddr el_97 (h1.ev rfl) hl230.form (h1.ev rfl) hx2770 hx2771) ?_
              refine Tr.val (wg rfl rfl rfl) rfl (fun _ _ h1 h2 => run_load1 ag_3 (h1.ev rfl) (rdF ef_i64 hl230 hx2772 h2) rfl) ?_
              refine Tr.val (wg rfl rfl rfl) rfl (fun _ _ h1 h2 => run_move (h1.ev rfl)) ?_
              refine Tr.val (wg rfl rfl rfl) rfl (fun _ _ h1 h2 => run_eql (h1.ev rfl) (h1.ev rfl)) ?_
              refine Tr.val (wn rfl) rfl (fun _ _ h1 h2 => run_pickT (h1.ev rfl) (h1.ev rfl)) ?_
              obtain rfl := Option.some.inj H
              exact Tr.nil (Tr.fin0 (.cons rfl (.cons rfl (.cons rfl (.cons rfl (.cons rfl (.cons rfl (.cons rfl (.cons rfl (.cons rfl .nil))))))))) (.cons rfl .nil))
          · show Tr _ _ (LF [(0, (.slice Al230 (l230).length cl230)), (1, (.slice Al231 (l231).length cl231)), (2, (.func (.func fid2) #[] cap2.toArray)), (7, (.slice Al232 (l232).length cl232)), (8, (.bool x233)), (9, (.bool x234)), (10, (.bool x235)), (11, (.int .i64 x249)), (53, (.bool g276))]) (LE [(2, ow Al232 cl232 3 fl_i64 l232)]) _
            refine Tr.nil (Tr.normThen ?_)
            refine Tr.cond rfl H (fun H => ?_) (fun H => ?_)
            · refine Tr.region ?_
              refine Tr.val (wn rfl) rfl (fun _ _ h1 h2 => run_move (h1.ev rfl)) ?_
              obtain ⟨l278, hl278, H⟩ := bnd H
              refine Tr.val (wn rfl) rfl (fun _ _ h1 h2 => run_cutL el_97 (h1.ev rfl) hl230.form (h1.ev rfl) hl278) ?_
              refine Tr.val (wn rfl) rfl (fun _ _ h1 h2 => run_move (h1.ev rfl)) ?_
              refine Tr.val (wn rfl) rfl (fun _ _ h1 h2 => run_not (h1.ev rfl)) ?_
              refine Tr.val (wn rfl) rfl (fun _ _ h1 h2 => run_assign (h1.ev rfl)) ?_
              refine Tr.val (wn rfl) rfl (fun _ _ h1 h2 => run_assign (h1.ev rfl)) ?_
              refine Tr.nil ?_
              exact Tr.backThen leJ258 (l278, (!x233), (cutA Al230 (1 : Int).toNat 1 cl230), (cl230 - (1 : Int).toNat)) ⟨H, (Sl.cut hl230 hl278)⟩ (.cons rfl (.cons rfl (.cons rfl (.cons rfl (.cons rfl (.cons rfl (.cons rfl (.cons rfl .nil)))))))) (.cons rfl .nil)
            · refine Tr.skip ?_
              exact Tr.backThen leJ258 (l230, x233, Al230, cl230) ⟨H, hl230⟩ (.cons rfl (.cons rfl (.cons rfl (.cons rfl (.cons rfl (.cons rfl (.cons rfl (.cons rfl .nil)))))))) (.cons rfl .nil)
        · intro w s hlJ259 hs
          obtain ⟨l256, x257, Al256, cl256⟩ := s
          obtain ⟨H, hl256⟩ := hs
          replace H : F_shape_line_J9 p2 l231 l232 x234 x235 (F_shape_line_L7 p2 mF_shape_line_L7) x249 l256 x257 = some r := H
          replace hl231 := hl231.leR hlJ259
          replace hf2 := fun w' he => hf2 w' (hlJ259.ext.trans he)
          replace leB := leB.trans hlJ259
          replace leF_shape_line_L7 := leF_shape_line_L7.trans hlJ259
          replace hl256 : Sl w.R w.W fl_i64 Al256 cl256 l256 := hl256
          unfold F_shape_line_J9 at H
          show Tr _ _ (LF [(0, (.slice Al256 (l256).length cl256)), (1, (.slice Al231 (l231).length cl231)), (2, (.func (.func fid2) #[] cap2.toArray)), (7, (.slice Al232 (l232).length cl232)), (8, (.bool x257)), (9, (.bool x234)), (10, (.bool x235)), (11, (.int .i64 x249))]) (LE [(2, ow Al232 cl232 3 fl_i64 l232)]) _
          have leJ266 := Bs.Le.refl w
          refine Tr.cutJ (σ := (List Int) × Bool × (Option Addr) × Nat) (fun w s => F_shape_line_J8 p2 l232 x235 (F_shape_line_L7 p2 mF_shape_line_L7) x249 l256 x257 s.1 s.2.1 = some r ∧ Sl w.R w.W fl_i64 s.2.2.1 s.2.2.2 s.1) (fun s => [(0, (.slice Al256 (l256).length cl256)), (1, (.slice s.2.2.1 (s.1).length s.2.2.2)), (2, (.func (.func fid2) #[] cap2.toArray)), (7, (.slice Al232 (l232).length cl232)), (8, (.bool x257)), (9, (.bool s.2.1)), (10, (.bool x235)), (11, (.int .i64 x249))]) (fun s => [(2, ow Al232 cl232 3 fl_i64 l232)]) ?_ ?_
          · refine Tr.seq ?_
            refine Tr.region ?_
            refine Tr.val (wn rfl) rfl (fun _ _ h1 h2 => run_move (h1.ev rfl)) ?_
            refine Tr.val (wn rfl) rfl (fun _ _ h1 h2 => run_len un_97 (h1.ev rfl)) ?_
            refine Tr.val (wn rfl) rfl (fun _ _ h1 h2 => run_gtr (h1.ev rfl) (h1.ev rfl)) ?_
            refine Tr.val (wn rfl) rfl (fun _ _ h1 h2 => run_move (h1.ev rfl)) ?_
            obtain ⟨g272, hg272, H⟩ := bnd H
            refine Tr.mid0 6 [(0, (.slice Al256 (l256).length cl256)), (1, (.slice Al231 (l231).length cl231)), (2, (.func (.func fid2) #[] cap2.toArray)), (7, (.slice Al232 (l232).length cl232)), (8, (.bool x257)), (9, (.bool x234)), (10, (.bool x235)), (11, (.int .i64 x249)), (67, (.bool g272))] [(2, ow Al232 cl232 3 fl_i64 l232)] ?_ ?_
            · cases hg274 : (decide (0 < (l231.length : Int)))
              · rw [hg274] at hg272
                rw [if_neg (by decide)] at hg272
                have H := hg272
                obtain rfl := Option.some.inj H
                refine Tr.pass rfl rfl rfl rfl rfl (by decide) ?_
                refine Tr.pass rfl rfl rfl rfl rfl (by decide) ?_
                refine Tr.pass rfl rfl rfl rfl rfl (by decide) ?_
                refine Tr.pass rfl rfl rfl rfl rfl (by decide) ?_
                refine Tr.pass rfl rfl rfl rfl rfl (by decide) ?_
                refine Tr.val (wn rfl) rfl (fun _ _ h1 h2 => run_pickF (h1.ev rfl) (h1.ev rfl)) ?_
                exact Tr.nil (Tr.fin0 (.cons rfl (.cons rfl (.cons rfl (.cons rfl (.cons rfl (.cons rfl (.cons rfl (.cons rfl (.cons rfl .nil))))))))) (.cons rfl .nil))
              · rw [hg274] at hg272
                rw [if_pos rfl] at hg272
                have H := hg272
                refine Tr.val (wg rfl rfl rfl) rfl (fun _ _ h1 h2 => run_move (h1.ev rfl)) ?_
                obtain ⟨x273, hx273, H⟩ := bnd H
                obtain ⟨hx2730, hx2731, hx2732⟩ := idx_some hx273
                refine Tr.val (wg rfl rfl rfl) rfl (fun _ _ h1 h2 => run_indexAddr el_97 (h1.ev rfl) hl231.form (h1.ev rfl) hx2730 hx2731) ?_
                refine Tr.val (wg rfl rfl rfl) rfl (fun _ _ h1 h2 => run_load1 ag_3 (h1.ev rfl) (rdF ef_i64 hl231 hx2732 h2) rfl) ?_
                refine Tr.val (wg rfl rfl rfl) rfl (fun _ _ h1 h2 => run_move (h1.ev rfl)) ?_
                refine Tr.val (wg rfl rfl rfl) rfl (fun _ _ h1 h2 => run_eql (h1.ev rfl) (h1.ev rfl)) ?_
                refine Tr.val (wn rfl) rfl (fun _ _ h1 h2 => run_pickT (h1.ev rfl) (h1.ev rfl)) ?_
                obtain rfl := Option.some.inj H
                exact Tr.nil (Tr.fin0 (.cons rfl (.cons rfl (.cons rfl (.cons rfl (.cons rfl (.cons rfl (.cons rfl (.cons rfl (.cons rfl .nil))))))))) (.cons rfl .nil))
            · show Tr _ _ (LF [(0, (.slice Al256 (l256).length cl256)), (1, (.slice Al231 (l231).length cl231)), (2, (.func (.func fid2) #[] cap2.toArray)), (7, (.slice Al232 (l232).length cl232)), (8, (.bool x257)), (9, (.bool x234)), (10, (.bool x235)), (11, (.int .i64 x249)), (67, (.bool g272))]) (LE [(2, ow Al232 cl232 3 fl_i64 l232)]) _
              refine Tr.nil (Tr.normThen ?_)
              refine Tr.cond rfl H (fun H => ?_) (fun H => ?_)
              · refine Tr.region ?_
                refine Tr.val (wn rfl) rfl (fun _ _ h1 h2 => run_move (h1.ev rfl)) ?_
                obtain ⟨l274, hl274, H⟩ := bnd H
                refine Tr.val (wn rfl) rfl (fun _ _ h1 h2 => run_cutL el_97 (h1.ev rfl) hl231.form (h1.ev rfl) hl274) ?_
                refine Tr.val (wn rfl) rfl (fun _ _ h1 h2 => run_move (h1.ev rfl)) ?_
                refine Tr.val (wn rfl) rfl (fun _ _ h1 h2 => run_not (h1.ev rfl)) ?_
                refine Tr.val (wn rfl) rfl (fun _ _ h1 h2 => run_assign (h1.ev rfl)) ?_
                refine Tr.val (wn rfl) rfl (fun _ _ h1 h2 => run_assign (h1.ev rfl)) ?_
                refine Tr.nil ?_
                exact Tr.backThen leJ266 (l274, (!x234), (cutA Al231 (1 : Int).toNat 1 cl231), (cl231 - (1 : Int).toNat)) ⟨H, (Sl.cut hl231 hl274)⟩ (.cons rfl (.cons rfl (.cons rfl (.cons rfl (.cons rfl (.cons rfl (.cons rfl (.cons rfl .nil)))))))) (.cons rfl .nil)
              · refine Tr.skip ?_
                exact Tr.backThen leJ266 (l231, x234, Al231, cl231) ⟨H, hl231⟩ (.cons rfl (.cons rfl (.cons rfl (.cons rfl (.cons rfl (.cons rfl (.cons rfl (.cons rfl .nil)))))))) (.cons rfl .nil)
          · intro w s hlJ267 hs
            obtain ⟨l264, x265, Al264, cl264⟩ := s
            obtain ⟨H, hl264⟩ := hs
            replace H : F_shape_line_J8 p2 l232 x235 (F_shape_line_L7 p2 mF_shape_line_L7) x249 l256 x257 l264 x265 = some r := H
            replace hl256 := hl256.leR hlJ267
            replace hf2 := fun w' he => hf2 w' (hlJ267.ext.trans he)
            replace leB := leB.trans hlJ267
            replace leF_shape_line_L7 := leF_shape_line_L7.trans hlJ267
            replace hl264 : Sl w.R w.W fl_i64 Al264 cl264 l264 := hl264
            unfold F_shape_line_J8 at H
            show Tr _ _ (LF [(0, (.slice Al256 (l256).length cl256)), (1, (.slice Al264 (l264).length cl264)), (2, (.func (.func fid2) #[] cap2.toArray)), (7, (.slice Al232 (l232).length cl232)), (8, (.bool x257)), (9, (.bool x265)), (10, (.bool x235)), (11, (.int .i64 x249))]) (LE [(2, ow Al232 cl232 3 fl_i64 l232)]) _
            refine Tr.seq ?_
            refine Tr.region ?_
            refine Tr.val (wn rfl) rfl (fun _ _ h1 h2 => run_move (h1.ev rfl)) ?_
            refine Tr.val (wn rfl) rfl (fun _ _ h1 h2 => run_move (h1.ev rfl)) ?_
            refine Tr.val (wn rfl) rfl (fun _ _ h1 h2 => run_move (h1.ev rfl)) ?_
            obtain ⟨y268, hy268, H⟩ := bnd H
            refine Tr.callF (r := (.bool y268)) (wn rfl) rfl rfl hg2 (evl_cons rfl (evl_cons rfl evl_nil)) (fun W hW => hf2 hW.all hW.extAll x257 x265 _ hy268) ?_
            refine Tr.val (wn rfl) rfl (fun _ _ h1 h2 => run_assign (h1.ev rfl)) ?_
            refine Tr.nil (Tr.normThen ?_)
            refine Tr.seq ?_
            refine Tr.region ?_
            refine Tr.val (wn rfl) rfl (fun _ _ h1 h2 => run_move (h1.ev rfl)) ?_
            refine Tr.val (wn rfl) rfl (fun _ _ h1 h2 => run_move (h1.ev rfl)) ?_
            refine Tr.val (wn rfl) rfl (fun _ _ h1 h2 => run_neqB un_4 (h1.ev rfl) (h1.ev rfl)) ?_
            refine Tr.nil (Tr.normThen ?_)
            refine Tr.cond rfl H (fun H => ?_) (fun H => ?_)
            · refine Tr.region ?_
              refine Tr.val (wn rfl) rfl (fun _ _ h1 h2 => run_move (h1.ev rfl)) ?_
              refine Tr.val (wn rfl) rfl (fun _ _ h1 h2 => run_move (h1.ev rfl)) ?_
              refine Tr.buildSlice 5 (e := 3) (vs := [(0, (.int .i64 x249))]) (cs := [(.int .i64 x249)]) (wn rfl) rfl (evs_cons rfl evs_nil) (by kernel_rfl) fun b269 => ?_
              obtain ⟨l270, hl270, H⟩ := bnd H
              refine Tr.append 2 (t := fl_i64) (l := l232) (l2 := [x249]) (wn rfl) rfl rfl rfl rfl (fun W hW => ⟨[[(.int .i64 x249)]], (.cons ⟨(), trivial, rfl⟩ .nil), rdb hW (vs := [(.int .i64 x249)]) (k := 5) rfl 0⟩) un_97 sz_3 zl_3 (by decide) by_3 rfl hl270 fun Al270 cl270 hAl270 => ?_
              refine Tr.val (wn rfl) rfl (fun _ _ h1 h2 => run_move (h1.ev rfl)) ?_
              refine Tr.val (wn rfl) rfl (fun _ _ h1 h2 => run_assign (h1.ev rfl)) ?_
              refine Tr.val (wn rfl) rfl (fun _ _ h1 h2 => run_assign (h1.ev rfl)) ?_
              refine Tr.nil (Tr.normBlock ?_)
              exact Tr.backThen leF_shape_line_L7 (l256, l264, l270, x257, x265, y268, Al256, cl256, Al264, cl264, Al270, cl270) ⟨H, hl256, hl264, hAl270⟩ (.cons rfl (.cons rfl (.cons rfl (.cons rfl (.cons rfl (.cons rfl (.cons rfl .nil))))))) (.cons rfl .nil)
            · refine Tr.skip (Tr.normBlock ?_)
              exact Tr.backThen leF_shape_line_L7 (l256, l264, l232, x257, x265, x235, Al256, cl256, Al264, cl264, Al232, cl232) ⟨H, hl256, hl264, hl232⟩ (.cons rfl (.cons rfl (.cons rfl (.cons rfl (.cons rfl (.cons rfl (.cons rfl .nil))))))) (.cons rfl .nil)
    · refine Tr.exit (Tr.exitThen (Tr.exitThen (Tr.exitBlock (Tr.normThen ?_))))
      refine Tr.seq ?_
      refine Tr.region ?_
      refine Tr.val (wn rfl) rfl (fun _ _ h1 h2 => run_move (h1.ev rfl)) ?_
      refine Tr.val (wn rfl) rfl (fun _ _ h1 h2 => run_assign (h1.ev rfl)) ?_
      refine Tr.nil (Tr.normThen ?_)
      refine Tr.ret ?_
      obtain rfl := Option.some.inj H
      exact Tr.out (m := [(.slice Al232 (l232).length cl232)]) [] (res_tmp rfl res_nil) (fun W hW => ⟨(Al232, cl232), rfl, hl232, HF.lowE leB (hW.pick (ks := [2]) (by decide) (pk_cons rfl pk_nil)) ⟨ow_any _ _ _ _ tr_i64, trivial⟩⟩)

theorem F_shape_Merge_ok (N : Nat) {w : Bs} (p0 : (List TBand)) (Ap0_0 : Option Addr) (cp0_0 : Nat) (hp0_0 : Sl w.O w.W fl_TBand Ap0_0 cp0_0 p0) (p1 : (List TBand)) (Ap1_0 : Option Addr) (cp1_0 : Nat) (hp1_0 : Sl w.O w.W fl_TBand Ap1_0 cp1_0 p1) (p2 : Bool → Bool → Option Bool) (fid2 : Nat) (cap2 : List Value) (hg2 : ∀ args W, (callFunc fid2 args).run Try.prog W = .ok (.enter fid2 args) W) (hf2 : ∀ (w' : Bs), w.Ext w' → ∀ (z0 : Bool) (z1 : Bool), ∀ y, p2 z0 z1 = some y → Calls Try.prog fid2 (([(.bool z0), (.bool z1)] : List Value) ++ cap2).toArray w'.W fun e W'' => e = .returned (.bool y) ∧ HF w' W'' E0) (r : (List TBand)) (H : F_shape_Merge N p0 p1 p2 = some r) (hE : HF w w.W (LEn [emp])) : Calls Try.prog 78 [(.slice Ap0_0 (p0).length cp0_0), (.slice Ap1_0 (p1).length cp1_0), (.func (.func fid2) #[] cap2.toArray)].toArray w.W fun e W' => ∃ (w' : Bs) (u : (Option Addr × Nat)), w.Le w' ∧ e = .returned (.slice u.1 (r).length u.2) ∧ (SlF u.1 (r).length u.2) ∧ HF w' W' (LEn [ow u.1 u.2 104 fl_TBand r]) := by
  unfold F_shape_Merge at H
  have leB := Bs.Le.refl w
  refine Tr.enter (n := 126) Try.func78 rfl rfl rfl hE ?_
  refine Tr.seq ?_
  refine Tr.region ?_
  refine Tr.val (wn rfl) rfl (fun _ _ h1 h2 => run_assign (h1.ev rfl)) ?_
  refine Tr.nilOwn 1 104 fl_TBand ?_
  show Tr _ _ (uf _ 6 (.slice none (([] : List TBand)).length 0)) _ _
  refine Tr.nil (Tr.normThen ?_)
  refine Tr.seq ?_
  refine Tr.region ?_
  refine Tr.val (wn rfl) rfl (fun _ _ h1 h2 => run_assign (h1.ev rfl)) ?_
  refine Tr.nilOwn 2 104 fl_TBand ?_
  show Tr _ _ (uf _ 7 (.slice none (([] : List TBand)).length 0)) _ _
  refine Tr.nil (Tr.normThen ?_)
  refine Tr.seq ?_
  refine Tr.seq ?_
  refine Tr.region ?_
  refine Tr.val (wn rfl) rfl (fun _ _ h1 h2 => run_move (h1.ev rfl)) ?_
  refine Tr.val (wn rfl) rfl (fun _ _ h1 h2 => run_len un_65 (h1.ev rfl)) ?_
  refine Tr.val (wn rfl) rfl (fun _ _ h1 h2 => run_move (h1.ev rfl)) ?_
  refine Tr.val (wn rfl) rfl (fun _ _ h1 h2 => run_len un_65 (h1.ev rfl)) ?_
  refine Tr.val (wn rfl) rfl (fun _ _ h1 h2 => run_add (h1.ev rfl) (h1.ev rfl)) ?_
  refine Tr.val (wn rfl) rfl (fun _ _ h1 h2 => run_eql (h1.ev rfl) (h1.ev rfl)) ?_
  refine Tr.nil (Tr.normThen ?_)
  refine Tr.cond rfl H (fun H => ?_) (fun H => ?_)
  · refine Tr.seq ?_
    refine Tr.region ?_
    refine Tr.val (wn rfl) rfl (fun _ _ h1 h2 => run_assign (h1.ev rfl)) ?_
    refine Tr.nilOwn 3 104 fl_TBand ?_
    show Tr _ _ (uf _ 6 (.slice none (([] : List TBand)).length 0)) _ _
    refine Tr.nil (Tr.normThen ?_)
    refine Tr.ret (Tr.retThen ?_)
    obtain rfl := Option.some.inj H
    exact Tr.out (m := [(.slice none (([] : List TBand)).length 0)]) [] (res_tmp rfl res_nil) (fun W hW => ⟨w, (none, 0), leB, rfl, slf_nil, hW.pick (ks := [3]) (by decide) (pk_cons rfl pk_nil)⟩)
  · refine Tr.skip (Tr.normThen ?_)
    refine Tr.seq ?_
    refine Tr.region ?_
    refine Tr.val (wn rfl) rfl (fun _ _ h1 h2 => run_assign (h1.ev rfl)) ?_
    refine Tr.val (wn rfl) rfl (fun _ _ h1 h2 => run_assign (h1.ev rfl)) ?_
    refine Tr.nil (Tr.normThen ?_)
    refine Tr.seq ?_
    refine Tr.seq ?_
    refine Tr.region ?_
    refine Tr.val (wn rfl) rfl (fun _ _ h1 h2 => run_move (h1.ev rfl)) ?_
    refine Tr.val (wn rfl) rfl (fun _ _ h1 h2 => run_move (h1.ev rfl)) ?_
    refine Tr.buildSlice 4 (e := 65) (vs := [(0, (.slice Ap0_0 (p0).length cp0_0)), (1, (.slice Ap1_0 (p1).length cp1_0))]) (cs := [(.slice Ap0_0 (p0).length cp0_0), (.slice Ap1_0 (p1).length cp1_0)]) (wn rfl) rfl (evs_cons rfl (evs_cons rfl evs_nil)) (by kernel_rfl) fun b100 => ?_
    refine Tr.val (wn rfl) rfl (fun _ _ h1 h2 => run_len un_75 (h1.ev rfl)) ?_
    refine Tr.val (wn rfl) rfl (fun _ _ h1 h2 => run_move (h1.ev rfl)) ?_
    refine Tr.nil (Tr.normThen ?_)
    refine Tr.block ?_
    refine Tr.own 4 fl_LTBand [p0, p1] (css := [[(.slice Ap0_0 (p0).length cp0_0)], [(.slice Ap1_0 (p1).length cp1_0)]]) rfl (.cons ⟨(Ap0_0, cp0_0), hp0_0, rfl⟩ (.cons ⟨(Ap1_0, cp1_0), hp1_0, rfl⟩ .nil)) rfl (by decide) (lit_max rfl) ?_
    refine Tr.ren 4 9 rfl rfl rfl ?_
    refine Tr.loop (σ := Int × Int × (List (List TBand)) × Int × (Option Addr) × Nat) (fun m w s => F_shape_Merge_L3 N p0 p1 p2 m s.1 s.2.1 s.2.2.1 s.2.2.2.1 = some r ∧ SlF s.2.2.2.2.1 (s.2.2.1).length s.2.2.2.2.2) (fun s => [(0, (.slice Ap0_0 (p0).length cp0_0)), (1, (.slice Ap1_0 (p1).length cp1_0)), (2, (.func (.func fid2) #[] cap2.toArray)), (7, (.slice none (([] : List TBand)).length 0)), (8, (.int .i64 s.1)), (9, (.int .i64 s.2.1)), (25, (.slice s.2.2.2.2.1 (s.2.2.1).length s.2.2.2.2.2)), (26, (.int .i64 2)), (27, (.int .i64 s.2.2.2.1))]) (fun s => [(2, ow none 0 104 fl_TBand ([] : List TBand)), (9, ow s.2.2.2.2.1 s.2.2.2.2.2 65 fl_LTBand s.2.2.1)]) N (0, 0, [p0, p1], 0, (some ⟨b100, 0, none⟩), 2) ⟨H, (lit_form b100 rfl)⟩ (.cons rfl (.cons rfl (.cons rfl (.cons rfl (.cons rfl (.cons rfl (.cons rfl (.cons rfl (.cons rfl .nil))))))))) (.cons rfl (.cons rfl .nil)) (fun _ _ h => noSome (h.1)) ?_
    intro w leF_shape_Merge_L3 mF_shape_Merge_L3 s hs
    obtain ⟨x150, x151, l152, x153, Al152, cl152⟩ := s
    obtain ⟨H, hl152⟩ := hs
    replace H : F_shape_Merge_L3 N p0 p1 p2 (mF_shape_Merge_L3 + 1) x150 x151 l152 x153 = some r := H
    replace hp0_0 := hp0_0.le leF_shape_Merge_L3
    replace hp1_0 := hp1_0.le leF_shape_Merge_L3
    replace hf2 := fun w' he => hf2 w' (leF_shape_Merge_L3.ext.trans he)
    replace leB := leB.trans leF_shape_Merge_L3
    replace hl152 : SlF Al152 (l152).length cl152 := hl152
    rw [F_shape_Merge_L3.eq_2] at H
    show Tr _ _ (LF [(0, (.slice Ap0_0 (p0).length cp0_0)), (1, (.slice Ap1_0 (p1).length cp1_0)), (2, (.func (.func fid2) #[] cap2.toArray)), (7, (.slice none (([] : List TBand)).length 0)), (8, (.int .i64 x150)), (9, (.int .i64 x151)), (25, (.slice Al152 (l152).length cl152)), (26, (.int .i64 2)), (27, (.int .i64 x153))]) (LE [(2, ow none 0 104 fl_TBand ([] : List TBand)), (9, ow Al152 cl152 65 fl_LTBand l152)]) _
    refine Tr.seq ?_
    refine Tr.region ?_
    refine Tr.val (wn rfl) rfl (fun _ _ h1 h2 => run_lss (h1.ev rfl) (h1.ev rfl)) ?_
    refine Tr.nil (Tr.normThen ?_)
    refine Tr.seq ?_
    refine Tr.cond rfl H (fun H => ?_) (fun H => ?_)
    · refine Tr.skip (Tr.normThen ?_)
      refine Tr.seq ?_
      refine Tr.block ?_
      refine Tr.seq ?_
      refine Tr.region ?_
      refine Tr.val (wn rfl) rfl (fun _ _ h1 h2 => run_move (h1.ev rfl)) ?_
      obtain ⟨x154, hx154, H⟩ := bnd H
      obtain ⟨hx1540, hx1541, hx1542⟩ := idx_some hx154
      refine Tr.val (wn rfl) rfl (fun _ _ h1 h2 => run_indexAddr el_75 (h1.ev rfl) hl152 (h1.ev rfl) hx1540 hx1541) ?_
      refine Tr.valE (U := (fl_LTBand).Ad) (fun u => (fl_LTBand).ok w.O w.W u x154) (fun u => (.slice u.1 (x154).length u.2)) (wn rfl) rfl (ldN (κ := 9) (t := fl_LTBand) (V := fun u => (.slice u.1 (x154).length u.2)) rfl hx1542 (fun _ _ u h1 hc => run_load1 ag_65 (h1.ev rfl) hc rfl)) ?_
      intro u155 hoku155
      obtain ⟨Au155_0, cu155_0⟩ := u155
      have hoku155_0 := hoku155
      replace hoku155_0 : Sl w.O w.W fl_TBand Au155_0 cu155_0 x154 := hoku155_0
      show Tr _ _ (uf _ 31 (.slice Au155_0 (x154).length cu155_0)) _ _
      refine Tr.val (wn rfl) rfl (fun _ _ h1 h2 => run_assign (h1.ev rfl)) ?_
      refine Tr.val (wn rfl) rfl (fun _ _ h1 h2 => run_assign (h1.ev rfl)) ?_
      refine Tr.nil (Tr.normThen ?_)
      refine Tr.seq ?_
      refine Tr.region ?_
      refine Tr.val (wn rfl) rfl (fun _ _ h1 h2 => run_move (h1.ev rfl)) ?_
      refine Tr.val (wn rfl) rfl (fun _ _ h1 h2 => run_len un_65 (h1.ev rfl)) ?_
      refine Tr.val (wn rfl) rfl (fun _ _ h1 h2 => run_gtr (h1.ev rfl) (h1.ev rfl)) ?_
      refine Tr.nil (Tr.normThen ?_)
      refine Tr.cond rfl H (fun H => ?_) (fun H => ?_)
      · have leJ162 := Bs.Le.refl w
        refine Tr.cutJ (σ := Int × Int) (fun w s => F_shape_Merge_J4 l152 x153 (F_shape_Merge_L3 N p0 p1 p2 mF_shape_Merge_L3) x154 s.1 s.2 = some r) (fun s => [(0, (.slice Ap0_0 (p0).length cp0_0)), (1, (.slice Ap1_0 (p1).length cp1_0)), (2, (.func (.func fid2) #[] cap2.toArray)), (7, (.slice none (([] : List TBand)).length 0)), (8, (.int .i64 s.1)), (9, (.int .i64 s.2)), (11, (.slice Au155_0 (x154).length cu155_0)), (25, (.slice Al152 (l152).length cl152)), (26, (.int .i64 2)), (27, (.int .i64 x153))]) (fun s => [(2, ow none 0 104 fl_TBand ([] : List TBand)), (9, ow Al152 cl152 65 fl_LTBand l152)]) ?_ ?_
        · refine Tr.seq ?_
          refine Tr.region ?_
          refine Tr.val (wn rfl) rfl (fun _ _ h1 h2 => run_move (h1.ev rfl)) ?_
          refine Tr.val (wn rfl) rfl (fun _ _ h1 h2 => run_eql (h1.ev rfl) (h1.ev rfl)) ?_
          refine Tr.val (wn rfl) rfl (fun _ _ h1 h2 => run_move (h1.ev rfl)) ?_
          refine Tr.mid0 4 [(0, (.slice Ap0_0 (p0).length cp0_0)), (1, (.slice Ap1_0 (p1).length cp1_0)), (2, (.func (.func fid2) #[] cap2.toArray)), (7, (.slice none (([] : List TBand)).length 0)), (8, (.int .i64 x150)), (9, (.int .i64 x151)), (11, (.slice Au155_0 (x154).length cu155_0)), (25, (.slice Al152 (l152).length cl152)), (26, (.int .i64 2)), (27, (.int .i64 x153)), (41, (.bool ((x153 == 0) || ((p0.length : Int) == 0))))] [(2, ow none 0 104 fl_TBand ([] : List TBand)), (9, ow Al152 cl152 65 fl_LTBand l152)] ?_ ?_
          · cases hg171 : (x153 == 0)
            · refine Tr.val (wg rfl rfl rfl) rfl (fun _ _ h1 h2 => run_move (h1.ev rfl)) ?_
              refine Tr.val (wg rfl rfl rfl) rfl (fun _ _ h1 h2 => run_len un_65 (h1.ev rfl)) ?_
              refine Tr.val (wg rfl rfl rfl) rfl (fun _ _ h1 h2 => run_eql (h1.ev rfl) (h1.ev rfl)) ?_
              refine Tr.val (wn rfl) rfl (fun _ _ h1 h2 => run_pickF (h1.ev rfl) (h1.ev rfl)) ?_
              exact Tr.nil (Tr.fin0 (.cons rfl (.cons rfl (.cons rfl (.cons rfl (.cons rfl (.cons rfl (.cons rfl (.cons rfl (.cons rfl (.cons rfl (.cons rfl .nil))))))))))) (.cons rfl (.cons rfl .nil)))
            · refine Tr.pass rfl rfl rfl rfl rfl (by decide) ?_
              refine Tr.pass rfl rfl rfl rfl rfl (by decide) ?_
              refine Tr.pass rfl rfl rfl rfl rfl (by decide) ?_
              refine Tr.val (wn rfl) rfl (fun _ _ h1 h2 => run_pickT (h1.ev rfl) (h1.ev rfl)) ?_
              exact Tr.nil (Tr.fin0 (.cons rfl (.cons rfl (.cons rfl (.cons rfl (.cons rfl (.cons rfl (.cons rfl (.cons rfl (.cons rfl (.cons rfl (.cons rfl .nil))))))))))) (.cons rfl (.cons rfl .nil)))
          · show Tr _ _ (LF [(0, (.slice Ap0_0 (p0).length cp0_0)), (1, (.slice Ap1_0 (p1).length cp1_0)), (2, (.func (.func fid2) #[] cap2.toArray)), (7, (.slice none (([] : List TBand)).length 0)), (8, (.int .i64 x150)), (9, (.int .i64 x151)), (11, (.slice Au155_0 (x154).length cu155_0)), (25, (.slice Al152 (l152).length cl152)), (26, (.int .i64 2)), (27, (.int .i64 x153)), (41, (.bool ((x153 == 0) || ((p0.length : Int) == 0))))]) (LE [(2, ow none 0 104 fl_TBand ([] : List TBand)), (9, ow Al152 cl152 65 fl_LTBand l152)]) _
            refine Tr.nil (Tr.normThen ?_)
            refine Tr.cond rfl H (fun H => ?_) (fun H => ?_)
            · refine Tr.draw (by kernel_rfl) (by kernel_rfl) ?_
              refine Tq.val (wn rfl) rfl (fun _ _ h1 h2 => run_move (h1.ev rfl)) ?_
              obtain ⟨x168, hx168, H⟩ := bnd H
              obtain ⟨hx1680, hx1681, hx1682⟩ := idx_some hx168
              obtain ⟨u169, hRu169, hoku169, hcu169⟩ := (hoku155_0).el hx1682
              obtain ⟨Au169_0, cu169_0⟩ := u169
              have hoku169_0 := hoku169
              replace hoku169_0 : Sl w.O w.W fl_i64 Au169_0 cu169_0 x168.Xs := hoku169_0
              replace hRu169 : w.R (adB Au155_0) := Or.inl hRu169
              refine Tq.val (wn rfl) rfl (fun _ _ h1 h2 => run_indexAddr el_65 (h1.ev rfl) hoku155_0.form (h1.ev rfl) hx1680 hx1681) ?_
              refine Tq.val (wn rfl) rfl (fun _ _ h1 h2 => run_fieldAddr fo_104_0 (h1.ev rfl)) ?_
              refine Tq.val (wn rfl) rfl (fun _ _ h1 h2 => run_load1 ag_3 (h1.ev rfl) (CellsAt.drop (rdR hRu169 hcu169 h2) 0) rfl) ?_
              refine Tq.val (wn rfl) rfl (fun _ _ h1 h2 => run_move (h1.ev rfl)) ?_
              refine Tq.val (wn rfl) rfl (fun _ _ h1 h2 => run_move (h1.ev rfl)) ?_
              refine Tq.val (wn rfl) rfl (fun _ _ h1 h2 => run_len un_65 (h1.ev rfl)) ?_
              refine Tq.val (wn rfl) rfl (fun _ _ h1 h2 => run_sub (h1.ev rfl) (h1.ev rfl)) ?_
              obtain ⟨x170, hx170, H⟩ := bnd H
              obtain ⟨hx1700, hx1701, hx1702⟩ := idx_some hx170
              obtain ⟨u171, hRu171, hoku171, hcu171⟩ := (hoku155_0).el hx1702
              obtain ⟨Au171_0, cu171_0⟩ := u171
              have hoku171_0 := hoku171
              replace hoku171_0 : Sl w.O w.W fl_i64 Au171_0 cu171_0 x170.Xs := hoku171_0
              replace hRu171 : w.R (adB Au155_0) := Or.inl hRu171
              refine Tq.val (wn rfl) rfl (fun _ _ h1 h2 => run_indexAddr el_65 (h1.ev rfl) hoku155_0.form (h1.ev rfl) hx1700 hx1701) ?_
              refine Tq.val (wn rfl) rfl (fun _ _ h1 h2 => run_fieldAddr fo_104_1 (h1.ev rfl)) ?_
              refine Tq.val (wn rfl) rfl (fun _ _ h1 h2 => run_load1 ag_3 (h1.ev rfl) (CellsAt.drop (rdR hRu171 hcu171 h2) 1) rfl) ?_
              refine Tq.val (wn rfl) rfl (fun _ _ h1 h2 => run_assign (h1.ev rfl)) ?_
              refine Tq.val (wn rfl) rfl (fun _ _ h1 h2 => run_assign (h1.ev rfl)) ?_
              refine Tq.nil ?_
              exact Tr.backThen leJ162 (x168.Y0, x170.Y1) H (.cons rfl (.cons rfl (.cons rfl (.cons rfl (.cons rfl (.cons rfl (.cons rfl (.cons rfl (.cons rfl (.cons rfl .nil)))))))))) (.cons rfl (.cons rfl .nil))
            · refine Tr.skip ?_
              exact Tr.backThen leJ162 (x150, x151) H (.cons rfl (.cons rfl (.cons rfl (.cons rfl (.cons rfl (.cons rfl (.cons rfl (.cons rfl (.cons rfl (.cons rfl .nil)))))))))) (.cons rfl (.cons rfl .nil))
        · intro w s hlJ163 hs
          obtain ⟨x160, x161⟩ := s
          have H := hs
          replace H : F_shape_Merge_J4 l152 x153 (F_shape_Merge_L3 N p0 p1 p2 mF_shape_Merge_L3) x154 x160 x161 = some r := H
          replace hp0_0 := hp0_0.le hlJ163
          replace hp1_0 := hp1_0.le hlJ163
          replace hf2 := fun w' he => hf2 w' (hlJ163.ext.trans he)
          replace hoku155_0 := hoku155_0.le hlJ163
          replace leB := leB.trans hlJ163
          replace leF_shape_Merge_L3 := leF_shape_Merge_L3.trans hlJ163
          unfold F_shape_Merge_J4 at H
          show Tr _ _ (LF [(0, (.slice Ap0_0 (p0).length cp0_0)), (1, (.slice Ap1_0 (p1).length cp1_0)), (2, (.func (.func fid2) #[] cap2.toArray)), (7, (.slice none (([] : List TBand)).length 0)), (8, (.int .i64 x160)), (9, (.int .i64 x161)), (11, (.slice Au155_0 (x154).length cu155_0)), (25, (.slice Al152 (l152).length cl152)), (26, (.int .i64 2)), (27, (.int .i64 x153))]) (LE [(2, ow none 0 104 fl_TBand ([] : List TBand)), (9, ow Al152 cl152 65 fl_LTBand l152)]) _
          refine Tr.draw (by kernel_rfl) (by kernel_rfl) ?_
          refine Tq.val (wn rfl) rfl (fun _ _ h1 h2 => run_move (h1.ev rfl)) ?_
          refine Tq.val (wn rfl) rfl (fun _ _ h1 h2 => run_move (h1.ev rfl)) ?_
          obtain ⟨x164, hx164, H⟩ := bnd H
          obtain ⟨hx1640, hx1641, hx1642⟩ := idx_some hx164
          obtain ⟨u165, hRu165, hoku165, hcu165⟩ := (hoku155_0).el hx1642
          obtain ⟨Au165_0, cu165_0⟩ := u165
          have hoku165_0 := hoku165
          replace hoku165_0 : Sl w.O w.W fl_i64 Au165_0 cu165_0 x164.Xs := hoku165_0
          replace hRu165 : w.R (adB Au155_0) := Or.inl hRu165
          refine Tq.val (wn rfl) rfl (fun _ _ h1 h2 => run_indexAddr el_65 (h1.ev rfl) hoku155_0.form (h1.ev rfl) hx1640 hx1641) ?_
          refine Tq.val (wn rfl) rfl (fun _ _ h1 h2 => run_fieldAddr fo_104_0 (h1.ev rfl)) ?_
          refine Tq.val (wn rfl) rfl (fun _ _ h1 h2 => run_load1 ag_3 (h1.ev rfl) (CellsAt.drop (rdR hRu165 hcu165 h2) 0) rfl) ?_
          refine Tq.val (wn rfl) rfl (fun _ _ h1 h2 => run_min (h1.ev rfl) (h1.ev rfl) _) ?_
          refine Tq.val (wn rfl) rfl (fun _ _ h1 h2 => run_move (h1.ev rfl)) ?_
          refine Tq.val (wn rfl) rfl (fun _ _ h1 h2 => run_move (h1.ev rfl)) ?_
          refine Tq.val (wn rfl) rfl (fun _ _ h1 h2 => run_move (h1.ev rfl)) ?_
          refine Tq.val (wn rfl) rfl (fun _ _ h1 h2 => run_len un_65 (h1.ev rfl)) ?_
          refine Tq.val (wn rfl) rfl (fun _ _ h1 h2 => run_sub (h1.ev rfl) (h1.ev rfl)) ?_
          obtain ⟨x166, hx166, H⟩ := bnd H
          obtain ⟨hx1660, hx1661, hx1662⟩ := idx_some hx166
          obtain ⟨u167, hRu167, hoku167, hcu167⟩ := (hoku155_0).el hx1662
          obtain ⟨Au167_0, cu167_0⟩ := u167
          have hoku167_0 := hoku167
          replace hoku167_0 : Sl w.O w.W fl_i64 Au167_0 cu167_0 x166.Xs := hoku167_0
          replace hRu167 : w.R (adB Au155_0) := Or.inl hRu167
          refine Tq.val (wn rfl) rfl (fun _ _ h1 h2 => run_indexAddr el_65 (h1.ev rfl) hoku155_0.form (h1.ev rfl) hx1660 hx1661) ?_
          refine Tq.val (wn rfl) rfl (fun _ _ h1 h2 => run_fieldAddr fo_104_1 (h1.ev rfl)) ?_
          refine Tq.val (wn rfl) rfl (fun _ _ h1 h2 => run_load1 ag_3 (h1.ev rfl) (CellsAt.drop (rdR hRu167 hcu167 h2) 1) rfl) ?_
          refine Tq.val (wn rfl) rfl (fun _ _ h1 h2 => run_max (h1.ev rfl) (h1.ev rfl) _) ?_
          refine Tq.val (wn rfl) rfl (fun _ _ h1 h2 => run_assign (h1.ev rfl)) ?_
          refine Tq.val (wn rfl) rfl (fun _ _ h1 h2 => run_assign (h1.ev rfl)) ?_
          refine Tq.nil (Tr.normBlock (Tr.normThen ?_))
          refine Tr.region ?_
          refine Tr.val (wn rfl) rfl (fun _ _ h1 h2 => run_add (h1.ev rfl) (h1.ev rfl)) ?_
          refine Tr.val (wn rfl) rfl (fun _ _ h1 h2 => run_move (h1.ev rfl)) ?_
          refine Tr.nil ?_
          exact Tr.backThen leF_shape_Merge_L3 ((min x160 x164.Y0), (max x161 x166.Y1), l152, (w64 (x153 + 1)), Al152, cl152) ⟨H, hl152⟩ (.cons rfl (.cons rfl (.cons rfl (.cons rfl (.cons rfl (.cons rfl (.cons rfl (.cons rfl (.cons rfl .nil))))))))) (.cons rfl (.cons rfl .nil))
      · refine Tr.skip (Tr.normBlock (Tr.normThen ?_))
        refine Tr.region ?_
        refine Tr.val (wn rfl) rfl (fun _ _ h1 h2 => run_add (h1.ev rfl) (h1.ev rfl)) ?_
        refine Tr.val (wn rfl) rfl (fun _ _ h1 h2 => run_move (h1.ev rfl)) ?_
        refine Tr.nil ?_
        exact Tr.backThen leF_shape_Merge_L3 (x150, x151, l152, (w64 (x153 + 1)), Al152, cl152) ⟨H, hl152⟩ (.cons rfl (.cons rfl (.cons rfl (.cons rfl (.cons rfl (.cons rfl (.cons rfl (.cons rfl (.cons rfl .nil))))))))) (.cons rfl (.cons rfl .nil))
    · refine Tr.exit (Tr.exitThen (Tr.exitThen (Tr.exitBlock (Tr.normThen ?_))))
      refine Tr.seq ?_
      refine Tr.block ?_
      refine Tr.loop (σ := (List TBand) × (List TBand) × (List TBand) × Int × (Option Addr) × Nat × (Option Addr) × Nat × (Option Addr) × Nat) (fun m w s => F_shape_Merge_L9 N p2 x151 m s.1 s.2.1 s.2.2.1 s.2.2.2.1 = some r ∧ Sl w.O w.W fl_TBand s.2.2.2.2.1 s.2.2.2.2.2.1 s.1 ∧ Sl w.O w.W fl_TBand s.2.2.2.2.2.2.1 s.2.2.2.2.2.2.2.1 s.2.1 ∧ SlF s.2.2.2.2.2.2.2.2.1 (s.2.2.1).length s.2.2.2.2.2.2.2.2.2) (fun s => [(0, (.slice s.2.2.2.2.1 (s.1).length s.2.2.2.2.2.1)), (1, (.slice s.2.2.2.2.2.2.1 (s.2.1).length s.2.2.2.2.2.2.2.1)), (2, (.func (.func fid2) #[] cap2.toArray)), (7, (.slice s.2.2.2.2.2.2.2.2.1 (s.2.2.1).length s.2.2.2.2.2.2.2.2.2)), (8, (.int .i64 s.2.2.2.1)), (9, (.int .i64 x151))]) (fun s => [(2, ow s.2.2.2.2.2.2.2.2.1 s.2.2.2.2.2.2.2.2.2 104 fl_TBand s.2.2.1)]) N (p0, p1, ([] : List TBand), x150, Ap0_0, cp0_0, Ap1_0, cp1_0, none, 0) ⟨H, hp0_0, hp1_0, slf_nil⟩ (.cons rfl (.cons rfl (.cons rfl (.cons rfl (.cons rfl (.cons rfl .nil)))))) (.cons rfl .nil) (fun _ _ h => noSome (h.1)) ?_
      intro w leF_shape_Merge_L9 mF_shape_Merge_L9 s hs
      obtain ⟨l292, l293, l294, x295, Al292, cl292, Al293, cl293, Al294, cl294⟩ := s
      obtain ⟨H, hl292, hl293, hl294⟩ := hs
      replace H : F_shape_Merge_L9 N p2 x151 (mF_shape_Merge_L9 + 1) l292 l293 l294 x295 = some r := H
      replace hf2 := fun w' he => hf2 w' (leF_shape_Merge_L9.ext.trans he)
      replace leB := leB.trans leF_shape_Merge_L9
      replace leF_shape_Merge_L3 := leF_shape_Merge_L3.trans leF_shape_Merge_L9
      replace hl292 : Sl w.O w.W fl_TBand Al292 cl292 l292 := hl292
      replace hl293 : Sl w.O w.W fl_TBand Al293 cl293 l293 := hl293
      replace hl294 : SlF Al294 (l294).length cl294 := hl294
      rw [F_shape_Merge_L9.eq_2] at H
      show Tr _ _ (LF [(0, (.slice Al292 (l292).length cl292)), (1, (.slice Al293 (l293).length cl293)), (2, (.func (.func fid2) #[] cap2.toArray)), (7, (.slice Al294 (l294).length cl294)), (8, (.int .i64 x295)), (9, (.int .i64 x151))]) (LE [(2, ow Al294 cl294 104 fl_TBand l294)]) _
      refine Tr.seq ?_
      refine Tr.seq ?_
      refine Tr.region ?_
      refine Tr.val (wn rfl) rfl (fun _ _ h1 h2 => run_move (h1.ev rfl)) ?_
      refine Tr.val (wn rfl) rfl (fun _ _ h1 h2 => run_move (h1.ev rfl)) ?_
      refine Tr.val (wn rfl) rfl (fun _ _ h1 h2 => run_lss (h1.ev rfl) (h1.ev rfl)) ?_
      refine Tr.nil (Tr.normThen ?_)
      refine Tr.cond rfl H (fun H => ?_) (fun H => ?_)
      · refine Tr.skip (Tr.normThen ?_)
        refine Tr.block ?_
        refine Tr.seq ?_
        refine Tr.block ?_
        refine Tr.loop (σ := (List TBand) × (Option Addr) × Nat) (fun m w s => F_shape_Merge_L10 N p2 x151 l293 l294 x295 (F_shape_Merge_L9 N p2 x151 mF_shape_Merge_L9) m s.1 = some r ∧ Sl w.O w.W fl_TBand s.2.1 s.2.2 s.1) (fun s => [(0, (.slice s.2.1 (s.1).length s.2.2)), (1, (.slice Al293 (l293).length cl293)), (2, (.func (.func fid2) #[] cap2.toArray)), (7, (.slice Al294 (l294).length cl294)), (8, (.int .i64 x295)), (9, (.int .i64 x151))]) (fun s => [(2, ow Al294 cl294 104 fl_TBand l294)]) N (l292, Al292, cl292) ⟨H, hl292⟩ (.cons rfl (.cons rfl (.cons rfl (.cons rfl (.cons rfl (.cons rfl .nil)))))) (.cons rfl .nil) (fun _ _ h => noSome (h.1)) ?_
        intro w leF_shape_Merge_L10 mF_shape_Merge_L10 s hs
        obtain ⟨l311, Al311, cl311⟩ := s
        obtain ⟨H, hl311⟩ := hs
        replace H : F_shape_Merge_L10 N p2 x151 l293 l294 x295 (F_shape_Merge_L9 N p2 x151 mF_shape_Merge_L9) (mF_shape_Merge_L10 + 1) l311 = some r := H
        replace hl293 := hl293.le leF_shape_Merge_L10
        replace hf2 := fun w' he => hf2 w' (leF_shape_Merge_L10.ext.trans he)
        replace leB := leB.trans leF_shape_Merge_L10
        replace leF_shape_Merge_L3 := leF_shape_Merge_L3.trans leF_shape_Merge_L10
        replace leF_shape_Merge_L9 := leF_shape_Merge_L9.trans leF_shape_Merge_L10
        replace hl311 : Sl w.O w.W fl_TBand Al311 cl311 l311 := hl311
        rw [F_shape_Merge_L10.eq_2] at H
        show Tr _ _ (LF [(0, (.slice Al311 (l311).length cl311)), (1, (.slice Al293 (l293).length cl293)), (2, (.func (.func fid2) #[] cap2.toArray)), (7, (.slice Al294 (l294).length cl294)), (8, (.int .i64 x295)), (9, (.int .i64 x151))]) (LE [(2, ow Al294 cl294 104 fl_TBand l294)]) _
        refine Tr.seq ?_
        refine Tr.seq ?_
        refine Tr.region ?_
        refine Tr.val (wn rfl) rfl (fun _ _ h1 h2 => run_move (h1.ev rfl)) ?_
        refine Tr.val (wn rfl) rfl (fun _ _ h1 h2 => run_len un_65 (h1.ev rfl)) ?_
        refine Tr.val (wn rfl) rfl (fun _ _ h1 h2 => run_gtr (h1.ev rfl) (h1.ev rfl)) ?_
        refine Tr.val (wn rfl) rfl (fun _ _ h1 h2 => run_move (h1.ev rfl)) ?_
        obtain ⟨g314, hg314, H⟩ := bnd H
        refine Tr.mid0 7 [(0, (.slice Al311 (l311).length cl311)), (1, (.slice Al293 (l293).length cl293)), (2, (.func (.func fid2) #[] cap2.toArray)), (7, (.slice Al294 (l294).length cl294)), (8, (.int .i64 x295)), (9, (.int .i64 x151)), (82, (.bool g314))] [(2, ow Al294 cl294 104 fl_TBand l294)] ?_ ?_
        · cases hg349 : (decide (0 < (l311.length : Int)))
          · rw [hg349] at hg314
            rw [if_neg (by decide)] at hg314
            have H := hg314
            obtain rfl := Option.some.inj H
            refine Tr.pass rfl rfl rfl rfl rfl (by decide) ?_
            refine Tr.pass rfl rfl rfl rfl rfl (by decide) ?_
            refine Tr.pass rfl rfl rfl rfl rfl (by decide) ?_
            refine Tr.pass rfl rfl rfl rfl rfl (by decide) ?_
            refine Tr.pass rfl rfl rfl rfl rfl (by decide) ?_
            refine Tr.pass rfl rfl rfl rfl rfl (by decide) ?_
            refine Tr.val (wn rfl) rfl (fun _ _ h1 h2 => run_pickF (h1.ev rfl) (h1.ev rfl)) ?_
            exact Tr.nil (Tr.fin0 (.cons rfl (.cons rfl (.cons rfl (.cons rfl (.cons rfl (.cons rfl (.cons rfl .nil))))))) (.cons rfl .nil))
          · rw [hg349] at hg314
            rw [if_pos rfl] at hg314
            have H := hg314
            refine Tr.val (wg rfl rfl rfl) rfl (fun _ _ h1 h2 => run_move (h1.ev rfl)) ?_
            obtain ⟨x315, hx315, H⟩ := bnd H
            obtain ⟨hx3150, hx3151, hx3152⟩ := idx_some hx315
            obtain ⟨u316, hRu316, hoku316, hcu316⟩ := (hl311).el hx3152
            obtain ⟨Au316_0, cu316_0⟩ := u316
            have hoku316_0 := hoku316
            replace hoku316_0 : Sl w.O w.W fl_i64 Au316_0 cu316_0 x315.Xs := hoku316_0
            replace hRu316 : w.R (adB Al311) := Or.inl hRu316
            refine Tr.val (wg rfl rfl rfl) rfl (fun _ _ h1 h2 => run_indexAddr el_65 (h1.ev rfl) hl311.form (h1.ev rfl) hx3150 hx3151) ?_
            refine Tr.val (wg rfl rfl rfl) rfl (fun _ _ h1 h2 => run_fieldAddr fo_104_1 (h1.ev rfl)) ?_
            refine Tr.val (wg rfl rfl rfl) rfl (fun _ _ h1 h2 => run_load1 ag_3 (h1.ev rfl) (CellsAt.drop (rdR hRu316 hcu316 h2) 1) rfl) ?_
            refine Tr.val (wg rfl rfl rfl) rfl (fun _ _ h1 h2 => run_move (h1.ev rfl)) ?_
            refine Tr.val (wg rfl rfl rfl) rfl (fun _ _ h1 h2 => run_leq (h1.ev rfl) (h1.ev rfl)) ?_
            refine Tr.val (wn rfl) rfl (fun _ _ h1 h2 => run_pickT (h1.ev rfl) (h1.ev rfl)) ?_
            obtain rfl := Option.some.inj H
            exact Tr.nil (Tr.fin0 (.cons rfl (.cons rfl (.cons rfl (.cons rfl (.cons rfl (.cons rfl (.cons rfl .nil))))))) (.cons rfl .nil))
        · show Tr _ _ (LF [(0, (.slice Al311 (l311).length cl311)), (1, (.slice Al293 (l293).length cl293)), (2, (.func (.func fid2) #[] cap2.toArray)), (7, (.slice Al294 (l294).length cl294)), (8, (.int .i64 x295)), (9, (.int .i64 x151)), (82, (.bool g314))]) (LE [(2, ow Al294 cl294 104 fl_TBand l294)]) _
          refine Tr.nil (Tr.normThen ?_)
          refine Tr.cond rfl H (fun H => ?_) (fun H => ?_)
          · refine Tr.skip (Tr.normThen ?_)
            refine Tr.block ?_
            refine Tr.region ?_
            refine Tr.val (wn rfl) rfl (fun _ _ h1 h2 => run_move (h1.ev rfl)) ?_
            obtain ⟨l317, hl317, H⟩ := bnd H
            refine Tr.val (wn rfl) rfl (fun _ _ h1 h2 => run_cutL el_65 (h1.ev rfl) hl311.form (h1.ev rfl) hl317) ?_
            refine Tr.val (wn rfl) rfl (fun _ _ h1 h2 => run_assign (h1.ev rfl)) ?_
            refine Tr.nil (Tr.normBlock ?_)
            exact Tr.backThen leF_shape_Merge_L10 (l317, (cutA Al311 (1 : Int).toNat 3 cl311), (cl311 - (1 : Int).toNat)) ⟨H, (Sl.cut hl311 hl317)⟩ (.cons rfl (.cons rfl (.cons rfl (.cons rfl (.cons rfl (.cons rfl .nil)))))) (.cons rfl .nil)
          · refine Tr.exit (Tr.exitThen (Tr.exitThen (Tr.exitBlock (Tr.normThen ?_))))
            refine Tr.seq ?_
            refine Tr.block ?_
            refine Tr.loop (σ := (List TBand) × (Option Addr) × Nat) (fun m w s => F_shape_Merge_L11 N p2 x151 l294 x295 (F_shape_Merge_L9 N p2 x151 mF_shape_Merge_L9) l311 m s.1 = some r ∧ Sl w.O w.W fl_TBand s.2.1 s.2.2 s.1) (fun s => [(0, (.slice Al311 (l311).length cl311)), (1, (.slice s.2.1 (s.1).length s.2.2)), (2, (.func (.func fid2) #[] cap2.toArray)), (7, (.slice Al294 (l294).length cl294)), (8, (.int .i64 x295)), (9, (.int .i64 x151))]) (fun s => [(2, ow Al294 cl294 104 fl_TBand l294)]) N (l293, Al293, cl293) ⟨H, hl293⟩ (.cons rfl (.cons rfl (.cons rfl (.cons rfl (.cons rfl (.cons rfl .nil)))))) (.cons rfl .nil) (fun _ _ h => noSome (h.1)) ?_
            intro w leF_shape_Merge_L11 mF_shape_Merge_L11 s hs
            obtain ⟨l333, Al333, cl333⟩ := s
            obtain ⟨H, hl333⟩ := hs
            replace H : F_shape_Merge_L11 N p2 x151 l294 x295 (F_shape_Merge_L9 N p2 x151 mF_shape_Merge_L9) l311 (mF_shape_Merge_L11 + 1) l333 = some r := H
            replace hl311 := hl311.le leF_shape_Merge_L11
            replace hf2 := fun w' he => hf2 w' (leF_shape_Merge_L11.ext.trans he)
            replace leB := leB.trans leF_shape_Merge_L11
            replace leF_shape_Merge_L3 := leF_shape_Merge_L3.trans leF_shape_Merge_L11
            replace leF_shape_Merge_L9 := leF_shape_Merge_L9.trans leF_shape_Merge_L11
            replace leF_shape_Merge_L10 := leF_shape_Merge_L10.trans leF_shape_Merge_L11
            replace hl333 : Sl w.O w.W fl_TBand Al333 cl333 l333 := hl333
            rw [F_shape_Merge_L11.eq_2] at H
            show Tr _ _ (LF [(0, (.slice Al311 (l311).length cl311)), (1, (.slice Al333 (l333).length cl333)), (2, (.func (.func fid2) #[] cap2.toArray)), (7, (.slice Al294 (l294).length cl294)), (8, (.int .i64 x295)), (9, (.int .i64 x151))]) (LE [(2, ow Al294 cl294 104 fl_TBand l294)]) _
            refine Tr.seq ?_
            refine Tr.seq ?_
            refine Tr.region ?_
            refine Tr.val (wn rfl) rfl (fun _ _ h1 h2 => run_move (h1.ev rfl)) ?_
            refine Tr.val (wn rfl) rfl (fun _ _ h1 h2 => run_len un_65 (h1.ev rfl)) ?_
            refine Tr.val (wn rfl) rfl (fun _ _ h1 h2 => run_gtr (h1.ev rfl) (h1.ev rfl)) ?_
            refine Tr.val (wn rfl) rfl (fun _ _ h1 h2 => run_move (h1.ev rfl)) ?_
            obtain ⟨g336, hg336, H⟩ := bnd H
            refine Tr.mid0 7 [(0, (.slice Al311 (l311).length cl311)), (1, (.slice Al333 (l333).length cl333)), (2, (.func (.func fid2) #[] cap2.toArray)), (7, (.slice Al294 (l294).length cl294)), (8, (.int .i64 x295)), (9, (.int .i64 x151)), (95, (.bool g336))] [(2, ow Al294 cl294 104 fl_TBand l294)] ?_ ?_
            · cases hg349 : (decide (0 < (l333.length : Int)))
              · rw [hg349] at hg336
                rw [if_neg (by decide)] at hg336
                have H := hg336
                obtain rfl := Option.some.inj H
                refine Tr.pass rfl rfl rfl rfl rfl (by decide) ?_
                refine Tr.pass rfl rfl rfl rfl rfl (by decide) ?_
                refine Tr.pass rfl rfl rfl rfl rfl (by decide) ?_
                refine Tr.pass rfl rfl rfl rfl rfl (by decide) ?_
                refine Tr.pass rfl rfl rfl rfl rfl (by decide) ?_
                refine Tr.pass rfl rfl rfl rfl rfl (by decide) ?_
                refine Tr.val (wn rfl) rfl (fun _ _ h1 h2 => run_pickF (h1.ev rfl) (h1.ev rfl)) ?_
                exact Tr.nil (Tr.fin0 (.cons rfl (.cons rfl (.cons rfl (.cons rfl (.cons rfl (.cons rfl (.cons rfl .nil))))))) (.cons rfl .nil))
              · rw [hg349] at hg336
                rw [if_pos rfl] at hg336
                have H := hg336
                refine Tr.val (wg rfl rfl rfl) rfl (fun _ _ h1 h2 => run_move (h1.ev rfl)) ?_
                obtain ⟨x337, hx337, H⟩ := bnd H
                obtain ⟨hx3370, hx3371, hx3372⟩ := idx_some hx337
                obtain ⟨u338, hRu338, hoku338, hcu338⟩ := (hl333).el hx3372
                obtain ⟨Au338_0, cu338_0⟩ := u338
                have hoku338_0 := hoku338
                replace hoku338_0 : Sl w.O w.W fl_i64 Au338_0 cu338_0 x337.Xs := hoku338_0
                replace hRu338 : w.R (adB Al333) := Or.inl hRu338
                refine Tr.val (wg rfl rfl rfl) rfl (fun _ _ h1 h2 => run_indexAddr el_65 (h1.ev rfl) hl333.form (h1.ev rfl) hx3370 hx3371) ?_
                refine Tr.val (wg rfl rfl rfl) rfl (fun _ _ h1 h2 => run_fieldAddr fo_104_1 (h1.ev rfl)) ?_
                refine Tr.val (wg rfl rfl rfl) rfl (fun _ _ h1 h2 => run_load1 ag_3 (h1.ev rfl) (CellsAt.drop (rdR hRu338 hcu338 h2) 1) rfl) ?_
                refine Tr.val (wg rfl rfl rfl) rfl (fun _ _ h1 h2 => run_move (h1.ev rfl)) ?_
                refine Tr.val (wg rfl rfl rfl) rfl (fun _ _ h1 h2 => run_leq (h1.ev rfl) (h1.ev rfl)) ?_
                refine Tr.val (wn rfl) rfl (fun _ _ h1 h2 => run_pickT (h1.ev rfl) (h1.ev rfl)) ?_
                obtain rfl := Option.some.inj H
                exact Tr.nil (Tr.fin0 (.cons rfl (.cons rfl (.cons rfl (.cons rfl (.cons rfl (.cons rfl (.cons rfl .nil))))))) (.cons rfl .nil))
            · show Tr _ _ (LF [(0, (.slice Al311 (l311).length cl311)), (1, (.slice Al333 (l333).length cl333)), (2, (.func (.func fid2) #[] cap2.toArray)), (7, (.slice Al294 (l294).length cl294)), (8, (.int .i64 x295)), (9, (.int .i64 x151)), (95, (.bool g336))]) (LE [(2, ow Al294 cl294 104 fl_TBand l294)]) _
              refine Tr.nil (Tr.normThen ?_)
              refine Tr.cond rfl H (fun H => ?_) (fun H => ?_)
              · refine Tr.skip (Tr.normThen ?_)
                refine Tr.block ?_
                refine Tr.region ?_
                refine Tr.val (wn rfl) rfl (fun _ _ h1 h2 => run_move (h1.ev rfl)) ?_
                obtain ⟨l339, hl339, H⟩ := bnd H
                refine Tr.val (wn rfl) rfl (fun _ _ h1 h2 => run_cutL el_65 (h1.ev rfl) hl333.form (h1.ev rfl) hl339) ?_
                refine Tr.val (wn rfl) rfl (fun _ _ h1 h2 => run_assign (h1.ev rfl)) ?_
                refine Tr.nil (Tr.normBlock ?_)
                exact Tr.backThen leF_shape_Merge_L11 (l339, (cutA Al333 (1 : Int).toNat 3 cl333), (cl333 - (1 : Int).toNat)) ⟨H, (Sl.cut hl333 hl339)⟩ (.cons rfl (.cons rfl (.cons rfl (.cons rfl (.cons rfl (.cons rfl .nil)))))) (.cons rfl .nil)
              · refine Tr.exit (Tr.exitThen (Tr.exitThen (Tr.exitBlock (Tr.normThen ?_))))
                refine Tr.seq ?_
                refine Tr.region ?_
                refine Tr.val (wn rfl) rfl (fun _ _ h1 h2 => run_move (h1.ev rfl)) ?_
                refine Tr.val (wn rfl) rfl (fun _ _ h1 h2 => run_move (h1.ev rfl)) ?_
                refine Tr.val (wn rfl) rfl (fun _ _ h1 h2 => run_move (h1.ev rfl)) ?_
                obtain ⟨y340, hy340, H⟩ := bnd H
                refine Tr.callG [] [] (U := (Option Addr × Nat)) (fun u => (.tuple #[(.slice u.1 (y340.1).length u.2), (.int .i64 y340.2)])) (fun O W u => Sl O W fl_i64 u.1 u.2 y340.1) (fun u => []) rfl pk_nil (fun _ => rfl) (wn rfl) rfl Try.call115 (evl_cons rfl (evl_cons rfl (evl_cons rfl evl_nil))) (fun W hW hp hE => F_shape_Set__at_ok l311 Al311 cl311 (hl311.extO (hW.extS hp)) x295 x151 y340 hy340 hE) ?_
                intro w u le341 hu
                obtain ⟨Ay340_0, cy340_0⟩ := u
                have gy340_0 := hu
                replace hl311 := hl311.le le341
                replace hl333 := hl333.le le341
                replace hf2 := fun w' he => hf2 w' (le341.ext.trans he)
                replace leB := leB.trans le341
                replace leF_shape_Merge_L3 := leF_shape_Merge_L3.trans le341
                replace leF_shape_Merge_L9 := leF_shape_Merge_L9.trans le341
                replace leF_shape_Merge_L10 := leF_shape_Merge_L10.trans le341
                replace leF_shape_Merge_L11 := leF_shape_Merge_L11.trans le341
                have hgy340_0 : Sl w.O w.W fl_i64 Ay340_0 cy340_0 y340.1 := gy340_0 --@phi
                show Tr _ _ (uf _ 102 (.tuple #[(.slice Ay340_0 (y340.1).length cy340_0), (.int .i64 y340.2)])) (_) _
                refine Tr.val (wn rfl) rfl (fun _ _ h1 h2 => run_move (h1.ev rfl)) ?_
                refine Tr.val (wn rfl) rfl (fun _ _ h1 h2 => run_extract (h1.ev rfl) rfl) ?_
                refine Tr.val (wn rfl) rfl (fun _ _ h1 h2 => run_extract (h1.ev rfl) rfl) ?_
                refine Tr.val (wn rfl) rfl (fun _ _ h1 h2 => run_assign (h1.ev rfl)) ?_
                refine Tr.val (wn rfl) rfl (fun _ _ h1 h2 => run_assign (h1.ev rfl)) ?_
                refine Tr.nil (Tr.normThen ?_)
                refine Tr.seq ?_
                refine Tr.region ?_
                refine Tr.val (wn rfl) rfl (fun _ _ h1 h2 => run_move (h1.ev rfl)) ?_
                refine Tr.val (wn rfl) rfl (fun _ _ h1 h2 => run_move (h1.ev rfl)) ?_
                refine Tr.val (wn rfl) rfl (fun _ _ h1 h2 => run_move (h1.ev rfl)) ?_
                obtain ⟨y342, hy342, H⟩ := bnd H
                refine Tr.callG [] [] (U := (Option Addr × Nat)) (fun u => (.tuple #[(.slice u.1 (y342.1).length u.2), (.int .i64 y342.2)])) (fun O W u => Sl O W fl_i64 u.1 u.2 y342.1) (fun u => []) rfl pk_nil (fun _ => rfl) (wn rfl) rfl Try.call115 (evl_cons rfl (evl_cons rfl (evl_cons rfl evl_nil))) (fun W hW hp hE => F_shape_Set__at_ok l333 Al333 cl333 (hl333.extO (hW.extS hp)) x295 x151 y342 hy342 hE) ?_
                intro w u le343 hu
                obtain ⟨Ay342_0, cy342_0⟩ := u
                have gy342_0 := hu
                replace hl311 := hl311.le le343
                replace hl333 := hl333.le le343
                replace hf2 := fun w' he => hf2 w' (le343.ext.trans he)
                replace hgy340_0 := hgy340_0.le le343
                replace leB := leB.trans le343
                replace leF_shape_Merge_L3 := leF_shape_Merge_L3.trans le343
                replace leF_shape_Merge_L9 := leF_shape_Merge_L9.trans le343
                replace leF_shape_Merge_L10 := leF_shape_Merge_L10.trans le343
                replace leF_shape_Merge_L11 := leF_shape_Merge_L11.trans le343
                have hgy342_0 : Sl w.O w.W fl_i64 Ay342_0 cy342_0 y342.1 := gy342_0 --@phi
                show Tr _ _ (uf _ 109 (.tuple #[(.slice Ay342_0 (y342.1).length cy342_0), (.int .i64 y342.2)])) (_) _
                refine Tr.val (wn rfl) rfl (fun _ _ h1 h2 => run_move (h1.ev rfl)) ?_
                refine Tr.val (wn rfl) rfl (fun _ _ h1 h2 => run_extract (h1.ev rfl) rfl) ?_
                refine Tr.val (wn rfl) rfl (fun _ _ h1 h2 => run_extract (h1.ev rfl) rfl) ?_
                refine Tr.val (wn rfl) rfl (fun _ _ h1 h2 => run_assign (h1.ev rfl)) ?_
                refine Tr.val (wn rfl) rfl (fun _ _ h1 h2 => run_assign (h1.ev rfl)) ?_
                refine Tr.nil (Tr.normThen ?_)
                refine Tr.seq ?_
                refine Tr.region ?_
                refine Tr.val (wn rfl) rfl (fun _ _ h1 h2 => run_move (h1.ev rfl)) ?_
                refine Tr.val (wn rfl) rfl (fun _ _ h1 h2 => run_move (h1.ev rfl)) ?_
                refine Tr.val (wn rfl) rfl (fun _ _ h1 h2 => run_min (h1.ev rfl) (h1.ev rfl) _) ?_
                refine Tr.val (wn rfl) rfl (fun _ _ h1 h2 => run_assign (h1.ev rfl)) ?_
                refine Tr.nil (Tr.normThen ?_)
                refine Tr.seq ?_
                refine Tr.region ?_
                refine Tr.val (wn rfl) rfl (fun _ _ h1 h2 => run_move (h1.ev rfl)) ?_
                refine Tr.val (wn rfl) rfl (fun _ _ h1 h2 => run_move (h1.ev rfl)) ?_
                refine Tr.val (wn rfl) rfl (fun _ _ h1 h2 => run_move (h1.ev rfl)) ?_
                refine Tr.val (wn rfl) rfl (fun _ _ h1 h2 => run_move (h1.ev rfl)) ?_
                refine Tr.val (wn rfl) rfl (fun _ _ h1 h2 => run_move (h1.ev rfl)) ?_
                refine Tr.val (wn rfl) rfl (fun _ _ h1 h2 => run_move (h1.ev rfl)) ?_
                obtain ⟨y344, hy344, H⟩ := bnd H
                refine Tr.callM [12] [emp] (U := (Option Addr × Nat)) (fun u => (.slice u.1 (y344).length u.2)) (fun u => SlF u.1 (y344).length u.2) (fun u => [ow u.1 u.2 3 fl_i64 y344]) rfl (pk_cons rfl pk_nil) (fun _ => rfl) (wn rfl) rfl Try.call116 (evl_cons rfl (evl_cons rfl (evl_cons rfl evl_nil))) (fun W hW hp hE => F_shape_line_ok N y340.1 Ay340_0 cy340_0 (hgy340_0.rl.ext (hW.extS hp)) y342.1 Ay342_0 cy342_0 (hgy342_0.rl.ext (hW.extS hp)) p2 fid2 cap2 hg2 (fun w' he => hf2 w' ((hW.extS hp).trans he)) y344 hy344 hE) ?_
                intro u hu
                obtain ⟨Ay344_0, cy344_0⟩ := u
                have gy344_0 := hu
                have hgy344_0 : SlF Ay344_0 (y344).length cy344_0 := gy344_0 --@phi
                show Tr _ _ (uf _ 121 (.slice Ay344_0 (y344).length cy344_0)) (up _ 12 (ow Ay344_0 cy344_0 3 fl_i64 y344)) _
                refine Tr.build (vs := [(0, (.int .i64 x295)), (1, (.int .i64 (min y340.2 y342.2))), (2, (.slice Ay344_0 (y344).length cy344_0))]) (cs := [(.int .i64 x295), (.int .i64 (min y340.2 y342.2)), (.slice Ay344_0 (y344).length cy344_0)]) (wn rfl) rfl (evs_cons rfl (evs_cons rfl (evs_cons rfl evs_nil))) (by kernel_rfl) ?_
                refine Tr.freeze 12 rfl fun w le347 hz346 => ?_
                replace hl311 := hl311.le le347
                replace hl333 := hl333.le le347
                replace hf2 := fun w' he => hf2 w' (le347.ext.trans he)
                replace hgy340_0 := hgy340_0.le le347
                replace hgy342_0 := hgy342_0.le le347
                replace leB := leB.trans le347
                replace leF_shape_Merge_L3 := leF_shape_Merge_L3.trans le347
                replace leF_shape_Merge_L9 := leF_shape_Merge_L9.trans le347
                replace leF_shape_Merge_L10 := leF_shape_Merge_L10.trans le347
                replace leF_shape_Merge_L11 := leF_shape_Merge_L11.trans le347
                obtain ⟨y348, hy348, H⟩ := bnd H
                refine Tr.callG [2] [ow Al294 cl294 104 fl_TBand l294] (U := (Option Addr × Nat)) (fun u => (.slice u.1 (y348).length u.2)) (fun O W u => SlF u.1 (y348).length u.2) (fun u => [ow u.1 u.2 104 fl_TBand y348]) rfl (pk_cons rfl pk_nil) (fun _ => rfl) (wn rfl) rfl Try.call76 (evl_cons rfl (evl_cons rfl evl_nil)) (fun W hW hp hE => F_shape_Set__push_ok l294 Al294 cl294 (TBand.mk x295 (min y340.2 y342.2) y344) Ay344_0 cy344_0 (hz346.extO (hW.extS hp)) y348 hy348 hE) ?_
                intro w u le349 hu
                obtain ⟨Ay348_0, cy348_0⟩ := u
                have gy348_0 := hu
                replace hl311 := hl311.le le349
                replace hl333 := hl333.le le349
                replace hf2 := fun w' he => hf2 w' (le349.ext.trans he)
                replace hgy340_0 := hgy340_0.le le349
                replace hgy342_0 := hgy342_0.le le349
                replace hz346 := hz346.le le349
                replace leB := leB.trans le349
                replace leF_shape_Merge_L3 := leF_shape_Merge_L3.trans le349
                replace leF_shape_Merge_L9 := leF_shape_Merge_L9.trans le349
                replace leF_shape_Merge_L10 := leF_shape_Merge_L10.trans le349
                replace leF_shape_Merge_L11 := leF_shape_Merge_L11.trans le349
                have hgy348_0 : SlF Ay348_0 (y348).length cy348_0 := gy348_0 --@phi
                show Tr _ _ (uf _ 123 (.slice Ay348_0 (y348).length cy348_0)) (up _ 2 (ow Ay348_0 cy348_0 104 fl_TBand y348)) _
                refine Tr.val (wn rfl) rfl (fun _ _ h1 h2 => run_assign (h1.ev rfl)) ?_
                refine Tr.nil (Tr.normThen ?_)
                refine Tr.region ?_
                refine Tr.val (wn rfl) rfl (fun _ _ h1 h2 => run_move (h1.ev rfl)) ?_
                refine Tr.val (wn rfl) rfl (fun _ _ h1 h2 => run_assign (h1.ev rfl)) ?_
                refine Tr.nil (Tr.normBlock ?_)
                exact Tr.backThen leF_shape_Merge_L9 (l311, l333, y348, (min y340.2 y342.2), Al311, cl311, Al333, cl333, Ay348_0, cy348_0) ⟨H, hl311, hl333, hgy348_0⟩ (.cons rfl (.cons rfl (.cons rfl (.cons rfl (.cons rfl (.cons rfl .nil)))))) (.cons rfl .nil)
      · refine Tr.exit (Tr.exitThen (Tr.exitThen (Tr.exitBlock (Tr.normThen ?_))))
        refine Tr.seq ?_
        refine Tr.region ?_
        refine Tr.val (wn rfl) rfl (fun _ _ h1 h2 => run_move (h1.ev rfl)) ?_
        refine Tr.val (wn rfl) rfl (fun _ _ h1 h2 => run_assign (h1.ev rfl)) ?_
        refine Tr.nil (Tr.normThen ?_)
        refine Tr.ret ?_
        obtain rfl := Option.some.inj H
        exact Tr.out (m := [(.slice Al294 (l294).length cl294)]) [] (res_tmp rfl res_nil) (fun W hW => ⟨w, (Al294, cl294), leB, rfl, hl294, hW.pick (ks := [2]) (by decide) (pk_cons rfl pk_nil)⟩)

theorem F_shape_Set__Less_1_ok {w : Bs} (p0 : Bool) (p1 : Bool) (r : Bool) (H : F_shape_Set__Less_1 p0 p1 = some r) (hE : HF w w.W E0) : Calls Try.prog 92 [(.bool p0), (.bool p1)].toArray w.W fun e W' => e = .returned (.bool r) ∧ HF w W' E0 := by
  unfold F_shape_Set__Less_1 at H
  have leB := Bs.Le.refl w
  refine Tr.enter (n := 10) Try.func92 rfl rfl rfl hE ?_
  refine Tr.seq ?_
  refine Tr.region ?_
  refine Tr.val (wn rfl) rfl (fun _ _ h1 h2 => run_assign (h1.ev rfl)) ?_
  refine Tr.nil (Tr.normThen ?_)
  refine Tr.seq ?_
  refine Tr.region ?_
  refine Tr.val (wn rfl) rfl (fun _ _ h1 h2 => run_move (h1.ev rfl)) ?_
  refine Tr.val (wn rfl) rfl (fun _ _ h1 h2 => run_move (h1.ev rfl)) ?_
  refine Tr.mid0 3 [(9, (.bool (p0 && (!p1))))] [] ?_ ?_
  · cases hg99 : p0
    · refine Tr.pass rfl rfl rfl rfl rfl (by decide) ?_
      refine Tr.pass rfl rfl rfl rfl rfl (by decide) ?_
      refine Tr.val (wn rfl) rfl (fun _ _ h1 h2 => run_pickF (h1.ev rfl) (h1.ev rfl)) ?_
      exact Tr.nil (Tr.fin0 (.cons rfl .nil) .nil)
    · refine Tr.val (wg rfl rfl rfl) rfl (fun _ _ h1 h2 => run_move (h1.ev rfl)) ?_
      refine Tr.val (wg rfl rfl rfl) rfl (fun _ _ h1 h2 => run_not (h1.ev rfl)) ?_
      refine Tr.val (wn rfl) rfl (fun _ _ h1 h2 => run_pickT (h1.ev rfl) (h1.ev rfl)) ?_
      exact Tr.nil (Tr.fin0 (.cons rfl .nil) .nil)
  · show Tr _ _ (LF [(9, (.bool (p0 && (!p1))))]) (LE []) _
    refine Tr.val (wn rfl) rfl (fun _ _ h1 h2 => run_assign (h1.ev rfl)) ?_
    refine Tr.nil (Tr.normThen ?_)
    refine Tr.ret ?_
    obtain rfl := Option.some.inj H
    exact Tr.out (m := [(.bool (p0 && (!p1)))]) [] (res_tmp rfl res_nil) (fun W hW => ⟨rfl, hW.low leB⟩)

theorem F_shape_Set__Less_ok (N : Nat) {w : Bs} (p0 : (List TBand)) (Ap0_0 : Option Addr) (cp0_0 : Nat) (hp0_0 : Sl w.O w.W fl_TBand Ap0_0 cp0_0 p0) (p1 : (List TBand)) (Ap1_0 : Option Addr) (cp1_0 : Nat) (hp1_0 : Sl w.O w.W fl_TBand Ap1_0 cp1_0 p1) (r : (List TBand)) (H : F_shape_Set__Less N p0 p1 = some r) (hE : HF w w.W (LEn [emp])) : Calls Try.prog 53 [(.slice Ap0_0 (p0).length cp0_0), (.slice Ap1_0 (p1).length cp1_0)].toArray w.W fun e W' => ∃ (w' : Bs) (u : (Option Addr × Nat)), w.Le w' ∧ e = .returned (.slice u.1 (r).length u.2) ∧ (SlF u.1 (r).length u.2) ∧ HF w' W' (LEn [ow u.1 u.2 104 fl_TBand r]) := by
  unfold F_shape_Set__Less at H
  have leB := Bs.Le.refl w
  refine Tr.enter (n := 8) Try.func53 rfl rfl rfl hE ?_
  refine Tr.seq ?_
  refine Tr.region ?_
  refine Tr.val (wn rfl) rfl (fun _ _ h1 h2 => run_assign (h1.ev rfl)) ?_
  refine Tr.nilOwn 1 104 fl_TBand ?_
  show Tr _ _ (uf _ 4 (.slice none (([] : List TBand)).length 0)) _ _
  refine Tr.nil (Tr.normThen ?_)
  refine Tr.seq ?_
  refine Tr.region ?_
  refine Tr.val (wn rfl) rfl (fun _ _ h1 h2 => run_move (h1.ev rfl)) ?_
  refine Tr.val (wn rfl) rfl (fun _ _ h1 h2 => run_move (h1.ev rfl)) ?_
  obtain ⟨y100, hy100, H⟩ := bnd H
  refine Tr.callG [2] [emp] (U := (Option Addr × Nat)) (fun u => (.slice u.1 (y100).length u.2)) (fun O W u => SlF u.1 (y100).length u.2) (fun u => [ow u.1 u.2 104 fl_TBand y100]) rfl (pk_cons rfl pk_nil) (fun _ => rfl) (wn rfl) rfl Try.call78 (evl_cons rfl (evl_cons rfl (evl_cons rfl evl_nil))) (fun W hW hp hE => F_shape_Merge_ok N p0 Ap0_0 cp0_0 (hp0_0.extO (hW.extS hp)) p1 Ap1_0 cp1_0 (hp1_0.extO (hW.extS hp)) (fun z0 z1 => F_shape_Set__Less_1 z0 z1) 92 [] Try.call92 (fun w' he z0 z1 y hy => F_shape_Set__Less_1_ok z0 z1 y hy (HF.start _)) y100 hy100 hE) ?_
  intro w u le101 hu
  obtain ⟨Ay100_0, cy100_0⟩ := u
  have gy100_0 := hu
  replace hp0_0 := hp0_0.le le101
  replace hp1_0 := hp1_0.le le101
  replace leB := leB.trans le101
  have hgy100_0 : SlF Ay100_0 (y100).length cy100_0 := gy100_0 --@phi
  show Tr _ _ (uf _ 7 (.slice Ay100_0 (y100).length cy100_0)) (up _ 2 (ow Ay100_0 cy100_0 104 fl_TBand y100)) _
  refine Tr.val (wn rfl) rfl (fun _ _ h1 h2 => run_assign (h1.ev rfl)) ?_
  refine Tr.nil (Tr.normThen ?_)
  refine Tr.ret ?_
  obtain rfl := Option.some.inj H
  exact Tr.out (m := [(.slice Ay100_0 (y100).length cy100_0)]) [] (res_tmp rfl res_nil) (fun W hW => ⟨w, (Ay100_0, cy100_0), leB, rfl, hgy100_0, hW.pick (ks := [2]) (by decide) (pk_cons rfl pk_nil)⟩)

theorem F_shape_Set__Core_ok (N : Nat) {w : Bs} (p0 : (List TBand)) (Ap0_0 : Option Addr) (cp0_0 : Nat) (hp0_0 : Sl w.O w.W fl_TBand Ap0_0 cp0_0 p0) (p1 : Int) (p2 : Int) (p3 : Int) (p4 : Int) (r : (List TBand)) (H : F_shape_Set__Core N p0 p1 p2 p3 p4 = some r) (hE : HF w w.W (LEn [emp])) : Calls Try.prog 108 [(.slice Ap0_0 (p0).length cp0_0), (.int .i64 p1), (.int .i64 p2), (.int .i64 p3), (.int .i64 p4)].toArray w.W fun e W' => ∃ (w' : Bs) (u : (Option Addr × Nat)), w.Le w' ∧ e = .returned (.slice u.1 (r).length u.2) ∧ (SlF u.1 (r).length u.2) ∧ HF w' W' (LEn [ow u.1 u.2 104 fl_TBand r]) := by
  unfold F_shape_Set__Core at H
  have leB := Bs.Le.refl w
  refine Tr.enter (n := 56) Try.func108 rfl rfl rfl hE ?_
  refine Tr.seq ?_
  refine Tr.region ?_
  refine Tr.val (wn rfl) rfl (fun _ _ h1 h2 => run_assign (h1.ev rfl)) ?_
  refine Tr.nilOwn 1 104 fl_TBand ?_
  show Tr _ _ (uf _ 10 (.slice none (([] : List TBand)).length 0)) _ _
  refine Tr.nil (Tr.normThen ?_)
  refine Tr.seq ?_
  refine Tr.seq ?_
  refine Tr.region ?_
  refine Tr.val (wn rfl) rfl (fun _ _ h1 h2 => run_move (h1.ev rfl)) ?_
  refine Tr.val (wn rfl) rfl (fun _ _ h1 h2 => run_len un_65 (h1.ev rfl)) ?_
  refine Tr.val (wn rfl) rfl (fun _ _ h1 h2 => run_eql (h1.ev rfl) (h1.ev rfl)) ?_
  refine Tr.nil (Tr.normThen ?_)
  refine Tr.cond rfl H (fun H => ?_) (fun H => ?_)
  · refine Tr.seq ?_
    refine Tr.region ?_
    refine Tr.val (wn rfl) rfl (fun _ _ h1 h2 => run_assign (h1.ev rfl)) ?_
    refine Tr.nilOwn 2 104 fl_TBand ?_
    show Tr _ _ (uf _ 10 (.slice none (([] : List TBand)).length 0)) _ _
    refine Tr.nil (Tr.normThen ?_)
    refine Tr.ret (Tr.retThen ?_)
    obtain rfl := Option.some.inj H
    exact Tr.out (m := [(.slice none (([] : List TBand)).length 0)]) [] (res_tmp rfl res_nil) (fun W hW => ⟨w, (none, 0), leB, rfl, slf_nil, hW.pick (ks := [2]) (by decide) (pk_cons rfl pk_nil)⟩)
  · refine Tr.skip (Tr.normThen ?_)
    refine Tr.seq ?_
    refine Tr.region ?_
    refine Tr.val (wn rfl) rfl (fun _ _ h1 h2 => run_move (h1.ev rfl)) ?_
    obtain ⟨y100, hy100, H⟩ := bnd H
    refine Tr.call0 (r := (.agg #[(.int .i64 y100.X0), (.int .i64 y100.Y0), (.int .i64 y100.X1), (.int .i64 y100.Y1)])) (wn rfl) rfl Try.call51 (evl_cons rfl evl_nil) (fun W hW => F_shape_Set__Around_ok p0 Ap0_0 cp0_0 (hp0_0.rl.ext hW.extAll) y100 hy100 (HF.start _)) ?_
    refine Tr.alloc 3 (wn rfl) rfl ze_29 fun b101 => ?_
    refine Tr.store 3 (cs := [(.int .i64 y100.X0), (.int .i64 y100.Y0), (.int .i64 y100.X1), (.int .i64 y100.Y1)]) [(.int .i64 y100.X0), (.int .i64 y100.Y0), (.int .i64 y100.X1), (.int .i64 y100.Y1)] (wn rfl) rfl rfl rfl rfl sz_29 rfl rfl rfl ?_
    refine Tr.nil (Tr.normThen ?_)
    refine Tr.seq ?_
    refine Tr.region ?_
    refine Tr.val (wn rfl) rfl (fun _ _ h1 h2 => run_move (h1.ev rfl)) ?_
    refine Tr.val (wn rfl) rfl (fun _ _ h1 h2 => run_move (h1.ev rfl)) ?_
    refine Tr.val (wn rfl) rfl (fun _ _ h1 h2 => run_add (h1.ev rfl) (h1.ev rfl)) ?_
    refine Tr.val (wn rfl) rfl (fun _ _ h1 h2 => run_move (h1.ev rfl)) ?_
    refine Tr.val (wn rfl) rfl (fun _ _ h1 h2 => run_add (h1.ev rfl) (h1.ev rfl)) ?_
    refine Tr.val (wn rfl) rfl (fun _ _ h1 h2 => run_move (h1.ev rfl)) ?_
    refine Tr.val (wn rfl) rfl (fun _ _ h1 h2 => run_add (h1.ev rfl) (h1.ev rfl)) ?_
    refine Tr.val (wn rfl) rfl (fun _ _ h1 h2 => run_add (h1.ev rfl) (h1.ev rfl)) ?_
    refine Tr.val (wn rfl) rfl (fun _ _ h1 h2 => run_assign (h1.ev rfl)) ?_
    refine Tr.nil (Tr.normThen ?_)
    refine Tr.seq ?_
    refine Tr.region ?_
    refine Tr.val (wn rfl) rfl (fun _ _ h1 h2 => run_fieldAddr fo_29_0 (h1.ev rfl)) ?_
    refine Tr.val (wn rfl) rfl (fun _ _ h1 h2 => run_load1 ag_3 (h1.ev rfl) (rdb h2 (vs := [(.int .i64 y100.X0), (.int .i64 y100.Y0), (.int .i64 y100.X1), (.int .i64 y100.Y1)]) (k := 3) rfl 0) rfl) ?_
    refine Tr.val (wn rfl) rfl (fun _ _ h1 h2 => run_move (h1.ev rfl)) ?_
    refine Tr.val (wn rfl) rfl (fun _ _ h1 h2 => run_sub (h1.ev rfl) (h1.ev rfl)) ?_
    refine Tr.val (wn rfl) rfl (fun _ _ h1 h2 => run_fieldAddr fo_29_1 (h1.ev rfl)) ?_
    refine Tr.val (wn rfl) rfl (fun _ _ h1 h2 => run_load1 ag_3 (h1.ev rfl) (rdb h2 (vs := [(.int .i64 y100.X0), (.int .i64 y100.Y0), (.int .i64 y100.X1), (.int .i64 y100.Y1)]) (k := 3) rfl 1) rfl) ?_
    refine Tr.val (wn rfl) rfl (fun _ _ h1 h2 => run_move (h1.ev rfl)) ?_
    refine Tr.val (wn rfl) rfl (fun _ _ h1 h2 => run_sub (h1.ev rfl) (h1.ev rfl)) ?_
    refine Tr.val (wn rfl) rfl (fun _ _ h1 h2 => run_fieldAddr fo_29_2 (h1.ev rfl)) ?_
    refine Tr.val (wn rfl) rfl (fun _ _ h1 h2 => run_load1 ag_3 (h1.ev rfl) (rdb h2 (vs := [(.int .i64 y100.X0), (.int .i64 y100.Y0), (.int .i64 y100.X1), (.int .i64 y100.Y1)]) (k := 3) rfl 2) rfl) ?_
    refine Tr.val (wn rfl) rfl (fun _ _ h1 h2 => run_move (h1.ev rfl)) ?_
    refine Tr.val (wn rfl) rfl (fun _ _ h1 h2 => run_add (h1.ev rfl) (h1.ev rfl)) ?_
    refine Tr.val (wn rfl) rfl (fun _ _ h1 h2 => run_fieldAddr fo_29_3 (h1.ev rfl)) ?_
    refine Tr.val (wn rfl) rfl (fun _ _ h1 h2 => run_load1 ag_3 (h1.ev rfl) (rdb h2 (vs := [(.int .i64 y100.X0), (.int .i64 y100.Y0), (.int .i64 y100.X1), (.int .i64 y100.Y1)]) (k := 3) rfl 3) rfl) ?_
    refine Tr.val (wn rfl) rfl (fun _ _ h1 h2 => run_move (h1.ev rfl)) ?_
    refine Tr.val (wn rfl) rfl (fun _ _ h1 h2 => run_add (h1.ev rfl) (h1.ev rfl)) ?_
    refine Tr.build (vs := [(0, (.int .i64 (w64 (y100.X0 - (w64 ((w64 ((w64 ((w64 (p1 + p2)) + p3)) + p4)) + 1)))))), (1, (.int .i64 (w64 (y100.Y0 - (w64 ((w64 ((w64 ((w64 (p1 + p2)) + p3)) + p4)) + 1)))))), (2, (.int .i64 (w64 (y100.X1 + (w64 ((w64 ((w64 ((w64 (p1 + p2)) + p3)) + p4)) + 1)))))), (3, (.int .i64 (w64 (y100.Y1 + (w64 ((w64 ((w64 ((w64 (p1 + p2)) + p3)) + p4)) + 1))))))]) (cs := [(.int .i64 (w64 (y100.X0 - (w64 ((w64 ((w64 ((w64 (p1 + p2)) + p3)) + p4)) + 1))))), (.int .i64 (w64 (y100.Y0 - (w64 ((w64 ((w64 ((w64 (p1 + p2)) + p3)) + p4)) + 1))))), (.int .i64 (w64 (y100.X1 + (w64 ((w64 ((w64 ((w64 (p1 + p2)) + p3)) + p4)) + 1))))), (.int .i64 (w64 (y100.Y1 + (w64 ((w64 ((w64 ((w64 (p1 + p2)) + p3)) + p4)) + 1)))))]) (wn rfl) rfl (evs_cons rfl (evs_cons rfl (evs_cons rfl (evs_cons rfl evs_nil)))) (by kernel_rfl) ?_
    refine Tr.buildSlice 4 (e := 29) (vs := [(0, (.agg #[(.int .i64 (w64 (y100.X0 - (w64 ((w64 ((w64 ((w64 (p1 + p2)) + p3)) + p4)) + 1))))), (.int .i64 (w64 (y100.Y0 - (w64 ((w64 ((w64 ((w64 (p1 + p2)) + p3)) + p4)) + 1))))), (.int .i64 (w64 (y100.X1 + (w64 ((w64 ((w64 ((w64 (p1 + p2)) + p3)) + p4)) + 1))))), (.int .i64 (w64 (y100.Y1 + (w64 ((w64 ((w64 ((w64 (p1 + p2)) + p3)) + p4)) + 1)))))]))]) (cs := [(.int .i64 (w64 (y100.X0 - (w64 ((w64 ((w64 ((w64 (p1 + p2)) + p3)) + p4)) + 1))))), (.int .i64 (w64 (y100.Y0 - (w64 ((w64 ((w64 ((w64 (p1 + p2)) + p3)) + p4)) + 1))))), (.int .i64 (w64 (y100.X1 + (w64 ((w64 ((w64 ((w64 (p1 + p2)) + p3)) + p4)) + 1))))), (.int .i64 (w64 (y100.Y1 + (w64 ((w64 ((w64 ((w64 (p1 + p2)) + p3)) + p4)) + 1)))))]) (wn rfl) rfl (evs_cons rfl evs_nil) (by kernel_rfl) fun b102 => ?_
    refine Tr.own 4 fl_TRect [(TRect.mk (w64 (y100.X0 - (w64 ((w64 ((w64 ((w64 (p1 + p2)) + p3)) + p4)) + 1)))) (w64 (y100.Y0 - (w64 ((w64 ((w64 ((w64 (p1 + p2)) + p3)) + p4)) + 1)))) (w64 (y100.X1 + (w64 ((w64 ((w64 ((w64 (p1 + p2)) + p3)) + p4)) + 1)))) (w64 (y100.Y1 + (w64 ((w64 ((w64 ((w64 (p1 + p2)) + p3)) + p4)) + 1)))))] (css := [[(.int .i64 (w64 (y100.X0 - (w64 ((w64 ((w64 ((w64 (p1 + p2)) + p3)) + p4)) + 1))))), (.int .i64 (w64 (y100.Y0 - (w64 ((w64 ((w64 ((w64 (p1 + p2)) + p3)) + p4)) + 1))))), (.int .i64 (w64 (y100.X1 + (w64 ((w64 ((w64 ((w64 (p1 + p2)) + p3)) + p4)) + 1))))), (.int .i64 (w64 (y100.Y1 + (w64 ((w64 ((w64 ((w64 (p1 + p2)) + p3)) + p4)) + 1)))))]]) rfl (.cons ⟨(), trivial, rfl⟩ .nil) rfl (by decide) (lit_max rfl) ?_
    obtain ⟨y103, hy103, H⟩ := bnd H
    refine Tr.callG [5] [emp] (U := (Option Addr × Nat)) (fun u => (.slice u.1 (y103).length u.2)) (fun O W u => SlF u.1 (y103).length u.2) (fun u => [ow u.1 u.2 104 fl_TBand y103]) rfl (pk_cons rfl pk_nil) (fun _ => rfl) (wn rfl) rfl Try.call40 (evl_cons rfl evl_nil) (fun W hW hp hE => F_shape_SetOf_ok N [(TRect.mk (w64 (y100.X0 - (w64 ((w64 ((w64 ((w64 (p1 + p2)) + p3)) + p4)) + 1)))) (w64 (y100.Y0 - (w64 ((w64 ((w64 ((w64 (p1 + p2)) + p3)) + p4)) + 1)))) (w64 (y100.X1 + (w64 ((w64 ((w64 ((w64 (p1 + p2)) + p3)) + p4)) + 1)))) (w64 (y100.Y1 + (w64 ((w64 ((w64 ((w64 (p1 + p2)) + p3)) + p4)) + 1)))))] (some ⟨b102, 0, none⟩) 1 (hW.slS (k := 4) rfl hp rfl) y103 hy103 hE) ?_
    intro w u le104 hu
    obtain ⟨Ay103_0, cy103_0⟩ := u
    have gy103_0 := hu
    replace hp0_0 := hp0_0.le le104
    replace leB := leB.trans le104
    have hgy103_0 : SlF Ay103_0 (y103).length cy103_0 := gy103_0 --@phi
    show Tr _ _ (uf _ 45 (.slice Ay103_0 (y103).length cy103_0)) (up _ 5 (ow Ay103_0 cy103_0 104 fl_TBand y103)) _
    refine Tr.val (wn rfl) rfl (fun _ _ h1 h2 => run_assign (h1.ev rfl)) ?_
    refine Tr.nil (Tr.normThen ?_)
    refine Tr.seq ?_
    refine Tr.region ?_
    refine Tr.val (wn rfl) rfl (fun _ _ h1 h2 => run_move (h1.ev rfl)) ?_
    refine Tr.val (wn rfl) rfl (fun _ _ h1 h2 => run_move (h1.ev rfl)) ?_
    refine Tr.val (wn rfl) rfl (fun _ _ h1 h2 => run_move (h1.ev rfl)) ?_
    refine Tr.freeze 5 rfl fun w le106 hz105 => ?_
    replace hp0_0 := hp0_0.le le106
    replace leB := leB.trans le106
    obtain ⟨y107, hy107, H⟩ := bnd H
    refine Tr.callG [6] [emp] (U := (Option Addr × Nat)) (fun u => (.slice u.1 (y107).length u.2)) (fun O W u => SlF u.1 (y107).length u.2) (fun u => [ow u.1 u.2 104 fl_TBand y107]) rfl (pk_cons rfl pk_nil) (fun _ => rfl) (wn rfl) rfl Try.call53 (evl_cons rfl (evl_cons rfl evl_nil)) (fun W hW hp hE => F_shape_Set__Less_ok N y103 Ay103_0 cy103_0 (hz105.extO (hW.extS hp)) p0 Ap0_0 cp0_0 (hp0_0.extO (hW.extS hp)) y107 hy107 hE) ?_
    intro w u le108 hu
    obtain ⟨Ay107_0, cy107_0⟩ := u
    have gy107_0 := hu
    replace hp0_0 := hp0_0.le le108
    replace hz105 := hz105.le le108
    replace leB := leB.trans le108
    have hgy107_0 : SlF Ay107_0 (y107).length cy107_0 := gy107_0 --@phi
    show Tr _ _ (uf _ 49 (.slice Ay107_0 (y107).length cy107_0)) (up _ 6 (ow Ay107_0 cy107_0 104 fl_TBand y107)) _
    refine Tr.val (wn rfl) rfl (fun _ _ h1 h2 => run_move (h1.ev rfl)) ?_
    refine Tr.val (wn rfl) rfl (fun _ _ h1 h2 => run_move (h1.ev rfl)) ?_
    refine Tr.val (wn rfl) rfl (fun _ _ h1 h2 => run_move (h1.ev rfl)) ?_
    refine Tr.val (wn rfl) rfl (fun _ _ h1 h2 => run_move (h1.ev rfl)) ?_
    obtain ⟨y109, hy109, H⟩ := bnd H
    refine Tr.callG [7] [emp] (U := (Option Addr × Nat)) (fun u => (.slice u.1 (y109).length u.2)) (fun O W u => SlF u.1 (y109).length u.2) (fun u => [ow u.1 u.2 104 fl_TBand y109]) rfl (pk_cons rfl pk_nil) (fun _ => rfl) (wn rfl) rfl Try.call91 (evl_cons rfl (evl_cons rfl (evl_cons rfl (evl_cons rfl (evl_cons rfl evl_nil))))) (fun W hW hp hE => F_shape_Set__Spread_ok N y107 Ay107_0 cy107_0 (hW.slS (k := 6) rfl hp rfl) p2 p1 p4 p3 y109 hy109 hE) ?_
    intro w u le110 hu
    obtain ⟨Ay109_0, cy109_0⟩ := u
    have gy109_0 := hu
    replace hp0_0 := hp0_0.le le110
    replace hz105 := hz105.le le110
    replace leB := leB.trans le110
    have hgy109_0 : SlF Ay109_0 (y109).length cy109_0 := gy109_0 --@phi
    show Tr _ _ (uf _ 54 (.slice Ay109_0 (y109).length cy109_0)) (up _ 7 (ow Ay109_0 cy109_0 104 fl_TBand y109)) _
    refine Tr.freeze 7 rfl fun w le112 hz111 => ?_
    replace hp0_0 := hp0_0.le le112
    replace hz105 := hz105.le le112
    replace leB := leB.trans le112
    obtain ⟨y113, hy113, H⟩ := bnd H
    refine Tr.callG [8] [emp] (U := (Option Addr × Nat)) (fun u => (.slice u.1 (y113).length u.2)) (fun O W u => SlF u.1 (y113).length u.2) (fun u => [ow u.1 u.2 104 fl_TBand y113]) rfl (pk_cons rfl pk_nil) (fun _ => rfl) (wn rfl) rfl Try.call53 (evl_cons rfl (evl_cons rfl evl_nil)) (fun W hW hp hE => F_shape_Set__Less_ok N p0 Ap0_0 cp0_0 (hp0_0.extO (hW.extS hp)) y109 Ay109_0 cy109_0 (hz111.extO (hW.extS hp)) y113 hy113 hE) ?_
    intro w u le114 hu
    obtain ⟨Ay113_0, cy113_0⟩ := u
    have gy113_0 := hu
    replace hp0_0 := hp0_0.le le114
    replace hz105 := hz105.le le114
    replace hz111 := hz111.le le114
    replace leB := leB.trans le114
    have hgy113_0 : SlF Ay113_0 (y113).length cy113_0 := gy113_0 --@phi
    show Tr _ _ (uf _ 55 (.slice Ay113_0 (y113).length cy113_0)) (up _ 8 (ow Ay113_0 cy113_0 104 fl_TBand y113)) _
    refine Tr.val (wn rfl) rfl (fun _ _ h1 h2 => run_assign (h1.ev rfl)) ?_
    refine Tr.nil (Tr.normThen ?_)
    refine Tr.ret ?_
    obtain rfl := Option.some.inj H
    exact Tr.out (m := [(.slice Ay113_0 (y113).length cy113_0)]) [] (res_tmp rfl res_nil) (fun W hW => ⟨w, (Ay113_0, cy113_0), leB, rfl, hgy113_0, hW.pick (ks := [8]) (by decide) (pk_cons rfl pk_nil)⟩)

theorem F_shape_Set__Deep_ok (N : Nat) {w : Bs} (p0 : (List TBand)) (Ap0_0 : Option Addr) (cp0_0 : Nat) (hp0_0 : Sl w.O w.W fl_TBand Ap0_0 cp0_0 p0) (p1 : Int) (r : (List TBand)) (H : F_shape_Set__Deep N p0 p1 = some r) (hE : HF w w.W (LEn [emp])) : Calls Try.prog 68 [(.slice Ap0_0 (p0).length cp0_0), (.int .i64 p1)].toArray w.W fun e W' => ∃ (w' : Bs) (u : (Option Addr × Nat)), w.Le w' ∧ e = .returned (.slice u.1 (r).length u.2) ∧ (SlF u.1 (r).length u.2) ∧ HF w' W' (LEn [ow u.1 u.2 104 fl_TBand r]) := by
  unfold F_shape_Set__Deep at H
  have leB := Bs.Le.refl w
  refine Tr.enter (n := 11) Try.func68 rfl rfl rfl hE ?_
  refine Tr.seq ?_
  refine Tr.region ?_
  refine Tr.val (wn rfl) rfl (fun _ _ h1 h2 => run_assign (h1.ev rfl)) ?_
  refine Tr.nilOwn 1 104 fl_TBand ?_
  show Tr _ _ (uf _ 4 (.slice none (([] : List TBand)).length 0)) _ _
  refine Tr.nil (Tr.normThen ?_)
  refine Tr.seq ?_
  refine Tr.region ?_
  refine Tr.val (wn rfl) rfl (fun _ _ h1 h2 => run_move (h1.ev rfl)) ?_
  refine Tr.val (wn rfl) rfl (fun _ _ h1 h2 => run_move (h1.ev rfl)) ?_
  refine Tr.val (wn rfl) rfl (fun _ _ h1 h2 => run_move (h1.ev rfl)) ?_
  refine Tr.val (wn rfl) rfl (fun _ _ h1 h2 => run_move (h1.ev rfl)) ?_
  refine Tr.val (wn rfl) rfl (fun _ _ h1 h2 => run_move (h1.ev rfl)) ?_
  obtain ⟨y100, hy100, H⟩ := bnd H
  refine Tr.callG [2] [emp] (U := (Option Addr × Nat)) (fun u => (.slice u.1 (y100).length u.2)) (fun O W u => SlF u.1 (y100).length u.2) (fun u => [ow u.1 u.2 104 fl_TBand y100]) rfl (pk_cons rfl pk_nil) (fun _ => rfl) (wn rfl) rfl Try.call108 (evl_cons rfl (evl_cons rfl (evl_cons rfl (evl_cons rfl (evl_cons rfl evl_nil))))) (fun W hW hp hE => F_shape_Set__Core_ok N p0 Ap0_0 cp0_0 (hp0_0.extO (hW.extS hp)) p1 p1 p1 p1 y100 hy100 hE) ?_
  intro w u le101 hu
  obtain ⟨Ay100_0, cy100_0⟩ := u
  have gy100_0 := hu
  replace hp0_0 := hp0_0.le le101
  replace leB := leB.trans le101
  have hgy100_0 : SlF Ay100_0 (y100).length cy100_0 := gy100_0 --@phi
  show Tr _ _ (uf _ 10 (.slice Ay100_0 (y100).length cy100_0)) (up _ 2 (ow Ay100_0 cy100_0 104 fl_TBand y100)) _
  refine Tr.val (wn rfl) rfl (fun _ _ h1 h2 => run_assign (h1.ev rfl)) ?_
  refine Tr.nil (Tr.normThen ?_)
  refine Tr.ret ?_
  obtain rfl := Option.some.inj H
  exact Tr.out (m := [(.slice Ay100_0 (y100).length cy100_0)]) [] (res_tmp rfl res_nil) (fun W hW => ⟨w, (Ay100_0, cy100_0), leB, rfl, hgy100_0, hW.pick (ks := [2]) (by decide) (pk_cons rfl pk_nil)⟩)

theorem F_shape_shrunk_ok (N : Nat) {w : Bs} (p0 : (List TBand)) (Ap0_0 : Option Addr) (cp0_0 : Nat) (hp0_0 : Sl w.O w.W fl_TBand Ap0_0 cp0_0 p0) (p1 : Int) (r : ((List TBand) × Int)) (H : F_shape_shrunk N p0 p1 = some r) (hE : HF w w.W (LEn [emp])) : Calls Try.prog 37 [(.slice Ap0_0 (p0).length cp0_0), (.int .i64 p1)].toArray w.W fun e W' => ∃ (w' : Bs) (u : (Option Addr × Nat)), w.Le w' ∧ e = .returned (.tuple #[(.slice u.1 (r.1).length u.2), (.int .i64 r.2)]) ∧ (SlF u.1 (r.1).length u.2) ∧ HF w' W' (LEn [ow u.1 u.2 104 fl_TBand r.1]) := by
  unfold F_shape_shrunk at H
  have leB := Bs.Le.refl w
  refine Tr.enter (n := 13) Try.func37 rfl rfl rfl hE ?_
  refine Tr.seq ?_
  refine Tr.region ?_
  refine Tr.val (wn rfl) rfl (fun _ _ h1 h2 => run_assign (h1.ev rfl)) ?_
  refine Tr.nilOwn 1 104 fl_TBand ?_
  show Tr _ _ (uf _ 4 (.slice none (([] : List TBand)).length 0)) _ _
  refine Tr.val (wn rfl) rfl (fun _ _ h1 h2 => run_assign (h1.ev rfl)) ?_
  refine Tr.nil (Tr.normThen ?_)
  refine Tr.seq ?_
  refine Tr.region ?_
  refine Tr.val (wn rfl) rfl (fun _ _ h1 h2 => run_move (h1.ev rfl)) ?_
  refine Tr.val (wn rfl) rfl (fun _ _ h1 h2 => run_move (h1.ev rfl)) ?_
  obtain ⟨y100, hy100, H⟩ := bnd H
  refine Tr.callG [2] [emp] (U := (Option Addr × Nat)) (fun u => (.slice u.1 (y100).length u.2)) (fun O W u => SlF u.1 (y100).length u.2) (fun u => [ow u.1 u.2 104 fl_TBand y100]) rfl (pk_cons rfl pk_nil) (fun _ => rfl) (wn rfl) rfl Try.call68 (evl_cons rfl (evl_cons rfl evl_nil)) (fun W hW hp hE => F_shape_Set__Deep_ok N p0 Ap0_0 cp0_0 (hp0_0.extO (hW.extS hp)) p1 y100 hy100 hE) ?_
  intro w u le101 hu
  obtain ⟨Ay100_0, cy100_0⟩ := u
  have gy100_0 := hu
  replace hp0_0 := hp0_0.le le101
  replace leB := leB.trans le101
  have hgy100_0 : SlF Ay100_0 (y100).length cy100_0 := gy100_0 --@phi
  show Tr _ _ (uf _ 8 (.slice Ay100_0 (y100).length cy100_0)) (up _ 2 (ow Ay100_0 cy100_0 104 fl_TBand y100)) _
  refine Tr.val (wn rfl) rfl (fun _ _ h1 h2 => run_assign (h1.ev rfl)) ?_
  refine Tr.nil (Tr.normThen ?_)
  refine Tr.seq ?_
  refine Tr.seq ?_
  refine Tr.region ?_
  refine Tr.val (wn rfl) rfl (fun _ _ h1 h2 => run_move (h1.ev rfl)) ?_
  obtain ⟨y102, hy102, H⟩ := bnd H
  refine Tr.call0 (r := (.int .i64 y102)) (wn rfl) rfl Try.call66 (evl_cons rfl evl_nil) (fun W hW => F_shape_Set__Many_ok y100 Ay100_0 cy100_0 (hW.slCall (k := 2) rfl) y102 hy102 (HF.start _)) ?_
  refine Tr.val (wn rfl) rfl (fun _ _ h1 h2 => run_gtr (h1.ev rfl) (h1.ev rfl)) ?_
  refine Tr.nil (Tr.normThen ?_)
  refine Tr.cond rfl H (fun H => ?_) (fun H => ?_)
  · refine Tr.seq ?_
    refine Tr.region ?_
    refine Tr.val (wn rfl) rfl (fun _ _ h1 h2 => run_assign (h1.ev rfl)) ?_
    refine Tr.nilOwn 3 104 fl_TBand ?_
    show Tr _ _ (uf _ 4 (.slice none (([] : List TBand)).length 0)) _ _
    refine Tr.val (wn rfl) rfl (fun _ _ h1 h2 => run_assign (h1.ev rfl)) ?_
    refine Tr.nil (Tr.normThen ?_)
    refine Tr.ret (Tr.retThen ?_)
    obtain rfl := Option.some.inj H
    exact Tr.out (m := [(.slice none (([] : List TBand)).length 0), (.int .i64 2)]) [] (res_tmp rfl (res_tmp rfl res_nil)) (fun W hW => ⟨w, (none, 0), leB, rfl, slf_nil, hW.pick (ks := [3]) (by decide) (pk_cons rfl pk_nil)⟩)
  · refine Tr.skip (Tr.normThen ?_)
    refine Tr.seq ?_
    refine Tr.region ?_
    refine Tr.val (wn rfl) rfl (fun _ _ h1 h2 => run_move (h1.ev rfl)) ?_
    refine Tr.val (wn rfl) rfl (fun _ _ h1 h2 => run_assign (h1.ev rfl)) ?_
    refine Tr.val (wn rfl) rfl (fun _ _ h1 h2 => run_assign (h1.ev rfl)) ?_
    refine Tr.nil (Tr.normThen ?_)
    refine Tr.ret ?_
    obtain rfl := Option.some.inj H
    exact Tr.out (m := [(.slice Ay100_0 (y100).length cy100_0), (.int .i64 0)]) [] (res_tmp rfl (res_tmp rfl res_nil)) (fun W hW => ⟨w, (Ay100_0, cy100_0), leB, rfl, hgy100_0, hW.pick (ks := [2]) (by decide) (pk_cons rfl pk_nil)⟩)

theorem F_disp_61_ok (N : Nat) (x : Nat) {w : Bs} (p0 : (List TBand)) (Ap0_0 : Option Addr) (cp0_0 : Nat) (hp0_0 : Sl w.O w.W fl_TBand Ap0_0 cp0_0 p0) (p1 : Int) (r : ((List TBand) × Int)) (H : F_disp_61 N x p0 p1 = some r) (hE : HF w w.W (LEn [emp])) : Calls Try.prog x [(.slice Ap0_0 (p0).length cp0_0), (.int .i64 p1)].toArray w.W fun e W' => ∃ (w' : Bs) (u : (Option Addr × Nat)), w.Le w' ∧ e = .returned (.tuple #[(.slice u.1 (r.1).length u.2), (.int .i64 r.2)]) ∧ (SlF u.1 (r.1).length u.2) ∧ HF w' W' (LEn [ow u.1 u.2 104 fl_TBand r.1]) := by
  unfold F_disp_61 at H
  by_cases hx : x = 35
  · rw [if_pos hx] at H; subst hx; exact F_shape_grown_ok N p0 Ap0_0 cp0_0 (hp0_0.rl) p1 r H hE
  rw [if_neg hx] at H
  by_cases hx : x = 37
  · rw [if_pos hx] at H; subst hx; exact F_shape_shrunk_ok N p0 Ap0_0 cp0_0 hp0_0 p1 r H hE
  rw [if_neg hx] at H
  cases H
theorem F_disp_61_call (N : Nat) (x : Nat) (p0 : (List TBand)) (p1 : Int) (r : ((List TBand) × Int)) (H : F_disp_61 N x p0 p1 = some r) : ∀ args W, (callFunc x args).run Try.prog W = .ok (.enter x args) W := by
  unfold F_disp_61 at H
  by_cases hx : x = 35
  · subst hx; exact Try.call35
  rw [if_neg hx] at H
  by_cases hx : x = 37
  · subst hx; exact Try.call37
  rw [if_neg hx] at H
  cases H

theorem F_shape_steps_ok (N : Nat) {w : Bs} (p0 : (List TRect)) (Ap0_0 : Option Addr) (cp0_0 : Nat) (hp0_0 : Sl w.R w.W fl_TRect Ap0_0 cp0_0 p0) (p1 : Int) (p2 : (List Nat)) (Ap2_0 : Option Addr) (cp2_0 : Nat) (hp2_0 : Sl w.R w.W fl_func Ap2_0 cp2_0 p2) (r : ((List TRect) × Int)) (H : F_shape_steps N p0 p1 p2 = some r) (hE : HF w w.W (LEn [emp])) : Calls Try.prog 34 [(.slice Ap0_0 (p0).length cp0_0), (.int .i64 p1), (.slice Ap2_0 (p2).length cp2_0)].toArray w.W fun e W' => ∃ u : (Option Addr × Nat), e = .returned (.tuple #[(.slice u.1 (r.1).length u.2), (.int .i64 r.2)]) ∧ (SlF u.1 (r.1).length u.2) ∧ HF w W' (LEn [ow u.1 u.2 29 fl_TRect r.1]) := by
  unfold F_shape_steps at H
  have leB := Bs.Le.refl w
  refine Tr.enter (n := 42) Try.func34 rfl rfl rfl hE ?_
  refine Tr.seq ?_
  refine Tr.region ?_
  refine Tr.val (wn rfl) rfl (fun _ _ h1 h2 => run_assign (h1.ev rfl)) ?_
  refine Tr.nilOwn 1 29 fl_TRect ?_
  show Tr _ _ (uf _ 6 (.slice none (([] : List TRect)).length 0)) _ _
  refine Tr.val (wn rfl) rfl (fun _ _ h1 h2 => run_assign (h1.ev rfl)) ?_
  refine Tr.nil (Tr.normThen ?_)
  refine Tr.seq ?_
  refine Tr.seq ?_
  refine Tr.region ?_
  refine Tr.val (wn rfl) rfl (fun _ _ h1 h2 => run_move (h1.ev rfl)) ?_
  obtain ⟨y100, hy100, H⟩ := bnd H
  refine Tr.call0 (r := (.int .i64 y100)) (wn rfl) rfl Try.call18 (evl_cons rfl evl_nil) (fun W hW => F_shape_CheckRegion_ok N p0 Ap0_0 cp0_0 (hp0_0.ext hW.extAll) y100 hy100 (HF.start _)) ?_
  refine Tr.val (wn rfl) rfl (fun _ _ h1 h2 => run_assign (h1.ev rfl)) ?_
  refine Tr.nil (Tr.normThen ?_)
  refine Tr.seq ?_
  refine Tr.region ?_
  refine Tr.val (wn rfl) rfl (fun _ _ h1 h2 => run_move (h1.ev rfl)) ?_
  refine Tr.val (wn rfl) rfl (fun _ _ h1 h2 => run_neq (h1.ev rfl) (h1.ev rfl)) ?_
  refine Tr.nil (Tr.normThen ?_)
  refine Tr.cond rfl H (fun H => ?_) (fun H => ?_)
  · refine Tr.seq ?_
    refine Tr.region ?_
    refine Tr.val (wn rfl) rfl (fun _ _ h1 h2 => run_move (h1.ev rfl)) ?_
    refine Tr.val (wn rfl) rfl (fun _ _ h1 h2 => run_assign (h1.ev rfl)) ?_
    refine Tr.nilOwn 2 29 fl_TRect ?_
    show Tr _ _ (uf _ 6 (.slice none (([] : List TRect)).length 0)) _ _
    refine Tr.val (wn rfl) rfl (fun _ _ h1 h2 => run_assign (h1.ev rfl)) ?_
    refine Tr.nil (Tr.normThen ?_)
    refine Tr.ret (Tr.retThen ?_)
    obtain rfl := Option.some.inj H
    exact Tr.out (m := [(.slice none (([] : List TRect)).length 0), (.int .i64 y100)]) [] (res_tmp rfl (res_tmp rfl res_nil)) (fun W hW => ⟨(none, 0), rfl, slf_nil, HF.lowE leB (hW.pick (ks := [2]) (by decide) (pk_cons rfl pk_nil)) ⟨ow_any _ _ _ _ tr_TRect, trivial⟩⟩)
  · refine Tr.skip (Tr.normThen ?_)
    refine Tr.seq ?_
    refine Tr.seq ?_
    refine Tr.region ?_
    refine Tr.val (wn rfl) rfl (fun _ _ h1 h2 => run_move (h1.ev rfl)) ?_
    obtain ⟨y101, hy101, H⟩ := bnd H
    refine Tr.call0 (r := (.bool y101)) (wn rfl) rfl Try.call45 (evl_cons rfl (evl_cons rfl (evl_cons rfl evl_nil))) (fun W hW => F_shape_within_ok p1 0 100000 y101 hy101 (HF.start _)) ?_
    refine Tr.val (wn rfl) rfl (fun _ _ h1 h2 => run_not (h1.ev rfl)) ?_
    refine Tr.nil (Tr.normThen ?_)
    refine Tr.cond rfl H (fun H => ?_) (fun H => ?_)
    · refine Tr.seq ?_
      refine Tr.region ?_
      refine Tr.val (wn rfl) rfl (fun _ _ h1 h2 => run_assign (h1.ev rfl)) ?_
      refine Tr.nilOwn 3 29 fl_TRect ?_
      show Tr _ _ (uf _ 6 (.slice none (([] : List TRect)).length 0)) _ _
      refine Tr.val (wn rfl) rfl (fun _ _ h1 h2 => run_assign (h1.ev rfl)) ?_
      refine Tr.nil (Tr.normThen ?_)
      refine Tr.ret (Tr.retThen ?_)
      obtain rfl := Option.some.inj H
      exact Tr.out (m := [(.slice none (([] : List TRect)).length 0), (.int .i64 1)]) [] (res_tmp rfl (res_tmp rfl res_nil)) (fun W hW => ⟨(none, 0), rfl, slf_nil, HF.lowE leB (hW.pick (ks := [3]) (by decide) (pk_cons rfl pk_nil)) ⟨ow_any _ _ _ _ tr_TRect, trivial⟩⟩)
    · refine Tr.skip (Tr.normThen ?_)
      refine Tr.seq ?_
      refine Tr.region ?_
      refine Tr.val (wn rfl) rfl (fun _ _ h1 h2 => run_move (h1.ev rfl)) ?_
      obtain ⟨y102, hy102, H⟩ := bnd H
      refine Tr.callG [4] [emp] (U := (Option Addr × Nat)) (fun u => (.slice u.1 (y102).length u.2)) (fun O W u => SlF u.1 (y102).length u.2) (fun u => [ow u.1 u.2 104 fl_TBand y102]) rfl (pk_cons rfl pk_nil) (fun _ => rfl) (wn rfl) rfl Try.call40 (evl_cons rfl evl_nil) (fun W hW hp hE => F_shape_SetOf_ok N p0 Ap0_0 cp0_0 (hp0_0.ext (hW.extS hp)) y102 hy102 hE) ?_
      intro w u le103 hu
      obtain ⟨Ay102_0, cy102_0⟩ := u
      have gy102_0 := hu
      replace hp0_0 := hp0_0.leR le103
      replace hp2_0 := hp2_0.leR le103
      replace leB := leB.trans le103
      have hgy102_0 : SlF Ay102_0 (y102).length cy102_0 := gy102_0 --@phi
      show Tr _ _ (uf _ 22 (.slice Ay102_0 (y102).length cy102_0)) (up _ 4 (ow Ay102_0 cy102_0 104 fl_TBand y102)) _
      refine Tr.val (wn rfl) rfl (fun _ _ h1 h2 => run_assign (h1.ev rfl)) ?_
      refine Tr.nil (Tr.normThen ?_)
      refine Tr.seq ?_
      refine Tr.seq ?_
      refine Tr.region ?_
      refine Tr.val (wn rfl) rfl (fun _ _ h1 h2 => run_move (h1.ev rfl)) ?_
      refine Tr.val (wn rfl) rfl (fun _ _ h1 h2 => run_len un_91 (h1.ev rfl)) ?_
      refine Tr.val (wn rfl) rfl (fun _ _ h1 h2 => run_move (h1.ev rfl)) ?_
      refine Tr.nil (Tr.normThen ?_)
      refine Tr.block ?_
      refine Tr.ren 4 12 rfl rfl rfl ?_
      refine Tr.loop (σ := (List Nat) × Nat × (List TBand) × (Option Addr) × Nat) (fun m w s => m = s.1.length + 1 ∧ s.1 = List.drop s.2.1 p2 ∧ s.2.1 ≤ p2.length ∧ F_shape_steps_L1 N p1 s.1 s.2.1 s.2.2.1 = some r ∧ SlF s.2.2.2.1 (s.2.2.1).length s.2.2.2.2) (fun s => [(1, (.int .i64 p1)), (9, (.slice s.2.2.2.1 (s.2.2.1).length s.2.2.2.2)), (23, (.slice Ap2_0 (p2).length cp2_0)), (24, (.int .i64 (p2.length : Int))), (25, (.int .i64 (s.2.1 : Int)))]) (fun s => [(12, ow s.2.2.2.1 s.2.2.2.2 104 fl_TBand s.2.2.1)]) (p2.length + 1) (p2, 0, y102, Ay102_0, cy102_0) ⟨rfl, rfl, Nat.zero_le _, H, hgy102_0⟩ (.cons rfl (.cons rfl (.cons rfl (.cons rfl (.cons rfl .nil))))) (.cons rfl .nil) (fun _ _ h => absurd h.1 (by simp)) ?_
      intro w leF_shape_steps_L1 m s hs
      obtain ⟨restF_shape_steps_L1, iF_shape_steps_L1, l120, Al120, cl120⟩ := s
      obtain ⟨hmF_shape_steps_L1, hdF_shape_steps_L1, hiF_shape_steps_L1, H, hl120⟩ := hs
      replace hdF_shape_steps_L1 : restF_shape_steps_L1 = List.drop iF_shape_steps_L1 p2 := hdF_shape_steps_L1
      replace H : F_shape_steps_L1 N p1 restF_shape_steps_L1 iF_shape_steps_L1 l120 = some r := H
      replace hmF_shape_steps_L1 : m + 1 = restF_shape_steps_L1.length + 1 := hmF_shape_steps_L1
      replace hp2_0 := hp2_0.leR leF_shape_steps_L1
      replace leB := leB.trans leF_shape_steps_L1
      replace hl120 : SlF Al120 (l120).length cl120 := hl120
      obtain rfl : m = restF_shape_steps_L1.length := by omega
      clear hmF_shape_steps_L1
      show Tr _ _ (LF [(1, (.int .i64 p1)), (9, (.slice Al120 (l120).length cl120)), (23, (.slice Ap2_0 (p2).length cp2_0)), (24, (.int .i64 (p2.length : Int))), (25, (.int .i64 (iF_shape_steps_L1 : Int)))]) (LE [(12, ow Al120 cl120 104 fl_TBand l120)]) _
      cases restF_shape_steps_L1 with
      | nil =>
        rw [F_shape_steps_L1.eq_1] at H
        refine Tr.seq ?_
        refine Tr.region ?_
        refine Tr.val (wn rfl) rfl (fun _ _ h1 h2 => run_lss (h1.ev rfl) (h1.ev rfl)) ?_
        refine Tr.nil (Tr.normThen ?_)
        refine Tr.seq ?_
        refine Tr.condF rfl (range_nil hdF_shape_steps_L1) ?_
        refine Tr.exit (Tr.exitThen (Tr.exitThen (Tr.exitBlock (Tr.normThen ?_))))
        refine Tr.seq ?_
        refine Tr.region ?_
        refine Tr.val (wn rfl) rfl (fun _ _ h1 h2 => run_move (h1.ev rfl)) ?_
        obtain ⟨y121, hy121, H⟩ := bnd H
        refine Tr.callM [13] [emp] (U := (Option Addr × Nat)) (fun u => (.slice u.1 (y121).length u.2)) (fun u => SlF u.1 (y121).length u.2) (fun u => [ow u.1 u.2 29 fl_TRect y121]) rfl (pk_cons rfl pk_nil) (fun _ => rfl) (wn rfl) rfl Try.call41 (evl_cons rfl evl_nil) (fun W hW hp hE => F_shape_Set__Rects_ok N l120 Al120 cl120 (hW.slS (k := 12) rfl hp rfl) y121 hy121 hE) ?_
        intro u hu
        obtain ⟨Ay121_0, cy121_0⟩ := u
        have gy121_0 := hu
        have hgy121_0 : SlF Ay121_0 (y121).length cy121_0 := gy121_0 --@phi
        show Tr _ _ (uf _ 41 (.slice Ay121_0 (y121).length cy121_0)) (up _ 13 (ow Ay121_0 cy121_0 29 fl_TRect y121)) _
        refine Tr.val (wn rfl) rfl (fun _ _ h1 h2 => run_assign (h1.ev rfl)) ?_
        refine Tr.val (wn rfl) rfl (fun _ _ h1 h2 => run_assign (h1.ev rfl)) ?_
        refine Tr.nil (Tr.normThen ?_)
        refine Tr.ret ?_
        obtain rfl := Option.some.inj H
        exact Tr.out (m := [(.slice Ay121_0 (y121).length cy121_0), (.int .i64 0)]) [] (res_tmp rfl (res_tmp rfl res_nil)) (fun W hW => ⟨(Ay121_0, cy121_0), rfl, hgy121_0, HF.lowE leB (hW.pick (ks := [13]) (by decide) (pk_cons rfl pk_nil)) ⟨ow_any _ _ _ _ tr_TRect, trivial⟩⟩)
      | cons xF_shape_steps_L1 restF_shape_steps_L1 =>
        rw [F_shape_steps_L1.eq_2] at H
        refine Tr.seq ?_
        refine Tr.region ?_
        refine Tr.val (wn rfl) rfl (fun _ _ h1 h2 => run_lss (h1.ev rfl) (h1.ev rfl)) ?_
        refine Tr.nil (Tr.normThen ?_)
        refine Tr.seq ?_
        refine Tr.condT rfl (range_on hdF_shape_steps_L1) ?_
        refine Tr.skip (Tr.normThen ?_)
        refine Tr.seq ?_
        refine Tr.block ?_
        refine Tr.seq ?_
        refine Tr.region ?_
        refine Tr.val (wn rfl) rfl (fun _ _ h1 h2 => run_indexAddr el_91 (h1.ev rfl) hp2_0.form (h1.ev rfl) (Int.natCast_nonneg _) (range_lt hdF_shape_steps_L1)) ?_
        refine Tr.val (wn rfl) rfl (fun _ _ h1 h2 => run_load1 ag_61 (h1.ev rfl) (rdF ef_func hp2_0 (range_at hdF_shape_steps_L1) h2) rfl) ?_
        refine Tr.val (wn rfl) rfl (fun _ _ h1 h2 => run_assign (h1.ev rfl)) ?_
        refine Tr.nil (Tr.normThen ?_)
        refine Tr.seq ?_
        refine Tr.region ?_
        refine Tr.val (wn rfl) rfl (fun _ _ h1 h2 => run_assign (h1.ev rfl)) ?_
        refine Tr.nil (Tr.normThen ?_)
        refine Tr.seq ?_
        refine Tr.region ?_
        refine Tr.val (wn rfl) rfl (fun _ _ h1 h2 => run_move (h1.ev rfl)) ?_
        refine Tr.val (wn rfl) rfl (fun _ _ h1 h2 => run_move (h1.ev rfl)) ?_
        refine Tr.val (wn rfl) rfl (fun _ _ h1 h2 => run_move (h1.ev rfl)) ?_
        refine Tr.freeze 12 rfl fun w le124 hz123 => ?_
        replace hp2_0 := hp2_0.leR le124
        replace leB := leB.trans le124
        replace leF_shape_steps_L1 := leF_shape_steps_L1.trans le124
        obtain ⟨y125, hy125, H⟩ := bnd H
        refine Tr.callGV [14] [emp] (U := (Option Addr × Nat)) (fun u => (.tuple #[(.slice u.1 (y125.1).length u.2), (.int .i64 y125.2)])) (fun O W u => SlF u.1 (y125.1).length u.2) (fun u => [ow u.1 u.2 104 fl_TBand y125.1]) rfl (pk_cons rfl pk_nil) (fun _ => rfl) (wn rfl) rfl rfl (F_disp_61_call N xF_shape_steps_L1 l120 p1 _ hy125) (evl_cons rfl (evl_cons rfl evl_nil)) (fun W hW hp hE => F_disp_61_ok N xF_shape_steps_L1 l120 Al120 cl120 (hz123.extO (hW.extS hp)) p1 y125 hy125 hE) ?_
        intro w u le126 hu
        obtain ⟨Ay125_0, cy125_0⟩ := u
        have gy125_0 := hu
        replace hz123 := hz123.le le126
        replace hp2_0 := hp2_0.leR le126
        replace leB := leB.trans le126
        replace leF_shape_steps_L1 := leF_shape_steps_L1.trans le126
        have hgy125_0 : SlF Ay125_0 (y125.1).length cy125_0 := gy125_0 --@phi
        show Tr _ _ (uf _ 33 (.tuple #[(.slice Ay125_0 (y125.1).length cy125_0), (.int .i64 y125.2)])) (up _ 14 (ow Ay125_0 cy125_0 104 fl_TBand y125.1)) _
        refine Tr.val (wn rfl) rfl (fun _ _ h1 h2 => run_move (h1.ev rfl)) ?_
        refine Tr.val (wn rfl) rfl (fun _ _ h1 h2 => run_extract (h1.ev rfl) rfl) ?_
        refine Tr.val (wn rfl) rfl (fun _ _ h1 h2 => run_extract (h1.ev rfl) rfl) ?_
        refine Tr.val (wn rfl) rfl (fun _ _ h1 h2 => run_assign (h1.ev rfl)) ?_
        refine Tr.val (wn rfl) rfl (fun _ _ h1 h2 => run_assign (h1.ev rfl)) ?_
        refine Tr.nil (Tr.normThen ?_)
        refine Tr.seq ?_
        refine Tr.region ?_
        refine Tr.val (wn rfl) rfl (fun _ _ h1 h2 => run_move (h1.ev rfl)) ?_
        refine Tr.val (wn rfl) rfl (fun _ _ h1 h2 => run_neq (h1.ev rfl) (h1.ev rfl)) ?_
        refine Tr.nil (Tr.normThen ?_)
        refine Tr.cond rfl H (fun H => ?_) (fun H => ?_)
        · refine Tr.seq ?_
          refine Tr.region ?_
          refine Tr.val (wn rfl) rfl (fun _ _ h1 h2 => run_move (h1.ev rfl)) ?_
          refine Tr.val (wn rfl) rfl (fun _ _ h1 h2 => run_assign (h1.ev rfl)) ?_
          refine Tr.nilOwn 15 29 fl_TRect ?_
          show Tr _ _ (uf _ 6 (.slice none (([] : List TRect)).length 0)) _ _
          refine Tr.val (wn rfl) rfl (fun _ _ h1 h2 => run_assign (h1.ev rfl)) ?_
          refine Tr.nil (Tr.normThen ?_)
          refine Tr.ret (Tr.retBlock (Tr.retThen (Tr.retThen (Tr.retBlock (Tr.retThen ?_)))))
          obtain rfl := Option.some.inj H
          exact Tr.out (m := [(.slice none (([] : List TRect)).length 0), (.int .i64 y125.2)]) [] (res_tmp rfl (res_tmp rfl res_nil)) (fun W hW => ⟨(none, 0), rfl, slf_nil, HF.lowE leB (hW.pick (ks := [15]) (by decide) (pk_cons rfl pk_nil)) ⟨ow_any _ _ _ _ tr_TRect, trivial⟩⟩)
        · refine Tr.skip (Tr.normBlock (Tr.normThen ?_))
          refine Tr.region ?_
          refine Tr.val (wn rfl) rfl (fun _ _ h1 h2 => run_add (h1.ev rfl) (h1.ev rfl)) ?_
          refine Tr.val (wn rfl) rfl (fun _ _ h1 h2 => run_move (h1.ev rfl)) ?_
          refine Tr.nil ?_
          refine Tr.ren 14 12 rfl rfl rfl ?_
          exact Tr.backThen leF_shape_steps_L1 (restF_shape_steps_L1, (iF_shape_steps_L1 + 1), y125.1, Ay125_0, cy125_0) ⟨rfl, range_tl hdF_shape_steps_L1, range_lt hdF_shape_steps_L1, H, hgy125_0⟩ (.cons rfl (.cons rfl (.cons rfl (.cons rfl (.cons (congrArg (fun z => some (Value.int .i64 z)) (range_up hdF_shape_steps_L1 hp2_0.form)) .nil))))) (.cons rfl .nil)

theorem F_shape_Grow_ok (N : Nat) {w : Bs} (p0 : (List TRect)) (Ap0_0 : Option Addr) (cp0_0 : Nat) (hp0_0 : Sl w.R w.W fl_TRect Ap0_0 cp0_0 p0) (p1 : Int) (r : ((List TRect) × Int)) (H : F_shape_Grow N p0 p1 = some r) (hE : HF w w.W (LEn [emp])) : Calls Try.prog 11 [(.slice Ap0_0 (p0).length cp0_0), (.int .i64 p1)].toArray w.W fun e W' => ∃ u : (Option Addr × Nat), e = .returned (.tuple #[(.slice u.1 (r.1).length u.2), (.int .i64 r.2)]) ∧ (SlF u.1 (r.1).length u.2) ∧ HF w W' (LEn [ow u.1 u.2 29 fl_TRect r.1]) := by
  unfold F_shape_Grow at H
  have leB := Bs.Le.refl w
  refine Tr.enter (n := 12) Try.func11 rfl rfl rfl hE ?_
  refine Tr.seq ?_
  refine Tr.region ?_
  refine Tr.val (wn rfl) rfl (fun _ _ h1 h2 => run_assign (h1.ev rfl)) ?_
  refine Tr.nilOwn 1 29 fl_TRect ?_
  show Tr _ _ (uf _ 4 (.slice none (([] : List TRect)).length 0)) _ _
  refine Tr.val (wn rfl) rfl (fun _ _ h1 h2 => run_assign (h1.ev rfl)) ?_
  refine Tr.nil (Tr.normThen ?_)
  refine Tr.seq ?_
  refine Tr.region ?_
  refine Tr.val (wn rfl) rfl (fun _ _ h1 h2 => run_move (h1.ev rfl)) ?_
  refine Tr.val (wn rfl) rfl (fun _ _ h1 h2 => run_move (h1.ev rfl)) ?_
  refine Tr.buildSlice 2 (e := 61) (vs := [(0, (.func (.func 35) #[] #[]))]) (cs := [(.func (.func 35) #[] #[])]) (wn rfl) rfl (evs_cons rfl evs_nil) (by kernel_rfl) fun b100 => ?_
  refine Tr.own 2 fl_func [35] (css := [[(.func (.func 35) #[] #[])]]) rfl (.cons ⟨(), trivial, rfl⟩ .nil) rfl (by decide) (lit_max rfl) ?_
  obtain ⟨y101, hy101, H⟩ := bnd H
  refine Tr.callM [3] [emp] (U := (Option Addr × Nat)) (fun u => (.tuple #[(.slice u.1 (y101.1).length u.2), (.int .i64 y101.2)])) (fun u => SlF u.1 (y101.1).length u.2) (fun u => [ow u.1 u.2 29 fl_TRect y101.1]) rfl (pk_cons rfl pk_nil) (fun _ => rfl) (wn rfl) rfl Try.call34 (evl_cons rfl (evl_cons rfl (evl_cons rfl evl_nil))) (fun W hW hp hE => F_shape_steps_ok N p0 Ap0_0 cp0_0 (hp0_0.ext (hW.extS hp)) p1 [35] (some ⟨b100, 0, none⟩) 1 (hW.slS (k := 2) rfl hp rfl) y101 hy101 hE) ?_
  intro u hu
  obtain ⟨Ay101_0, cy101_0⟩ := u
  have gy101_0 := hu
  have hgy101_0 : SlF Ay101_0 (y101.1).length cy101_0 := gy101_0 --@phi
  show Tr _ _ (uf _ 9 (.tuple #[(.slice Ay101_0 (y101.1).length cy101_0), (.int .i64 y101.2)])) (up _ 3 (ow Ay101_0 cy101_0 29 fl_TRect y101.1)) _
  refine Tr.val (wn rfl) rfl (fun _ _ h1 h2 => run_extract (h1.ev rfl) rfl) ?_
  refine Tr.val (wn rfl) rfl (fun _ _ h1 h2 => run_extract (h1.ev rfl) rfl) ?_
  refine Tr.val (wn rfl) rfl (fun _ _ h1 h2 => run_assign (h1.ev rfl)) ?_
  refine Tr.val (wn rfl) rfl (fun _ _ h1 h2 => run_assign (h1.ev rfl)) ?_
  refine Tr.nil (Tr.normThen ?_)
  refine Tr.ret ?_
  obtain rfl := Option.some.inj H
  exact Tr.out (m := [(.slice Ay101_0 (y101.1).length cy101_0), (.int .i64 y101.2)]) [] (res_tmp rfl (res_tmp rfl res_nil)) (fun W hW => ⟨(Ay101_0, cy101_0), rfl, hgy101_0, HF.lowE leB (hW.pick (ks := [3]) (by decide) (pk_cons rfl pk_nil)) ⟨ow_any _ _ _ _ tr_TRect, trivial⟩⟩)

theorem F_shape_AreaOf_ok {w : Bs} (p0 : (List TRect)) (Ap0_0 : Option Addr) (cp0_0 : Nat) (hp0_0 : Sl w.R w.W fl_TRect Ap0_0 cp0_0 p0) (r : Int) (H : F_shape_AreaOf p0 = some r) (hE : HF w w.W E0) : Calls Try.prog 67 [(.slice Ap0_0 (p0).length cp0_0)].toArray w.W fun e W' => e = .returned (.int .i64 r) ∧ HF w W' E0 := by
  unfold F_shape_AreaOf at H
  have leB := Bs.Le.refl w
  refine Tr.enter (n := 27) Try.func67 rfl rfl rfl hE ?_
  refine Tr.seq ?_
  refine Tr.region ?_
  refine Tr.val (wn rfl) rfl (fun _ _ h1 h2 => run_assign (h1.ev rfl)) ?_
  refine Tr.nil (Tr.normThen ?_)
  refine Tr.seq ?_
  refine Tr.region ?_
  refine Tr.val (wn rfl) rfl (fun _ _ h1 h2 => run_assign (h1.ev rfl)) ?_
  refine Tr.nil (Tr.normThen ?_)
  refine Tr.seq ?_
  refine Tr.seq ?_
  refine Tr.region ?_
  refine Tr.val (wn rfl) rfl (fun _ _ h1 h2 => run_move (h1.ev rfl)) ?_
  refine Tr.val (wn rfl) rfl (fun _ _ h1 h2 => run_len un_22 (h1.ev rfl)) ?_
  refine Tr.val (wn rfl) rfl (fun _ _ h1 h2 => run_move (h1.ev rfl)) ?_
  refine Tr.nil (Tr.normThen ?_)
  refine Tr.block ?_
  refine Tr.loop (σ := (List TRect) × Nat × Int) (fun m w s => m = s.1.length + 1 ∧ s.1 = List.drop s.2.1 p0 ∧ s.2.1 ≤ p0.length ∧ F_shape_AreaOf_L1 s.1 s.2.1 s.2.2 = some r) (fun s => [(3, (.int .i64 s.2.2)), (6, (.slice Ap0_0 (p0).length cp0_0)), (7, (.int .i64 (p0.length : Int))), (8, (.int .i64 (s.2.1 : Int)))]) (fun s => []) (p0.length + 1) (p0, 0, 0) ⟨rfl, rfl, Nat.zero_le _, H⟩ (.cons rfl (.cons rfl (.cons rfl (.cons rfl .nil)))) .nil (fun _ _ h => absurd h.1 (by simp)) ?_
  intro w leF_shape_AreaOf_L1 m s hs
  obtain ⟨restF_shape_AreaOf_L1, iF_shape_AreaOf_L1, x110⟩ := s
  obtain ⟨hmF_shape_AreaOf_L1, hdF_shape_AreaOf_L1, hiF_shape_AreaOf_L1, H⟩ := hs
  replace hdF_shape_AreaOf_L1 : restF_shape_AreaOf_L1 = List.drop iF_shape_AreaOf_L1 p0 := hdF_shape_AreaOf_L1
  replace H : F_shape_AreaOf_L1 restF_shape_AreaOf_L1 iF_shape_AreaOf_L1 x110 = some r := H
  replace hmF_shape_AreaOf_L1 : m + 1 = restF_shape_AreaOf_L1.length + 1 := hmF_shape_AreaOf_L1
  replace hp0_0 := hp0_0.leR leF_shape_AreaOf_L1
  replace leB := leB.trans leF_shape_AreaOf_L1
  obtain rfl : m = restF_shape_AreaOf_L1.length := by omega
  clear hmF_shape_AreaOf_L1
  show Tr _ _ (LF [(3, (.int .i64 x110)), (6, (.slice Ap0_0 (p0).length cp0_0)), (7, (.int .i64 (p0.length : Int))), (8, (.int .i64 (iF_shape_AreaOf_L1 : Int)))]) (LE []) _
  cases restF_shape_AreaOf_L1 with
  | nil =>
    rw [F_shape_AreaOf_L1.eq_1] at H
    refine Tr.seq ?_
    refine Tr.region ?_
    refine Tr.val (wn rfl) rfl (fun _ _ h1 h2 => run_lss (h1.ev rfl) (h1.ev rfl)) ?_
    refine Tr.nil (Tr.normThen ?_)
    refine Tr.seq ?_
    refine Tr.condF rfl (range_nil hdF_shape_AreaOf_L1) ?_
    refine Tr.exit (Tr.exitThen (Tr.exitThen (Tr.exitBlock (Tr.normThen ?_))))
    refine Tr.seq ?_
    refine Tr.region ?_
    refine Tr.val (wn rfl) rfl (fun _ _ h1 h2 => run_move (h1.ev rfl)) ?_
    refine Tr.val (wn rfl) rfl (fun _ _ h1 h2 => run_assign (h1.ev rfl)) ?_
    refine Tr.nil (Tr.normThen ?_)
    refine Tr.ret ?_
    obtain rfl := Option.some.inj H
    exact Tr.out (m := [(.int .i64 x110)]) [] (res_tmp rfl res_nil) (fun W hW => ⟨rfl, hW.low leB⟩)
  | cons xF_shape_AreaOf_L1 restF_shape_AreaOf_L1 =>
    rw [F_shape_AreaOf_L1.eq_2] at H
    refine Tr.seq ?_
    refine Tr.region ?_
    refine Tr.val (wn rfl) rfl (fun _ _ h1 h2 => run_lss (h1.ev rfl) (h1.ev rfl)) ?_
    refine Tr.nil (Tr.normThen ?_)
    refine Tr.seq ?_
    refine Tr.condT rfl (range_on hdF_shape_AreaOf_L1) ?_
    refine Tr.skip (Tr.normThen ?_)
    refine Tr.seq ?_
    refine Tr.block ?_
    refine Tr.seq ?_
    refine Tr.region ?_
    refine Tr.val (wn rfl) rfl (fun _ _ h1 h2 => run_indexAddr el_22 (h1.ev rfl) hp0_0.form (h1.ev rfl) (Int.natCast_nonneg _) (range_lt hdF_shape_AreaOf_L1)) ?_
    refine Tr.val (wn rfl) rfl (fun _ _ h1 h2 => run_loadN (cs := [(.int .i64 xF_shape_AreaOf_L1.X0), (.int .i64 xF_shape_AreaOf_L1.Y0), (.int .i64 xF_shape_AreaOf_L1.X1), (.int .i64 xF_shape_AreaOf_L1.Y1)]) ag_29 sz_29 (h1.ev rfl) (CellsAt.take (rdF ef_TRect hp0_0 (range_at hdF_shape_AreaOf_L1) h2) 4) rfl) ?_
    refine Tr.alloc 3 (wn rfl) rfl ze_29 fun b111 => ?_
    refine Tr.store 3 (cs := [(.int .i64 xF_shape_AreaOf_L1.X0), (.int .i64 xF_shape_AreaOf_L1.Y0), (.int .i64 xF_shape_AreaOf_L1.X1), (.int .i64 xF_shape_AreaOf_L1.Y1)]) [(.int .i64 xF_shape_AreaOf_L1.X0), (.int .i64 xF_shape_AreaOf_L1.Y0), (.int .i64 xF_shape_AreaOf_L1.X1), (.int .i64 xF_shape_AreaOf_L1.Y1)] (wn rfl) rfl rfl rfl rfl sz_29 rfl rfl rfl ?_
    refine Tr.nil (Tr.normThen ?_)
    refine Tr.region ?_
    refine Tr.val (wn rfl) rfl (fun _ _ h1 h2 => run_move (h1.ev rfl)) ?_
    refine Tr.val (wn rfl) rfl (fun _ _ h1 h2 => run_fieldAddr fo_29_2 (h1.ev rfl)) ?_
    refine Tr.val (wn rfl) rfl (fun _ _ h1 h2 => run_load1 ag_3 (h1.ev rfl) (rdb h2 (vs := [(.int .i64 xF_shape_AreaOf_L1.X0), (.int .i64 xF_shape_AreaOf_L1.Y0), (.int .i64 xF_shape_AreaOf_L1.X1), (.int .i64 xF_shape_AreaOf_L1.Y1)]) (k := 3) rfl 2) rfl) ?_
    refine Tr.val (wn rfl) rfl (fun _ _ h1 h2 => run_fieldAddr fo_29_0 (h1.ev rfl)) ?_
    refine Tr.val (wn rfl) rfl (fun _ _ h1 h2 => run_load1 ag_3 (h1.ev rfl) (rdb h2 (vs := [(.int .i64 xF_shape_AreaOf_L1.X0), (.int .i64 xF_shape_AreaOf_L1.Y0), (.int .i64 xF_shape_AreaOf_L1.X1), (.int .i64 xF_shape_AreaOf_L1.Y1)]) (k := 3) rfl 0) rfl) ?_
    refine Tr.val (wn rfl) rfl (fun _ _ h1 h2 => run_sub (h1.ev rfl) (h1.ev rfl)) ?_
    refine Tr.val (wn rfl) rfl (fun _ _ h1 h2 => run_fieldAddr fo_29_3 (h1.ev rfl)) ?_
    refine Tr.val (wn rfl) rfl (fun _ _ h1 h2 => run_load1 ag_3 (h1.ev rfl) (rdb h2 (vs := [(.int .i64 xF_shape_AreaOf_L1.X0), (.int .i64 xF_shape_AreaOf_L1.Y0), (.int .i64 xF_shape_AreaOf_L1.X1), (.int .i64 xF_shape_AreaOf_L1.Y1)]) (k := 3) rfl 3) rfl) ?_
    refine Tr.val (wn rfl) rfl (fun _ _ h1 h2 => run_fieldAddr fo_29_1 (h1.ev rfl)) ?_
    refine Tr.val (wn rfl) rfl (fun _ _ h1 h2 => run_load1 ag_3 (h1.ev rfl) (rdb h2 (vs := [(.int .i64 xF_shape_AreaOf_L1.X0), (.int .i64 xF_shape_AreaOf_L1.Y0), (.int .i64 xF_shape_AreaOf_L1.X1), (.int .i64 xF_shape_AreaOf_L1.Y1)]) (k := 3) rfl 1) rfl) ?_
    refine Tr.val (wn rfl) rfl (fun _ _ h1 h2 => run_sub (h1.ev rfl) (h1.ev rfl)) ?_
    refine Tr.val (wn rfl) rfl (fun _ _ h1 h2 => run_mul (h1.ev rfl) (h1.ev rfl)) ?_
    refine Tr.val (wn rfl) rfl (fun _ _ h1 h2 => run_add (h1.ev rfl) (h1.ev rfl)) ?_
    refine Tr.val (wn rfl) rfl (fun _ _ h1 h2 => run_assign (h1.ev rfl)) ?_
    refine Tr.nil (Tr.normBlock (Tr.normThen ?_))
    refine Tr.region ?_
    refine Tr.val (wn rfl) rfl (fun _ _ h1 h2 => run_add (h1.ev rfl) (h1.ev rfl)) ?_
    refine Tr.val (wn rfl) rfl (fun _ _ h1 h2 => run_move (h1.ev rfl)) ?_
    refine Tr.nil ?_
    exact Tr.backThen leF_shape_AreaOf_L1 (restF_shape_AreaOf_L1, (iF_shape_AreaOf_L1 + 1), (w64 (x110 + (w64 ((w64 (xF_shape_AreaOf_L1.X1 - xF_shape_AreaOf_L1.X0)) * (w64 (xF_shape_AreaOf_L1.Y1 - xF_shape_AreaOf_L1.Y0))))))) ⟨rfl, range_tl hdF_shape_AreaOf_L1, range_lt hdF_shape_AreaOf_L1, H⟩ (.cons rfl (.cons rfl (.cons rfl (.cons (congrArg (fun z => some (Value.int .i64 z)) (range_up hdF_shape_AreaOf_L1 hp0_0.form)) .nil)))) .nil

theorem F_shape_Area_ok (N : Nat) {w : Bs} (p0 : (List TRect)) (Ap0_0 : Option Addr) (cp0_0 : Nat) (hp0_0 : Sl w.R w.W fl_TRect Ap0_0 cp0_0 p0) (r : (Int × Int)) (H : F_shape_Area N p0 = some r) (hE : HF w w.W E0) : Calls Try.prog 36 [(.slice Ap0_0 (p0).length cp0_0)].toArray w.W fun e W' => e = .returned (.tuple #[(.int .i64 r.1), (.int .i64 r.2)]) ∧ HF w W' E0 := by
  unfold F_shape_Area at H
  have leB := Bs.Le.refl w
  refine Tr.enter (n := 12) Try.func36 rfl rfl rfl hE ?_
  refine Tr.seq ?_
  refine Tr.region ?_
  refine Tr.val (wn rfl) rfl (fun _ _ h1 h2 => run_assign (h1.ev rfl)) ?_
  refine Tr.val (wn rfl) rfl (fun _ _ h1 h2 => run_assign (h1.ev rfl)) ?_
  refine Tr.nil (Tr.normThen ?_)
  refine Tr.seq ?_
  refine Tr.seq ?_
  refine Tr.region ?_
  refine Tr.val (wn rfl) rfl (fun _ _ h1 h2 => run_move (h1.ev rfl)) ?_
  obtain ⟨y100, hy100, H⟩ := bnd H
  refine Tr.call0 (r := (.int .i64 y100)) (wn rfl) rfl Try.call18 (evl_cons rfl evl_nil) (fun W hW => F_shape_CheckRegion_ok N p0 Ap0_0 cp0_0 (hp0_0.ext hW.extAll) y100 hy100 (HF.start _)) ?_
  refine Tr.val (wn rfl) rfl (fun _ _ h1 h2 => run_assign (h1.ev rfl)) ?_
  refine Tr.nil (Tr.normThen ?_)
  refine Tr.seq ?_
  refine Tr.region ?_
  refine Tr.val (wn rfl) rfl (fun _ _ h1 h2 => run_move (h1.ev rfl)) ?_
  refine Tr.val (wn rfl) rfl (fun _ _ h1 h2 => run_neq (h1.ev rfl) (h1.ev rfl)) ?_
  refine Tr.nil (Tr.normThen ?_)
  refine Tr.cond rfl H (fun H => ?_) (fun H => ?_)
  · refine Tr.seq ?_
    refine Tr.region ?_
    refine Tr.val (wn rfl) rfl (fun _ _ h1 h2 => run_move (h1.ev rfl)) ?_
    refine Tr.val (wn rfl) rfl (fun _ _ h1 h2 => run_assign (h1.ev rfl)) ?_
    refine Tr.val (wn rfl) rfl (fun _ _ h1 h2 => run_assign (h1.ev rfl)) ?_
    refine Tr.nil (Tr.normThen ?_)
    refine Tr.ret (Tr.retThen ?_)
    obtain rfl := Option.some.inj H
    exact Tr.out (m := [(.int .i64 0), (.int .i64 y100)]) [] (res_tmp rfl (res_tmp rfl res_nil)) (fun W hW => ⟨rfl, hW.low leB⟩)
  · refine Tr.skip (Tr.normThen ?_)
    refine Tr.seq ?_
    refine Tr.region ?_
    refine Tr.val (wn rfl) rfl (fun _ _ h1 h2 => run_move (h1.ev rfl)) ?_
    obtain ⟨y101, hy101, H⟩ := bnd H
    refine Tr.call0 (r := (.int .i64 y101)) (wn rfl) rfl Try.call67 (evl_cons rfl evl_nil) (fun W hW => F_shape_AreaOf_ok p0 Ap0_0 cp0_0 (hp0_0.ext hW.extAll) y101 hy101 (HF.start _)) ?_
    refine Tr.val (wn rfl) rfl (fun _ _ h1 h2 => run_assign (h1.ev rfl)) ?_
    refine Tr.val (wn rfl) rfl (fun _ _ h1 h2 => run_assign (h1.ev rfl)) ?_
    refine Tr.nil (Tr.normThen ?_)
    refine Tr.ret ?_
    obtain rfl := Option.some.inj H
    exact Tr.out (m := [(.int .i64 y101), (.int .i64 0)]) [] (res_tmp rfl (res_tmp rfl res_nil)) (fun W hW => ⟨rfl, hW.low leB⟩)

theorem F_etchhouselaw1_awake_ok (N : Nat) {w : Bs}  (r : Bool) (H : F_etchhouselaw1_awake N = some r) (hE : HF w w.W E0) : Calls Try.prog 12 [].toArray w.W fun e W' => e = .returned (.bool r) ∧ HF w W' E0 := by
  unfold F_etchhouselaw1_awake at H
  have leB := Bs.Le.refl w
  refine Tr.enter (n := 15) Try.func12 rfl rfl rfl hE ?_
  refine Tr.seq ?_
  refine Tr.region ?_
  refine Tr.val (wn rfl) rfl (fun _ _ h1 h2 => run_assign (h1.ev rfl)) ?_
  refine Tr.nil (Tr.normThen ?_)
  refine Tr.seq ?_
  refine Tr.region ?_
  refine Tr.build (vs := [(2, (.int .i64 2)), (3, (.int .i64 3))]) (cs := [(.int .i64 0), (.int .i64 0), (.int .i64 2), (.int .i64 3)]) (wn rfl) rfl (evs_cons rfl (evs_cons rfl evs_nil)) (by kernel_rfl) ?_
  refine Tr.buildSlice 1 (e := 29) (vs := [(0, (.agg #[(.int .i64 0), (.int .i64 0), (.int .i64 2), (.int .i64 3)]))]) (cs := [(.int .i64 0), (.int .i64 0), (.int .i64 2), (.int .i64 3)]) (wn rfl) rfl (evs_cons rfl evs_nil) (by kernel_rfl) fun b100 => ?_
  refine Tr.own 1 fl_TRect [(TRect.mk 0 0 2 3)] (css := [[(.int .i64 0), (.int .i64 0), (.int .i64 2), (.int .i64 3)]]) rfl (.cons ⟨(), trivial, rfl⟩ .nil) rfl (by decide) (lit_max rfl) ?_
  obtain ⟨y101, hy101, H⟩ := bnd H
  refine Tr.call0 (r := (.tuple #[(.int .i64 y101.1), (.int .i64 y101.2)])) (wn rfl) rfl Try.call36 (evl_cons rfl evl_nil) (fun W hW => F_shape_Area_ok N [(TRect.mk 0 0 2 3)] (some ⟨b100, 0, none⟩) 1 (hW.slCall (k := 1) rfl) y101 hy101 (HF.start _)) ?_
  refine Tr.val (wn rfl) rfl (fun _ _ h1 h2 => run_move (h1.ev rfl)) ?_
  refine Tr.val (wn rfl) rfl (fun _ _ h1 h2 => run_extract (h1.ev rfl) rfl) ?_
  refine Tr.val (wn rfl) rfl (fun _ _ h1 h2 => run_extract (h1.ev rfl) rfl) ?_
  refine Tr.val (wn rfl) rfl (fun _ _ h1 h2 => run_assign (h1.ev rfl)) ?_
  refine Tr.val (wn rfl) rfl (fun _ _ h1 h2 => run_assign (h1.ev rfl)) ?_
  refine Tr.nil (Tr.normThen ?_)
  refine Tr.seq ?_
  refine Tr.region ?_
  refine Tr.val (wn rfl) rfl (fun _ _ h1 h2 => run_move (h1.ev rfl)) ?_
  refine Tr.val (wn rfl) rfl (fun _ _ h1 h2 => run_eql (h1.ev rfl) (h1.ev rfl)) ?_
  refine Tr.val (wn rfl) rfl (fun _ _ h1 h2 => run_move (h1.ev rfl)) ?_
  refine Tr.mid0 3 [(14, (.bool ((y101.2 == 0) && (y101.1 == 6))))] [(1, ow (some ⟨b100, 0, none⟩) 1 29 fl_TRect [(TRect.mk 0 0 2 3)])] ?_ ?_
  · cases hg101 : (y101.2 == 0)
    · refine Tr.pass rfl rfl rfl rfl rfl (by decide) ?_
      refine Tr.pass rfl rfl rfl rfl rfl (by decide) ?_
      refine Tr.val (wn rfl) rfl (fun _ _ h1 h2 => run_pickF (h1.ev rfl) (h1.ev rfl)) ?_
      exact Tr.nil (Tr.fin0 (.cons rfl .nil) (.cons rfl .nil))
    · refine Tr.val (wg rfl rfl rfl) rfl (fun _ _ h1 h2 => run_move (h1.ev rfl)) ?_
      refine Tr.val (wg rfl rfl rfl) rfl (fun _ _ h1 h2 => run_eql (h1.ev rfl) (h1.ev rfl)) ?_
      refine Tr.val (wn rfl) rfl (fun _ _ h1 h2 => run_pickT (h1.ev rfl) (h1.ev rfl)) ?_
      exact Tr.nil (Tr.fin0 (.cons rfl .nil) (.cons rfl .nil))
  · show Tr _ _ (LF [(14, (.bool ((y101.2 == 0) && (y101.1 == 6))))]) (LE [(1, ow (some ⟨b100, 0, none⟩) 1 29 fl_TRect [(TRect.mk 0 0 2 3)])]) _
    refine Tr.val (wn rfl) rfl (fun _ _ h1 h2 => run_assign (h1.ev rfl)) ?_
    refine Tr.nil (Tr.normThen ?_)
    refine Tr.ret ?_
    obtain rfl := Option.some.inj H
    exact Tr.out (m := [(.bool ((y101.2 == 0) && (y101.1 == 6)))]) [] (res_tmp rfl res_nil) (fun W hW => ⟨rfl, hW.low leB⟩)

theorem F_shape_Opened_ok (N : Nat) {w : Bs} (p0 : (List TRect)) (Ap0_0 : Option Addr) (cp0_0 : Nat) (hp0_0 : Sl w.R w.W fl_TRect Ap0_0 cp0_0 p0) (p1 : Int) (r : ((List TRect) × Int)) (H : F_shape_Opened N p0 p1 = some r) (hE : HF w w.W (LEn [emp])) : Calls Try.prog 14 [(.slice Ap0_0 (p0).length cp0_0), (.int .i64 p1)].toArray w.W fun e W' => ∃ u : (Option Addr × Nat), e = .returned (.tuple #[(.slice u.1 (r.1).length u.2), (.int .i64 r.2)]) ∧ (SlF u.1 (r.1).length u.2) ∧ HF w W' (LEn [ow u.1 u.2 29 fl_TRect r.1]) := by
  unfold F_shape_Opened at H
  have leB := Bs.Le.refl w
  refine Tr.enter (n := 12) Try.func14 rfl rfl rfl hE ?_
  refine Tr.seq ?_
  refine Tr.region ?_
  refine Tr.val (wn rfl) rfl (fun _ _ h1 h2 => run_assign (h1.ev rfl)) ?_
  refine Tr.nilOwn 1 29 fl_TRect ?_
  show Tr _ _ (uf _ 4 (.slice none (([] : List TRect)).length 0)) _ _
  refine Tr.val (wn rfl) rfl (fun _ _ h1 h2 => run_assign (h1.ev rfl)) ?_
  refine Tr.nil (Tr.normThen ?_)
  refine Tr.seq ?_
  refine Tr.region ?_
  refine Tr.val (wn rfl) rfl (fun _ _ h1 h2 => run_move (h1.ev rfl)) ?_
  refine Tr.val (wn rfl) rfl (fun _ _ h1 h2 => run_move (h1.ev rfl)) ?_
  refine Tr.buildSlice 2 (e := 61) (vs := [(0, (.func (.func 37) #[] #[])), (1, (.func (.func 35) #[] #[]))]) (cs := [(.func (.func 37) #[] #[]), (.func (.func 35) #[] #[])]) (wn rfl) rfl (evs_cons rfl (evs_cons rfl evs_nil)) (by kernel_rfl) fun b100 => ?_
  refine Tr.own 2 fl_func [37, 35] (css := [[(.func (.func 37) #[] #[])], [(.func (.func 35) #[] #[])]]) rfl (.cons ⟨(), trivial, rfl⟩ (.cons ⟨(), trivial, rfl⟩ .nil)) rfl (by decide) (lit_max rfl) ?_
  obtain ⟨y101, hy101, H⟩ := bnd H
  refine Tr.callM [3] [emp] (U := (Option Addr × Nat)) (fun u => (.tuple #[(.slice u.1 (y101.1).length u.2), (.int .i64 y101.2)])) (fun u => SlF u.1 (y101.1).length u.2) (fun u => [ow u.1 u.2 29 fl_TRect y101.1]) rfl (pk_cons rfl pk_nil) (fun _ => rfl) (wn rfl) rfl Try.call34 (evl_cons rfl (evl_cons rfl (evl_cons rfl evl_nil))) (fun W hW hp hE => F_shape_steps_ok N p0 Ap0_0 cp0_0 (hp0_0.ext (hW.extS hp)) p1 [37, 35] (some ⟨b100, 0, none⟩) 2 (hW.slS (k := 2) rfl hp rfl) y101 hy101 hE) ?_
  intro u hu
  obtain ⟨Ay101_0, cy101_0⟩ := u
  have gy101_0 := hu
  have hgy101_0 : SlF Ay101_0 (y101.1).length cy101_0 := gy101_0 --@phi
  show Tr _ _ (uf _ 9 (.tuple #[(.slice Ay101_0 (y101.1).length cy101_0), (.int .i64 y101.2)])) (up _ 3 (ow Ay101_0 cy101_0 29 fl_TRect y101.1)) _
  refine Tr.val (wn rfl) rfl (fun _ _ h1 h2 => run_extract (h1.ev rfl) rfl) ?_
  refine Tr.val (wn rfl) rfl (fun _ _ h1 h2 => run_extract (h1.ev rfl) rfl) ?_
  refine Tr.val (wn rfl) rfl (fun _ _ h1 h2 => run_assign (h1.ev rfl)) ?_
  refine Tr.val (wn rfl) rfl (fun _ _ h1 h2 => run_assign (h1.ev rfl)) ?_
  refine Tr.nil (Tr.normThen ?_)
  refine Tr.ret ?_
  obtain rfl := Option.some.inj H
  exact Tr.out (m := [(.slice Ay101_0 (y101.1).length cy101_0), (.int .i64 y101.2)]) [] (res_tmp rfl (res_tmp rfl res_nil)) (fun W hW => ⟨(Ay101_0, cy101_0), rfl, hgy101_0, HF.lowE leB (hW.pick (ks := [3]) (by decide) (pk_cons rfl pk_nil)) ⟨ow_any _ _ _ _ tr_TRect, trivial⟩⟩)

theorem F_shape_Closed_ok (N : Nat) {w : Bs} (p0 : (List TRect)) (Ap0_0 : Option Addr) (cp0_0 : Nat) (hp0_0 : Sl w.R w.W fl_TRect Ap0_0 cp0_0 p0) (p1 : Int) (r : ((List TRect) × Int)) (H : F_shape_Closed N p0 p1 = some r) (hE : HF w w.W (LEn [emp])) : Calls Try.prog 15 [(.slice Ap0_0 (p0).length cp0_0), (.int .i64 p1)].toArray w.W fun e W' => ∃ u : (Option Addr × Nat), e = .returned (.tuple #[(.slice u.1 (r.1).length u.2), (.int .i64 r.2)]) ∧ (SlF u.1 (r.1).length u.2) ∧ HF w W' (LEn [ow u.1 u.2 29 fl_TRect r.1]) := by
  unfold F_shape_Closed at H
  have leB := Bs.Le.refl w
  refine Tr.enter (n := 12) Try.func15 rfl rfl rfl hE ?_
  refine Tr.seq ?_
  refine Tr.region ?_
  refine Tr.val (wn rfl) rfl (fun _ _ h1 h2 => run_assign (h1.ev rfl)) ?_
  refine Tr.nilOwn 1 29 fl_TRect ?_
  show Tr _ _ (uf _ 4 (.slice none (([] : List TRect)).length 0)) _ _
  refine Tr.val (wn rfl) rfl (fun _ _ h1 h2 => run_assign (h1.ev rfl)) ?_
  refine Tr.nil (Tr.normThen ?_)
  refine Tr.seq ?_
  refine Tr.region ?_
  refine Tr.val (wn rfl) rfl (fun _ _ h1 h2 => run_move (h1.ev rfl)) ?_
  refine Tr.val (wn rfl) rfl (fun _ _ h1 h2 => run_move (h1.ev rfl)) ?_
  refine Tr.buildSlice 2 (e := 61) (vs := [(0, (.func (.func 35) #[] #[])), (1, (.func (.func 37) #[] #[]))]) (cs := [(.func (.func 35) #[] #[]), (.func (.func 37) #[] #[])]) (wn rfl) rfl (evs_cons rfl (evs_cons rfl evs_nil)) (by kernel_rfl) fun b100 => ?_
  refine Tr.own 2 fl_func [35, 37] (css := [[(.func (.func 35) #[] #[])], [(.func (.func 37) #[] #[])]]) rfl (.cons ⟨(), trivial, rfl⟩ (.cons ⟨(), trivial, rfl⟩ .nil)) rfl (by decide) (lit_max rfl) ?_
  obtain ⟨y101, hy101, H⟩ := bnd H
  refine Tr.callM [3] [emp] (U := (Option Addr × Nat)) (fun u => (.tuple #[(.slice u.1 (y101.1).length u.2), (.int .i64 y101.2)])) (fun u => SlF u.1 (y101.1).length u.2) (fun u => [ow u.1 u.2 29 fl_TRect y101.1]) rfl (pk_cons rfl pk_nil) (fun _ => rfl) (wn rfl) rfl Try.call34 (evl_cons rfl (evl_cons rfl (evl_cons rfl evl_nil))) (fun W hW hp hE => F_shape_steps_ok N p0 Ap0_0 cp0_0 (hp0_0.ext (hW.extS hp)) p1 [35, 37] (some ⟨b100, 0, none⟩) 2 (hW.slS (k := 2) rfl hp rfl) y101 hy101 hE) ?_
  intro u hu
  obtain ⟨Ay101_0, cy101_0⟩ := u
  have gy101_0 := hu
  have hgy101_0 : SlF Ay101_0 (y101.1).length cy101_0 := gy101_0 --@phi
  show Tr _ _ (uf _ 9 (.tuple #[(.slice Ay101_0 (y101.1).length cy101_0), (.int .i64 y101.2)])) (up _ 3 (ow Ay101_0 cy101_0 29 fl_TRect y101.1)) _
  refine Tr.val (wn rfl) rfl (fun _ _ h1 h2 => run_extract (h1.ev rfl) rfl) ?_
  refine Tr.val (wn rfl) rfl (fun _ _ h1 h2 => run_extract (h1.ev rfl) rfl) ?_
  refine Tr.val (wn rfl) rfl (fun _ _ h1 h2 => run_assign (h1.ev rfl)) ?_
  refine Tr.val (wn rfl) rfl (fun _ _ h1 h2 => run_assign (h1.ev rfl)) ?_
  refine Tr.nil (Tr.normThen ?_)
  refine Tr.ret ?_
  obtain rfl := Option.some.inj H
  exact Tr.out (m := [(.slice Ay101_0 (y101.1).length cy101_0), (.int .i64 y101.2)]) [] (res_tmp rfl (res_tmp rfl res_nil)) (fun W hW => ⟨(Ay101_0, cy101_0), rfl, hgy101_0, HF.lowE leB (hW.pick (ks := [3]) (by decide) (pk_cons rfl pk_nil)) ⟨ow_any _ _ _ _ tr_TRect, trivial⟩⟩)

theorem F_shape_Set__Told_ok (N : Nat) {w : Bs} (p0 : (List TBand)) (Ap0_0 : Option Addr) (cp0_0 : Nat) (hp0_0 : Sl w.R w.W fl_TBand Ap0_0 cp0_0 p0) (r : ((List TRect) × Int)) (H : F_shape_Set__Told N p0 = some r) (hE : HF w w.W (LEn [emp])) : Calls Try.prog 48 [(.slice Ap0_0 (p0).length cp0_0)].toArray w.W fun e W' => ∃ u : (Option Addr × Nat), e = .returned (.tuple #[(.slice u.1 (r.1).length u.2), (.int .i64 r.2)]) ∧ (SlF u.1 (r.1).length u.2) ∧ HF w W' (LEn [ow u.1 u.2 29 fl_TRect r.1]) := by
  unfold F_shape_Set__Told at H
  have leB := Bs.Le.refl w
  refine Tr.enter (n := 9) Try.func48 rfl rfl rfl hE ?_
  refine Tr.seq ?_
  refine Tr.region ?_
  refine Tr.val (wn rfl) rfl (fun _ _ h1 h2 => run_assign (h1.ev rfl)) ?_
  refine Tr.nilOwn 1 29 fl_TRect ?_
  show Tr _ _ (uf _ 2 (.slice none (([] : List TRect)).length 0)) _ _
  refine Tr.val (wn rfl) rfl (fun _ _ h1 h2 => run_assign (h1.ev rfl)) ?_
  refine Tr.nil (Tr.normThen ?_)
  refine Tr.seq ?_
  refine Tr.seq ?_
  refine Tr.region ?_
  refine Tr.val (wn rfl) rfl (fun _ _ h1 h2 => run_move (h1.ev rfl)) ?_
  obtain ⟨y100, hy100, H⟩ := bnd H
  refine Tr.call0 (r := (.int .i64 y100)) (wn rfl) rfl Try.call66 (evl_cons rfl evl_nil) (fun W hW => F_shape_Set__Many_ok p0 Ap0_0 cp0_0 (hp0_0.ext hW.extAll) y100 hy100 (HF.start _)) ?_
  refine Tr.val (wn rfl) rfl (fun _ _ h1 h2 => run_gtr (h1.ev rfl) (h1.ev rfl)) ?_
  refine Tr.nil (Tr.normThen ?_)
  refine Tr.cond rfl H (fun H => ?_) (fun H => ?_)
  · refine Tr.seq ?_
    refine Tr.region ?_
    refine Tr.val (wn rfl) rfl (fun _ _ h1 h2 => run_assign (h1.ev rfl)) ?_
    refine Tr.nilOwn 2 29 fl_TRect ?_
    show Tr _ _ (uf _ 2 (.slice none (([] : List TRect)).length 0)) _ _
    refine Tr.val (wn rfl) rfl (fun _ _ h1 h2 => run_assign (h1.ev rfl)) ?_
    refine Tr.nil (Tr.normThen ?_)
    refine Tr.ret (Tr.retThen ?_)
    obtain rfl := Option.some.inj H
    exact Tr.out (m := [(.slice none (([] : List TRect)).length 0), (.int .i64 2)]) [] (res_tmp rfl (res_tmp rfl res_nil)) (fun W hW => ⟨(none, 0), rfl, slf_nil, HF.lowE leB (hW.pick (ks := [2]) (by decide) (pk_cons rfl pk_nil)) ⟨ow_any _ _ _ _ tr_TRect, trivial⟩⟩)
  · refine Tr.skip (Tr.normThen ?_)
    refine Tr.seq ?_
    refine Tr.region ?_
    refine Tr.val (wn rfl) rfl (fun _ _ h1 h2 => run_move (h1.ev rfl)) ?_
    obtain ⟨y101, hy101, H⟩ := bnd H
    refine Tr.callM [3] [emp] (U := (Option Addr × Nat)) (fun u => (.slice u.1 (y101).length u.2)) (fun u => SlF u.1 (y101).length u.2) (fun u => [ow u.1 u.2 29 fl_TRect y101]) rfl (pk_cons rfl pk_nil) (fun _ => rfl) (wn rfl) rfl Try.call41 (evl_cons rfl evl_nil) (fun W hW hp hE => F_shape_Set__Rects_ok N p0 Ap0_0 cp0_0 (hp0_0.ext (hW.extS hp)) y101 hy101 hE) ?_
    intro u hu
    obtain ⟨Ay101_0, cy101_0⟩ := u
    have gy101_0 := hu
    have hgy101_0 : SlF Ay101_0 (y101).length cy101_0 := gy101_0 --@phi
    show Tr _ _ (uf _ 8 (.slice Ay101_0 (y101).length cy101_0)) (up _ 3 (ow Ay101_0 cy101_0 29 fl_TRect y101)) _
    refine Tr.val (wn rfl) rfl (fun _ _ h1 h2 => run_assign (h1.ev rfl)) ?_
    refine Tr.val (wn rfl) rfl (fun _ _ h1 h2 => run_assign (h1.ev rfl)) ?_
    refine Tr.nil (Tr.normThen ?_)
    refine Tr.ret ?_
    obtain rfl := Option.some.inj H
    exact Tr.out (m := [(.slice Ay101_0 (y101).length cy101_0), (.int .i64 0)]) [] (res_tmp rfl (res_tmp rfl res_nil)) (fun W hW => ⟨(Ay101_0, cy101_0), rfl, hgy101_0, HF.lowE leB (hW.pick (ks := [3]) (by decide) (pk_cons rfl pk_nil)) ⟨ow_any _ _ _ _ tr_TRect, trivial⟩⟩)

theorem F_shape_two__Less_ok (N : Nat) {w : Bs} (p0 : (List TRect)) (Ap0_0 : Option Addr) (cp0_0 : Nat) (hp0_0 : Sl w.R w.W fl_TRect Ap0_0 cp0_0 p0) (p1 : (List TRect)) (Ap1_0 : Option Addr) (cp1_0 : Nat) (hp1_0 : Sl w.R w.W fl_TRect Ap1_0 cp1_0 p1) (r : ((List TRect) × Int)) (H : F_shape_two__Less N p0 p1 = some r) (hE : HF w w.W (LEn [emp])) : Calls Try.prog 42 [(.slice Ap0_0 (p0).length cp0_0), (.slice Ap1_0 (p1).length cp1_0), (.func (.func 53) #[] #[])].toArray w.W fun e W' => ∃ u : (Option Addr × Nat), e = .returned (.tuple #[(.slice u.1 (r.1).length u.2), (.int .i64 r.2)]) ∧ (SlF u.1 (r.1).length u.2) ∧ HF w W' (LEn [ow u.1 u.2 29 fl_TRect r.1]) := by
  unfold F_shape_two__Less at H
  have leB := Bs.Le.refl w
  refine Tr.enter (n := 29) Try.func42 rfl rfl rfl hE ?_
  refine Tr.seq ?_
  refine Tr.region ?_
  refine Tr.val (wn rfl) rfl (fun _ _ h1 h2 => run_assign (h1.ev rfl)) ?_
  refine Tr.nilOwn 1 29 fl_TRect ?_
  show Tr _ _ (uf _ 6 (.slice none (([] : List TRect)).length 0)) _ _
  refine Tr.val (wn rfl) rfl (fun _ _ h1 h2 => run_assign (h1.ev rfl)) ?_
  refine Tr.nil (Tr.normThen ?_)
  refine Tr.seq ?_
  refine Tr.seq ?_
  refine Tr.region ?_
  refine Tr.val (wn rfl) rfl (fun _ _ h1 h2 => run_move (h1.ev rfl)) ?_
  obtain ⟨y100, hy100, H⟩ := bnd H
  refine Tr.call0 (r := (.int .i64 y100)) (wn rfl) rfl Try.call18 (evl_cons rfl evl_nil) (fun W hW => F_shape_CheckRegion_ok N p0 Ap0_0 cp0_0 (hp0_0.ext hW.extAll) y100 hy100 (HF.start _)) ?_
  refine Tr.val (wn rfl) rfl (fun _ _ h1 h2 => run_assign (h1.ev rfl)) ?_
  refine Tr.nil (Tr.normThen ?_)
  refine Tr.seq ?_
  refine Tr.region ?_
  refine Tr.val (wn rfl) rfl (fun _ _ h1 h2 => run_move (h1.ev rfl)) ?_
  refine Tr.val (wn rfl) rfl (fun _ _ h1 h2 => run_neq (h1.ev rfl) (h1.ev rfl)) ?_
  refine Tr.nil (Tr.normThen ?_)
  refine Tr.cond rfl H (fun H => ?_) (fun H => ?_)
  · refine Tr.seq ?_
    refine Tr.region ?_
    refine Tr.val (wn rfl) rfl (fun _ _ h1 h2 => run_move (h1.ev rfl)) ?_
    refine Tr.val (wn rfl) rfl (fun _ _ h1 h2 => run_assign (h1.ev rfl)) ?_
    refine Tr.nilOwn 2 29 fl_TRect ?_
    show Tr _ _ (uf _ 6 (.slice none (([] : List TRect)).length 0)) _ _
    refine Tr.val (wn rfl) rfl (fun _ _ h1 h2 => run_assign (h1.ev rfl)) ?_
    refine Tr.nil (Tr.normThen ?_)
    refine Tr.ret (Tr.retThen ?_)
    obtain rfl := Option.some.inj H
    exact Tr.out (m := [(.slice none (([] : List TRect)).length 0), (.int .i64 y100)]) [] (res_tmp rfl (res_tmp rfl res_nil)) (fun W hW => ⟨(none, 0), rfl, slf_nil, HF.lowE leB (hW.pick (ks := [2]) (by decide) (pk_cons rfl pk_nil)) ⟨ow_any _ _ _ _ tr_TRect, trivial⟩⟩)
  · refine Tr.skip (Tr.normThen ?_)
    refine Tr.seq ?_
    refine Tr.seq ?_
    refine Tr.region ?_
    refine Tr.val (wn rfl) rfl (fun _ _ h1 h2 => run_move (h1.ev rfl)) ?_
    obtain ⟨y101, hy101, H⟩ := bnd H
    refine Tr.call0 (r := (.int .i64 y101)) (wn rfl) rfl Try.call18 (evl_cons rfl evl_nil) (fun W hW => F_shape_CheckRegion_ok N p1 Ap1_0 cp1_0 (hp1_0.ext hW.extAll) y101 hy101 (HF.start _)) ?_
    refine Tr.val (wn rfl) rfl (fun _ _ h1 h2 => run_assign (h1.ev rfl)) ?_
    refine Tr.nil (Tr.normThen ?_)
    refine Tr.seq ?_
    refine Tr.region ?_
    refine Tr.val (wn rfl) rfl (fun _ _ h1 h2 => run_move (h1.ev rfl)) ?_
    refine Tr.val (wn rfl) rfl (fun _ _ h1 h2 => run_neq (h1.ev rfl) (h1.ev rfl)) ?_
    refine Tr.nil (Tr.normThen ?_)
    refine Tr.cond rfl H (fun H => ?_) (fun H => ?_)
    · refine Tr.seq ?_
      refine Tr.region ?_
      refine Tr.val (wn rfl) rfl (fun _ _ h1 h2 => run_move (h1.ev rfl)) ?_
      refine Tr.val (wn rfl) rfl (fun _ _ h1 h2 => run_assign (h1.ev rfl)) ?_
      refine Tr.nilOwn 3 29 fl_TRect ?_
      show Tr _ _ (uf _ 6 (.slice none (([] : List TRect)).length 0)) _ _
      refine Tr.val (wn rfl) rfl (fun _ _ h1 h2 => run_assign (h1.ev rfl)) ?_
      refine Tr.nil (Tr.normThen ?_)
      refine Tr.ret (Tr.retThen ?_)
      obtain rfl := Option.some.inj H
      exact Tr.out (m := [(.slice none (([] : List TRect)).length 0), (.int .i64 y101)]) [] (res_tmp rfl (res_tmp rfl res_nil)) (fun W hW => ⟨(none, 0), rfl, slf_nil, HF.lowE leB (hW.pick (ks := [3]) (by decide) (pk_cons rfl pk_nil)) ⟨ow_any _ _ _ _ tr_TRect, trivial⟩⟩)
    · refine Tr.skip (Tr.normThen ?_)
      refine Tr.seq ?_
      refine Tr.region ?_
      refine Tr.val (wn rfl) rfl (fun _ _ h1 h2 => run_move (h1.ev rfl)) ?_
      refine Tr.val (wn rfl) rfl (fun _ _ h1 h2 => run_move (h1.ev rfl)) ?_
      obtain ⟨y102, hy102, H⟩ := bnd H
      refine Tr.callG [4] [emp] (U := (Option Addr × Nat)) (fun u => (.slice u.1 (y102).length u.2)) (fun O W u => SlF u.1 (y102).length u.2) (fun u => [ow u.1 u.2 104 fl_TBand y102]) rfl (pk_cons rfl pk_nil) (fun _ => rfl) (wn rfl) rfl Try.call40 (evl_cons rfl evl_nil) (fun W hW hp hE => F_shape_SetOf_ok N p0 Ap0_0 cp0_0 (hp0_0.ext (hW.extS hp)) y102 hy102 hE) ?_
      intro w u le103 hu
      obtain ⟨Ay102_0, cy102_0⟩ := u
      have gy102_0 := hu
      replace hp0_0 := hp0_0.leR le103
      replace hp1_0 := hp1_0.leR le103
      replace leB := leB.trans le103
      have hgy102_0 : SlF Ay102_0 (y102).length cy102_0 := gy102_0 --@phi
      show Tr _ _ (uf _ 22 (.slice Ay102_0 (y102).length cy102_0)) (up _ 4 (ow Ay102_0 cy102_0 104 fl_TBand y102)) _
      refine Tr.val (wn rfl) rfl (fun _ _ h1 h2 => run_move (h1.ev rfl)) ?_
      obtain ⟨y104, hy104, H⟩ := bnd H
      refine Tr.callG [5] [emp] (U := (Option Addr × Nat)) (fun u => (.slice u.1 (y104).length u.2)) (fun O W u => SlF u.1 (y104).length u.2) (fun u => [ow u.1 u.2 104 fl_TBand y104]) rfl (pk_cons rfl pk_nil) (fun _ => rfl) (wn rfl) rfl Try.call40 (evl_cons rfl evl_nil) (fun W hW hp hE => F_shape_SetOf_ok N p1 Ap1_0 cp1_0 (hp1_0.ext (hW.extS hp)) y104 hy104 hE) ?_
      intro w u le105 hu
      obtain ⟨Ay104_0, cy104_0⟩ := u
      have gy104_0 := hu
      replace hp0_0 := hp0_0.leR le105
      replace hp1_0 := hp1_0.leR le105
      replace leB := leB.trans le105
      have hgy104_0 : SlF Ay104_0 (y104).length cy104_0 := gy104_0 --@phi
      show Tr _ _ (uf _ 24 (.slice Ay104_0 (y104).length cy104_0)) (up _ 5 (ow Ay104_0 cy104_0 104 fl_TBand y104)) _
      refine Tr.freeze 4 rfl fun w le107 hz106 => ?_
      replace hp0_0 := hp0_0.leR le107
      replace hp1_0 := hp1_0.leR le107
      replace leB := leB.trans le107
      refine Tr.freeze 5 rfl fun w le109 hz108 => ?_
      replace hp0_0 := hp0_0.leR le109
      replace hp1_0 := hp1_0.leR le109
      replace hz106 := hz106.le le109
      replace leB := leB.trans le109
      obtain ⟨y110, hy110, H⟩ := bnd H
      refine Tr.callGV [6] [emp] (U := (Option Addr × Nat)) (fun u => (.slice u.1 (y110).length u.2)) (fun O W u => SlF u.1 (y110).length u.2) (fun u => [ow u.1 u.2 104 fl_TBand y110]) rfl (pk_cons rfl pk_nil) (fun _ => rfl) (wn rfl) rfl rfl Try.call53 (evl_cons rfl (evl_cons rfl evl_nil)) (fun W hW hp hE => F_shape_Set__Less_ok N y102 Ay102_0 cy102_0 (hz106.extO (hW.extS hp)) y104 Ay104_0 cy104_0 (hz108.extO (hW.extS hp)) y110 hy110 hE) ?_
      intro w u le111 hu
      obtain ⟨Ay110_0, cy110_0⟩ := u
      have gy110_0 := hu
      replace hp0_0 := hp0_0.leR le111
      replace hp1_0 := hp1_0.leR le111
      replace hz106 := hz106.le le111
      replace hz108 := hz108.le le111
      replace leB := leB.trans le111
      have hgy110_0 : SlF Ay110_0 (y110).length cy110_0 := gy110_0 --@phi
      show Tr _ _ (uf _ 25 (.slice Ay110_0 (y110).length cy110_0)) (up _ 6 (ow Ay110_0 cy110_0 104 fl_TBand y110)) _
      obtain ⟨y112, hy112, H⟩ := bnd H
      refine Tr.callM [7] [emp] (U := (Option Addr × Nat)) (fun u => (.tuple #[(.slice u.1 (y112.1).length u.2), (.int .i64 y112.2)])) (fun u => SlF u.1 (y112.1).length u.2) (fun u => [ow u.1 u.2 29 fl_TRect y112.1]) rfl (pk_cons rfl pk_nil) (fun _ => rfl) (wn rfl) rfl Try.call48 (evl_cons rfl evl_nil) (fun W hW hp hE => F_shape_Set__Told_ok N y110 Ay110_0 cy110_0 (hW.slS (k := 6) rfl hp rfl) y112 hy112 hE) ?_
      intro u hu
      obtain ⟨Ay112_0, cy112_0⟩ := u
      have gy112_0 := hu
      have hgy112_0 : SlF Ay112_0 (y112.1).length cy112_0 := gy112_0 --@phi
      show Tr _ _ (uf _ 26 (.tuple #[(.slice Ay112_0 (y112.1).length cy112_0), (.int .i64 y112.2)])) (up _ 7 (ow Ay112_0 cy112_0 29 fl_TRect y112.1)) _
      refine Tr.val (wn rfl) rfl (fun _ _ h1 h2 => run_extract (h1.ev rfl) rfl) ?_
      refine Tr.val (wn rfl) rfl (fun _ _ h1 h2 => run_extract (h1.ev rfl) rfl) ?_
      refine Tr.val (wn rfl) rfl (fun _ _ h1 h2 => run_assign (h1.ev rfl)) ?_
      refine Tr.val (wn rfl) rfl (fun _ _ h1 h2 => run_assign (h1.ev rfl)) ?_
      refine Tr.nil (Tr.normThen ?_)
      refine Tr.ret ?_
      obtain rfl := Option.some.inj H
      exact Tr.out (m := [(.slice Ay112_0 (y112.1).length cy112_0), (.int .i64 y112.2)]) [] (res_tmp rfl (res_tmp rfl res_nil)) (fun W hW => ⟨(Ay112_0, cy112_0), rfl, hgy112_0, HF.lowE leB (hW.pick (ks := [7]) (by decide) (pk_cons rfl pk_nil)) ⟨ow_any _ _ _ _ tr_TRect, trivial⟩⟩)

theorem F_shape_Minus_ok (N : Nat) {w : Bs} (p0 : (List TRect)) (Ap0_0 : Option Addr) (cp0_0 : Nat) (hp0_0 : Sl w.R w.W fl_TRect Ap0_0 cp0_0 p0) (p1 : (List TRect)) (Ap1_0 : Option Addr) (cp1_0 : Nat) (hp1_0 : Sl w.R w.W fl_TRect Ap1_0 cp1_0 p1) (r : ((List TRect) × Int)) (H : F_shape_Minus N p0 p1 = some r) (hE : HF w w.W (LEn [emp])) : Calls Try.prog 38 [(.slice Ap0_0 (p0).length cp0_0), (.slice Ap1_0 (p1).length cp1_0)].toArray w.W fun e W' => ∃ u : (Option Addr × Nat), e = .returned (.tuple #[(.slice u.1 (r.1).length u.2), (.int .i64 r.2)]) ∧ (SlF u.1 (r.1).length u.2) ∧ HF w W' (LEn [ow u.1 u.2 29 fl_TRect r.1]) := by
  unfold F_shape_Minus at H
  have leB := Bs.Le.refl w
  refine Tr.enter (n := 11) Try.func38 rfl rfl rfl hE ?_
  refine Tr.seq ?_
  refine Tr.region ?_
  refine Tr.val (wn rfl) rfl (fun _ _ h1 h2 => run_assign (h1.ev rfl)) ?_
  refine Tr.nilOwn 1 29 fl_TRect ?_
  show Tr _ _ (uf _ 4 (.slice none (([] : List TRect)).length 0)) _ _
  refine Tr.val (wn rfl) rfl (fun _ _ h1 h2 => run_assign (h1.ev rfl)) ?_
  refine Tr.nil (Tr.normThen ?_)
  refine Tr.seq ?_
  refine Tr.region ?_
  refine Tr.val (wn rfl) rfl (fun _ _ h1 h2 => run_move (h1.ev rfl)) ?_
  refine Tr.val (wn rfl) rfl (fun _ _ h1 h2 => run_move (h1.ev rfl)) ?_
  obtain ⟨y100, hy100, H⟩ := bnd H
  refine Tr.callM [2] [emp] (U := (Option Addr × Nat)) (fun u => (.tuple #[(.slice u.1 (y100.1).length u.2), (.int .i64 y100.2)])) (fun u => SlF u.1 (y100.1).length u.2) (fun u => [ow u.1 u.2 29 fl_TRect y100.1]) rfl (pk_cons rfl pk_nil) (fun _ => rfl) (wn rfl) rfl Try.call42 (evl_cons rfl (evl_cons rfl (evl_cons rfl evl_nil))) (fun W hW hp hE => F_shape_two__Less_ok N p0 Ap0_0 cp0_0 (hp0_0.ext (hW.extS hp)) p1 Ap1_0 cp1_0 (hp1_0.ext (hW.extS hp)) y100 hy100 hE) ?_
  intro u hu
  obtain ⟨Ay100_0, cy100_0⟩ := u
  have gy100_0 := hu
  have hgy100_0 : SlF Ay100_0 (y100.1).length cy100_0 := gy100_0 --@phi
  show Tr _ _ (uf _ 8 (.tuple #[(.slice Ay100_0 (y100.1).length cy100_0), (.int .i64 y100.2)])) (up _ 2 (ow Ay100_0 cy100_0 29 fl_TRect y100.1)) _
  refine Tr.val (wn rfl) rfl (fun _ _ h1 h2 => run_extract (h1.ev rfl) rfl) ?_
  refine Tr.val (wn rfl) rfl (fun _ _ h1 h2 => run_extract (h1.ev rfl) rfl) ?_
  refine Tr.val (wn rfl) rfl (fun _ _ h1 h2 => run_assign (h1.ev rfl)) ?_
  refine Tr.val (wn rfl) rfl (fun _ _ h1 h2 => run_assign (h1.ev rfl)) ?_
  refine Tr.nil (Tr.normThen ?_)
  refine Tr.ret ?_
  obtain rfl := Option.some.inj H
  exact Tr.out (m := [(.slice Ay100_0 (y100.1).length cy100_0), (.int .i64 y100.2)]) [] (res_tmp rfl (res_tmp rfl res_nil)) (fun W hW => ⟨(Ay100_0, cy100_0), rfl, hgy100_0, HF.lowE leB (hW.pick (ks := [2]) (by decide) (pk_cons rfl pk_nil)) ⟨ow_any _ _ _ _ tr_TRect, trivial⟩⟩)

theorem F_etchhouselaw1_inside_ok (N : Nat) {w : Bs} (p0 : (List TRect)) (Ap0_0 : Option Addr) (cp0_0 : Nat) (hp0_0 : Sl w.R w.W fl_TRect Ap0_0 cp0_0 p0) (p1 : (List TRect)) (Ap1_0 : Option Addr) (cp1_0 : Nat) (hp1_0 : Sl w.R w.W fl_TRect Ap1_0 cp1_0 p1) (r : Bool) (H : F_etchhouselaw1_inside N p0 p1 = some r) (hE : HF w w.W E0) : Calls Try.prog 16 [(.slice Ap0_0 (p0).length cp0_0), (.slice Ap1_0 (p1).length cp1_0)].toArray w.W fun e W' => e = .returned (.bool r) ∧ HF w W' E0 := by
  unfold F_etchhouselaw1_inside at H
  have leB := Bs.Le.refl w
  refine Tr.enter (n := 20) Try.func16 rfl rfl rfl hE ?_
  refine Tr.seq ?_
  refine Tr.region ?_
  refine Tr.val (wn rfl) rfl (fun _ _ h1 h2 => run_assign (h1.ev rfl)) ?_
  refine Tr.nil (Tr.normThen ?_)
  refine Tr.seq ?_
  refine Tr.region ?_
  refine Tr.val (wn rfl) rfl (fun _ _ h1 h2 => run_move (h1.ev rfl)) ?_
  refine Tr.val (wn rfl) rfl (fun _ _ h1 h2 => run_move (h1.ev rfl)) ?_
  obtain ⟨y100, hy100, H⟩ := bnd H
  refine Tr.callM [1] [emp] (U := (Option Addr × Nat)) (fun u => (.tuple #[(.slice u.1 (y100.1).length u.2), (.int .i64 y100.2)])) (fun u => SlF u.1 (y100.1).length u.2) (fun u => [ow u.1 u.2 29 fl_TRect y100.1]) rfl (pk_cons rfl pk_nil) (fun _ => rfl) (wn rfl) rfl Try.call38 (evl_cons rfl (evl_cons rfl evl_nil)) (fun W hW hp hE => F_shape_Minus_ok N p0 Ap0_0 cp0_0 (hp0_0.ext (hW.extS hp)) p1 Ap1_0 cp1_0 (hp1_0.ext (hW.extS hp)) y100 hy100 hE) ?_
  intro u hu
  obtain ⟨Ay100_0, cy100_0⟩ := u
  have gy100_0 := hu
  have hgy100_0 : SlF Ay100_0 (y100.1).length cy100_0 := gy100_0 --@phi
  show Tr _ _ (uf _ 10 (.tuple #[(.slice Ay100_0 (y100.1).length cy100_0), (.int .i64 y100.2)])) (up _ 1 (ow Ay100_0 cy100_0 29 fl_TRect y100.1)) _
  refine Tr.val (wn rfl) rfl (fun _ _ h1 h2 => run_move (h1.ev rfl)) ?_
  refine Tr.val (wn rfl) rfl (fun _ _ h1 h2 => run_extract (h1.ev rfl) rfl) ?_
  refine Tr.val (wn rfl) rfl (fun _ _ h1 h2 => run_extract (h1.ev rfl) rfl) ?_
  refine Tr.val (wn rfl) rfl (fun _ _ h1 h2 => run_assign (h1.ev rfl)) ?_
  refine Tr.val (wn rfl) rfl (fun _ _ h1 h2 => run_assign (h1.ev rfl)) ?_
  refine Tr.nil (Tr.normThen ?_)
  refine Tr.seq ?_
  refine Tr.region ?_
  refine Tr.val (wn rfl) rfl (fun _ _ h1 h2 => run_move (h1.ev rfl)) ?_
  refine Tr.val (wn rfl) rfl (fun _ _ h1 h2 => run_eql (h1.ev rfl) (h1.ev rfl)) ?_
  refine Tr.val (wn rfl) rfl (fun _ _ h1 h2 => run_move (h1.ev rfl)) ?_
  refine Tr.mid0 4 [(19, (.bool ((y100.2 == 0) && ((y100.1.length : Int) == 0))))] [(1, ow Ay100_0 cy100_0 29 fl_TRect y100.1)] ?_ ?_
  · cases hg101 : (y100.2 == 0)
    · refine Tr.pass rfl rfl rfl rfl rfl (by decide) ?_
      refine Tr.pass rfl rfl rfl rfl rfl (by decide) ?_
      refine Tr.pass rfl rfl rfl rfl rfl (by decide) ?_
      refine Tr.val (wn rfl) rfl (fun _ _ h1 h2 => run_pickF (h1.ev rfl) (h1.ev rfl)) ?_
      exact Tr.nil (Tr.fin0 (.cons rfl .nil) (.cons rfl .nil))
    · refine Tr.val (wg rfl rfl rfl) rfl (fun _ _ h1 h2 => run_move (h1.ev rfl)) ?_
      refine Tr.val (wg rfl rfl rfl) rfl (fun _ _ h1 h2 => run_len un_22 (h1.ev rfl)) ?_
      refine Tr.val (wg rfl rfl rfl) rfl (fun _ _ h1 h2 => run_eql (h1.ev rfl) (h1.ev rfl)) ?_
      refine Tr.val (wn rfl) rfl (fun _ _ h1 h2 => run_pickT (h1.ev rfl) (h1.ev rfl)) ?_
      exact Tr.nil (Tr.fin0 (.cons rfl .nil) (.cons rfl .nil))
  · show Tr _ _ (LF [(19, (.bool ((y100.2 == 0) && ((y100.1.length : Int) == 0))))]) (LE [(1, ow Ay100_0 cy100_0 29 fl_TRect y100.1)]) _
    refine Tr.val (wn rfl) rfl (fun _ _ h1 h2 => run_assign (h1.ev rfl)) ?_
    refine Tr.nil (Tr.normThen ?_)
    refine Tr.ret ?_
    obtain rfl := Option.some.inj H
    exact Tr.out (m := [(.bool ((y100.2 == 0) && ((y100.1.length : Int) == 0)))]) [] (res_tmp rfl res_nil) (fun W hW => ⟨rfl, hW.low leB⟩)

theorem F_etchhouselaw1_GrowsAdd_ok (N : Nat) {w : Bs} (p0 : (List TRect)) (Ap0_0 : Option Addr) (cp0_0 : Nat) (hp0_0 : Sl w.R w.W fl_TRect Ap0_0 cp0_0 p0) (p1 : Int) (p2 : Int) (r : Bool) (H : F_etchhouselaw1_GrowsAdd N p0 p1 p2 = some r) (hE : HF w w.W E0) : Calls Try.prog 3 [(.slice Ap0_0 (p0).length cp0_0), (.int .i64 p1), (.int .i64 p2)].toArray w.W fun e W' => e = .returned (.bool r) ∧ HF w W' E0 := by
  unfold F_etchhouselaw1_GrowsAdd at H
  have leB := Bs.Le.refl w
  refine Tr.enter (n := 91) Try.func3 rfl rfl rfl hE ?_
  refine Tr.seq ?_
  refine Tr.region ?_
  refine Tr.val (wn rfl) rfl (fun _ _ h1 h2 => run_assign (h1.ev rfl)) ?_
  refine Tr.nil (Tr.normThen ?_)
  refine Tr.seq ?_
  refine Tr.region ?_
  refine Tr.val (wn rfl) rfl (fun _ _ h1 h2 => run_move (h1.ev rfl)) ?_
  refine Tr.val (wn rfl) rfl (fun _ _ h1 h2 => run_move (h1.ev rfl)) ?_
  obtain ⟨y100, hy100, H⟩ := bnd H
  refine Tr.callM [1] [emp] (U := (Option Addr × Nat)) (fun u => (.tuple #[(.slice u.1 (y100.1).length u.2), (.int .i64 y100.2)])) (fun u => SlF u.1 (y100.1).length u.2) (fun u => [ow u.1 u.2 29 fl_TRect y100.1]) rfl (pk_cons rfl pk_nil) (fun _ => rfl) (wn rfl) rfl Try.call11 (evl_cons rfl (evl_cons rfl evl_nil)) (fun W hW hp hE => F_shape_Grow_ok N p0 Ap0_0 cp0_0 (hp0_0.ext (hW.extS hp)) p1 y100 hy100 hE) ?_
  intro u hu
  obtain ⟨Ay100_0, cy100_0⟩ := u
  have gy100_0 := hu
  have hgy100_0 : SlF Ay100_0 (y100.1).length cy100_0 := gy100_0 --@phi
  show Tr _ _ (uf _ 19 (.tuple #[(.slice Ay100_0 (y100.1).length cy100_0), (.int .i64 y100.2)])) (up _ 1 (ow Ay100_0 cy100_0 29 fl_TRect y100.1)) _
  refine Tr.val (wn rfl) rfl (fun _ _ h1 h2 => run_move (h1.ev rfl)) ?_
  refine Tr.val (wn rfl) rfl (fun _ _ h1 h2 => run_extract (h1.ev rfl) rfl) ?_
  refine Tr.val (wn rfl) rfl (fun _ _ h1 h2 => run_extract (h1.ev rfl) rfl) ?_
  refine Tr.val (wn rfl) rfl (fun _ _ h1 h2 => run_assign (h1.ev rfl)) ?_
  refine Tr.val (wn rfl) rfl (fun _ _ h1 h2 => run_assign (h1.ev rfl)) ?_
  refine Tr.nil (Tr.normThen ?_)
  refine Tr.seq ?_
  refine Tr.seq ?_
  refine Tr.region ?_
  refine Tr.val (wn rfl) rfl (fun _ _ h1 h2 => run_move (h1.ev rfl)) ?_
  refine Tr.val (wn rfl) rfl (fun _ _ h1 h2 => run_neq (h1.ev rfl) (h1.ev rfl)) ?_
  refine Tr.nil (Tr.normThen ?_)
  refine Tr.cond rfl H (fun H => ?_) (fun H => ?_)
  · refine Tr.seq ?_
    refine Tr.region ?_
    refine Tr.val (wn rfl) rfl (fun _ _ h1 h2 => run_move (h1.ev rfl)) ?_
    refine Tr.val (wn rfl) rfl (fun _ _ h1 h2 => run_len un_22 (h1.ev rfl)) ?_
    refine Tr.val (wn rfl) rfl (fun _ _ h1 h2 => run_eql (h1.ev rfl) (h1.ev rfl)) ?_
    refine Tr.val (wn rfl) rfl (fun _ _ h1 h2 => run_move (h1.ev rfl)) ?_
    obtain ⟨g103, hg103, H⟩ := bnd H
    refine Tr.mid0 2 [(29, (.bool g103))] [(1, ow Ay100_0 cy100_0 29 fl_TRect y100.1)] ?_ ?_
    · cases hg104 : ((y100.1.length : Int) == 0)
      · rw [hg104] at hg103
        rw [if_neg (by decide)] at hg103
        have H := hg103
        obtain rfl := Option.some.inj H
        refine Tr.pass rfl rfl rfl rfl rfl (by decide) ?_
        refine Tr.val (wn rfl) rfl (fun _ _ h1 h2 => run_pickF (h1.ev rfl) (h1.ev rfl)) ?_
        exact Tr.nil (Tr.fin0 (.cons rfl .nil) (.cons rfl .nil))
      · rw [hg104] at hg103
        rw [if_pos rfl] at hg103
        have H := hg103
        obtain ⟨y104, hy104, H⟩ := bnd H
        refine Tr.call0 (r := (.bool y104)) (wg rfl rfl rfl) rfl Try.call12 evl_nil (fun W hW => F_etchhouselaw1_awake_ok N y104 hy104 (HF.start _)) ?_
        refine Tr.val (wn rfl) rfl (fun _ _ h1 h2 => run_pickT (h1.ev rfl) (h1.ev rfl)) ?_
        obtain rfl := Option.some.inj H
        exact Tr.nil (Tr.fin0 (.cons rfl .nil) (.cons rfl .nil))
    · show Tr _ _ (LF [(29, (.bool g103))]) (LE [(1, ow Ay100_0 cy100_0 29 fl_TRect y100.1)]) _
      refine Tr.val (wn rfl) rfl (fun _ _ h1 h2 => run_assign (h1.ev rfl)) ?_
      refine Tr.nil (Tr.normThen ?_)
      refine Tr.ret (Tr.retThen ?_)
      obtain rfl := Option.some.inj H
      exact Tr.out (m := [(.bool g103)]) [] (res_tmp rfl res_nil) (fun W hW => ⟨rfl, hW.low leB⟩)
  · refine Tr.skip (Tr.normThen ?_)
    refine Tr.seq ?_
    refine Tr.region ?_
    refine Tr.val (wn rfl) rfl (fun _ _ h1 h2 => run_move (h1.ev rfl)) ?_
    refine Tr.val (wn rfl) rfl (fun _ _ h1 h2 => run_move (h1.ev rfl)) ?_
    obtain ⟨y105, hy105, H⟩ := bnd H
    refine Tr.callM [2] [emp] (U := (Option Addr × Nat)) (fun u => (.tuple #[(.slice u.1 (y105.1).length u.2), (.int .i64 y105.2)])) (fun u => SlF u.1 (y105.1).length u.2) (fun u => [ow u.1 u.2 29 fl_TRect y105.1]) rfl (pk_cons rfl pk_nil) (fun _ => rfl) (wn rfl) rfl Try.call11 (evl_cons rfl (evl_cons rfl evl_nil)) (fun W hW hp hE => F_shape_Grow_ok N y100.1 Ay100_0 cy100_0 (hW.slS (k := 1) rfl hp rfl) p2 y105 hy105 hE) ?_
    intro u hu
    obtain ⟨Ay105_0, cy105_0⟩ := u
    have gy105_0 := hu
    have hgy105_0 : SlF Ay105_0 (y105.1).length cy105_0 := gy105_0 --@phi
    show Tr _ _ (uf _ 33 (.tuple #[(.slice Ay105_0 (y105.1).length cy105_0), (.int .i64 y105.2)])) (up _ 2 (ow Ay105_0 cy105_0 29 fl_TRect y105.1)) _
    refine Tr.val (wn rfl) rfl (fun _ _ h1 h2 => run_move (h1.ev rfl)) ?_
    refine Tr.val (wn rfl) rfl (fun _ _ h1 h2 => run_extract (h1.ev rfl) rfl) ?_
    refine Tr.val (wn rfl) rfl (fun _ _ h1 h2 => run_extract (h1.ev rfl) rfl) ?_
    refine Tr.val (wn rfl) rfl (fun _ _ h1 h2 => run_assign (h1.ev rfl)) ?_
    refine Tr.val (wn rfl) rfl (fun _ _ h1 h2 => run_assign (h1.ev rfl)) ?_
    refine Tr.nil (Tr.normThen ?_)
    have leJ112 := Bs.Le.refl w
    refine Tr.cutJ (σ := Unit) (fun w _ => F_etchhouselaw1_GrowsAdd_J1 N p0 p1 = some r) (fun _ => [(0, (.slice Ap0_0 (p0).length cp0_0)), (1, (.int .i64 p1))]) (fun _ => []) ?_ ?_
    · refine Tr.seq ?_
      refine Tr.region ?_
      refine Tr.val (wn rfl) rfl (fun _ _ h1 h2 => run_move (h1.ev rfl)) ?_
      refine Tr.val (wn rfl) rfl (fun _ _ h1 h2 => run_eql (h1.ev rfl) (h1.ev rfl)) ?_
      refine Tr.val (wn rfl) rfl (fun _ _ h1 h2 => run_move (h1.ev rfl)) ?_
      refine Tr.mid0 5 [(0, (.slice Ap0_0 (p0).length cp0_0)), (1, (.int .i64 p1)), (2, (.int .i64 p2)), (9, (.slice Ay105_0 (y105.1).length cy105_0)), (43, (.bool ((y105.2 == 0) && (decide ((w64 (p1 + p2)) ≤ 100000)))))] [(1, ow Ay100_0 cy100_0 29 fl_TRect y100.1), (2, ow Ay105_0 cy105_0 29 fl_TRect y105.1)] ?_ ?_
      · cases hg135 : (y105.2 == 0)
        · refine Tr.pass rfl rfl rfl rfl rfl (by decide) ?_
          refine Tr.pass rfl rfl rfl rfl rfl (by decide) ?_
          refine Tr.pass rfl rfl rfl rfl rfl (by decide) ?_
          refine Tr.pass rfl rfl rfl rfl rfl (by decide) ?_
          refine Tr.val (wn rfl) rfl (fun _ _ h1 h2 => run_pickF (h1.ev rfl) (h1.ev rfl)) ?_
          exact Tr.nil (Tr.fin0 (.cons rfl (.cons rfl (.cons rfl (.cons rfl (.cons rfl .nil))))) (.cons rfl (.cons rfl .nil)))
        · refine Tr.val (wg rfl rfl rfl) rfl (fun _ _ h1 h2 => run_move (h1.ev rfl)) ?_
          refine Tr.val (wg rfl rfl rfl) rfl (fun _ _ h1 h2 => run_move (h1.ev rfl)) ?_
          refine Tr.val (wg rfl rfl rfl) rfl (fun _ _ h1 h2 => run_add (h1.ev rfl) (h1.ev rfl)) ?_
          refine Tr.val (wg rfl rfl rfl) rfl (fun _ _ h1 h2 => run_leq (h1.ev rfl) (h1.ev rfl)) ?_
          refine Tr.val (wn rfl) rfl (fun _ _ h1 h2 => run_pickT (h1.ev rfl) (h1.ev rfl)) ?_
          exact Tr.nil (Tr.fin0 (.cons rfl (.cons rfl (.cons rfl (.cons rfl (.cons rfl .nil))))) (.cons rfl (.cons rfl .nil)))
      · show Tr _ _ (LF [(0, (.slice Ap0_0 (p0).length cp0_0)), (1, (.int .i64 p1)), (2, (.int .i64 p2)), (9, (.slice Ay105_0 (y105.1).length cy105_0)), (43, (.bool ((y105.2 == 0) && (decide ((w64 (p1 + p2)) ≤ 100000)))))]) (LE [(1, ow Ay100_0 cy100_0 29 fl_TRect y100.1), (2, ow Ay105_0 cy105_0 29 fl_TRect y105.1)]) _
        refine Tr.nil (Tr.normThen ?_)
        refine Tr.cond rfl H (fun H => ?_) (fun H => ?_)
        · refine Tr.seq ?_
          refine Tr.region ?_
          refine Tr.val (wn rfl) rfl (fun _ _ h1 h2 => run_move (h1.ev rfl)) ?_
          refine Tr.val (wn rfl) rfl (fun _ _ h1 h2 => run_move (h1.ev rfl)) ?_
          refine Tr.val (wn rfl) rfl (fun _ _ h1 h2 => run_move (h1.ev rfl)) ?_
          refine Tr.val (wn rfl) rfl (fun _ _ h1 h2 => run_add (h1.ev rfl) (h1.ev rfl)) ?_
          obtain ⟨y131, hy131, H⟩ := bnd H
          refine Tr.callM [6] [emp] (U := (Option Addr × Nat)) (fun u => (.tuple #[(.slice u.1 (y131.1).length u.2), (.int .i64 y131.2)])) (fun u => SlF u.1 (y131.1).length u.2) (fun u => [ow u.1 u.2 29 fl_TRect y131.1]) rfl (pk_cons rfl pk_nil) (fun _ => rfl) (wn rfl) rfl Try.call11 (evl_cons rfl (evl_cons rfl evl_nil)) (fun W hW hp hE => F_shape_Grow_ok N p0 Ap0_0 cp0_0 (hp0_0.ext (hW.extS hp)) (w64 (p1 + p2)) y131 hy131 hE) ?_
          intro u hu
          obtain ⟨Ay131_0, cy131_0⟩ := u
          have gy131_0 := hu
          have hgy131_0 : SlF Ay131_0 (y131.1).length cy131_0 := gy131_0 --@phi
          show Tr _ _ (uf _ 49 (.tuple #[(.slice Ay131_0 (y131.1).length cy131_0), (.int .i64 y131.2)])) (up _ 6 (ow Ay131_0 cy131_0 29 fl_TRect y131.1)) _
          refine Tr.val (wn rfl) rfl (fun _ _ h1 h2 => run_move (h1.ev rfl)) ?_
          refine Tr.val (wn rfl) rfl (fun _ _ h1 h2 => run_extract (h1.ev rfl) rfl) ?_
          refine Tr.val (wn rfl) rfl (fun _ _ h1 h2 => run_extract (h1.ev rfl) rfl) ?_
          refine Tr.val (wn rfl) rfl (fun _ _ h1 h2 => run_assign (h1.ev rfl)) ?_
          refine Tr.val (wn rfl) rfl (fun _ _ h1 h2 => run_assign (h1.ev rfl)) ?_
          refine Tr.nil (Tr.normThen ?_)
          refine Tr.seq ?_
          refine Tr.region ?_
          refine Tr.val (wn rfl) rfl (fun _ _ h1 h2 => run_move (h1.ev rfl)) ?_
          refine Tr.val (wn rfl) rfl (fun _ _ h1 h2 => run_neq (h1.ev rfl) (h1.ev rfl)) ?_
          refine Tr.val (wn rfl) rfl (fun _ _ h1 h2 => run_move (h1.ev rfl)) ?_
          obtain ⟨g134, hg134, H⟩ := bnd H
          refine Tr.mid0 5 [(0, (.slice Ap0_0 (p0).length cp0_0)), (1, (.int .i64 p1)), (59, (.bool g134))] [(1, ow Ay100_0 cy100_0 29 fl_TRect y100.1), (2, ow Ay105_0 cy105_0 29 fl_TRect y105.1), (6, ow Ay131_0 cy131_0 29 fl_TRect y131.1)] ?_ ?_
          · cases hg135 : (y131.2 != 0)
            · rw [hg135] at hg134
              rw [if_neg (by decide)] at hg134
              have H := hg134
              refine Tr.val (wg rfl rfl rfl) rfl (fun _ _ h1 h2 => run_move (h1.ev rfl)) ?_
              refine Tr.val (wg rfl rfl rfl) rfl (fun _ _ h1 h2 => run_move (h1.ev rfl)) ?_
              obtain ⟨y135, hy135, H⟩ := bnd H
              refine Tr.call0 (r := (.bool y135)) (wg rfl rfl rfl) rfl Try.call13 (evl_cons rfl (evl_cons rfl evl_nil)) (fun W hW => F_slices_Equal_Rect_ok y105.1 Ay105_0 cy105_0 (hW.slCall (k := 2) rfl) y131.1 Ay131_0 cy131_0 (hW.slCall (k := 6) rfl) y135 hy135 (HF.start _)) ?_
              refine Tr.val (wg rfl rfl rfl) rfl (fun _ _ h1 h2 => run_not (h1.ev rfl)) ?_
              refine Tr.val (wn rfl) rfl (fun _ _ h1 h2 => run_pickF (h1.ev rfl) (h1.ev rfl)) ?_
              obtain rfl := Option.some.inj H
              exact Tr.nil (Tr.fin0 (.cons rfl (.cons rfl (.cons rfl .nil))) (.cons rfl (.cons rfl (.cons rfl .nil))))
            · rw [hg135] at hg134
              rw [if_pos rfl] at hg134
              have H := hg134
              obtain rfl := Option.some.inj H
              refine Tr.pass rfl rfl rfl rfl rfl (by decide) ?_
              refine Tr.pass rfl rfl rfl rfl rfl (by decide) ?_
              refine Tr.pass rfl rfl rfl rfl rfl (by decide) ?_
              refine Tr.pass rfl rfl rfl rfl rfl (by decide) ?_
              refine Tr.val (wn rfl) rfl (fun _ _ h1 h2 => run_pickT (h1.ev rfl) (h1.ev rfl)) ?_
              exact Tr.nil (Tr.fin0 (.cons rfl (.cons rfl (.cons rfl .nil))) (.cons rfl (.cons rfl (.cons rfl .nil))))
          · show Tr _ _ (LF [(0, (.slice Ap0_0 (p0).length cp0_0)), (1, (.int .i64 p1)), (59, (.bool g134))]) (LE [(1, ow Ay100_0 cy100_0 29 fl_TRect y100.1), (2, ow Ay105_0 cy105_0 29 fl_TRect y105.1), (6, ow Ay131_0 cy131_0 29 fl_TRect y131.1)]) _
            refine Tr.nil (Tr.normThen ?_)
            refine Tr.cond rfl H (fun H => ?_) (fun H => ?_)
            · refine Tr.seq ?_
              refine Tr.region ?_
              refine Tr.val (wn rfl) rfl (fun _ _ h1 h2 => run_assign (h1.ev rfl)) ?_
              refine Tr.nil (Tr.normThen ?_)
              refine Tr.ret (Tr.retThen ?_)
              obtain rfl := Option.some.inj H
              exact Tr.out (m := [(.bool false)]) [] (res_tmp rfl res_nil) (fun W hW => ⟨rfl, hW.low leB⟩)
            · refine Tr.skip ?_
              exact Tr.backThen leJ112 () H (.cons rfl (.cons rfl .nil)) .nil
        · refine Tr.skip ?_
          exact Tr.backThen leJ112 () H (.cons rfl (.cons rfl .nil)) .nil
    · intro w _ hlJ113 hs
      have H := hs
      replace H : F_etchhouselaw1_GrowsAdd_J1 N p0 p1 = some r := H
      replace hp0_0 := hp0_0.leR hlJ113
      replace leB := leB.trans hlJ113
      unfold F_etchhouselaw1_GrowsAdd_J1 at H
      show Tr _ _ (LF [(0, (.slice Ap0_0 (p0).length cp0_0)), (1, (.int .i64 p1))]) (LE []) _
      refine Tr.seq ?_
      refine Tr.region ?_
      refine Tr.val (wn rfl) rfl (fun _ _ h1 h2 => run_move (h1.ev rfl)) ?_
      refine Tr.val (wn rfl) rfl (fun _ _ h1 h2 => run_move (h1.ev rfl)) ?_
      obtain ⟨y114, hy114, H⟩ := bnd H
      refine Tr.callM [4] [emp] (U := (Option Addr × Nat)) (fun u => (.tuple #[(.slice u.1 (y114.1).length u.2), (.int .i64 y114.2)])) (fun u => SlF u.1 (y114.1).length u.2) (fun u => [ow u.1 u.2 29 fl_TRect y114.1]) rfl (pk_cons rfl pk_nil) (fun _ => rfl) (wn rfl) rfl Try.call14 (evl_cons rfl (evl_cons rfl evl_nil)) (fun W hW hp hE => F_shape_Opened_ok N p0 Ap0_0 cp0_0 (hp0_0.ext (hW.extS hp)) p1 y114 hy114 hE) ?_
      intro u hu
      obtain ⟨Ay114_0, cy114_0⟩ := u
      have gy114_0 := hu
      have hgy114_0 : SlF Ay114_0 (y114.1).length cy114_0 := gy114_0 --@phi
      show Tr _ _ (uf _ 63 (.tuple #[(.slice Ay114_0 (y114.1).length cy114_0), (.int .i64 y114.2)])) (up _ 4 (ow Ay114_0 cy114_0 29 fl_TRect y114.1)) _
      refine Tr.val (wn rfl) rfl (fun _ _ h1 h2 => run_move (h1.ev rfl)) ?_
      refine Tr.val (wn rfl) rfl (fun _ _ h1 h2 => run_extract (h1.ev rfl) rfl) ?_
      refine Tr.val (wn rfl) rfl (fun _ _ h1 h2 => run_extract (h1.ev rfl) rfl) ?_
      refine Tr.val (wn rfl) rfl (fun _ _ h1 h2 => run_assign (h1.ev rfl)) ?_
      refine Tr.val (wn rfl) rfl (fun _ _ h1 h2 => run_assign (h1.ev rfl)) ?_
      refine Tr.nil (Tr.normThen ?_)
      refine Tr.seq ?_
      refine Tr.region ?_
      refine Tr.val (wn rfl) rfl (fun _ _ h1 h2 => run_move (h1.ev rfl)) ?_
      refine Tr.val (wn rfl) rfl (fun _ _ h1 h2 => run_move (h1.ev rfl)) ?_
      obtain ⟨y116, hy116, H⟩ := bnd H
      refine Tr.callM [5] [emp] (U := (Option Addr × Nat)) (fun u => (.tuple #[(.slice u.1 (y116.1).length u.2), (.int .i64 y116.2)])) (fun u => SlF u.1 (y116.1).length u.2) (fun u => [ow u.1 u.2 29 fl_TRect y116.1]) rfl (pk_cons rfl pk_nil) (fun _ => rfl) (wn rfl) rfl Try.call15 (evl_cons rfl (evl_cons rfl evl_nil)) (fun W hW hp hE => F_shape_Closed_ok N p0 Ap0_0 cp0_0 (hp0_0.ext (hW.extS hp)) p1 y116 hy116 hE) ?_
      intro u hu
      obtain ⟨Ay116_0, cy116_0⟩ := u
      have gy116_0 := hu
      have hgy116_0 : SlF Ay116_0 (y116.1).length cy116_0 := gy116_0 --@phi
      show Tr _ _ (uf _ 69 (.tuple #[(.slice Ay116_0 (y116.1).length cy116_0), (.int .i64 y116.2)])) (up _ 5 (ow Ay116_0 cy116_0 29 fl_TRect y116.1)) _
      refine Tr.val (wn rfl) rfl (fun _ _ h1 h2 => run_move (h1.ev rfl)) ?_
      refine Tr.val (wn rfl) rfl (fun _ _ h1 h2 => run_extract (h1.ev rfl) rfl) ?_
      refine Tr.val (wn rfl) rfl (fun _ _ h1 h2 => run_extract (h1.ev rfl) rfl) ?_
      refine Tr.val (wn rfl) rfl (fun _ _ h1 h2 => run_assign (h1.ev rfl)) ?_
      refine Tr.val (wn rfl) rfl (fun _ _ h1 h2 => run_assign (h1.ev rfl)) ?_
      refine Tr.nil (Tr.normThen ?_)
      refine Tr.seq ?_
      refine Tr.region ?_
      refine Tr.val (wn rfl) rfl (fun _ _ h1 h2 => run_move (h1.ev rfl)) ?_
      refine Tr.val (wn rfl) rfl (fun _ _ h1 h2 => run_neq (h1.ev rfl) (h1.ev rfl)) ?_
      refine Tr.val (wn rfl) rfl (fun _ _ h1 h2 => run_move (h1.ev rfl)) ?_
      obtain ⟨g119, hg119, H⟩ := bnd H
      refine Tr.mid0 4 [(0, (.slice Ap0_0 (p0).length cp0_0)), (14, (.slice Ay116_0 (y116.1).length cy116_0)), (15, (.int .i64 y116.2)), (78, (.bool g119))] [(4, ow Ay114_0 cy114_0 29 fl_TRect y114.1), (5, ow Ay116_0 cy116_0 29 fl_TRect y116.1)] ?_ ?_
      · cases hg130 : (y114.2 != 0)
        · rw [hg130] at hg119
          rw [if_neg (by decide)] at hg119
          have H := hg119
          refine Tr.val (wg rfl rfl rfl) rfl (fun _ _ h1 h2 => run_move (h1.ev rfl)) ?_
          refine Tr.val (wg rfl rfl rfl) rfl (fun _ _ h1 h2 => run_move (h1.ev rfl)) ?_
          obtain ⟨y120, hy120, H⟩ := bnd H
          refine Tr.call0 (r := (.bool y120)) (wg rfl rfl rfl) rfl Try.call16 (evl_cons rfl (evl_cons rfl evl_nil)) (fun W hW => F_etchhouselaw1_inside_ok N y114.1 Ay114_0 cy114_0 (hW.slCall (k := 4) rfl) p0 Ap0_0 cp0_0 (hp0_0.ext hW.extAll) y120 hy120 (HF.start _)) ?_
          refine Tr.val (wn rfl) rfl (fun _ _ h1 h2 => run_pickF (h1.ev rfl) (h1.ev rfl)) ?_
          obtain rfl := Option.some.inj H
          exact Tr.nil (Tr.fin0 (.cons rfl (.cons rfl (.cons rfl (.cons rfl .nil)))) (.cons rfl (.cons rfl .nil)))
        · rw [hg130] at hg119
          rw [if_pos rfl] at hg119
          have H := hg119
          obtain rfl := Option.some.inj H
          refine Tr.pass rfl rfl rfl rfl rfl (by decide) ?_
          refine Tr.pass rfl rfl rfl rfl rfl (by decide) ?_
          refine Tr.pass rfl rfl rfl rfl rfl (by decide) ?_
          refine Tr.val (wn rfl) rfl (fun _ _ h1 h2 => run_pickT (h1.ev rfl) (h1.ev rfl)) ?_
          exact Tr.nil (Tr.fin0 (.cons rfl (.cons rfl (.cons rfl (.cons rfl .nil)))) (.cons rfl (.cons rfl .nil)))
      · show Tr _ _ (LF [(0, (.slice Ap0_0 (p0).length cp0_0)), (14, (.slice Ay116_0 (y116.1).length cy116_0)), (15, (.int .i64 y116.2)), (78, (.bool g119))]) (LE [(4, ow Ay114_0 cy114_0 29 fl_TRect y114.1), (5, ow Ay116_0 cy116_0 29 fl_TRect y116.1)]) _
        refine Tr.val (wn rfl) rfl (fun _ _ h1 h2 => run_move (h1.ev rfl)) ?_
        obtain ⟨g124, hg124, H⟩ := bnd H
        refine Tr.mid0 8 [(87, (.bool g124))] [(4, ow Ay114_0 cy114_0 29 fl_TRect y114.1), (5, ow Ay116_0 cy116_0 29 fl_TRect y116.1)] ?_ ?_
        · cases hg130 : g119
          · rw [hg130] at hg124
            rw [if_neg (by decide)] at hg124
            have H := hg124
            obtain rfl := Option.some.inj H
            refine Tr.pass rfl rfl rfl rfl rfl (by decide) ?_
            refine Tr.pass rfl rfl rfl rfl rfl (by decide) ?_
            refine Tr.pass rfl rfl rfl rfl rfl (by decide) ?_
            refine Tr.passU rfl rfl rfl rfl (by decide) ?_
            refine Tr.passU rfl rfl rfl rfl (by decide) ?_
            refine Tr.passU rfl rfl rfl rfl (by decide) ?_
            refine Tr.pass rfl rfl rfl rfl rfl (by decide) ?_
            refine Tr.val (wn rfl) rfl (fun _ _ h1 h2 => run_pickF (h1.ev rfl) (h1.ev rfl)) ?_
            exact Tr.nil (Tr.fin0 (.cons rfl .nil) (.cons rfl (.cons rfl .nil)))
          · rw [hg130] at hg124
            rw [if_pos rfl] at hg124
            have H := hg124
            refine Tr.val (wg rfl rfl rfl) rfl (fun _ _ h1 h2 => run_move (h1.ev rfl)) ?_
            refine Tr.val (wg rfl rfl rfl) rfl (fun _ _ h1 h2 => run_neq (h1.ev rfl) (h1.ev rfl)) ?_
            refine Tr.val (wg rfl rfl rfl) rfl (fun _ _ h1 h2 => run_move (h1.ev rfl)) ?_
            obtain ⟨g126, hg126, H⟩ := bnd H
            refine Tr.mid0 4 [(79, (.bool true)), (86, (.bool g126))] [(4, ow Ay114_0 cy114_0 29 fl_TRect y114.1), (5, ow Ay116_0 cy116_0 29 fl_TRect y116.1)] ?_ ?_
            · cases hg127 : (y116.2 != 0)
              · rw [hg127] at hg126
                rw [if_neg (by decide)] at hg126
                have H := hg126
                refine Tr.val (wg rfl rfl rfl) rfl (fun _ _ h1 h2 => run_move (h1.ev rfl)) ?_
                refine Tr.val (wg rfl rfl rfl) rfl (fun _ _ h1 h2 => run_move (h1.ev rfl)) ?_
                obtain ⟨y127, hy127, H⟩ := bnd H
                refine Tr.call0 (r := (.bool y127)) (wg rfl rfl rfl) rfl Try.call16 (evl_cons rfl (evl_cons rfl evl_nil)) (fun W hW => F_etchhouselaw1_inside_ok N p0 Ap0_0 cp0_0 (hp0_0.ext hW.extAll) y116.1 Ay116_0 cy116_0 (hW.slCall (k := 5) rfl) y127 hy127 (HF.start _)) ?_
                refine Tr.val (wg rfl rfl rfl) rfl (fun _ _ h1 h2 => run_pickF (h1.ev rfl) (h1.ev rfl)) ?_
                obtain rfl := Option.some.inj H
                exact Tr.nil (Tr.fin0 (.cons rfl (.cons rfl .nil)) (.cons rfl (.cons rfl .nil)))
              · rw [hg127] at hg126
                rw [if_pos rfl] at hg126
                have H := hg126
                obtain rfl := Option.some.inj H
                refine Tr.pass rfl rfl rfl rfl rfl (by decide) ?_
                refine Tr.pass rfl rfl rfl rfl rfl (by decide) ?_
                refine Tr.pass rfl rfl rfl rfl rfl (by decide) ?_
                refine Tr.val (wg rfl rfl rfl) rfl (fun _ _ h1 h2 => run_pickT (h1.ev rfl) (h1.ev rfl)) ?_
                exact Tr.nil (Tr.fin0 (.cons rfl (.cons rfl .nil)) (.cons rfl (.cons rfl .nil)))
            · show Tr _ _ (LF [(79, (.bool true)), (86, (.bool g126))]) (LE [(4, ow Ay114_0 cy114_0 29 fl_TRect y114.1), (5, ow Ay116_0 cy116_0 29 fl_TRect y116.1)]) _
              refine Tr.val (wn rfl) rfl (fun _ _ h1 h2 => run_pickT (h1.ev rfl) (h1.ev rfl)) ?_
              obtain rfl := Option.some.inj H
              exact Tr.nil (Tr.fin0 (.cons rfl .nil) (.cons rfl (.cons rfl .nil)))
        · show Tr _ _ (LF [(87, (.bool g124))]) (LE [(4, ow Ay114_0 cy114_0 29 fl_TRect y114.1), (5, ow Ay116_0 cy116_0 29 fl_TRect y116.1)]) _
          refine Tr.val (wn rfl) rfl (fun _ _ h1 h2 => run_move (h1.ev rfl)) ?_
          obtain ⟨g129, hg129, H⟩ := bnd H
          refine Tr.mid0 2 [(90, (.bool g129))] [(4, ow Ay114_0 cy114_0 29 fl_TRect y114.1), (5, ow Ay116_0 cy116_0 29 fl_TRect y116.1)] ?_ ?_
          · cases hg130 : g124
            · rw [hg130] at hg129
              rw [if_neg (by decide)] at hg129
              have H := hg129
              obtain rfl := Option.some.inj H
              refine Tr.pass rfl rfl rfl rfl rfl (by decide) ?_
              refine Tr.val (wn rfl) rfl (fun _ _ h1 h2 => run_pickF (h1.ev rfl) (h1.ev rfl)) ?_
              exact Tr.nil (Tr.fin0 (.cons rfl .nil) (.cons rfl (.cons rfl .nil)))
            · rw [hg130] at hg129
              rw [if_pos rfl] at hg129
              have H := hg129
              obtain ⟨y130, hy130, H⟩ := bnd H
              refine Tr.call0 (r := (.bool y130)) (wg rfl rfl rfl) rfl Try.call12 evl_nil (fun W hW => F_etchhouselaw1_awake_ok N y130 hy130 (HF.start _)) ?_
              refine Tr.val (wn rfl) rfl (fun _ _ h1 h2 => run_pickT (h1.ev rfl) (h1.ev rfl)) ?_
              obtain rfl := Option.some.inj H
              exact Tr.nil (Tr.fin0 (.cons rfl .nil) (.cons rfl (.cons rfl .nil)))
          · show Tr _ _ (LF [(90, (.bool g129))]) (LE [(4, ow Ay114_0 cy114_0 29 fl_TRect y114.1), (5, ow Ay116_0 cy116_0 29 fl_TRect y116.1)]) _
            refine Tr.val (wn rfl) rfl (fun _ _ h1 h2 => run_assign (h1.ev rfl)) ?_
            refine Tr.nil (Tr.normThen ?_)
            refine Tr.ret ?_
            obtain rfl := Option.some.inj H
            exact Tr.out (m := [(.bool g129)]) [] (res_tmp rfl res_nil) (fun W hW => ⟨rfl, hW.low leB⟩)

theorem F_shape_Shrink_ok (N : Nat) {w : Bs} (p0 : (List TRect)) (Ap0_0 : Option Addr) (cp0_0 : Nat) (hp0_0 : Sl w.R w.W fl_TRect Ap0_0 cp0_0 p0) (p1 : Int) (r : ((List TRect) × Int)) (H : F_shape_Shrink N p0 p1 = some r) (hE : HF w w.W (LEn [emp])) : Calls Try.prog 17 [(.slice Ap0_0 (p0).length cp0_0), (.int .i64 p1)].toArray w.W fun e W' => ∃ u : (Option Addr × Nat), e = .returned (.tuple #[(.slice u.1 (r.1).length u.2), (.int .i64 r.2)]) ∧ (SlF u.1 (r.1).length u.2) ∧ HF w W' (LEn [ow u.1 u.2 29 fl_TRect r.1]) := by
  unfold F_shape_Shrink at H
  have leB := Bs.Le.refl w
  refine Tr.enter (n := 12) Try.func17 rfl rfl rfl hE ?_
  refine Tr.seq ?_
  refine Tr.region ?_
  refine Tr.val (wn rfl) rfl (fun _ _ h1 h2 => run_assign (h1.ev rfl)) ?_
  refine Tr.nilOwn 1 29 fl_TRect ?_
  show Tr _ _ (uf _ 4 (.slice none (([] : List TRect)).length 0)) _ _
  refine Tr.val (wn rfl) rfl (fun _ _ h1 h2 => run_assign (h1.ev rfl)) ?_
  refine Tr.nil (Tr.normThen ?_)
  refine Tr.seq ?_
  refine Tr.region ?_
  refine Tr.val (wn rfl) rfl (fun _ _ h1 h2 => run_move (h1.ev rfl)) ?_
  refine Tr.val (wn rfl) rfl (fun _ _ h1 h2 => run_move (h1.ev rfl)) ?_
  refine Tr.buildSlice 2 (e := 61) (vs := [(0, (.func (.func 37) #[] #[]))]) (cs := [(.func (.func 37) #[] #[])]) (wn rfl) rfl (evs_cons rfl evs_nil) (by kernel_rfl) fun b100 => ?_
  refine Tr.own 2 fl_func [37] (css := [[(.func (.func 37) #[] #[])]]) rfl (.cons ⟨(), trivial, rfl⟩ .nil) rfl (by decide) (lit_max rfl) ?_
  obtain ⟨y101, hy101, H⟩ := bnd H
  refine Tr.callM [3] [emp] (U := (Option Addr × Nat)) (fun u => (.tuple #[(.slice u.1 (y101.1).length u.2), (.int .i64 y101.2)])) (fun u => SlF u.1 (y101.1).length u.2) (fun u => [ow u.1 u.2 29 fl_TRect y101.1]) rfl (pk_cons rfl pk_nil) (fun _ => rfl) (wn rfl) rfl Try.call34 (evl_cons rfl (evl_cons rfl (evl_cons rfl evl_nil))) (fun W hW hp hE => F_shape_steps_ok N p0 Ap0_0 cp0_0 (hp0_0.ext (hW.extS hp)) p1 [37] (some ⟨b100, 0, none⟩) 1 (hW.slS (k := 2) rfl hp rfl) y101 hy101 hE) ?_
  intro u hu
  obtain ⟨Ay101_0, cy101_0⟩ := u
  have gy101_0 := hu
  have hgy101_0 : SlF Ay101_0 (y101.1).length cy101_0 := gy101_0 --@phi
  show Tr _ _ (uf _ 9 (.tuple #[(.slice Ay101_0 (y101.1).length cy101_0), (.int .i64 y101.2)])) (up _ 3 (ow Ay101_0 cy101_0 29 fl_TRect y101.1)) _
  refine Tr.val (wn rfl) rfl (fun _ _ h1 h2 => run_extract (h1.ev rfl) rfl) ?_
  refine Tr.val (wn rfl) rfl (fun _ _ h1 h2 => run_extract (h1.ev rfl) rfl) ?_
  refine Tr.val (wn rfl) rfl (fun _ _ h1 h2 => run_assign (h1.ev rfl)) ?_
  refine Tr.val (wn rfl) rfl (fun _ _ h1 h2 => run_assign (h1.ev rfl)) ?_
  refine Tr.nil (Tr.normThen ?_)
  refine Tr.ret ?_
  obtain rfl := Option.some.inj H
  exact Tr.out (m := [(.slice Ay101_0 (y101.1).length cy101_0), (.int .i64 y101.2)]) [] (res_tmp rfl (res_tmp rfl res_nil)) (fun W hW => ⟨(Ay101_0, cy101_0), rfl, hgy101_0, HF.lowE leB (hW.pick (ks := [3]) (by decide) (pk_cons rfl pk_nil)) ⟨ow_any _ _ _ _ tr_TRect, trivial⟩⟩)

theorem F_shape_Set__And_1_ok {w : Bs} (p0 : Bool) (p1 : Bool) (r : Bool) (H : F_shape_Set__And_1 p0 p1 = some r) (hE : HF w w.W E0) : Calls Try.prog 79 [(.bool p0), (.bool p1)].toArray w.W fun e W' => e = .returned (.bool r) ∧ HF w W' E0 := by
  unfold F_shape_Set__And_1 at H
  have leB := Bs.Le.refl w
  refine Tr.enter (n := 9) Try.func79 rfl rfl rfl hE ?_
  refine Tr.seq ?_
  refine Tr.region ?_
  refine Tr.val (wn rfl) rfl (fun _ _ h1 h2 => run_assign (h1.ev rfl)) ?_
  refine Tr.nil (Tr.normThen ?_)
  refine Tr.seq ?_
  refine Tr.region ?_
  refine Tr.val (wn rfl) rfl (fun _ _ h1 h2 => run_move (h1.ev rfl)) ?_
  refine Tr.val (wn rfl) rfl (fun _ _ h1 h2 => run_move (h1.ev rfl)) ?_
  refine Tr.mid0 2 [(8, (.bool (p0 && p1)))] [] ?_ ?_
  · cases hg99 : p0
    · refine Tr.pass rfl rfl rfl rfl rfl (by decide) ?_
      refine Tr.val (wn rfl) rfl (fun _ _ h1 h2 => run_pickF (h1.ev rfl) (h1.ev rfl)) ?_
      exact Tr.nil (Tr.fin0 (.cons rfl .nil) .nil)
    · refine Tr.val (wg rfl rfl rfl) rfl (fun _ _ h1 h2 => run_move (h1.ev rfl)) ?_
      refine Tr.val (wn rfl) rfl (fun _ _ h1 h2 => run_pickT (h1.ev rfl) (h1.ev rfl)) ?_
      exact Tr.nil (Tr.fin0 (.cons rfl .nil) .nil)
  · show Tr _ _ (LF [(8, (.bool (p0 && p1)))]) (LE []) _
    refine Tr.val (wn rfl) rfl (fun _ _ h1 h2 => run_assign (h1.ev rfl)) ?_
    refine Tr.nil (Tr.normThen ?_)
    refine Tr.ret ?_
    obtain rfl := Option.some.inj H
    exact Tr.out (m := [(.bool (p0 && p1))]) [] (res_tmp rfl res_nil) (fun W hW => ⟨rfl, hW.low leB⟩)

theorem F_shape_Set__And_ok (N : Nat) {w : Bs} (p0 : (List TBand)) (Ap0_0 : Option Addr) (cp0_0 : Nat) (hp0_0 : Sl w.O w.W fl_TBand Ap0_0 cp0_0 p0) (p1 : (List TBand)) (Ap1_0 : Option Addr) (cp1_0 : Nat) (hp1_0 : Sl w.O w.W fl_TBand Ap1_0 cp1_0 p1) (r : (List TBand)) (H : F_shape_Set__And N p0 p1 = some r) (hE : HF w w.W (LEn [emp])) : Calls Try.prog 43 [(.slice Ap0_0 (p0).length cp0_0), (.slice Ap1_0 (p1).length cp1_0)].toArray w.W fun e W' => ∃ (w' : Bs) (u : (Option Addr × Nat)), w.Le w' ∧ e = .returned (.slice u.1 (r).length u.2) ∧ (SlF u.1 (r).length u.2) ∧ HF w' W' (LEn [ow u.1 u.2 104 fl_TBand r]) := by
  unfold F_shape_Set__And at H
  have leB := Bs.Le.refl w
  refine Tr.enter (n := 8) Try.func43 rfl rfl rfl hE ?_
  refine Tr.seq ?_
  refine Tr.region ?_
  refine Tr.val (wn rfl) rfl (fun _ _ h1 h2 => run_assign (h1.ev rfl)) ?_
  refine Tr.nilOwn 1 104 fl_TBand ?_
  show Tr _ _ (uf _ 4 (.slice none (([] : List TBand)).length 0)) _ _
  refine Tr.nil (Tr.normThen ?_)
  refine Tr.seq ?_
  refine Tr.region ?_
  refine Tr.val (wn rfl) rfl (fun _ _ h1 h2 => run_move (h1.ev rfl)) ?_
  refine Tr.val (wn rfl) rfl (fun _ _ h1 h2 => run_move (h1.ev rfl)) ?_
  obtain ⟨y100, hy100, H⟩ := bnd H
  refine Tr.callG [2] [emp] (U := (Option Addr × Nat)) (fun u => (.slice u.1 (y100).length u.2)) (fun O W u => SlF u.1 (y100).length u.2) (fun u => [ow u.1 u.2 104 fl_TBand y100]) rfl (pk_cons rfl pk_nil) (fun _ => rfl) (wn rfl) rfl Try.call78 (evl_cons rfl (evl_cons rfl (evl_cons rfl evl_nil))) (fun W hW hp hE => F_shape_Merge_ok N p0 Ap0_0 cp0_0 (hp0_0.extO (hW.extS hp)) p1 Ap1_0 cp1_0 (hp1_0.extO (hW.extS hp)) (fun z0 z1 => F_shape_Set__And_1 z0 z1) 79 [] Try.call79 (fun w' he z0 z1 y hy => F_shape_Set__And_1_ok z0 z1 y hy (HF.start _)) y100 hy100 hE) ?_
  intro w u le101 hu
  obtain ⟨Ay100_0, cy100_0⟩ := u
  have gy100_0 := hu
  replace hp0_0 := hp0_0.le le101
  replace hp1_0 := hp1_0.le le101
  replace leB := leB.trans le101
  have hgy100_0 : SlF Ay100_0 (y100).length cy100_0 := gy100_0 --@phi
  show Tr _ _ (uf _ 7 (.slice Ay100_0 (y100).length cy100_0)) (up _ 2 (ow Ay100_0 cy100_0 104 fl_TBand y100)) _
  refine Tr.val (wn rfl) rfl (fun _ _ h1 h2 => run_assign (h1.ev rfl)) ?_
  refine Tr.nil (Tr.normThen ?_)
  refine Tr.ret ?_
  obtain rfl := Option.some.inj H
  exact Tr.out (m := [(.slice Ay100_0 (y100).length cy100_0)]) [] (res_tmp rfl res_nil) (fun W hW => ⟨w, (Ay100_0, cy100_0), leB, rfl, hgy100_0, hW.pick (ks := [2]) (by decide) (pk_cons rfl pk_nil)⟩)

end Go.Proofs.Ytnlhigfglfahiaa
